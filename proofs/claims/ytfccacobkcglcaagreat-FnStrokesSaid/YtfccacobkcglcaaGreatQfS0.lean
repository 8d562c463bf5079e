/- Functions of the program as plain Lean functions, and that the program does what they say. Printed by gen.py. -/
import Derived.Test.YtfccacobkcglcaaGreatQfR0
import Derived.Test.YtfccacobkcglcaaGreatQfR1
namespace Go.Proofs.YtfccacobkcglcaaGreat.X
open Go
set_option maxRecDepth 100000
set_option linter.unusedVariables false
theorem f55_ok (K : Nat) : Sound Tryz.prog 55 (f55M K) :=
  sound_fn (envOK (E := (f55E K)) tab_ok mixed_ok AllOK.nil AllP.nil AllN.nil) Tryz.func55 fun x => f55_run K x.1
theorem f55_runs : Runs Tryz.prog 55 := runsB_ok (by kernel_rfl)
theorem f174_ok (K : Nat) : SoundN Tryz.prog 174 (f174M K) :=
  sound_fnN (envOK (E := (f174E K)) tab_ok mixed_ok AllOK.nil AllP.nil AllN.nil) Tryz.func174 fun x => f174_run K x.1
theorem f174_runs : Runs Tryz.prog 174 := runsB_ok (by kernel_rfl)
theorem f194_ok (K : Nat) : SoundP Tryz.prog 194 (f194M K) :=
  sound_fnP (envOK (E := (f194E K)) tab_ok mixed_ok AllOK.nil AllP.nil AllN.nil) Tryz.func194 fun x => f194_run K x.1 x.2.1
theorem f194_runs : Runs Tryz.prog 194 := runsB_ok (by kernel_rfl)
theorem f142_ok (K : Nat) : Sound Tryz.prog 142 (f142M K) :=
  sound_fn (envOK (E := (f142E K)) tab_ok mixed_ok AllOK.nil AllP.nil AllN.nil) Tryz.func142 fun x => f142_run K 
theorem f142_runs : Runs Tryz.prog 142 := runsB_ok (by kernel_rfl)
theorem f198_ok (K : Nat) : SoundP Tryz.prog 198 (f198M K) :=
  sound_fnP (envOK (E := (f198E K)) tab_ok mixed_ok (AllOK.cons (f142_ok K) f142_runs AllOK.nil) (AllP.cons (f194_ok K) f194_runs AllP.nil) AllN.nil) Tryz.func198 fun x => f198_run K x.1
theorem f198_runs : Runs Tryz.prog 198 := runsB_ok (by kernel_rfl)
theorem f196_ok (K : Nat) : SoundP Tryz.prog 196 (f196M K) :=
  sound_fnP (envOK (E := (f196E K)) tab_ok mixed_ok AllOK.nil (AllP.cons (f194_ok K) f194_runs AllP.nil) AllN.nil) Tryz.func196 fun x => f196_run K x.1 x.2.1
theorem f196_runs : Runs Tryz.prog 196 := runsB_ok (by kernel_rfl)
theorem f182_ok (K : Nat) : SoundP Tryz.prog 182 (f182M K) :=
  sound_fnP (envOK (E := (f182E K)) tab_ok mixed_ok AllOK.nil (AllP.cons (f194_ok K) f194_runs (AllP.cons (f196_ok K) f196_runs AllP.nil)) AllN.nil) Tryz.func182 fun x => f182_run K x.1 x.2.1
theorem f182_runs : Runs Tryz.prog 182 := runsB_ok (by kernel_rfl)
theorem f197_ok (K : Nat) : SoundP Tryz.prog 197 (f197M K) :=
  sound_fnP (envOK (E := (f197E K)) tab_ok mixed_ok AllOK.nil (AllP.cons (f182_ok K) f182_runs (AllP.cons (f194_ok K) f194_runs (AllP.cons (f196_ok K) f196_runs AllP.nil))) AllN.nil) Tryz.func197 fun x => f197_run K x.1 x.2.1
theorem f197_runs : Runs Tryz.prog 197 := runsB_ok (by kernel_rfl)
theorem f193_ok (K : Nat) : SoundP Tryz.prog 193 (f193M K) :=
  sound_fnP (envOK (E := (f193E K)) tab_ok mixed_ok AllOK.nil (AllP.cons (f194_ok K) f194_runs (AllP.cons (f196_ok K) f196_runs (AllP.cons (f197_ok K) f197_runs (AllP.cons (f198_ok K) f198_runs AllP.nil)))) AllN.nil) Tryz.func193 fun x => f193_run K x.1
theorem f193_runs : Runs Tryz.prog 193 := runsB_ok (by kernel_rfl)
theorem f72_ok (K : Nat) : Sound Tryz.prog 72 (f72M K) :=
  sound_fn (envOK (E := (f72E K)) tab_ok mixed_ok AllOK.nil (AllP.cons (f193_ok K) f193_runs AllP.nil) (AllN.cons (f174_ok K) f174_runs AllN.nil)) Tryz.func72 fun x => f72_run K x.1
theorem f72_runs : Runs Tryz.prog 72 := runsB_ok (by kernel_rfl)
theorem f204_ok (K : Nat) : Sound Tryz.prog 204 (f204M K) :=
  sound_fn (envOK (E := (f204E K)) tab_ok mixed_ok AllOK.nil AllP.nil AllN.nil) Tryz.func204 fun x => f204_run K x.1 x.2.1
theorem f204_runs : Runs Tryz.prog 204 := runsB_ok (by kernel_rfl)
theorem f146_ok (K : Nat) : Sound Tryz.prog 146 (f146M K) :=
  sound_fn (envOK (E := (f146E K)) tab_ok mixed_ok AllOK.nil AllP.nil AllN.nil) Tryz.func146 fun x => f146_run K x.1 x.2.1 x.2.2.1
theorem f146_runs : Runs Tryz.prog 146 := runsB_ok (by kernel_rfl)
theorem f231_ok (K : Nat) : Sound Tryz.prog 231 (f231M K) :=
  sound_fn (envOK (E := (f231E K)) tab_ok mixed_ok AllOK.nil AllP.nil AllN.nil) Tryz.func231 fun x => f231_run K 
theorem f231_runs : Runs Tryz.prog 231 := runsB_ok (by kernel_rfl)
theorem f347_ok (K : Nat) : Sound Tryz.prog 347 (f347M K) :=
  sound_fn (envOK (E := (f347E K)) tab_ok mixed_ok AllOK.nil AllP.nil AllN.nil) Tryz.func347 fun x => f347_run K x.1 x.2.1
theorem f347_runs : Runs Tryz.prog 347 := runsB_ok (by kernel_rfl)
theorem f288_ok (K : Nat) : Sound Tryz.prog 288 (f288M K) :=
  sound_fn (envOK (E := (f288E K)) tab_ok mixed_ok AllOK.nil AllP.nil AllN.nil) Tryz.func288 fun x => f288_run K x.1 x.2.1
theorem f288_runs : Runs Tryz.prog 288 := runsB_ok (by kernel_rfl)
theorem f289_ok (K : Nat) : Sound Tryz.prog 289 (f289M K) :=
  sound_fn (envOK (E := (f289E K)) tab_ok mixed_ok AllOK.nil AllP.nil AllN.nil) Tryz.func289 fun x => f289_run K x.1 x.2.1
theorem f289_runs : Runs Tryz.prog 289 := runsB_ok (by kernel_rfl)
theorem f298_ok (K : Nat) : Sound Tryz.prog 298 (f298M K) :=
  sound_fn (envOK (E := (f298E K)) tab_ok mixed_ok (AllOK.cons (f288_ok K) f288_runs (AllOK.cons (f289_ok K) f289_runs (AllOK.cons (f347_ok K) f347_runs AllOK.nil))) AllP.nil AllN.nil) Tryz.func298 fun x => f298_run K x.1 x.2.1
theorem f298_runs : Runs Tryz.prog 298 := runsB_ok (by kernel_rfl)
theorem f260_ok (K : Nat) : Sound Tryz.prog 260 (f260M K) :=
  sound_fn (envOK (E := (f260E K)) tab_ok mixed_ok AllOK.nil AllP.nil AllN.nil) Tryz.func260 fun x => f260_run K x.1 x.2.1
theorem f260_runs : Runs Tryz.prog 260 := runsB_ok (by kernel_rfl)
theorem f161_ok (K : Nat) : Sound Tryz.prog 161 (f161M K) :=
  sound_fn (envOK (E := (f161E K)) tab_ok mixed_ok (AllOK.cons (f260_ok K) f260_runs AllOK.nil) AllP.nil AllN.nil) Tryz.func161 fun x => f161_run K x.1 x.2.1
theorem f161_runs : Runs Tryz.prog 161 := runsB_ok (by kernel_rfl)
theorem f297_ok (K : Nat) : Sound Tryz.prog 297 (f297M K) :=
  sound_fn (envOK (E := (f297E K)) tab_ok mixed_ok (AllOK.cons (f161_ok K) f161_runs AllOK.nil) AllP.nil AllN.nil) Tryz.func297 fun x => f297_run K x.1 x.2.1
theorem f297_runs : Runs Tryz.prog 297 := runsB_ok (by kernel_rfl)
theorem f332_ok (K : Nat) : Sound Tryz.prog 332 (f332M K) :=
  sound_fn (envOK (E := (f332E K)) tab_ok mixed_ok AllOK.nil AllP.nil AllN.nil) Tryz.func332 fun x => f332_run K x.1 x.2.1
theorem f332_runs : Runs Tryz.prog 332 := runsB_ok (by kernel_rfl)
theorem f349_ok (K : Nat) : Sound Tryz.prog 349 (f349M K) :=
  sound_fn (envOK (E := (f349E K)) tab_ok mixed_ok (AllOK.cons (f332_ok K) f332_runs AllOK.nil) AllP.nil AllN.nil) Tryz.func349 fun x => f349_run K x.1 x.2.1
theorem f349_runs : Runs Tryz.prog 349 := runsB_ok (by kernel_rfl)
theorem f269_ok (K : Nat) : Sound Tryz.prog 269 (f269M K) :=
  sound_fn (envOK (E := (f269E K)) tab_ok mixed_ok (AllOK.cons (f332_ok K) f332_runs AllOK.nil) AllP.nil AllN.nil) Tryz.func269 fun x => f269_run K x.1 x.2.1
theorem f269_runs : Runs Tryz.prog 269 := runsB_ok (by kernel_rfl)
theorem f300_ok (K : Nat) : Sound Tryz.prog 300 (f300M K) :=
  sound_fn (envOK (E := (f300E K)) tab_ok mixed_ok (AllOK.cons (f269_ok K) f269_runs (AllOK.cons (f349_ok K) f349_runs AllOK.nil)) AllP.nil AllN.nil) Tryz.func300 fun x => f300_run K x.1 x.2.1
theorem f300_runs : Runs Tryz.prog 300 := runsB_ok (by kernel_rfl)
def f299_ren : Go.Shelf.Ren := ⟨fun | 6 => 299 | 14 => 348 | 15 => 331 | 20 => 389 | 21 => 390 | 22 => 391 | 23 => 392 | 24 => 393 | 25 => 394 | 26 => 395 | 27 => 396 | 28 => 377 | 29 => 378 | 46 => 415 | 47 => 408 | 48 => 409 | 49 => 416 | 50 => 417 | 57 => 420 | n => n, fun | 0 => 0 | 3 => 3 | 4 => 4 | 5 => 5 | 9 => 9 | 22 => 68 | 24 => 95 | 25 => 303 | 39 => 269 | 45 => 357 | 46 => 358 | 50 => 362 | 53 => 329 | 55 => 331 | 66 => 379 | 70 => 383 | 76 => 389 | 77 => 390 | n => n, fun n => n⟩
theorem f299_lays : SlLaysF0.n6 Tryz.prog f299_ren where
  mixed := by kernel_rfl
  f6 := ⟨ "slices.SortFunc[[]loop.example/g00943/impl.Motion,loop.example/g00943/impl.Motion]", by decide, Tryz.func299.trans (congrArg some (by kernel_rfl))⟩
  f14 := ⟨ "slices.pdqsortCmpFunc[loop.example/g00943/impl.Motion]", by decide, Tryz.func348.trans (congrArg some (by kernel_rfl))⟩
  f15 := Tryz.func331.trans (congrArg some (by kernel_rfl))
  f20 := ⟨ "slices.insertionSortCmpFunc[loop.example/g00943/impl.Motion]", by decide, Tryz.func389.trans (congrArg some (by kernel_rfl))⟩
  f21 := ⟨ "slices.heapSortCmpFunc[loop.example/g00943/impl.Motion]", by decide, Tryz.func390.trans (congrArg some (by kernel_rfl))⟩
  f22 := ⟨ "slices.breakPatternsCmpFunc[loop.example/g00943/impl.Motion]", by decide, Tryz.func391.trans (congrArg some (by kernel_rfl))⟩
  f23 := ⟨ "slices.choosePivotCmpFunc[loop.example/g00943/impl.Motion]", by decide, Tryz.func392.trans (congrArg some (by kernel_rfl))⟩
  f24 := ⟨ "slices.reverseRangeCmpFunc[loop.example/g00943/impl.Motion]", by decide, Tryz.func393.trans (congrArg some (by kernel_rfl))⟩
  f25 := ⟨ "slices.partialInsertionSortCmpFunc[loop.example/g00943/impl.Motion]", by decide, Tryz.func394.trans (congrArg some (by kernel_rfl))⟩
  f26 := ⟨ "slices.partitionEqualCmpFunc[loop.example/g00943/impl.Motion]", by decide, Tryz.func395.trans (congrArg some (by kernel_rfl))⟩
  f27 := ⟨ "slices.partitionCmpFunc[loop.example/g00943/impl.Motion]", by decide, Tryz.func396.trans (congrArg some (by kernel_rfl))⟩
  f28 := Tryz.func377.trans (congrArg some (by kernel_rfl))
  f29 := Tryz.func378.trans (congrArg some (by kernel_rfl))
  f46 := ⟨ "slices.siftDownCmpFunc[loop.example/g00943/impl.Motion]", by decide, Tryz.func415.trans (congrArg some (by kernel_rfl))⟩
  f47 := Tryz.func408.trans (congrArg some (by kernel_rfl))
  f48 := Tryz.func409.trans (congrArg some (by kernel_rfl))
  f49 := ⟨ "slices.medianAdjacentCmpFunc[loop.example/g00943/impl.Motion]", by decide, Tryz.func416.trans (congrArg some (by kernel_rfl))⟩
  f50 := ⟨ "slices.medianCmpFunc[loop.example/g00943/impl.Motion]", by decide, Tryz.func417.trans (congrArg some (by kernel_rfl))⟩
  f57 := ⟨ "slices.order2CmpFunc[loop.example/g00943/impl.Motion]", by decide, Tryz.func420.trans (congrArg some (by kernel_rfl))⟩
  t0 := Tryz.underlying0
  a0 := Tryz.isAgg0
  z0 := Tryz.sizeOf0
  v0 := Tryz.zeroValue0
  t3 := Tryz.underlying3
  a3 := Tryz.isAgg3
  z3 := Tryz.sizeOf3
  v3 := Tryz.zeroValue3
  t4 := Tryz.underlying4
  a4 := Tryz.isAgg4
  z4 := Tryz.sizeOf4
  v4 := Tryz.zeroValue4
  t5 := Tryz.underlying5
  a5 := Tryz.isAgg5
  z5 := Tryz.sizeOf5
  v5 := Tryz.zeroValue5
  t9 := Tryz.underlying9
  a9 := Tryz.isAgg9
  z9 := Tryz.sizeOf9
  v9 := Tryz.zeroValue9
  t22 := Tryz.underlying68
  a22 := Tryz.isAgg68
  z22 := Tryz.sizeOf68
  v22 := Tryz.zeroValue68
  t25 := Tryz.underlying303
  a25 := Tryz.isAgg303
  z25 := Tryz.sizeOf303
  v25 := Tryz.zeroValue303
  t39 := Tryz.underlying269
  a39 := Tryz.isAgg269
  z39 := Tryz.sizeOf269
  v39 := Tryz.zeroValue269
  t45 := Tryz.underlying357
  a45 := Tryz.isAgg357
  z45 := Tryz.sizeOf357
  v45 := Tryz.zeroValue357
  t46 := Tryz.underlying358
  a46 := Tryz.isAgg358
  z46 := Tryz.sizeOf358
  v46 := Tryz.zeroValue358
  t50 := Tryz.underlying362
  a50 := Tryz.isAgg362
  z50 := Tryz.sizeOf362
  v50 := Tryz.zeroValue362
  t53 := Tryz.underlying329
  a53 := Tryz.isAgg329
  z53 := Tryz.sizeOf329
  v53 := Tryz.zeroValue329
  t55 := Tryz.underlying331
  a55 := Tryz.isAgg331
  z55 := Tryz.sizeOf331
  v55 := Tryz.zeroValue331
  t66 := Tryz.underlying379
  a66 := Tryz.isAgg379
  z66 := Tryz.sizeOf379
  v66 := Tryz.zeroValue379
  t70 := Tryz.underlying383
  a70 := Tryz.isAgg383
  z70 := Tryz.sizeOf383
  v70 := Tryz.zeroValue383
  t76 := Tryz.underlying389
  a76 := Tryz.isAgg389
  z76 := Tryz.sizeOf389
  v76 := Tryz.zeroValue389
  t77 := Tryz.underlying390
  a77 := Tryz.isAgg390
  z77 := Tryz.sizeOf390
  v77 := Tryz.zeroValue390
theorem f299_ok (K : Nat) : Sound Tryz.prog 299 (f299M K) := sort_sound (e := 95) (s := (.cons (.cons (.int .i64) (.cons (.int .i64) (.cons (.int .i64) (.int .i64)))) (.cons (.int .i64) (.int .i64)))) f299_lays rfl rfl rfl Tryz.isAgg95 Tryz.sizeOf95
theorem f299_runs : Runs Tryz.prog 299 := runsB_ok (by kernel_rfl)
theorem f205_ok (K : Nat) : Sound Tryz.prog 205 (f205M K) :=
  sound_fn (envOK (E := (f205E K)) tab_ok mixed_ok (AllOK.cons (f231_ok K) f231_runs (AllOK.cons (f297_ok K) f297_runs (AllOK.cons (f298_ok K) f298_runs (AllOK.cons (f299_ok K) f299_runs (AllOK.cons (f300_ok K) f300_runs AllOK.nil))))) AllP.nil AllN.nil) Tryz.func205 fun x => f205_run K x.1 x.2.1
theorem f205_runs : Runs Tryz.prog 205 := runsB_ok (by kernel_rfl)
theorem f86_ok (K : Nat) : Sound Tryz.prog 86 (f86M K) :=
  sound_fn (envOK (E := (f86E K)) tab_ok mixed_ok (AllOK.cons (f146_ok K) f146_runs (AllOK.cons (f204_ok K) f204_runs (AllOK.cons (f205_ok K) f205_runs AllOK.nil))) AllP.nil AllN.nil) Tryz.func86 fun x => f86_run K x.1 x.2.1
theorem f86_runs : Runs Tryz.prog 86 := runsB_ok (by kernel_rfl)
theorem f183_ok (K : Nat) : Sound Tryz.prog 183 (f183M K) :=
  sound_fn (envOK (E := (f183E K)) tab_ok mixed_ok (AllOK.cons (f146_ok K) f146_runs AllOK.nil) AllP.nil AllN.nil) Tryz.func183 fun x => f183_run K x.1 x.2.1
theorem f183_runs : Runs Tryz.prog 183 := runsB_ok (by kernel_rfl)
theorem f206_ok (K : Nat) : Sound Tryz.prog 206 (f206M K) :=
  sound_fn (envOK (E := (f206E K)) tab_ok mixed_ok (AllOK.cons (f146_ok K) f146_runs AllOK.nil) AllP.nil AllN.nil) Tryz.func206 fun x => f206_run K x.1
theorem f206_runs : Runs Tryz.prog 206 := runsB_ok (by kernel_rfl)
theorem f320_ok (K : Nat) : Sound Tryz.prog 320 (f320M K) :=
  sound_fn (envOK (E := (f320E K)) tab_ok mixed_ok (AllOK.cons (f183_ok K) f183_runs (AllOK.cons (f206_ok K) f206_runs AllOK.nil)) AllP.nil AllN.nil) Tryz.func320 fun x => f320_run K x.1 x.2.1
theorem f320_runs : Runs Tryz.prog 320 := runsB_ok (by kernel_rfl)
theorem f244_ok (K : Nat) : Sound Tryz.prog 244 (f244M K) :=
  sound_fn (envOK (E := (f244E K)) tab_ok mixed_ok AllOK.nil AllP.nil AllN.nil) Tryz.func244 fun x => f244_run K x.1 x.2.1
theorem f244_runs : Runs Tryz.prog 244 := runsB_ok (by kernel_rfl)
theorem f131_ok (K : Nat) : Sound Tryz.prog 131 (f131M K) :=
  sound_fn (envOK (E := (f131E K)) tab_ok mixed_ok (AllOK.cons (f244_ok K) f244_runs AllOK.nil) AllP.nil AllN.nil) Tryz.func131 fun x => f131_run K x.1 x.2.1
theorem f131_runs : Runs Tryz.prog 131 := runsB_ok (by kernel_rfl)
theorem f240_ok (K : Nat) : Sound Tryz.prog 240 (f240M K) :=
  sound_fn (envOK (E := (f240E K)) tab_ok mixed_ok (AllOK.cons (f131_ok K) f131_runs (AllOK.cons (f320_ok K) f320_runs AllOK.nil)) AllP.nil AllN.nil) Tryz.func240 fun x => f240_run K x.1 x.2.1
theorem f240_runs : Runs Tryz.prog 240 := runsB_ok (by kernel_rfl)
theorem f118_ok (K : Nat) : Sound Tryz.prog 118 (f118M K) :=
  sound_fn (envOK (E := (f118E K)) tab_ok mixed_ok (AllOK.cons (f86_ok K) f86_runs (AllOK.cons (f240_ok K) f240_runs AllOK.nil)) AllP.nil AllN.nil) Tryz.func118 fun x => f118_run K x.1 x.2.1 x.2.2.1
theorem f118_runs : Runs Tryz.prog 118 := runsB_ok (by kernel_rfl)
theorem f238_ok (K : Nat) : Sound Tryz.prog 238 (f238M K) :=
  sound_fn (envOK (E := (f238E K)) tab_ok mixed_ok AllOK.nil AllP.nil AllN.nil) Tryz.func238 fun x => f238_run K x.1
theorem f238_runs : Runs Tryz.prog 238 := runsB_ok (by kernel_rfl)
def f321_ren : Go.Shelf.Ren := ⟨fun | 212 => 321 | 263 => 366 | 264 => 367 | n => n, fun | 46 => 269 | 51 => 329 | 53 => 331 | 146 => 351 | 148 => 353 | n => n, fun n => n⟩
theorem f321_lays : Lays.n212 Tryz.prog f321_ren where
  mixed := by kernel_rfl
  f212 := Tryz.func321.trans (congrArg some (by kernel_rfl))
  f263 := Tryz.func366.trans (congrArg some (by kernel_rfl))
  f264 := Tryz.func367.trans (congrArg some (by kernel_rfl))
  t46 := Tryz.underlying269
  a46 := Tryz.isAgg269
  z46 := Tryz.sizeOf269
  v46 := Tryz.zeroValue269
  t51 := Tryz.underlying329
  a51 := Tryz.isAgg329
  z51 := Tryz.sizeOf329
  v51 := Tryz.zeroValue329
  t53 := Tryz.underlying331
  a53 := Tryz.isAgg331
  z53 := Tryz.sizeOf331
  v53 := Tryz.zeroValue331
  t146 := Tryz.underlying351
  a146 := Tryz.isAgg351
  z146 := Tryz.sizeOf351
  v146 := Tryz.zeroValue351
  t148 := Tryz.underlying353
  a148 := Tryz.isAgg353
  z148 := Tryz.sizeOf353
  v148 := Tryz.zeroValue353
theorem f321_ok (K : Nat) : Sound Tryz.prog 321 (f321M K) := mul_sound f321_lays rfl
theorem f321_runs : Runs Tryz.prog 321 := runsB_ok (by kernel_rfl)
theorem f243_ok (K : Nat) : Sound Tryz.prog 243 (f243M K) :=
  sound_fn (envOK (E := (f243E K)) tab_ok mixed_ok (AllOK.cons (f321_ok K) f321_runs AllOK.nil) AllP.nil AllN.nil) Tryz.func243 fun x => f243_run K x.1 x.2.1
theorem f243_runs : Runs Tryz.prog 243 := runsB_ok (by kernel_rfl)
theorem f207_ok (K : Nat) : Sound Tryz.prog 207 (f207M K) :=
  sound_fn (envOK (E := (f207E K)) tab_ok mixed_ok AllOK.nil AllP.nil AllN.nil) Tryz.func207 fun x => f207_run K x.1
theorem f207_runs : Runs Tryz.prog 207 := runsB_ok (by kernel_rfl)
theorem f130_ok (K : Nat) : Sound Tryz.prog 130 (f130M K) :=
  sound_fn (envOK (E := (f130E K)) tab_ok mixed_ok AllOK.nil AllP.nil AllN.nil) Tryz.func130 fun x => f130_run K x.1 x.2.1
theorem f130_runs : Runs Tryz.prog 130 := runsB_ok (by kernel_rfl)
theorem f191_ok (K : Nat) : Sound Tryz.prog 191 (f191M K) :=
  sound_fn (envOK (E := (f191E K)) tab_ok mixed_ok (AllOK.cons (f288_ok K) f288_runs (AllOK.cons (f289_ok K) f289_runs AllOK.nil)) AllP.nil AllN.nil) Tryz.func191 fun x => f191_run K x.1 x.2.1
theorem f191_runs : Runs Tryz.prog 191 := runsB_ok (by kernel_rfl)
theorem f267_ok (K : Nat) : Sound Tryz.prog 267 (f267M K) :=
  sound_fn (envOK (E := (f267E K)) tab_ok mixed_ok (AllOK.cons (f161_ok K) f161_runs (AllOK.cons (f191_ok K) f191_runs AllOK.nil)) AllP.nil AllN.nil) Tryz.func267 fun x => f267_run K x.1 x.2.1 x.2.2.1
theorem f267_runs : Runs Tryz.prog 267 := runsB_ok (by kernel_rfl)
def f268_ren : Go.Shelf.Ren := ⟨fun | 6 => 268 | 14 => 330 | 15 => 331 | 20 => 369 | 21 => 370 | 22 => 371 | 23 => 372 | 24 => 373 | 25 => 374 | 26 => 375 | 27 => 376 | 28 => 377 | 29 => 378 | 46 => 407 | 47 => 408 | 48 => 409 | 49 => 410 | 50 => 411 | 57 => 418 | n => n, fun | 0 => 0 | 3 => 3 | 4 => 4 | 5 => 5 | 9 => 9 | 22 => 84 | 24 => 79 | 25 => 275 | 39 => 269 | 45 => 357 | 46 => 358 | 50 => 362 | 53 => 329 | 55 => 331 | 66 => 379 | 70 => 383 | 76 => 389 | 77 => 390 | n => n, fun n => n⟩
theorem f268_lays : SlLaysF0.n6 Tryz.prog f268_ren where
  mixed := by kernel_rfl
  f6 := ⟨ "slices.SortFunc[[]loop.example/g00943/impl.Vec,loop.example/g00943/impl.Vec]", by decide, Tryz.func268.trans (congrArg some (by kernel_rfl))⟩
  f14 := ⟨ "slices.pdqsortCmpFunc[loop.example/g00943/impl.Vec]", by decide, Tryz.func330.trans (congrArg some (by kernel_rfl))⟩
  f15 := Tryz.func331.trans (congrArg some (by kernel_rfl))
  f20 := ⟨ "slices.insertionSortCmpFunc[loop.example/g00943/impl.Vec]", by decide, Tryz.func369.trans (congrArg some (by kernel_rfl))⟩
  f21 := ⟨ "slices.heapSortCmpFunc[loop.example/g00943/impl.Vec]", by decide, Tryz.func370.trans (congrArg some (by kernel_rfl))⟩
  f22 := ⟨ "slices.breakPatternsCmpFunc[loop.example/g00943/impl.Vec]", by decide, Tryz.func371.trans (congrArg some (by kernel_rfl))⟩
  f23 := ⟨ "slices.choosePivotCmpFunc[loop.example/g00943/impl.Vec]", by decide, Tryz.func372.trans (congrArg some (by kernel_rfl))⟩
  f24 := ⟨ "slices.reverseRangeCmpFunc[loop.example/g00943/impl.Vec]", by decide, Tryz.func373.trans (congrArg some (by kernel_rfl))⟩
  f25 := ⟨ "slices.partialInsertionSortCmpFunc[loop.example/g00943/impl.Vec]", by decide, Tryz.func374.trans (congrArg some (by kernel_rfl))⟩
  f26 := ⟨ "slices.partitionEqualCmpFunc[loop.example/g00943/impl.Vec]", by decide, Tryz.func375.trans (congrArg some (by kernel_rfl))⟩
  f27 := ⟨ "slices.partitionCmpFunc[loop.example/g00943/impl.Vec]", by decide, Tryz.func376.trans (congrArg some (by kernel_rfl))⟩
  f28 := Tryz.func377.trans (congrArg some (by kernel_rfl))
  f29 := Tryz.func378.trans (congrArg some (by kernel_rfl))
  f46 := ⟨ "slices.siftDownCmpFunc[loop.example/g00943/impl.Vec]", by decide, Tryz.func407.trans (congrArg some (by kernel_rfl))⟩
  f47 := Tryz.func408.trans (congrArg some (by kernel_rfl))
  f48 := Tryz.func409.trans (congrArg some (by kernel_rfl))
  f49 := ⟨ "slices.medianAdjacentCmpFunc[loop.example/g00943/impl.Vec]", by decide, Tryz.func410.trans (congrArg some (by kernel_rfl))⟩
  f50 := ⟨ "slices.medianCmpFunc[loop.example/g00943/impl.Vec]", by decide, Tryz.func411.trans (congrArg some (by kernel_rfl))⟩
  f57 := ⟨ "slices.order2CmpFunc[loop.example/g00943/impl.Vec]", by decide, Tryz.func418.trans (congrArg some (by kernel_rfl))⟩
  t0 := Tryz.underlying0
  a0 := Tryz.isAgg0
  z0 := Tryz.sizeOf0
  v0 := Tryz.zeroValue0
  t3 := Tryz.underlying3
  a3 := Tryz.isAgg3
  z3 := Tryz.sizeOf3
  v3 := Tryz.zeroValue3
  t4 := Tryz.underlying4
  a4 := Tryz.isAgg4
  z4 := Tryz.sizeOf4
  v4 := Tryz.zeroValue4
  t5 := Tryz.underlying5
  a5 := Tryz.isAgg5
  z5 := Tryz.sizeOf5
  v5 := Tryz.zeroValue5
  t9 := Tryz.underlying9
  a9 := Tryz.isAgg9
  z9 := Tryz.sizeOf9
  v9 := Tryz.zeroValue9
  t22 := Tryz.underlying84
  a22 := Tryz.isAgg84
  z22 := Tryz.sizeOf84
  v22 := Tryz.zeroValue84
  t25 := Tryz.underlying275
  a25 := Tryz.isAgg275
  z25 := Tryz.sizeOf275
  v25 := Tryz.zeroValue275
  t39 := Tryz.underlying269
  a39 := Tryz.isAgg269
  z39 := Tryz.sizeOf269
  v39 := Tryz.zeroValue269
  t45 := Tryz.underlying357
  a45 := Tryz.isAgg357
  z45 := Tryz.sizeOf357
  v45 := Tryz.zeroValue357
  t46 := Tryz.underlying358
  a46 := Tryz.isAgg358
  z46 := Tryz.sizeOf358
  v46 := Tryz.zeroValue358
  t50 := Tryz.underlying362
  a50 := Tryz.isAgg362
  z50 := Tryz.sizeOf362
  v50 := Tryz.zeroValue362
  t53 := Tryz.underlying329
  a53 := Tryz.isAgg329
  z53 := Tryz.sizeOf329
  v53 := Tryz.zeroValue329
  t55 := Tryz.underlying331
  a55 := Tryz.isAgg331
  z55 := Tryz.sizeOf331
  v55 := Tryz.zeroValue331
  t66 := Tryz.underlying379
  a66 := Tryz.isAgg379
  z66 := Tryz.sizeOf379
  v66 := Tryz.zeroValue379
  t70 := Tryz.underlying383
  a70 := Tryz.isAgg383
  z70 := Tryz.sizeOf383
  v70 := Tryz.zeroValue383
  t76 := Tryz.underlying389
  a76 := Tryz.isAgg389
  z76 := Tryz.sizeOf389
  v76 := Tryz.zeroValue389
  t77 := Tryz.underlying390
  a77 := Tryz.isAgg390
  z77 := Tryz.sizeOf390
  v77 := Tryz.zeroValue390
theorem f268_ok (K : Nat) : Sound Tryz.prog 268 (f268M K) := sort_sound (e := 79) (s := (.cons (.int .i64) (.int .i64))) f268_lays rfl rfl rfl Tryz.isAgg79 Tryz.sizeOf79
theorem f268_runs : Runs Tryz.prog 268 := runsB_ok (by kernel_rfl)
theorem f270_ok (K : Nat) : Sound Tryz.prog 270 (f270M K) :=
  sound_fn (envOK (E := (f270E K)) tab_ok mixed_ok AllOK.nil AllP.nil AllN.nil) Tryz.func270 fun x => f270_run K x.1
theorem f270_runs : Runs Tryz.prog 270 := runsB_ok (by kernel_rfl)
theorem f171_ok (K : Nat) : Sound Tryz.prog 171 (f171M K) :=
  sound_fn (envOK (E := (f171E K)) tab_ok mixed_ok (AllOK.cons (f267_ok K) f267_runs (AllOK.cons (f268_ok K) f268_runs (AllOK.cons (f269_ok K) f269_runs (AllOK.cons (f270_ok K) f270_runs AllOK.nil)))) AllP.nil AllN.nil) Tryz.func171 fun x => f171_run K x.1 x.2.1 x.2.2.1
theorem f171_runs : Runs Tryz.prog 171 := runsB_ok (by kernel_rfl)
theorem f128_ok (K : Nat) : Sound Tryz.prog 128 (f128M K) :=
  sound_fn (envOK (E := (f128E K)) tab_ok mixed_ok (AllOK.cons (f130_ok K) f130_runs (AllOK.cons (f171_ok K) f171_runs (AllOK.cons (f207_ok K) f207_runs (AllOK.cons (f238_ok K) f238_runs (AllOK.cons (f243_ok K) f243_runs AllOK.nil))))) AllP.nil AllN.nil) Tryz.func128 fun x => f128_run K x.1 x.2.1
theorem f128_runs : Runs Tryz.prog 128 := runsB_ok (by kernel_rfl)
theorem f129_ok (K : Nat) : Sound Tryz.prog 129 (f129M K) :=
  sound_fn (envOK (E := (f129E K)) tab_ok mixed_ok (AllOK.cons (f130_ok K) f130_runs AllOK.nil) AllP.nil AllN.nil) Tryz.func129 fun x => f129_run K x.1 x.2.1 x.2.2.1 x.2.2.2.1
theorem f129_runs : Runs Tryz.prog 129 := runsB_ok (by kernel_rfl)
theorem f27_ok (K : Nat) : Sound Tryz.prog 27 (f27M K) :=
  sound_fn (envOK (E := (f27E K)) tab_ok mixed_ok (AllOK.cons (f118_ok K) f118_runs (AllOK.cons (f128_ok K) f128_runs (AllOK.cons (f129_ok K) f129_runs (AllOK.cons (f131_ok K) f131_runs AllOK.nil)))) AllP.nil AllN.nil) Tryz.func27 fun x => f27_run K x.1 x.2.1 x.2.2.1
theorem f27_runs : Runs Tryz.prog 27 := runsB_ok (by kernel_rfl)
theorem f252_ok (K : Nat) : Sound Tryz.prog 252 (f252M K) :=
  sound_fn (envOK (E := (f252E K)) tab_ok mixed_ok AllOK.nil AllP.nil AllN.nil) Tryz.func252 fun x => f252_run K x.1 x.2.1
theorem f252_runs : Runs Tryz.prog 252 := runsB_ok (by kernel_rfl)
theorem f141_ok (K : Nat) : Sound Tryz.prog 141 (f141M K) :=
  sound_fn (envOK (E := (f141E K)) tab_ok mixed_ok AllOK.nil AllP.nil AllN.nil) Tryz.func141 fun x => f141_run K x.1 x.2.1 x.2.2.1
theorem f141_runs : Runs Tryz.prog 141 := runsB_ok (by kernel_rfl)
theorem f233_ok (K : Nat) : Sound Tryz.prog 233 (f233M K) :=
  sound_fn (envOK (E := (f233E K)) tab_ok mixed_ok AllOK.nil AllP.nil AllN.nil) Tryz.func233 fun x => f233_run K 
theorem f233_runs : Runs Tryz.prog 233 := runsB_ok (by kernel_rfl)
theorem f306_ok (K : Nat) : Sound Tryz.prog 306 (f306M K) :=
  sound_fn (envOK (E := (f306E K)) tab_ok mixed_ok (AllOK.cons (f233_ok K) f233_runs AllOK.nil) AllP.nil AllN.nil) Tryz.func306 fun x => f306_run K 
theorem f306_runs : Runs Tryz.prog 306 := runsB_ok (by kernel_rfl)
theorem f351_ok (K : Nat) : Sound Tryz.prog 351 (f351M K) :=
  sound_fn (envOK (E := (f351E K)) tab_ok mixed_ok AllOK.nil AllP.nil AllN.nil) Tryz.func351 fun x => f351_run K x.1 x.2.1
theorem f351_runs : Runs Tryz.prog 351 := runsB_ok (by kernel_rfl)
theorem f341_ok (K : Nat) : Sound Tryz.prog 341 (f341M K) :=
  sound_fn (envOK (E := (f341E K)) tab_ok mixed_ok AllOK.nil AllP.nil AllN.nil) Tryz.func341 fun x => f341_run K x.1 x.2.1
theorem f341_runs : Runs Tryz.prog 341 := runsB_ok (by kernel_rfl)
theorem f340_ok (K : Nat) : Sound Tryz.prog 340 (f340M K) :=
  sound_fn (envOK (E := (f340E K)) tab_ok mixed_ok AllOK.nil AllP.nil AllN.nil) Tryz.func340 fun x => f340_run K x.1 x.2.1
theorem f340_runs : Runs Tryz.prog 340 := runsB_ok (by kernel_rfl)
theorem f307_ok (K : Nat) : Sound Tryz.prog 307 (f307M K) :=
  sound_fn (envOK (E := (f307E K)) tab_ok mixed_ok (AllOK.cons (f340_ok K) f340_runs (AllOK.cons (f341_ok K) f341_runs (AllOK.cons (f351_ok K) f351_runs AllOK.nil))) AllP.nil AllN.nil) Tryz.func307 fun x => f307_run K x.1 x.2.1
theorem f307_runs : Runs Tryz.prog 307 := runsB_ok (by kernel_rfl)
theorem f255_ok (K : Nat) : Sound Tryz.prog 255 (f255M K) :=
  sound_fn (envOK (E := (f255E K)) tab_ok mixed_ok AllOK.nil AllP.nil AllN.nil) Tryz.func255 fun x => f255_run K x.1 x.2.1
theorem f255_runs : Runs Tryz.prog 255 := runsB_ok (by kernel_rfl)
theorem f153_ok (K : Nat) : Sound Tryz.prog 153 (f153M K) :=
  sound_fn (envOK (E := (f153E K)) tab_ok mixed_ok (AllOK.cons (f255_ok K) f255_runs AllOK.nil) AllP.nil AllN.nil) Tryz.func153 fun x => f153_run K x.1 x.2.1
theorem f153_runs : Runs Tryz.prog 153 := runsB_ok (by kernel_rfl)
theorem f303_ok (K : Nat) : Sound Tryz.prog 303 (f303M K) :=
  sound_fn (envOK (E := (f303E K)) tab_ok mixed_ok (AllOK.cons (f153_ok K) f153_runs AllOK.nil) AllP.nil AllN.nil) Tryz.func303 fun x => f303_run K x.1 x.2.1
theorem f303_runs : Runs Tryz.prog 303 := runsB_ok (by kernel_rfl)
theorem f398_ok (K : Nat) : Sound Tryz.prog 398 (f398M K) :=
  sound_fn (envOK (E := (f398E K)) tab_ok mixed_ok AllOK.nil AllP.nil AllN.nil) Tryz.func398 fun x => f398_run K x.1
theorem f398_runs : Runs Tryz.prog 398 := runsB_ok (by kernel_rfl)
theorem f397_ok (K : Nat) : Sound Tryz.prog 397 (f397M K) :=
  sound_fn (envOK (E := (f397E K)) tab_ok mixed_ok AllOK.nil AllP.nil AllN.nil) Tryz.func397 fun x => f397_run K x.1 x.2.1
theorem f397_runs : Runs Tryz.prog 397 := runsB_ok (by kernel_rfl)
theorem f350_ok (K : Nat) : Sound Tryz.prog 350 (f350M K) :=
  sound_fn (envOK (E := (f350E K)) tab_ok mixed_ok (AllOK.cons (f397_ok K) f397_runs (AllOK.cons (f398_ok K) f398_runs AllOK.nil)) AllP.nil AllN.nil) Tryz.func350 fun x => f350_run K x.1 x.2.1
theorem f350_runs : Runs Tryz.prog 350 := runsB_ok (by kernel_rfl)
theorem f339_ok (K : Nat) : Sound Tryz.prog 339 (f339M K) :=
  sound_fn (envOK (E := (f339E K)) tab_ok mixed_ok AllOK.nil AllP.nil AllN.nil) Tryz.func339 fun x => f339_run K x.1 x.2.1
theorem f339_runs : Runs Tryz.prog 339 := runsB_ok (by kernel_rfl)
theorem f304_ok (K : Nat) : Sound Tryz.prog 304 (f304M K) :=
  sound_fn (envOK (E := (f304E K)) tab_ok mixed_ok (AllOK.cons (f339_ok K) f339_runs (AllOK.cons (f350_ok K) f350_runs AllOK.nil)) AllP.nil AllN.nil) Tryz.func304 fun x => f304_run K x.1 x.2.1
theorem f304_runs : Runs Tryz.prog 304 := runsB_ok (by kernel_rfl)
theorem f328_ok (K : Nat) : Sound Tryz.prog 328 (f328M K) :=
  sound_fn (envOK (E := (f328E K)) tab_ok mixed_ok (AllOK.cons (f304_ok K) f304_runs AllOK.nil) AllP.nil AllN.nil) Tryz.func328 fun x => f328_run K x.1 x.2.1
theorem f328_runs : Runs Tryz.prog 328 := runsB_ok (by kernel_rfl)
theorem f305_ok (K : Nat) : Sound Tryz.prog 305 (f305M K) :=
  sound_fn (envOK (E := (f305E K)) tab_ok mixed_ok (AllOK.cons (f328_ok K) f328_runs AllOK.nil) AllP.nil AllN.nil) Tryz.func305 fun x => f305_run K x.1 x.2.1
theorem f305_runs : Runs Tryz.prog 305 := runsB_ok (by kernel_rfl)
theorem f324_ok (K : Nat) : Sound Tryz.prog 324 (f324M K) :=
  sound_fn (envOK (E := (f324E K)) tab_ok mixed_ok (AllOK.cons (f328_ok K) f328_runs AllOK.nil) AllP.nil AllN.nil) Tryz.func324 fun x => f324_run K x.1 x.2.1
theorem f324_runs : Runs Tryz.prog 324 := runsB_ok (by kernel_rfl)
theorem f253_ok (K : Nat) : Sound Tryz.prog 253 (f253M K) :=
  sound_fn (envOK (E := (f253E K)) tab_ok mixed_ok (AllOK.cons (f303_ok K) f303_runs (AllOK.cons (f305_ok K) f305_runs (AllOK.cons (f306_ok K) f306_runs (AllOK.cons (f307_ok K) f307_runs (AllOK.cons (f324_ok K) f324_runs AllOK.nil))))) AllP.nil AllN.nil) Tryz.func253 fun x => f253_run K x.1 x.2.1
theorem f253_runs : Runs Tryz.prog 253 := runsB_ok (by kernel_rfl)
theorem f143_ok (K : Nat) : Sound Tryz.prog 143 (f143M K) :=
  sound_fn (envOK (E := (f143E K)) tab_ok mixed_ok (AllOK.cons (f141_ok K) f141_runs (AllOK.cons (f252_ok K) f252_runs (AllOK.cons (f253_ok K) f253_runs AllOK.nil))) AllP.nil AllN.nil) Tryz.func143 fun x => f143_run K x.1 x.2.1
theorem f143_runs : Runs Tryz.prog 143 := runsB_ok (by kernel_rfl)
theorem f113_ok (K : Nat) : Sound Tryz.prog 113 (f113M K) :=
  sound_fn (envOK (E := (f113E K)) tab_ok mixed_ok (AllOK.cons (f143_ok K) f143_runs AllOK.nil) AllP.nil AllN.nil) Tryz.func113 fun x => f113_run K x.1 x.2.1
theorem f113_runs : Runs Tryz.prog 113 := runsB_ok (by kernel_rfl)
theorem f167_ok (K : Nat) : Sound Tryz.prog 167 (f167M K) :=
  sound_fn (envOK (E := (f167E K)) tab_ok mixed_ok (AllOK.cons (f141_ok K) f141_runs AllOK.nil) AllP.nil AllN.nil) Tryz.func167 fun x => f167_run K x.1 x.2.1
theorem f167_runs : Runs Tryz.prog 167 := runsB_ok (by kernel_rfl)
theorem f114_ok (K : Nat) : Sound Tryz.prog 114 (f114M K) :=
  sound_fn (envOK (E := (f114E K)) tab_ok mixed_ok (AllOK.cons (f141_ok K) f141_runs (AllOK.cons (f167_ok K) f167_runs AllOK.nil)) AllP.nil AllN.nil) Tryz.func114 fun x => f114_run K x.1 x.2.1
theorem f114_runs : Runs Tryz.prog 114 := runsB_ok (by kernel_rfl)
theorem f232_ok (K : Nat) : Sound Tryz.prog 232 (f232M K) :=
  sound_fn (envOK (E := (f232E K)) tab_ok mixed_ok AllOK.nil AllP.nil AllN.nil) Tryz.func232 fun x => f232_run K x.1
theorem f232_runs : Runs Tryz.prog 232 := runsB_ok (by kernel_rfl)
theorem f284_ok (K : Nat) : Sound Tryz.prog 284 (f284M K) :=
  sound_fn (envOK (E := (f284E K)) tab_ok mixed_ok (AllOK.cons (f340_ok K) f340_runs (AllOK.cons (f341_ok K) f341_runs AllOK.nil)) AllP.nil AllN.nil) Tryz.func284 fun x => f284_run K x.1 x.2.1
theorem f284_runs : Runs Tryz.prog 284 := runsB_ok (by kernel_rfl)
theorem f185_ok (K : Nat) : Sound Tryz.prog 185 (f185M K) :=
  sound_fn (envOK (E := (f185E K)) tab_ok mixed_ok (AllOK.cons (f153_ok K) f153_runs (AllOK.cons (f284_ok K) f284_runs AllOK.nil)) AllP.nil AllN.nil) Tryz.func185 fun x => f185_run K x.1 x.2.1 x.2.2.1
theorem f185_runs : Runs Tryz.prog 185 := runsB_ok (by kernel_rfl)
theorem f280_ok (K : Nat) : Sound Tryz.prog 280 (f280M K) :=
  sound_fn (envOK (E := (f280E K)) tab_ok mixed_ok (AllOK.cons (f339_ok K) f339_runs AllOK.nil) AllP.nil AllN.nil) Tryz.func280 fun x => f280_run K x.1 x.2.1
theorem f280_runs : Runs Tryz.prog 280 := runsB_ok (by kernel_rfl)
theorem f247_ok (K : Nat) : Sound Tryz.prog 247 (f247M K) :=
  sound_fn (envOK (E := (f247E K)) tab_ok mixed_ok (AllOK.cons (f185_ok K) f185_runs (AllOK.cons (f280_ok K) f280_runs AllOK.nil)) AllP.nil AllN.nil) Tryz.func247 fun x => f247_run K x.1 x.2.1 x.2.2.1
theorem f247_runs : Runs Tryz.prog 247 := runsB_ok (by kernel_rfl)
theorem f135_ok (K : Nat) : Sound Tryz.prog 135 (f135M K) :=
  sound_fn (envOK (E := (f135E K)) tab_ok mixed_ok (AllOK.cons (f232_ok K) f232_runs (AllOK.cons (f247_ok K) f247_runs AllOK.nil)) AllP.nil AllN.nil) Tryz.func135 fun x => f135_run K x.1 x.2.1
theorem f135_runs : Runs Tryz.prog 135 := runsB_ok (by kernel_rfl)
theorem f127_ok (K : Nat) : Sound Tryz.prog 127 (f127M K) :=
  sound_fn (envOK (E := (f127E K)) tab_ok mixed_ok (AllOK.cons (f153_ok K) f153_runs AllOK.nil) AllP.nil AllN.nil) Tryz.func127 fun x => f127_run K x.1 x.2.1
theorem f127_runs : Runs Tryz.prog 127 := runsB_ok (by kernel_rfl)
theorem f126_ok (K : Nat) : Sound Tryz.prog 126 (f126M K) :=
  sound_fn (envOK (E := (f126E K)) tab_ok mixed_ok (AllOK.cons (f127_ok K) f127_runs (AllOK.cons (f135_ok K) f135_runs AllOK.nil)) AllP.nil AllN.nil) Tryz.func126 fun x => f126_run K x.1 x.2.1
theorem f126_runs : Runs Tryz.prog 126 := runsB_ok (by kernel_rfl)
theorem f26_ok (K : Nat) : Sound Tryz.prog 26 (f26M K) :=
  sound_fn (envOK (E := (f26E K)) tab_ok mixed_ok (AllOK.cons (f113_ok K) f113_runs (AllOK.cons (f114_ok K) f114_runs (AllOK.cons (f126_ok K) f126_runs (AllOK.cons (f127_ok K) f127_runs AllOK.nil)))) AllP.nil AllN.nil) Tryz.func26 fun x => f26_run K x.1 x.2.1 x.2.2.1
theorem f26_runs : Runs Tryz.prog 26 := runsB_ok (by kernel_rfl)
theorem f177_ok (K : Nat) : Sound Tryz.prog 177 (f177M K) :=
  sound_fn (envOK (E := (f177E K)) tab_ok mixed_ok (AllOK.cons (f130_ok K) f130_runs (AllOK.cons (f238_ok K) f238_runs AllOK.nil)) AllP.nil AllN.nil) Tryz.func177 fun x => f177_run K x.1 x.2.1 x.2.2.1 x.2.2.2.1
theorem f177_runs : Runs Tryz.prog 177 := runsB_ok (by kernel_rfl)
theorem f120_ok (K : Nat) : Sound Tryz.prog 120 (f120M K) :=
  sound_fn (envOK (E := (f120E K)) tab_ok mixed_ok (AllOK.cons (f130_ok K) f130_runs (AllOK.cons (f171_ok K) f171_runs (AllOK.cons (f177_ok K) f177_runs AllOK.nil))) AllP.nil AllN.nil) Tryz.func120 fun x => f120_run K x.1 x.2.1 x.2.2.1 x.2.2.2.1
theorem f120_runs : Runs Tryz.prog 120 := runsB_ok (by kernel_rfl)
theorem f21_ok (K : Nat) : Sound Tryz.prog 21 (f21M K) :=
  sound_fn (envOK (E := (f21E K)) tab_ok mixed_ok (AllOK.cons (f118_ok K) f118_runs (AllOK.cons (f120_ok K) f120_runs AllOK.nil)) AllP.nil AllN.nil) Tryz.func21 fun x => f21_run K x.1 x.2.1 x.2.2.1
theorem f21_runs : Runs Tryz.prog 21 := runsB_ok (by kernel_rfl)
theorem f116_ok (K : Nat) : Sound Tryz.prog 116 (f116M K) :=
  sound_fn (envOK (E := (f116E K)) tab_ok mixed_ok (AllOK.cons (f126_ok K) f126_runs (AllOK.cons (f127_ok K) f127_runs AllOK.nil)) AllP.nil AllN.nil) Tryz.func116 fun x => f116_run K x.1 x.2.1 x.2.2.1 x.2.2.2.1
theorem f116_runs : Runs Tryz.prog 116 := runsB_ok (by kernel_rfl)
theorem f20_ok (K : Nat) : Sound Tryz.prog 20 (f20M K) :=
  sound_fn (envOK (E := (f20E K)) tab_ok mixed_ok (AllOK.cons (f113_ok K) f113_runs (AllOK.cons (f114_ok K) f114_runs (AllOK.cons (f116_ok K) f116_runs AllOK.nil))) AllP.nil AllN.nil) Tryz.func20 fun x => f20_run K x.1 x.2.1 x.2.2.1
theorem f20_runs : Runs Tryz.prog 20 := runsB_ok (by kernel_rfl)
theorem f314_ok (K : Nat) : SoundP Tryz.prog 314 (f314M K) :=
  sound_fnP (envOK (E := (f314E K)) tab_ok mixed_ok AllOK.nil (AllP.cons (f194_ok K) f194_runs (AllP.cons (f196_ok K) f196_runs AllP.nil)) AllN.nil) Tryz.func314 fun x => f314_run K x.1
theorem f314_runs : Runs Tryz.prog 314 := runsB_ok (by kernel_rfl)
theorem f315_ok (K : Nat) : SoundP Tryz.prog 315 (f315M K) :=
  sound_fnP (envOK (E := (f315E K)) tab_ok mixed_ok AllOK.nil (AllP.cons (f194_ok K) f194_runs (AllP.cons (f196_ok K) f196_runs AllP.nil)) AllN.nil) Tryz.func315 fun x => f315_run K x.1
theorem f315_runs : Runs Tryz.prog 315 := runsB_ok (by kernel_rfl)
theorem f227_ok (K : Nat) : SoundP Tryz.prog 227 (f227M K) :=
  sound_fnP (envOK (E := (f227E K)) tab_ok mixed_ok AllOK.nil (AllP.cons (f194_ok K) f194_runs (AllP.cons (f314_ok K) f314_runs (AllP.cons (f315_ok K) f315_runs AllP.nil))) AllN.nil) Tryz.func227 fun x => f227_run K x.1
theorem f227_runs : Runs Tryz.prog 227 := runsB_ok (by kernel_rfl)
theorem f316_ok (K : Nat) : Sound Tryz.prog 316 (f316M K) :=
  sound_fn (envOK (E := (f316E K)) tab_ok mixed_ok AllOK.nil AllP.nil AllN.nil) Tryz.func316 fun x => f316_run K x.1
theorem f316_runs : Runs Tryz.prog 316 := runsB_ok (by kernel_rfl)
theorem f317_ok (K : Nat) : Sound Tryz.prog 317 (f317M K) :=
  sound_fn (envOK (E := (f317E K)) tab_ok mixed_ok (AllOK.cons (f141_ok K) f141_runs AllOK.nil) AllP.nil AllN.nil) Tryz.func317 fun x => f317_run K x.1
theorem f317_runs : Runs Tryz.prog 317 := runsB_ok (by kernel_rfl)
theorem f229_ok (K : Nat) : Sound Tryz.prog 229 (f229M K) :=
  sound_fn (envOK (E := (f229E K)) tab_ok mixed_ok (AllOK.cons (f316_ok K) f316_runs (AllOK.cons (f317_ok K) f317_runs AllOK.nil)) AllP.nil AllN.nil) Tryz.func229 fun x => f229_run K x.1 x.2.1
theorem f229_runs : Runs Tryz.prog 229 := runsB_ok (by kernel_rfl)
theorem f404_ok (K : Nat) : Sound Tryz.prog 404 (f404M K) :=
  sound_fn (envOK (E := (f404E K)) tab_ok mixed_ok AllOK.nil AllP.nil AllN.nil) Tryz.func404 fun x => f404_run K x.1 x.2.1
theorem f404_runs : Runs Tryz.prog 404 := runsB_ok (by kernel_rfl)
theorem f362_ok (K : Nat) : Sound Tryz.prog 362 (f362M K) :=
  sound_fn (envOK (E := (f362E K)) tab_ok mixed_ok (AllOK.cons (f340_ok K) f340_runs (AllOK.cons (f404_ok K) f404_runs AllOK.nil)) AllP.nil AllN.nil) Tryz.func362 fun x => f362_run K x.1 x.2.1
theorem f362_runs : Runs Tryz.prog 362 := runsB_ok (by kernel_rfl)
theorem f365_ok (K : Nat) : Sound Tryz.prog 365 (f365M K) :=
  sound_fn (envOK (E := (f365E K)) tab_ok mixed_ok (AllOK.cons (f362_ok K) f362_runs AllOK.nil) AllP.nil AllN.nil) Tryz.func365 fun x => f365_run K x.1
theorem f365_runs : Runs Tryz.prog 365 := runsB_ok (by kernel_rfl)
theorem f363_ok (K : Nat) : Sound Tryz.prog 363 (f363M K) :=
  sound_fn (envOK (E := (f363E K)) tab_ok mixed_ok AllOK.nil AllP.nil AllN.nil) Tryz.func363 fun x => f363_run K x.1
theorem f363_runs : Runs Tryz.prog 363 := runsB_ok (by kernel_rfl)
theorem f405_runs : Runs Tryz.prog 405 := runsB_ok (by kernel_rfl)
theorem f405_okn (K : Nat) : ∀ n, Sound Tryz.prog 405 ⟨[(.ro, (.int .i64)), (.ro, (.int .i64))], [(.int .i64)], fun x => f405R K n x.1 x.2.1⟩
  | 0 => fun _ _ _ _ _ _ _ h => by cases h
  | n + 1 => sound_fn (envOK (E := f405E K (f405R K n)) tab_ok mixed_ok (AllOK.cons (f405_okn K n) f405_runs AllOK.nil) AllP.nil AllN.nil) Tryz.func405 fun x => f405_run K (f405R K n) x.1 x.2.1
theorem f405_ok (K : Nat) : Sound Tryz.prog 405 (f405M K) := f405_okn K K
theorem f406_ok (K : Nat) : Sound Tryz.prog 406 (f406M K) :=
  sound_fn (envOK (E := (f406E K)) tab_ok mixed_ok AllOK.nil AllP.nil AllN.nil) Tryz.func406 fun x => f406_run K x.1 x.2.1
theorem f406_runs : Runs Tryz.prog 406 := runsB_ok (by kernel_rfl)
theorem f364_ok (K : Nat) : Sound Tryz.prog 364 (f364M K) :=
  sound_fn (envOK (E := (f364E K)) tab_ok mixed_ok (AllOK.cons (f255_ok K) f255_runs (AllOK.cons (f405_ok K) f405_runs (AllOK.cons (f406_ok K) f406_runs AllOK.nil))) AllP.nil AllN.nil) Tryz.func364 fun x => f364_run K x.1
theorem f364_runs : Runs Tryz.prog 364 := runsB_ok (by kernel_rfl)
theorem f313_ok (K : Nat) : Sound Tryz.prog 313 (f313M K) :=
  sound_fn (envOK (E := (f313E K)) tab_ok mixed_ok (AllOK.cons (f341_ok K) f341_runs (AllOK.cons (f363_ok K) f363_runs (AllOK.cons (f364_ok K) f364_runs AllOK.nil))) AllP.nil AllN.nil) Tryz.func313 fun x => f313_run K x.1 x.2.1
theorem f313_runs : Runs Tryz.prog 313 := runsB_ok (by kernel_rfl)
theorem f318_ok (K : Nat) : Sound Tryz.prog 318 (f318M K) :=
  sound_fn (envOK (E := (f318E K)) tab_ok mixed_ok (AllOK.cons (f313_ok K) f313_runs (AllOK.cons (f365_ok K) f365_runs AllOK.nil)) AllP.nil AllN.nil) Tryz.func318 fun x => f318_run K x.1 x.2.1
theorem f318_runs : Runs Tryz.prog 318 := runsB_ok (by kernel_rfl)
theorem f309_ok (K : Nat) : SoundP Tryz.prog 309 (f309M K) :=
  sound_fnP (envOK (E := (f309E K)) tab_ok mixed_ok (AllOK.cons (f229_ok K) f229_runs (AllOK.cons (f233_ok K) f233_runs (AllOK.cons (f318_ok K) f318_runs AllOK.nil))) (AllP.cons (f194_ok K) f194_runs AllP.nil) AllN.nil) Tryz.func309 fun x => f309_run K x.1 x.2.1 x.2.2.1
theorem f309_runs : Runs Tryz.prog 309 := runsB_ok (by kernel_rfl)
theorem f290_ok (K : Nat) : SoundP Tryz.prog 290 (f290M K) :=
  sound_fnP (envOK (E := (f290E K)) tab_ok mixed_ok (AllOK.cons (f126_ok K) f126_runs (AllOK.cons (f229_ok K) f229_runs (AllOK.cons (f253_ok K) f253_runs (AllOK.cons (f303_ok K) f303_runs (AllOK.cons (f306_ok K) f306_runs AllOK.nil))))) (AllP.cons (f194_ok K) f194_runs (AllP.cons (f309_ok K) f309_runs AllP.nil)) AllN.nil) Tryz.func290 fun x => f290_run K x.1 x.2.1 x.2.2.1
theorem f290_runs : Runs Tryz.prog 290 := runsB_ok (by kernel_rfl)
theorem f195_ok (K : Nat) : SoundP Tryz.prog 195 (f195M K) :=
  sound_fnP (envOK (E := (f195E K)) tab_ok mixed_ok AllOK.nil (AllP.cons (f194_ok K) f194_runs (AllP.cons (f196_ok K) f196_runs (AllP.cons (f227_ok K) f227_runs (AllP.cons (f290_ok K) f290_runs AllP.nil)))) AllN.nil) Tryz.func195 fun x => f195_run K x.1
theorem f195_runs : Runs Tryz.prog 195 := runsB_ok (by kernel_rfl)
theorem f73_ok (K : Nat) : Sound Tryz.prog 73 (f73M K) :=
  sound_fn (envOK (E := (f73E K)) tab_ok mixed_ok (AllOK.cons (f20_ok K) f20_runs AllOK.nil) (AllP.cons (f193_ok K) f193_runs (AllP.cons (f194_ok K) f194_runs (AllP.cons (f195_ok K) f195_runs (AllP.cons (f196_ok K) f196_runs AllP.nil)))) (AllN.cons (f174_ok K) f174_runs AllN.nil)) Tryz.func73 fun x => f73_run K x.1
theorem f73_runs : Runs Tryz.prog 73 := runsB_ok (by kernel_rfl)
theorem f248_ok (K : Nat) : Sound Tryz.prog 248 (f248M K) :=
  sound_fn (envOK (E := (f248E K)) tab_ok mixed_ok (AllOK.cons (f146_ok K) f146_runs AllOK.nil) AllP.nil AllN.nil) Tryz.func248 fun x => f248_run K x.1
theorem f248_runs : Runs Tryz.prog 248 := runsB_ok (by kernel_rfl)
theorem f249_ok (K : Nat) : Sound Tryz.prog 249 (f249M K) :=
  sound_fn (envOK (E := (f249E K)) tab_ok mixed_ok (AllOK.cons (f146_ok K) f146_runs (AllOK.cons (f238_ok K) f238_runs AllOK.nil)) AllP.nil AllN.nil) Tryz.func249 fun x => f249_run K x.1
theorem f249_runs : Runs Tryz.prog 249 := runsB_ok (by kernel_rfl)
theorem f323_ok (K : Nat) : Sound Tryz.prog 323 (f323M K) :=
  sound_fn (envOK (E := (f323E K)) tab_ok mixed_ok (AllOK.cons (f146_ok K) f146_runs AllOK.nil) AllP.nil AllN.nil) Tryz.func323 fun x => f323_run K x.1 x.2.1 x.2.2.1
theorem f323_runs : Runs Tryz.prog 323 := runsB_ok (by kernel_rfl)
theorem f368_ok (K : Nat) : Sound Tryz.prog 368 (f368M K) :=
  sound_fn (envOK (E := (f368E K)) tab_ok mixed_ok AllOK.nil AllP.nil AllN.nil) Tryz.func368 fun x => f368_run K x.1 x.2.1
theorem f368_runs : Runs Tryz.prog 368 := runsB_ok (by kernel_rfl)
theorem f322_ok (K : Nat) : Sound Tryz.prog 322 (f322M K) :=
  sound_fn (envOK (E := (f322E K)) tab_ok mixed_ok (AllOK.cons (f368_ok K) f368_runs AllOK.nil) AllP.nil AllN.nil) Tryz.func322 fun x => f322_run K x.1 x.2.1
theorem f322_runs : Runs Tryz.prog 322 := runsB_ok (by kernel_rfl)
theorem f250_ok (K : Nat) : Sound Tryz.prog 250 (f250M K) :=
  sound_fn (envOK (E := (f250E K)) tab_ok mixed_ok (AllOK.cons (f322_ok K) f322_runs (AllOK.cons (f323_ok K) f323_runs AllOK.nil)) AllP.nil AllN.nil) Tryz.func250 fun x => f250_run K x.1 x.2.1 x.2.2.1
theorem f250_runs : Runs Tryz.prog 250 := runsB_ok (by kernel_rfl)
theorem f138_ok (K : Nat) : Sound Tryz.prog 138 (f138M K) :=
  sound_fn (envOK (E := (f138E K)) tab_ok mixed_ok (AllOK.cons (f238_ok K) f238_runs (AllOK.cons (f248_ok K) f248_runs (AllOK.cons (f249_ok K) f249_runs (AllOK.cons (f250_ok K) f250_runs AllOK.nil)))) AllP.nil AllN.nil) Tryz.func138 fun x => f138_run K x.1
theorem f138_runs : Runs Tryz.prog 138 := runsB_ok (by kernel_rfl)
theorem f140_ok (K : Nat) : Sound Tryz.prog 140 (f140M K) :=
  sound_fn (envOK (E := (f140E K)) tab_ok mixed_ok (AllOK.cons (f130_ok K) f130_runs (AllOK.cons (f161_ok K) f161_runs AllOK.nil)) AllP.nil AllN.nil) Tryz.func140 fun x => f140_run K x.1 x.2.1
theorem f140_runs : Runs Tryz.prog 140 := runsB_ok (by kernel_rfl)
theorem f251_ok (K : Nat) : Sound Tryz.prog 251 (f251M K) :=
  sound_fn (envOK (E := (f251E K)) tab_ok mixed_ok (AllOK.cons (f140_ok K) f140_runs (AllOK.cons (f191_ok K) f191_runs (AllOK.cons (f207_ok K) f207_runs AllOK.nil))) AllP.nil AllN.nil) Tryz.func251 fun x => f251_run K x.1 x.2.1
theorem f251_runs : Runs Tryz.prog 251 := runsB_ok (by kernel_rfl)
theorem f139_ok (K : Nat) : Sound Tryz.prog 139 (f139M K) :=
  sound_fn (envOK (E := (f139E K)) tab_ok mixed_ok (AllOK.cons (f251_ok K) f251_runs AllOK.nil) AllP.nil AllN.nil) Tryz.func139 fun x => f139_run K x.1 x.2.1
theorem f139_runs : Runs Tryz.prog 139 := runsB_ok (by kernel_rfl)
theorem f32_ok (K : Nat) : Sound Tryz.prog 32 (f32M K) :=
  sound_fn (envOK (E := (f32E K)) tab_ok mixed_ok (AllOK.cons (f118_ok K) f118_runs (AllOK.cons (f128_ok K) f128_runs (AllOK.cons (f138_ok K) f138_runs (AllOK.cons (f139_ok K) f139_runs (AllOK.cons (f140_ok K) f140_runs AllOK.nil))))) AllP.nil AllN.nil) Tryz.func32 fun x => f32_run K x.1 x.2.1 x.2.2.1
theorem f32_runs : Runs Tryz.prog 32 := runsB_ok (by kernel_rfl)
theorem f245_ok (K : Nat) : Sound Tryz.prog 245 (f245M K) :=
  sound_fn (envOK (E := (f245E K)) tab_ok mixed_ok (AllOK.cons (f141_ok K) f141_runs AllOK.nil) AllP.nil AllN.nil) Tryz.func245 fun x => f245_run K x.1 x.2.1 x.2.2.1 x.2.2.2.1
theorem f245_runs : Runs Tryz.prog 245 := runsB_ok (by kernel_rfl)
theorem f133_ok (K : Nat) : Sound Tryz.prog 133 (f133M K) :=
  sound_fn (envOK (E := (f133E K)) tab_ok mixed_ok (AllOK.cons (f229_ok K) f229_runs (AllOK.cons (f245_ok K) f245_runs AllOK.nil)) AllP.nil AllN.nil) Tryz.func133 fun x => f133_run K x.1
theorem f133_runs : Runs Tryz.prog 133 := runsB_ok (by kernel_rfl)
theorem f136_ok (K : Nat) : Sound Tryz.prog 136 (f136M K) :=
  sound_fn (envOK (E := (f136E K)) tab_ok mixed_ok (AllOK.cons (f127_ok K) f127_runs AllOK.nil) AllP.nil AllN.nil) Tryz.func136 fun x => f136_run K x.1 x.2.1
theorem f136_runs : Runs Tryz.prog 136 := runsB_ok (by kernel_rfl)
theorem f246_ok (K : Nat) : Sound Tryz.prog 246 (f246M K) :=
  sound_fn (envOK (E := (f246E K)) tab_ok mixed_ok (AllOK.cons (f136_ok K) f136_runs (AllOK.cons (f232_ok K) f232_runs (AllOK.cons (f284_ok K) f284_runs AllOK.nil))) AllP.nil AllN.nil) Tryz.func246 fun x => f246_run K x.1 x.2.1
theorem f246_runs : Runs Tryz.prog 246 := runsB_ok (by kernel_rfl)
theorem f134_ok (K : Nat) : Sound Tryz.prog 134 (f134M K) :=
  sound_fn (envOK (E := (f134E K)) tab_ok mixed_ok (AllOK.cons (f246_ok K) f246_runs AllOK.nil) AllP.nil AllN.nil) Tryz.func134 fun x => f134_run K x.1 x.2.1
theorem f134_runs : Runs Tryz.prog 134 := runsB_ok (by kernel_rfl)
theorem f30_ok (K : Nat) : Sound Tryz.prog 30 (f30M K) :=
  sound_fn (envOK (E := (f30E K)) tab_ok mixed_ok (AllOK.cons (f113_ok K) f113_runs (AllOK.cons (f133_ok K) f133_runs (AllOK.cons (f134_ok K) f134_runs (AllOK.cons (f135_ok K) f135_runs (AllOK.cons (f136_ok K) f136_runs AllOK.nil))))) AllP.nil AllN.nil) Tryz.func30 fun x => f30_run K x.1 x.2.1 x.2.2.1
theorem f30_runs : Runs Tryz.prog 30 := runsB_ok (by kernel_rfl)
theorem f74_ok (K : Nat) : Sound Tryz.prog 74 (f74M K) :=
  sound_fn (envOK (E := (f74E K)) tab_ok mixed_ok (AllOK.cons (f26_ok K) f26_runs AllOK.nil) (AllP.cons (f193_ok K) f193_runs (AllP.cons (f194_ok K) f194_runs (AllP.cons (f197_ok K) f197_runs AllP.nil))) (AllN.cons (f174_ok K) f174_runs AllN.nil)) Tryz.func74 fun x => f74_run K x.1
theorem f74_runs : Runs Tryz.prog 74 := runsB_ok (by kernel_rfl)
theorem f241_ok (K : Nat) : Sound Tryz.prog 241 (f241M K) :=
  sound_fn (envOK (E := (f241E K)) tab_ok mixed_ok AllOK.nil AllP.nil AllN.nil) Tryz.func241 fun x => f241_run K x.1 x.2.1
theorem f241_runs : Runs Tryz.prog 241 := runsB_ok (by kernel_rfl)
theorem f119_ok (K : Nat) : Sound Tryz.prog 119 (f119M K) :=
  sound_fn (envOK (E := (f119E K)) tab_ok mixed_ok (AllOK.cons (f241_ok K) f241_runs AllOK.nil) AllP.nil AllN.nil) Tryz.func119 fun x => f119_run K x.1 x.2.1
theorem f119_runs : Runs Tryz.prog 119 := runsB_ok (by kernel_rfl)
theorem f18_ok (K : Nat) : Sound Tryz.prog 18 (f18M K) :=
  sound_fn (envOK (E := (f18E K)) tab_ok mixed_ok (AllOK.cons (f118_ok K) f118_runs (AllOK.cons (f119_ok K) f119_runs (AllOK.cons (f120_ok K) f120_runs AllOK.nil))) AllP.nil AllN.nil) Tryz.func18 fun x => f18_run K x.1 x.2.1 x.2.2.1 x.2.2.2.1
theorem f18_runs : Runs Tryz.prog 18 := runsB_ok (by kernel_rfl)
theorem f239_ok (K : Nat) : Sound Tryz.prog 239 (f239M K) :=
  sound_fn (envOK (E := (f239E K)) tab_ok mixed_ok AllOK.nil AllP.nil AllN.nil) Tryz.func239 fun x => f239_run K x.1 x.2.1
theorem f239_runs : Runs Tryz.prog 239 := runsB_ok (by kernel_rfl)
theorem f115_ok (K : Nat) : Sound Tryz.prog 115 (f115M K) :=
  sound_fn (envOK (E := (f115E K)) tab_ok mixed_ok (AllOK.cons (f239_ok K) f239_runs AllOK.nil) AllP.nil AllN.nil) Tryz.func115 fun x => f115_run K x.1 x.2.1
theorem f115_runs : Runs Tryz.prog 115 := runsB_ok (by kernel_rfl)
theorem f16_ok (K : Nat) : Sound Tryz.prog 16 (f16M K) :=
  sound_fn (envOK (E := (f16E K)) tab_ok mixed_ok (AllOK.cons (f113_ok K) f113_runs (AllOK.cons (f114_ok K) f114_runs (AllOK.cons (f115_ok K) f115_runs (AllOK.cons (f116_ok K) f116_runs AllOK.nil)))) AllP.nil AllN.nil) Tryz.func16 fun x => f16_run K x.1 x.2.1 x.2.2.1 x.2.2.2.1
theorem f16_runs : Runs Tryz.prog 16 := runsB_ok (by kernel_rfl)
theorem f75_ok (K : Nat) : Sound Tryz.prog 75 (f75M K) :=
  sound_fn (envOK (E := (f75E K)) tab_ok mixed_ok AllOK.nil AllP.nil AllN.nil) Tryz.func75 fun x => f75_run K x.1 x.2.1
theorem f75_runs : Runs Tryz.prog 75 := runsB_ok (by kernel_rfl)
theorem f186_ok (K : Nat) : Sound Tryz.prog 186 (f186M K) :=
  sound_fn (envOK (E := (f186E K)) tab_ok mixed_ok AllOK.nil AllP.nil AllN.nil) Tryz.func186 fun x => f186_run K x.1 x.2.1
theorem f186_runs : Runs Tryz.prog 186 := runsB_ok (by kernel_rfl)
theorem f66_ok (K : Nat) : Sound Tryz.prog 66 (f66M K) :=
  sound_fn (envOK (E := (f66E K)) tab_ok mixed_ok (AllOK.cons (f186_ok K) f186_runs AllOK.nil) AllP.nil AllN.nil) Tryz.func66 fun x => f66_run K x.1 x.2.1
theorem f66_runs : Runs Tryz.prog 66 := runsB_ok (by kernel_rfl)
theorem f76_ok (K : Nat) : Sound Tryz.prog 76 (f76M K) :=
  sound_fn (envOK (E := (f76E K)) tab_ok mixed_ok (AllOK.cons (f118_ok K) f118_runs AllOK.nil) AllP.nil AllN.nil) Tryz.func76 fun x => f76_run K x.1 x.2.1 x.2.2.1
theorem f76_runs : Runs Tryz.prog 76 := runsB_ok (by kernel_rfl)
theorem f11_ok (K : Nat) : Sound Tryz.prog 11 (f11M K) :=
  sound_fn (envOK (E := (f11E K)) tab_ok mixed_ok (AllOK.cons (f16_ok K) f16_runs (AllOK.cons (f18_ok K) f18_runs (AllOK.cons (f20_ok K) f20_runs (AllOK.cons (f21_ok K) f21_runs (AllOK.cons (f26_ok K) f26_runs (AllOK.cons (f27_ok K) f27_runs (AllOK.cons (f30_ok K) f30_runs (AllOK.cons (f32_ok K) f32_runs (AllOK.cons (f55_ok K) f55_runs (AllOK.cons (f66_ok K) f66_runs (AllOK.cons (f72_ok K) f72_runs (AllOK.cons (f73_ok K) f73_runs (AllOK.cons (f74_ok K) f74_runs (AllOK.cons (f75_ok K) f75_runs (AllOK.cons (f76_ok K) f76_runs AllOK.nil))))))))))))))) AllP.nil AllN.nil) Tryz.func11 fun x => f11_run K x.1
theorem f11_runs : Runs Tryz.prog 11 := runsB_ok (by kernel_rfl)
end Go.Proofs.YtfccacobkcglcaaGreat.X
