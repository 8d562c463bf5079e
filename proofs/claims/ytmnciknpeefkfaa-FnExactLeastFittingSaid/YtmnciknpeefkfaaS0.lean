/- Functions of the program as plain Lean functions, and that the program does what they say. Printed by gen.py. -/
import Derived.Test.YtmnciknpeefkfaaR0
import Derived.Test.YtmnciknpeefkfaaR1
namespace Go.Proofs.Ytmnciknpeefkfaa.X
open Go
set_option maxRecDepth 100000
set_option linter.unusedVariables false
theorem f5_ok (K : Nat) : Sound Try.prog 5 (f5M K) :=
  sound_fn (envOK (E := (f5E K)) tab_ok mixed_ok AllOK.nil AllP.nil AllN.nil) Try.func5 fun x => f5_run K x.1 x.2.1
theorem f5_runs : Runs Try.prog 5 := runsB_ok (by kernel_rfl)
theorem f28_ok (K : Nat) : Sound Try.prog 28 (f28M K) :=
  sound_fn (envOK (E := (f28E K)) tab_ok mixed_ok AllOK.nil AllP.nil AllN.nil) Try.func28 fun x => f28_run K x.1
theorem f28_runs : Runs Try.prog 28 := runsB_ok (by kernel_rfl)
theorem f19_ok (K : Nat) : Sound Try.prog 19 (f19M K) :=
  sound_fn (envOK (E := (f19E K)) tab_ok mixed_ok (AllOK.cons (f28_ok K) f28_runs AllOK.nil) AllP.nil AllN.nil) Try.func19 fun x => f19_run K x.1
theorem f19_runs : Runs Try.prog 19 := runsB_ok (by kernel_rfl)
theorem f7_ok (K : Nat) : Sound Try.prog 7 (f7M K) :=
  sound_fn (envOK (E := (f7E K)) tab_ok mixed_ok (AllOK.cons (f19_ok K) f19_runs AllOK.nil) AllP.nil AllN.nil) Try.func7 fun x => f7_run K x.1
theorem f7_runs : Runs Try.prog 7 := runsB_ok (by kernel_rfl)
theorem f23_ok (K : Nat) : Sound Try.prog 23 (f23M K) :=
  sound_fn (envOK (E := (f23E K)) tab_ok mixed_ok AllOK.nil AllP.nil AllN.nil) Try.func23 fun x => f23_run K x.1 x.2.1 x.2.2.1
theorem f23_runs : Runs Try.prog 23 := runsB_ok (by kernel_rfl)
theorem f25_ok (K : Nat) : Sound Try.prog 25 (f25M K) :=
  sound_fn (envOK (E := (f25E K)) tab_ok mixed_ok (AllOK.cons (f23_ok K) f23_runs AllOK.nil) AllP.nil AllN.nil) Try.func25 fun x => f25_run K x.1
theorem f25_runs : Runs Try.prog 25 := runsB_ok (by kernel_rfl)
theorem f17_ok (K : Nat) : Sound Try.prog 17 (f17M K) :=
  sound_fn (envOK (E := (f17E K)) tab_ok mixed_ok (AllOK.cons (f23_ok K) f23_runs (AllOK.cons (f25_ok K) f25_runs AllOK.nil)) AllP.nil AllN.nil) Try.func17 fun x => f17_run K x.1
theorem f17_runs : Runs Try.prog 17 := runsB_ok (by kernel_rfl)
theorem f26_ok (K : Nat) : Sound Try.prog 26 (f26M K) :=
  sound_fn (envOK (E := (f26E K)) tab_ok mixed_ok (AllOK.cons (f23_ok K) f23_runs AllOK.nil) AllP.nil AllN.nil) Try.func26 fun x => f26_run K x.1
theorem f26_runs : Runs Try.prog 26 := runsB_ok (by kernel_rfl)
theorem f53_ok (K : Nat) : Sound Try.prog 53 (f53M K) :=
  sound_fn (envOK (E := (f53E K)) tab_ok mixed_ok AllOK.nil AllP.nil AllN.nil) Try.func53 fun x => f53_run K x.1 x.2.1
theorem f53_runs : Runs Try.prog 53 := runsB_ok (by kernel_rfl)
theorem f47_ok (K : Nat) : Sound Try.prog 47 (f47M K) :=
  sound_fn (envOK (E := (f47E K)) tab_ok mixed_ok (AllOK.cons (f53_ok K) f53_runs AllOK.nil) AllP.nil AllN.nil) Try.func47 fun x => f47_run K x.1 x.2.1
theorem f47_runs : Runs Try.prog 47 := runsB_ok (by kernel_rfl)
theorem f39_ok (K : Nat) : Sound Try.prog 39 (f39M K) :=
  sound_fn (envOK (E := (f39E K)) tab_ok mixed_ok (AllOK.cons (f47_ok K) f47_runs AllOK.nil) AllP.nil AllN.nil) Try.func39 fun x => f39_run K x.1 x.2.1
theorem f39_runs : Runs Try.prog 39 := runsB_ok (by kernel_rfl)
theorem f27_ok (K : Nat) : Sound Try.prog 27 (f27M K) :=
  sound_fn (envOK (E := (f27E K)) tab_ok mixed_ok (AllOK.cons (f39_ok K) f39_runs AllOK.nil) AllP.nil AllN.nil) Try.func27 fun x => f27_run K x.1 x.2.1
theorem f27_runs : Runs Try.prog 27 := runsB_ok (by kernel_rfl)
theorem f18_ok (K : Nat) : Sound Try.prog 18 (f18M K) :=
  sound_fn (envOK (E := (f18E K)) tab_ok mixed_ok (AllOK.cons (f26_ok K) f26_runs (AllOK.cons (f27_ok K) f27_runs AllOK.nil)) AllP.nil AllN.nil) Try.func18 fun x => f18_run K x.1 x.2.1
theorem f18_runs : Runs Try.prog 18 := runsB_ok (by kernel_rfl)
theorem f6_ok (K : Nat) : Sound Try.prog 6 (f6M K) :=
  sound_fn (envOK (E := (f6E K)) tab_ok mixed_ok (AllOK.cons (f17_ok K) f17_runs (AllOK.cons (f18_ok K) f18_runs AllOK.nil)) AllP.nil AllN.nil) Try.func6 fun x => f6_run K x.1
theorem f6_runs : Runs Try.prog 6 := runsB_ok (by kernel_rfl)
theorem f24_ok (K : Nat) : Sound Try.prog 24 (f24M K) :=
  sound_fn (envOK (E := (f24E K)) tab_ok mixed_ok AllOK.nil AllP.nil AllN.nil) Try.func24 fun x => f24_run K x.1 x.2.1 x.2.2.1
theorem f24_runs : Runs Try.prog 24 := runsB_ok (by kernel_rfl)
theorem f41_ok (K : Nat) : Sound Try.prog 41 (f41M K) :=
  sound_fn (envOK (E := (f41E K)) tab_ok mixed_ok (AllOK.cons (f24_ok K) f24_runs AllOK.nil) AllP.nil AllN.nil) Try.func41 fun x => f41_run K x.1
theorem f41_runs : Runs Try.prog 41 := runsB_ok (by kernel_rfl)
theorem f31_ok (K : Nat) : Sound Try.prog 31 (f31M K) :=
  sound_fn (envOK (E := (f31E K)) tab_ok mixed_ok (AllOK.cons (f41_ok K) f41_runs AllOK.nil) AllP.nil AllN.nil) Try.func31 fun x => f31_run K x.1
theorem f31_runs : Runs Try.prog 31 := runsB_ok (by kernel_rfl)
theorem f32_ok (K : Nat) : Sound Try.prog 32 (f32M K) :=
  sound_fn (envOK (E := (f32E K)) tab_ok mixed_ok (AllOK.cons (f24_ok K) f24_runs AllOK.nil) AllP.nil AllN.nil) Try.func32 fun x => f32_run K x.1
theorem f32_runs : Runs Try.prog 32 := runsB_ok (by kernel_rfl)
theorem f30_ok (K : Nat) : Sound Try.prog 30 (f30M K) :=
  sound_fn (envOK (E := (f30E K)) tab_ok mixed_ok (AllOK.cons (f31_ok K) f31_runs (AllOK.cons (f32_ok K) f32_runs AllOK.nil)) AllP.nil AllN.nil) Try.func30 fun x => f30_run K x.1
theorem f30_runs : Runs Try.prog 30 := runsB_ok (by kernel_rfl)
theorem f40_ok (K : Nat) : Sound Try.prog 40 (f40M K) :=
  sound_fn (envOK (E := (f40E K)) tab_ok mixed_ok AllOK.nil AllP.nil AllN.nil) Try.func40 fun x => f40_run K x.1 x.2.1
theorem f40_runs : Runs Try.prog 40 := runsB_ok (by kernel_rfl)
theorem f29_ok (K : Nat) : Sound Try.prog 29 (f29M K) :=
  sound_fn (envOK (E := (f29E K)) tab_ok mixed_ok (AllOK.cons (f40_ok K) f40_runs AllOK.nil) AllP.nil AllN.nil) Try.func29 fun x => f29_run K x.1 x.2.1
theorem f29_runs : Runs Try.prog 29 := runsB_ok (by kernel_rfl)
theorem f20_ok (K : Nat) : Sound Try.prog 20 (f20M K) :=
  sound_fn (envOK (E := (f20E K)) tab_ok mixed_ok (AllOK.cons (f29_ok K) f29_runs (AllOK.cons (f30_ok K) f30_runs AllOK.nil)) AllP.nil AllN.nil) Try.func20 fun x => f20_run K x.1
theorem f20_runs : Runs Try.prog 20 := runsB_ok (by kernel_rfl)
theorem f33_ok (K : Nat) : Sound Try.prog 33 (f33M K) :=
  sound_fn (envOK (E := (f33E K)) tab_ok mixed_ok AllOK.nil AllP.nil AllN.nil) Try.func33 fun x => f33_run K 
theorem f33_runs : Runs Try.prog 33 := runsB_ok (by kernel_rfl)
theorem f35_ok (K : Nat) : Sound Try.prog 35 (f35M K) :=
  sound_fn (envOK (E := (f35E K)) tab_ok mixed_ok AllOK.nil AllP.nil AllN.nil) Try.func35 fun x => f35_run K x.1
theorem f35_runs : Runs Try.prog 35 := runsB_ok (by kernel_rfl)
theorem f49_ok (K : Nat) : Sound Try.prog 49 (f49M K) :=
  sound_fn (envOK (E := (f49E K)) tab_ok mixed_ok AllOK.nil AllP.nil AllN.nil) Try.func49 fun x => f49_run K x.1
theorem f49_runs : Runs Try.prog 49 := runsB_ok (by kernel_rfl)
def f54_ren : Go.Shelf.Ren := ⟨fun | 212 => 54 | 263 => 59 | 264 => 60 | n => n, fun | 46 => 88 | 51 => 95 | 53 => 98 | 146 => 96 | 148 => 99 | n => n, fun n => n⟩
theorem f54_lays : Lays.n212 Try.prog f54_ren where
  mixed := by kernel_rfl
  f212 := Try.func54.trans (congrArg some (by kernel_rfl))
  f263 := Try.func59.trans (congrArg some (by kernel_rfl))
  f264 := Try.func60.trans (congrArg some (by kernel_rfl))
  t46 := Try.underlying88
  a46 := Try.isAgg88
  z46 := Try.sizeOf88
  v46 := Try.zeroValue88
  t51 := Try.underlying95
  a51 := Try.isAgg95
  z51 := Try.sizeOf95
  v51 := Try.zeroValue95
  t53 := Try.underlying98
  a53 := Try.isAgg98
  z53 := Try.sizeOf98
  v53 := Try.zeroValue98
  t146 := Try.underlying96
  a146 := Try.isAgg96
  z146 := Try.sizeOf96
  v146 := Try.zeroValue96
  t148 := Try.underlying99
  a148 := Try.isAgg99
  z148 := Try.sizeOf99
  v148 := Try.zeroValue99
theorem f54_ok (K : Nat) : Sound Try.prog 54 (f54M K) := mul_sound f54_lays rfl
theorem f54_runs : Runs Try.prog 54 := runsB_ok (by kernel_rfl)
theorem f48_ok (K : Nat) : Sound Try.prog 48 (f48M K) :=
  sound_fn (envOK (E := (f48E K)) tab_ok mixed_ok (AllOK.cons (f54_ok K) f54_runs AllOK.nil) AllP.nil AllN.nil) Try.func48 fun x => f48_run K x.1 x.2.1
theorem f48_runs : Runs Try.prog 48 := runsB_ok (by kernel_rfl)
theorem f50_ok (K : Nat) : Sound Try.prog 50 (f50M K) :=
  sound_fn (envOK (E := (f50E K)) tab_ok mixed_ok AllOK.nil AllP.nil AllN.nil) Try.func50 fun x => f50_run K x.1
theorem f50_runs : Runs Try.prog 50 := runsB_ok (by kernel_rfl)
theorem f45_ok (K : Nat) : Sound Try.prog 45 (f45M K) :=
  sound_fn (envOK (E := (f45E K)) tab_ok mixed_ok AllOK.nil AllP.nil AllN.nil) Try.func45 fun x => f45_run K x.1 x.2.1
theorem f45_runs : Runs Try.prog 45 := runsB_ok (by kernel_rfl)
theorem f65_ok (K : Nat) : Sound Try.prog 65 (f65M K) :=
  sound_fn (envOK (E := (f65E K)) tab_ok mixed_ok AllOK.nil AllP.nil AllN.nil) Try.func65 fun x => f65_run K x.1 x.2.1
theorem f65_runs : Runs Try.prog 65 := runsB_ok (by kernel_rfl)
theorem f66_ok (K : Nat) : Sound Try.prog 66 (f66M K) :=
  sound_fn (envOK (E := (f66E K)) tab_ok mixed_ok AllOK.nil AllP.nil AllN.nil) Try.func66 fun x => f66_run K x.1 x.2.1
theorem f66_runs : Runs Try.prog 66 := runsB_ok (by kernel_rfl)
theorem f61_ok (K : Nat) : Sound Try.prog 61 (f61M K) :=
  sound_fn (envOK (E := (f61E K)) tab_ok mixed_ok (AllOK.cons (f65_ok K) f65_runs (AllOK.cons (f66_ok K) f66_runs AllOK.nil)) AllP.nil AllN.nil) Try.func61 fun x => f61_run K x.1 x.2.1
theorem f61_runs : Runs Try.prog 61 := runsB_ok (by kernel_rfl)
theorem f52_ok (K : Nat) : Sound Try.prog 52 (f52M K) :=
  sound_fn (envOK (E := (f52E K)) tab_ok mixed_ok AllOK.nil AllP.nil AllN.nil) Try.func52 fun x => f52_run K x.1 x.2.1
theorem f52_runs : Runs Try.prog 52 := runsB_ok (by kernel_rfl)
theorem f46_ok (K : Nat) : Sound Try.prog 46 (f46M K) :=
  sound_fn (envOK (E := (f46E K)) tab_ok mixed_ok (AllOK.cons (f52_ok K) f52_runs AllOK.nil) AllP.nil AllN.nil) Try.func46 fun x => f46_run K x.1 x.2.1
theorem f46_runs : Runs Try.prog 46 := runsB_ok (by kernel_rfl)
theorem f55_ok (K : Nat) : Sound Try.prog 55 (f55M K) :=
  sound_fn (envOK (E := (f55E K)) tab_ok mixed_ok (AllOK.cons (f46_ok K) f46_runs (AllOK.cons (f61_ok K) f61_runs AllOK.nil)) AllP.nil AllN.nil) Try.func55 fun x => f55_run K x.1 x.2.1 x.2.2.1
theorem f55_runs : Runs Try.prog 55 := runsB_ok (by kernel_rfl)
theorem f64_ok (K : Nat) : Sound Try.prog 64 (f64M K) :=
  sound_fn (envOK (E := (f64E K)) tab_ok mixed_ok AllOK.nil AllP.nil AllN.nil) Try.func64 fun x => f64_run K x.1 x.2.1
theorem f64_runs : Runs Try.prog 64 := runsB_ok (by kernel_rfl)
theorem f57_ok (K : Nat) : Sound Try.prog 57 (f57M K) :=
  sound_fn (envOK (E := (f57E K)) tab_ok mixed_ok (AllOK.cons (f64_ok K) f64_runs AllOK.nil) AllP.nil AllN.nil) Try.func57 fun x => f57_run K x.1 x.2.1
theorem f57_runs : Runs Try.prog 57 := runsB_ok (by kernel_rfl)
def f56_ren : Go.Shelf.Ren := ⟨fun | 6 => 56 | 14 => 62 | 15 => 63 | 20 => 67 | 21 => 68 | 22 => 69 | 23 => 70 | 24 => 71 | 25 => 72 | 26 => 73 | 27 => 74 | 28 => 75 | 29 => 76 | 46 => 77 | 47 => 78 | 48 => 79 | 49 => 80 | 50 => 81 | 57 => 82 | n => n, fun | 0 => 0 | 3 => 3 | 4 => 4 | 5 => 5 | 9 => 9 | 22 => 84 | 24 => 43 | 25 => 93 | 39 => 88 | 45 => 105 | 46 => 106 | 50 => 110 | 53 => 95 | 55 => 98 | 66 => 114 | 70 => 118 | 76 => 120 | 77 => 121 | n => n, fun n => n⟩
theorem f56_lays : SlLaysF0.n6 Try.prog f56_ren where
  mixed := by kernel_rfl
  f6 := ⟨ "slices.SortFunc[[]loop.example/g00943/impl.Vec,loop.example/g00943/impl.Vec]", by decide, Try.func56.trans (congrArg some (by kernel_rfl))⟩
  f14 := ⟨ "slices.pdqsortCmpFunc[loop.example/g00943/impl.Vec]", by decide, Try.func62.trans (congrArg some (by kernel_rfl))⟩
  f15 := Try.func63.trans (congrArg some (by kernel_rfl))
  f20 := ⟨ "slices.insertionSortCmpFunc[loop.example/g00943/impl.Vec]", by decide, Try.func67.trans (congrArg some (by kernel_rfl))⟩
  f21 := ⟨ "slices.heapSortCmpFunc[loop.example/g00943/impl.Vec]", by decide, Try.func68.trans (congrArg some (by kernel_rfl))⟩
  f22 := ⟨ "slices.breakPatternsCmpFunc[loop.example/g00943/impl.Vec]", by decide, Try.func69.trans (congrArg some (by kernel_rfl))⟩
  f23 := ⟨ "slices.choosePivotCmpFunc[loop.example/g00943/impl.Vec]", by decide, Try.func70.trans (congrArg some (by kernel_rfl))⟩
  f24 := ⟨ "slices.reverseRangeCmpFunc[loop.example/g00943/impl.Vec]", by decide, Try.func71.trans (congrArg some (by kernel_rfl))⟩
  f25 := ⟨ "slices.partialInsertionSortCmpFunc[loop.example/g00943/impl.Vec]", by decide, Try.func72.trans (congrArg some (by kernel_rfl))⟩
  f26 := ⟨ "slices.partitionEqualCmpFunc[loop.example/g00943/impl.Vec]", by decide, Try.func73.trans (congrArg some (by kernel_rfl))⟩
  f27 := ⟨ "slices.partitionCmpFunc[loop.example/g00943/impl.Vec]", by decide, Try.func74.trans (congrArg some (by kernel_rfl))⟩
  f28 := Try.func75.trans (congrArg some (by kernel_rfl))
  f29 := Try.func76.trans (congrArg some (by kernel_rfl))
  f46 := ⟨ "slices.siftDownCmpFunc[loop.example/g00943/impl.Vec]", by decide, Try.func77.trans (congrArg some (by kernel_rfl))⟩
  f47 := Try.func78.trans (congrArg some (by kernel_rfl))
  f48 := Try.func79.trans (congrArg some (by kernel_rfl))
  f49 := ⟨ "slices.medianAdjacentCmpFunc[loop.example/g00943/impl.Vec]", by decide, Try.func80.trans (congrArg some (by kernel_rfl))⟩
  f50 := ⟨ "slices.medianCmpFunc[loop.example/g00943/impl.Vec]", by decide, Try.func81.trans (congrArg some (by kernel_rfl))⟩
  f57 := ⟨ "slices.order2CmpFunc[loop.example/g00943/impl.Vec]", by decide, Try.func82.trans (congrArg some (by kernel_rfl))⟩
  t0 := Try.underlying0
  a0 := Try.isAgg0
  z0 := Try.sizeOf0
  v0 := Try.zeroValue0
  t3 := Try.underlying3
  a3 := Try.isAgg3
  z3 := Try.sizeOf3
  v3 := Try.zeroValue3
  t4 := Try.underlying4
  a4 := Try.isAgg4
  z4 := Try.sizeOf4
  v4 := Try.zeroValue4
  t5 := Try.underlying5
  a5 := Try.isAgg5
  z5 := Try.sizeOf5
  v5 := Try.zeroValue5
  t9 := Try.underlying9
  a9 := Try.isAgg9
  z9 := Try.sizeOf9
  v9 := Try.zeroValue9
  t22 := Try.underlying84
  a22 := Try.isAgg84
  z22 := Try.sizeOf84
  v22 := Try.zeroValue84
  t25 := Try.underlying93
  a25 := Try.isAgg93
  z25 := Try.sizeOf93
  v25 := Try.zeroValue93
  t39 := Try.underlying88
  a39 := Try.isAgg88
  z39 := Try.sizeOf88
  v39 := Try.zeroValue88
  t45 := Try.underlying105
  a45 := Try.isAgg105
  z45 := Try.sizeOf105
  v45 := Try.zeroValue105
  t46 := Try.underlying106
  a46 := Try.isAgg106
  z46 := Try.sizeOf106
  v46 := Try.zeroValue106
  t50 := Try.underlying110
  a50 := Try.isAgg110
  z50 := Try.sizeOf110
  v50 := Try.zeroValue110
  t53 := Try.underlying95
  a53 := Try.isAgg95
  z53 := Try.sizeOf95
  v53 := Try.zeroValue95
  t55 := Try.underlying98
  a55 := Try.isAgg98
  z55 := Try.sizeOf98
  v55 := Try.zeroValue98
  t66 := Try.underlying114
  a66 := Try.isAgg114
  z66 := Try.sizeOf114
  v66 := Try.zeroValue114
  t70 := Try.underlying118
  a70 := Try.isAgg118
  z70 := Try.sizeOf118
  v70 := Try.zeroValue118
  t76 := Try.underlying120
  a76 := Try.isAgg120
  z76 := Try.sizeOf120
  v76 := Try.zeroValue120
  t77 := Try.underlying121
  a77 := Try.isAgg121
  z77 := Try.sizeOf121
  v77 := Try.zeroValue121
theorem f56_ok (K : Nat) : Sound Try.prog 56 (f56M K) := sort_sound (e := 43) (s := (.cons (.int .i64) (.int .i64))) f56_lays rfl rfl rfl Try.isAgg43 Try.sizeOf43
theorem f56_runs : Runs Try.prog 56 := runsB_ok (by kernel_rfl)
theorem f58_ok (K : Nat) : Sound Try.prog 58 (f58M K) :=
  sound_fn (envOK (E := (f58E K)) tab_ok mixed_ok AllOK.nil AllP.nil AllN.nil) Try.func58 fun x => f58_run K x.1
theorem f58_runs : Runs Try.prog 58 := runsB_ok (by kernel_rfl)
theorem f51_ok (K : Nat) : Sound Try.prog 51 (f51M K) :=
  sound_fn (envOK (E := (f51E K)) tab_ok mixed_ok (AllOK.cons (f55_ok K) f55_runs (AllOK.cons (f56_ok K) f56_runs (AllOK.cons (f57_ok K) f57_runs (AllOK.cons (f58_ok K) f58_runs AllOK.nil)))) AllP.nil AllN.nil) Try.func51 fun x => f51_run K x.1 x.2.1 x.2.2.1
theorem f51_runs : Runs Try.prog 51 := runsB_ok (by kernel_rfl)
theorem f43_ok (K : Nat) : Sound Try.prog 43 (f43M K) :=
  sound_fn (envOK (E := (f43E K)) tab_ok mixed_ok (AllOK.cons (f45_ok K) f45_runs (AllOK.cons (f48_ok K) f48_runs (AllOK.cons (f49_ok K) f49_runs (AllOK.cons (f50_ok K) f50_runs (AllOK.cons (f51_ok K) f51_runs AllOK.nil))))) AllP.nil AllN.nil) Try.func43 fun x => f43_run K x.1 x.2.1
theorem f43_runs : Runs Try.prog 43 := runsB_ok (by kernel_rfl)
theorem f44_ok (K : Nat) : Sound Try.prog 44 (f44M K) :=
  sound_fn (envOK (E := (f44E K)) tab_ok mixed_ok (AllOK.cons (f45_ok K) f45_runs (AllOK.cons (f46_ok K) f46_runs AllOK.nil)) AllP.nil AllN.nil) Try.func44 fun x => f44_run K x.1 x.2.1 x.2.2.1
theorem f44_runs : Runs Try.prog 44 := runsB_ok (by kernel_rfl)
theorem f37_ok (K : Nat) : Sound Try.prog 37 (f37M K) :=
  sound_fn (envOK (E := (f37E K)) tab_ok mixed_ok (AllOK.cons (f43_ok K) f43_runs (AllOK.cons (f44_ok K) f44_runs AllOK.nil)) AllP.nil AllN.nil) Try.func37 fun x => f37_run K x.1 x.2.1 x.2.2.1
theorem f37_runs : Runs Try.prog 37 := runsB_ok (by kernel_rfl)
theorem f36_ok (K : Nat) : Sound Try.prog 36 (f36M K) :=
  sound_fn (envOK (E := (f36E K)) tab_ok mixed_ok (AllOK.cons (f37_ok K) f37_runs AllOK.nil) AllP.nil AllN.nil) Try.func36 fun x => f36_run K x.1 x.2.1 x.2.2.1
theorem f36_runs : Runs Try.prog 36 := runsB_ok (by kernel_rfl)
theorem f42_ok (K : Nat) : Sound Try.prog 42 (f42M K) :=
  sound_fn (envOK (E := (f42E K)) tab_ok mixed_ok AllOK.nil AllP.nil AllN.nil) Try.func42 fun x => f42_run K x.1 x.2.1
theorem f42_runs : Runs Try.prog 42 := runsB_ok (by kernel_rfl)
theorem f34_ok (K : Nat) : Sound Try.prog 34 (f34M K) :=
  sound_fn (envOK (E := (f34E K)) tab_ok mixed_ok (AllOK.cons (f42_ok K) f42_runs AllOK.nil) AllP.nil AllN.nil) Try.func34 fun x => f34_run K x.1 x.2.1
theorem f34_runs : Runs Try.prog 34 := runsB_ok (by kernel_rfl)
theorem f21_ok (K : Nat) : Sound Try.prog 21 (f21M K) :=
  sound_fn (envOK (E := (f21E K)) tab_ok mixed_ok (AllOK.cons (f33_ok K) f33_runs (AllOK.cons (f34_ok K) f34_runs (AllOK.cons (f35_ok K) f35_runs (AllOK.cons (f36_ok K) f36_runs AllOK.nil)))) AllP.nil AllN.nil) Try.func21 fun x => f21_run K x.1 x.2.1
theorem f21_runs : Runs Try.prog 21 := runsB_ok (by kernel_rfl)
theorem f8_ok (K : Nat) : Sound Try.prog 8 (f8M K) :=
  sound_fn (envOK (E := (f8E K)) tab_ok mixed_ok (AllOK.cons (f20_ok K) f20_runs (AllOK.cons (f21_ok K) f21_runs AllOK.nil)) AllP.nil AllN.nil) Try.func8 fun x => f8_run K x.1
theorem f8_runs : Runs Try.prog 8 := runsB_ok (by kernel_rfl)
theorem f9_ok (K : Nat) : Sound Try.prog 9 (f9M K) :=
  sound_fn (envOK (E := (f9E K)) tab_ok mixed_ok AllOK.nil AllP.nil AllN.nil) Try.func9 fun x => f9_run K x.1 x.2.1
theorem f9_runs : Runs Try.prog 9 := runsB_ok (by kernel_rfl)
theorem f38_ok (K : Nat) : Sound Try.prog 38 (f38M K) :=
  sound_fn (envOK (E := (f38E K)) tab_ok mixed_ok AllOK.nil AllP.nil AllN.nil) Try.func38 fun x => f38_run K x.1 x.2.1
theorem f38_runs : Runs Try.prog 38 := runsB_ok (by kernel_rfl)
theorem f22_ok (K : Nat) : Sound Try.prog 22 (f22M K) :=
  sound_fn (envOK (E := (f22E K)) tab_ok mixed_ok (AllOK.cons (f38_ok K) f38_runs AllOK.nil) AllP.nil AllN.nil) Try.func22 fun x => f22_run K x.1 x.2.1
theorem f22_runs : Runs Try.prog 22 := runsB_ok (by kernel_rfl)
theorem f10_ok (K : Nat) : Sound Try.prog 10 (f10M K) :=
  sound_fn (envOK (E := (f10E K)) tab_ok mixed_ok (AllOK.cons (f22_ok K) f22_runs AllOK.nil) AllP.nil AllN.nil) Try.func10 fun x => f10_run K x.1 x.2.1
theorem f10_runs : Runs Try.prog 10 := runsB_ok (by kernel_rfl)
theorem f3_ok (K : Nat) : Sound Try.prog 3 (f3M K) :=
  sound_fn (envOK (E := (f3E K)) tab_ok mixed_ok (AllOK.cons (f5_ok K) f5_runs (AllOK.cons (f6_ok K) f6_runs (AllOK.cons (f7_ok K) f7_runs (AllOK.cons (f8_ok K) f8_runs (AllOK.cons (f9_ok K) f9_runs (AllOK.cons (f10_ok K) f10_runs AllOK.nil)))))) AllP.nil AllN.nil) Try.func3 fun x => f3_run K x.1
theorem f3_runs : Runs Try.prog 3 := runsB_ok (by kernel_rfl)
theorem f11_ok (K : Nat) : Sound Try.prog 11 (f11M K) :=
  sound_fn (envOK (E := (f11E K)) tab_ok mixed_ok (AllOK.cons (f17_ok K) f17_runs (AllOK.cons (f18_ok K) f18_runs (AllOK.cons (f23_ok K) f23_runs AllOK.nil))) AllP.nil AllN.nil) Try.func11 fun x => f11_run K x.1 x.2.1
theorem f11_runs : Runs Try.prog 11 := runsB_ok (by kernel_rfl)
theorem f12_ok (K : Nat) : Sound Try.prog 12 (f12M K) :=
  sound_fn (envOK (E := (f12E K)) tab_ok mixed_ok (AllOK.cons (f20_ok K) f20_runs (AllOK.cons (f21_ok K) f21_runs (AllOK.cons (f24_ok K) f24_runs AllOK.nil))) AllP.nil AllN.nil) Try.func12 fun x => f12_run K x.1 x.2.1
theorem f12_runs : Runs Try.prog 12 := runsB_ok (by kernel_rfl)
theorem f13_ok (K : Nat) : Sound Try.prog 13 (f13M K) :=
  sound_fn (envOK (E := (f13E K)) tab_ok mixed_ok (AllOK.cons (f9_ok K) f9_runs AllOK.nil) AllP.nil AllN.nil) Try.func13 fun x => f13_run K x.1 x.2.1
theorem f13_runs : Runs Try.prog 13 := runsB_ok (by kernel_rfl)
theorem f14_ok (K : Nat) : Sound Try.prog 14 (f14M K) :=
  sound_fn (envOK (E := (f14E K)) tab_ok mixed_ok AllOK.nil AllP.nil AllN.nil) Try.func14 fun x => f14_run K x.1 x.2.1
theorem f14_runs : Runs Try.prog 14 := runsB_ok (by kernel_rfl)
theorem f15_ok (K : Nat) : Sound Try.prog 15 (f15M K) :=
  sound_fn (envOK (E := (f15E K)) tab_ok mixed_ok AllOK.nil AllP.nil AllN.nil) Try.func15 fun x => f15_run K x.1 x.2.1
theorem f15_runs : Runs Try.prog 15 := runsB_ok (by kernel_rfl)
theorem f16_ok (K : Nat) : Sound Try.prog 16 (f16M K) :=
  sound_fn (envOK (E := (f16E K)) tab_ok mixed_ok AllOK.nil AllP.nil AllN.nil) Try.func16 fun x => f16_run K x.1 x.2.1
theorem f16_runs : Runs Try.prog 16 := runsB_ok (by kernel_rfl)
theorem f4_ok (K : Nat) : Sound Try.prog 4 (f4M K) :=
  sound_fn (envOK (E := (f4E K)) tab_ok mixed_ok (AllOK.cons (f5_ok K) f5_runs (AllOK.cons (f7_ok K) f7_runs (AllOK.cons (f10_ok K) f10_runs (AllOK.cons (f11_ok K) f11_runs (AllOK.cons (f12_ok K) f12_runs (AllOK.cons (f13_ok K) f13_runs (AllOK.cons (f14_ok K) f14_runs (AllOK.cons (f15_ok K) f15_runs (AllOK.cons (f16_ok K) f16_runs AllOK.nil))))))))) AllP.nil AllN.nil) Try.func4 fun x => f4_run K x.1 x.2.1
theorem f4_runs : Runs Try.prog 4 := runsB_ok (by kernel_rfl)
end Go.Proofs.Ytmnciknpeefkfaa.X
