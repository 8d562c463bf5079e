/- Functions of the program as plain Lean functions, and that the program does what they say. Printed by gen.py. -/
import Derived.Test.YtmnciknpeefkfaaGreatQhR0
namespace Go.Proofs.YtmnciknpeefkfaaGreat.X
open Go
set_option maxRecDepth 100000
set_option linter.unusedVariables false
theorem f13_ok (K : Nat) : Sound Tryz.prog 13 (f13M K) :=
  sound_fn (envOK (E := (f13E K)) tab_ok mixed_ok AllOK.nil AllP.nil AllN.nil) Tryz.func13 fun x => f13_run K x.1 x.2.1
theorem f13_runs : Runs Tryz.prog 13 := runsB_ok (by kernel_rfl)
theorem f15_ok (K : Nat) : Sound Tryz.prog 15 (f15M K) :=
  sound_fn (envOK (E := (f15E K)) tab_ok mixed_ok AllOK.nil AllP.nil AllN.nil) Tryz.func15 fun x => f15_run K x.1
theorem f15_runs : Runs Tryz.prog 15 := runsB_ok (by kernel_rfl)
theorem f130_ok (K : Nat) : Sound Tryz.prog 130 (f130M K) :=
  sound_fn (envOK (E := (f130E K)) tab_ok mixed_ok AllOK.nil AllP.nil AllN.nil) Tryz.func130 fun x => f130_run K x.1
theorem f130_runs : Runs Tryz.prog 130 := runsB_ok (by kernel_rfl)
theorem f29_ok (K : Nat) : Sound Tryz.prog 29 (f29M K) :=
  sound_fn (envOK (E := (f29E K)) tab_ok mixed_ok AllOK.nil AllP.nil AllN.nil) Tryz.func29 fun x => f29_run K x.1
theorem f29_runs : Runs Tryz.prog 29 := runsB_ok (by kernel_rfl)
theorem f61_ok (K : Nat) : Sound Tryz.prog 61 (f61M K) :=
  sound_fn (envOK (E := (f61E K)) tab_ok mixed_ok (AllOK.cons (f29_ok K) f29_runs (AllOK.cons (f130_ok K) f130_runs AllOK.nil)) AllP.nil AllN.nil) Tryz.func61 fun x => f61_run K x.1
theorem f61_runs : Runs Tryz.prog 61 := runsB_ok (by kernel_rfl)
theorem f16_ok (K : Nat) : Sound Tryz.prog 16 (f16M K) :=
  sound_fn (envOK (E := (f16E K)) tab_ok mixed_ok (AllOK.cons (f61_ok K) f61_runs AllOK.nil) AllP.nil AllN.nil) Tryz.func16 fun x => f16_run K x.1
theorem f16_runs : Runs Tryz.prog 16 := runsB_ok (by kernel_rfl)
theorem f190_ok (K : Nat) : Sound Tryz.prog 190 (f190M K) :=
  sound_fn (envOK (E := (f190E K)) tab_ok mixed_ok AllOK.nil AllP.nil AllN.nil) Tryz.func190 fun x => f190_run K x.1
theorem f190_runs : Runs Tryz.prog 190 := runsB_ok (by kernel_rfl)
theorem f59_ok (K : Nat) : Sound Tryz.prog 59 (f59M K) :=
  sound_fn (envOK (E := (f59E K)) tab_ok mixed_ok AllOK.nil AllP.nil AllN.nil) Tryz.func59 fun x => f59_run K x.1 x.2.1 x.2.2.1
theorem f59_runs : Runs Tryz.prog 59 := runsB_ok (by kernel_rfl)
theorem f191_ok (K : Nat) : Sound Tryz.prog 191 (f191M K) :=
  sound_fn (envOK (E := (f191E K)) tab_ok mixed_ok (AllOK.cons (f59_ok K) f59_runs AllOK.nil) AllP.nil AllN.nil) Tryz.func191 fun x => f191_run K x.1
theorem f191_runs : Runs Tryz.prog 191 := runsB_ok (by kernel_rfl)
theorem f133_ok (K : Nat) : Sound Tryz.prog 133 (f133M K) :=
  sound_fn (envOK (E := (f133E K)) tab_ok mixed_ok (AllOK.cons (f190_ok K) f190_runs (AllOK.cons (f191_ok K) f191_runs AllOK.nil)) AllP.nil AllN.nil) Tryz.func133 fun x => f133_run K x.1 x.2.1
theorem f133_runs : Runs Tryz.prog 133 := runsB_ok (by kernel_rfl)
theorem f216_ok (K : Nat) : Sound Tryz.prog 216 (f216M K) :=
  sound_fn (envOK (E := (f216E K)) tab_ok mixed_ok (AllOK.cons (f59_ok K) f59_runs AllOK.nil) AllP.nil AllN.nil) Tryz.func216 fun x => f216_run K x.1
theorem f216_runs : Runs Tryz.prog 216 := runsB_ok (by kernel_rfl)
theorem f281_ok (K : Nat) : Sound Tryz.prog 281 (f281M K) :=
  sound_fn (envOK (E := (f281E K)) tab_ok mixed_ok (AllOK.cons (f216_ok K) f216_runs AllOK.nil) AllP.nil AllN.nil) Tryz.func281 fun x => f281_run K x.1
theorem f281_runs : Runs Tryz.prog 281 := runsB_ok (by kernel_rfl)
theorem f282_ok (K : Nat) : Sound Tryz.prog 282 (f282M K) :=
  sound_fn (envOK (E := (f282E K)) tab_ok mixed_ok AllOK.nil AllP.nil AllN.nil) Tryz.func282 fun x => f282_run K x.1
theorem f282_runs : Runs Tryz.prog 282 := runsB_ok (by kernel_rfl)
theorem f272_ok (K : Nat) : Sound Tryz.prog 272 (f272M K) :=
  sound_fn (envOK (E := (f272E K)) tab_ok mixed_ok (AllOK.cons (f281_ok K) f281_runs (AllOK.cons (f282_ok K) f282_runs AllOK.nil)) AllP.nil AllN.nil) Tryz.func272 fun x => f272_run K x.1
theorem f272_runs : Runs Tryz.prog 272 := runsB_ok (by kernel_rfl)
theorem f275_ok (K : Nat) : Sound Tryz.prog 275 (f275M K) :=
  sound_fn (envOK (E := (f275E K)) tab_ok mixed_ok AllOK.nil AllP.nil AllN.nil) Tryz.func275 fun x => f275_run K x.1 x.2.1
theorem f275_runs : Runs Tryz.prog 275 := runsB_ok (by kernel_rfl)
theorem f170_ok (K : Nat) : Sound Tryz.prog 170 (f170M K) :=
  sound_fn (envOK (E := (f170E K)) tab_ok mixed_ok AllOK.nil AllP.nil AllN.nil) Tryz.func170 fun x => f170_run K x.1 x.2.1
theorem f170_runs : Runs Tryz.prog 170 := runsB_ok (by kernel_rfl)
theorem f244_ok (K : Nat) : Sound Tryz.prog 244 (f244M K) :=
  sound_fn (envOK (E := (f244E K)) tab_ok mixed_ok (AllOK.cons (f170_ok K) f170_runs (AllOK.cons (f275_ok K) f275_runs AllOK.nil)) AllP.nil AllN.nil) Tryz.func244 fun x => f244_run K x.1 x.2.1
theorem f244_runs : Runs Tryz.prog 244 := runsB_ok (by kernel_rfl)
theorem f238_ok (K : Nat) : Sound Tryz.prog 238 (f238M K) :=
  sound_fn (envOK (E := (f238E K)) tab_ok mixed_ok (AllOK.cons (f190_ok K) f190_runs (AllOK.cons (f244_ok K) f244_runs (AllOK.cons (f272_ok K) f272_runs AllOK.nil))) AllP.nil AllN.nil) Tryz.func238 fun x => f238_run K x.1 x.2.1
theorem f238_runs : Runs Tryz.prog 238 := runsB_ok (by kernel_rfl)
theorem f192_ok (K : Nat) : Sound Tryz.prog 192 (f192M K) :=
  sound_fn (envOK (E := (f192E K)) tab_ok mixed_ok AllOK.nil AllP.nil AllN.nil) Tryz.func192 fun x => f192_run K x.1
theorem f192_runs : Runs Tryz.prog 192 := runsB_ok (by kernel_rfl)
theorem f241_ok (K : Nat) : Sound Tryz.prog 241 (f241M K) :=
  sound_fn (envOK (E := (f241E K)) tab_ok mixed_ok AllOK.nil AllP.nil AllN.nil) Tryz.func241 fun x => f241_run K x.1 x.2.1
theorem f241_runs : Runs Tryz.prog 241 := runsB_ok (by kernel_rfl)
theorem f242_runs : Runs Tryz.prog 242 := runsB_ok (by kernel_rfl)
theorem f242_okn (K : Nat) : ∀ n, Sound Tryz.prog 242 ⟨[(.ro, (.int .i64)), (.ro, (.int .i64))], [(.int .i64)], fun x => f242R K n x.1 x.2.1⟩
  | 0 => fun _ _ _ _ _ _ _ h => by cases h
  | n + 1 => sound_fn (envOK (E := f242E K (f242R K n)) tab_ok mixed_ok (AllOK.cons (f242_okn K n) f242_runs AllOK.nil) AllP.nil AllN.nil) Tryz.func242 fun x => f242_run K (f242R K n) x.1 x.2.1
theorem f242_ok (K : Nat) : Sound Tryz.prog 242 (f242M K) := f242_okn K K
theorem f180_ok (K : Nat) : Sound Tryz.prog 180 (f180M K) :=
  sound_fn (envOK (E := (f180E K)) tab_ok mixed_ok AllOK.nil AllP.nil AllN.nil) Tryz.func180 fun x => f180_run K x.1 x.2.1
theorem f180_runs : Runs Tryz.prog 180 := runsB_ok (by kernel_rfl)
theorem f243_ok (K : Nat) : Sound Tryz.prog 243 (f243M K) :=
  sound_fn (envOK (E := (f243E K)) tab_ok mixed_ok AllOK.nil AllP.nil AllN.nil) Tryz.func243 fun x => f243_run K x.1 x.2.1
theorem f243_runs : Runs Tryz.prog 243 := runsB_ok (by kernel_rfl)
theorem f194_ok (K : Nat) : Sound Tryz.prog 194 (f194M K) :=
  sound_fn (envOK (E := (f194E K)) tab_ok mixed_ok (AllOK.cons (f180_ok K) f180_runs (AllOK.cons (f242_ok K) f242_runs (AllOK.cons (f243_ok K) f243_runs AllOK.nil))) AllP.nil AllN.nil) Tryz.func194 fun x => f194_run K x.1
theorem f194_runs : Runs Tryz.prog 194 := runsB_ok (by kernel_rfl)
theorem f196_ok (K : Nat) : Sound Tryz.prog 196 (f196M K) :=
  sound_fn (envOK (E := (f196E K)) tab_ok mixed_ok (AllOK.cons (f192_ok K) f192_runs (AllOK.cons (f194_ok K) f194_runs (AllOK.cons (f241_ok K) f241_runs AllOK.nil))) AllP.nil AllN.nil) Tryz.func196 fun x => f196_run K x.1 x.2.1
theorem f196_runs : Runs Tryz.prog 196 := runsB_ok (by kernel_rfl)
theorem f184_ok (K : Nat) : Sound Tryz.prog 184 (f184M K) :=
  sound_fn (envOK (E := (f184E K)) tab_ok mixed_ok (AllOK.cons (f133_ok K) f133_runs (AllOK.cons (f196_ok K) f196_runs (AllOK.cons (f216_ok K) f216_runs (AllOK.cons (f238_ok K) f238_runs AllOK.nil)))) AllP.nil AllN.nil) Tryz.func184 fun x => f184_run K x.1 x.2.1 x.2.2.1
theorem f184_runs : Runs Tryz.prog 184 := runsB_ok (by kernel_rfl)
theorem f114_ok (K : Nat) : Sound Tryz.prog 114 (f114M K) :=
  sound_fn (envOK (E := (f114E K)) tab_ok mixed_ok (AllOK.cons (f180_ok K) f180_runs AllOK.nil) AllP.nil AllN.nil) Tryz.func114 fun x => f114_run K x.1 x.2.1
theorem f114_runs : Runs Tryz.prog 114 := runsB_ok (by kernel_rfl)
theorem f185_ok (K : Nat) : Sound Tryz.prog 185 (f185M K) :=
  sound_fn (envOK (E := (f185E K)) tab_ok mixed_ok (AllOK.cons (f114_ok K) f114_runs AllOK.nil) AllP.nil AllN.nil) Tryz.func185 fun x => f185_run K x.1 x.2.1
theorem f185_runs : Runs Tryz.prog 185 := runsB_ok (by kernel_rfl)
theorem f274_ok (K : Nat) : Sound Tryz.prog 274 (f274M K) :=
  sound_fn (envOK (E := (f274E K)) tab_ok mixed_ok AllOK.nil AllP.nil AllN.nil) Tryz.func274 fun x => f274_run K x.1
theorem f274_runs : Runs Tryz.prog 274 := runsB_ok (by kernel_rfl)
theorem f273_ok (K : Nat) : Sound Tryz.prog 273 (f273M K) :=
  sound_fn (envOK (E := (f273E K)) tab_ok mixed_ok AllOK.nil AllP.nil AllN.nil) Tryz.func273 fun x => f273_run K x.1 x.2.1
theorem f273_runs : Runs Tryz.prog 273 := runsB_ok (by kernel_rfl)
theorem f239_ok (K : Nat) : Sound Tryz.prog 239 (f239M K) :=
  sound_fn (envOK (E := (f239E K)) tab_ok mixed_ok (AllOK.cons (f273_ok K) f273_runs (AllOK.cons (f274_ok K) f274_runs AllOK.nil)) AllP.nil AllN.nil) Tryz.func239 fun x => f239_run K x.1 x.2.1
theorem f239_runs : Runs Tryz.prog 239 := runsB_ok (by kernel_rfl)
theorem f171_ok (K : Nat) : Sound Tryz.prog 171 (f171M K) :=
  sound_fn (envOK (E := (f171E K)) tab_ok mixed_ok AllOK.nil AllP.nil AllN.nil) Tryz.func171 fun x => f171_run K x.1 x.2.1
theorem f171_runs : Runs Tryz.prog 171 := runsB_ok (by kernel_rfl)
theorem f186_ok (K : Nat) : Sound Tryz.prog 186 (f186M K) :=
  sound_fn (envOK (E := (f186E K)) tab_ok mixed_ok (AllOK.cons (f171_ok K) f171_runs (AllOK.cons (f239_ok K) f239_runs AllOK.nil)) AllP.nil AllN.nil) Tryz.func186 fun x => f186_run K x.1 x.2.1
theorem f186_runs : Runs Tryz.prog 186 := runsB_ok (by kernel_rfl)
theorem f193_ok (K : Nat) : Sound Tryz.prog 193 (f193M K) :=
  sound_fn (envOK (E := (f193E K)) tab_ok mixed_ok AllOK.nil AllP.nil AllN.nil) Tryz.func193 fun x => f193_run K 
theorem f193_runs : Runs Tryz.prog 193 := runsB_ok (by kernel_rfl)
theorem f188_ok (K : Nat) : Sound Tryz.prog 188 (f188M K) :=
  sound_fn (envOK (E := (f188E K)) tab_ok mixed_ok (AllOK.cons (f193_ok K) f193_runs AllOK.nil) AllP.nil AllN.nil) Tryz.func188 fun x => f188_run K 
theorem f188_runs : Runs Tryz.prog 188 := runsB_ok (by kernel_rfl)
theorem f222_ok (K : Nat) : Sound Tryz.prog 222 (f222M K) :=
  sound_fn (envOK (E := (f222E K)) tab_ok mixed_ok (AllOK.cons (f186_ok K) f186_runs AllOK.nil) AllP.nil AllN.nil) Tryz.func222 fun x => f222_run K x.1 x.2.1
theorem f222_runs : Runs Tryz.prog 222 := runsB_ok (by kernel_rfl)
theorem f187_ok (K : Nat) : Sound Tryz.prog 187 (f187M K) :=
  sound_fn (envOK (E := (f187E K)) tab_ok mixed_ok (AllOK.cons (f222_ok K) f222_runs AllOK.nil) AllP.nil AllN.nil) Tryz.func187 fun x => f187_run K x.1 x.2.1
theorem f187_runs : Runs Tryz.prog 187 := runsB_ok (by kernel_rfl)
theorem f240_ok (K : Nat) : Sound Tryz.prog 240 (f240M K) :=
  sound_fn (envOK (E := (f240E K)) tab_ok mixed_ok AllOK.nil AllP.nil AllN.nil) Tryz.func240 fun x => f240_run K x.1 x.2.1
theorem f240_runs : Runs Tryz.prog 240 := runsB_ok (by kernel_rfl)
theorem f189_ok (K : Nat) : Sound Tryz.prog 189 (f189M K) :=
  sound_fn (envOK (E := (f189E K)) tab_ok mixed_ok (AllOK.cons (f170_ok K) f170_runs (AllOK.cons (f240_ok K) f240_runs (AllOK.cons (f241_ok K) f241_runs AllOK.nil))) AllP.nil AllN.nil) Tryz.func189 fun x => f189_run K x.1 x.2.1
theorem f189_runs : Runs Tryz.prog 189 := runsB_ok (by kernel_rfl)
theorem f128_ok (K : Nat) : Sound Tryz.prog 128 (f128M K) :=
  sound_fn (envOK (E := (f128E K)) tab_ok mixed_ok (AllOK.cons (f133_ok K) f133_runs (AllOK.cons (f184_ok K) f184_runs (AllOK.cons (f185_ok K) f185_runs (AllOK.cons (f186_ok K) f186_runs (AllOK.cons (f187_ok K) f187_runs (AllOK.cons (f188_ok K) f188_runs (AllOK.cons (f189_ok K) f189_runs AllOK.nil))))))) AllP.nil AllN.nil) Tryz.func128 fun x => f128_run K x.1 x.2.1 x.2.2.1
theorem f128_runs : Runs Tryz.prog 128 := runsB_ok (by kernel_rfl)
theorem f127_ok (K : Nat) : Sound Tryz.prog 127 (f127M K) :=
  sound_fn (envOK (E := (f127E K)) tab_ok mixed_ok (AllOK.cons (f133_ok K) f133_runs AllOK.nil) AllP.nil AllN.nil) Tryz.func127 fun x => f127_run K x.1 x.2.1 x.2.2.1
theorem f127_runs : Runs Tryz.prog 127 := runsB_ok (by kernel_rfl)
theorem f58_ok (K : Nat) : Sound Tryz.prog 58 (f58M K) :=
  sound_fn (envOK (E := (f58E K)) tab_ok mixed_ok (AllOK.cons (f127_ok K) f127_runs (AllOK.cons (f128_ok K) f128_runs AllOK.nil)) AllP.nil AllN.nil) Tryz.func58 fun x => f58_run K x.1 x.2.1 x.2.2.1 x.2.2.2.1
theorem f58_runs : Runs Tryz.prog 58 := runsB_ok (by kernel_rfl)
theorem f129_ok (K : Nat) : Sound Tryz.prog 129 (f129M K) :=
  sound_fn (envOK (E := (f129E K)) tab_ok mixed_ok AllOK.nil AllP.nil AllN.nil) Tryz.func129 fun x => f129_run K x.1
theorem f129_runs : Runs Tryz.prog 129 := runsB_ok (by kernel_rfl)
theorem f197_ok (K : Nat) : Sound Tryz.prog 197 (f197M K) :=
  sound_fn (envOK (E := (f197E K)) tab_ok mixed_ok (AllOK.cons (f170_ok K) f170_runs (AllOK.cons (f241_ok K) f241_runs AllOK.nil)) AllP.nil AllN.nil) Tryz.func197 fun x => f197_run K x.1 x.2.1
theorem f197_runs : Runs Tryz.prog 197 := runsB_ok (by kernel_rfl)
theorem f147_ok (K : Nat) : Sound Tryz.prog 147 (f147M K) :=
  sound_fn (envOK (E := (f147E K)) tab_ok mixed_ok (AllOK.cons (f114_ok K) f114_runs (AllOK.cons (f197_ok K) f197_runs AllOK.nil)) AllP.nil AllN.nil) Tryz.func147 fun x => f147_run K x.1 x.2.1 x.2.2.1
theorem f147_runs : Runs Tryz.prog 147 := runsB_ok (by kernel_rfl)
theorem f100_ok (K : Nat) : Sound Tryz.prog 100 (f100M K) :=
  sound_fn (envOK (E := (f100E K)) tab_ok mixed_ok (AllOK.cons (f171_ok K) f171_runs AllOK.nil) AllP.nil AllN.nil) Tryz.func100 fun x => f100_run K x.1 x.2.1
theorem f100_runs : Runs Tryz.prog 100 := runsB_ok (by kernel_rfl)
theorem f77_ok (K : Nat) : Sound Tryz.prog 77 (f77M K) :=
  sound_fn (envOK (E := (f77E K)) tab_ok mixed_ok (AllOK.cons (f100_ok K) f100_runs (AllOK.cons (f147_ok K) f147_runs AllOK.nil)) AllP.nil AllN.nil) Tryz.func77 fun x => f77_run K x.1 x.2.1 x.2.2.1
theorem f77_runs : Runs Tryz.prog 77 := runsB_ok (by kernel_rfl)
theorem f60_ok (K : Nat) : Sound Tryz.prog 60 (f60M K) :=
  sound_fn (envOK (E := (f60E K)) tab_ok mixed_ok (AllOK.cons (f77_ok K) f77_runs (AllOK.cons (f129_ok K) f129_runs AllOK.nil)) AllP.nil AllN.nil) Tryz.func60 fun x => f60_run K x.1 x.2.1
theorem f60_runs : Runs Tryz.prog 60 := runsB_ok (by kernel_rfl)
theorem f98_ok (K : Nat) : Sound Tryz.prog 98 (f98M K) :=
  sound_fn (envOK (E := (f98E K)) tab_ok mixed_ok (AllOK.cons (f58_ok K) f58_runs (AllOK.cons (f60_ok K) f60_runs AllOK.nil)) AllP.nil AllN.nil) Tryz.func98 fun x => f98_run K x.1 x.2.1 x.2.2.1
theorem f98_runs : Runs Tryz.prog 98 := runsB_ok (by kernel_rfl)
theorem f78_ok (K : Nat) : Sound Tryz.prog 78 (f78M K) :=
  sound_fn (envOK (E := (f78E K)) tab_ok mixed_ok (AllOK.cons (f114_ok K) f114_runs AllOK.nil) AllP.nil AllN.nil) Tryz.func78 fun x => f78_run K x.1 x.2.1
theorem f78_runs : Runs Tryz.prog 78 := runsB_ok (by kernel_rfl)
theorem f85_ok (K : Nat) : Sound Tryz.prog 85 (f85M K) :=
  sound_fn (envOK (E := (f85E K)) tab_ok mixed_ok (AllOK.cons (f60_ok K) f60_runs (AllOK.cons (f78_ok K) f78_runs AllOK.nil)) AllP.nil AllN.nil) Tryz.func85 fun x => f85_run K x.1 x.2.1
theorem f85_runs : Runs Tryz.prog 85 := runsB_ok (by kernel_rfl)
theorem f169_ok (K : Nat) : Sound Tryz.prog 169 (f169M K) :=
  sound_fn (envOK (E := (f169E K)) tab_ok mixed_ok AllOK.nil AllP.nil AllN.nil) Tryz.func169 fun x => f169_run K 
theorem f169_runs : Runs Tryz.prog 169 := runsB_ok (by kernel_rfl)
theorem f99_ok (K : Nat) : Sound Tryz.prog 99 (f99M K) :=
  sound_fn (envOK (E := (f99E K)) tab_ok mixed_ok (AllOK.cons (f78_ok K) f78_runs (AllOK.cons (f129_ok K) f129_runs (AllOK.cons (f169_ok K) f169_runs (AllOK.cons (f170_ok K) f170_runs AllOK.nil)))) AllP.nil AllN.nil) Tryz.func99 fun x => f99_run K x.1 x.2.1 x.2.2.1
theorem f99_runs : Runs Tryz.prog 99 := runsB_ok (by kernel_rfl)
theorem f45_ok (K : Nat) : Sound Tryz.prog 45 (f45M K) :=
  sound_fn (envOK (E := (f45E K)) tab_ok mixed_ok (AllOK.cons (f85_ok K) f85_runs (AllOK.cons (f98_ok K) f98_runs (AllOK.cons (f99_ok K) f99_runs (AllOK.cons (f100_ok K) f100_runs AllOK.nil)))) AllP.nil AllN.nil) Tryz.func45 fun x => f45_run K x.1 x.2.1 x.2.2.1
theorem f45_runs : Runs Tryz.prog 45 := runsB_ok (by kernel_rfl)
theorem f63_ok (K : Nat) : Sound Tryz.prog 63 (f63M K) :=
  sound_fn (envOK (E := (f63E K)) tab_ok mixed_ok AllOK.nil AllP.nil AllN.nil) Tryz.func63 fun x => f63_run K x.1 x.2.1 x.2.2.1
theorem f63_runs : Runs Tryz.prog 63 := runsB_ok (by kernel_rfl)
theorem f138_ok (K : Nat) : Sound Tryz.prog 138 (f138M K) :=
  sound_fn (envOK (E := (f138E K)) tab_ok mixed_ok (AllOK.cons (f63_ok K) f63_runs AllOK.nil) AllP.nil AllN.nil) Tryz.func138 fun x => f138_run K x.1
theorem f138_runs : Runs Tryz.prog 138 := runsB_ok (by kernel_rfl)
theorem f140_ok (K : Nat) : Sound Tryz.prog 140 (f140M K) :=
  sound_fn (envOK (E := (f140E K)) tab_ok mixed_ok AllOK.nil AllP.nil AllN.nil) Tryz.func140 fun x => f140_run K x.1
theorem f140_runs : Runs Tryz.prog 140 := runsB_ok (by kernel_rfl)
theorem f139_ok (K : Nat) : Sound Tryz.prog 139 (f139M K) :=
  sound_fn (envOK (E := (f139E K)) tab_ok mixed_ok (AllOK.cons (f63_ok K) f63_runs (AllOK.cons (f140_ok K) f140_runs AllOK.nil)) AllP.nil AllN.nil) Tryz.func139 fun x => f139_run K x.1
theorem f139_runs : Runs Tryz.prog 139 := runsB_ok (by kernel_rfl)
theorem f155_ok (K : Nat) : Sound Tryz.prog 155 (f155M K) :=
  sound_fn (envOK (E := (f155E K)) tab_ok mixed_ok (AllOK.cons (f138_ok K) f138_runs (AllOK.cons (f139_ok K) f139_runs AllOK.nil)) AllP.nil AllN.nil) Tryz.func155 fun x => f155_run K x.1 x.2.1
theorem f155_runs : Runs Tryz.prog 155 := runsB_ok (by kernel_rfl)
theorem f198_ok (K : Nat) : Sound Tryz.prog 198 (f198M K) :=
  sound_fn (envOK (E := (f198E K)) tab_ok mixed_ok AllOK.nil AllP.nil AllN.nil) Tryz.func198 fun x => f198_run K x.1
theorem f198_runs : Runs Tryz.prog 198 := runsB_ok (by kernel_rfl)
theorem f206_ok (K : Nat) : Sound Tryz.prog 206 (f206M K) :=
  sound_fn (envOK (E := (f206E K)) tab_ok mixed_ok AllOK.nil AllP.nil AllN.nil) Tryz.func206 fun x => f206_run K x.1 x.2.1
theorem f206_runs : Runs Tryz.prog 206 := runsB_ok (by kernel_rfl)
theorem f250_ok (K : Nat) : Sound Tryz.prog 250 (f250M K) :=
  sound_fn (envOK (E := (f250E K)) tab_ok mixed_ok AllOK.nil AllP.nil AllN.nil) Tryz.func250 fun x => f250_run K x.1 x.2.1
theorem f250_runs : Runs Tryz.prog 250 := runsB_ok (by kernel_rfl)
theorem f203_ok (K : Nat) : Sound Tryz.prog 203 (f203M K) :=
  sound_fn (envOK (E := (f203E K)) tab_ok mixed_ok (AllOK.cons (f206_ok K) f206_runs (AllOK.cons (f250_ok K) f250_runs AllOK.nil)) AllP.nil AllN.nil) Tryz.func203 fun x => f203_run K x.1
theorem f203_runs : Runs Tryz.prog 203 := runsB_ok (by kernel_rfl)
theorem f183_ok (K : Nat) : Sound Tryz.prog 183 (f183M K) :=
  sound_fn (envOK (E := (f183E K)) tab_ok mixed_ok AllOK.nil AllP.nil AllN.nil) Tryz.func183 fun x => f183_run K x.1 x.2.1
theorem f183_runs : Runs Tryz.prog 183 := runsB_ok (by kernel_rfl)
theorem f119_ok (K : Nat) : Sound Tryz.prog 119 (f119M K) :=
  sound_fn (envOK (E := (f119E K)) tab_ok mixed_ok (AllOK.cons (f183_ok K) f183_runs AllOK.nil) AllP.nil AllN.nil) Tryz.func119 fun x => f119_run K x.1 x.2.1
theorem f119_runs : Runs Tryz.prog 119 := runsB_ok (by kernel_rfl)
theorem f205_ok (K : Nat) : Sound Tryz.prog 205 (f205M K) :=
  sound_fn (envOK (E := (f205E K)) tab_ok mixed_ok (AllOK.cons (f119_ok K) f119_runs AllOK.nil) AllP.nil AllN.nil) Tryz.func205 fun x => f205_run K x.1 x.2.1
theorem f205_runs : Runs Tryz.prog 205 := runsB_ok (by kernel_rfl)
theorem f204_ok (K : Nat) : Sound Tryz.prog 204 (f204M K) :=
  sound_fn (envOK (E := (f204E K)) tab_ok mixed_ok (AllOK.cons (f205_ok K) f205_runs (AllOK.cons (f206_ok K) f206_runs AllOK.nil)) AllP.nil AllN.nil) Tryz.func204 fun x => f204_run K x.1 x.2.1 x.2.2.1 x.2.2.2.1
theorem f204_runs : Runs Tryz.prog 204 := runsB_ok (by kernel_rfl)
theorem f249_ok (K : Nat) : Sound Tryz.prog 249 (f249M K) :=
  sound_fn (envOK (E := (f249E K)) tab_ok mixed_ok AllOK.nil AllP.nil AllN.nil) Tryz.func249 fun x => f249_run K x.1 x.2.1
theorem f249_runs : Runs Tryz.prog 249 := runsB_ok (by kernel_rfl)
theorem f202_ok (K : Nat) : Sound Tryz.prog 202 (f202M K) :=
  sound_fn (envOK (E := (f202E K)) tab_ok mixed_ok (AllOK.cons (f249_ok K) f249_runs AllOK.nil) AllP.nil AllN.nil) Tryz.func202 fun x => f202_run K x.1 x.2.1
theorem f202_runs : Runs Tryz.prog 202 := runsB_ok (by kernel_rfl)
theorem f144_ok (K : Nat) : Sound Tryz.prog 144 (f144M K) :=
  sound_fn (envOK (E := (f144E K)) tab_ok mixed_ok (AllOK.cons (f198_ok K) f198_runs (AllOK.cons (f202_ok K) f202_runs (AllOK.cons (f203_ok K) f203_runs (AllOK.cons (f204_ok K) f204_runs AllOK.nil)))) AllP.nil AllN.nil) Tryz.func144 fun x => f144_run K x.1 x.2.1
theorem f144_runs : Runs Tryz.prog 144 := runsB_ok (by kernel_rfl)
theorem f251_ok (K : Nat) : Sound Tryz.prog 251 (f251M K) :=
  sound_fn (envOK (E := (f251E K)) tab_ok mixed_ok AllOK.nil AllP.nil AllN.nil) Tryz.func251 fun x => f251_run K x.1 x.2.1
theorem f251_runs : Runs Tryz.prog 251 := runsB_ok (by kernel_rfl)
theorem f209_ok (K : Nat) : Sound Tryz.prog 209 (f209M K) :=
  sound_fn (envOK (E := (f209E K)) tab_ok mixed_ok (AllOK.cons (f251_ok K) f251_runs AllOK.nil) AllP.nil AllN.nil) Tryz.func209 fun x => f209_run K x.1 x.2.1
theorem f209_runs : Runs Tryz.prog 209 := runsB_ok (by kernel_rfl)
theorem f179_ok (K : Nat) : Sound Tryz.prog 179 (f179M K) :=
  sound_fn (envOK (E := (f179E K)) tab_ok mixed_ok AllOK.nil AllP.nil AllN.nil) Tryz.func179 fun x => f179_run K x.1 x.2.1
theorem f179_runs : Runs Tryz.prog 179 := runsB_ok (by kernel_rfl)
theorem f252_ok (K : Nat) : Sound Tryz.prog 252 (f252M K) :=
  sound_fn (envOK (E := (f252E K)) tab_ok mixed_ok (AllOK.cons (f179_ok K) f179_runs AllOK.nil) AllP.nil AllN.nil) Tryz.func252 fun x => f252_run K x.1 x.2.1
theorem f252_runs : Runs Tryz.prog 252 := runsB_ok (by kernel_rfl)
theorem f111_ok (K : Nat) : Sound Tryz.prog 111 (f111M K) :=
  sound_fn (envOK (E := (f111E K)) tab_ok mixed_ok (AllOK.cons (f179_ok K) f179_runs AllOK.nil) AllP.nil AllN.nil) Tryz.func111 fun x => f111_run K x.1 x.2.1
theorem f111_runs : Runs Tryz.prog 111 := runsB_ok (by kernel_rfl)
theorem f210_ok (K : Nat) : Sound Tryz.prog 210 (f210M K) :=
  sound_fn (envOK (E := (f210E K)) tab_ok mixed_ok (AllOK.cons (f111_ok K) f111_runs (AllOK.cons (f252_ok K) f252_runs AllOK.nil)) AllP.nil AllN.nil) Tryz.func210 fun x => f210_run K x.1 x.2.1
theorem f210_runs : Runs Tryz.prog 210 := runsB_ok (by kernel_rfl)
theorem f199_ok (K : Nat) : Sound Tryz.prog 199 (f199M K) :=
  sound_fn (envOK (E := (f199E K)) tab_ok mixed_ok AllOK.nil AllP.nil AllN.nil) Tryz.func199 fun x => f199_run K 
theorem f199_runs : Runs Tryz.prog 199 := runsB_ok (by kernel_rfl)
theorem f253_ok (K : Nat) : Sound Tryz.prog 253 (f253M K) :=
  sound_fn (envOK (E := (f253E K)) tab_ok mixed_ok AllOK.nil AllP.nil AllN.nil) Tryz.func253 fun x => f253_run K x.1 x.2.1
theorem f253_runs : Runs Tryz.prog 253 := runsB_ok (by kernel_rfl)
theorem f174_ok (K : Nat) : Sound Tryz.prog 174 (f174M K) :=
  sound_fn (envOK (E := (f174E K)) tab_ok mixed_ok AllOK.nil AllP.nil AllN.nil) Tryz.func174 fun x => f174_run K x.1 x.2.1
theorem f174_runs : Runs Tryz.prog 174 := runsB_ok (by kernel_rfl)
theorem f212_ok (K : Nat) : Sound Tryz.prog 212 (f212M K) :=
  sound_fn (envOK (E := (f212E K)) tab_ok mixed_ok (AllOK.cons (f174_ok K) f174_runs (AllOK.cons (f206_ok K) f206_runs (AllOK.cons (f253_ok K) f253_runs AllOK.nil))) AllP.nil AllN.nil) Tryz.func212 fun x => f212_run K x.1 x.2.1
theorem f212_runs : Runs Tryz.prog 212 := runsB_ok (by kernel_rfl)
theorem f211_ok (K : Nat) : Sound Tryz.prog 211 (f211M K) :=
  sound_fn (envOK (E := (f211E K)) tab_ok mixed_ok (AllOK.cons (f119_ok K) f119_runs AllOK.nil) AllP.nil AllN.nil) Tryz.func211 fun x => f211_run K x.1 x.2.1
theorem f211_runs : Runs Tryz.prog 211 := runsB_ok (by kernel_rfl)
theorem f148_ok (K : Nat) : Sound Tryz.prog 148 (f148M K) :=
  sound_fn (envOK (E := (f148E K)) tab_ok mixed_ok (AllOK.cons (f119_ok K) f119_runs (AllOK.cons (f144_ok K) f144_runs (AllOK.cons (f199_ok K) f199_runs (AllOK.cons (f209_ok K) f209_runs (AllOK.cons (f210_ok K) f210_runs (AllOK.cons (f211_ok K) f211_runs (AllOK.cons (f212_ok K) f212_runs AllOK.nil))))))) AllP.nil AllN.nil) Tryz.func148 fun x => f148_run K x.1 x.2.1 x.2.2.1
theorem f148_runs : Runs Tryz.prog 148 := runsB_ok (by kernel_rfl)
theorem f92_ok (K : Nat) : Sound Tryz.prog 92 (f92M K) :=
  sound_fn (envOK (E := (f92E K)) tab_ok mixed_ok (AllOK.cons (f148_ok K) f148_runs (AllOK.cons (f155_ok K) f155_runs AllOK.nil)) AllP.nil AllN.nil) Tryz.func92 fun x => f92_run K x.1 x.2.1 x.2.2.1
theorem f92_runs : Runs Tryz.prog 92 := runsB_ok (by kernel_rfl)
def f201_ren : Go.Shelf.Ren := ⟨fun | 212 => 201 | 263 => 247 | 264 => 248 | n => n, fun | 46 => 182 | 51 => 227 | 53 => 229 | 146 => 244 | 148 => 246 | n => n, fun n => n⟩
theorem f201_lays : Lays.n212 Tryz.prog f201_ren where
  mixed := by kernel_rfl
  f212 := Tryz.func201.trans (congrArg some (by kernel_rfl))
  f263 := Tryz.func247.trans (congrArg some (by kernel_rfl))
  f264 := Tryz.func248.trans (congrArg some (by kernel_rfl))
  t46 := Tryz.underlying182
  a46 := Tryz.isAgg182
  z46 := Tryz.sizeOf182
  v46 := Tryz.zeroValue182
  t51 := Tryz.underlying227
  a51 := Tryz.isAgg227
  z51 := Tryz.sizeOf227
  v51 := Tryz.zeroValue227
  t53 := Tryz.underlying229
  a53 := Tryz.isAgg229
  z53 := Tryz.sizeOf229
  v53 := Tryz.zeroValue229
  t146 := Tryz.underlying244
  a146 := Tryz.isAgg244
  z146 := Tryz.sizeOf244
  v146 := Tryz.zeroValue244
  t148 := Tryz.underlying246
  a148 := Tryz.isAgg246
  z148 := Tryz.sizeOf246
  v148 := Tryz.zeroValue246
theorem f201_ok (K : Nat) : Sound Tryz.prog 201 (f201M K) := mul_sound f201_lays rfl
theorem f201_runs : Runs Tryz.prog 201 := runsB_ok (by kernel_rfl)
theorem f143_ok (K : Nat) : Sound Tryz.prog 143 (f143M K) :=
  sound_fn (envOK (E := (f143E K)) tab_ok mixed_ok (AllOK.cons (f201_ok K) f201_runs AllOK.nil) AllP.nil AllN.nil) Tryz.func143 fun x => f143_run K x.1 x.2.1
theorem f143_runs : Runs Tryz.prog 143 := runsB_ok (by kernel_rfl)
theorem f108_ok (K : Nat) : Sound Tryz.prog 108 (f108M K) :=
  sound_fn (envOK (E := (f108E K)) tab_ok mixed_ok AllOK.nil AllP.nil AllN.nil) Tryz.func108 fun x => f108_run K x.1
theorem f108_runs : Runs Tryz.prog 108 := runsB_ok (by kernel_rfl)
theorem f82_ok (K : Nat) : Sound Tryz.prog 82 (f82M K) :=
  sound_fn (envOK (E := (f82E K)) tab_ok mixed_ok AllOK.nil AllP.nil AllN.nil) Tryz.func82 fun x => f82_run K x.1 x.2.1
theorem f82_runs : Runs Tryz.prog 82 := runsB_ok (by kernel_rfl)
theorem f207_ok (K : Nat) : Sound Tryz.prog 207 (f207M K) :=
  sound_fn (envOK (E := (f207E K)) tab_ok mixed_ok (AllOK.cons (f174_ok K) f174_runs (AllOK.cons (f206_ok K) f206_runs AllOK.nil)) AllP.nil AllN.nil) Tryz.func207 fun x => f207_run K x.1 x.2.1
theorem f207_runs : Runs Tryz.prog 207 := runsB_ok (by kernel_rfl)
theorem f150_ok (K : Nat) : Sound Tryz.prog 150 (f150M K) :=
  sound_fn (envOK (E := (f150E K)) tab_ok mixed_ok (AllOK.cons (f119_ok K) f119_runs (AllOK.cons (f207_ok K) f207_runs AllOK.nil)) AllP.nil AllN.nil) Tryz.func150 fun x => f150_run K x.1 x.2.1 x.2.2.1
theorem f150_runs : Runs Tryz.prog 150 := runsB_ok (by kernel_rfl)
def f110_ren : Go.Shelf.Ren := ⟨fun | 6 => 110 | 14 => 177 | 15 => 178 | 20 => 228 | 21 => 229 | 22 => 230 | 23 => 231 | 24 => 232 | 25 => 233 | 26 => 234 | 27 => 235 | 28 => 236 | 29 => 237 | 46 => 267 | 47 => 268 | 48 => 269 | 49 => 270 | 50 => 271 | 57 => 280 | n => n, fun | 0 => 0 | 3 => 3 | 4 => 4 | 5 => 5 | 9 => 9 | 22 => 72 | 24 => 53 | 25 => 145 | 39 => 182 | 45 => 232 | 46 => 233 | 50 => 237 | 53 => 227 | 55 => 229 | 66 => 260 | 70 => 264 | 76 => 270 | 77 => 271 | n => n, fun n => n⟩
theorem f110_lays : SlLaysF0.n6 Tryz.prog f110_ren where
  mixed := by kernel_rfl
  f6 := ⟨ "slices.SortFunc[[]loop.example/g00943/impl.Vec,loop.example/g00943/impl.Vec]", by decide, Tryz.func110.trans (congrArg some (by kernel_rfl))⟩
  f14 := ⟨ "slices.pdqsortCmpFunc[loop.example/g00943/impl.Vec]", by decide, Tryz.func177.trans (congrArg some (by kernel_rfl))⟩
  f15 := Tryz.func178.trans (congrArg some (by kernel_rfl))
  f20 := ⟨ "slices.insertionSortCmpFunc[loop.example/g00943/impl.Vec]", by decide, Tryz.func228.trans (congrArg some (by kernel_rfl))⟩
  f21 := ⟨ "slices.heapSortCmpFunc[loop.example/g00943/impl.Vec]", by decide, Tryz.func229.trans (congrArg some (by kernel_rfl))⟩
  f22 := ⟨ "slices.breakPatternsCmpFunc[loop.example/g00943/impl.Vec]", by decide, Tryz.func230.trans (congrArg some (by kernel_rfl))⟩
  f23 := ⟨ "slices.choosePivotCmpFunc[loop.example/g00943/impl.Vec]", by decide, Tryz.func231.trans (congrArg some (by kernel_rfl))⟩
  f24 := ⟨ "slices.reverseRangeCmpFunc[loop.example/g00943/impl.Vec]", by decide, Tryz.func232.trans (congrArg some (by kernel_rfl))⟩
  f25 := ⟨ "slices.partialInsertionSortCmpFunc[loop.example/g00943/impl.Vec]", by decide, Tryz.func233.trans (congrArg some (by kernel_rfl))⟩
  f26 := ⟨ "slices.partitionEqualCmpFunc[loop.example/g00943/impl.Vec]", by decide, Tryz.func234.trans (congrArg some (by kernel_rfl))⟩
  f27 := ⟨ "slices.partitionCmpFunc[loop.example/g00943/impl.Vec]", by decide, Tryz.func235.trans (congrArg some (by kernel_rfl))⟩
  f28 := Tryz.func236.trans (congrArg some (by kernel_rfl))
  f29 := Tryz.func237.trans (congrArg some (by kernel_rfl))
  f46 := ⟨ "slices.siftDownCmpFunc[loop.example/g00943/impl.Vec]", by decide, Tryz.func267.trans (congrArg some (by kernel_rfl))⟩
  f47 := Tryz.func268.trans (congrArg some (by kernel_rfl))
  f48 := Tryz.func269.trans (congrArg some (by kernel_rfl))
  f49 := ⟨ "slices.medianAdjacentCmpFunc[loop.example/g00943/impl.Vec]", by decide, Tryz.func270.trans (congrArg some (by kernel_rfl))⟩
  f50 := ⟨ "slices.medianCmpFunc[loop.example/g00943/impl.Vec]", by decide, Tryz.func271.trans (congrArg some (by kernel_rfl))⟩
  f57 := ⟨ "slices.order2CmpFunc[loop.example/g00943/impl.Vec]", by decide, Tryz.func280.trans (congrArg some (by kernel_rfl))⟩
  t0 := Tryz.underlying0
  a0 := Tryz.isAgg0
  z0 := Tryz.sizeOf0
  v0 := Tryz.zeroValue0
  t3 := Tryz.underlying3
  a3 := Tryz.isAgg3
  z3 := Tryz.sizeOf3
  v3 := Tryz.zeroValue3
  t4 := Tryz.underlying4
  a4 := Tryz.isAgg4
  z4 := Tryz.sizeOf4
  v4 := Tryz.zeroValue4
  t5 := Tryz.underlying5
  a5 := Tryz.isAgg5
  z5 := Tryz.sizeOf5
  v5 := Tryz.zeroValue5
  t9 := Tryz.underlying9
  a9 := Tryz.isAgg9
  z9 := Tryz.sizeOf9
  v9 := Tryz.zeroValue9
  t22 := Tryz.underlying72
  a22 := Tryz.isAgg72
  z22 := Tryz.sizeOf72
  v22 := Tryz.zeroValue72
  t25 := Tryz.underlying145
  a25 := Tryz.isAgg145
  z25 := Tryz.sizeOf145
  v25 := Tryz.zeroValue145
  t39 := Tryz.underlying182
  a39 := Tryz.isAgg182
  z39 := Tryz.sizeOf182
  v39 := Tryz.zeroValue182
  t45 := Tryz.underlying232
  a45 := Tryz.isAgg232
  z45 := Tryz.sizeOf232
  v45 := Tryz.zeroValue232
  t46 := Tryz.underlying233
  a46 := Tryz.isAgg233
  z46 := Tryz.sizeOf233
  v46 := Tryz.zeroValue233
  t50 := Tryz.underlying237
  a50 := Tryz.isAgg237
  z50 := Tryz.sizeOf237
  v50 := Tryz.zeroValue237
  t53 := Tryz.underlying227
  a53 := Tryz.isAgg227
  z53 := Tryz.sizeOf227
  v53 := Tryz.zeroValue227
  t55 := Tryz.underlying229
  a55 := Tryz.isAgg229
  z55 := Tryz.sizeOf229
  v55 := Tryz.zeroValue229
  t66 := Tryz.underlying260
  a66 := Tryz.isAgg260
  z66 := Tryz.sizeOf260
  v66 := Tryz.zeroValue260
  t70 := Tryz.underlying264
  a70 := Tryz.isAgg264
  z70 := Tryz.sizeOf264
  v70 := Tryz.zeroValue264
  t76 := Tryz.underlying270
  a76 := Tryz.isAgg270
  z76 := Tryz.sizeOf270
  v76 := Tryz.zeroValue270
  t77 := Tryz.underlying271
  a77 := Tryz.isAgg271
  z77 := Tryz.sizeOf271
  v77 := Tryz.zeroValue271
theorem f110_ok (K : Nat) : Sound Tryz.prog 110 (f110M K) := sort_sound (e := 53) (s := (.cons (.int .i64) (.int .i64))) f110_lays rfl rfl rfl Tryz.isAgg53 Tryz.sizeOf53
theorem f110_runs : Runs Tryz.prog 110 := runsB_ok (by kernel_rfl)
theorem f151_ok (K : Nat) : Sound Tryz.prog 151 (f151M K) :=
  sound_fn (envOK (E := (f151E K)) tab_ok mixed_ok AllOK.nil AllP.nil AllN.nil) Tryz.func151 fun x => f151_run K x.1
theorem f151_runs : Runs Tryz.prog 151 := runsB_ok (by kernel_rfl)
theorem f80_ok (K : Nat) : Sound Tryz.prog 80 (f80M K) :=
  sound_fn (envOK (E := (f80E K)) tab_ok mixed_ok (AllOK.cons (f110_ok K) f110_runs (AllOK.cons (f111_ok K) f111_runs (AllOK.cons (f150_ok K) f150_runs (AllOK.cons (f151_ok K) f151_runs AllOK.nil)))) AllP.nil AllN.nil) Tryz.func80 fun x => f80_run K x.1 x.2.1 x.2.2.1
theorem f80_runs : Runs Tryz.prog 80 := runsB_ok (by kernel_rfl)
theorem f72_ok (K : Nat) : Sound Tryz.prog 72 (f72M K) :=
  sound_fn (envOK (E := (f72E K)) tab_ok mixed_ok (AllOK.cons (f80_ok K) f80_runs (AllOK.cons (f82_ok K) f82_runs (AllOK.cons (f108_ok K) f108_runs (AllOK.cons (f140_ok K) f140_runs (AllOK.cons (f143_ok K) f143_runs AllOK.nil))))) AllP.nil AllN.nil) Tryz.func72 fun x => f72_run K x.1 x.2.1
theorem f72_runs : Runs Tryz.prog 72 := runsB_ok (by kernel_rfl)
theorem f173_ok (K : Nat) : Sound Tryz.prog 173 (f173M K) :=
  sound_fn (envOK (E := (f173E K)) tab_ok mixed_ok AllOK.nil AllP.nil AllN.nil) Tryz.func173 fun x => f173_run K x.1 x.2.1
theorem f173_runs : Runs Tryz.prog 173 := runsB_ok (by kernel_rfl)
theorem f181_ok (K : Nat) : Sound Tryz.prog 181 (f181M K) :=
  sound_fn (envOK (E := (f181E K)) tab_ok mixed_ok AllOK.nil AllP.nil AllN.nil) Tryz.func181 fun x => f181_run K x.1 x.2.1
theorem f181_runs : Runs Tryz.prog 181 := runsB_ok (by kernel_rfl)
theorem f172_ok (K : Nat) : Sound Tryz.prog 172 (f172M K) :=
  sound_fn (envOK (E := (f172E K)) tab_ok mixed_ok (AllOK.cons (f181_ok K) f181_runs AllOK.nil) AllP.nil AllN.nil) Tryz.func172 fun x => f172_run K x.1 x.2.1
theorem f172_runs : Runs Tryz.prog 172 := runsB_ok (by kernel_rfl)
theorem f101_ok (K : Nat) : Sound Tryz.prog 101 (f101M K) :=
  sound_fn (envOK (E := (f101E K)) tab_ok mixed_ok (AllOK.cons (f72_ok K) f72_runs (AllOK.cons (f92_ok K) f92_runs (AllOK.cons (f172_ok K) f172_runs (AllOK.cons (f173_ok K) f173_runs AllOK.nil)))) AllP.nil AllN.nil) Tryz.func101 fun x => f101_run K x.1 x.2.1 x.2.2.1
theorem f101_runs : Runs Tryz.prog 101 := runsB_ok (by kernel_rfl)
theorem f104_ok (K : Nat) : Sound Tryz.prog 104 (f104M K) :=
  sound_fn (envOK (E := (f104E K)) tab_ok mixed_ok (AllOK.cons (f174_ok K) f174_runs AllOK.nil) AllP.nil AllN.nil) Tryz.func104 fun x => f104_run K x.1
theorem f104_runs : Runs Tryz.prog 104 := runsB_ok (by kernel_rfl)
theorem f175_ok (K : Nat) : Sound Tryz.prog 175 (f175M K) :=
  sound_fn (envOK (E := (f175E K)) tab_ok mixed_ok AllOK.nil AllP.nil AllN.nil) Tryz.func175 fun x => f175_run K x.1 x.2.1
theorem f175_runs : Runs Tryz.prog 175 := runsB_ok (by kernel_rfl)
theorem f106_ok (K : Nat) : Sound Tryz.prog 106 (f106M K) :=
  sound_fn (envOK (E := (f106E K)) tab_ok mixed_ok (AllOK.cons (f175_ok K) f175_runs AllOK.nil) AllP.nil AllN.nil) Tryz.func106 fun x => f106_run K x.1 x.2.1
theorem f106_runs : Runs Tryz.prog 106 := runsB_ok (by kernel_rfl)
theorem f105_ok (K : Nat) : Sound Tryz.prog 105 (f105M K) :=
  sound_fn (envOK (E := (f105E K)) tab_ok mixed_ok (AllOK.cons (f106_ok K) f106_runs AllOK.nil) AllP.nil AllN.nil) Tryz.func105 fun x => f105_run K x.1 x.2.1
theorem f105_runs : Runs Tryz.prog 105 := runsB_ok (by kernel_rfl)
theorem f109_ok (K : Nat) : Sound Tryz.prog 109 (f109M K) :=
  sound_fn (envOK (E := (f109E K)) tab_ok mixed_ok AllOK.nil AllP.nil AllN.nil) Tryz.func109 fun x => f109_run K x.1 x.2.1
theorem f109_runs : Runs Tryz.prog 109 := runsB_ok (by kernel_rfl)
theorem f103_ok (K : Nat) : Sound Tryz.prog 103 (f103M K) :=
  sound_fn (envOK (E := (f103E K)) tab_ok mixed_ok (AllOK.cons (f109_ok K) f109_runs AllOK.nil) AllP.nil AllN.nil) Tryz.func103 fun x => f103_run K x.1 x.2.1
theorem f103_runs : Runs Tryz.prog 103 := runsB_ok (by kernel_rfl)
theorem f176_ok (K : Nat) : Sound Tryz.prog 176 (f176M K) :=
  sound_fn (envOK (E := (f176E K)) tab_ok mixed_ok AllOK.nil AllP.nil AllN.nil) Tryz.func176 fun x => f176_run K x.1 x.2.1
theorem f176_runs : Runs Tryz.prog 176 := runsB_ok (by kernel_rfl)
theorem f107_ok (K : Nat) : Sound Tryz.prog 107 (f107M K) :=
  sound_fn (envOK (E := (f107E K)) tab_ok mixed_ok (AllOK.cons (f176_ok K) f176_runs AllOK.nil) AllP.nil AllN.nil) Tryz.func107 fun x => f107_run K x.1 x.2.1
theorem f107_runs : Runs Tryz.prog 107 := runsB_ok (by kernel_rfl)
theorem f102_ok (K : Nat) : Sound Tryz.prog 102 (f102M K) :=
  sound_fn (envOK (E := (f102E K)) tab_ok mixed_ok (AllOK.cons (f82_ok K) f82_runs (AllOK.cons (f103_ok K) f103_runs (AllOK.cons (f104_ok K) f104_runs (AllOK.cons (f105_ok K) f105_runs (AllOK.cons (f107_ok K) f107_runs AllOK.nil))))) AllP.nil AllN.nil) Tryz.func102 fun x => f102_run K x.1 x.2.1 x.2.2.1 x.2.2.2.1 x.2.2.2.2.1
theorem f102_runs : Runs Tryz.prog 102 := runsB_ok (by kernel_rfl)
theorem f46_ok (K : Nat) : Sound Tryz.prog 46 (f46M K) :=
  sound_fn (envOK (E := (f46E K)) tab_ok mixed_ok (AllOK.cons (f72_ok K) f72_runs (AllOK.cons (f101_ok K) f101_runs (AllOK.cons (f102_ok K) f102_runs (AllOK.cons (f108_ok K) f108_runs (AllOK.cons (f109_ok K) f109_runs (AllOK.cons (f110_ok K) f110_runs (AllOK.cons (f111_ok K) f111_runs AllOK.nil))))))) AllP.nil AllN.nil) Tryz.func46 fun x => f46_run K x.1 x.2.1 x.2.2.1
theorem f46_runs : Runs Tryz.prog 46 := runsB_ok (by kernel_rfl)
theorem f112_ok (K : Nat) : Sound Tryz.prog 112 (f112M K) :=
  sound_fn (envOK (E := (f112E K)) tab_ok mixed_ok AllOK.nil AllP.nil AllN.nil) Tryz.func112 fun x => f112_run K x.1 x.2.1
theorem f112_runs : Runs Tryz.prog 112 := runsB_ok (by kernel_rfl)
theorem f47_ok (K : Nat) : Sound Tryz.prog 47 (f47M K) :=
  sound_fn (envOK (E := (f47E K)) tab_ok mixed_ok (AllOK.cons (f112_ok K) f112_runs AllOK.nil) AllP.nil AllN.nil) Tryz.func47 fun x => f47_run K x.1 x.2.1
theorem f47_runs : Runs Tryz.prog 47 := runsB_ok (by kernel_rfl)
theorem f132_ok (K : Nat) : Sound Tryz.prog 132 (f132M K) :=
  sound_fn (envOK (E := (f132E K)) tab_ok mixed_ok AllOK.nil AllP.nil AllN.nil) Tryz.func132 fun x => f132_run K x.1 x.2.1
theorem f132_runs : Runs Tryz.prog 132 := runsB_ok (by kernel_rfl)
theorem f65_ok (K : Nat) : Sound Tryz.prog 65 (f65M K) :=
  sound_fn (envOK (E := (f65E K)) tab_ok mixed_ok (AllOK.cons (f112_ok K) f112_runs (AllOK.cons (f132_ok K) f132_runs AllOK.nil)) AllP.nil AllN.nil) Tryz.func65 fun x => f65_run K x.1 x.2.1
theorem f65_runs : Runs Tryz.prog 65 := runsB_ok (by kernel_rfl)
theorem f18_ok (K : Nat) : Sound Tryz.prog 18 (f18M K) :=
  sound_fn (envOK (E := (f18E K)) tab_ok mixed_ok (AllOK.cons (f65_ok K) f65_runs AllOK.nil) AllP.nil AllN.nil) Tryz.func18 fun x => f18_run K x.1 x.2.1
theorem f18_runs : Runs Tryz.prog 18 := runsB_ok (by kernel_rfl)
theorem f31_ok (K : Nat) : Sound Tryz.prog 31 (f31M K) :=
  sound_fn (envOK (E := (f31E K)) tab_ok mixed_ok AllOK.nil AllP.nil AllN.nil) Tryz.func31 fun x => f31_run K x.1 x.2.1
theorem f31_runs : Runs Tryz.prog 31 := runsB_ok (by kernel_rfl)
theorem f48_ok (K : Nat) : Sound Tryz.prog 48 (f48M K) :=
  sound_fn (envOK (E := (f48E K)) tab_ok mixed_ok AllOK.nil AllP.nil AllN.nil) Tryz.func48 fun x => f48_run K x.1 x.2.1
theorem f48_runs : Runs Tryz.prog 48 := runsB_ok (by kernel_rfl)
theorem f49_ok (K : Nat) : Sound Tryz.prog 49 (f49M K) :=
  sound_fn (envOK (E := (f49E K)) tab_ok mixed_ok AllOK.nil AllP.nil AllN.nil) Tryz.func49 fun x => f49_run K x.1 x.2.1
theorem f49_runs : Runs Tryz.prog 49 := runsB_ok (by kernel_rfl)
theorem f9_ok (K : Nat) : Sound Tryz.prog 9 (f9M K) :=
  sound_fn (envOK (E := (f9E K)) tab_ok mixed_ok (AllOK.cons (f13_ok K) f13_runs (AllOK.cons (f15_ok K) f15_runs (AllOK.cons (f16_ok K) f16_runs (AllOK.cons (f18_ok K) f18_runs (AllOK.cons (f31_ok K) f31_runs (AllOK.cons (f45_ok K) f45_runs (AllOK.cons (f46_ok K) f46_runs (AllOK.cons (f47_ok K) f47_runs (AllOK.cons (f48_ok K) f48_runs (AllOK.cons (f49_ok K) f49_runs AllOK.nil)))))))))) AllP.nil AllN.nil) Tryz.func9 fun x => f9_run K x.1 x.2.1 x.2.2.1
theorem f9_runs : Runs Tryz.prog 9 := runsB_ok (by kernel_rfl)
end Go.Proofs.YtmnciknpeefkfaaGreat.X
