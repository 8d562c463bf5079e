/- Functions of the program as plain Lean functions, and that the program does what they say. Printed by gen.py. -/
import Derived.Test.YtnbghfbpidalhaaDoorR0
namespace Go.Proofs.YtnbghfbpidalhaaDoor.X
open Go
set_option maxRecDepth 100000
set_option linter.unusedVariables false
theorem f9_ok (K : Nat) : Sound Tryd.prog 9 (f9M K) :=
  sound_fn (envOK (E := (f9E K)) tab_ok mixed_ok AllOK.nil AllP.nil AllN.nil) Tryd.func9 fun x => f9_run K x.1 x.2.1
theorem f9_runs : Runs Tryd.prog 9 := runsB_ok (by kernel_rfl)
theorem f4_ok (K : Nat) : Sound Tryd.prog 4 (f4M K) :=
  sound_fn (envOK (E := (f4E K)) tab_ok mixed_ok (AllOK.cons (f9_ok K) f9_runs AllOK.nil) AllP.nil AllN.nil) Tryd.func4 fun x => f4_run K x.1 x.2.1
theorem f4_runs : Runs Tryd.prog 4 := runsB_ok (by kernel_rfl)
theorem f14_ok (K : Nat) : Sound Tryd.prog 14 (f14M K) :=
  sound_fn (envOK (E := (f14E K)) tab_ok mixed_ok AllOK.nil AllP.nil AllN.nil) Tryd.func14 fun x => f14_run K x.1
theorem f14_runs : Runs Tryd.prog 14 := runsB_ok (by kernel_rfl)
theorem f15_ok (K : Nat) : Sound Tryd.prog 15 (f15M K) :=
  sound_fn (envOK (E := (f15E K)) tab_ok mixed_ok AllOK.nil AllP.nil AllN.nil) Tryd.func15 fun x => f15_run K x.1
theorem f15_runs : Runs Tryd.prog 15 := runsB_ok (by kernel_rfl)
theorem f6_ok (K : Nat) : Sound Tryd.prog 6 (f6M K) :=
  sound_fn (envOK (E := (f6E K)) tab_ok mixed_ok (AllOK.cons (f14_ok K) f14_runs (AllOK.cons (f15_ok K) f15_runs AllOK.nil)) AllP.nil AllN.nil) Tryd.func6 fun x => f6_run K x.1
theorem f6_runs : Runs Tryd.prog 6 := runsB_ok (by kernel_rfl)
theorem f35_ok (K : Nat) : Sound Tryd.prog 35 (f35M K) :=
  sound_fn (envOK (E := (f35E K)) tab_ok mixed_ok AllOK.nil AllP.nil AllN.nil) Tryd.func35 fun x => f35_run K x.1
theorem f35_runs : Runs Tryd.prog 35 := runsB_ok (by kernel_rfl)
theorem f37_ok (K : Nat) : Sound Tryd.prog 37 (f37M K) :=
  sound_fn (envOK (E := (f37E K)) tab_ok mixed_ok AllOK.nil AllP.nil AllN.nil) Tryd.func37 fun x => f37_run K x.1 x.2.1 x.2.2.1
theorem f37_runs : Runs Tryd.prog 37 := runsB_ok (by kernel_rfl)
theorem f36_ok (K : Nat) : Sound Tryd.prog 36 (f36M K) :=
  sound_fn (envOK (E := (f36E K)) tab_ok mixed_ok (AllOK.cons (f37_ok K) f37_runs AllOK.nil) AllP.nil AllN.nil) Tryd.func36 fun x => f36_run K x.1
theorem f36_runs : Runs Tryd.prog 36 := runsB_ok (by kernel_rfl)
theorem f22_ok (K : Nat) : Sound Tryd.prog 22 (f22M K) :=
  sound_fn (envOK (E := (f22E K)) tab_ok mixed_ok (AllOK.cons (f35_ok K) f35_runs (AllOK.cons (f36_ok K) f36_runs AllOK.nil)) AllP.nil AllN.nil) Tryd.func22 fun x => f22_run K x.1 x.2.1
theorem f22_runs : Runs Tryd.prog 22 := runsB_ok (by kernel_rfl)
theorem f23_ok (K : Nat) : Sound Tryd.prog 23 (f23M K) :=
  sound_fn (envOK (E := (f23E K)) tab_ok mixed_ok (AllOK.cons (f37_ok K) f37_runs AllOK.nil) AllP.nil AllN.nil) Tryd.func23 fun x => f23_run K x.1 x.2.1 x.2.2.1 x.2.2.2.1
theorem f23_runs : Runs Tryd.prog 23 := runsB_ok (by kernel_rfl)
theorem f10_ok (K : Nat) : Sound Tryd.prog 10 (f10M K) :=
  sound_fn (envOK (E := (f10E K)) tab_ok mixed_ok (AllOK.cons (f22_ok K) f22_runs (AllOK.cons (f23_ok K) f23_runs AllOK.nil)) AllP.nil AllN.nil) Tryd.func10 fun x => f10_run K x.1
theorem f10_runs : Runs Tryd.prog 10 := runsB_ok (by kernel_rfl)
theorem f11_ok (K : Nat) : Sound Tryd.prog 11 (f11M K) :=
  sound_fn (envOK (E := (f11E K)) tab_ok mixed_ok AllOK.nil AllP.nil AllN.nil) Tryd.func11 fun x => f11_run K x.1
theorem f11_runs : Runs Tryd.prog 11 := runsB_ok (by kernel_rfl)
theorem f26_runs : Runs Tryd.prog 26 := runsB_ok (by kernel_rfl)
theorem f26_okn (K : Nat) : ∀ n, Sound Tryd.prog 26 ⟨[(.ro, (.int .i64))], [.str], fun x => f26R K n x.1⟩
  | 0 => fun _ _ _ _ _ _ _ h => by cases h
  | n + 1 => sound_fn (envOK (E := f26E K (f26R K n)) tab_ok mixed_ok (AllOK.cons (f26_okn K n) f26_runs AllOK.nil) AllP.nil AllN.nil) Tryd.func26 fun x => f26_run K (f26R K n) x.1
theorem f26_ok (K : Nat) : Sound Tryd.prog 26 (f26M K) := f26_okn K K
theorem f40_ok (K : Nat) : Sound Tryd.prog 40 (f40M K) :=
  sound_fn (envOK (E := (f40E K)) tab_ok mixed_ok (AllOK.cons (f26_ok K) f26_runs AllOK.nil) AllP.nil AllN.nil) Tryd.func40 fun x => f40_run K x.1
theorem f40_runs : Runs Tryd.prog 40 := runsB_ok (by kernel_rfl)
theorem f38_ok (K : Nat) : Sound Tryd.prog 38 (f38M K) :=
  sound_fn (envOK (E := (f38E K)) tab_ok mixed_ok (AllOK.cons (f40_ok K) f40_runs AllOK.nil) AllP.nil AllN.nil) Tryd.func38 fun x => f38_run K x.1 x.2.1
theorem f38_runs : Runs Tryd.prog 38 := runsB_ok (by kernel_rfl)
theorem f24_ok (K : Nat) : Sound Tryd.prog 24 (f24M K) :=
  sound_fn (envOK (E := (f24E K)) tab_ok mixed_ok (AllOK.cons (f36_ok K) f36_runs (AllOK.cons (f38_ok K) f38_runs AllOK.nil)) AllP.nil AllN.nil) Tryd.func24 fun x => f24_run K x.1
theorem f24_runs : Runs Tryd.prog 24 := runsB_ok (by kernel_rfl)
theorem f12_ok (K : Nat) : Sound Tryd.prog 12 (f12M K) :=
  sound_fn (envOK (E := (f12E K)) tab_ok mixed_ok (AllOK.cons (f24_ok K) f24_runs AllOK.nil) AllP.nil AllN.nil) Tryd.func12 fun x => f12_run K x.1
theorem f12_runs : Runs Tryd.prog 12 := runsB_ok (by kernel_rfl)
theorem f39_ok (K : Nat) : Sound Tryd.prog 39 (f39M K) :=
  sound_fn (envOK (E := (f39E K)) tab_ok mixed_ok (AllOK.cons (f37_ok K) f37_runs AllOK.nil) AllP.nil AllN.nil) Tryd.func39 fun x => f39_run K x.1
theorem f39_runs : Runs Tryd.prog 39 := runsB_ok (by kernel_rfl)
theorem f25_ok (K : Nat) : Sound Tryd.prog 25 (f25M K) :=
  sound_fn (envOK (E := (f25E K)) tab_ok mixed_ok (AllOK.cons (f39_ok K) f39_runs (AllOK.cons (f40_ok K) f40_runs AllOK.nil)) AllP.nil AllN.nil) Tryd.func25 fun x => f25_run K x.1
theorem f25_runs : Runs Tryd.prog 25 := runsB_ok (by kernel_rfl)
theorem f13_ok (K : Nat) : Sound Tryd.prog 13 (f13M K) :=
  sound_fn (envOK (E := (f13E K)) tab_ok mixed_ok (AllOK.cons (f25_ok K) f25_runs (AllOK.cons (f26_ok K) f26_runs AllOK.nil)) AllP.nil AllN.nil) Tryd.func13 fun x => f13_run K x.1 x.2.1
theorem f13_runs : Runs Tryd.prog 13 := runsB_ok (by kernel_rfl)
theorem f5_ok (K : Nat) : Sound Tryd.prog 5 (f5M K) :=
  sound_fn (envOK (E := (f5E K)) tab_ok mixed_ok (AllOK.cons (f10_ok K) f10_runs (AllOK.cons (f11_ok K) f11_runs (AllOK.cons (f12_ok K) f12_runs (AllOK.cons (f13_ok K) f13_runs AllOK.nil)))) AllP.nil AllN.nil) Tryd.func5 fun x => f5_run K x.1
theorem f5_runs : Runs Tryd.prog 5 := runsB_ok (by kernel_rfl)
theorem f41_ok (K : Nat) : Sound Tryd.prog 41 (f41M K) :=
  sound_fn (envOK (E := (f41E K)) tab_ok mixed_ok AllOK.nil AllP.nil AllN.nil) Tryd.func41 fun x => f41_run K x.1 x.2.1 x.2.2.1
theorem f41_runs : Runs Tryd.prog 41 := runsB_ok (by kernel_rfl)
theorem f27_ok (K : Nat) : Sound Tryd.prog 27 (f27M K) :=
  sound_fn (envOK (E := (f27E K)) tab_ok mixed_ok (AllOK.cons (f41_ok K) f41_runs AllOK.nil) AllP.nil AllN.nil) Tryd.func27 fun x => f27_run K x.1
theorem f27_runs : Runs Tryd.prog 27 := runsB_ok (by kernel_rfl)
theorem f29_ok (K : Nat) : Sound Tryd.prog 29 (f29M K) :=
  sound_fn (envOK (E := (f29E K)) tab_ok mixed_ok AllOK.nil AllP.nil AllN.nil) Tryd.func29 fun x => f29_run K x.1
theorem f29_runs : Runs Tryd.prog 29 := runsB_ok (by kernel_rfl)
theorem f28_ok (K : Nat) : Sound Tryd.prog 28 (f28M K) :=
  sound_fn (envOK (E := (f28E K)) tab_ok mixed_ok (AllOK.cons (f29_ok K) f29_runs (AllOK.cons (f41_ok K) f41_runs AllOK.nil)) AllP.nil AllN.nil) Tryd.func28 fun x => f28_run K x.1
theorem f28_runs : Runs Tryd.prog 28 := runsB_ok (by kernel_rfl)
theorem f43_ok (K : Nat) : Sound Tryd.prog 43 (f43M K) :=
  sound_fn (envOK (E := (f43E K)) tab_ok mixed_ok (AllOK.cons (f41_ok K) f41_runs AllOK.nil) AllP.nil AllN.nil) Tryd.func43 fun x => f43_run K x.1 x.2.1 x.2.2.1
theorem f43_runs : Runs Tryd.prog 43 := runsB_ok (by kernel_rfl)
theorem f49_ok (K : Nat) : Sound Tryd.prog 49 (f49M K) :=
  sound_fn (envOK (E := (f49E K)) tab_ok mixed_ok AllOK.nil AllP.nil AllN.nil) Tryd.func49 fun x => f49_run K x.1 x.2.1
theorem f49_runs : Runs Tryd.prog 49 := runsB_ok (by kernel_rfl)
theorem f42_ok (K : Nat) : Sound Tryd.prog 42 (f42M K) :=
  sound_fn (envOK (E := (f42E K)) tab_ok mixed_ok (AllOK.cons (f49_ok K) f49_runs AllOK.nil) AllP.nil AllN.nil) Tryd.func42 fun x => f42_run K x.1 x.2.1
theorem f42_runs : Runs Tryd.prog 42 := runsB_ok (by kernel_rfl)
theorem f30_ok (K : Nat) : Sound Tryd.prog 30 (f30M K) :=
  sound_fn (envOK (E := (f30E K)) tab_ok mixed_ok (AllOK.cons (f42_ok K) f42_runs (AllOK.cons (f43_ok K) f43_runs AllOK.nil)) AllP.nil AllN.nil) Tryd.func30 fun x => f30_run K x.1 x.2.1 x.2.2.1
theorem f30_runs : Runs Tryd.prog 30 := runsB_ok (by kernel_rfl)
theorem f16_ok (K : Nat) : Sound Tryd.prog 16 (f16M K) :=
  sound_fn (envOK (E := (f16E K)) tab_ok mixed_ok (AllOK.cons (f27_ok K) f27_runs (AllOK.cons (f28_ok K) f28_runs (AllOK.cons (f29_ok K) f29_runs (AllOK.cons (f30_ok K) f30_runs AllOK.nil)))) AllP.nil AllN.nil) Tryd.func16 fun x => f16_run K x.1
theorem f16_runs : Runs Tryd.prog 16 := runsB_ok (by kernel_rfl)
theorem f18_ok (K : Nat) : Sound Tryd.prog 18 (f18M K) :=
  sound_fn (envOK (E := (f18E K)) tab_ok mixed_ok AllOK.nil AllP.nil AllN.nil) Tryd.func18 fun x => f18_run K x.1
theorem f18_runs : Runs Tryd.prog 18 := runsB_ok (by kernel_rfl)
theorem f50_ok (K : Nat) : Sound Tryd.prog 50 (f50M K) :=
  sound_fn (envOK (E := (f50E K)) tab_ok mixed_ok AllOK.nil AllP.nil AllN.nil) Tryd.func50 fun x => f50_run K x.1 x.2.1
theorem f50_runs : Runs Tryd.prog 50 := runsB_ok (by kernel_rfl)
theorem f45_ok (K : Nat) : Sound Tryd.prog 45 (f45M K) :=
  sound_fn (envOK (E := (f45E K)) tab_ok mixed_ok (AllOK.cons (f50_ok K) f50_runs AllOK.nil) AllP.nil AllN.nil) Tryd.func45 fun x => f45_run K x.1 x.2.1
theorem f45_runs : Runs Tryd.prog 45 := runsB_ok (by kernel_rfl)
theorem f44_ok (K : Nat) : Sound Tryd.prog 44 (f44M K) :=
  sound_fn (envOK (E := (f44E K)) tab_ok mixed_ok AllOK.nil AllP.nil AllN.nil) Tryd.func44 fun x => f44_run K x.1 x.2.1
theorem f44_runs : Runs Tryd.prog 44 := runsB_ok (by kernel_rfl)
theorem f31_ok (K : Nat) : Sound Tryd.prog 31 (f31M K) :=
  sound_fn (envOK (E := (f31E K)) tab_ok mixed_ok (AllOK.cons (f44_ok K) f44_runs (AllOK.cons (f45_ok K) f45_runs AllOK.nil)) AllP.nil AllN.nil) Tryd.func31 fun x => f31_run K x.1 x.2.1
theorem f31_runs : Runs Tryd.prog 31 := runsB_ok (by kernel_rfl)
theorem f51_ok (K : Nat) : Sound Tryd.prog 51 (f51M K) :=
  sound_fn (envOK (E := (f51E K)) tab_ok mixed_ok (AllOK.cons (f41_ok K) f41_runs AllOK.nil) AllP.nil AllN.nil) Tryd.func51 fun x => f51_run K x.1
theorem f51_runs : Runs Tryd.prog 51 := runsB_ok (by kernel_rfl)
theorem f46_ok (K : Nat) : Sound Tryd.prog 46 (f46M K) :=
  sound_fn (envOK (E := (f46E K)) tab_ok mixed_ok (AllOK.cons (f51_ok K) f51_runs AllOK.nil) AllP.nil AllN.nil) Tryd.func46 fun x => f46_run K x.1
theorem f46_runs : Runs Tryd.prog 46 := runsB_ok (by kernel_rfl)
def f48_ren : Go.Shelf.Ren := ⟨fun | 129 => 64 | 173 => 48 | 246 => 53 | 283 => 57 | 284 => 58 | 285 => 59 | 286 => 60 | 317 => 63 | 318 => 65 | 319 => 66 | 320 => 67 | 337 => 70 | 338 => 71 | n => n, fun | 0 => 0 | 2 => 2 | 3 => 3 | 4 => 4 | 5 => 5 | 9 => 9 | 20 => 20 | 37 => 63 | 46 => 95 | 51 => 92 | 53 => 83 | 171 => 82 | 173 => 86 | 212 => 91 | 213 => 93 | 232 => 101 | 233 => 102 | n => n, fun | 17 => 0 | 18 => 2 | 19 => 3 | n => n⟩
theorem f48_lays : Lays.n173 Tryd.prog f48_ren where
  mixed := by kernel_rfl
  f129 := Tryd.func64.trans (congrArg some (by kernel_rfl))
  f173 := Tryd.func48.trans (congrArg some (by kernel_rfl))
  f246 := Tryd.func53.trans (congrArg some (by kernel_rfl))
  f283 := Tryd.func57.trans (congrArg some (by kernel_rfl))
  f284 := Tryd.func58.trans (congrArg some (by kernel_rfl))
  f285 := Tryd.func59.trans (congrArg some (by kernel_rfl))
  f286 := Tryd.func60.trans (congrArg some (by kernel_rfl))
  f317 := Tryd.func63.trans (congrArg some (by kernel_rfl))
  f318 := Tryd.func65.trans (congrArg some (by kernel_rfl))
  f319 := Tryd.func66.trans (congrArg some (by kernel_rfl))
  f320 := Tryd.func67.trans (congrArg some (by kernel_rfl))
  f337 := Tryd.func70.trans (congrArg some (by kernel_rfl))
  f338 := Tryd.func71.trans (congrArg some (by kernel_rfl))
  t0 := Tryd.underlying0
  a0 := Tryd.isAgg0
  z0 := Tryd.sizeOf0
  v0 := Tryd.zeroValue0
  t2 := Tryd.underlying2
  a2 := Tryd.isAgg2
  z2 := Tryd.sizeOf2
  v2 := Tryd.zeroValue2
  t3 := Tryd.underlying3
  a3 := Tryd.isAgg3
  z3 := Tryd.sizeOf3
  v3 := Tryd.zeroValue3
  t4 := Tryd.underlying4
  a4 := Tryd.isAgg4
  z4 := Tryd.sizeOf4
  v4 := Tryd.zeroValue4
  t5 := Tryd.underlying5
  a5 := Tryd.isAgg5
  z5 := Tryd.sizeOf5
  v5 := Tryd.zeroValue5
  t9 := Tryd.underlying9
  a9 := Tryd.isAgg9
  z9 := Tryd.sizeOf9
  v9 := Tryd.zeroValue9
  t20 := Tryd.underlying20
  a20 := Tryd.isAgg20
  z20 := Tryd.sizeOf20
  v20 := Tryd.zeroValue20
  t37 := Tryd.underlying63
  a37 := Tryd.isAgg63
  z37 := Tryd.sizeOf63
  v37 := Tryd.zeroValue63
  t46 := Tryd.underlying95
  a46 := Tryd.isAgg95
  z46 := Tryd.sizeOf95
  v46 := Tryd.zeroValue95
  t51 := Tryd.underlying92
  a51 := Tryd.isAgg92
  z51 := Tryd.sizeOf92
  v51 := Tryd.zeroValue92
  t53 := Tryd.underlying83
  a53 := Tryd.isAgg83
  z53 := Tryd.sizeOf83
  v53 := Tryd.zeroValue83
  t171 := Tryd.underlying82
  a171 := Tryd.isAgg82
  z171 := Tryd.sizeOf82
  v171 := Tryd.zeroValue82
  t173 := Tryd.underlying86
  a173 := Tryd.isAgg86
  z173 := Tryd.sizeOf86
  v173 := Tryd.zeroValue86
  t212 := Tryd.underlying91
  a212 := Tryd.isAgg91
  z212 := Tryd.sizeOf91
  v212 := Tryd.zeroValue91
  t213 := Tryd.underlying93
  a213 := Tryd.isAgg93
  z213 := Tryd.sizeOf93
  t232 := Tryd.underlying101
  a232 := Tryd.isAgg101
  z232 := Tryd.sizeOf101
  v232 := Tryd.zeroValue101
  t233 := Tryd.underlying102
  a233 := Tryd.isAgg102
  z233 := Tryd.sizeOf102
  v233 := Tryd.zeroValue102
  g17 := by kernel_rfl
  g18 := by kernel_rfl
  g19 := by kernel_rfl
theorem f48_ok (K : Nat) : Sound Tryd.prog 48 (f48M K) := fmt_sound f48_lays rfl
theorem f48_runs : Runs Tryd.prog 48 := runsB_ok (by kernel_rfl)
theorem f33_ok (K : Nat) : Sound Tryd.prog 33 (f33M K) :=
  sound_fn (envOK (E := (f33E K)) tab_ok mixed_ok (AllOK.cons (f48_ok K) f48_runs AllOK.nil) AllP.nil AllN.nil) Tryd.func33 fun x => f33_run K x.1
theorem f33_runs : Runs Tryd.prog 33 := runsB_ok (by kernel_rfl)
def f52_ren : Go.Shelf.Ren := ⟨fun | 156 => 52 | 165 => 54 | 166 => 55 | 169 => 56 | 240 => 61 | 241 => 62 | 276 => 68 | 277 => 69 | n => n, fun | 0 => 0 | 3 => 3 | 4 => 4 | 5 => 5 | 9 => 9 | 20 => 20 | 31 => 70 | 37 => 63 | 70 => 72 | 72 => 74 | 75 => 77 | 76 => 78 | 80 => 80 | 127 => 88 | 164 => 97 | n => n, fun n => n⟩
theorem f52_lays : Lays.n156 Tryd.prog f52_ren where
  mixed := by kernel_rfl
  f156 := Tryd.func52.trans (congrArg some (by kernel_rfl))
  f165 := Tryd.func54.trans (congrArg some (by kernel_rfl))
  f166 := Tryd.func55.trans (congrArg some (by kernel_rfl))
  f169 := Tryd.func56.trans (congrArg some (by kernel_rfl))
  f240 := Tryd.func61.trans (congrArg some (by kernel_rfl))
  f241 := Tryd.func62.trans (congrArg some (by kernel_rfl))
  f276 := Tryd.func68.trans (congrArg some (by kernel_rfl))
  f277 := Tryd.func69.trans (congrArg some (by kernel_rfl))
  t0 := Tryd.underlying0
  a0 := Tryd.isAgg0
  z0 := Tryd.sizeOf0
  v0 := Tryd.zeroValue0
  t3 := Tryd.underlying3
  a3 := Tryd.isAgg3
  z3 := Tryd.sizeOf3
  v3 := Tryd.zeroValue3
  t4 := Tryd.underlying4
  a4 := Tryd.isAgg4
  z4 := Tryd.sizeOf4
  v4 := Tryd.zeroValue4
  t9 := Tryd.underlying9
  a9 := Tryd.isAgg9
  z9 := Tryd.sizeOf9
  v9 := Tryd.zeroValue9
  t20 := Tryd.underlying20
  a20 := Tryd.isAgg20
  z20 := Tryd.sizeOf20
  v20 := Tryd.zeroValue20
  t31 := Tryd.underlying70
  a31 := Tryd.isAgg70
  z31 := Tryd.sizeOf70
  v31 := Tryd.zeroValue70
  t37 := Tryd.underlying63
  a37 := Tryd.isAgg63
  z37 := Tryd.sizeOf63
  v37 := Tryd.zeroValue63
  t70 := Tryd.underlying72
  a70 := Tryd.isAgg72
  z70 := Tryd.sizeOf72
  v70 := Tryd.zeroValue72
  t72 := Tryd.underlying74
  a72 := Tryd.isAgg74
  z72 := Tryd.sizeOf74
  v72 := Tryd.zeroValue74
  t75 := Tryd.underlying77
  a75 := Tryd.isAgg77
  z75 := Tryd.sizeOf77
  v75 := Tryd.zeroValue77
  t76 := Tryd.underlying78
  a76 := Tryd.isAgg78
  z76 := Tryd.sizeOf78
  v76 := Tryd.zeroValue78
  t127 := Tryd.underlying88
  a127 := Tryd.isAgg88
  z127 := Tryd.sizeOf88
  v127 := Tryd.zeroValue88
  t164 := Tryd.underlying97
  a164 := Tryd.isAgg97
  z164 := Tryd.sizeOf97
  v164 := Tryd.zeroValue97
theorem f52_extra : Builder.Extra Tryd.prog f52_ren where
  sizeBuilder := by kernel_rfl
  liesBuilder := by kernel_rfl
  t5 := Tryd.underlying5
  a5 := Tryd.isAgg5
  z5 := Tryd.sizeOf5
  v5 := Tryd.zeroValue5
  infoByte := by kernel_rfl
  cellsByte := by kernel_rfl
  sizeByte := by kernel_rfl
  neB5 := by decide
theorem f52_ok (K : Nat) : Sound Tryd.prog 52 (f52M K) := join_sound (e := 9) f52_lays f52_extra rfl
theorem f52_runs : Runs Tryd.prog 52 := runsB_ok (by kernel_rfl)
theorem f47_ok (K : Nat) : Sound Tryd.prog 47 (f47M K) :=
  sound_fn (envOK (E := (f47E K)) tab_ok mixed_ok (AllOK.cons (f33_ok K) f33_runs (AllOK.cons (f52_ok K) f52_runs AllOK.nil)) AllP.nil AllN.nil) Tryd.func47 fun x => f47_run K x.1 x.2.1
theorem f47_runs : Runs Tryd.prog 47 := runsB_ok (by kernel_rfl)
theorem f32_ok (K : Nat) : Sound Tryd.prog 32 (f32M K) :=
  sound_fn (envOK (E := (f32E K)) tab_ok mixed_ok (AllOK.cons (f46_ok K) f46_runs (AllOK.cons (f47_ok K) f47_runs AllOK.nil)) AllP.nil AllN.nil) Tryd.func32 fun x => f32_run K x.1
theorem f32_runs : Runs Tryd.prog 32 := runsB_ok (by kernel_rfl)
theorem f17_ok (K : Nat) : Sound Tryd.prog 17 (f17M K) :=
  sound_fn (envOK (E := (f17E K)) tab_ok mixed_ok (AllOK.cons (f31_ok K) f31_runs (AllOK.cons (f32_ok K) f32_runs (AllOK.cons (f33_ok K) f33_runs AllOK.nil))) AllP.nil AllN.nil) Tryd.func17 fun x => f17_run K x.1 x.2.1
theorem f17_runs : Runs Tryd.prog 17 := runsB_ok (by kernel_rfl)
theorem f34_ok (K : Nat) : Sound Tryd.prog 34 (f34M K) :=
  sound_fn (envOK (E := (f34E K)) tab_ok mixed_ok (AllOK.cons (f28_ok K) f28_runs (AllOK.cons (f47_ok K) f47_runs AllOK.nil)) AllP.nil AllN.nil) Tryd.func34 fun x => f34_run K x.1
theorem f34_runs : Runs Tryd.prog 34 := runsB_ok (by kernel_rfl)
theorem f19_ok (K : Nat) : Sound Tryd.prog 19 (f19M K) :=
  sound_fn (envOK (E := (f19E K)) tab_ok mixed_ok (AllOK.cons (f34_ok K) f34_runs AllOK.nil) AllP.nil AllN.nil) Tryd.func19 fun x => f19_run K x.1
theorem f19_runs : Runs Tryd.prog 19 := runsB_ok (by kernel_rfl)
theorem f7_ok (K : Nat) : Sound Tryd.prog 7 (f7M K) :=
  sound_fn (envOK (E := (f7E K)) tab_ok mixed_ok (AllOK.cons (f16_ok K) f16_runs (AllOK.cons (f17_ok K) f17_runs (AllOK.cons (f18_ok K) f18_runs (AllOK.cons (f19_ok K) f19_runs AllOK.nil)))) AllP.nil AllN.nil) Tryd.func7 fun x => f7_run K x.1
theorem f7_runs : Runs Tryd.prog 7 := runsB_ok (by kernel_rfl)
theorem f20_ok (K : Nat) : Sound Tryd.prog 20 (f20M K) :=
  sound_fn (envOK (E := (f20E K)) tab_ok mixed_ok AllOK.nil AllP.nil AllN.nil) Tryd.func20 fun x => f20_run K x.1 x.2.1
theorem f20_runs : Runs Tryd.prog 20 := runsB_ok (by kernel_rfl)
theorem f21_ok (K : Nat) : Sound Tryd.prog 21 (f21M K) :=
  sound_fn (envOK (E := (f21E K)) tab_ok mixed_ok AllOK.nil AllP.nil AllN.nil) Tryd.func21 fun x => f21_run K x.1 x.2.1
theorem f21_runs : Runs Tryd.prog 21 := runsB_ok (by kernel_rfl)
theorem f8_ok (K : Nat) : Sound Tryd.prog 8 (f8M K) :=
  sound_fn (envOK (E := (f8E K)) tab_ok mixed_ok (AllOK.cons (f20_ok K) f20_runs (AllOK.cons (f21_ok K) f21_runs AllOK.nil)) AllP.nil AllN.nil) Tryd.func8 fun x => f8_run K x.1 x.2.1
theorem f8_runs : Runs Tryd.prog 8 := runsB_ok (by kernel_rfl)
theorem f3_ok (K : Nat) : Sound Tryd.prog 3 (f3M K) :=
  sound_fn (envOK (E := (f3E K)) tab_ok mixed_ok (AllOK.cons (f4_ok K) f4_runs (AllOK.cons (f5_ok K) f5_runs (AllOK.cons (f6_ok K) f6_runs (AllOK.cons (f7_ok K) f7_runs (AllOK.cons (f8_ok K) f8_runs AllOK.nil))))) AllP.nil AllN.nil) Tryd.func3 fun x => f3_run K x.1
theorem f3_runs : Runs Tryd.prog 3 := runsB_ok (by kernel_rfl)
end Go.Proofs.YtnbghfbpidalhaaDoor.X
