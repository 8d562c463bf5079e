/- Functions of the program as plain Lean functions, and that the program does what they say. Printed by gen.py. -/
import Derived.Test.YthlpehmnjanmnaaGreatDoorQsR0
namespace Go.Proofs.YthlpehmnjanmnaaGreatDoor.X
open Go
set_option maxRecDepth 100000
attribute [local instance] cwD
set_option linter.unusedVariables false
theorem rk (n : Nat) (h : runsB Tryz.prog n = true := by kernel_rfl) : Runs Tryz.prog n := runsB_ok h
abbrev SF [CW] (n : Nat) (m : Mdl) : Prop := Sound Tryz.prog n m
theorem aF [CW] {f : Nat} {m : Mdl} {l : List (Nat × Mdl)} (a : Sound Tryz.prog f m) (c : AllOK Tryz.prog l) (b : runsB Tryz.prog f = true := by kernel_rfl) : AllOK Tryz.prog ((f, m) :: l) := AllOK.cons a (runsB_ok b) c
theorem aN [CW] : AllOK Tryz.prog [] := AllOK.nil
theorem eO [CW] (E : Env) (a : AllOK Tryz.prog E.fs) (h : tabB Tryz.prog E.ty E.eq E.mt = true := by exact tab_ok) (p : AllP Tryz.prog E.pf := by exact AllP.nil) (n : AllN Tryz.prog E.nf := by exact AllN.nil) (q : AllQ Tryz.prog E.qf := by exact AllQ.nil) (c : AllC Tryz.prog E.cf := by exact AllC.nil) (v : AllV Tryz.prog E.vf := by exact AllV.nil) (o : AllO Tryz.prog E.xf := by exact AllO.nil) : EnvOK Tryz.prog E := envOK h mixed_ok a p n q c v o
theorem sF [CW] {f : Nat} {fn : Func} {ps : List (PM × Sh)} {rs : List Sh} {F : AT ps → Option (RT (outs ps ++ rs))} (E : Env) (a : AllOK Tryz.prog E.fs) (hfn : Tryz.prog.funcs[f]? = some fn) (hF : ∀ x, runF E fn ps rs x = F x := by intro x; kernel_rfl) (h : tabB Tryz.prog E.ty E.eq E.mt = true := by exact tab_ok) (p : AllP Tryz.prog E.pf := by exact AllP.nil) (n : AllN Tryz.prog E.nf := by exact AllN.nil) (q : AllQ Tryz.prog E.qf := by exact AllQ.nil) (c : AllC Tryz.prog E.cf := by exact AllC.nil) (v : AllV Tryz.prog E.vf := by exact AllV.nil) (o : AllO Tryz.prog E.xf := by exact AllO.nil) : SF f ⟨ps, rs, F⟩ := sound_fn (envOK h mixed_ok a p n q c v o) hfn hF
variable (K : Nat)
include K
theorem f9_ok : SF 9 (f9M K) :=
  sF (f9E K) aN Tryz.func9
theorem f4_ok : SF 4 (f4M K) :=
  sF (f4E K) (aF (f9_ok K) aN) Tryz.func4
theorem f21_ok : SF 21 (f21M K) :=
  sF (f21E K) aN Tryz.func21
theorem f22_ok : SF 22 (f22M K) :=
  sF (f22E K) aN Tryz.func22 fun x => f22_run K x.1
theorem f6_ok : SF 6 (f6M K) :=
  sF (f6E K) (aF (f21_ok K) (aF (f22_ok K) aN)) Tryz.func6
theorem f77_ok : SF 77 (f77M K) :=
  sF (f77E K) aN Tryz.func77
theorem f79_ok : SF 79 (f79M K) :=
  sF (f79E K) aN Tryz.func79
theorem f78_ok : SF 78 (f78M K) :=
  sF (f78E K) (aF (f79_ok K) aN) Tryz.func78
theorem f34_ok : SF 34 (f34M K) :=
  sF (f34E K) (aF (f77_ok K) (aF (f78_ok K) aN)) Tryz.func34
theorem f35_ok : SF 35 (f35M K) :=
  sF (f35E K) (aF (f79_ok K) aN) Tryz.func35 fun x => f35_run K x.1 x.2.1 x.2.2.1 x.2.2.2.1
theorem f10_ok : SF 10 (f10M K) :=
  sF (f10E K) (aF (f34_ok K) (aF (f35_ok K) aN)) Tryz.func10
theorem f39_ok : SF 39 (f39M K) :=
  sF (f39E K) aN Tryz.func39 fun x => f39_run K x.1
theorem f80_ok : SF 80 (f80M K) :=
  sF (f80E K) aN Tryz.func80
theorem f42_ok : SF 42 (f42M K) :=
  sF (f42E K) aN Tryz.func42
theorem f90_ok : SF 90 (f90M K) :=
  sF (f90E K) aN Tryz.func90
theorem f89_ok : SF 89 (f89M K) :=
  sF (f89E K) aN Tryz.func89
theorem f84_ok : SF 84 (f84M K) :=
  sF (f84E K) (aF (f89_ok K) (aF (f90_ok K) aN)) Tryz.func84
theorem f126_ok : SF 126 (f126M K) :=
  sF (f126E K) aN Tryz.func126
theorem f87_ok : SF 87 (f87M K) :=
  sF (f87E K) (aF (f126_ok K) aN) Tryz.func87
theorem f51_ok : SF 51 (f51M K) :=
  sF (f51E K) (aF (f87_ok K) aN) Tryz.func51
theorem f19_ok : SF 19 (f19M K) :=
  sF (f19E K) (aF (f51_ok K) aN) Tryz.func19
theorem f40_ok : SF 40 (f40M K) :=
  sF (f40E K) (aF (f19_ok K) (aF (f39_ok K) (aF (f84_ok K) aN))) Tryz.func40 fun x => f40_run K x.1 x.2.1
omit K
theorem f125_okn (K : Nat) : ∀ n, Sound Tryz.prog 125 ⟨[(.ro, sI), (.ro, sI)], [sI], fun x => f125R K n x.1 x.2.1⟩
  | 0 => fun _ _ _ _ _ _ _ _ _ h => by cases h
  | n + 1 => sound_fn (envOK (E := f125E K (f125R K n)) tab_ok mixed_ok (AllOK.cons (f125_okn K n) (rk 125) AllOK.nil) AllP.nil AllN.nil AllQ.nil AllC.nil AllV.nil AllO.nil) Tryz.func125 fun x => f125_run K (f125R K n) x.1 x.2.1
theorem f125_ok (K : Nat) : Sound Tryz.prog 125 (f125M K) := f125_okn K K
include K
theorem f127_ok : SF 127 (f127M K) :=
  sF (f127E K) aN Tryz.func127
theorem f81_ok : SF 81 (f81M K) :=
  sF (f81E K) (aF (f125_ok K) (aF (f126_ok K) (aF (f127_ok K) aN))) Tryz.func81 fun x => f81_run K x.1
theorem f37_ok : SF 37 (f37M K) :=
  sF (f37E K) (aF (f39_ok K) (aF (f40_ok K) (aF (f42_ok K) (aF (f80_ok K) (aF (f81_ok K) aN))))) Tryz.func37 fun x => f37_run K x.1
theorem f36_ok : SF 36 (f36M K) :=
  sF (f36E K) (aF (f19_ok K) (aF (f39_ok K) aN)) Tryz.func36 fun x => f36_run K x.1 x.2.1
theorem f11_ok : SF 11 (f11M K) :=
  sF (f11E K) (aF (f36_ok K) (aF (f37_ok K) aN)) Tryz.func11
theorem f161_ok : SF 161 (f161M K) :=
  sF (f161E K) aN Tryz.func161
theorem f128_ok : SF 128 (f128M K) :=
  sF (f128E K) (aF (f89_ok K) (aF (f161_ok K) aN)) Tryz.func128
theorem f82_ok : SF 82 (f82M K) :=
  sF (f82E K) (aF (f128_ok K) aN) Tryz.func82 fun x => f82_run K x.1
theorem f83_ok : SF 83 (f83M K) :=
  sF (f83E K) (aF (f80_ok K) (aF (f81_ok K) (aF (f90_ok K) aN))) Tryz.func83
theorem f38_ok : SF 38 (f38M K) :=
  sF (f38E K) (aF (f82_ok K) (aF (f83_ok K) aN)) Tryz.func38 fun x => f38_run K x.1 x.2.1
theorem f12_ok : SF 12 (f12M K) :=
  sF (f12E K) (aF (f38_ok K) (aF (f39_ok K) (aF (f40_ok K) aN))) Tryz.func12 fun x => f12_run K x.1
omit K
theorem f52_okn (K : Nat) : ∀ n, Sound Tryz.prog 52 ⟨[(.ro, sI)], [.str], fun x => f52R K n x.1⟩
  | 0 => fun _ _ _ _ _ _ _ _ _ h => by cases h
  | n + 1 => sound_fn (envOK (E := f52E K (f52R K n)) tab_ok mixed_ok (AllOK.cons (f52_okn K n) (rk 52) AllOK.nil) AllP.nil AllN.nil AllQ.nil AllC.nil AllV.nil AllO.nil) Tryz.func52 fun x => f52_run K (f52R K n) x.1
theorem f52_ok (K : Nat) : Sound Tryz.prog 52 (f52M K) := f52_okn K K
include K
theorem f95_ok : SF 95 (f95M K) :=
  sF (f95E K) (aF (f52_ok K) aN) Tryz.func95
theorem f85_ok : SF 85 (f85M K) :=
  sF (f85E K) (aF (f95_ok K) aN) Tryz.func85 fun x => f85_run K x.1 x.2.1
theorem f41_ok : SF 41 (f41M K) :=
  sF (f41E K) (aF (f78_ok K) (aF (f85_ok K) aN)) Tryz.func41
theorem f13_ok : SF 13 (f13M K) :=
  sF (f13E K) (aF (f41_ok K) aN) Tryz.func13
theorem f14_ok : SF 14 (f14M K) :=
  sF (f14E K) (aF (f42_ok K) aN) Tryz.func14
theorem f94_ok : SF 94 (f94M K) :=
  sF (f94E K) aN Tryz.func94
theorem f162_ok : SF 162 (f162M K) :=
  sF (f162E K) aN Tryz.func162 fun x => f162_run K x.1 x.2.1
theorem f129_ok : SF 129 (f129M K) :=
  sF (f129E K) (aF (f94_ok K) (aF (f162_ok K) aN)) Tryz.func129
theorem f130_ok : SF 130 (f130M K) :=
  sF (f130E K) aN Tryz.func130
theorem f86_ok : SF 86 (f86M K) :=
  sF (f86E K) (aF (f129_ok K) (aF (f130_ok K) aN)) Tryz.func86
theorem f43_ok : SF 43 (f43M K) :=
  sF (f43E K) (aF (f86_ok K) aN) Tryz.func43 fun x => f43_run K x.1 x.2.1
theorem f15_ok : SF 15 (f15M K) :=
  sF (f15E K) (aF (f43_ok K) aN) Tryz.func15
theorem f88_ok : SF 88 (f88M K) :=
  sF (f88E K) aN Tryz.func88
theorem f45_ok : SF 45 (f45M K) :=
  sF (f45E K) (aF (f88_ok K) (aF (f89_ok K) (aF (f90_ok K) aN))) Tryz.func45
theorem f44_ok : SF 44 (f44M K) :=
  sF (f44E K) (aF (f87_ok K) aN) Tryz.func44
theorem f46_ok : SF 46 (f46M K) :=
  sF (f46E K) (aF (f43_ok K) aN) Tryz.func46
theorem f16_ok : SF 16 (f16M K) :=
  sF (f16E K) (aF (f14_ok K) (aF (f15_ok K) (aF (f44_ok K) (aF (f45_ok K) (aF (f46_ok K) aN))))) Tryz.func16 fun x => f16_run K x.1 x.2.1
theorem f93_ok : SF 93 (f93M K) :=
  sF (f93E K) (aF (f79_ok K) aN) Tryz.func93
theorem f131_ok : SF 131 (f131M K) :=
  sF (f131E K) (aF (f93_ok K) aN) Tryz.func131
theorem f132_ok : SF 132 (f132M K) :=
  sF (f132E K) aN Tryz.func132
theorem f91_ok : SF 91 (f91M K) :=
  sF (f91E K) (aF (f131_ok K) (aF (f132_ok K) aN)) Tryz.func91
theorem f133_ok : SF 133 (f133M K) :=
  sF (f133E K) (aF (f42_ok K) (aF (f88_ok K) (aF (f131_ok K) aN))) Tryz.func133 fun x => f133_run K x.1
theorem f92_ok : SF 92 (f92M K) :=
  sF (f92E K) (aF (f132_ok K) (aF (f133_ok K) aN)) Tryz.func92
theorem f47_ok : SF 47 (f47M K) :=
  sF (f47E K) (aF (f91_ok K) (aF (f92_ok K) (aF (f93_ok K) aN))) Tryz.func47
theorem f48_ok : SF 48 (f48M K) :=
  sF (f48E K) (aF (f85_ok K) (aF (f91_ok K) (aF (f94_ok K) aN))) Tryz.func48
theorem f49_ok : SF 49 (f49M K) :=
  sF (f49E K) (aF (f93_ok K) (aF (f95_ok K) aN)) Tryz.func49
theorem f17_ok : SF 17 (f17M K) :=
  sF (f17E K) (aF (f47_ok K) (aF (f48_ok K) (aF (f49_ok K) aN))) Tryz.func17
theorem f97_ok : SF 97 (f97M K) :=
  sF (f97E K) (aF (f84_ok K) (aF (f87_ok K) aN)) Tryz.func97
theorem f96_ok : SF 96 (f96M K) :=
  sF (f96E K) (aF (f130_ok K) aN) Tryz.func96 fun x => f96_run K x.1 x.2.1
theorem f50_ok : SF 50 (f50M K) :=
  sF (f50E K) (aF (f96_ok K) (aF (f97_ok K) aN)) Tryz.func50 fun x => f50_run K x.1 x.2.1 x.2.2.1
theorem f18_ok : SF 18 (f18M K) :=
  sF (f18E K) (aF (f39_ok K) (aF (f50_ok K) aN)) Tryz.func18 fun x => f18_run K x.1 x.2.1
theorem f20_ok : SF 20 (f20M K) :=
  sF (f20E K) (aF (f49_ok K) (aF (f52_ok K) aN)) Tryz.func20
theorem f5_ok : SF 5 (f5M K) :=
  sF (f5E K) (aF (f10_ok K) (aF (f11_ok K) (aF (f12_ok K) (aF (f13_ok K) (aF (f14_ok K) (aF (f15_ok K) (aF (f16_ok K) (aF (f17_ok K) (aF (f18_ok K) (aF (f19_ok K) (aF (f20_ok K) aN))))))))))) Tryz.func5 fun x => f5_run K x.1
theorem f98_ok : SF 98 (f98M K) :=
  sF (f98E K) aN Tryz.func98
theorem f53_ok : SF 53 (f53M K) :=
  sF (f53E K) (aF (f98_ok K) aN) Tryz.func53
theorem f55_ok : SF 55 (f55M K) :=
  sF (f55E K) aN Tryz.func55
theorem f54_ok : SF 54 (f54M K) :=
  sF (f54E K) (aF (f55_ok K) (aF (f98_ok K) aN)) Tryz.func54
theorem f100_ok : SF 100 (f100M K) :=
  sF (f100E K) (aF (f98_ok K) aN) Tryz.func100
theorem f134_ok : SF 134 (f134M K) :=
  sF (f134E K) aN Tryz.func134 fun x => f134_run K x.1 x.2.1
theorem f99_ok : SF 99 (f99M K) :=
  sF (f99E K) (aF (f134_ok K) aN) Tryz.func99
theorem f56_ok : Sound Tryz.prog 56 (f56M K) :=
  sound_fn (eO (f56E K) (aF (f99_ok K) (aF (f100_ok K) aN)) (v := (AllV.cons (f100_ok K) (rk 100) AllV.nil))) Tryz.func56 fun x => by kernel_rfl
theorem f23_ok : SF 23 (f23M K) :=
  sF (f23E K) (aF (f53_ok K) (aF (f54_ok K) (aF (f55_ok K) (aF (f56_ok K) aN)))) Tryz.func23
theorem f101_ok : SF 101 (f101M K) :=
  sF (f101E K) aN Tryz.func101
theorem f66_ok : SF 66 (f66M K) :=
  sF (f66E K) aN Tryz.func66 fun x => f66_run K x.1
theorem f60_ok : SF 60 (f60M K) :=
  sF (f60E K) aN Tryz.func60
theorem f106_ok : SF 106 (f106M K) :=
  sF (f106E K) aN Tryz.func106
theorem f107_ok : SF 107 (f107M K) :=
  sF (f107E K) aN Tryz.func107
theorem f116_ok : SF 116 (f116M K) :=
  sF (f116E K) (aF (f106_ok K) (aF (f107_ok K) aN)) Tryz.func116
theorem f137_ok : SF 137 (f137M K) :=
  sF (f137E K) aN Tryz.func137
theorem f104_ok : SF 104 (f104M K) :=
  sF (f104E K) (aF (f137_ok K) aN) Tryz.func104
theorem f73_ok : SF 73 (f73M K) :=
  sF (f73E K) aN Tryz.func73
theorem f75_ok : SF 75 (f75M K) :=
  sF (f75E K) (aF (f73_ok K) (aF (f104_ok K) aN)) Tryz.func75
theorem f67_ok : SF 67 (f67M K) :=
  sF (f67E K) (aF (f66_ok K) (aF (f75_ok K) (aF (f116_ok K) aN))) Tryz.func67 fun x => f67_run K x.1 x.2.1
theorem f135_ok : SF 135 (f135M K) :=
  sF (f135E K) aN Tryz.func135
theorem f136_ok : SF 136 (f136M K) :=
  sF (f136E K) aN Tryz.func136 fun x => f136_run K x.1 x.2.1
theorem f102_ok : SF 102 (f102M K) :=
  sF (f102E K) (aF (f107_ok K) (aF (f135_ok K) (aF (f136_ok K) (aF (f137_ok K) aN)))) Tryz.func102 fun x => f102_run K x.1
theorem f58_ok : SF 58 (f58M K) :=
  sF (f58E K) (aF (f60_ok K) (aF (f66_ok K) (aF (f67_ok K) (aF (f101_ok K) (aF (f102_ok K) aN))))) Tryz.func58 fun x => f58_run K x.1
theorem f57_ok : SF 57 (f57M K) :=
  sF (f57E K) (aF (f66_ok K) (aF (f75_ok K) aN)) Tryz.func57 fun x => f57_run K x.1 x.2.1
theorem f24_ok : SF 24 (f24M K) :=
  sF (f24E K) (aF (f57_ok K) (aF (f58_ok K) aN)) Tryz.func24
omit K
def f124_ren : Go.Shelf.Ren := ⟨fun | 129 => 148 | 173 => 124 | 246 => 160 | 283 => 180 | 284 => 181 | 285 => 182 | 286 => 183 | 317 => 190 | 318 => 191 | 319 => 192 | 320 => 193 | 337 => 197 | 338 => 198 | n => n, fun | 0 => 0 | 2 => 2 | 3 => 3 | 4 => 4 | 5 => 5 | 9 => 9 | 20 => 20 | 37 => 116 | 46 => 126 | 51 => 154 | 53 => 156 | 171 => 186 | 173 => 188 | 212 => 198 | 213 => 199 | 232 => 205 | 233 => 206 | n => n, fun | 17 => 0 | 18 => 2 | 19 => 3 | n => n⟩
theorem f124_lays : LaysM.n173 Tryz.prog f124_ren where
  mixed := by kernel_rfl
  f129 := Tryz.func148.trans (congrArg some (by kernel_rfl))
  f173 := Tryz.func124.trans (congrArg some (by kernel_rfl))
  f246 := Tryz.func160.trans (congrArg some (by kernel_rfl))
  f283 := Tryz.func180.trans (congrArg some (by kernel_rfl))
  f284 := Tryz.func181.trans (congrArg some (by kernel_rfl))
  f285 := Tryz.func182.trans (congrArg some (by kernel_rfl))
  f286 := Tryz.func183.trans (congrArg some (by kernel_rfl))
  f317 := Tryz.func190.trans (congrArg some (by kernel_rfl))
  f318 := Tryz.func191.trans (congrArg some (by kernel_rfl))
  f319 := Tryz.func192.trans (congrArg some (by kernel_rfl))
  f320 := Tryz.func193.trans (congrArg some (by kernel_rfl))
  f337 := Tryz.func197.trans (congrArg some (by kernel_rfl))
  f338 := Tryz.func198.trans (congrArg some (by kernel_rfl))
  t0 := Tryz.underlying0
  a0 := Tryz.isAgg0
  z0 := Tryz.sizeOf0
  v0 := Tryz.zeroValue0
  t2 := Tryz.underlying2
  a2 := Tryz.isAgg2
  z2 := Tryz.sizeOf2
  v2 := Tryz.zeroValue2
  t3 := Tryz.underlying3
  a3 := Tryz.isAgg3
  z3 := Tryz.sizeOf3
  v3 := Tryz.zeroValue3
  t4 := Tryz.underlying4
  a4 := Tryz.isAgg4
  z4 := Tryz.sizeOf4
  v4 := Tryz.zeroValue4
  t5 := Tryz.underlying5
  a5 := Tryz.isAgg5
  z5 := Tryz.sizeOf5
  v5 := Tryz.zeroValue5
  t9 := Tryz.underlying9
  a9 := Tryz.isAgg9
  z9 := Tryz.sizeOf9
  v9 := Tryz.zeroValue9
  t20 := Tryz.underlying20
  a20 := Tryz.isAgg20
  z20 := Tryz.sizeOf20
  v20 := Tryz.zeroValue20
  t37 := Tryz.underlying116
  a37 := Tryz.isAgg116
  z37 := Tryz.sizeOf116
  v37 := Tryz.zeroValue116
  t46 := Tryz.underlying126
  a46 := Tryz.isAgg126
  z46 := Tryz.sizeOf126
  v46 := Tryz.zeroValue126
  t51 := Tryz.underlying154
  a51 := Tryz.isAgg154
  z51 := Tryz.sizeOf154
  v51 := Tryz.zeroValue154
  t53 := Tryz.underlying156
  a53 := Tryz.isAgg156
  z53 := Tryz.sizeOf156
  v53 := Tryz.zeroValue156
  t171 := Tryz.underlying186
  a171 := Tryz.isAgg186
  z171 := Tryz.sizeOf186
  v171 := Tryz.zeroValue186
  t173 := Tryz.underlying188
  a173 := Tryz.isAgg188
  z173 := Tryz.sizeOf188
  v173 := Tryz.zeroValue188
  t212 := Tryz.underlying198
  a212 := Tryz.isAgg198
  z212 := Tryz.sizeOf198
  v212 := Tryz.zeroValue198
  t213 := Tryz.underlying199
  a213 := Tryz.isAgg199
  z213 := Tryz.sizeOf199
  t232 := Tryz.underlying205
  a232 := Tryz.isAgg205
  z232 := Tryz.sizeOf205
  v232 := Tryz.zeroValue205
  t233 := Tryz.underlying206
  a233 := Tryz.isAgg206
  z233 := Tryz.sizeOf206
  v233 := Tryz.zeroValue206
  g17 := by kernel_rfl
  g18 := by kernel_rfl
  g19 := by kernel_rfl
  i0 := by kernel_rfl
  i2 := by kernel_rfl
  i3 := by kernel_rfl
  i4 := by kernel_rfl
  i5 := by kernel_rfl
  i9 := by kernel_rfl
  i20 := by kernel_rfl
  i37 := by kernel_rfl
  i46 := by kernel_rfl
  i51 := by kernel_rfl
  i53 := by kernel_rfl
  i171 := by kernel_rfl
  i173 := by kernel_rfl
  i212 := by kernel_rfl
  i232 := by kernel_rfl
  i233 := by kernel_rfl
  m17 := by kernel_rfl
  m18 := by kernel_rfl
  m19 := by kernel_rfl
theorem tPow : ∀ w, Tabs w → Lib.TabIs Tryz.prog w "internal/strconv.uint64pow10" .u64 Lib.pow10Tab := fun w h => by
  obtain ⟨_, h⟩ := h
  have h : gp w := h
  unfold gp at h
  obtain ⟨t, z, h1⟩ := h
  unfold Lib.TabIs World.var?
  rw [show Tryz.prog.globalNamed "internal/strconv.uint64pow10" = some 0 by kernel_rfl, Option.bind_some, h1]
theorem f124_ok (K : Nat) : Sound Tryz.prog 124 (f124M K) := fmt_sound f124_lays rfl tPow
include K
theorem f76_ok : SF 76 (f76M K) :=
  sF (f76E K) (aF (f124_ok K) aN) Tryz.func76
omit K
def f138_ren : Go.Shelf.Ren := ⟨fun | 156 => 138 | 165 => 163 | 166 => 164 | 169 => 165 | 240 => 184 | 241 => 185 | 276 => 194 | 277 => 195 | n => n, fun | 0 => 0 | 3 => 3 | 4 => 4 | 5 => 5 | 9 => 9 | 20 => 20 | 31 => 143 | 37 => 116 | 70 => 165 | 72 => 167 | 75 => 170 | 76 => 171 | 80 => 173 | 127 => 190 | 164 => 201 | n => n, fun n => n⟩
theorem f138_lays : Lays.n156 Tryz.prog f138_ren where
  mixed := by kernel_rfl
  f156 := Tryz.func138.trans (congrArg some (by kernel_rfl))
  f165 := Tryz.func163.trans (congrArg some (by kernel_rfl))
  f166 := Tryz.func164.trans (congrArg some (by kernel_rfl))
  f169 := Tryz.func165.trans (congrArg some (by kernel_rfl))
  f240 := Tryz.func184.trans (congrArg some (by kernel_rfl))
  f241 := Tryz.func185.trans (congrArg some (by kernel_rfl))
  f276 := Tryz.func194.trans (congrArg some (by kernel_rfl))
  f277 := Tryz.func195.trans (congrArg some (by kernel_rfl))
  t0 := Tryz.underlying0
  a0 := Tryz.isAgg0
  z0 := Tryz.sizeOf0
  v0 := Tryz.zeroValue0
  t3 := Tryz.underlying3
  a3 := Tryz.isAgg3
  z3 := Tryz.sizeOf3
  v3 := Tryz.zeroValue3
  t4 := Tryz.underlying4
  a4 := Tryz.isAgg4
  z4 := Tryz.sizeOf4
  v4 := Tryz.zeroValue4
  t9 := Tryz.underlying9
  a9 := Tryz.isAgg9
  z9 := Tryz.sizeOf9
  v9 := Tryz.zeroValue9
  t20 := Tryz.underlying20
  a20 := Tryz.isAgg20
  z20 := Tryz.sizeOf20
  v20 := Tryz.zeroValue20
  t31 := Tryz.underlying143
  a31 := Tryz.isAgg143
  z31 := Tryz.sizeOf143
  v31 := Tryz.zeroValue143
  t37 := Tryz.underlying116
  a37 := Tryz.isAgg116
  z37 := Tryz.sizeOf116
  v37 := Tryz.zeroValue116
  t70 := Tryz.underlying165
  a70 := Tryz.isAgg165
  z70 := Tryz.sizeOf165
  v70 := Tryz.zeroValue165
  t72 := Tryz.underlying167
  a72 := Tryz.isAgg167
  z72 := Tryz.sizeOf167
  v72 := Tryz.zeroValue167
  t75 := Tryz.underlying170
  a75 := Tryz.isAgg170
  z75 := Tryz.sizeOf170
  v75 := Tryz.zeroValue170
  t76 := Tryz.underlying171
  a76 := Tryz.isAgg171
  z76 := Tryz.sizeOf171
  v76 := Tryz.zeroValue171
  t127 := Tryz.underlying190
  a127 := Tryz.isAgg190
  z127 := Tryz.sizeOf190
  v127 := Tryz.zeroValue190
  t164 := Tryz.underlying201
  a164 := Tryz.isAgg201
  z164 := Tryz.sizeOf201
  v164 := Tryz.zeroValue201
theorem f138_extra : Builder.Extra Tryz.prog f138_ren where
  sizeBuilder := by kernel_rfl
  liesBuilder := by kernel_rfl
  t5 := Tryz.underlying5
  a5 := Tryz.isAgg5
  z5 := Tryz.sizeOf5
  v5 := Tryz.zeroValue5
  infoByte := by kernel_rfl
  cellsByte := by kernel_rfl
  sizeByte := by kernel_rfl
  neB5 := by decide
theorem f138_ok (K : Nat) : @Sound cwZ Tryz.prog 138 (f138M K) := join_sound (e := 9) f138_lays f138_extra rfl
include K
attribute [local instance] cwZ in
theorem f103_ok : SF 103 (f103M K) :=
  sF (f103E K) (aF (Sound.toZ (f76_ok K)) (aF (f138_ok K) aN)) Tryz.func103 fun x => f103_run K x.1 x.2.1
attribute [local instance] cwZ in
theorem f59_ok : SF 59 (f59M K) :=
  sF (f59E K) (aF (Sound.toZ (f54_ok K)) (aF (f103_ok K) aN)) Tryz.func59
attribute [local instance] cwZ in
theorem f25_ok : SF 25 (f25M K) :=
  sF (f25E K) (aF (f59_ok K) aN) Tryz.func25
theorem f105_ok : SF 105 (f105M K) :=
  sF (f105E K) aN Tryz.func105
theorem f62_ok : SF 62 (f62M K) :=
  sF (f62E K) (aF (f105_ok K) (aF (f106_ok K) (aF (f107_ok K) aN))) Tryz.func62
theorem f61_ok : SF 61 (f61M K) :=
  sF (f61E K) (aF (f104_ok K) aN) Tryz.func61
theorem f149_ok : SF 149 (f149M K) :=
  sF (f149E K) aN Tryz.func149 fun x => f149_run K x.1 x.2.1
theorem f110_ok : SF 110 (f110M K) :=
  sF (f110E K) (aF (f149_ok K) aN) Tryz.func110
theorem f111_ok : SF 111 (f111M K) :=
  sF (f111E K) (aF (f149_ok K) aN) Tryz.func111
theorem f64_ok : SF 64 (f64M K) :=
  sF (f64E K) (aF (f110_ok K) (aF (f111_ok K) aN)) Tryz.func64
omit K
def f63_ren : Go.Shelf.Ren := ⟨fun | 6 => 63 | 14 => 108 | 15 => 109 | 20 => 139 | 21 => 140 | 22 => 141 | 23 => 142 | 24 => 143 | 25 => 144 | 26 => 145 | 27 => 146 | 28 => 147 | 29 => 148 | 46 => 166 | 47 => 167 | 48 => 168 | 49 => 169 | 50 => 170 | 57 => 186 | n => n, fun | 0 => 0 | 3 => 3 | 4 => 4 | 5 => 5 | 9 => 9 | 22 => 39 | 24 => 47 | 25 => 95 | 39 => 126 | 45 => 146 | 46 => 147 | 50 => 151 | 53 => 154 | 55 => 156 | 66 => 174 | 70 => 178 | 76 => 191 | 77 => 192 | n => n, fun n => n⟩
theorem f63_lays : SlLaysF0.n6 Tryz.prog f63_ren where
  mixed := by kernel_rfl
  f6 := ⟨ "slices.SortFunc[[]loop.example/g00943/impl.Motion,loop.example/g00943/impl.Motion]", by decide, Tryz.func63.trans (congrArg some (by kernel_rfl))⟩
  f14 := ⟨ "slices.pdqsortCmpFunc[loop.example/g00943/impl.Motion]", by decide, Tryz.func108.trans (congrArg some (by kernel_rfl))⟩
  f15 := Tryz.func109.trans (congrArg some (by kernel_rfl))
  f20 := ⟨ "slices.insertionSortCmpFunc[loop.example/g00943/impl.Motion]", by decide, Tryz.func139.trans (congrArg some (by kernel_rfl))⟩
  f21 := ⟨ "slices.heapSortCmpFunc[loop.example/g00943/impl.Motion]", by decide, Tryz.func140.trans (congrArg some (by kernel_rfl))⟩
  f22 := ⟨ "slices.breakPatternsCmpFunc[loop.example/g00943/impl.Motion]", by decide, Tryz.func141.trans (congrArg some (by kernel_rfl))⟩
  f23 := ⟨ "slices.choosePivotCmpFunc[loop.example/g00943/impl.Motion]", by decide, Tryz.func142.trans (congrArg some (by kernel_rfl))⟩
  f24 := ⟨ "slices.reverseRangeCmpFunc[loop.example/g00943/impl.Motion]", by decide, Tryz.func143.trans (congrArg some (by kernel_rfl))⟩
  f25 := ⟨ "slices.partialInsertionSortCmpFunc[loop.example/g00943/impl.Motion]", by decide, Tryz.func144.trans (congrArg some (by kernel_rfl))⟩
  f26 := ⟨ "slices.partitionEqualCmpFunc[loop.example/g00943/impl.Motion]", by decide, Tryz.func145.trans (congrArg some (by kernel_rfl))⟩
  f27 := ⟨ "slices.partitionCmpFunc[loop.example/g00943/impl.Motion]", by decide, Tryz.func146.trans (congrArg some (by kernel_rfl))⟩
  f28 := Tryz.func147.trans (congrArg some (by kernel_rfl))
  f29 := Tryz.func148.trans (congrArg some (by kernel_rfl))
  f46 := ⟨ "slices.siftDownCmpFunc[loop.example/g00943/impl.Motion]", by decide, Tryz.func166.trans (congrArg some (by kernel_rfl))⟩
  f47 := Tryz.func167.trans (congrArg some (by kernel_rfl))
  f48 := Tryz.func168.trans (congrArg some (by kernel_rfl))
  f49 := ⟨ "slices.medianAdjacentCmpFunc[loop.example/g00943/impl.Motion]", by decide, Tryz.func169.trans (congrArg some (by kernel_rfl))⟩
  f50 := ⟨ "slices.medianCmpFunc[loop.example/g00943/impl.Motion]", by decide, Tryz.func170.trans (congrArg some (by kernel_rfl))⟩
  f57 := ⟨ "slices.order2CmpFunc[loop.example/g00943/impl.Motion]", by decide, Tryz.func186.trans (congrArg some (by kernel_rfl))⟩
  t0 := Tryz.underlying0
  a0 := Tryz.isAgg0
  z0 := Tryz.sizeOf0
  v0 := Tryz.zeroValue0
  t3 := Tryz.underlying3
  a3 := Tryz.isAgg3
  z3 := Tryz.sizeOf3
  v3 := Tryz.zeroValue3
  t4 := Tryz.underlying4
  a4 := Tryz.isAgg4
  z4 := Tryz.sizeOf4
  v4 := Tryz.zeroValue4
  t5 := Tryz.underlying5
  a5 := Tryz.isAgg5
  z5 := Tryz.sizeOf5
  v5 := Tryz.zeroValue5
  t9 := Tryz.underlying9
  a9 := Tryz.isAgg9
  z9 := Tryz.sizeOf9
  v9 := Tryz.zeroValue9
  t22 := Tryz.underlying39
  a22 := Tryz.isAgg39
  z22 := Tryz.sizeOf39
  v22 := Tryz.zeroValue39
  t25 := Tryz.underlying95
  a25 := Tryz.isAgg95
  z25 := Tryz.sizeOf95
  v25 := Tryz.zeroValue95
  t39 := Tryz.underlying126
  a39 := Tryz.isAgg126
  z39 := Tryz.sizeOf126
  v39 := Tryz.zeroValue126
  t45 := Tryz.underlying146
  a45 := Tryz.isAgg146
  z45 := Tryz.sizeOf146
  v45 := Tryz.zeroValue146
  t46 := Tryz.underlying147
  a46 := Tryz.isAgg147
  z46 := Tryz.sizeOf147
  v46 := Tryz.zeroValue147
  t50 := Tryz.underlying151
  a50 := Tryz.isAgg151
  z50 := Tryz.sizeOf151
  v50 := Tryz.zeroValue151
  t53 := Tryz.underlying154
  a53 := Tryz.isAgg154
  z53 := Tryz.sizeOf154
  v53 := Tryz.zeroValue154
  t55 := Tryz.underlying156
  a55 := Tryz.isAgg156
  z55 := Tryz.sizeOf156
  v55 := Tryz.zeroValue156
  t66 := Tryz.underlying174
  a66 := Tryz.isAgg174
  z66 := Tryz.sizeOf174
  v66 := Tryz.zeroValue174
  t70 := Tryz.underlying178
  a70 := Tryz.isAgg178
  z70 := Tryz.sizeOf178
  v70 := Tryz.zeroValue178
  t76 := Tryz.underlying191
  a76 := Tryz.isAgg191
  z76 := Tryz.sizeOf191
  v76 := Tryz.zeroValue191
  t77 := Tryz.underlying192
  a77 := Tryz.isAgg192
  z77 := Tryz.sizeOf192
  v77 := Tryz.zeroValue192
theorem f63_ok (K : Nat) : Sound Tryz.prog 63 (f63M K) := sort_sound (e := 47) (s := sM) f63_lays rfl rfl rfl Tryz.isAgg47 Tryz.sizeOf47
include K
theorem f26_ok : Sound Tryz.prog 26 (f26M K) :=
  sound_fn (eO (f26E K) (aF (f60_ok K) (aF (f61_ok K) (aF (f62_ok K) (aF (f63_ok K) (aF (f64_ok K) aN))))) (v := (AllV.cons (f64_ok K) (rk 64) AllV.nil))) Tryz.func26 fun x => f26_run K x.1 x.2.1
theorem f151_ok : SF 151 (f151M K) :=
  sF (f151E K) aN Tryz.func151
theorem f113_ok : SF 113 (f113M K) :=
  sF (f113E K) (aF (f106_ok K) (aF (f151_ok K) aN)) Tryz.func113 fun x => f113_run K x.1
theorem f115_ok : SF 115 (f115M K) :=
  sF (f115E K) (aF (f104_ok K) aN) Tryz.func115
theorem f114_ok : SF 114 (f114M K) :=
  sF (f114E K) (aF (f106_ok K) (aF (f115_ok K) aN)) Tryz.func114
theorem f150_ok : SF 150 (f150M K) :=
  sF (f150E K) aN Tryz.func150 fun x => f150_run K x.1 x.2.1
theorem f112_ok : SF 112 (f112M K) :=
  sF (f112E K) (aF (f150_ok K) aN) Tryz.func112 fun x => f112_run K x.1 x.2.1
theorem f65_ok : Sound Tryz.prog 65 (f65M K) :=
  sound_fn (eO (f65E K) (aF (f101_ok K) (aF (f112_ok K) (aF (f113_ok K) (aF (f114_ok K) aN)))) (v := (AllV.cons (f114_ok K) (rk 114) AllV.nil))) Tryz.func65 fun x => by kernel_rfl
theorem f27_ok : SF 27 (f27M K) :=
  sF (f27E K) (aF (f65_ok K) (aF (f66_ok K) (aF (f67_ok K) aN))) Tryz.func27 fun x => f27_run K x.1
theorem f68_ok : SF 68 (f68M K) :=
  sF (f68E K) aN Tryz.func68 fun x => f68_run K x.1 x.2.1
theorem f28_ok : SF 28 (f28M K) :=
  sF (f28E K) (aF (f68_ok K) aN) Tryz.func28
theorem f156_ok : SF 156 (f156M K) :=
  sF (f156E K) (aF (f98_ok K) aN) Tryz.func156
theorem f152_ok : SF 152 (f152M K) :=
  sF (f152E K) (aF (f156_ok K) aN) Tryz.func152
theorem f153_ok : SF 153 (f153M K) :=
  sF (f153E K) aN Tryz.func153
theorem f117_ok : SF 117 (f117M K) :=
  sF (f117E K) (aF (f152_ok K) (aF (f153_ok K) aN)) Tryz.func117
theorem f171_ok : SF 171 (f171M K) :=
  sF (f171E K) (aF (f60_ok K) (aF (f153_ok K) aN)) Tryz.func171
theorem f154_ok : SF 154 (f154M K) :=
  sF (f154E K) (aF (f153_ok K) (aF (f171_ok K) aN)) Tryz.func154
theorem f155_ok : SF 155 (f155M K) :=
  sF (f155E K) (aF (f153_ok K) (aF (f171_ok K) aN)) Tryz.func155
theorem f118_ok : SF 118 (f118M K) :=
  sF (f118E K) (aF (f154_ok K) (aF (f155_ok K) aN)) Tryz.func118
theorem f119_ok : SF 119 (f119M K) :=
  sF (f119E K) (aF (f156_ok K) aN) Tryz.func119
theorem f69_ok : SF 69 (f69M K) :=
  sF (f69E K) (aF (f117_ok K) (aF (f118_ok K) (aF (f119_ok K) aN))) Tryz.func69
attribute [local instance] cwZ in
theorem f70_ok : SF 70 (f70M K) :=
  sF (f70E K) (aF (f103_ok K) (aF (Sound.toZ (f117_ok K)) aN)) Tryz.func70
attribute [local instance] cwZ in
theorem f71_ok : SF 71 (f71M K) :=
  sF (f71E K) (aF (f103_ok K) (aF (Sound.toZ (f119_ok K)) aN)) Tryz.func71
attribute [local instance] cwZ in
theorem f29_ok : SF 29 (f29M K) :=
  sF (f29E K) (aF (Sound.toZ (f69_ok K)) (aF (f70_ok K) (aF (f71_ok K) aN))) Tryz.func29
omit K
def f120_ren : Go.Shelf.Ren := ⟨fun | 212 => 120 | 263 => 157 | 264 => 158 | n => n, fun | 46 => 126 | 51 => 154 | 53 => 156 | 146 => 160 | 148 => 162 | n => n, fun n => n⟩
theorem f120_lays : Lays.n212 Tryz.prog f120_ren where
  mixed := by kernel_rfl
  f212 := Tryz.func120.trans (congrArg some (by kernel_rfl))
  f263 := Tryz.func157.trans (congrArg some (by kernel_rfl))
  f264 := Tryz.func158.trans (congrArg some (by kernel_rfl))
  t46 := Tryz.underlying126
  a46 := Tryz.isAgg126
  z46 := Tryz.sizeOf126
  v46 := Tryz.zeroValue126
  t51 := Tryz.underlying154
  a51 := Tryz.isAgg154
  z51 := Tryz.sizeOf154
  v51 := Tryz.zeroValue154
  t53 := Tryz.underlying156
  a53 := Tryz.isAgg156
  z53 := Tryz.sizeOf156
  v53 := Tryz.zeroValue156
  t146 := Tryz.underlying160
  a146 := Tryz.isAgg160
  z146 := Tryz.sizeOf160
  v146 := Tryz.zeroValue160
  t148 := Tryz.underlying162
  a148 := Tryz.isAgg162
  z148 := Tryz.sizeOf162
  v148 := Tryz.zeroValue162
theorem f120_ok (K : Nat) : Sound Tryz.prog 120 (f120M K) := mul_sound f120_lays rfl
include K
theorem f72_ok : SF 72 (f72M K) :=
  sF (f72E K) (aF (f120_ok K) aN) Tryz.func72 fun x => f72_run K x.1 x.2.1
theorem f121_ok : SF 121 (f121M K) :=
  sF (f121E K) (aF (f104_ok K) (aF (f116_ok K) aN)) Tryz.func121
omit K
def f122_ren : Go.Shelf.Ren := ⟨fun | 6 => 122 | 14 => 159 | 15 => 109 | 20 => 172 | 21 => 173 | 22 => 174 | 23 => 175 | 24 => 176 | 25 => 177 | 26 => 178 | 27 => 179 | 28 => 147 | 29 => 148 | 46 => 187 | 47 => 167 | 48 => 168 | 49 => 188 | 50 => 189 | 57 => 196 | n => n, fun | 0 => 0 | 3 => 3 | 4 => 4 | 5 => 5 | 9 => 9 | 22 => 55 | 24 => 45 | 25 => 128 | 39 => 126 | 45 => 146 | 46 => 147 | 50 => 151 | 53 => 154 | 55 => 156 | 66 => 174 | 70 => 178 | 76 => 191 | 77 => 192 | n => n, fun n => n⟩
theorem f122_lays : SlLaysF0.n6 Tryz.prog f122_ren where
  mixed := by kernel_rfl
  f6 := ⟨ "slices.SortFunc[[]loop.example/g00943/impl.Vec,loop.example/g00943/impl.Vec]", by decide, Tryz.func122.trans (congrArg some (by kernel_rfl))⟩
  f14 := ⟨ "slices.pdqsortCmpFunc[loop.example/g00943/impl.Vec]", by decide, Tryz.func159.trans (congrArg some (by kernel_rfl))⟩
  f15 := Tryz.func109.trans (congrArg some (by kernel_rfl))
  f20 := ⟨ "slices.insertionSortCmpFunc[loop.example/g00943/impl.Vec]", by decide, Tryz.func172.trans (congrArg some (by kernel_rfl))⟩
  f21 := ⟨ "slices.heapSortCmpFunc[loop.example/g00943/impl.Vec]", by decide, Tryz.func173.trans (congrArg some (by kernel_rfl))⟩
  f22 := ⟨ "slices.breakPatternsCmpFunc[loop.example/g00943/impl.Vec]", by decide, Tryz.func174.trans (congrArg some (by kernel_rfl))⟩
  f23 := ⟨ "slices.choosePivotCmpFunc[loop.example/g00943/impl.Vec]", by decide, Tryz.func175.trans (congrArg some (by kernel_rfl))⟩
  f24 := ⟨ "slices.reverseRangeCmpFunc[loop.example/g00943/impl.Vec]", by decide, Tryz.func176.trans (congrArg some (by kernel_rfl))⟩
  f25 := ⟨ "slices.partialInsertionSortCmpFunc[loop.example/g00943/impl.Vec]", by decide, Tryz.func177.trans (congrArg some (by kernel_rfl))⟩
  f26 := ⟨ "slices.partitionEqualCmpFunc[loop.example/g00943/impl.Vec]", by decide, Tryz.func178.trans (congrArg some (by kernel_rfl))⟩
  f27 := ⟨ "slices.partitionCmpFunc[loop.example/g00943/impl.Vec]", by decide, Tryz.func179.trans (congrArg some (by kernel_rfl))⟩
  f28 := Tryz.func147.trans (congrArg some (by kernel_rfl))
  f29 := Tryz.func148.trans (congrArg some (by kernel_rfl))
  f46 := ⟨ "slices.siftDownCmpFunc[loop.example/g00943/impl.Vec]", by decide, Tryz.func187.trans (congrArg some (by kernel_rfl))⟩
  f47 := Tryz.func167.trans (congrArg some (by kernel_rfl))
  f48 := Tryz.func168.trans (congrArg some (by kernel_rfl))
  f49 := ⟨ "slices.medianAdjacentCmpFunc[loop.example/g00943/impl.Vec]", by decide, Tryz.func188.trans (congrArg some (by kernel_rfl))⟩
  f50 := ⟨ "slices.medianCmpFunc[loop.example/g00943/impl.Vec]", by decide, Tryz.func189.trans (congrArg some (by kernel_rfl))⟩
  f57 := ⟨ "slices.order2CmpFunc[loop.example/g00943/impl.Vec]", by decide, Tryz.func196.trans (congrArg some (by kernel_rfl))⟩
  t0 := Tryz.underlying0
  a0 := Tryz.isAgg0
  z0 := Tryz.sizeOf0
  v0 := Tryz.zeroValue0
  t3 := Tryz.underlying3
  a3 := Tryz.isAgg3
  z3 := Tryz.sizeOf3
  v3 := Tryz.zeroValue3
  t4 := Tryz.underlying4
  a4 := Tryz.isAgg4
  z4 := Tryz.sizeOf4
  v4 := Tryz.zeroValue4
  t5 := Tryz.underlying5
  a5 := Tryz.isAgg5
  z5 := Tryz.sizeOf5
  v5 := Tryz.zeroValue5
  t9 := Tryz.underlying9
  a9 := Tryz.isAgg9
  z9 := Tryz.sizeOf9
  v9 := Tryz.zeroValue9
  t22 := Tryz.underlying55
  a22 := Tryz.isAgg55
  z22 := Tryz.sizeOf55
  v22 := Tryz.zeroValue55
  t25 := Tryz.underlying128
  a25 := Tryz.isAgg128
  z25 := Tryz.sizeOf128
  v25 := Tryz.zeroValue128
  t39 := Tryz.underlying126
  a39 := Tryz.isAgg126
  z39 := Tryz.sizeOf126
  v39 := Tryz.zeroValue126
  t45 := Tryz.underlying146
  a45 := Tryz.isAgg146
  z45 := Tryz.sizeOf146
  v45 := Tryz.zeroValue146
  t46 := Tryz.underlying147
  a46 := Tryz.isAgg147
  z46 := Tryz.sizeOf147
  v46 := Tryz.zeroValue147
  t50 := Tryz.underlying151
  a50 := Tryz.isAgg151
  z50 := Tryz.sizeOf151
  v50 := Tryz.zeroValue151
  t53 := Tryz.underlying154
  a53 := Tryz.isAgg154
  z53 := Tryz.sizeOf154
  v53 := Tryz.zeroValue154
  t55 := Tryz.underlying156
  a55 := Tryz.isAgg156
  z55 := Tryz.sizeOf156
  v55 := Tryz.zeroValue156
  t66 := Tryz.underlying174
  a66 := Tryz.isAgg174
  z66 := Tryz.sizeOf174
  v66 := Tryz.zeroValue174
  t70 := Tryz.underlying178
  a70 := Tryz.isAgg178
  z70 := Tryz.sizeOf178
  v70 := Tryz.zeroValue178
  t76 := Tryz.underlying191
  a76 := Tryz.isAgg191
  z76 := Tryz.sizeOf191
  v76 := Tryz.zeroValue191
  t77 := Tryz.underlying192
  a77 := Tryz.isAgg192
  z77 := Tryz.sizeOf192
  v77 := Tryz.zeroValue192
theorem f122_ok (K : Nat) : Sound Tryz.prog 122 (f122M K) := sort_sound (e := 45) (s := sV) f122_lays rfl rfl rfl Tryz.isAgg45 Tryz.sizeOf45
include K
theorem f123_ok : SF 123 (f123M K) :=
  sF (f123E K) aN Tryz.func123 fun x => f123_run K x.1
theorem f74_ok : Sound Tryz.prog 74 (f74M K) :=
  sound_fn (eO (f74E K) (aF (f111_ok K) (aF (f121_ok K) (aF (f122_ok K) (aF (f123_ok K) aN)))) (v := (AllV.cons (f111_ok K) (rk 111) AllV.nil))) Tryz.func74 fun x => f74_run K x.1 x.2.1 x.2.2.1
theorem f30_ok : SF 30 (f30M K) :=
  sF (f30E K) (aF (f55_ok K) (aF (f66_ok K) (aF (f72_ok K) (aF (f73_ok K) (aF (f74_ok K) aN))))) Tryz.func30 fun x => f30_run K x.1 x.2.1
attribute [local instance] cwZ in
theorem f31_ok : SF 31 (f31M K) :=
  sF (f31E K) (aF (f71_ok K) (aF (Sound.toZ (f75_ok K)) (aF (Sound.toZ (f76_ok K)) aN))) Tryz.func31 fun x => f31_run K x.1 x.2.1
attribute [local instance] cwZ in
theorem f7_ok : SF 7 (f7M K) :=
  sF (f7E K) (aF (Sound.toZ (f23_ok K)) (aF (Sound.toZ (f24_ok K)) (aF (f25_ok K) (aF (Sound.toZ (f26_ok K)) (aF (Sound.toZ (f27_ok K)) (aF (Sound.toZ (f28_ok K)) (aF (f29_ok K) (aF (Sound.toZ (f30_ok K)) (aF (f31_ok K) aN))))))))) Tryz.func7 fun x => f7_run K x.1
theorem f32_ok : SF 32 (f32M K) :=
  sF (f32E K) aN Tryz.func32
theorem f33_ok : SF 33 (f33M K) :=
  sF (f33E K) aN Tryz.func33 fun x => f33_run K x.1 x.2.1
theorem f8_ok : SF 8 (f8M K) :=
  sF (f8E K) (aF (f32_ok K) (aF (f33_ok K) aN)) Tryz.func8
attribute [local instance] cwZ in
theorem f3_ok : SF 3 (f3M K) :=
  sF (f3E K) (aF (Sound.toZ (f4_ok K)) (aF (Sound.toZ (f5_ok K)) (aF (Sound.toZ (f6_ok K)) (aF (f7_ok K) (aF (Sound.toZ (f8_ok K)) aN))))) Tryz.func3
end Go.Proofs.YthlpehmnjanmnaaGreatDoor.X
