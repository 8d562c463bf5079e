/- Functions of the program as plain Lean functions, and that the program does what they say. Printed by gen.py. -/
import Derived.Test.YtakemdehgdpplaaGreatDoorQsR0
namespace Go.Proofs.YtakemdehgdpplaaGreatDoor.X
open Go
set_option maxRecDepth 100000
attribute [local instance] cwD
set_option linter.unusedVariables false
theorem rk (n : Nat) (h : runsB Tryz.prog n = true := by kernel_rfl) : Runs Tryz.prog n := runsB_ok h
abbrev SF [CW] (n : Nat) (m : Mdl) : Prop := Sound Tryz.prog n m
theorem aF [CW] {f : Nat} {m : Mdl} {l : List (Nat × Mdl)} (a : Sound Tryz.prog f m) (c : AllOK Tryz.prog l) (b : runsB Tryz.prog f = true := by kernel_rfl) : AllOK Tryz.prog ((f, m) :: l) := AllOK.cons a (runsB_ok b) c
theorem aN [CW] : AllOK Tryz.prog [] := AllOK.nil
theorem eO [CW] (E : Env) (a : AllOK Tryz.prog E.fs) (h : tabB Tryz.prog E.ty E.eq E.mt = true := by exact tab_ok) (p : AllP Tryz.prog E.pf := by exact AllP.nil) (n : AllN Tryz.prog E.nf := by exact AllN.nil) (q : AllQ Tryz.prog E.qf := by exact AllQ.nil) (c : AllC Tryz.prog E.cf := by exact AllC.nil) (v : AllV Tryz.prog E.vf := by exact AllV.nil) (o : AllO Tryz.prog E.xf := by exact AllO.nil) : EnvOK Tryz.prog E := envOK h mixed_ok a p n q c v o
theorem sF [CW] {f : Nat} {fn : Func} {ps : List (PM × Sh)} {rs : List Sh} {F : AT ps → Option (RT (outs ps ++ rs))} (E : Env) (a : AllOK Tryz.prog E.fs) (hfn : Tryz.prog.funcs[f]? = some fn) (hF : ∀ x, runF E fn ps rs x = F x := by intro x; kernel_rfl) (h : tabB Tryz.prog E.ty E.eq E.mt = true := by exact tab_ok) (p : AllP Tryz.prog E.pf := by exact AllP.nil) (n : AllN Tryz.prog E.nf := by exact AllN.nil) (q : AllQ Tryz.prog E.qf := by exact AllQ.nil) (c : AllC Tryz.prog E.cf := by exact AllC.nil) (v : AllV Tryz.prog E.vf := by exact AllV.nil) (o : AllO Tryz.prog E.xf := by exact AllO.nil) : SF f ⟨ps, rs, F⟩ := sound_fn (envOK h mixed_ok a p n q c v o) hfn hF
variable (K : Nat)
include K
theorem f8_ok : SF 8 (f8M K) :=
  sF (f8E K) aN Tryz.func8 fun x => f8_run K x.1 x.2.1
omit K
theorem f55_okn (K : Nat) : ∀ n, Sound Tryz.prog 55 ⟨[(.ro, sI)], [.str], fun x => f55R K n x.1⟩
  | 0 => fun _ _ _ _ _ _ _ _ _ h => by cases h
  | n + 1 => sound_fn (envOK (E := f55E K (f55R K n)) tab_ok mixed_ok (AllOK.cons (f55_okn K n) (rk 55) AllOK.nil) AllP.nil AllN.nil AllQ.nil AllC.nil AllV.nil AllO.nil) Tryz.func55 fun x => f55_run K (f55R K n) x.1
theorem f55_ok (K : Nat) : Sound Tryz.prog 55 (f55M K) := f55_okn K K
include K
theorem f23_ok : SF 23 (f23M K) :=
  sF (f23E K) (aF (f55_ok K) aN) Tryz.func23 fun x => f23_run K x.1
theorem f88_ok : SF 88 (f88M K) :=
  sF (f88E K) (aF (f23_ok K) aN) Tryz.func88
theorem f46_ok : SF 46 (f46M K) :=
  sF (f46E K) (aF (f88_ok K) aN) Tryz.func46 fun x => f46_run K x.1
theorem f89_ok : SF 89 (f89M K) :=
  sF (f89E K) aN Tryz.func89
theorem f47_ok : SF 47 (f47M K) :=
  sF (f47E K) (aF (f89_ok K) aN) Tryz.func47
theorem f18_ok : SF 18 (f18M K) :=
  sF (f18E K) (aF (f8_ok K) (aF (f46_ok K) (aF (f47_ok K) aN))) Tryz.func18
theorem f53_ok : SF 53 (f53M K) :=
  sF (f53E K) (aF (f89_ok K) aN) Tryz.func53
theorem f130_ok : SF 130 (f130M K) :=
  sF (f130E K) (aF (f53_ok K) aN) Tryz.func130
theorem f131_ok : SF 131 (f131M K) :=
  sF (f131E K) aN Tryz.func131
theorem f90_ok : SF 90 (f90M K) :=
  sF (f90E K) (aF (f130_ok K) (aF (f131_ok K) aN)) Tryz.func90
theorem f48_ok : SF 48 (f48M K) :=
  sF (f48E K) (aF (f8_ok K) (aF (f46_ok K) (aF (f90_ok K) aN))) Tryz.func48
theorem f22_ok : SF 22 (f22M K) :=
  sF (f22E K) (aF (f8_ok K) (aF (f46_ok K) (aF (f53_ok K) aN))) Tryz.func22
theorem f58_ok : SF 58 (f58M K) :=
  sF (f58E K) aN Tryz.func58
theorem f59_ok : SF 59 (f59M K) :=
  sF (f59E K) aN Tryz.func59
theorem f132_ok : SF 132 (f132M K) :=
  sF (f132E K) (aF (f58_ok K) (aF (f59_ok K) (aF (f130_ok K) aN))) Tryz.func132 fun x => f132_run K x.1
theorem f91_ok : SF 91 (f91M K) :=
  sF (f91E K) (aF (f131_ok K) (aF (f132_ok K) aN)) Tryz.func91
theorem f49_ok : SF 49 (f49M K) :=
  sF (f49E K) (aF (f53_ok K) (aF (f90_ok K) (aF (f91_ok K) aN))) Tryz.func49
theorem f19_ok : SF 19 (f19M K) :=
  sF (f19E K) (aF (f8_ok K) (aF (f22_ok K) (aF (f48_ok K) (aF (f49_ok K) aN)))) Tryz.func19
theorem f92_ok : SF 92 (f92M K) :=
  sF (f92E K) aN Tryz.func92
theorem f50_ok : SF 50 (f50M K) :=
  sF (f50E K) (aF (f47_ok K) (aF (f92_ok K) aN)) Tryz.func50
theorem f133_ok : SF 133 (f133M K) :=
  sF (f133E K) aN Tryz.func133
theorem f60_ok : SF 60 (f60M K) :=
  sF (f60E K) aN Tryz.func60
theorem f93_ok : SF 93 (f93M K) :=
  sF (f93E K) (aF (f60_ok K) (aF (f133_ok K) aN)) Tryz.func93
theorem f51_ok : SF 51 (f51M K) :=
  sF (f51E K) (aF (f90_ok K) (aF (f92_ok K) (aF (f93_ok K) aN))) Tryz.func51
theorem f94_ok : SF 94 (f94M K) :=
  sF (f94E K) aN Tryz.func94
theorem f61_ok : SF 61 (f61M K) :=
  sF (f61E K) aN Tryz.func61
omit K
theorem f134_okn (K : Nat) : ∀ n, Sound Tryz.prog 134 ⟨[(.ro, sI), (.ro, sI)], [sI], fun x => f134R K n x.1 x.2.1⟩
  | 0 => fun _ _ _ _ _ _ _ _ _ h => by cases h
  | n + 1 => sound_fn (envOK (E := f134E K (f134R K n)) tab_ok mixed_ok (AllOK.cons (f134_okn K n) (rk 134) AllOK.nil) AllP.nil AllN.nil AllQ.nil AllC.nil AllV.nil AllO.nil) Tryz.func134 fun x => f134_run K (f134R K n) x.1 x.2.1
theorem f134_ok (K : Nat) : Sound Tryz.prog 134 (f134M K) := f134_okn K K
include K
theorem f96_ok : SF 96 (f96M K) :=
  sF (f96E K) aN Tryz.func96
theorem f135_ok : SF 135 (f135M K) :=
  sF (f135E K) aN Tryz.func135
theorem f95_ok : SF 95 (f95M K) :=
  sF (f95E K) (aF (f96_ok K) (aF (f134_ok K) (aF (f135_ok K) aN))) Tryz.func95 fun x => f95_run K x.1
theorem f52_ok : SF 52 (f52M K) :=
  sF (f52E K) (aF (f61_ok K) (aF (f94_ok K) (aF (f95_ok K) aN))) Tryz.func52
theorem f20_ok : SF 20 (f20M K) :=
  sF (f20E K) (aF (f50_ok K) (aF (f51_ok K) (aF (f52_ok K) (aF (f53_ok K) aN)))) Tryz.func20
theorem f54_ok : SF 54 (f54M K) :=
  sF (f54E K) (aF (f96_ok K) aN) Tryz.func54
theorem f21_ok : SF 21 (f21M K) :=
  sF (f21E K) (aF (f54_ok K) aN) Tryz.func21
theorem f9_ok : SF 9 (f9M K) :=
  sF (f9E K) (aF (f8_ok K) (aF (f18_ok K) (aF (f19_ok K) (aF (f20_ok K) (aF (f21_ok K) (aF (f22_ok K) (aF (f23_ok K) aN))))))) Tryz.func9
theorem f26_ok : SF 26 (f26M K) :=
  sF (f26E K) (aF (f58_ok K) aN) Tryz.func26
theorem f27_ok : SF 27 (f27M K) :=
  sF (f27E K) (aF (f59_ok K) (aF (f60_ok K) (aF (f61_ok K) aN))) Tryz.func27
theorem f176_ok : SF 176 (f176M K) :=
  sF (f176E K) aN Tryz.func176
theorem f175_ok : SF 175 (f175M K) :=
  sF (f175E K) aN Tryz.func175 fun x => f175_run K x.1 x.2.1
theorem f138_ok : SF 138 (f138M K) :=
  sF (f138E K) (aF (f175_ok K) (aF (f176_ok K) aN)) Tryz.func138
theorem f136_ok : SF 136 (f136M K) :=
  sF (f136E K) aN Tryz.func136
theorem f99_ok : SF 99 (f99M K) :=
  sF (f99E K) (aF (f136_ok K) (aF (f138_ok K) aN)) Tryz.func99
theorem f62_ok : SF 62 (f62M K) :=
  sF (f62E K) (aF (f99_ok K) aN) Tryz.func62 fun x => f62_run K x.1 x.2.1
theorem f28_ok : SF 28 (f28M K) :=
  sF (f28E K) (aF (f62_ok K) aN) Tryz.func28
theorem f29_ok : SF 29 (f29M K) :=
  sF (f29E K) (aF (f62_ok K) aN) Tryz.func29
theorem f12_ok : SF 12 (f12M K) :=
  sF (f12E K) (aF (f21_ok K) (aF (f26_ok K) (aF (f27_ok K) (aF (f28_ok K) (aF (f29_ok K) aN))))) Tryz.func12 fun x => f12_run K x.1 x.2.1
theorem f56_ok : SF 56 (f56M K) :=
  sF (f56E K) aN Tryz.func56 fun x => f56_run K x.1
theorem f137_ok : SF 137 (f137M K) :=
  sF (f137E K) (aF (f60_ok K) (aF (f61_ok K) aN)) Tryz.func137
theorem f98_ok : SF 98 (f98M K) :=
  sF (f98E K) (aF (f54_ok K) (aF (f137_ok K) aN)) Tryz.func98
theorem f97_ok : SF 97 (f97M K) :=
  sF (f97E K) (aF (f136_ok K) aN) Tryz.func97 fun x => f97_run K x.1 x.2.1
theorem f57_ok : SF 57 (f57M K) :=
  sF (f57E K) (aF (f97_ok K) (aF (f98_ok K) aN)) Tryz.func57 fun x => f57_run K x.1 x.2.1 x.2.2.1
theorem f25_ok : SF 25 (f25M K) :=
  sF (f25E K) (aF (f56_ok K) (aF (f57_ok K) aN)) Tryz.func25 fun x => f25_run K x.1 x.2.1
theorem f24_ok : SF 24 (f24M K) :=
  sF (f24E K) (aF (f54_ok K) aN) Tryz.func24
theorem f11_ok : SF 11 (f11M K) :=
  sF (f11E K) (aF (f24_ok K) (aF (f25_ok K) aN)) Tryz.func11 fun x => f11_run K x.1 x.2.1
theorem f10_ok : SF 10 (f10M K) :=
  sF (f10E K) (aF (f24_ok K) aN) Tryz.func10 fun x => f10_run K x.1 x.2.1 x.2.2.1
theorem f6_ok : SoundO Tryz.prog 6 (f6M K) :=
  sound_fnO (eO (f6E K) (aF (f8_ok K) (aF (f9_ok K) (aF (f10_ok K) (aF (f11_ok K) (aF (f12_ok K) aN)))))) Tryz.func6 fun x => f6_run K x.1
theorem f4_ok : Sound Tryz.prog 4 (f4M K) :=
  sound_fn (eO (f4E K) aN (o := (AllO.cons (f6_ok K) (rk 6) AllO.nil))) Tryz.func4 fun x => by kernel_rfl
theorem f63_ok : SF 63 (f63M K) :=
  sF (f63E K) aN Tryz.func63
theorem f30_ok : SF 30 (f30M K) :=
  sF (f30E K) (aF (f63_ok K) aN) Tryz.func30
theorem f13_ok : SF 13 (f13M K) :=
  sF (f13E K) (aF (f30_ok K) aN) Tryz.func13
omit K
def f14_ren : Go.Shelf.Ren := ⟨fun | 138 => 65 | 143 => 33 | 146 => 14 | 195 => 100 | 197 => 101 | 217 => 105 | 218 => 102 | 219 => 67 | 221 => 31 | 224 => 107 | 225 => 106 | 260 => 139 | 266 => 140 | 267 => 108 | 268 => 64 | 314 => 141 | n => n, fun | 0 => 0 | 3 => 3 | 4 => 4 | 5 => 5 | 9 => 9 | 21 => 21 | 31 => 41 | 46 => 147 | 51 => 168 | 105 => 142 | 119 => 202 | 138 => 204 | 139 => 205 | 146 => 169 | n => n, fun | 1 => 0 | 3 => 1 | 4 => 2 | n => n⟩
theorem f14_lays : Lays.n146 Tryz.prog f14_ren where
  mixed := by kernel_rfl
  f138 := Tryz.func65.trans (congrArg some (by kernel_rfl))
  f143 := Tryz.func33.trans (congrArg some (by kernel_rfl))
  f146 := Tryz.func14.trans (congrArg some (by kernel_rfl))
  f195 := Tryz.func100.trans (congrArg some (by kernel_rfl))
  f197 := Tryz.func101.trans (congrArg some (by kernel_rfl))
  f217 := Tryz.func105.trans (congrArg some (by kernel_rfl))
  f218 := Tryz.func102.trans (congrArg some (by kernel_rfl))
  f219 := Tryz.func67.trans (congrArg some (by kernel_rfl))
  f221 := Tryz.func31.trans (congrArg some (by kernel_rfl))
  f224 := Tryz.func107.trans (congrArg some (by kernel_rfl))
  f225 := Tryz.func106.trans (congrArg some (by kernel_rfl))
  f260 := Tryz.func139.trans (congrArg some (by kernel_rfl))
  f266 := Tryz.func140.trans (congrArg some (by kernel_rfl))
  f267 := Tryz.func108.trans (congrArg some (by kernel_rfl))
  f268 := Tryz.func64.trans (congrArg some (by kernel_rfl))
  f314 := Tryz.func141.trans (congrArg some (by kernel_rfl))
  t0 := Tryz.underlying0
  a0 := Tryz.isAgg0
  z0 := Tryz.sizeOf0
  v0 := Tryz.zeroValue0
  t3 := Tryz.underlying3
  a3 := Tryz.isAgg3
  z3 := Tryz.sizeOf3
  v3 := Tryz.zeroValue3
  t4 := Tryz.underlying4
  a4 := Tryz.isAgg4
  z4 := Tryz.sizeOf4
  v4 := Tryz.zeroValue4
  t5 := Tryz.underlying5
  a5 := Tryz.isAgg5
  z5 := Tryz.sizeOf5
  v5 := Tryz.zeroValue5
  t9 := Tryz.underlying9
  a9 := Tryz.isAgg9
  z9 := Tryz.sizeOf9
  v9 := Tryz.zeroValue9
  t21 := Tryz.underlying21
  a21 := Tryz.isAgg21
  z21 := Tryz.sizeOf21
  v21 := Tryz.zeroValue21
  t31 := Tryz.underlying41
  a31 := Tryz.isAgg41
  z31 := Tryz.sizeOf41
  v31 := Tryz.zeroValue41
  t46 := Tryz.underlying147
  a46 := Tryz.isAgg147
  z46 := Tryz.sizeOf147
  v46 := Tryz.zeroValue147
  t51 := Tryz.underlying168
  a51 := Tryz.isAgg168
  z51 := Tryz.sizeOf168
  v51 := Tryz.zeroValue168
  t105 := Tryz.underlying142
  a105 := Tryz.isAgg142
  z105 := Tryz.sizeOf142
  v105 := Tryz.zeroValue142
  t119 := Tryz.underlying202
  a119 := Tryz.isAgg202
  z119 := Tryz.sizeOf202
  t138 := Tryz.underlying204
  a138 := Tryz.isAgg204
  z138 := Tryz.sizeOf204
  v138 := Tryz.zeroValue204
  t139 := Tryz.underlying205
  a139 := Tryz.isAgg205
  z139 := Tryz.sizeOf205
  v139 := Tryz.zeroValue205
  t146 := Tryz.underlying169
  a146 := Tryz.isAgg169
  z146 := Tryz.sizeOf169
  v146 := Tryz.zeroValue169
  g1 := by kernel_rfl
  g3 := by kernel_rfl
  g4 := by kernel_rfl
theorem tMax : ∀ w, Tabs w → ∃ m, w.cell? ⟨0, 0, none⟩ = some (.int .i64 m) := fun w h => by
  obtain ⟨_, h⟩ := h
  have h : gp w := h
  unfold gp at h
  exact h.2.1
theorem f14_ok (K : Nat) : Sound Tryz.prog 14 (f14M K) := split_sound (e := 9) f14_lays rfl rfl (by kernel_rfl) tMax
def f179_ren : Go.Shelf.Ren := ⟨fun | 129 => 166 | 173 => 179 | 246 => 201 | 283 => 210 | 284 => 211 | 285 => 212 | 286 => 213 | 317 => 215 | 318 => 216 | 319 => 217 | 320 => 218 | 337 => 219 | 338 => 220 | n => n, fun | 0 => 0 | 2 => 2 | 3 => 3 | 4 => 4 | 5 => 5 | 9 => 9 | 20 => 20 | 37 => 137 | 46 => 147 | 51 => 168 | 53 => 194 | 171 => 236 | 173 => 238 | 212 => 245 | 213 => 246 | 232 => 248 | 233 => 249 | n => n, fun | 17 => 5 | 18 => 6 | 19 => 7 | n => n⟩
theorem f179_lays : LaysM.n173 Tryz.prog f179_ren where
  mixed := by kernel_rfl
  f129 := Tryz.func166.trans (congrArg some (by kernel_rfl))
  f173 := Tryz.func179.trans (congrArg some (by kernel_rfl))
  f246 := Tryz.func201.trans (congrArg some (by kernel_rfl))
  f283 := Tryz.func210.trans (congrArg some (by kernel_rfl))
  f284 := Tryz.func211.trans (congrArg some (by kernel_rfl))
  f285 := Tryz.func212.trans (congrArg some (by kernel_rfl))
  f286 := Tryz.func213.trans (congrArg some (by kernel_rfl))
  f317 := Tryz.func215.trans (congrArg some (by kernel_rfl))
  f318 := Tryz.func216.trans (congrArg some (by kernel_rfl))
  f319 := Tryz.func217.trans (congrArg some (by kernel_rfl))
  f320 := Tryz.func218.trans (congrArg some (by kernel_rfl))
  f337 := Tryz.func219.trans (congrArg some (by kernel_rfl))
  f338 := Tryz.func220.trans (congrArg some (by kernel_rfl))
  t0 := Tryz.underlying0
  a0 := Tryz.isAgg0
  z0 := Tryz.sizeOf0
  v0 := Tryz.zeroValue0
  t2 := Tryz.underlying2
  a2 := Tryz.isAgg2
  z2 := Tryz.sizeOf2
  v2 := Tryz.zeroValue2
  t3 := Tryz.underlying3
  a3 := Tryz.isAgg3
  z3 := Tryz.sizeOf3
  v3 := Tryz.zeroValue3
  t4 := Tryz.underlying4
  a4 := Tryz.isAgg4
  z4 := Tryz.sizeOf4
  v4 := Tryz.zeroValue4
  t5 := Tryz.underlying5
  a5 := Tryz.isAgg5
  z5 := Tryz.sizeOf5
  v5 := Tryz.zeroValue5
  t9 := Tryz.underlying9
  a9 := Tryz.isAgg9
  z9 := Tryz.sizeOf9
  v9 := Tryz.zeroValue9
  t20 := Tryz.underlying20
  a20 := Tryz.isAgg20
  z20 := Tryz.sizeOf20
  v20 := Tryz.zeroValue20
  t37 := Tryz.underlying137
  a37 := Tryz.isAgg137
  z37 := Tryz.sizeOf137
  v37 := Tryz.zeroValue137
  t46 := Tryz.underlying147
  a46 := Tryz.isAgg147
  z46 := Tryz.sizeOf147
  v46 := Tryz.zeroValue147
  t51 := Tryz.underlying168
  a51 := Tryz.isAgg168
  z51 := Tryz.sizeOf168
  v51 := Tryz.zeroValue168
  t53 := Tryz.underlying194
  a53 := Tryz.isAgg194
  z53 := Tryz.sizeOf194
  v53 := Tryz.zeroValue194
  t171 := Tryz.underlying236
  a171 := Tryz.isAgg236
  z171 := Tryz.sizeOf236
  v171 := Tryz.zeroValue236
  t173 := Tryz.underlying238
  a173 := Tryz.isAgg238
  z173 := Tryz.sizeOf238
  v173 := Tryz.zeroValue238
  t212 := Tryz.underlying245
  a212 := Tryz.isAgg245
  z212 := Tryz.sizeOf245
  v212 := Tryz.zeroValue245
  t213 := Tryz.underlying246
  a213 := Tryz.isAgg246
  z213 := Tryz.sizeOf246
  t232 := Tryz.underlying248
  a232 := Tryz.isAgg248
  z232 := Tryz.sizeOf248
  v232 := Tryz.zeroValue248
  t233 := Tryz.underlying249
  a233 := Tryz.isAgg249
  z233 := Tryz.sizeOf249
  v233 := Tryz.zeroValue249
  g17 := by kernel_rfl
  g18 := by kernel_rfl
  g19 := by kernel_rfl
  i0 := by kernel_rfl
  i2 := by kernel_rfl
  i3 := by kernel_rfl
  i4 := by kernel_rfl
  i5 := by kernel_rfl
  i9 := by kernel_rfl
  i20 := by kernel_rfl
  i37 := by kernel_rfl
  i46 := by kernel_rfl
  i51 := by kernel_rfl
  i53 := by kernel_rfl
  i171 := by kernel_rfl
  i173 := by kernel_rfl
  i212 := by kernel_rfl
  i232 := by kernel_rfl
  i233 := by kernel_rfl
  m17 := by kernel_rfl
  m18 := by kernel_rfl
  m19 := by kernel_rfl
theorem tPow : ∀ w, Tabs w → Lib.TabIs Tryz.prog w "internal/strconv.uint64pow10" .u64 Lib.pow10Tab := fun w h => by
  obtain ⟨_, h⟩ := h
  have h : gp w := h
  unfold gp at h
  obtain ⟨t, z, h1⟩ := h.1
  unfold Lib.TabIs World.var?
  rw [show Tryz.prog.globalNamed "internal/strconv.uint64pow10" = some 5 by kernel_rfl, Option.bind_some, h1]
theorem f179_ok (K : Nat) : Sound Tryz.prog 179 (f179M K) := fmt_sound f179_lays rfl tPow
include K
theorem f143_ok : SF 143 (f143M K) :=
  sF (f143E K) (aF (f179_ok K) aN) Tryz.func143
omit K
def f109_ren : Go.Shelf.Ren := ⟨fun | 129 => 166 | 171 => 209 | 174 => 142 | 205 => 208 | 243 => 214 | 245 => 178 | 246 => 201 | 247 => 177 | 279 => 197 | 280 => 198 | 281 => 199 | 282 => 200 | 283 => 210 | 284 => 211 | 285 => 212 | 286 => 213 | 287 => 196 | 316 => 207 | 317 => 215 | 318 => 216 | 319 => 217 | 320 => 218 | 321 => 205 | 322 => 206 | 337 => 219 | 338 => 220 | n => n, fun | 0 => 0 | 2 => 2 | 3 => 3 | 4 => 4 | 5 => 5 | 9 => 9 | 20 => 20 | 21 => 21 | 37 => 137 | 46 => 147 | 51 => 168 | 53 => 194 | 75 => 172 | 80 => 250 | 85 => 173 | 127 => 240 | 143 => 241 | 145 => 243 | 167 => 220 | 168 => 223 | 171 => 236 | 173 => 238 | 175 => 221 | 210 => 233 | 212 => 245 | 213 => 246 | 232 => 248 | 233 => 249 | n => n, fun | 15 => 3 | 16 => 4 | 17 => 5 | 18 => 6 | 19 => 7 | n => n⟩
theorem f109_lays : LaysC.n174 Tryz.prog f109_ren where
  mixed := by kernel_rfl
  f129 := Tryz.func166.trans (congrArg some (by kernel_rfl))
  f171 := Tryz.func209.trans (congrArg some (by kernel_rfl))
  f174 := Tryz.func142.trans (congrArg some (by kernel_rfl))
  f205 := Tryz.func208.trans (congrArg some (by kernel_rfl))
  f243 := Tryz.func214.trans (congrArg some (by kernel_rfl))
  f245 := Tryz.func178.trans (congrArg some (by kernel_rfl))
  f246 := Tryz.func201.trans (congrArg some (by kernel_rfl))
  f247 := Tryz.func177.trans (congrArg some (by kernel_rfl))
  f279 := Tryz.func197.trans (congrArg some (by kernel_rfl))
  f280 := Tryz.func198.trans (congrArg some (by kernel_rfl))
  f281 := Tryz.func199.trans (congrArg some (by kernel_rfl))
  f282 := Tryz.func200.trans (congrArg some (by kernel_rfl))
  f283 := Tryz.func210.trans (congrArg some (by kernel_rfl))
  f284 := Tryz.func211.trans (congrArg some (by kernel_rfl))
  f285 := Tryz.func212.trans (congrArg some (by kernel_rfl))
  f286 := Tryz.func213.trans (congrArg some (by kernel_rfl))
  f287 := Tryz.func196.trans (congrArg some (by kernel_rfl))
  f316 := Tryz.func207.trans (congrArg some (by kernel_rfl))
  f317 := Tryz.func215.trans (congrArg some (by kernel_rfl))
  f318 := Tryz.func216.trans (congrArg some (by kernel_rfl))
  f319 := Tryz.func217.trans (congrArg some (by kernel_rfl))
  f320 := Tryz.func218.trans (congrArg some (by kernel_rfl))
  f321 := Tryz.func205.trans (congrArg some (by kernel_rfl))
  f322 := Tryz.func206.trans (congrArg some (by kernel_rfl))
  f337 := Tryz.func219.trans (congrArg some (by kernel_rfl))
  f338 := Tryz.func220.trans (congrArg some (by kernel_rfl))
  t0 := Tryz.underlying0
  a0 := Tryz.isAgg0
  z0 := Tryz.sizeOf0
  v0 := Tryz.zeroValue0
  t2 := Tryz.underlying2
  a2 := Tryz.isAgg2
  z2 := Tryz.sizeOf2
  v2 := Tryz.zeroValue2
  t3 := Tryz.underlying3
  a3 := Tryz.isAgg3
  z3 := Tryz.sizeOf3
  v3 := Tryz.zeroValue3
  t4 := Tryz.underlying4
  a4 := Tryz.isAgg4
  z4 := Tryz.sizeOf4
  v4 := Tryz.zeroValue4
  t5 := Tryz.underlying5
  a5 := Tryz.isAgg5
  z5 := Tryz.sizeOf5
  v5 := Tryz.zeroValue5
  t9 := Tryz.underlying9
  a9 := Tryz.isAgg9
  z9 := Tryz.sizeOf9
  v9 := Tryz.zeroValue9
  t20 := Tryz.underlying20
  a20 := Tryz.isAgg20
  z20 := Tryz.sizeOf20
  v20 := Tryz.zeroValue20
  t21 := Tryz.underlying21
  a21 := Tryz.isAgg21
  z21 := Tryz.sizeOf21
  v21 := Tryz.zeroValue21
  t37 := Tryz.underlying137
  a37 := Tryz.isAgg137
  z37 := Tryz.sizeOf137
  v37 := Tryz.zeroValue137
  t46 := Tryz.underlying147
  a46 := Tryz.isAgg147
  z46 := Tryz.sizeOf147
  v46 := Tryz.zeroValue147
  t51 := Tryz.underlying168
  a51 := Tryz.isAgg168
  z51 := Tryz.sizeOf168
  v51 := Tryz.zeroValue168
  t53 := Tryz.underlying194
  a53 := Tryz.isAgg194
  z53 := Tryz.sizeOf194
  v53 := Tryz.zeroValue194
  t75 := Tryz.underlying172
  a75 := Tryz.isAgg172
  z75 := Tryz.sizeOf172
  v75 := Tryz.zeroValue172
  t85 := Tryz.underlying173
  a85 := Tryz.isAgg173
  z85 := Tryz.sizeOf173
  v85 := Tryz.zeroValue173
  t127 := Tryz.underlying240
  a127 := Tryz.isAgg240
  z127 := Tryz.sizeOf240
  v127 := Tryz.zeroValue240
  t143 := Tryz.underlying241
  a143 := Tryz.isAgg241
  z143 := Tryz.sizeOf241
  v143 := Tryz.zeroValue241
  t145 := Tryz.underlying243
  a145 := Tryz.isAgg243
  z145 := Tryz.sizeOf243
  v145 := Tryz.zeroValue243
  t167 := Tryz.underlying220
  a167 := Tryz.isAgg220
  z167 := Tryz.sizeOf220
  v167 := Tryz.zeroValue220
  t168 := Tryz.underlying223
  a168 := Tryz.isAgg223
  z168 := Tryz.sizeOf223
  v168 := Tryz.zeroValue223
  t171 := Tryz.underlying236
  a171 := Tryz.isAgg236
  z171 := Tryz.sizeOf236
  v171 := Tryz.zeroValue236
  t173 := Tryz.underlying238
  a173 := Tryz.isAgg238
  z173 := Tryz.sizeOf238
  v173 := Tryz.zeroValue238
  t175 := Tryz.underlying221
  a175 := Tryz.isAgg221
  z175 := Tryz.sizeOf221
  v175 := Tryz.zeroValue221
  t210 := Tryz.underlying233
  a210 := Tryz.isAgg233
  z210 := Tryz.sizeOf233
  v210 := Tryz.zeroValue233
  t212 := Tryz.underlying245
  a212 := Tryz.isAgg245
  z212 := Tryz.sizeOf245
  v212 := Tryz.zeroValue245
  t213 := Tryz.underlying246
  a213 := Tryz.isAgg246
  z213 := Tryz.sizeOf246
  t232 := Tryz.underlying248
  a232 := Tryz.isAgg248
  z232 := Tryz.sizeOf248
  v232 := Tryz.zeroValue248
  t233 := Tryz.underlying249
  a233 := Tryz.isAgg249
  z233 := Tryz.sizeOf249
  v233 := Tryz.zeroValue249
  g15 := by kernel_rfl
  g16 := by kernel_rfl
  g17 := by kernel_rfl
  g18 := by kernel_rfl
  g19 := by kernel_rfl
  t80 := Tryz.underlying250
  a80 := Tryz.isAgg250
  z80 := Tryz.sizeOf250
  v80 := Tryz.zeroValue250
  i0 := by kernel_rfl
  i2 := by kernel_rfl
  i3 := by kernel_rfl
  i4 := by kernel_rfl
  i5 := by kernel_rfl
  i9 := by kernel_rfl
  i20 := by kernel_rfl
  i21 := by kernel_rfl
  i37 := by kernel_rfl
  i46 := by kernel_rfl
  i51 := by kernel_rfl
  i53 := by kernel_rfl
  i75 := by kernel_rfl
  i80 := by kernel_rfl
  i85 := by kernel_rfl
  i127 := by kernel_rfl
  i143 := by kernel_rfl
  i145 := by kernel_rfl
  i167 := by kernel_rfl
  i168 := by kernel_rfl
  i171 := by kernel_rfl
  i173 := by kernel_rfl
  i175 := by kernel_rfl
  i210 := by kernel_rfl
  i212 := by kernel_rfl
  i232 := by kernel_rfl
  i233 := by kernel_rfl
  m15 := by kernel_rfl
  m16 := by kernel_rfl
  m17 := by kernel_rfl
  m18 := by kernel_rfl
  m19 := by kernel_rfl
  c0 := by kernel_rfl
  c2 := by kernel_rfl
  c3 := by kernel_rfl
  c4 := by kernel_rfl
  c5 := by kernel_rfl
  c9 := by kernel_rfl
  c20 := by kernel_rfl
  c21 := by kernel_rfl
  c37 := by kernel_rfl
  c46 := by kernel_rfl
  c51 := by kernel_rfl
  c53 := by kernel_rfl
  c75 := by kernel_rfl
  c80 := by kernel_rfl
  c85 := by kernel_rfl
  c127 := by kernel_rfl
  c143 := by kernel_rfl
  c145 := by kernel_rfl
  c167 := by kernel_rfl
  c168 := by kernel_rfl
  c171 := by kernel_rfl
  c173 := by kernel_rfl
  c175 := by kernel_rfl
  c210 := by kernel_rfl
  c212 := by kernel_rfl
  c213 := by kernel_rfl
  c232 := by kernel_rfl
  c233 := by kernel_rfl
theorem tSyn : ∀ w, Tabs w → ∃ te pe, w.cell? ⟨3, 0, none⟩ = some (.iface te pe) := fun w h => by
  obtain ⟨_, h⟩ := h
  have h : gp w := h
  unfold gp at h
  exact h.2.2.1
theorem tRng : ∀ w, Tabs w → ∃ te pe, w.cell? ⟨4, 0, none⟩ = some (.iface te pe) := fun w h => by
  obtain ⟨_, h⟩ := h
  have h : gp w := h
  unfold gp at h
  exact h.2.2.2
open Go.RowKit Go.Shelf in
theorem f109_ok (K : Nat) : @Sound cwZ Tryz.prog 109 (f109M K) := by
  intro w x us Fs hW hgf hA hap
  refine fun (y : Int × Bool) hy => ?_
  obtain ⟨s, x0⟩ := x
  obtain ⟨rfl, G, rfl⟩ := str1 hA
  change numF s = some y at hy
  unfold numF at hy
  cases hsz : Nat.ble s.size 140737488355328
  · rw [hsz] at hy; cases hy
  rw [hsz, cond_true] at hy
  have hsz := Nat.le_of_ble_eq_true hsz
  have e142 : ∀ args w, (callFunc 142 args).run Tryz.prog w = .ok (.enter 142 args) w := enters_of Tryz.func142 (by kernel_rfl) rfl
  have e143 : ∀ args w, (callFunc 143 args).run Tryz.prog w = .ok (.enter 143 args) w := enters_of Tryz.func143 (by kernel_rfl) rfl
  have hfin : ∀ (n : Int) (b : Bool), (n, b) = y → (Calls Tryz.prog 109 #[.string s] w fun e w' => e = .returned (.tuple #[.int .i64 n, .bool b]) ∧ Below w.heap.size w w') → Calls Tryz.prog 109 [Value.string s].toArray w fun e w' => ∃ u, e = .returned u ∧ @Post cwZ w (f109M K) [.string s] [G] y u w' := by
    intro n b hy h
    subst hy
    exact h.mono fun e w' ⟨he, hB⟩ => ⟨_, he, num_post hB⟩
  cases hp : Lib.parseIntB 64 s.data.toList
  · rename_i v
    rw [hp] at hy
    have hb := Lib.parseIntB_bounds hp
    refine hfin v (itoaB v == s) (by simpa using hy) ?_
    have hP := Any.strconv_ParseInt_10_at64_ok f109_lays s (by omega) v hp w
    have hin : inI64 v = true := by
      simp only [inI64, Bool.and_eq_true, decide_eq_true_eq]
      omega
    go_enter Tryz.func109, Tryz.ntmps109
    go_wp2_with (go_at_fn 142; refine hP.mono ?_)
    rintro e W1 rfl hW1
    have hB1 : Below w.heap.size w W1 := by
      rcases hW1 with rfl | ⟨t, rfl⟩
      · exact Below.refl _ _
      · exact Lib.bytesWorld_below _ _ _
    go_wp2_with (go_at_fn 143; refine (text_calls (f143_ok K) (hW.below hB1) (y := itoaB v) ?_).mono ?_)
    · show (Option.bind (fmtF v 10) fun y => some y) = some (itoaB v)
      unfold fmtF
      rw [hin]
      rfl
    · rintro e W2 ⟨rfl, hB2⟩
      go_wp2
      go_ret2
      refine ⟨?_, hB1.trans (hB2.mono hB1.size)⟩
      rw [beq_toListBytes]
      rfl
  · rw [hp] at hy
    obtain ⟨te, pe, hc⟩ := tSyn w hW
    have hP := Any.strconv_ParseInt_10_at64_syntax f109_lays s (by omega) hp (.iface te pe) w hc (.inr ⟨te, pe, rfl⟩)
    refine hfin _ false (by simpa using hy) ?_
    go_enter Tryz.func109, Tryz.ntmps109
    go_wp2_with (go_at_fn 142; refine hP.mono ?_)
    rintro e W1 N rfl hN _ hB1
    go_wp2
    go_ret2
    exact ⟨rfl, hB1⟩
  · rw [hp] at hy
    obtain ⟨te, pe, hc⟩ := tRng w hW
    have hP := Any.strconv_ParseInt_10_at64_range f109_lays s (by omega) hp (.iface te pe) w hc (.inr ⟨te, pe, rfl⟩)
    refine hfin _ false (by simpa using hy) ?_
    go_enter Tryz.func109, Tryz.ntmps109
    go_wp2_with (go_at_fn 142; refine hP.mono ?_)
    rintro e W1 N rfl hN _ hB1
    go_wp2
    go_ret2
    exact ⟨rfl, hB1⟩

include K
attribute [local instance] cwZ in
theorem f68_ok : SF 68 (f68M K) :=
  sF (f68E K) (aF (Sound.toZ (f14_ok K)) (aF (f109_ok K) aN)) Tryz.func68 fun x => f68_run K x.1 x.2.1 x.2.2.1
theorem f75_ok : SF 75 (f75M K) :=
  sF (f75E K) aN Tryz.func75
theorem f147_ok : SF 147 (f147M K) :=
  sF (f147E K) (aF (f75_ok K) aN) Tryz.func147
theorem f113_ok : SF 113 (f113M K) :=
  sF (f113E K) (aF (f147_ok K) aN) Tryz.func113
attribute [local instance] cwZ in
theorem f103_ok : SF 103 (f103M K) :=
  sF (f103E K) (aF (f68_ok K) (aF (Sound.toZ (f113_ok K)) aN)) Tryz.func103
theorem f104_ok : SF 104 (f104M K) :=
  sF (f104E K) aN Tryz.func104 fun x => f104_run K x.1
attribute [local instance] cwZ in
theorem f66_ok : SF 66 (f66M K) :=
  sF (f66E K) (aF (f103_ok K) (aF (Sound.toZ (f104_ok K)) aN)) Tryz.func66
attribute [local instance] cwZ in
theorem f32_ok : SoundQ Tryz.prog 32 (f32M K) :=
  sound_fnQ (eO (f32E K) (aF (f66_ok K) aN)) Tryz.func32 fun x => by kernel_rfl
omit K
def f33_ren : Go.Shelf.Ren := ⟨fun | 143 => 33 | 217 => 105 | 219 => 67 | 224 => 107 | 225 => 106 | 266 => 140 | 267 => 108 | 314 => 141 | n => n, fun | 3 => 3 | 4 => 4 | 5 => 5 | 9 => 9 | 46 => 147 | 51 => 168 | 146 => 169 | n => n, fun | 1 => 0 | n => n⟩
theorem f33_lays : Lays.n143 Tryz.prog f33_ren where
  mixed := by kernel_rfl
  f143 := Tryz.func33.trans (congrArg some (by kernel_rfl))
  f217 := Tryz.func105.trans (congrArg some (by kernel_rfl))
  f219 := Tryz.func67.trans (congrArg some (by kernel_rfl))
  f224 := Tryz.func107.trans (congrArg some (by kernel_rfl))
  f225 := Tryz.func106.trans (congrArg some (by kernel_rfl))
  f266 := Tryz.func140.trans (congrArg some (by kernel_rfl))
  f267 := Tryz.func108.trans (congrArg some (by kernel_rfl))
  f314 := Tryz.func141.trans (congrArg some (by kernel_rfl))
  t3 := Tryz.underlying3
  a3 := Tryz.isAgg3
  z3 := Tryz.sizeOf3
  v3 := Tryz.zeroValue3
  t4 := Tryz.underlying4
  a4 := Tryz.isAgg4
  z4 := Tryz.sizeOf4
  v4 := Tryz.zeroValue4
  t5 := Tryz.underlying5
  a5 := Tryz.isAgg5
  z5 := Tryz.sizeOf5
  v5 := Tryz.zeroValue5
  t9 := Tryz.underlying9
  a9 := Tryz.isAgg9
  z9 := Tryz.sizeOf9
  v9 := Tryz.zeroValue9
  t46 := Tryz.underlying147
  a46 := Tryz.isAgg147
  z46 := Tryz.sizeOf147
  v46 := Tryz.zeroValue147
  t51 := Tryz.underlying168
  a51 := Tryz.isAgg168
  z51 := Tryz.sizeOf168
  v51 := Tryz.zeroValue168
  t146 := Tryz.underlying169
  a146 := Tryz.isAgg169
  z146 := Tryz.sizeOf169
  v146 := Tryz.zeroValue169
  g1 := by kernel_rfl

theorem f33_ok (K : Nat) : Sound Tryz.prog 33 (f33M K) := idx_sound f33_lays rfl tMax
include K
theorem f34_ok : SF 34 (f34M K) :=
  sF (f34E K) aN Tryz.func34
theorem f78_ok : SF 78 (f78M K) :=
  sF (f78E K) aN Tryz.func78
theorem f69_ok : SF 69 (f69M K) :=
  sF (f69E K) (aF (f75_ok K) (aF (f78_ok K) aN)) Tryz.func69
attribute [local instance] cwZ in
theorem f35_ok : SF 35 (f35M K) :=
  sF (f35E K) (aF (f68_ok K) (aF (Sound.toZ (f69_ok K)) aN)) Tryz.func35
omit K
def f110_ren : Go.Shelf.Ren := ⟨fun | 145 => 110 | 217 => 105 | 219 => 67 | 220 => 144 | 224 => 107 | 225 => 106 | 266 => 140 | 267 => 108 | 314 => 141 | n => n, fun | 3 => 3 | 4 => 4 | 5 => 5 | 9 => 9 | 46 => 147 | 51 => 168 | 59 => 148 | 146 => 169 | n => n, fun | 1 => 0 | n => n⟩
theorem f110_lays : Lays.n145 Tryz.prog f110_ren where
  mixed := by kernel_rfl
  f145 := Tryz.func110.trans (congrArg some (by kernel_rfl))
  f217 := Tryz.func105.trans (congrArg some (by kernel_rfl))
  f219 := Tryz.func67.trans (congrArg some (by kernel_rfl))
  f220 := Tryz.func144.trans (congrArg some (by kernel_rfl))
  f224 := Tryz.func107.trans (congrArg some (by kernel_rfl))
  f225 := Tryz.func106.trans (congrArg some (by kernel_rfl))
  f266 := Tryz.func140.trans (congrArg some (by kernel_rfl))
  f267 := Tryz.func108.trans (congrArg some (by kernel_rfl))
  f314 := Tryz.func141.trans (congrArg some (by kernel_rfl))
  t3 := Tryz.underlying3
  a3 := Tryz.isAgg3
  z3 := Tryz.sizeOf3
  v3 := Tryz.zeroValue3
  t4 := Tryz.underlying4
  a4 := Tryz.isAgg4
  z4 := Tryz.sizeOf4
  v4 := Tryz.zeroValue4
  t5 := Tryz.underlying5
  a5 := Tryz.isAgg5
  z5 := Tryz.sizeOf5
  v5 := Tryz.zeroValue5
  t9 := Tryz.underlying9
  a9 := Tryz.isAgg9
  z9 := Tryz.sizeOf9
  v9 := Tryz.zeroValue9
  t46 := Tryz.underlying147
  a46 := Tryz.isAgg147
  z46 := Tryz.sizeOf147
  v46 := Tryz.zeroValue147
  t51 := Tryz.underlying168
  a51 := Tryz.isAgg168
  z51 := Tryz.sizeOf168
  v51 := Tryz.zeroValue168
  t59 := Tryz.underlying148
  a59 := Tryz.isAgg148
  z59 := Tryz.sizeOf148
  v59 := Tryz.zeroValue148
  t146 := Tryz.underlying169
  a146 := Tryz.isAgg169
  z146 := Tryz.sizeOf169
  v146 := Tryz.zeroValue169
  g1 := by kernel_rfl

theorem f110_ok (K : Nat) : Sound Tryz.prog 110 (f110M K) := cut_sound f110_lays rfl tMax
include K
theorem f180_ok : SF 180 (f180M K) :=
  sF (f180E K) (aF (f147_ok K) aN) Tryz.func180
theorem f181_ok : SF 181 (f181M K) :=
  sF (f181E K) aN Tryz.func181
theorem f145_ok : SF 145 (f145M K) :=
  sF (f145E K) (aF (f180_ok K) (aF (f181_ok K) aN)) Tryz.func145
attribute [local instance] cwZ in
theorem f111_ok : SF 111 (f111M K) :=
  sF (f111E K) (aF (f68_ok K) (aF (Sound.toZ (f145_ok K)) aN)) Tryz.func111
theorem f84_ok : SF 84 (f84M K) :=
  sF (f84E K) aN Tryz.func84
theorem f202_ok : SF 202 (f202M K) :=
  sF (f202E K) (aF (f84_ok K) (aF (f181_ok K) aN)) Tryz.func202
theorem f182_ok : SF 182 (f182M K) :=
  sF (f182E K) (aF (f181_ok K) (aF (f202_ok K) aN)) Tryz.func182
theorem f183_ok : SF 183 (f183M K) :=
  sF (f183E K) (aF (f181_ok K) (aF (f202_ok K) aN)) Tryz.func183
theorem f146_ok : SF 146 (f146M K) :=
  sF (f146E K) (aF (f182_ok K) (aF (f183_ok K) aN)) Tryz.func146
theorem f112_ok : SF 112 (f112M K) :=
  sF (f112E K) (aF (f113_ok K) (aF (f145_ok K) (aF (f146_ok K) aN))) Tryz.func112
attribute [local instance] cwZ in
theorem f70_ok : SF 70 (f70M K) :=
  sF (f70E K) (aF (f103_ok K) (aF (Sound.toZ (f110_ok K)) (aF (f111_ok K) (aF (Sound.toZ (f112_ok K)) aN)))) Tryz.func70
theorem f149_ok : SF 149 (f149M K) :=
  sF (f149E K) aN Tryz.func149
theorem f126_ok : SF 126 (f126M K) :=
  sF (f126E K) aN Tryz.func126
theorem f185_ok : SF 185 (f185M K) :=
  sF (f185E K) aN Tryz.func185
theorem f151_ok : SF 151 (f151M K) :=
  sF (f151E K) (aF (f126_ok K) (aF (f185_ok K) aN)) Tryz.func151 fun x => f151_run K x.1
theorem f83_ok : SF 83 (f83M K) :=
  sF (f83E K) aN Tryz.func83
theorem f43_ok : SF 43 (f43M K) :=
  sF (f43E K) (aF (f83_ok K) aN) Tryz.func43
theorem f153_ok : SF 153 (f153M K) :=
  sF (f153E K) (aF (f43_ok K) aN) Tryz.func153
theorem f152_ok : SF 152 (f152M K) :=
  sF (f152E K) (aF (f126_ok K) (aF (f153_ok K) aN)) Tryz.func152
theorem f184_ok : SF 184 (f184M K) :=
  sF (f184E K) aN Tryz.func184 fun x => f184_run K x.1 x.2.1
theorem f150_ok : SF 150 (f150M K) :=
  sF (f150E K) (aF (f184_ok K) aN) Tryz.func150 fun x => f150_run K x.1 x.2.1
theorem f115_ok : Sound Tryz.prog 115 (f115M K) :=
  sound_fn (eO (f115E K) (aF (f149_ok K) (aF (f150_ok K) (aF (f151_ok K) (aF (f152_ok K) aN)))) (v := (AllV.cons (f152_ok K) (rk 152) AllV.nil))) Tryz.func115 fun x => by kernel_rfl
theorem f148_ok : SF 148 (f148M K) :=
  sF (f148E K) aN Tryz.func148 fun x => f148_run K x.1 x.2.1
theorem f114_ok : SF 114 (f114M K) :=
  sF (f114E K) (aF (f148_ok K) aN) Tryz.func114
theorem f71_ok : SF 71 (f71M K) :=
  sF (f71E K) (aF (f113_ok K) (aF (f114_ok K) (aF (f115_ok K) aN))) Tryz.func71
theorem f72_ok : SF 72 (f72M K) :=
  sF (f72E K) (aF (f43_ok K) aN) Tryz.func72
attribute [local instance] cwZ in
theorem f36_ok : SoundQ Tryz.prog 36 (f36M K) :=
  sound_fnQ (eO (f36E K) (aF (f70_ok K) (aF (Sound.toZ (f71_ok K)) (aF (Sound.toZ (f72_ok K)) aN)))) Tryz.func36 fun x => by kernel_rfl
attribute [local instance] cwZ in
theorem f15_ok : SoundQ Tryz.prog 15 (f15M K) :=
  sound_fnQ (eO (f15E K) (aF (Sound.toZ (f14_ok K)) (aF (Sound.toZ (f33_ok K)) (aF (Sound.toZ (f34_ok K)) (aF (f35_ok K) aN)))) (q := (AllQ.cons (f32_ok K) (rk 32) (AllQ.cons (f36_ok K) (rk 36) AllQ.nil)))) Tryz.func15 fun x => by kernel_rfl
theorem f125_ok : SF 125 (f125M K) :=
  sF (f125E K) aN Tryz.func125
theorem f127_ok : SF 127 (f127M K) :=
  sF (f127E K) aN Tryz.func127
theorem f85_ok : SF 85 (f85M K) :=
  sF (f85E K) (aF (f125_ok K) (aF (f126_ok K) (aF (f127_ok K) aN))) Tryz.func85
theorem f124_ok : SF 124 (f124M K) :=
  sF (f124E K) aN Tryz.func124 fun x => f124_run K x.1 x.2.1
theorem f129_ok : SF 129 (f129M K) :=
  sF (f129E K) (aF (f124_ok K) aN) Tryz.func129
theorem f81_ok : SF 81 (f81M K) :=
  sF (f81E K) (aF (f124_ok K) aN) Tryz.func81
theorem f87_ok : SF 87 (f87M K) :=
  sF (f87E K) (aF (f81_ok K) (aF (f129_ok K) aN)) Tryz.func87
omit K
def f86_ren : Go.Shelf.Ren := ⟨fun | 6 => 86 | 14 => 128 | 15 => 123 | 20 => 167 | 21 => 168 | 22 => 169 | 23 => 170 | 24 => 171 | 25 => 172 | 26 => 173 | 27 => 174 | 28 => 165 | 29 => 166 | 46 => 193 | 47 => 189 | 48 => 190 | 49 => 194 | 50 => 195 | 57 => 204 | n => n, fun | 0 => 0 | 3 => 3 | 4 => 4 | 5 => 5 | 9 => 9 | 22 => 27 | 24 => 63 | 25 => 133 | 39 => 147 | 45 => 185 | 46 => 186 | 50 => 190 | 53 => 168 | 55 => 194 | 66 => 212 | 70 => 216 | 76 => 226 | 77 => 227 | n => n, fun n => n⟩
theorem f86_lays : SlLaysF0.n6 Tryz.prog f86_ren where
  mixed := by kernel_rfl
  f6 := ⟨ "slices.SortFunc[[]loop.example/g00943/impl.Motion,loop.example/g00943/impl.Motion]", by decide, Tryz.func86.trans (congrArg some (by kernel_rfl))⟩
  f14 := ⟨ "slices.pdqsortCmpFunc[loop.example/g00943/impl.Motion]", by decide, Tryz.func128.trans (congrArg some (by kernel_rfl))⟩
  f15 := Tryz.func123.trans (congrArg some (by kernel_rfl))
  f20 := ⟨ "slices.insertionSortCmpFunc[loop.example/g00943/impl.Motion]", by decide, Tryz.func167.trans (congrArg some (by kernel_rfl))⟩
  f21 := ⟨ "slices.heapSortCmpFunc[loop.example/g00943/impl.Motion]", by decide, Tryz.func168.trans (congrArg some (by kernel_rfl))⟩
  f22 := ⟨ "slices.breakPatternsCmpFunc[loop.example/g00943/impl.Motion]", by decide, Tryz.func169.trans (congrArg some (by kernel_rfl))⟩
  f23 := ⟨ "slices.choosePivotCmpFunc[loop.example/g00943/impl.Motion]", by decide, Tryz.func170.trans (congrArg some (by kernel_rfl))⟩
  f24 := ⟨ "slices.reverseRangeCmpFunc[loop.example/g00943/impl.Motion]", by decide, Tryz.func171.trans (congrArg some (by kernel_rfl))⟩
  f25 := ⟨ "slices.partialInsertionSortCmpFunc[loop.example/g00943/impl.Motion]", by decide, Tryz.func172.trans (congrArg some (by kernel_rfl))⟩
  f26 := ⟨ "slices.partitionEqualCmpFunc[loop.example/g00943/impl.Motion]", by decide, Tryz.func173.trans (congrArg some (by kernel_rfl))⟩
  f27 := ⟨ "slices.partitionCmpFunc[loop.example/g00943/impl.Motion]", by decide, Tryz.func174.trans (congrArg some (by kernel_rfl))⟩
  f28 := Tryz.func165.trans (congrArg some (by kernel_rfl))
  f29 := Tryz.func166.trans (congrArg some (by kernel_rfl))
  f46 := ⟨ "slices.siftDownCmpFunc[loop.example/g00943/impl.Motion]", by decide, Tryz.func193.trans (congrArg some (by kernel_rfl))⟩
  f47 := Tryz.func189.trans (congrArg some (by kernel_rfl))
  f48 := Tryz.func190.trans (congrArg some (by kernel_rfl))
  f49 := ⟨ "slices.medianAdjacentCmpFunc[loop.example/g00943/impl.Motion]", by decide, Tryz.func194.trans (congrArg some (by kernel_rfl))⟩
  f50 := ⟨ "slices.medianCmpFunc[loop.example/g00943/impl.Motion]", by decide, Tryz.func195.trans (congrArg some (by kernel_rfl))⟩
  f57 := ⟨ "slices.order2CmpFunc[loop.example/g00943/impl.Motion]", by decide, Tryz.func204.trans (congrArg some (by kernel_rfl))⟩
  t0 := Tryz.underlying0
  a0 := Tryz.isAgg0
  z0 := Tryz.sizeOf0
  v0 := Tryz.zeroValue0
  t3 := Tryz.underlying3
  a3 := Tryz.isAgg3
  z3 := Tryz.sizeOf3
  v3 := Tryz.zeroValue3
  t4 := Tryz.underlying4
  a4 := Tryz.isAgg4
  z4 := Tryz.sizeOf4
  v4 := Tryz.zeroValue4
  t5 := Tryz.underlying5
  a5 := Tryz.isAgg5
  z5 := Tryz.sizeOf5
  v5 := Tryz.zeroValue5
  t9 := Tryz.underlying9
  a9 := Tryz.isAgg9
  z9 := Tryz.sizeOf9
  v9 := Tryz.zeroValue9
  t22 := Tryz.underlying27
  a22 := Tryz.isAgg27
  z22 := Tryz.sizeOf27
  v22 := Tryz.zeroValue27
  t25 := Tryz.underlying133
  a25 := Tryz.isAgg133
  z25 := Tryz.sizeOf133
  v25 := Tryz.zeroValue133
  t39 := Tryz.underlying147
  a39 := Tryz.isAgg147
  z39 := Tryz.sizeOf147
  v39 := Tryz.zeroValue147
  t45 := Tryz.underlying185
  a45 := Tryz.isAgg185
  z45 := Tryz.sizeOf185
  v45 := Tryz.zeroValue185
  t46 := Tryz.underlying186
  a46 := Tryz.isAgg186
  z46 := Tryz.sizeOf186
  v46 := Tryz.zeroValue186
  t50 := Tryz.underlying190
  a50 := Tryz.isAgg190
  z50 := Tryz.sizeOf190
  v50 := Tryz.zeroValue190
  t53 := Tryz.underlying168
  a53 := Tryz.isAgg168
  z53 := Tryz.sizeOf168
  v53 := Tryz.zeroValue168
  t55 := Tryz.underlying194
  a55 := Tryz.isAgg194
  z55 := Tryz.sizeOf194
  v55 := Tryz.zeroValue194
  t66 := Tryz.underlying212
  a66 := Tryz.isAgg212
  z66 := Tryz.sizeOf212
  v66 := Tryz.zeroValue212
  t70 := Tryz.underlying216
  a70 := Tryz.isAgg216
  z70 := Tryz.sizeOf216
  v70 := Tryz.zeroValue216
  t76 := Tryz.underlying226
  a76 := Tryz.isAgg226
  z76 := Tryz.sizeOf226
  v76 := Tryz.zeroValue226
  t77 := Tryz.underlying227
  a77 := Tryz.isAgg227
  z77 := Tryz.sizeOf227
  v77 := Tryz.zeroValue227
theorem f86_ok (K : Nat) : Sound Tryz.prog 86 (f86M K) := sort_sound (e := 63) (s := sM) f86_lays rfl rfl rfl Tryz.isAgg63 Tryz.sizeOf63
include K
theorem f45_ok : Sound Tryz.prog 45 (f45M K) :=
  sound_fn (eO (f45E K) (aF (f72_ok K) (aF (f84_ok K) (aF (f85_ok K) (aF (f86_ok K) (aF (f87_ok K) aN))))) (v := (AllV.cons (f87_ok K) (rk 87) AllV.nil))) Tryz.func45 fun x => f45_run K x.1 x.2.1
theorem f17_ok : SF 17 (f17M K) :=
  sF (f17E K) (aF (f45_ok K) aN) Tryz.func17
theorem f154_ok : SF 154 (f154M K) :=
  sF (f154E K) (aF (f75_ok K) aN) Tryz.func154
theorem f116_ok : SF 116 (f116M K) :=
  sF (f116E K) (aF (f69_ok K) (aF (f154_ok K) aN)) Tryz.func116
theorem f117_ok : SF 117 (f117M K) :=
  sF (f117E K) (aF (f43_ok K) (aF (f72_ok K) (aF (f84_ok K) (aF (f85_ok K) (aF (f87_ok K) (aF (f114_ok K) (aF (f115_ok K) aN))))))) Tryz.func117 fun x => f117_run K x.1 x.2.1 x.2.2.1
theorem f73_ok : SF 73 (f73M K) :=
  sF (f73E K) (aF (f116_ok K) (aF (f117_ok K) aN)) Tryz.func73 fun x => f73_run K x.1 x.2.1 x.2.2.1
theorem f38_ok : SF 38 (f38M K) :=
  sF (f38E K) (aF (f75_ok K) aN) Tryz.func38
theorem f119_ok : SF 119 (f119M K) :=
  sF (f119E K) (aF (f38_ok K) (aF (f113_ok K) aN)) Tryz.func119
theorem f155_ok : SF 155 (f155M K) :=
  sF (f155E K) aN Tryz.func155 fun x => f155_run K x.1 x.2.1
theorem f118_ok : SF 118 (f118M K) :=
  sF (f118E K) (aF (f155_ok K) aN) Tryz.func118
theorem f74_ok : Sound Tryz.prog 74 (f74M K) :=
  sound_fn (eO (f74E K) (aF (f118_ok K) (aF (f119_ok K) aN)) (v := (AllV.cons (f119_ok K) (rk 119) AllV.nil))) Tryz.func74 fun x => by kernel_rfl
theorem f37_ok : SF 37 (f37M K) :=
  sF (f37E K) (aF (f73_ok K) (aF (f74_ok K) aN)) Tryz.func37
omit K
def f156_ren : Go.Shelf.Ren := ⟨fun | 212 => 156 | 263 => 186 | 264 => 187 | n => n, fun | 46 => 147 | 51 => 168 | 53 => 194 | 146 => 169 | 148 => 210 | n => n, fun n => n⟩
theorem f156_lays : Lays.n212 Tryz.prog f156_ren where
  mixed := by kernel_rfl
  f212 := Tryz.func156.trans (congrArg some (by kernel_rfl))
  f263 := Tryz.func186.trans (congrArg some (by kernel_rfl))
  f264 := Tryz.func187.trans (congrArg some (by kernel_rfl))
  t46 := Tryz.underlying147
  a46 := Tryz.isAgg147
  z46 := Tryz.sizeOf147
  v46 := Tryz.zeroValue147
  t51 := Tryz.underlying168
  a51 := Tryz.isAgg168
  z51 := Tryz.sizeOf168
  v51 := Tryz.zeroValue168
  t53 := Tryz.underlying194
  a53 := Tryz.isAgg194
  z53 := Tryz.sizeOf194
  v53 := Tryz.zeroValue194
  t146 := Tryz.underlying169
  a146 := Tryz.isAgg169
  z146 := Tryz.sizeOf169
  v146 := Tryz.zeroValue169
  t148 := Tryz.underlying210
  a148 := Tryz.isAgg210
  z148 := Tryz.sizeOf210
  v148 := Tryz.zeroValue210
theorem f156_ok (K : Nat) : Sound Tryz.prog 156 (f156M K) := mul_sound f156_lays rfl
include K
theorem f120_ok : SF 120 (f120M K) :=
  sF (f120E K) (aF (f156_ok K) aN) Tryz.func120 fun x => f120_run K x.1 x.2.1
theorem f41_ok : SF 41 (f41M K) :=
  sF (f41E K) aN Tryz.func41 fun x => f41_run K x.1
theorem f44_ok : SF 44 (f44M K) :=
  sF (f44E K) aN Tryz.func44
theorem f121_ok : SF 121 (f121M K) :=
  sF (f121E K) (aF (f126_ok K) (aF (f127_ok K) aN)) Tryz.func121
theorem f79_ok : SF 79 (f79M K) :=
  sF (f79E K) (aF (f43_ok K) (aF (f121_ok K) aN)) Tryz.func79
omit K
def f80_ren : Go.Shelf.Ren := ⟨fun | 6 => 80 | 14 => 122 | 15 => 123 | 20 => 157 | 21 => 158 | 22 => 159 | 23 => 160 | 24 => 161 | 25 => 162 | 26 => 163 | 27 => 164 | 28 => 165 | 29 => 166 | 46 => 188 | 47 => 189 | 48 => 190 | 49 => 191 | 50 => 192 | 57 => 203 | n => n, fun | 0 => 0 | 3 => 3 | 4 => 4 | 5 => 5 | 9 => 9 | 22 => 77 | 24 => 61 | 25 => 128 | 39 => 147 | 45 => 185 | 46 => 186 | 50 => 190 | 53 => 168 | 55 => 194 | 66 => 212 | 70 => 216 | 76 => 226 | 77 => 227 | n => n, fun n => n⟩
theorem f80_lays : SlLaysF0.n6 Tryz.prog f80_ren where
  mixed := by kernel_rfl
  f6 := ⟨ "slices.SortFunc[[]loop.example/g00943/impl.Vec,loop.example/g00943/impl.Vec]", by decide, Tryz.func80.trans (congrArg some (by kernel_rfl))⟩
  f14 := ⟨ "slices.pdqsortCmpFunc[loop.example/g00943/impl.Vec]", by decide, Tryz.func122.trans (congrArg some (by kernel_rfl))⟩
  f15 := Tryz.func123.trans (congrArg some (by kernel_rfl))
  f20 := ⟨ "slices.insertionSortCmpFunc[loop.example/g00943/impl.Vec]", by decide, Tryz.func157.trans (congrArg some (by kernel_rfl))⟩
  f21 := ⟨ "slices.heapSortCmpFunc[loop.example/g00943/impl.Vec]", by decide, Tryz.func158.trans (congrArg some (by kernel_rfl))⟩
  f22 := ⟨ "slices.breakPatternsCmpFunc[loop.example/g00943/impl.Vec]", by decide, Tryz.func159.trans (congrArg some (by kernel_rfl))⟩
  f23 := ⟨ "slices.choosePivotCmpFunc[loop.example/g00943/impl.Vec]", by decide, Tryz.func160.trans (congrArg some (by kernel_rfl))⟩
  f24 := ⟨ "slices.reverseRangeCmpFunc[loop.example/g00943/impl.Vec]", by decide, Tryz.func161.trans (congrArg some (by kernel_rfl))⟩
  f25 := ⟨ "slices.partialInsertionSortCmpFunc[loop.example/g00943/impl.Vec]", by decide, Tryz.func162.trans (congrArg some (by kernel_rfl))⟩
  f26 := ⟨ "slices.partitionEqualCmpFunc[loop.example/g00943/impl.Vec]", by decide, Tryz.func163.trans (congrArg some (by kernel_rfl))⟩
  f27 := ⟨ "slices.partitionCmpFunc[loop.example/g00943/impl.Vec]", by decide, Tryz.func164.trans (congrArg some (by kernel_rfl))⟩
  f28 := Tryz.func165.trans (congrArg some (by kernel_rfl))
  f29 := Tryz.func166.trans (congrArg some (by kernel_rfl))
  f46 := ⟨ "slices.siftDownCmpFunc[loop.example/g00943/impl.Vec]", by decide, Tryz.func188.trans (congrArg some (by kernel_rfl))⟩
  f47 := Tryz.func189.trans (congrArg some (by kernel_rfl))
  f48 := Tryz.func190.trans (congrArg some (by kernel_rfl))
  f49 := ⟨ "slices.medianAdjacentCmpFunc[loop.example/g00943/impl.Vec]", by decide, Tryz.func191.trans (congrArg some (by kernel_rfl))⟩
  f50 := ⟨ "slices.medianCmpFunc[loop.example/g00943/impl.Vec]", by decide, Tryz.func192.trans (congrArg some (by kernel_rfl))⟩
  f57 := ⟨ "slices.order2CmpFunc[loop.example/g00943/impl.Vec]", by decide, Tryz.func203.trans (congrArg some (by kernel_rfl))⟩
  t0 := Tryz.underlying0
  a0 := Tryz.isAgg0
  z0 := Tryz.sizeOf0
  v0 := Tryz.zeroValue0
  t3 := Tryz.underlying3
  a3 := Tryz.isAgg3
  z3 := Tryz.sizeOf3
  v3 := Tryz.zeroValue3
  t4 := Tryz.underlying4
  a4 := Tryz.isAgg4
  z4 := Tryz.sizeOf4
  v4 := Tryz.zeroValue4
  t5 := Tryz.underlying5
  a5 := Tryz.isAgg5
  z5 := Tryz.sizeOf5
  v5 := Tryz.zeroValue5
  t9 := Tryz.underlying9
  a9 := Tryz.isAgg9
  z9 := Tryz.sizeOf9
  v9 := Tryz.zeroValue9
  t22 := Tryz.underlying77
  a22 := Tryz.isAgg77
  z22 := Tryz.sizeOf77
  v22 := Tryz.zeroValue77
  t25 := Tryz.underlying128
  a25 := Tryz.isAgg128
  z25 := Tryz.sizeOf128
  v25 := Tryz.zeroValue128
  t39 := Tryz.underlying147
  a39 := Tryz.isAgg147
  z39 := Tryz.sizeOf147
  v39 := Tryz.zeroValue147
  t45 := Tryz.underlying185
  a45 := Tryz.isAgg185
  z45 := Tryz.sizeOf185
  v45 := Tryz.zeroValue185
  t46 := Tryz.underlying186
  a46 := Tryz.isAgg186
  z46 := Tryz.sizeOf186
  v46 := Tryz.zeroValue186
  t50 := Tryz.underlying190
  a50 := Tryz.isAgg190
  z50 := Tryz.sizeOf190
  v50 := Tryz.zeroValue190
  t53 := Tryz.underlying168
  a53 := Tryz.isAgg168
  z53 := Tryz.sizeOf168
  v53 := Tryz.zeroValue168
  t55 := Tryz.underlying194
  a55 := Tryz.isAgg194
  z55 := Tryz.sizeOf194
  v55 := Tryz.zeroValue194
  t66 := Tryz.underlying212
  a66 := Tryz.isAgg212
  z66 := Tryz.sizeOf212
  v66 := Tryz.zeroValue212
  t70 := Tryz.underlying216
  a70 := Tryz.isAgg216
  z70 := Tryz.sizeOf216
  v70 := Tryz.zeroValue216
  t76 := Tryz.underlying226
  a76 := Tryz.isAgg226
  z76 := Tryz.sizeOf226
  v76 := Tryz.zeroValue226
  t77 := Tryz.underlying227
  a77 := Tryz.isAgg227
  z77 := Tryz.sizeOf227
  v77 := Tryz.zeroValue227
theorem f80_ok (K : Nat) : Sound Tryz.prog 80 (f80M K) := sort_sound (e := 61) (s := sV) f80_lays rfl rfl rfl Tryz.isAgg61 Tryz.sizeOf61
include K
theorem f82_ok : SF 82 (f82M K) :=
  sF (f82E K) aN Tryz.func82 fun x => f82_run K x.1
theorem f42_ok : Sound Tryz.prog 42 (f42M K) :=
  sound_fn (eO (f42E K) (aF (f79_ok K) (aF (f80_ok K) (aF (f81_ok K) (aF (f82_ok K) aN)))) (v := (AllV.cons (f81_ok K) (rk 81) AllV.nil))) Tryz.func42 fun x => f42_run K x.1 x.2.1 x.2.2.1
theorem f76_ok : SF 76 (f76M K) :=
  sF (f76E K) (aF (f41_ok K) (aF (f42_ok K) (aF (f44_ok K) (aF (f78_ok K) (aF (f120_ok K) aN))))) Tryz.func76 fun x => f76_run K x.1 x.2.1
theorem f77_ok : SF 77 (f77M K) :=
  sF (f77E K) (aF (f43_ok K) (aF (f44_ok K) aN)) Tryz.func77
theorem f39_ok : SF 39 (f39M K) :=
  sF (f39E K) (aF (f76_ok K) (aF (f77_ok K) aN)) Tryz.func39 fun x => f39_run K x.1 x.2.1 x.2.2.1
theorem f40_ok : SF 40 (f40M K) :=
  sF (f40E K) (aF (f44_ok K) (aF (f78_ok K) aN)) Tryz.func40 fun x => f40_run K x.1 x.2.1 x.2.2.1 x.2.2.2.1
theorem f16_ok : SF 16 (f16M K) :=
  sF (f16E K) (aF (f37_ok K) (aF (f38_ok K) (aF (f39_ok K) (aF (f40_ok K) (aF (f41_ok K) (aF (f42_ok K) (aF (f43_ok K) (aF (f44_ok K) aN)))))))) Tryz.func16 fun x => f16_run K x.1 x.2.1 x.2.2.1 x.2.2.2.1 x.2.2.2.2.1
attribute [local instance] cwZ in
theorem f7_ok : SoundC Tryz.prog 7 (f7M K) :=
  sound_fnC (eO (f7E K) (aF (Sound.toZ (f13_ok K)) (aF (Sound.toZ (f14_ok K)) (aF (Sound.toZ (f16_ok K)) (aF (Sound.toZ (f17_ok K)) aN)))) (q := (AllQ.cons (f15_ok K) (rk 15) AllQ.nil))) Tryz.func7 fun x => f7_run K x.1
attribute [local instance] cwZ in
theorem f5_ok : Sound Tryz.prog 5 (f5M K) :=
  sound_fn (eO (f5E K) aN (c := (AllC.cons (f7_ok K) (rk 7) AllC.nil))) Tryz.func5 fun x => by kernel_rfl
attribute [local instance] cwZ in
theorem f3_ok : SF 3 (f3M K) :=
  sF (f3E K) (aF (Sound.toZ (f4_ok K)) (aF (f5_ok K) aN)) Tryz.func3
end Go.Proofs.YtakemdehgdpplaaGreatDoor.X
