/- Functions of the program as plain Lean functions, and that the program does what they say. Printed by gen.py. -/
import Derived.Test.YtphhbdjjfacpiaaGreatDoorQsR0
namespace Go.Proofs.YtphhbdjjfacpiaaGreatDoor.X
open Go
set_option maxRecDepth 100000
attribute [local instance] cwD
set_option linter.unusedVariables false
theorem rk (n : Nat) (h : runsB Tryz.prog n = true := by kernel_rfl) : Runs Tryz.prog n := runsB_ok h
abbrev SF [CW] (n : Nat) (m : Mdl) : Prop := Sound Tryz.prog n m
theorem aF [CW] {f : Nat} {m : Mdl} {l : List (Nat × Mdl)} (a : Sound Tryz.prog f m) (c : AllOK Tryz.prog l) (b : runsB Tryz.prog f = true := by kernel_rfl) : AllOK Tryz.prog ((f, m) :: l) := AllOK.cons a (runsB_ok b) c
theorem aN [CW] : AllOK Tryz.prog [] := AllOK.nil
theorem eO [CW] (E : Env) (a : AllOK Tryz.prog E.fs) (h : tabB Tryz.prog E.ty E.eq E.mt = true := by exact tab_ok) (p : AllP Tryz.prog E.pf := by exact AllP.nil) (n : AllN Tryz.prog E.nf := by exact AllN.nil) (q : AllQ Tryz.prog E.qf := by exact AllQ.nil) (c : AllC Tryz.prog E.cf := by exact AllC.nil) (v : AllV Tryz.prog E.vf := by exact AllV.nil) (o : AllO Tryz.prog E.xf := by exact AllO.nil) : EnvOK Tryz.prog E := envOK h mixed_ok a p n q c v o
theorem sF [CW] {f : Nat} {fn : Func} {ps : List (PM × Sh)} {rs : List Sh} {F : AT ps → Option (RT (outs ps ++ rs))} (E : Env) (a : AllOK Tryz.prog E.fs) (hfn : Tryz.prog.funcs[f]? = some fn) (hF : ∀ x, runF E fn ps rs x = F x := by intro x; kernel_rfl) (h : tabB Tryz.prog E.ty E.eq E.mt = true := by exact tab_ok) (p : AllP Tryz.prog E.pf := by exact AllP.nil) (n : AllN Tryz.prog E.nf := by exact AllN.nil) (q : AllQ Tryz.prog E.qf := by exact AllQ.nil) (c : AllC Tryz.prog E.cf := by exact AllC.nil) (v : AllV Tryz.prog E.vf := by exact AllV.nil) (o : AllO Tryz.prog E.xf := by exact AllO.nil) : SF f ⟨ps, rs, F⟩ := sound_fn (envOK h mixed_ok a p n q c v o) hfn hF
variable (K : Nat)
include K
theorem f14_ok : SF 14 (f14M K) :=
  sF (f14E K) aN Tryz.func14 fun x => f14_run K x.1 x.2.1
omit K
theorem f71_okn (K : Nat) : ∀ n, Sound Tryz.prog 71 ⟨[(.ro, sI)], [.str], fun x => f71R K n x.1⟩
  | 0 => fun _ _ _ _ _ _ _ _ _ h => by cases h
  | n + 1 => sound_fn (envOK (E := f71E K (f71R K n)) tab_ok mixed_ok (AllOK.cons (f71_okn K n) (rk 71) AllOK.nil) AllP.nil AllN.nil AllQ.nil AllC.nil AllV.nil AllO.nil) Tryz.func71 fun x => f71_run K (f71R K n) x.1
theorem f71_ok (K : Nat) : Sound Tryz.prog 71 (f71M K) := f71_okn K K
include K
theorem f34_ok : SF 34 (f34M K) :=
  sF (f34E K) (aF (f71_ok K) aN) Tryz.func34 fun x => f34_run K x.1
theorem f102_ok : SF 102 (f102M K) :=
  sF (f102E K) (aF (f34_ok K) aN) Tryz.func102
theorem f63_ok : SF 63 (f63M K) :=
  sF (f63E K) (aF (f102_ok K) aN) Tryz.func63 fun x => f63_run K x.1
theorem f103_ok : SF 103 (f103M K) :=
  sF (f103E K) aN Tryz.func103
theorem f64_ok : SF 64 (f64M K) :=
  sF (f64E K) (aF (f103_ok K) aN) Tryz.func64
theorem f30_ok : SF 30 (f30M K) :=
  sF (f30E K) (aF (f14_ok K) (aF (f63_ok K) (aF (f64_ok K) aN))) Tryz.func30
theorem f70_ok : SF 70 (f70M K) :=
  sF (f70E K) (aF (f103_ok K) aN) Tryz.func70
theorem f148_ok : SF 148 (f148M K) :=
  sF (f148E K) (aF (f70_ok K) aN) Tryz.func148
theorem f149_ok : SF 149 (f149M K) :=
  sF (f149E K) aN Tryz.func149
theorem f104_ok : SF 104 (f104M K) :=
  sF (f104E K) (aF (f148_ok K) (aF (f149_ok K) aN)) Tryz.func104
theorem f65_ok : SF 65 (f65M K) :=
  sF (f65E K) (aF (f14_ok K) (aF (f63_ok K) (aF (f104_ok K) aN))) Tryz.func65
theorem f33_ok : SF 33 (f33M K) :=
  sF (f33E K) (aF (f14_ok K) (aF (f63_ok K) (aF (f70_ok K) aN))) Tryz.func33
theorem f37_ok : SF 37 (f37M K) :=
  sF (f37E K) aN Tryz.func37
theorem f39_ok : SF 39 (f39M K) :=
  sF (f39E K) aN Tryz.func39
theorem f150_ok : SF 150 (f150M K) :=
  sF (f150E K) (aF (f37_ok K) (aF (f39_ok K) (aF (f148_ok K) aN))) Tryz.func150 fun x => f150_run K x.1
theorem f105_ok : SF 105 (f105M K) :=
  sF (f105E K) (aF (f149_ok K) (aF (f150_ok K) aN)) Tryz.func105
theorem f66_ok : SF 66 (f66M K) :=
  sF (f66E K) (aF (f70_ok K) (aF (f104_ok K) (aF (f105_ok K) aN))) Tryz.func66
theorem f31_ok : SF 31 (f31M K) :=
  sF (f31E K) (aF (f14_ok K) (aF (f33_ok K) (aF (f65_ok K) (aF (f66_ok K) aN)))) Tryz.func31
theorem f106_ok : SF 106 (f106M K) :=
  sF (f106E K) aN Tryz.func106
theorem f67_ok : SF 67 (f67M K) :=
  sF (f67E K) (aF (f64_ok K) (aF (f106_ok K) aN)) Tryz.func67
theorem f151_ok : SF 151 (f151M K) :=
  sF (f151E K) aN Tryz.func151
theorem f40_ok : SF 40 (f40M K) :=
  sF (f40E K) aN Tryz.func40
theorem f107_ok : SF 107 (f107M K) :=
  sF (f107E K) (aF (f40_ok K) (aF (f151_ok K) aN)) Tryz.func107
theorem f68_ok : SF 68 (f68M K) :=
  sF (f68E K) (aF (f104_ok K) (aF (f106_ok K) (aF (f107_ok K) aN))) Tryz.func68
theorem f108_ok : SF 108 (f108M K) :=
  sF (f108E K) aN Tryz.func108
theorem f41_ok : SF 41 (f41M K) :=
  sF (f41E K) aN Tryz.func41
omit K
theorem f152_okn (K : Nat) : ∀ n, Sound Tryz.prog 152 ⟨[(.ro, sI), (.ro, sI)], [sI], fun x => f152R K n x.1 x.2.1⟩
  | 0 => fun _ _ _ _ _ _ _ _ _ h => by cases h
  | n + 1 => sound_fn (envOK (E := f152E K (f152R K n)) tab_ok mixed_ok (AllOK.cons (f152_okn K n) (rk 152) AllOK.nil) AllP.nil AllN.nil AllQ.nil AllC.nil AllV.nil AllO.nil) Tryz.func152 fun x => f152_run K (f152R K n) x.1 x.2.1
theorem f152_ok (K : Nat) : Sound Tryz.prog 152 (f152M K) := f152_okn K K
include K
theorem f74_ok : SF 74 (f74M K) :=
  sF (f74E K) aN Tryz.func74
theorem f153_ok : SF 153 (f153M K) :=
  sF (f153E K) aN Tryz.func153
theorem f109_ok : SF 109 (f109M K) :=
  sF (f109E K) (aF (f74_ok K) (aF (f152_ok K) (aF (f153_ok K) aN))) Tryz.func109 fun x => f109_run K x.1
theorem f69_ok : SF 69 (f69M K) :=
  sF (f69E K) (aF (f41_ok K) (aF (f108_ok K) (aF (f109_ok K) aN))) Tryz.func69
theorem f32_ok : SF 32 (f32M K) :=
  sF (f32E K) (aF (f67_ok K) (aF (f68_ok K) (aF (f69_ok K) (aF (f70_ok K) aN)))) Tryz.func32
theorem f38_ok : SF 38 (f38M K) :=
  sF (f38E K) (aF (f74_ok K) aN) Tryz.func38
theorem f19_ok : SF 19 (f19M K) :=
  sF (f19E K) (aF (f38_ok K) aN) Tryz.func19
theorem f15_ok : SF 15 (f15M K) :=
  sF (f15E K) (aF (f14_ok K) (aF (f19_ok K) (aF (f30_ok K) (aF (f31_ok K) (aF (f32_ok K) (aF (f33_ok K) (aF (f34_ok K) aN))))))) Tryz.func15
theorem f18_ok : SF 18 (f18M K) :=
  sF (f18E K) (aF (f37_ok K) aN) Tryz.func18
theorem f20_ok : SF 20 (f20M K) :=
  sF (f20E K) (aF (f39_ok K) (aF (f40_ok K) (aF (f41_ok K) aN))) Tryz.func20
theorem f156_ok : SF 156 (f156M K) :=
  sF (f156E K) aN Tryz.func156
theorem f155_ok : SF 155 (f155M K) :=
  sF (f155E K) aN Tryz.func155 fun x => f155_run K x.1 x.2.1
theorem f112_ok : SF 112 (f112M K) :=
  sF (f112E K) (aF (f155_ok K) (aF (f156_ok K) aN)) Tryz.func112
theorem f113_ok : SF 113 (f113M K) :=
  sF (f113E K) aN Tryz.func113
theorem f75_ok : SF 75 (f75M K) :=
  sF (f75E K) (aF (f112_ok K) (aF (f113_ok K) aN)) Tryz.func75
theorem f42_ok : SF 42 (f42M K) :=
  sF (f42E K) (aF (f75_ok K) aN) Tryz.func42 fun x => f42_run K x.1 x.2.1
theorem f21_ok : SF 21 (f21M K) :=
  sF (f21E K) (aF (f42_ok K) aN) Tryz.func21
theorem f22_ok : SF 22 (f22M K) :=
  sF (f22E K) (aF (f42_ok K) aN) Tryz.func22
theorem f10_ok : SF 10 (f10M K) :=
  sF (f10E K) (aF (f18_ok K) (aF (f19_ok K) (aF (f20_ok K) (aF (f21_ok K) (aF (f22_ok K) aN))))) Tryz.func10 fun x => f10_run K x.1 x.2.1
theorem f72_ok : SF 72 (f72M K) :=
  sF (f72E K) aN Tryz.func72 fun x => f72_run K x.1
theorem f154_ok : SF 154 (f154M K) :=
  sF (f154E K) (aF (f40_ok K) (aF (f41_ok K) aN)) Tryz.func154
theorem f111_ok : SF 111 (f111M K) :=
  sF (f111E K) (aF (f38_ok K) (aF (f154_ok K) aN)) Tryz.func111
theorem f110_ok : SF 110 (f110M K) :=
  sF (f110E K) (aF (f113_ok K) aN) Tryz.func110 fun x => f110_run K x.1 x.2.1
theorem f73_ok : SF 73 (f73M K) :=
  sF (f73E K) (aF (f110_ok K) (aF (f111_ok K) aN)) Tryz.func73 fun x => f73_run K x.1 x.2.1 x.2.2.1
theorem f36_ok : SF 36 (f36M K) :=
  sF (f36E K) (aF (f72_ok K) (aF (f73_ok K) aN)) Tryz.func36 fun x => f36_run K x.1 x.2.1
theorem f35_ok : SF 35 (f35M K) :=
  sF (f35E K) (aF (f38_ok K) aN) Tryz.func35
theorem f17_ok : SF 17 (f17M K) :=
  sF (f17E K) (aF (f35_ok K) (aF (f36_ok K) aN)) Tryz.func17 fun x => f17_run K x.1 x.2.1
theorem f16_ok : SF 16 (f16M K) :=
  sF (f16E K) (aF (f35_ok K) aN) Tryz.func16 fun x => f16_run K x.1 x.2.1 x.2.2.1
theorem f9_ok : SoundO Tryz.prog 9 (f9M K) :=
  sound_fnO (eO (f9E K) (aF (f10_ok K) (aF (f14_ok K) (aF (f15_ok K) (aF (f16_ok K) (aF (f17_ok K) aN)))))) Tryz.func9 fun x => f9_run K x.1
theorem f4_ok : Sound Tryz.prog 4 (f4M K) :=
  sound_fn (eO (f4E K) (aF (f10_ok K) aN) (o := (AllO.cons (f9_ok K) (rk 9) AllO.nil))) Tryz.func4 fun x => by kernel_rfl
theorem f76_ok : SF 76 (f76M K) :=
  sF (f76E K) aN Tryz.func76
theorem f43_ok : SF 43 (f43M K) :=
  sF (f43E K) (aF (f76_ok K) aN) Tryz.func43
theorem f23_ok : SF 23 (f23M K) :=
  sF (f23E K) (aF (f43_ok K) aN) Tryz.func23
omit K
def f24_ren : Go.Shelf.Ren := ⟨fun | 138 => 78 | 143 => 46 | 146 => 24 | 195 => 114 | 197 => 115 | 217 => 119 | 218 => 116 | 219 => 80 | 221 => 44 | 224 => 121 | 225 => 120 | 260 => 157 | 266 => 158 | 267 => 122 | 268 => 77 | 314 => 159 | n => n, fun | 0 => 0 | 3 => 3 | 4 => 4 | 5 => 5 | 9 => 9 | 21 => 21 | 31 => 50 | 46 => 142 | 51 => 177 | 105 => 151 | 119 => 210 | 138 => 212 | 139 => 213 | 146 => 184 | n => n, fun | 1 => 0 | 3 => 1 | 4 => 2 | n => n⟩
theorem f24_lays : Lays.n146 Tryz.prog f24_ren where
  mixed := by kernel_rfl
  f138 := Tryz.func78.trans (congrArg some (by kernel_rfl))
  f143 := Tryz.func46.trans (congrArg some (by kernel_rfl))
  f146 := Tryz.func24.trans (congrArg some (by kernel_rfl))
  f195 := Tryz.func114.trans (congrArg some (by kernel_rfl))
  f197 := Tryz.func115.trans (congrArg some (by kernel_rfl))
  f217 := Tryz.func119.trans (congrArg some (by kernel_rfl))
  f218 := Tryz.func116.trans (congrArg some (by kernel_rfl))
  f219 := Tryz.func80.trans (congrArg some (by kernel_rfl))
  f221 := Tryz.func44.trans (congrArg some (by kernel_rfl))
  f224 := Tryz.func121.trans (congrArg some (by kernel_rfl))
  f225 := Tryz.func120.trans (congrArg some (by kernel_rfl))
  f260 := Tryz.func157.trans (congrArg some (by kernel_rfl))
  f266 := Tryz.func158.trans (congrArg some (by kernel_rfl))
  f267 := Tryz.func122.trans (congrArg some (by kernel_rfl))
  f268 := Tryz.func77.trans (congrArg some (by kernel_rfl))
  f314 := Tryz.func159.trans (congrArg some (by kernel_rfl))
  t0 := Tryz.underlying0
  a0 := Tryz.isAgg0
  z0 := Tryz.sizeOf0
  v0 := Tryz.zeroValue0
  t3 := Tryz.underlying3
  a3 := Tryz.isAgg3
  z3 := Tryz.sizeOf3
  v3 := Tryz.zeroValue3
  t4 := Tryz.underlying4
  a4 := Tryz.isAgg4
  z4 := Tryz.sizeOf4
  v4 := Tryz.zeroValue4
  t5 := Tryz.underlying5
  a5 := Tryz.isAgg5
  z5 := Tryz.sizeOf5
  v5 := Tryz.zeroValue5
  t9 := Tryz.underlying9
  a9 := Tryz.isAgg9
  z9 := Tryz.sizeOf9
  v9 := Tryz.zeroValue9
  t21 := Tryz.underlying21
  a21 := Tryz.isAgg21
  z21 := Tryz.sizeOf21
  v21 := Tryz.zeroValue21
  t31 := Tryz.underlying50
  a31 := Tryz.isAgg50
  z31 := Tryz.sizeOf50
  v31 := Tryz.zeroValue50
  t46 := Tryz.underlying142
  a46 := Tryz.isAgg142
  z46 := Tryz.sizeOf142
  v46 := Tryz.zeroValue142
  t51 := Tryz.underlying177
  a51 := Tryz.isAgg177
  z51 := Tryz.sizeOf177
  v51 := Tryz.zeroValue177
  t105 := Tryz.underlying151
  a105 := Tryz.isAgg151
  z105 := Tryz.sizeOf151
  v105 := Tryz.zeroValue151
  t119 := Tryz.underlying210
  a119 := Tryz.isAgg210
  z119 := Tryz.sizeOf210
  t138 := Tryz.underlying212
  a138 := Tryz.isAgg212
  z138 := Tryz.sizeOf212
  v138 := Tryz.zeroValue212
  t139 := Tryz.underlying213
  a139 := Tryz.isAgg213
  z139 := Tryz.sizeOf213
  v139 := Tryz.zeroValue213
  t146 := Tryz.underlying184
  a146 := Tryz.isAgg184
  z146 := Tryz.sizeOf184
  v146 := Tryz.zeroValue184
  g1 := by kernel_rfl
  g3 := by kernel_rfl
  g4 := by kernel_rfl
theorem tMax : ∀ w, Tabs w → ∃ m, w.cell? ⟨0, 0, none⟩ = some (.int .i64 m) := fun w h => by
  obtain ⟨_, h⟩ := h
  have h : gp w := h
  unfold gp at h
  exact h.2.1
theorem f24_ok (K : Nat) : Sound Tryz.prog 24 (f24M K) := split_sound (e := 9) f24_lays rfl rfl (by kernel_rfl) tMax
def f190_ren : Go.Shelf.Ren := ⟨fun | 129 => 147 | 173 => 190 | 246 => 208 | 283 => 216 | 284 => 217 | 285 => 218 | 286 => 219 | 317 => 221 | 318 => 222 | 319 => 223 | 320 => 224 | 337 => 225 | 338 => 226 | n => n, fun | 0 => 0 | 2 => 2 | 3 => 3 | 4 => 4 | 5 => 5 | 9 => 9 | 20 => 20 | 37 => 147 | 46 => 142 | 51 => 177 | 53 => 179 | 171 => 238 | 173 => 240 | 212 => 247 | 213 => 248 | 232 => 250 | 233 => 251 | n => n, fun | 17 => 5 | 18 => 6 | 19 => 7 | n => n⟩
theorem f190_lays : LaysM.n173 Tryz.prog f190_ren where
  mixed := by kernel_rfl
  f129 := Tryz.func147.trans (congrArg some (by kernel_rfl))
  f173 := Tryz.func190.trans (congrArg some (by kernel_rfl))
  f246 := Tryz.func208.trans (congrArg some (by kernel_rfl))
  f283 := Tryz.func216.trans (congrArg some (by kernel_rfl))
  f284 := Tryz.func217.trans (congrArg some (by kernel_rfl))
  f285 := Tryz.func218.trans (congrArg some (by kernel_rfl))
  f286 := Tryz.func219.trans (congrArg some (by kernel_rfl))
  f317 := Tryz.func221.trans (congrArg some (by kernel_rfl))
  f318 := Tryz.func222.trans (congrArg some (by kernel_rfl))
  f319 := Tryz.func223.trans (congrArg some (by kernel_rfl))
  f320 := Tryz.func224.trans (congrArg some (by kernel_rfl))
  f337 := Tryz.func225.trans (congrArg some (by kernel_rfl))
  f338 := Tryz.func226.trans (congrArg some (by kernel_rfl))
  t0 := Tryz.underlying0
  a0 := Tryz.isAgg0
  z0 := Tryz.sizeOf0
  v0 := Tryz.zeroValue0
  t2 := Tryz.underlying2
  a2 := Tryz.isAgg2
  z2 := Tryz.sizeOf2
  v2 := Tryz.zeroValue2
  t3 := Tryz.underlying3
  a3 := Tryz.isAgg3
  z3 := Tryz.sizeOf3
  v3 := Tryz.zeroValue3
  t4 := Tryz.underlying4
  a4 := Tryz.isAgg4
  z4 := Tryz.sizeOf4
  v4 := Tryz.zeroValue4
  t5 := Tryz.underlying5
  a5 := Tryz.isAgg5
  z5 := Tryz.sizeOf5
  v5 := Tryz.zeroValue5
  t9 := Tryz.underlying9
  a9 := Tryz.isAgg9
  z9 := Tryz.sizeOf9
  v9 := Tryz.zeroValue9
  t20 := Tryz.underlying20
  a20 := Tryz.isAgg20
  z20 := Tryz.sizeOf20
  v20 := Tryz.zeroValue20
  t37 := Tryz.underlying147
  a37 := Tryz.isAgg147
  z37 := Tryz.sizeOf147
  v37 := Tryz.zeroValue147
  t46 := Tryz.underlying142
  a46 := Tryz.isAgg142
  z46 := Tryz.sizeOf142
  v46 := Tryz.zeroValue142
  t51 := Tryz.underlying177
  a51 := Tryz.isAgg177
  z51 := Tryz.sizeOf177
  v51 := Tryz.zeroValue177
  t53 := Tryz.underlying179
  a53 := Tryz.isAgg179
  z53 := Tryz.sizeOf179
  v53 := Tryz.zeroValue179
  t171 := Tryz.underlying238
  a171 := Tryz.isAgg238
  z171 := Tryz.sizeOf238
  v171 := Tryz.zeroValue238
  t173 := Tryz.underlying240
  a173 := Tryz.isAgg240
  z173 := Tryz.sizeOf240
  v173 := Tryz.zeroValue240
  t212 := Tryz.underlying247
  a212 := Tryz.isAgg247
  z212 := Tryz.sizeOf247
  v212 := Tryz.zeroValue247
  t213 := Tryz.underlying248
  a213 := Tryz.isAgg248
  z213 := Tryz.sizeOf248
  t232 := Tryz.underlying250
  a232 := Tryz.isAgg250
  z232 := Tryz.sizeOf250
  v232 := Tryz.zeroValue250
  t233 := Tryz.underlying251
  a233 := Tryz.isAgg251
  z233 := Tryz.sizeOf251
  v233 := Tryz.zeroValue251
  g17 := by kernel_rfl
  g18 := by kernel_rfl
  g19 := by kernel_rfl
  i0 := by kernel_rfl
  i2 := by kernel_rfl
  i3 := by kernel_rfl
  i4 := by kernel_rfl
  i5 := by kernel_rfl
  i9 := by kernel_rfl
  i20 := by kernel_rfl
  i37 := by kernel_rfl
  i46 := by kernel_rfl
  i51 := by kernel_rfl
  i53 := by kernel_rfl
  i171 := by kernel_rfl
  i173 := by kernel_rfl
  i212 := by kernel_rfl
  i232 := by kernel_rfl
  i233 := by kernel_rfl
  m17 := by kernel_rfl
  m18 := by kernel_rfl
  m19 := by kernel_rfl
theorem tPow : ∀ w, Tabs w → Lib.TabIs Tryz.prog w "internal/strconv.uint64pow10" .u64 Lib.pow10Tab := fun w h => by
  obtain ⟨_, h⟩ := h
  have h : gp w := h
  unfold gp at h
  obtain ⟨t, z, h1⟩ := h.1
  unfold Lib.TabIs World.var?
  rw [show Tryz.prog.globalNamed "internal/strconv.uint64pow10" = some 5 by kernel_rfl, Option.bind_some, h1]
theorem f190_ok (K : Nat) : Sound Tryz.prog 190 (f190M K) := fmt_sound f190_lays rfl tPow
include K
theorem f161_ok : SF 161 (f161M K) :=
  sF (f161E K) (aF (f190_ok K) aN) Tryz.func161
omit K
def f123_ren : Go.Shelf.Ren := ⟨fun | 129 => 147 | 171 => 215 | 174 => 160 | 205 => 214 | 243 => 220 | 245 => 189 | 246 => 208 | 247 => 188 | 279 => 204 | 280 => 205 | 281 => 206 | 282 => 207 | 283 => 216 | 284 => 217 | 285 => 218 | 286 => 219 | 287 => 203 | 316 => 213 | 317 => 221 | 318 => 222 | 319 => 223 | 320 => 224 | 321 => 211 | 322 => 212 | 337 => 225 | 338 => 226 | n => n, fun | 0 => 0 | 2 => 2 | 3 => 3 | 4 => 4 | 5 => 5 | 9 => 9 | 20 => 20 | 21 => 21 | 37 => 147 | 46 => 142 | 51 => 177 | 53 => 179 | 75 => 187 | 80 => 252 | 85 => 188 | 127 => 242 | 143 => 243 | 145 => 245 | 167 => 225 | 168 => 228 | 171 => 238 | 173 => 240 | 175 => 226 | 210 => 235 | 212 => 247 | 213 => 248 | 232 => 250 | 233 => 251 | n => n, fun | 15 => 3 | 16 => 4 | 17 => 5 | 18 => 6 | 19 => 7 | n => n⟩
theorem f123_lays : LaysC.n174 Tryz.prog f123_ren where
  mixed := by kernel_rfl
  f129 := Tryz.func147.trans (congrArg some (by kernel_rfl))
  f171 := Tryz.func215.trans (congrArg some (by kernel_rfl))
  f174 := Tryz.func160.trans (congrArg some (by kernel_rfl))
  f205 := Tryz.func214.trans (congrArg some (by kernel_rfl))
  f243 := Tryz.func220.trans (congrArg some (by kernel_rfl))
  f245 := Tryz.func189.trans (congrArg some (by kernel_rfl))
  f246 := Tryz.func208.trans (congrArg some (by kernel_rfl))
  f247 := Tryz.func188.trans (congrArg some (by kernel_rfl))
  f279 := Tryz.func204.trans (congrArg some (by kernel_rfl))
  f280 := Tryz.func205.trans (congrArg some (by kernel_rfl))
  f281 := Tryz.func206.trans (congrArg some (by kernel_rfl))
  f282 := Tryz.func207.trans (congrArg some (by kernel_rfl))
  f283 := Tryz.func216.trans (congrArg some (by kernel_rfl))
  f284 := Tryz.func217.trans (congrArg some (by kernel_rfl))
  f285 := Tryz.func218.trans (congrArg some (by kernel_rfl))
  f286 := Tryz.func219.trans (congrArg some (by kernel_rfl))
  f287 := Tryz.func203.trans (congrArg some (by kernel_rfl))
  f316 := Tryz.func213.trans (congrArg some (by kernel_rfl))
  f317 := Tryz.func221.trans (congrArg some (by kernel_rfl))
  f318 := Tryz.func222.trans (congrArg some (by kernel_rfl))
  f319 := Tryz.func223.trans (congrArg some (by kernel_rfl))
  f320 := Tryz.func224.trans (congrArg some (by kernel_rfl))
  f321 := Tryz.func211.trans (congrArg some (by kernel_rfl))
  f322 := Tryz.func212.trans (congrArg some (by kernel_rfl))
  f337 := Tryz.func225.trans (congrArg some (by kernel_rfl))
  f338 := Tryz.func226.trans (congrArg some (by kernel_rfl))
  t0 := Tryz.underlying0
  a0 := Tryz.isAgg0
  z0 := Tryz.sizeOf0
  v0 := Tryz.zeroValue0
  t2 := Tryz.underlying2
  a2 := Tryz.isAgg2
  z2 := Tryz.sizeOf2
  v2 := Tryz.zeroValue2
  t3 := Tryz.underlying3
  a3 := Tryz.isAgg3
  z3 := Tryz.sizeOf3
  v3 := Tryz.zeroValue3
  t4 := Tryz.underlying4
  a4 := Tryz.isAgg4
  z4 := Tryz.sizeOf4
  v4 := Tryz.zeroValue4
  t5 := Tryz.underlying5
  a5 := Tryz.isAgg5
  z5 := Tryz.sizeOf5
  v5 := Tryz.zeroValue5
  t9 := Tryz.underlying9
  a9 := Tryz.isAgg9
  z9 := Tryz.sizeOf9
  v9 := Tryz.zeroValue9
  t20 := Tryz.underlying20
  a20 := Tryz.isAgg20
  z20 := Tryz.sizeOf20
  v20 := Tryz.zeroValue20
  t21 := Tryz.underlying21
  a21 := Tryz.isAgg21
  z21 := Tryz.sizeOf21
  v21 := Tryz.zeroValue21
  t37 := Tryz.underlying147
  a37 := Tryz.isAgg147
  z37 := Tryz.sizeOf147
  v37 := Tryz.zeroValue147
  t46 := Tryz.underlying142
  a46 := Tryz.isAgg142
  z46 := Tryz.sizeOf142
  v46 := Tryz.zeroValue142
  t51 := Tryz.underlying177
  a51 := Tryz.isAgg177
  z51 := Tryz.sizeOf177
  v51 := Tryz.zeroValue177
  t53 := Tryz.underlying179
  a53 := Tryz.isAgg179
  z53 := Tryz.sizeOf179
  v53 := Tryz.zeroValue179
  t75 := Tryz.underlying187
  a75 := Tryz.isAgg187
  z75 := Tryz.sizeOf187
  v75 := Tryz.zeroValue187
  t85 := Tryz.underlying188
  a85 := Tryz.isAgg188
  z85 := Tryz.sizeOf188
  v85 := Tryz.zeroValue188
  t127 := Tryz.underlying242
  a127 := Tryz.isAgg242
  z127 := Tryz.sizeOf242
  v127 := Tryz.zeroValue242
  t143 := Tryz.underlying243
  a143 := Tryz.isAgg243
  z143 := Tryz.sizeOf243
  v143 := Tryz.zeroValue243
  t145 := Tryz.underlying245
  a145 := Tryz.isAgg245
  z145 := Tryz.sizeOf245
  v145 := Tryz.zeroValue245
  t167 := Tryz.underlying225
  a167 := Tryz.isAgg225
  z167 := Tryz.sizeOf225
  v167 := Tryz.zeroValue225
  t168 := Tryz.underlying228
  a168 := Tryz.isAgg228
  z168 := Tryz.sizeOf228
  v168 := Tryz.zeroValue228
  t171 := Tryz.underlying238
  a171 := Tryz.isAgg238
  z171 := Tryz.sizeOf238
  v171 := Tryz.zeroValue238
  t173 := Tryz.underlying240
  a173 := Tryz.isAgg240
  z173 := Tryz.sizeOf240
  v173 := Tryz.zeroValue240
  t175 := Tryz.underlying226
  a175 := Tryz.isAgg226
  z175 := Tryz.sizeOf226
  v175 := Tryz.zeroValue226
  t210 := Tryz.underlying235
  a210 := Tryz.isAgg235
  z210 := Tryz.sizeOf235
  v210 := Tryz.zeroValue235
  t212 := Tryz.underlying247
  a212 := Tryz.isAgg247
  z212 := Tryz.sizeOf247
  v212 := Tryz.zeroValue247
  t213 := Tryz.underlying248
  a213 := Tryz.isAgg248
  z213 := Tryz.sizeOf248
  t232 := Tryz.underlying250
  a232 := Tryz.isAgg250
  z232 := Tryz.sizeOf250
  v232 := Tryz.zeroValue250
  t233 := Tryz.underlying251
  a233 := Tryz.isAgg251
  z233 := Tryz.sizeOf251
  v233 := Tryz.zeroValue251
  g15 := by kernel_rfl
  g16 := by kernel_rfl
  g17 := by kernel_rfl
  g18 := by kernel_rfl
  g19 := by kernel_rfl
  t80 := Tryz.underlying252
  a80 := Tryz.isAgg252
  z80 := Tryz.sizeOf252
  v80 := Tryz.zeroValue252
  i0 := by kernel_rfl
  i2 := by kernel_rfl
  i3 := by kernel_rfl
  i4 := by kernel_rfl
  i5 := by kernel_rfl
  i9 := by kernel_rfl
  i20 := by kernel_rfl
  i21 := by kernel_rfl
  i37 := by kernel_rfl
  i46 := by kernel_rfl
  i51 := by kernel_rfl
  i53 := by kernel_rfl
  i75 := by kernel_rfl
  i80 := by kernel_rfl
  i85 := by kernel_rfl
  i127 := by kernel_rfl
  i143 := by kernel_rfl
  i145 := by kernel_rfl
  i167 := by kernel_rfl
  i168 := by kernel_rfl
  i171 := by kernel_rfl
  i173 := by kernel_rfl
  i175 := by kernel_rfl
  i210 := by kernel_rfl
  i212 := by kernel_rfl
  i232 := by kernel_rfl
  i233 := by kernel_rfl
  m15 := by kernel_rfl
  m16 := by kernel_rfl
  m17 := by kernel_rfl
  m18 := by kernel_rfl
  m19 := by kernel_rfl
  c0 := by kernel_rfl
  c2 := by kernel_rfl
  c3 := by kernel_rfl
  c4 := by kernel_rfl
  c5 := by kernel_rfl
  c9 := by kernel_rfl
  c20 := by kernel_rfl
  c21 := by kernel_rfl
  c37 := by kernel_rfl
  c46 := by kernel_rfl
  c51 := by kernel_rfl
  c53 := by kernel_rfl
  c75 := by kernel_rfl
  c80 := by kernel_rfl
  c85 := by kernel_rfl
  c127 := by kernel_rfl
  c143 := by kernel_rfl
  c145 := by kernel_rfl
  c167 := by kernel_rfl
  c168 := by kernel_rfl
  c171 := by kernel_rfl
  c173 := by kernel_rfl
  c175 := by kernel_rfl
  c210 := by kernel_rfl
  c212 := by kernel_rfl
  c213 := by kernel_rfl
  c232 := by kernel_rfl
  c233 := by kernel_rfl
theorem tSyn : ∀ w, Tabs w → ∃ te pe, w.cell? ⟨3, 0, none⟩ = some (.iface te pe) := fun w h => by
  obtain ⟨_, h⟩ := h
  have h : gp w := h
  unfold gp at h
  exact h.2.2.1
theorem tRng : ∀ w, Tabs w → ∃ te pe, w.cell? ⟨4, 0, none⟩ = some (.iface te pe) := fun w h => by
  obtain ⟨_, h⟩ := h
  have h : gp w := h
  unfold gp at h
  exact h.2.2.2
open Go.RowKit Go.Shelf in
theorem f123_ok (K : Nat) : @Sound cwZ Tryz.prog 123 (f123M K) := by
  intro w x us Fs hW hgf hA hap
  refine fun (y : Int × Bool) hy => ?_
  obtain ⟨s, x0⟩ := x
  obtain ⟨rfl, G, rfl⟩ := str1 hA
  change numF s = some y at hy
  unfold numF at hy
  cases hsz : Nat.ble s.size 140737488355328
  · rw [hsz] at hy; cases hy
  rw [hsz, cond_true] at hy
  have hsz := Nat.le_of_ble_eq_true hsz
  have e160 : ∀ args w, (callFunc 160 args).run Tryz.prog w = .ok (.enter 160 args) w := enters_of Tryz.func160 (by kernel_rfl) rfl
  have e161 : ∀ args w, (callFunc 161 args).run Tryz.prog w = .ok (.enter 161 args) w := enters_of Tryz.func161 (by kernel_rfl) rfl
  have hfin : ∀ (n : Int) (b : Bool), (n, b) = y → (Calls Tryz.prog 123 #[.string s] w fun e w' => e = .returned (.tuple #[.int .i64 n, .bool b]) ∧ Below w.heap.size w w') → Calls Tryz.prog 123 [Value.string s].toArray w fun e w' => ∃ u, e = .returned u ∧ @Post cwZ w (f123M K) [.string s] [G] y u w' := by
    intro n b hy h
    subst hy
    exact h.mono fun e w' ⟨he, hB⟩ => ⟨_, he, num_post hB⟩
  cases hp : Lib.parseIntB 64 s.data.toList
  · rename_i v
    rw [hp] at hy
    have hb := Lib.parseIntB_bounds hp
    refine hfin v (itoaB v == s) (by simpa using hy) ?_
    have hP := Any.strconv_ParseInt_10_at64_ok f123_lays s (by omega) v hp w
    have hin : inI64 v = true := by
      simp only [inI64, Bool.and_eq_true, decide_eq_true_eq]
      omega
    go_enter Tryz.func123, Tryz.ntmps123
    go_wp2_with (go_at_fn 160; refine hP.mono ?_)
    rintro e W1 rfl hW1
    have hB1 : Below w.heap.size w W1 := by
      rcases hW1 with rfl | ⟨t, rfl⟩
      · exact Below.refl _ _
      · exact Lib.bytesWorld_below _ _ _
    go_wp2_with (go_at_fn 161; refine (text_calls (f161_ok K) (hW.below hB1) (y := itoaB v) ?_).mono ?_)
    · show (Option.bind (fmtF v 10) fun y => some y) = some (itoaB v)
      unfold fmtF
      rw [hin]
      rfl
    · rintro e W2 ⟨rfl, hB2⟩
      go_wp2
      go_ret2
      refine ⟨?_, hB1.trans (hB2.mono hB1.size)⟩
      rw [beq_toListBytes]
      rfl
  · rw [hp] at hy
    obtain ⟨te, pe, hc⟩ := tSyn w hW
    have hP := Any.strconv_ParseInt_10_at64_syntax f123_lays s (by omega) hp (.iface te pe) w hc (.inr ⟨te, pe, rfl⟩)
    refine hfin _ false (by simpa using hy) ?_
    go_enter Tryz.func123, Tryz.ntmps123
    go_wp2_with (go_at_fn 160; refine hP.mono ?_)
    rintro e W1 N rfl hN _ hB1
    go_wp2
    go_ret2
    exact ⟨rfl, hB1⟩
  · rw [hp] at hy
    obtain ⟨te, pe, hc⟩ := tRng w hW
    have hP := Any.strconv_ParseInt_10_at64_range f123_lays s (by omega) hp (.iface te pe) w hc (.inr ⟨te, pe, rfl⟩)
    refine hfin _ false (by simpa using hy) ?_
    go_enter Tryz.func123, Tryz.ntmps123
    go_wp2_with (go_at_fn 160; refine hP.mono ?_)
    rintro e W1 N rfl hN _ hB1
    go_wp2
    go_ret2
    exact ⟨rfl, hB1⟩

include K
attribute [local instance] cwZ in
theorem f81_ok : SF 81 (f81M K) :=
  sF (f81E K) (aF (Sound.toZ (f24_ok K)) (aF (f123_ok K) aN)) Tryz.func81 fun x => f81_run K x.1 x.2.1 x.2.2.1
theorem f87_ok : SF 87 (f87M K) :=
  sF (f87E K) aN Tryz.func87
theorem f165_ok : SF 165 (f165M K) :=
  sF (f165E K) (aF (f87_ok K) aN) Tryz.func165
theorem f127_ok : SF 127 (f127M K) :=
  sF (f127E K) (aF (f165_ok K) aN) Tryz.func127
attribute [local instance] cwZ in
theorem f117_ok : SF 117 (f117M K) :=
  sF (f117E K) (aF (f81_ok K) (aF (Sound.toZ (f127_ok K)) aN)) Tryz.func117
theorem f118_ok : SF 118 (f118M K) :=
  sF (f118E K) aN Tryz.func118 fun x => f118_run K x.1
attribute [local instance] cwZ in
theorem f79_ok : SF 79 (f79M K) :=
  sF (f79E K) (aF (f117_ok K) (aF (Sound.toZ (f118_ok K)) aN)) Tryz.func79
attribute [local instance] cwZ in
theorem f45_ok : SoundQ Tryz.prog 45 (f45M K) :=
  sound_fnQ (eO (f45E K) (aF (f79_ok K) aN)) Tryz.func45 fun x => by kernel_rfl
omit K
def f46_ren : Go.Shelf.Ren := ⟨fun | 143 => 46 | 217 => 119 | 219 => 80 | 224 => 121 | 225 => 120 | 266 => 158 | 267 => 122 | 314 => 159 | n => n, fun | 3 => 3 | 4 => 4 | 5 => 5 | 9 => 9 | 46 => 142 | 51 => 177 | 146 => 184 | n => n, fun | 1 => 0 | n => n⟩
theorem f46_lays : Lays.n143 Tryz.prog f46_ren where
  mixed := by kernel_rfl
  f143 := Tryz.func46.trans (congrArg some (by kernel_rfl))
  f217 := Tryz.func119.trans (congrArg some (by kernel_rfl))
  f219 := Tryz.func80.trans (congrArg some (by kernel_rfl))
  f224 := Tryz.func121.trans (congrArg some (by kernel_rfl))
  f225 := Tryz.func120.trans (congrArg some (by kernel_rfl))
  f266 := Tryz.func158.trans (congrArg some (by kernel_rfl))
  f267 := Tryz.func122.trans (congrArg some (by kernel_rfl))
  f314 := Tryz.func159.trans (congrArg some (by kernel_rfl))
  t3 := Tryz.underlying3
  a3 := Tryz.isAgg3
  z3 := Tryz.sizeOf3
  v3 := Tryz.zeroValue3
  t4 := Tryz.underlying4
  a4 := Tryz.isAgg4
  z4 := Tryz.sizeOf4
  v4 := Tryz.zeroValue4
  t5 := Tryz.underlying5
  a5 := Tryz.isAgg5
  z5 := Tryz.sizeOf5
  v5 := Tryz.zeroValue5
  t9 := Tryz.underlying9
  a9 := Tryz.isAgg9
  z9 := Tryz.sizeOf9
  v9 := Tryz.zeroValue9
  t46 := Tryz.underlying142
  a46 := Tryz.isAgg142
  z46 := Tryz.sizeOf142
  v46 := Tryz.zeroValue142
  t51 := Tryz.underlying177
  a51 := Tryz.isAgg177
  z51 := Tryz.sizeOf177
  v51 := Tryz.zeroValue177
  t146 := Tryz.underlying184
  a146 := Tryz.isAgg184
  z146 := Tryz.sizeOf184
  v146 := Tryz.zeroValue184
  g1 := by kernel_rfl

theorem f46_ok (K : Nat) : Sound Tryz.prog 46 (f46M K) := idx_sound f46_lays rfl tMax
include K
theorem f47_ok : SF 47 (f47M K) :=
  sF (f47E K) aN Tryz.func47
theorem f90_ok : SF 90 (f90M K) :=
  sF (f90E K) aN Tryz.func90
theorem f82_ok : SF 82 (f82M K) :=
  sF (f82E K) (aF (f87_ok K) (aF (f90_ok K) aN)) Tryz.func82
attribute [local instance] cwZ in
theorem f48_ok : SF 48 (f48M K) :=
  sF (f48E K) (aF (f81_ok K) (aF (Sound.toZ (f82_ok K)) aN)) Tryz.func48
omit K
def f124_ren : Go.Shelf.Ren := ⟨fun | 145 => 124 | 217 => 119 | 219 => 80 | 220 => 162 | 224 => 121 | 225 => 120 | 266 => 158 | 267 => 122 | 314 => 159 | n => n, fun | 3 => 3 | 4 => 4 | 5 => 5 | 9 => 9 | 46 => 142 | 51 => 177 | 59 => 156 | 146 => 184 | n => n, fun | 1 => 0 | n => n⟩
theorem f124_lays : Lays.n145 Tryz.prog f124_ren where
  mixed := by kernel_rfl
  f145 := Tryz.func124.trans (congrArg some (by kernel_rfl))
  f217 := Tryz.func119.trans (congrArg some (by kernel_rfl))
  f219 := Tryz.func80.trans (congrArg some (by kernel_rfl))
  f220 := Tryz.func162.trans (congrArg some (by kernel_rfl))
  f224 := Tryz.func121.trans (congrArg some (by kernel_rfl))
  f225 := Tryz.func120.trans (congrArg some (by kernel_rfl))
  f266 := Tryz.func158.trans (congrArg some (by kernel_rfl))
  f267 := Tryz.func122.trans (congrArg some (by kernel_rfl))
  f314 := Tryz.func159.trans (congrArg some (by kernel_rfl))
  t3 := Tryz.underlying3
  a3 := Tryz.isAgg3
  z3 := Tryz.sizeOf3
  v3 := Tryz.zeroValue3
  t4 := Tryz.underlying4
  a4 := Tryz.isAgg4
  z4 := Tryz.sizeOf4
  v4 := Tryz.zeroValue4
  t5 := Tryz.underlying5
  a5 := Tryz.isAgg5
  z5 := Tryz.sizeOf5
  v5 := Tryz.zeroValue5
  t9 := Tryz.underlying9
  a9 := Tryz.isAgg9
  z9 := Tryz.sizeOf9
  v9 := Tryz.zeroValue9
  t46 := Tryz.underlying142
  a46 := Tryz.isAgg142
  z46 := Tryz.sizeOf142
  v46 := Tryz.zeroValue142
  t51 := Tryz.underlying177
  a51 := Tryz.isAgg177
  z51 := Tryz.sizeOf177
  v51 := Tryz.zeroValue177
  t59 := Tryz.underlying156
  a59 := Tryz.isAgg156
  z59 := Tryz.sizeOf156
  v59 := Tryz.zeroValue156
  t146 := Tryz.underlying184
  a146 := Tryz.isAgg184
  z146 := Tryz.sizeOf184
  v146 := Tryz.zeroValue184
  g1 := by kernel_rfl

theorem f124_ok (K : Nat) : Sound Tryz.prog 124 (f124M K) := cut_sound f124_lays rfl tMax
include K
theorem f191_ok : SF 191 (f191M K) :=
  sF (f191E K) (aF (f165_ok K) aN) Tryz.func191
theorem f192_ok : SF 192 (f192M K) :=
  sF (f192E K) aN Tryz.func192
theorem f163_ok : SF 163 (f163M K) :=
  sF (f163E K) (aF (f191_ok K) (aF (f192_ok K) aN)) Tryz.func163
attribute [local instance] cwZ in
theorem f125_ok : SF 125 (f125M K) :=
  sF (f125E K) (aF (f81_ok K) (aF (Sound.toZ (f163_ok K)) aN)) Tryz.func125
theorem f58_ok : SF 58 (f58M K) :=
  sF (f58E K) aN Tryz.func58
theorem f209_ok : SF 209 (f209M K) :=
  sF (f209E K) (aF (f58_ok K) (aF (f192_ok K) aN)) Tryz.func209
theorem f193_ok : SF 193 (f193M K) :=
  sF (f193E K) (aF (f192_ok K) (aF (f209_ok K) aN)) Tryz.func193
theorem f194_ok : SF 194 (f194M K) :=
  sF (f194E K) (aF (f192_ok K) (aF (f209_ok K) aN)) Tryz.func194
theorem f164_ok : SF 164 (f164M K) :=
  sF (f164E K) (aF (f193_ok K) (aF (f194_ok K) aN)) Tryz.func164
theorem f126_ok : SF 126 (f126M K) :=
  sF (f126E K) (aF (f127_ok K) (aF (f163_ok K) (aF (f164_ok K) aN))) Tryz.func126
attribute [local instance] cwZ in
theorem f83_ok : SF 83 (f83M K) :=
  sF (f83E K) (aF (f117_ok K) (aF (Sound.toZ (f124_ok K)) (aF (f125_ok K) (aF (Sound.toZ (f126_ok K)) aN)))) Tryz.func83
theorem f167_ok : SF 167 (f167M K) :=
  sF (f167E K) aN Tryz.func167
theorem f97_ok : SF 97 (f97M K) :=
  sF (f97E K) aN Tryz.func97
theorem f196_ok : SF 196 (f196M K) :=
  sF (f196E K) aN Tryz.func196
theorem f169_ok : SF 169 (f169M K) :=
  sF (f169E K) (aF (f97_ok K) (aF (f196_ok K) aN)) Tryz.func169 fun x => f169_run K x.1
theorem f95_ok : SF 95 (f95M K) :=
  sF (f95E K) aN Tryz.func95
theorem f56_ok : SF 56 (f56M K) :=
  sF (f56E K) (aF (f95_ok K) aN) Tryz.func56
theorem f171_ok : SF 171 (f171M K) :=
  sF (f171E K) (aF (f56_ok K) aN) Tryz.func171
theorem f170_ok : SF 170 (f170M K) :=
  sF (f170E K) (aF (f97_ok K) (aF (f171_ok K) aN)) Tryz.func170
theorem f195_ok : SF 195 (f195M K) :=
  sF (f195E K) aN Tryz.func195 fun x => f195_run K x.1 x.2.1
theorem f168_ok : SF 168 (f168M K) :=
  sF (f168E K) (aF (f195_ok K) aN) Tryz.func168 fun x => f168_run K x.1 x.2.1
theorem f129_ok : Sound Tryz.prog 129 (f129M K) :=
  sound_fn (eO (f129E K) (aF (f167_ok K) (aF (f168_ok K) (aF (f169_ok K) (aF (f170_ok K) aN)))) (v := (AllV.cons (f170_ok K) (rk 170) AllV.nil))) Tryz.func129 fun x => by kernel_rfl
theorem f166_ok : SF 166 (f166M K) :=
  sF (f166E K) aN Tryz.func166 fun x => f166_run K x.1 x.2.1
theorem f128_ok : SF 128 (f128M K) :=
  sF (f128E K) (aF (f166_ok K) aN) Tryz.func128
theorem f84_ok : SF 84 (f84M K) :=
  sF (f84E K) (aF (f127_ok K) (aF (f128_ok K) (aF (f129_ok K) aN))) Tryz.func84
theorem f59_ok : SF 59 (f59M K) :=
  sF (f59E K) (aF (f56_ok K) aN) Tryz.func59
attribute [local instance] cwZ in
theorem f49_ok : SoundQ Tryz.prog 49 (f49M K) :=
  sound_fnQ (eO (f49E K) (aF (Sound.toZ (f59_ok K)) (aF (f83_ok K) (aF (Sound.toZ (f84_ok K)) aN)))) Tryz.func49 fun x => by kernel_rfl
attribute [local instance] cwZ in
theorem f25_ok : SoundQ Tryz.prog 25 (f25M K) :=
  sound_fnQ (eO (f25E K) (aF (Sound.toZ (f24_ok K)) (aF (Sound.toZ (f46_ok K)) (aF (Sound.toZ (f47_ok K)) (aF (f48_ok K) aN)))) (q := (AllQ.cons (f45_ok K) (rk 45) (AllQ.cons (f49_ok K) (rk 49) AllQ.nil)))) Tryz.func25 fun x => by kernel_rfl
theorem f96_ok : SF 96 (f96M K) :=
  sF (f96E K) aN Tryz.func96
theorem f98_ok : SF 98 (f98M K) :=
  sF (f98E K) aN Tryz.func98
theorem f60_ok : SF 60 (f60M K) :=
  sF (f60E K) (aF (f96_ok K) (aF (f97_ok K) (aF (f98_ok K) aN))) Tryz.func60
theorem f137_ok : SF 137 (f137M K) :=
  sF (f137E K) aN Tryz.func137 fun x => f137_run K x.1 x.2.1
theorem f101_ok : SF 101 (f101M K) :=
  sF (f101E K) (aF (f137_ok K) aN) Tryz.func101
theorem f93_ok : SF 93 (f93M K) :=
  sF (f93E K) (aF (f137_ok K) aN) Tryz.func93
theorem f62_ok : SF 62 (f62M K) :=
  sF (f62E K) (aF (f93_ok K) (aF (f101_ok K) aN)) Tryz.func62
omit K
def f61_ren : Go.Shelf.Ren := ⟨fun | 6 => 61 | 14 => 99 | 15 => 100 | 20 => 138 | 21 => 139 | 22 => 140 | 23 => 141 | 24 => 142 | 25 => 143 | 26 => 144 | 27 => 145 | 28 => 146 | 29 => 147 | 46 => 183 | 47 => 184 | 48 => 185 | 49 => 186 | 50 => 187 | 57 => 202 | n => n, fun | 0 => 0 | 3 => 3 | 4 => 4 | 5 => 5 | 9 => 9 | 22 => 22 | 24 => 49 | 25 => 109 | 39 => 142 | 45 => 169 | 46 => 170 | 50 => 174 | 53 => 177 | 55 => 179 | 66 => 204 | 70 => 208 | 76 => 222 | 77 => 223 | n => n, fun n => n⟩
theorem f61_lays : SlLaysF0.n6 Tryz.prog f61_ren where
  mixed := by kernel_rfl
  f6 := ⟨ "slices.SortFunc[[]loop.example/g00943/impl.Motion,loop.example/g00943/impl.Motion]", by decide, Tryz.func61.trans (congrArg some (by kernel_rfl))⟩
  f14 := ⟨ "slices.pdqsortCmpFunc[loop.example/g00943/impl.Motion]", by decide, Tryz.func99.trans (congrArg some (by kernel_rfl))⟩
  f15 := Tryz.func100.trans (congrArg some (by kernel_rfl))
  f20 := ⟨ "slices.insertionSortCmpFunc[loop.example/g00943/impl.Motion]", by decide, Tryz.func138.trans (congrArg some (by kernel_rfl))⟩
  f21 := ⟨ "slices.heapSortCmpFunc[loop.example/g00943/impl.Motion]", by decide, Tryz.func139.trans (congrArg some (by kernel_rfl))⟩
  f22 := ⟨ "slices.breakPatternsCmpFunc[loop.example/g00943/impl.Motion]", by decide, Tryz.func140.trans (congrArg some (by kernel_rfl))⟩
  f23 := ⟨ "slices.choosePivotCmpFunc[loop.example/g00943/impl.Motion]", by decide, Tryz.func141.trans (congrArg some (by kernel_rfl))⟩
  f24 := ⟨ "slices.reverseRangeCmpFunc[loop.example/g00943/impl.Motion]", by decide, Tryz.func142.trans (congrArg some (by kernel_rfl))⟩
  f25 := ⟨ "slices.partialInsertionSortCmpFunc[loop.example/g00943/impl.Motion]", by decide, Tryz.func143.trans (congrArg some (by kernel_rfl))⟩
  f26 := ⟨ "slices.partitionEqualCmpFunc[loop.example/g00943/impl.Motion]", by decide, Tryz.func144.trans (congrArg some (by kernel_rfl))⟩
  f27 := ⟨ "slices.partitionCmpFunc[loop.example/g00943/impl.Motion]", by decide, Tryz.func145.trans (congrArg some (by kernel_rfl))⟩
  f28 := Tryz.func146.trans (congrArg some (by kernel_rfl))
  f29 := Tryz.func147.trans (congrArg some (by kernel_rfl))
  f46 := ⟨ "slices.siftDownCmpFunc[loop.example/g00943/impl.Motion]", by decide, Tryz.func183.trans (congrArg some (by kernel_rfl))⟩
  f47 := Tryz.func184.trans (congrArg some (by kernel_rfl))
  f48 := Tryz.func185.trans (congrArg some (by kernel_rfl))
  f49 := ⟨ "slices.medianAdjacentCmpFunc[loop.example/g00943/impl.Motion]", by decide, Tryz.func186.trans (congrArg some (by kernel_rfl))⟩
  f50 := ⟨ "slices.medianCmpFunc[loop.example/g00943/impl.Motion]", by decide, Tryz.func187.trans (congrArg some (by kernel_rfl))⟩
  f57 := ⟨ "slices.order2CmpFunc[loop.example/g00943/impl.Motion]", by decide, Tryz.func202.trans (congrArg some (by kernel_rfl))⟩
  t0 := Tryz.underlying0
  a0 := Tryz.isAgg0
  z0 := Tryz.sizeOf0
  v0 := Tryz.zeroValue0
  t3 := Tryz.underlying3
  a3 := Tryz.isAgg3
  z3 := Tryz.sizeOf3
  v3 := Tryz.zeroValue3
  t4 := Tryz.underlying4
  a4 := Tryz.isAgg4
  z4 := Tryz.sizeOf4
  v4 := Tryz.zeroValue4
  t5 := Tryz.underlying5
  a5 := Tryz.isAgg5
  z5 := Tryz.sizeOf5
  v5 := Tryz.zeroValue5
  t9 := Tryz.underlying9
  a9 := Tryz.isAgg9
  z9 := Tryz.sizeOf9
  v9 := Tryz.zeroValue9
  t22 := Tryz.underlying22
  a22 := Tryz.isAgg22
  z22 := Tryz.sizeOf22
  v22 := Tryz.zeroValue22
  t25 := Tryz.underlying109
  a25 := Tryz.isAgg109
  z25 := Tryz.sizeOf109
  v25 := Tryz.zeroValue109
  t39 := Tryz.underlying142
  a39 := Tryz.isAgg142
  z39 := Tryz.sizeOf142
  v39 := Tryz.zeroValue142
  t45 := Tryz.underlying169
  a45 := Tryz.isAgg169
  z45 := Tryz.sizeOf169
  v45 := Tryz.zeroValue169
  t46 := Tryz.underlying170
  a46 := Tryz.isAgg170
  z46 := Tryz.sizeOf170
  v46 := Tryz.zeroValue170
  t50 := Tryz.underlying174
  a50 := Tryz.isAgg174
  z50 := Tryz.sizeOf174
  v50 := Tryz.zeroValue174
  t53 := Tryz.underlying177
  a53 := Tryz.isAgg177
  z53 := Tryz.sizeOf177
  v53 := Tryz.zeroValue177
  t55 := Tryz.underlying179
  a55 := Tryz.isAgg179
  z55 := Tryz.sizeOf179
  v55 := Tryz.zeroValue179
  t66 := Tryz.underlying204
  a66 := Tryz.isAgg204
  z66 := Tryz.sizeOf204
  v66 := Tryz.zeroValue204
  t70 := Tryz.underlying208
  a70 := Tryz.isAgg208
  z70 := Tryz.sizeOf208
  v70 := Tryz.zeroValue208
  t76 := Tryz.underlying222
  a76 := Tryz.isAgg222
  z76 := Tryz.sizeOf222
  v76 := Tryz.zeroValue222
  t77 := Tryz.underlying223
  a77 := Tryz.isAgg223
  z77 := Tryz.sizeOf223
  v77 := Tryz.zeroValue223
theorem f61_ok (K : Nat) : Sound Tryz.prog 61 (f61M K) := sort_sound (e := 49) (s := sM) f61_lays rfl rfl rfl Tryz.isAgg49 Tryz.sizeOf49
include K
theorem f27_ok : Sound Tryz.prog 27 (f27M K) :=
  sound_fn (eO (f27E K) (aF (f58_ok K) (aF (f59_ok K) (aF (f60_ok K) (aF (f61_ok K) (aF (f62_ok K) aN))))) (v := (AllV.cons (f62_ok K) (rk 62) AllV.nil))) Tryz.func27 fun x => f27_run K x.1 x.2.1
theorem f12_ok : SF 12 (f12M K) :=
  sF (f12E K) (aF (f27_ok K) aN) Tryz.func12
theorem f172_ok : SF 172 (f172M K) :=
  sF (f172E K) (aF (f87_ok K) aN) Tryz.func172
theorem f130_ok : SF 130 (f130M K) :=
  sF (f130E K) (aF (f82_ok K) (aF (f172_ok K) aN)) Tryz.func130
theorem f131_ok : SF 131 (f131M K) :=
  sF (f131E K) (aF (f56_ok K) (aF (f58_ok K) (aF (f59_ok K) (aF (f60_ok K) (aF (f62_ok K) (aF (f128_ok K) (aF (f129_ok K) aN))))))) Tryz.func131 fun x => f131_run K x.1 x.2.1 x.2.2.1
theorem f85_ok : SF 85 (f85M K) :=
  sF (f85E K) (aF (f130_ok K) (aF (f131_ok K) aN)) Tryz.func85 fun x => f85_run K x.1 x.2.1 x.2.2.1
theorem f51_ok : SF 51 (f51M K) :=
  sF (f51E K) (aF (f87_ok K) aN) Tryz.func51
theorem f133_ok : SF 133 (f133M K) :=
  sF (f133E K) (aF (f51_ok K) (aF (f127_ok K) aN)) Tryz.func133
theorem f173_ok : SF 173 (f173M K) :=
  sF (f173E K) aN Tryz.func173 fun x => f173_run K x.1 x.2.1
theorem f132_ok : SF 132 (f132M K) :=
  sF (f132E K) (aF (f173_ok K) aN) Tryz.func132
theorem f86_ok : Sound Tryz.prog 86 (f86M K) :=
  sound_fn (eO (f86E K) (aF (f132_ok K) (aF (f133_ok K) aN)) (v := (AllV.cons (f133_ok K) (rk 133) AllV.nil))) Tryz.func86 fun x => by kernel_rfl
theorem f50_ok : SF 50 (f50M K) :=
  sF (f50E K) (aF (f85_ok K) (aF (f86_ok K) aN)) Tryz.func50
omit K
def f174_ren : Go.Shelf.Ren := ⟨fun | 212 => 174 | 263 => 197 | 264 => 198 | n => n, fun | 46 => 142 | 51 => 177 | 53 => 179 | 146 => 184 | 148 => 218 | n => n, fun n => n⟩
theorem f174_lays : Lays.n212 Tryz.prog f174_ren where
  mixed := by kernel_rfl
  f212 := Tryz.func174.trans (congrArg some (by kernel_rfl))
  f263 := Tryz.func197.trans (congrArg some (by kernel_rfl))
  f264 := Tryz.func198.trans (congrArg some (by kernel_rfl))
  t46 := Tryz.underlying142
  a46 := Tryz.isAgg142
  z46 := Tryz.sizeOf142
  v46 := Tryz.zeroValue142
  t51 := Tryz.underlying177
  a51 := Tryz.isAgg177
  z51 := Tryz.sizeOf177
  v51 := Tryz.zeroValue177
  t53 := Tryz.underlying179
  a53 := Tryz.isAgg179
  z53 := Tryz.sizeOf179
  v53 := Tryz.zeroValue179
  t146 := Tryz.underlying184
  a146 := Tryz.isAgg184
  z146 := Tryz.sizeOf184
  v146 := Tryz.zeroValue184
  t148 := Tryz.underlying218
  a148 := Tryz.isAgg218
  z148 := Tryz.sizeOf218
  v148 := Tryz.zeroValue218
theorem f174_ok (K : Nat) : Sound Tryz.prog 174 (f174M K) := mul_sound f174_lays rfl
include K
theorem f134_ok : SF 134 (f134M K) :=
  sF (f134E K) (aF (f174_ok K) aN) Tryz.func134 fun x => f134_run K x.1 x.2.1
theorem f54_ok : SF 54 (f54M K) :=
  sF (f54E K) aN Tryz.func54 fun x => f54_run K x.1
theorem f57_ok : SF 57 (f57M K) :=
  sF (f57E K) aN Tryz.func57
theorem f135_ok : SF 135 (f135M K) :=
  sF (f135E K) (aF (f97_ok K) (aF (f98_ok K) aN)) Tryz.func135
theorem f91_ok : SF 91 (f91M K) :=
  sF (f91E K) (aF (f56_ok K) (aF (f135_ok K) aN)) Tryz.func91
omit K
def f92_ren : Go.Shelf.Ren := ⟨fun | 6 => 92 | 14 => 136 | 15 => 100 | 20 => 175 | 21 => 176 | 22 => 177 | 23 => 178 | 24 => 179 | 25 => 180 | 26 => 181 | 27 => 182 | 28 => 146 | 29 => 147 | 46 => 199 | 47 => 184 | 48 => 185 | 49 => 200 | 50 => 201 | 57 => 210 | n => n, fun | 0 => 0 | 3 => 3 | 4 => 4 | 5 => 5 | 9 => 9 | 22 => 86 | 24 => 47 | 25 => 137 | 39 => 142 | 45 => 169 | 46 => 170 | 50 => 174 | 53 => 177 | 55 => 179 | 66 => 204 | 70 => 208 | 76 => 222 | 77 => 223 | n => n, fun n => n⟩
theorem f92_lays : SlLaysF0.n6 Tryz.prog f92_ren where
  mixed := by kernel_rfl
  f6 := ⟨ "slices.SortFunc[[]loop.example/g00943/impl.Vec,loop.example/g00943/impl.Vec]", by decide, Tryz.func92.trans (congrArg some (by kernel_rfl))⟩
  f14 := ⟨ "slices.pdqsortCmpFunc[loop.example/g00943/impl.Vec]", by decide, Tryz.func136.trans (congrArg some (by kernel_rfl))⟩
  f15 := Tryz.func100.trans (congrArg some (by kernel_rfl))
  f20 := ⟨ "slices.insertionSortCmpFunc[loop.example/g00943/impl.Vec]", by decide, Tryz.func175.trans (congrArg some (by kernel_rfl))⟩
  f21 := ⟨ "slices.heapSortCmpFunc[loop.example/g00943/impl.Vec]", by decide, Tryz.func176.trans (congrArg some (by kernel_rfl))⟩
  f22 := ⟨ "slices.breakPatternsCmpFunc[loop.example/g00943/impl.Vec]", by decide, Tryz.func177.trans (congrArg some (by kernel_rfl))⟩
  f23 := ⟨ "slices.choosePivotCmpFunc[loop.example/g00943/impl.Vec]", by decide, Tryz.func178.trans (congrArg some (by kernel_rfl))⟩
  f24 := ⟨ "slices.reverseRangeCmpFunc[loop.example/g00943/impl.Vec]", by decide, Tryz.func179.trans (congrArg some (by kernel_rfl))⟩
  f25 := ⟨ "slices.partialInsertionSortCmpFunc[loop.example/g00943/impl.Vec]", by decide, Tryz.func180.trans (congrArg some (by kernel_rfl))⟩
  f26 := ⟨ "slices.partitionEqualCmpFunc[loop.example/g00943/impl.Vec]", by decide, Tryz.func181.trans (congrArg some (by kernel_rfl))⟩
  f27 := ⟨ "slices.partitionCmpFunc[loop.example/g00943/impl.Vec]", by decide, Tryz.func182.trans (congrArg some (by kernel_rfl))⟩
  f28 := Tryz.func146.trans (congrArg some (by kernel_rfl))
  f29 := Tryz.func147.trans (congrArg some (by kernel_rfl))
  f46 := ⟨ "slices.siftDownCmpFunc[loop.example/g00943/impl.Vec]", by decide, Tryz.func199.trans (congrArg some (by kernel_rfl))⟩
  f47 := Tryz.func184.trans (congrArg some (by kernel_rfl))
  f48 := Tryz.func185.trans (congrArg some (by kernel_rfl))
  f49 := ⟨ "slices.medianAdjacentCmpFunc[loop.example/g00943/impl.Vec]", by decide, Tryz.func200.trans (congrArg some (by kernel_rfl))⟩
  f50 := ⟨ "slices.medianCmpFunc[loop.example/g00943/impl.Vec]", by decide, Tryz.func201.trans (congrArg some (by kernel_rfl))⟩
  f57 := ⟨ "slices.order2CmpFunc[loop.example/g00943/impl.Vec]", by decide, Tryz.func210.trans (congrArg some (by kernel_rfl))⟩
  t0 := Tryz.underlying0
  a0 := Tryz.isAgg0
  z0 := Tryz.sizeOf0
  v0 := Tryz.zeroValue0
  t3 := Tryz.underlying3
  a3 := Tryz.isAgg3
  z3 := Tryz.sizeOf3
  v3 := Tryz.zeroValue3
  t4 := Tryz.underlying4
  a4 := Tryz.isAgg4
  z4 := Tryz.sizeOf4
  v4 := Tryz.zeroValue4
  t5 := Tryz.underlying5
  a5 := Tryz.isAgg5
  z5 := Tryz.sizeOf5
  v5 := Tryz.zeroValue5
  t9 := Tryz.underlying9
  a9 := Tryz.isAgg9
  z9 := Tryz.sizeOf9
  v9 := Tryz.zeroValue9
  t22 := Tryz.underlying86
  a22 := Tryz.isAgg86
  z22 := Tryz.sizeOf86
  v22 := Tryz.zeroValue86
  t25 := Tryz.underlying137
  a25 := Tryz.isAgg137
  z25 := Tryz.sizeOf137
  v25 := Tryz.zeroValue137
  t39 := Tryz.underlying142
  a39 := Tryz.isAgg142
  z39 := Tryz.sizeOf142
  v39 := Tryz.zeroValue142
  t45 := Tryz.underlying169
  a45 := Tryz.isAgg169
  z45 := Tryz.sizeOf169
  v45 := Tryz.zeroValue169
  t46 := Tryz.underlying170
  a46 := Tryz.isAgg170
  z46 := Tryz.sizeOf170
  v46 := Tryz.zeroValue170
  t50 := Tryz.underlying174
  a50 := Tryz.isAgg174
  z50 := Tryz.sizeOf174
  v50 := Tryz.zeroValue174
  t53 := Tryz.underlying177
  a53 := Tryz.isAgg177
  z53 := Tryz.sizeOf177
  v53 := Tryz.zeroValue177
  t55 := Tryz.underlying179
  a55 := Tryz.isAgg179
  z55 := Tryz.sizeOf179
  v55 := Tryz.zeroValue179
  t66 := Tryz.underlying204
  a66 := Tryz.isAgg204
  z66 := Tryz.sizeOf204
  v66 := Tryz.zeroValue204
  t70 := Tryz.underlying208
  a70 := Tryz.isAgg208
  z70 := Tryz.sizeOf208
  v70 := Tryz.zeroValue208
  t76 := Tryz.underlying222
  a76 := Tryz.isAgg222
  z76 := Tryz.sizeOf222
  v76 := Tryz.zeroValue222
  t77 := Tryz.underlying223
  a77 := Tryz.isAgg223
  z77 := Tryz.sizeOf223
  v77 := Tryz.zeroValue223
theorem f92_ok (K : Nat) : Sound Tryz.prog 92 (f92M K) := sort_sound (e := 47) (s := sV) f92_lays rfl rfl rfl Tryz.isAgg47 Tryz.sizeOf47
include K
theorem f94_ok : SF 94 (f94M K) :=
  sF (f94E K) aN Tryz.func94 fun x => f94_run K x.1
theorem f55_ok : Sound Tryz.prog 55 (f55M K) :=
  sound_fn (eO (f55E K) (aF (f91_ok K) (aF (f92_ok K) (aF (f93_ok K) (aF (f94_ok K) aN)))) (v := (AllV.cons (f93_ok K) (rk 93) AllV.nil))) Tryz.func55 fun x => f55_run K x.1 x.2.1 x.2.2.1
theorem f88_ok : SF 88 (f88M K) :=
  sF (f88E K) (aF (f54_ok K) (aF (f55_ok K) (aF (f57_ok K) (aF (f90_ok K) (aF (f134_ok K) aN))))) Tryz.func88 fun x => f88_run K x.1 x.2.1
theorem f89_ok : SF 89 (f89M K) :=
  sF (f89E K) (aF (f56_ok K) (aF (f57_ok K) aN)) Tryz.func89
theorem f52_ok : SF 52 (f52M K) :=
  sF (f52E K) (aF (f88_ok K) (aF (f89_ok K) aN)) Tryz.func52 fun x => f52_run K x.1 x.2.1 x.2.2.1
theorem f53_ok : SF 53 (f53M K) :=
  sF (f53E K) (aF (f57_ok K) (aF (f90_ok K) aN)) Tryz.func53 fun x => f53_run K x.1 x.2.1 x.2.2.1 x.2.2.2.1
theorem f26_ok : SF 26 (f26M K) :=
  sF (f26E K) (aF (f50_ok K) (aF (f51_ok K) (aF (f52_ok K) (aF (f53_ok K) (aF (f54_ok K) (aF (f55_ok K) (aF (f56_ok K) (aF (f57_ok K) aN)))))))) Tryz.func26 fun x => f26_run K x.1 x.2.1 x.2.2.1 x.2.2.2.1 x.2.2.2.2.1
attribute [local instance] cwZ in
theorem f11_ok : SoundC Tryz.prog 11 (f11M K) :=
  sound_fnC (eO (f11E K) (aF (Sound.toZ (f12_ok K)) (aF (Sound.toZ (f23_ok K)) (aF (Sound.toZ (f24_ok K)) (aF (Sound.toZ (f26_ok K)) aN)))) (q := (AllQ.cons (f25_ok K) (rk 25) AllQ.nil))) Tryz.func11 fun x => f11_run K x.1
attribute [local instance] cwZ in
theorem f5_ok : Sound Tryz.prog 5 (f5M K) :=
  sound_fn (eO (f5E K) (aF (Sound.toZ (f12_ok K)) aN) (c := (AllC.cons (f11_ok K) (rk 11) AllC.nil))) Tryz.func5 fun x => by kernel_rfl
theorem f28_ok : SF 28 (f28M K) :=
  sF (f28E K) aN Tryz.func28
theorem f29_ok : SF 29 (f29M K) :=
  sF (f29E K) aN Tryz.func29
theorem f13_ok : SF 13 (f13M K) :=
  sF (f13E K) (aF (f28_ok K) (aF (f29_ok K) aN)) Tryz.func13
theorem f6_ok : SF 6 (f6M K) :=
  sF (f6E K) (aF (f13_ok K) aN) Tryz.func6 fun x => f6_run K x.1 x.2.1
theorem f7_ok : SF 7 (f7M K) :=
  sF (f7E K) aN Tryz.func7 fun x => f7_run K x.1 x.2.1
theorem f8_ok : SF 8 (f8M K) :=
  sF (f8E K) aN Tryz.func8 fun x => f8_run K x.1 x.2.1
attribute [local instance] cwZ in
theorem f3_ok : SF 3 (f3M K) :=
  sF (f3E K) (aF (Sound.toZ (f4_ok K)) (aF (f5_ok K) (aF (Sound.toZ (f6_ok K)) (aF (Sound.toZ (f7_ok K)) (aF (Sound.toZ (f8_ok K)) aN))))) Tryz.func3
end Go.Proofs.YtphhbdjjfacpiaaGreatDoor.X
