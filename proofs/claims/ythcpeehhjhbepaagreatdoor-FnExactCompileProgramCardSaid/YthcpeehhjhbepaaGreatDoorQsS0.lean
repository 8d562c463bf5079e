/- Functions of the program as plain Lean functions, and that the program does what they say. Printed by gen.py. -/
import Derived.Test.YthcpeehhjhbepaaGreatDoorQsR0
namespace Go.Proofs.YthcpeehhjhbepaaGreatDoor.X
open Go
set_option maxRecDepth 100000
attribute [local instance] cwD
set_option linter.unusedVariables false
theorem rk (n : Nat) (h : runsB Tryz.prog n = true := by kernel_rfl) : Runs Tryz.prog n := runsB_ok h
abbrev SF [CW] (n : Nat) (m : Mdl) : Prop := Sound Tryz.prog n m
theorem aF [CW] {f : Nat} {m : Mdl} {l : List (Nat × Mdl)} (a : Sound Tryz.prog f m) (c : AllOK Tryz.prog l) (b : runsB Tryz.prog f = true := by kernel_rfl) : AllOK Tryz.prog ((f, m) :: l) := AllOK.cons a (runsB_ok b) c
theorem aN [CW] : AllOK Tryz.prog [] := AllOK.nil
theorem eO [CW] (E : Env) (a : AllOK Tryz.prog E.fs) (h : tabB Tryz.prog E.ty E.eq E.mt = true := by exact tab_ok) (p : AllP Tryz.prog E.pf := by exact AllP.nil) (n : AllN Tryz.prog E.nf := by exact AllN.nil) (q : AllQ Tryz.prog E.qf := by exact AllQ.nil) (c : AllC Tryz.prog E.cf := by exact AllC.nil) (v : AllV Tryz.prog E.vf := by exact AllV.nil) (o : AllO Tryz.prog E.xf := by exact AllO.nil) : EnvOK Tryz.prog E := envOK h mixed_ok a p n q c v o
theorem sF [CW] {f : Nat} {fn : Func} {ps : List (PM × Sh)} {rs : List Sh} {F : AT ps → Option (RT (outs ps ++ rs))} (E : Env) (a : AllOK Tryz.prog E.fs) (hfn : Tryz.prog.funcs[f]? = some fn) (hF : ∀ x, runF E fn ps rs x = F x := by intro x; kernel_rfl) (h : tabB Tryz.prog E.ty E.eq E.mt = true := by exact tab_ok) (p : AllP Tryz.prog E.pf := by exact AllP.nil) (n : AllN Tryz.prog E.nf := by exact AllN.nil) (q : AllQ Tryz.prog E.qf := by exact AllQ.nil) (c : AllC Tryz.prog E.cf := by exact AllC.nil) (v : AllV Tryz.prog E.vf := by exact AllV.nil) (o : AllO Tryz.prog E.xf := by exact AllO.nil) : SF f ⟨ps, rs, F⟩ := sound_fn (envOK h mixed_ok a p n q c v o) hfn hF
variable (K : Nat)
include K
theorem f18_ok : SF 18 (f18M K) :=
  sF (f18E K) aN Tryz.func18 fun x => f18_run K x.1 x.2.1
omit K
theorem f70_okn (K : Nat) : ∀ n, Sound Tryz.prog 70 ⟨[(.ro, sI)], [.str], fun x => f70R K n x.1⟩
  | 0 => fun _ _ _ _ _ _ _ _ _ h => by cases h
  | n + 1 => sound_fn (envOK (E := f70E K (f70R K n)) tab_ok mixed_ok (AllOK.cons (f70_okn K n) (rk 70) AllOK.nil) AllP.nil AllN.nil AllQ.nil AllC.nil AllV.nil AllO.nil) Tryz.func70 fun x => f70_run K (f70R K n) x.1
theorem f70_ok (K : Nat) : Sound Tryz.prog 70 (f70M K) := f70_okn K K
include K
theorem f37_ok : SF 37 (f37M K) :=
  sF (f37E K) (aF (f70_ok K) aN) Tryz.func37 fun x => f37_run K x.1
theorem f99_ok : SF 99 (f99M K) :=
  sF (f99E K) (aF (f37_ok K) aN) Tryz.func99
theorem f62_ok : SF 62 (f62M K) :=
  sF (f62E K) (aF (f99_ok K) aN) Tryz.func62 fun x => f62_run K x.1
theorem f100_ok : SF 100 (f100M K) :=
  sF (f100E K) aN Tryz.func100
theorem f63_ok : SF 63 (f63M K) :=
  sF (f63E K) (aF (f100_ok K) aN) Tryz.func63
theorem f33_ok : SF 33 (f33M K) :=
  sF (f33E K) (aF (f18_ok K) (aF (f62_ok K) (aF (f63_ok K) aN))) Tryz.func33
theorem f69_ok : SF 69 (f69M K) :=
  sF (f69E K) (aF (f100_ok K) aN) Tryz.func69
theorem f140_ok : SF 140 (f140M K) :=
  sF (f140E K) (aF (f69_ok K) aN) Tryz.func140
theorem f141_ok : SF 141 (f141M K) :=
  sF (f141E K) aN Tryz.func141
theorem f101_ok : SF 101 (f101M K) :=
  sF (f101E K) (aF (f140_ok K) (aF (f141_ok K) aN)) Tryz.func101
theorem f64_ok : SF 64 (f64M K) :=
  sF (f64E K) (aF (f18_ok K) (aF (f62_ok K) (aF (f101_ok K) aN))) Tryz.func64
theorem f36_ok : SF 36 (f36M K) :=
  sF (f36E K) (aF (f18_ok K) (aF (f62_ok K) (aF (f69_ok K) aN))) Tryz.func36
theorem f40_ok : SF 40 (f40M K) :=
  sF (f40E K) aN Tryz.func40
theorem f41_ok : SF 41 (f41M K) :=
  sF (f41E K) aN Tryz.func41
theorem f142_ok : SF 142 (f142M K) :=
  sF (f142E K) (aF (f40_ok K) (aF (f41_ok K) (aF (f140_ok K) aN))) Tryz.func142 fun x => f142_run K x.1
theorem f102_ok : SF 102 (f102M K) :=
  sF (f102E K) (aF (f141_ok K) (aF (f142_ok K) aN)) Tryz.func102
theorem f65_ok : SF 65 (f65M K) :=
  sF (f65E K) (aF (f69_ok K) (aF (f101_ok K) (aF (f102_ok K) aN))) Tryz.func65
theorem f34_ok : SF 34 (f34M K) :=
  sF (f34E K) (aF (f18_ok K) (aF (f36_ok K) (aF (f64_ok K) (aF (f65_ok K) aN)))) Tryz.func34
theorem f103_ok : SF 103 (f103M K) :=
  sF (f103E K) aN Tryz.func103
theorem f66_ok : SF 66 (f66M K) :=
  sF (f66E K) (aF (f63_ok K) (aF (f103_ok K) aN)) Tryz.func66
theorem f143_ok : SF 143 (f143M K) :=
  sF (f143E K) aN Tryz.func143
theorem f42_ok : SF 42 (f42M K) :=
  sF (f42E K) aN Tryz.func42
theorem f104_ok : SF 104 (f104M K) :=
  sF (f104E K) (aF (f42_ok K) (aF (f143_ok K) aN)) Tryz.func104
theorem f67_ok : SF 67 (f67M K) :=
  sF (f67E K) (aF (f101_ok K) (aF (f103_ok K) (aF (f104_ok K) aN))) Tryz.func67
theorem f105_ok : SF 105 (f105M K) :=
  sF (f105E K) aN Tryz.func105
theorem f43_ok : SF 43 (f43M K) :=
  sF (f43E K) aN Tryz.func43
omit K
theorem f144_okn (K : Nat) : ∀ n, Sound Tryz.prog 144 ⟨[(.ro, sI), (.ro, sI)], [sI], fun x => f144R K n x.1 x.2.1⟩
  | 0 => fun _ _ _ _ _ _ _ _ _ h => by cases h
  | n + 1 => sound_fn (envOK (E := f144E K (f144R K n)) tab_ok mixed_ok (AllOK.cons (f144_okn K n) (rk 144) AllOK.nil) AllP.nil AllN.nil AllQ.nil AllC.nil AllV.nil AllO.nil) Tryz.func144 fun x => f144_run K (f144R K n) x.1 x.2.1
theorem f144_ok (K : Nat) : Sound Tryz.prog 144 (f144M K) := f144_okn K K
include K
theorem f45_ok : SF 45 (f45M K) :=
  sF (f45E K) aN Tryz.func45
theorem f145_ok : SF 145 (f145M K) :=
  sF (f145E K) aN Tryz.func145
theorem f106_ok : SF 106 (f106M K) :=
  sF (f106E K) (aF (f45_ok K) (aF (f144_ok K) (aF (f145_ok K) aN))) Tryz.func106 fun x => f106_run K x.1
theorem f68_ok : SF 68 (f68M K) :=
  sF (f68E K) (aF (f43_ok K) (aF (f105_ok K) (aF (f106_ok K) aN))) Tryz.func68
theorem f35_ok : SF 35 (f35M K) :=
  sF (f35E K) (aF (f66_ok K) (aF (f67_ok K) (aF (f68_ok K) (aF (f69_ok K) aN)))) Tryz.func35
theorem f27_ok : SF 27 (f27M K) :=
  sF (f27E K) (aF (f45_ok K) aN) Tryz.func27
theorem f23_ok : SF 23 (f23M K) :=
  sF (f23E K) (aF (f27_ok K) aN) Tryz.func23
theorem f19_ok : SF 19 (f19M K) :=
  sF (f19E K) (aF (f18_ok K) (aF (f23_ok K) (aF (f33_ok K) (aF (f34_ok K) (aF (f35_ok K) (aF (f36_ok K) (aF (f37_ok K) aN))))))) Tryz.func19
theorem f22_ok : SF 22 (f22M K) :=
  sF (f22E K) (aF (f40_ok K) aN) Tryz.func22
theorem f24_ok : SF 24 (f24M K) :=
  sF (f24E K) (aF (f41_ok K) (aF (f42_ok K) (aF (f43_ok K) aN))) Tryz.func24
theorem f147_ok : SF 147 (f147M K) :=
  sF (f147E K) aN Tryz.func147
theorem f146_ok : SF 146 (f146M K) :=
  sF (f146E K) aN Tryz.func146 fun x => f146_run K x.1 x.2.1
theorem f109_ok : SF 109 (f109M K) :=
  sF (f109E K) (aF (f146_ok K) (aF (f147_ok K) aN)) Tryz.func109
theorem f107_ok : SF 107 (f107M K) :=
  sF (f107E K) aN Tryz.func107
theorem f73_ok : SF 73 (f73M K) :=
  sF (f73E K) (aF (f107_ok K) (aF (f109_ok K) aN)) Tryz.func73
theorem f44_ok : SF 44 (f44M K) :=
  sF (f44E K) (aF (f73_ok K) aN) Tryz.func44 fun x => f44_run K x.1 x.2.1
theorem f25_ok : SF 25 (f25M K) :=
  sF (f25E K) (aF (f44_ok K) aN) Tryz.func25
theorem f26_ok : SF 26 (f26M K) :=
  sF (f26E K) (aF (f44_ok K) aN) Tryz.func26
theorem f11_ok : SF 11 (f11M K) :=
  sF (f11E K) (aF (f22_ok K) (aF (f23_ok K) (aF (f24_ok K) (aF (f25_ok K) (aF (f26_ok K) aN))))) Tryz.func11 fun x => f11_run K x.1 x.2.1
theorem f38_ok : SF 38 (f38M K) :=
  sF (f38E K) aN Tryz.func38 fun x => f38_run K x.1
theorem f108_ok : SF 108 (f108M K) :=
  sF (f108E K) (aF (f42_ok K) (aF (f43_ok K) aN)) Tryz.func108
theorem f72_ok : SF 72 (f72M K) :=
  sF (f72E K) (aF (f27_ok K) (aF (f108_ok K) aN)) Tryz.func72
theorem f71_ok : SF 71 (f71M K) :=
  sF (f71E K) (aF (f107_ok K) aN) Tryz.func71 fun x => f71_run K x.1 x.2.1
theorem f39_ok : SF 39 (f39M K) :=
  sF (f39E K) (aF (f71_ok K) (aF (f72_ok K) aN)) Tryz.func39 fun x => f39_run K x.1 x.2.1 x.2.2.1
theorem f21_ok : SF 21 (f21M K) :=
  sF (f21E K) (aF (f38_ok K) (aF (f39_ok K) aN)) Tryz.func21 fun x => f21_run K x.1 x.2.1
theorem f12_ok : SF 12 (f12M K) :=
  sF (f12E K) (aF (f27_ok K) aN) Tryz.func12
theorem f10_ok : SF 10 (f10M K) :=
  sF (f10E K) (aF (f12_ok K) (aF (f21_ok K) aN)) Tryz.func10 fun x => f10_run K x.1 x.2.1
theorem f20_ok : SF 20 (f20M K) :=
  sF (f20E K) (aF (f12_ok K) aN) Tryz.func20 fun x => f20_run K x.1 x.2.1 x.2.2.1
theorem f9_ok : SoundO Tryz.prog 9 (f9M K) :=
  sound_fnO (eO (f9E K) (aF (f10_ok K) (aF (f11_ok K) (aF (f18_ok K) (aF (f19_ok K) (aF (f20_ok K) aN)))))) Tryz.func9 fun x => f9_run K x.1
theorem f4_ok : Sound Tryz.prog 4 (f4M K) :=
  sound_fn (eO (f4E K) (aF (f10_ok K) (aF (f11_ok K) (aF (f12_ok K) aN))) (o := (AllO.cons (f9_ok K) (rk 9) AllO.nil))) Tryz.func4 fun x => f4_run K x.1
theorem f74_ok : SF 74 (f74M K) :=
  sF (f74E K) aN Tryz.func74
theorem f46_ok : SF 46 (f46M K) :=
  sF (f46E K) (aF (f74_ok K) aN) Tryz.func46
theorem f28_ok : SF 28 (f28M K) :=
  sF (f28E K) (aF (f46_ok K) aN) Tryz.func28
omit K
def f29_ren : Go.Shelf.Ren := ⟨fun | 138 => 76 | 143 => 49 | 146 => 29 | 195 => 110 | 197 => 111 | 217 => 115 | 218 => 112 | 219 => 78 | 221 => 47 | 224 => 117 | 225 => 116 | 260 => 148 | 266 => 149 | 267 => 118 | 268 => 75 | 314 => 150 | n => n, fun | 0 => 0 | 3 => 3 | 4 => 4 | 5 => 5 | 9 => 9 | 21 => 21 | 31 => 51 | 46 => 154 | 51 => 174 | 105 => 149 | 119 => 206 | 138 => 208 | 139 => 209 | 146 => 175 | n => n, fun | 1 => 0 | 3 => 1 | 4 => 2 | n => n⟩
theorem f29_lays : Lays.n146 Tryz.prog f29_ren where
  mixed := by kernel_rfl
  f138 := Tryz.func76.trans (congrArg some (by kernel_rfl))
  f143 := Tryz.func49.trans (congrArg some (by kernel_rfl))
  f146 := Tryz.func29.trans (congrArg some (by kernel_rfl))
  f195 := Tryz.func110.trans (congrArg some (by kernel_rfl))
  f197 := Tryz.func111.trans (congrArg some (by kernel_rfl))
  f217 := Tryz.func115.trans (congrArg some (by kernel_rfl))
  f218 := Tryz.func112.trans (congrArg some (by kernel_rfl))
  f219 := Tryz.func78.trans (congrArg some (by kernel_rfl))
  f221 := Tryz.func47.trans (congrArg some (by kernel_rfl))
  f224 := Tryz.func117.trans (congrArg some (by kernel_rfl))
  f225 := Tryz.func116.trans (congrArg some (by kernel_rfl))
  f260 := Tryz.func148.trans (congrArg some (by kernel_rfl))
  f266 := Tryz.func149.trans (congrArg some (by kernel_rfl))
  f267 := Tryz.func118.trans (congrArg some (by kernel_rfl))
  f268 := Tryz.func75.trans (congrArg some (by kernel_rfl))
  f314 := Tryz.func150.trans (congrArg some (by kernel_rfl))
  t0 := Tryz.underlying0
  a0 := Tryz.isAgg0
  z0 := Tryz.sizeOf0
  v0 := Tryz.zeroValue0
  t3 := Tryz.underlying3
  a3 := Tryz.isAgg3
  z3 := Tryz.sizeOf3
  v3 := Tryz.zeroValue3
  t4 := Tryz.underlying4
  a4 := Tryz.isAgg4
  z4 := Tryz.sizeOf4
  v4 := Tryz.zeroValue4
  t5 := Tryz.underlying5
  a5 := Tryz.isAgg5
  z5 := Tryz.sizeOf5
  v5 := Tryz.zeroValue5
  t9 := Tryz.underlying9
  a9 := Tryz.isAgg9
  z9 := Tryz.sizeOf9
  v9 := Tryz.zeroValue9
  t21 := Tryz.underlying21
  a21 := Tryz.isAgg21
  z21 := Tryz.sizeOf21
  v21 := Tryz.zeroValue21
  t31 := Tryz.underlying51
  a31 := Tryz.isAgg51
  z31 := Tryz.sizeOf51
  v31 := Tryz.zeroValue51
  t46 := Tryz.underlying154
  a46 := Tryz.isAgg154
  z46 := Tryz.sizeOf154
  v46 := Tryz.zeroValue154
  t51 := Tryz.underlying174
  a51 := Tryz.isAgg174
  z51 := Tryz.sizeOf174
  v51 := Tryz.zeroValue174
  t105 := Tryz.underlying149
  a105 := Tryz.isAgg149
  z105 := Tryz.sizeOf149
  v105 := Tryz.zeroValue149
  t119 := Tryz.underlying206
  a119 := Tryz.isAgg206
  z119 := Tryz.sizeOf206
  t138 := Tryz.underlying208
  a138 := Tryz.isAgg208
  z138 := Tryz.sizeOf208
  v138 := Tryz.zeroValue208
  t139 := Tryz.underlying209
  a139 := Tryz.isAgg209
  z139 := Tryz.sizeOf209
  v139 := Tryz.zeroValue209
  t146 := Tryz.underlying175
  a146 := Tryz.isAgg175
  z146 := Tryz.sizeOf175
  v146 := Tryz.zeroValue175
  g1 := by kernel_rfl
  g3 := by kernel_rfl
  g4 := by kernel_rfl
theorem tMax : ∀ w, Tabs w → ∃ m, w.cell? ⟨0, 0, none⟩ = some (.int .i64 m) := fun w h => by
  obtain ⟨_, h⟩ := h
  have h : gp w := h
  unfold gp at h
  exact h.2.1
theorem f29_ok (K : Nat) : Sound Tryz.prog 29 (f29M K) := split_sound (e := 9) f29_lays rfl rfl (by kernel_rfl) tMax
def f186_ren : Go.Shelf.Ren := ⟨fun | 129 => 175 | 173 => 186 | 246 => 208 | 283 => 217 | 284 => 218 | 285 => 219 | 286 => 220 | 317 => 222 | 318 => 223 | 319 => 224 | 320 => 225 | 337 => 226 | 338 => 227 | n => n, fun | 0 => 0 | 2 => 2 | 3 => 3 | 4 => 4 | 5 => 5 | 9 => 9 | 20 => 20 | 37 => 145 | 46 => 154 | 51 => 174 | 53 => 200 | 171 => 240 | 173 => 242 | 212 => 249 | 213 => 250 | 232 => 252 | 233 => 253 | n => n, fun | 17 => 5 | 18 => 6 | 19 => 7 | n => n⟩
theorem f186_lays : LaysM.n173 Tryz.prog f186_ren where
  mixed := by kernel_rfl
  f129 := Tryz.func175.trans (congrArg some (by kernel_rfl))
  f173 := Tryz.func186.trans (congrArg some (by kernel_rfl))
  f246 := Tryz.func208.trans (congrArg some (by kernel_rfl))
  f283 := Tryz.func217.trans (congrArg some (by kernel_rfl))
  f284 := Tryz.func218.trans (congrArg some (by kernel_rfl))
  f285 := Tryz.func219.trans (congrArg some (by kernel_rfl))
  f286 := Tryz.func220.trans (congrArg some (by kernel_rfl))
  f317 := Tryz.func222.trans (congrArg some (by kernel_rfl))
  f318 := Tryz.func223.trans (congrArg some (by kernel_rfl))
  f319 := Tryz.func224.trans (congrArg some (by kernel_rfl))
  f320 := Tryz.func225.trans (congrArg some (by kernel_rfl))
  f337 := Tryz.func226.trans (congrArg some (by kernel_rfl))
  f338 := Tryz.func227.trans (congrArg some (by kernel_rfl))
  t0 := Tryz.underlying0
  a0 := Tryz.isAgg0
  z0 := Tryz.sizeOf0
  v0 := Tryz.zeroValue0
  t2 := Tryz.underlying2
  a2 := Tryz.isAgg2
  z2 := Tryz.sizeOf2
  v2 := Tryz.zeroValue2
  t3 := Tryz.underlying3
  a3 := Tryz.isAgg3
  z3 := Tryz.sizeOf3
  v3 := Tryz.zeroValue3
  t4 := Tryz.underlying4
  a4 := Tryz.isAgg4
  z4 := Tryz.sizeOf4
  v4 := Tryz.zeroValue4
  t5 := Tryz.underlying5
  a5 := Tryz.isAgg5
  z5 := Tryz.sizeOf5
  v5 := Tryz.zeroValue5
  t9 := Tryz.underlying9
  a9 := Tryz.isAgg9
  z9 := Tryz.sizeOf9
  v9 := Tryz.zeroValue9
  t20 := Tryz.underlying20
  a20 := Tryz.isAgg20
  z20 := Tryz.sizeOf20
  v20 := Tryz.zeroValue20
  t37 := Tryz.underlying145
  a37 := Tryz.isAgg145
  z37 := Tryz.sizeOf145
  v37 := Tryz.zeroValue145
  t46 := Tryz.underlying154
  a46 := Tryz.isAgg154
  z46 := Tryz.sizeOf154
  v46 := Tryz.zeroValue154
  t51 := Tryz.underlying174
  a51 := Tryz.isAgg174
  z51 := Tryz.sizeOf174
  v51 := Tryz.zeroValue174
  t53 := Tryz.underlying200
  a53 := Tryz.isAgg200
  z53 := Tryz.sizeOf200
  v53 := Tryz.zeroValue200
  t171 := Tryz.underlying240
  a171 := Tryz.isAgg240
  z171 := Tryz.sizeOf240
  v171 := Tryz.zeroValue240
  t173 := Tryz.underlying242
  a173 := Tryz.isAgg242
  z173 := Tryz.sizeOf242
  v173 := Tryz.zeroValue242
  t212 := Tryz.underlying249
  a212 := Tryz.isAgg249
  z212 := Tryz.sizeOf249
  v212 := Tryz.zeroValue249
  t213 := Tryz.underlying250
  a213 := Tryz.isAgg250
  z213 := Tryz.sizeOf250
  t232 := Tryz.underlying252
  a232 := Tryz.isAgg252
  z232 := Tryz.sizeOf252
  v232 := Tryz.zeroValue252
  t233 := Tryz.underlying253
  a233 := Tryz.isAgg253
  z233 := Tryz.sizeOf253
  v233 := Tryz.zeroValue253
  g17 := by kernel_rfl
  g18 := by kernel_rfl
  g19 := by kernel_rfl
  i0 := by kernel_rfl
  i2 := by kernel_rfl
  i3 := by kernel_rfl
  i4 := by kernel_rfl
  i5 := by kernel_rfl
  i9 := by kernel_rfl
  i20 := by kernel_rfl
  i37 := by kernel_rfl
  i46 := by kernel_rfl
  i51 := by kernel_rfl
  i53 := by kernel_rfl
  i171 := by kernel_rfl
  i173 := by kernel_rfl
  i212 := by kernel_rfl
  i232 := by kernel_rfl
  i233 := by kernel_rfl
  m17 := by kernel_rfl
  m18 := by kernel_rfl
  m19 := by kernel_rfl
theorem tPow : ∀ w, Tabs w → Lib.TabIs Tryz.prog w "internal/strconv.uint64pow10" .u64 Lib.pow10Tab := fun w h => by
  obtain ⟨_, h⟩ := h
  have h : gp w := h
  unfold gp at h
  obtain ⟨t, z, h1⟩ := h.1
  unfold Lib.TabIs World.var?
  rw [show Tryz.prog.globalNamed "internal/strconv.uint64pow10" = some 5 by kernel_rfl, Option.bind_some, h1]
theorem f186_ok (K : Nat) : Sound Tryz.prog 186 (f186M K) := fmt_sound f186_lays rfl tPow
include K
theorem f152_ok : SF 152 (f152M K) :=
  sF (f152E K) (aF (f186_ok K) aN) Tryz.func152
omit K
def f119_ren : Go.Shelf.Ren := ⟨fun | 129 => 175 | 171 => 216 | 174 => 151 | 205 => 215 | 243 => 221 | 245 => 185 | 246 => 208 | 247 => 184 | 279 => 204 | 280 => 205 | 281 => 206 | 282 => 207 | 283 => 217 | 284 => 218 | 285 => 219 | 286 => 220 | 287 => 203 | 316 => 214 | 317 => 222 | 318 => 223 | 319 => 224 | 320 => 225 | 321 => 212 | 322 => 213 | 337 => 226 | 338 => 227 | n => n, fun | 0 => 0 | 2 => 2 | 3 => 3 | 4 => 4 | 5 => 5 | 9 => 9 | 20 => 20 | 21 => 21 | 37 => 145 | 46 => 154 | 51 => 174 | 53 => 200 | 75 => 178 | 80 => 254 | 85 => 179 | 127 => 244 | 143 => 245 | 145 => 247 | 167 => 224 | 168 => 227 | 171 => 240 | 173 => 242 | 175 => 225 | 210 => 237 | 212 => 249 | 213 => 250 | 232 => 252 | 233 => 253 | n => n, fun | 15 => 3 | 16 => 4 | 17 => 5 | 18 => 6 | 19 => 7 | n => n⟩
theorem f119_lays : LaysC.n174 Tryz.prog f119_ren where
  mixed := by kernel_rfl
  f129 := Tryz.func175.trans (congrArg some (by kernel_rfl))
  f171 := Tryz.func216.trans (congrArg some (by kernel_rfl))
  f174 := Tryz.func151.trans (congrArg some (by kernel_rfl))
  f205 := Tryz.func215.trans (congrArg some (by kernel_rfl))
  f243 := Tryz.func221.trans (congrArg some (by kernel_rfl))
  f245 := Tryz.func185.trans (congrArg some (by kernel_rfl))
  f246 := Tryz.func208.trans (congrArg some (by kernel_rfl))
  f247 := Tryz.func184.trans (congrArg some (by kernel_rfl))
  f279 := Tryz.func204.trans (congrArg some (by kernel_rfl))
  f280 := Tryz.func205.trans (congrArg some (by kernel_rfl))
  f281 := Tryz.func206.trans (congrArg some (by kernel_rfl))
  f282 := Tryz.func207.trans (congrArg some (by kernel_rfl))
  f283 := Tryz.func217.trans (congrArg some (by kernel_rfl))
  f284 := Tryz.func218.trans (congrArg some (by kernel_rfl))
  f285 := Tryz.func219.trans (congrArg some (by kernel_rfl))
  f286 := Tryz.func220.trans (congrArg some (by kernel_rfl))
  f287 := Tryz.func203.trans (congrArg some (by kernel_rfl))
  f316 := Tryz.func214.trans (congrArg some (by kernel_rfl))
  f317 := Tryz.func222.trans (congrArg some (by kernel_rfl))
  f318 := Tryz.func223.trans (congrArg some (by kernel_rfl))
  f319 := Tryz.func224.trans (congrArg some (by kernel_rfl))
  f320 := Tryz.func225.trans (congrArg some (by kernel_rfl))
  f321 := Tryz.func212.trans (congrArg some (by kernel_rfl))
  f322 := Tryz.func213.trans (congrArg some (by kernel_rfl))
  f337 := Tryz.func226.trans (congrArg some (by kernel_rfl))
  f338 := Tryz.func227.trans (congrArg some (by kernel_rfl))
  t0 := Tryz.underlying0
  a0 := Tryz.isAgg0
  z0 := Tryz.sizeOf0
  v0 := Tryz.zeroValue0
  t2 := Tryz.underlying2
  a2 := Tryz.isAgg2
  z2 := Tryz.sizeOf2
  v2 := Tryz.zeroValue2
  t3 := Tryz.underlying3
  a3 := Tryz.isAgg3
  z3 := Tryz.sizeOf3
  v3 := Tryz.zeroValue3
  t4 := Tryz.underlying4
  a4 := Tryz.isAgg4
  z4 := Tryz.sizeOf4
  v4 := Tryz.zeroValue4
  t5 := Tryz.underlying5
  a5 := Tryz.isAgg5
  z5 := Tryz.sizeOf5
  v5 := Tryz.zeroValue5
  t9 := Tryz.underlying9
  a9 := Tryz.isAgg9
  z9 := Tryz.sizeOf9
  v9 := Tryz.zeroValue9
  t20 := Tryz.underlying20
  a20 := Tryz.isAgg20
  z20 := Tryz.sizeOf20
  v20 := Tryz.zeroValue20
  t21 := Tryz.underlying21
  a21 := Tryz.isAgg21
  z21 := Tryz.sizeOf21
  v21 := Tryz.zeroValue21
  t37 := Tryz.underlying145
  a37 := Tryz.isAgg145
  z37 := Tryz.sizeOf145
  v37 := Tryz.zeroValue145
  t46 := Tryz.underlying154
  a46 := Tryz.isAgg154
  z46 := Tryz.sizeOf154
  v46 := Tryz.zeroValue154
  t51 := Tryz.underlying174
  a51 := Tryz.isAgg174
  z51 := Tryz.sizeOf174
  v51 := Tryz.zeroValue174
  t53 := Tryz.underlying200
  a53 := Tryz.isAgg200
  z53 := Tryz.sizeOf200
  v53 := Tryz.zeroValue200
  t75 := Tryz.underlying178
  a75 := Tryz.isAgg178
  z75 := Tryz.sizeOf178
  v75 := Tryz.zeroValue178
  t85 := Tryz.underlying179
  a85 := Tryz.isAgg179
  z85 := Tryz.sizeOf179
  v85 := Tryz.zeroValue179
  t127 := Tryz.underlying244
  a127 := Tryz.isAgg244
  z127 := Tryz.sizeOf244
  v127 := Tryz.zeroValue244
  t143 := Tryz.underlying245
  a143 := Tryz.isAgg245
  z143 := Tryz.sizeOf245
  v143 := Tryz.zeroValue245
  t145 := Tryz.underlying247
  a145 := Tryz.isAgg247
  z145 := Tryz.sizeOf247
  v145 := Tryz.zeroValue247
  t167 := Tryz.underlying224
  a167 := Tryz.isAgg224
  z167 := Tryz.sizeOf224
  v167 := Tryz.zeroValue224
  t168 := Tryz.underlying227
  a168 := Tryz.isAgg227
  z168 := Tryz.sizeOf227
  v168 := Tryz.zeroValue227
  t171 := Tryz.underlying240
  a171 := Tryz.isAgg240
  z171 := Tryz.sizeOf240
  v171 := Tryz.zeroValue240
  t173 := Tryz.underlying242
  a173 := Tryz.isAgg242
  z173 := Tryz.sizeOf242
  v173 := Tryz.zeroValue242
  t175 := Tryz.underlying225
  a175 := Tryz.isAgg225
  z175 := Tryz.sizeOf225
  v175 := Tryz.zeroValue225
  t210 := Tryz.underlying237
  a210 := Tryz.isAgg237
  z210 := Tryz.sizeOf237
  v210 := Tryz.zeroValue237
  t212 := Tryz.underlying249
  a212 := Tryz.isAgg249
  z212 := Tryz.sizeOf249
  v212 := Tryz.zeroValue249
  t213 := Tryz.underlying250
  a213 := Tryz.isAgg250
  z213 := Tryz.sizeOf250
  t232 := Tryz.underlying252
  a232 := Tryz.isAgg252
  z232 := Tryz.sizeOf252
  v232 := Tryz.zeroValue252
  t233 := Tryz.underlying253
  a233 := Tryz.isAgg253
  z233 := Tryz.sizeOf253
  v233 := Tryz.zeroValue253
  g15 := by kernel_rfl
  g16 := by kernel_rfl
  g17 := by kernel_rfl
  g18 := by kernel_rfl
  g19 := by kernel_rfl
  t80 := Tryz.underlying254
  a80 := Tryz.isAgg254
  z80 := Tryz.sizeOf254
  v80 := Tryz.zeroValue254
  i0 := by kernel_rfl
  i2 := by kernel_rfl
  i3 := by kernel_rfl
  i4 := by kernel_rfl
  i5 := by kernel_rfl
  i9 := by kernel_rfl
  i20 := by kernel_rfl
  i21 := by kernel_rfl
  i37 := by kernel_rfl
  i46 := by kernel_rfl
  i51 := by kernel_rfl
  i53 := by kernel_rfl
  i75 := by kernel_rfl
  i80 := by kernel_rfl
  i85 := by kernel_rfl
  i127 := by kernel_rfl
  i143 := by kernel_rfl
  i145 := by kernel_rfl
  i167 := by kernel_rfl
  i168 := by kernel_rfl
  i171 := by kernel_rfl
  i173 := by kernel_rfl
  i175 := by kernel_rfl
  i210 := by kernel_rfl
  i212 := by kernel_rfl
  i232 := by kernel_rfl
  i233 := by kernel_rfl
  m15 := by kernel_rfl
  m16 := by kernel_rfl
  m17 := by kernel_rfl
  m18 := by kernel_rfl
  m19 := by kernel_rfl
  c0 := by kernel_rfl
  c2 := by kernel_rfl
  c3 := by kernel_rfl
  c4 := by kernel_rfl
  c5 := by kernel_rfl
  c9 := by kernel_rfl
  c20 := by kernel_rfl
  c21 := by kernel_rfl
  c37 := by kernel_rfl
  c46 := by kernel_rfl
  c51 := by kernel_rfl
  c53 := by kernel_rfl
  c75 := by kernel_rfl
  c80 := by kernel_rfl
  c85 := by kernel_rfl
  c127 := by kernel_rfl
  c143 := by kernel_rfl
  c145 := by kernel_rfl
  c167 := by kernel_rfl
  c168 := by kernel_rfl
  c171 := by kernel_rfl
  c173 := by kernel_rfl
  c175 := by kernel_rfl
  c210 := by kernel_rfl
  c212 := by kernel_rfl
  c213 := by kernel_rfl
  c232 := by kernel_rfl
  c233 := by kernel_rfl
theorem tSyn : ∀ w, Tabs w → ∃ te pe, w.cell? ⟨3, 0, none⟩ = some (.iface te pe) := fun w h => by
  obtain ⟨_, h⟩ := h
  have h : gp w := h
  unfold gp at h
  exact h.2.2.1
theorem tRng : ∀ w, Tabs w → ∃ te pe, w.cell? ⟨4, 0, none⟩ = some (.iface te pe) := fun w h => by
  obtain ⟨_, h⟩ := h
  have h : gp w := h
  unfold gp at h
  exact h.2.2.2
open Go.RowKit Go.Shelf in
theorem f119_ok (K : Nat) : @Sound cwZ Tryz.prog 119 (f119M K) := by
  intro w x us Fs hW hgf hA hap
  refine fun (y : Int × Bool) hy => ?_
  obtain ⟨s, x0⟩ := x
  obtain ⟨rfl, G, rfl⟩ := str1 hA
  change numF s = some y at hy
  unfold numF at hy
  cases hsz : Nat.ble s.size 140737488355328
  · rw [hsz] at hy; cases hy
  rw [hsz, cond_true] at hy
  have hsz := Nat.le_of_ble_eq_true hsz
  have e151 : ∀ args w, (callFunc 151 args).run Tryz.prog w = .ok (.enter 151 args) w := enters_of Tryz.func151 (by kernel_rfl) rfl
  have e152 : ∀ args w, (callFunc 152 args).run Tryz.prog w = .ok (.enter 152 args) w := enters_of Tryz.func152 (by kernel_rfl) rfl
  have hfin : ∀ (n : Int) (b : Bool), (n, b) = y → (Calls Tryz.prog 119 #[.string s] w fun e w' => e = .returned (.tuple #[.int .i64 n, .bool b]) ∧ Below w.heap.size w w') → Calls Tryz.prog 119 [Value.string s].toArray w fun e w' => ∃ u, e = .returned u ∧ @Post cwZ w (f119M K) [.string s] [G] y u w' := by
    intro n b hy h
    subst hy
    exact h.mono fun e w' ⟨he, hB⟩ => ⟨_, he, num_post hB⟩
  cases hp : Lib.parseIntB 64 s.data.toList
  · rename_i v
    rw [hp] at hy
    have hb := Lib.parseIntB_bounds hp
    refine hfin v (itoaB v == s) (by simpa using hy) ?_
    have hP := Any.strconv_ParseInt_10_at64_ok f119_lays s (by omega) v hp w
    have hin : inI64 v = true := by
      simp only [inI64, Bool.and_eq_true, decide_eq_true_eq]
      omega
    go_enter Tryz.func119, Tryz.ntmps119
    go_wp2_with (go_at_fn 151; refine hP.mono ?_)
    rintro e W1 rfl hW1
    have hB1 : Below w.heap.size w W1 := by
      rcases hW1 with rfl | ⟨t, rfl⟩
      · exact Below.refl _ _
      · exact Lib.bytesWorld_below _ _ _
    go_wp2_with (go_at_fn 152; refine (text_calls (f152_ok K) (hW.below hB1) (y := itoaB v) ?_).mono ?_)
    · show (Option.bind (fmtF v 10) fun y => some y) = some (itoaB v)
      unfold fmtF
      rw [hin]
      rfl
    · rintro e W2 ⟨rfl, hB2⟩
      go_wp2
      go_ret2
      refine ⟨?_, hB1.trans (hB2.mono hB1.size)⟩
      rw [beq_toListBytes]
      rfl
  · rw [hp] at hy
    obtain ⟨te, pe, hc⟩ := tSyn w hW
    have hP := Any.strconv_ParseInt_10_at64_syntax f119_lays s (by omega) hp (.iface te pe) w hc (.inr ⟨te, pe, rfl⟩)
    refine hfin _ false (by simpa using hy) ?_
    go_enter Tryz.func119, Tryz.ntmps119
    go_wp2_with (go_at_fn 151; refine hP.mono ?_)
    rintro e W1 N rfl hN _ hB1
    go_wp2
    go_ret2
    exact ⟨rfl, hB1⟩
  · rw [hp] at hy
    obtain ⟨te, pe, hc⟩ := tRng w hW
    have hP := Any.strconv_ParseInt_10_at64_range f119_lays s (by omega) hp (.iface te pe) w hc (.inr ⟨te, pe, rfl⟩)
    refine hfin _ false (by simpa using hy) ?_
    go_enter Tryz.func119, Tryz.ntmps119
    go_wp2_with (go_at_fn 151; refine hP.mono ?_)
    rintro e W1 N rfl hN _ hB1
    go_wp2
    go_ret2
    exact ⟨rfl, hB1⟩

include K
attribute [local instance] cwZ in
theorem f79_ok : SF 79 (f79M K) :=
  sF (f79E K) (aF (Sound.toZ (f29_ok K)) (aF (f119_ok K) aN)) Tryz.func79 fun x => f79_run K x.1 x.2.1 x.2.2.1
theorem f86_ok : SF 86 (f86M K) :=
  sF (f86E K) aN Tryz.func86
theorem f156_ok : SF 156 (f156M K) :=
  sF (f156E K) (aF (f86_ok K) aN) Tryz.func156
theorem f123_ok : SF 123 (f123M K) :=
  sF (f123E K) (aF (f156_ok K) aN) Tryz.func123
attribute [local instance] cwZ in
theorem f113_ok : SF 113 (f113M K) :=
  sF (f113E K) (aF (f79_ok K) (aF (Sound.toZ (f123_ok K)) aN)) Tryz.func113
theorem f114_ok : SF 114 (f114M K) :=
  sF (f114E K) aN Tryz.func114 fun x => f114_run K x.1
attribute [local instance] cwZ in
theorem f77_ok : SF 77 (f77M K) :=
  sF (f77E K) (aF (f113_ok K) (aF (Sound.toZ (f114_ok K)) aN)) Tryz.func77
attribute [local instance] cwZ in
theorem f48_ok : SoundQ Tryz.prog 48 (f48M K) :=
  sound_fnQ (eO (f48E K) (aF (f77_ok K) aN)) Tryz.func48 fun x => by kernel_rfl
omit K
def f49_ren : Go.Shelf.Ren := ⟨fun | 143 => 49 | 217 => 115 | 219 => 78 | 224 => 117 | 225 => 116 | 266 => 149 | 267 => 118 | 314 => 150 | n => n, fun | 3 => 3 | 4 => 4 | 5 => 5 | 9 => 9 | 46 => 154 | 51 => 174 | 146 => 175 | n => n, fun | 1 => 0 | n => n⟩
theorem f49_lays : Lays.n143 Tryz.prog f49_ren where
  mixed := by kernel_rfl
  f143 := Tryz.func49.trans (congrArg some (by kernel_rfl))
  f217 := Tryz.func115.trans (congrArg some (by kernel_rfl))
  f219 := Tryz.func78.trans (congrArg some (by kernel_rfl))
  f224 := Tryz.func117.trans (congrArg some (by kernel_rfl))
  f225 := Tryz.func116.trans (congrArg some (by kernel_rfl))
  f266 := Tryz.func149.trans (congrArg some (by kernel_rfl))
  f267 := Tryz.func118.trans (congrArg some (by kernel_rfl))
  f314 := Tryz.func150.trans (congrArg some (by kernel_rfl))
  t3 := Tryz.underlying3
  a3 := Tryz.isAgg3
  z3 := Tryz.sizeOf3
  v3 := Tryz.zeroValue3
  t4 := Tryz.underlying4
  a4 := Tryz.isAgg4
  z4 := Tryz.sizeOf4
  v4 := Tryz.zeroValue4
  t5 := Tryz.underlying5
  a5 := Tryz.isAgg5
  z5 := Tryz.sizeOf5
  v5 := Tryz.zeroValue5
  t9 := Tryz.underlying9
  a9 := Tryz.isAgg9
  z9 := Tryz.sizeOf9
  v9 := Tryz.zeroValue9
  t46 := Tryz.underlying154
  a46 := Tryz.isAgg154
  z46 := Tryz.sizeOf154
  v46 := Tryz.zeroValue154
  t51 := Tryz.underlying174
  a51 := Tryz.isAgg174
  z51 := Tryz.sizeOf174
  v51 := Tryz.zeroValue174
  t146 := Tryz.underlying175
  a146 := Tryz.isAgg175
  z146 := Tryz.sizeOf175
  v146 := Tryz.zeroValue175
  g1 := by kernel_rfl

theorem f49_ok (K : Nat) : Sound Tryz.prog 49 (f49M K) := idx_sound f49_lays rfl tMax
include K
theorem f50_ok : SF 50 (f50M K) :=
  sF (f50E K) aN Tryz.func50
theorem f89_ok : SF 89 (f89M K) :=
  sF (f89E K) aN Tryz.func89
theorem f80_ok : SF 80 (f80M K) :=
  sF (f80E K) (aF (f86_ok K) (aF (f89_ok K) aN)) Tryz.func80
attribute [local instance] cwZ in
theorem f51_ok : SF 51 (f51M K) :=
  sF (f51E K) (aF (f79_ok K) (aF (Sound.toZ (f80_ok K)) aN)) Tryz.func51
omit K
def f120_ren : Go.Shelf.Ren := ⟨fun | 145 => 120 | 217 => 115 | 219 => 78 | 220 => 153 | 224 => 117 | 225 => 116 | 266 => 149 | 267 => 118 | 314 => 150 | n => n, fun | 3 => 3 | 4 => 4 | 5 => 5 | 9 => 9 | 46 => 154 | 51 => 174 | 59 => 155 | 146 => 175 | n => n, fun | 1 => 0 | n => n⟩
theorem f120_lays : Lays.n145 Tryz.prog f120_ren where
  mixed := by kernel_rfl
  f145 := Tryz.func120.trans (congrArg some (by kernel_rfl))
  f217 := Tryz.func115.trans (congrArg some (by kernel_rfl))
  f219 := Tryz.func78.trans (congrArg some (by kernel_rfl))
  f220 := Tryz.func153.trans (congrArg some (by kernel_rfl))
  f224 := Tryz.func117.trans (congrArg some (by kernel_rfl))
  f225 := Tryz.func116.trans (congrArg some (by kernel_rfl))
  f266 := Tryz.func149.trans (congrArg some (by kernel_rfl))
  f267 := Tryz.func118.trans (congrArg some (by kernel_rfl))
  f314 := Tryz.func150.trans (congrArg some (by kernel_rfl))
  t3 := Tryz.underlying3
  a3 := Tryz.isAgg3
  z3 := Tryz.sizeOf3
  v3 := Tryz.zeroValue3
  t4 := Tryz.underlying4
  a4 := Tryz.isAgg4
  z4 := Tryz.sizeOf4
  v4 := Tryz.zeroValue4
  t5 := Tryz.underlying5
  a5 := Tryz.isAgg5
  z5 := Tryz.sizeOf5
  v5 := Tryz.zeroValue5
  t9 := Tryz.underlying9
  a9 := Tryz.isAgg9
  z9 := Tryz.sizeOf9
  v9 := Tryz.zeroValue9
  t46 := Tryz.underlying154
  a46 := Tryz.isAgg154
  z46 := Tryz.sizeOf154
  v46 := Tryz.zeroValue154
  t51 := Tryz.underlying174
  a51 := Tryz.isAgg174
  z51 := Tryz.sizeOf174
  v51 := Tryz.zeroValue174
  t59 := Tryz.underlying155
  a59 := Tryz.isAgg155
  z59 := Tryz.sizeOf155
  v59 := Tryz.zeroValue155
  t146 := Tryz.underlying175
  a146 := Tryz.isAgg175
  z146 := Tryz.sizeOf175
  v146 := Tryz.zeroValue175
  g1 := by kernel_rfl

theorem f120_ok (K : Nat) : Sound Tryz.prog 120 (f120M K) := cut_sound f120_lays rfl tMax
include K
theorem f187_ok : SF 187 (f187M K) :=
  sF (f187E K) (aF (f156_ok K) aN) Tryz.func187
theorem f188_ok : SF 188 (f188M K) :=
  sF (f188E K) aN Tryz.func188
theorem f154_ok : SF 154 (f154M K) :=
  sF (f154E K) (aF (f187_ok K) (aF (f188_ok K) aN)) Tryz.func154
attribute [local instance] cwZ in
theorem f121_ok : SF 121 (f121M K) :=
  sF (f121E K) (aF (f79_ok K) (aF (Sound.toZ (f154_ok K)) aN)) Tryz.func121
theorem f95_ok : SF 95 (f95M K) :=
  sF (f95E K) aN Tryz.func95
theorem f209_ok : SF 209 (f209M K) :=
  sF (f209E K) (aF (f95_ok K) (aF (f188_ok K) aN)) Tryz.func209
theorem f189_ok : SF 189 (f189M K) :=
  sF (f189E K) (aF (f188_ok K) (aF (f209_ok K) aN)) Tryz.func189
theorem f190_ok : SF 190 (f190M K) :=
  sF (f190E K) (aF (f188_ok K) (aF (f209_ok K) aN)) Tryz.func190
theorem f155_ok : SF 155 (f155M K) :=
  sF (f155E K) (aF (f189_ok K) (aF (f190_ok K) aN)) Tryz.func155
theorem f122_ok : SF 122 (f122M K) :=
  sF (f122E K) (aF (f123_ok K) (aF (f154_ok K) (aF (f155_ok K) aN))) Tryz.func122
attribute [local instance] cwZ in
theorem f81_ok : SF 81 (f81M K) :=
  sF (f81E K) (aF (f113_ok K) (aF (Sound.toZ (f120_ok K)) (aF (f121_ok K) (aF (Sound.toZ (f122_ok K)) aN)))) Tryz.func81
theorem f158_ok : SF 158 (f158M K) :=
  sF (f158E K) aN Tryz.func158
theorem f136_ok : SF 136 (f136M K) :=
  sF (f136E K) aN Tryz.func136
theorem f192_ok : SF 192 (f192M K) :=
  sF (f192E K) aN Tryz.func192
theorem f160_ok : SF 160 (f160M K) :=
  sF (f160E K) (aF (f136_ok K) (aF (f192_ok K) aN)) Tryz.func160 fun x => f160_run K x.1
theorem f94_ok : SF 94 (f94M K) :=
  sF (f94E K) aN Tryz.func94
theorem f59_ok : SF 59 (f59M K) :=
  sF (f59E K) (aF (f94_ok K) aN) Tryz.func59
theorem f162_ok : SF 162 (f162M K) :=
  sF (f162E K) (aF (f59_ok K) aN) Tryz.func162
theorem f161_ok : SF 161 (f161M K) :=
  sF (f161E K) (aF (f136_ok K) (aF (f162_ok K) aN)) Tryz.func161
theorem f191_ok : SF 191 (f191M K) :=
  sF (f191E K) aN Tryz.func191 fun x => f191_run K x.1 x.2.1
theorem f159_ok : SF 159 (f159M K) :=
  sF (f159E K) (aF (f191_ok K) aN) Tryz.func159 fun x => f159_run K x.1 x.2.1
theorem f125_ok : Sound Tryz.prog 125 (f125M K) :=
  sound_fn (eO (f125E K) (aF (f158_ok K) (aF (f159_ok K) (aF (f160_ok K) (aF (f161_ok K) aN)))) (v := (AllV.cons (f161_ok K) (rk 161) AllV.nil))) Tryz.func125 fun x => by kernel_rfl
theorem f157_ok : SF 157 (f157M K) :=
  sF (f157E K) aN Tryz.func157 fun x => f157_run K x.1 x.2.1
theorem f124_ok : SF 124 (f124M K) :=
  sF (f124E K) (aF (f157_ok K) aN) Tryz.func124
theorem f82_ok : SF 82 (f82M K) :=
  sF (f82E K) (aF (f123_ok K) (aF (f124_ok K) (aF (f125_ok K) aN))) Tryz.func82
theorem f83_ok : SF 83 (f83M K) :=
  sF (f83E K) (aF (f59_ok K) aN) Tryz.func83
attribute [local instance] cwZ in
theorem f52_ok : SoundQ Tryz.prog 52 (f52M K) :=
  sound_fnQ (eO (f52E K) (aF (f81_ok K) (aF (Sound.toZ (f82_ok K)) (aF (Sound.toZ (f83_ok K)) aN)))) Tryz.func52 fun x => by kernel_rfl
attribute [local instance] cwZ in
theorem f30_ok : SoundQ Tryz.prog 30 (f30M K) :=
  sound_fnQ (eO (f30E K) (aF (Sound.toZ (f29_ok K)) (aF (Sound.toZ (f49_ok K)) (aF (Sound.toZ (f50_ok K)) (aF (f51_ok K) aN)))) (q := (AllQ.cons (f48_ok K) (rk 48) (AllQ.cons (f52_ok K) (rk 52) AllQ.nil)))) Tryz.func30 fun x => by kernel_rfl
theorem f135_ok : SF 135 (f135M K) :=
  sF (f135E K) aN Tryz.func135
theorem f137_ok : SF 137 (f137M K) :=
  sF (f137E K) aN Tryz.func137
theorem f96_ok : SF 96 (f96M K) :=
  sF (f96E K) (aF (f135_ok K) (aF (f136_ok K) (aF (f137_ok K) aN))) Tryz.func96
theorem f134_ok : SF 134 (f134M K) :=
  sF (f134E K) aN Tryz.func134 fun x => f134_run K x.1 x.2.1
theorem f139_ok : SF 139 (f139M K) :=
  sF (f139E K) (aF (f134_ok K) aN) Tryz.func139
theorem f92_ok : SF 92 (f92M K) :=
  sF (f92E K) (aF (f134_ok K) aN) Tryz.func92
theorem f98_ok : SF 98 (f98M K) :=
  sF (f98E K) (aF (f92_ok K) (aF (f139_ok K) aN)) Tryz.func98
omit K
def f97_ren : Go.Shelf.Ren := ⟨fun | 6 => 97 | 14 => 138 | 15 => 133 | 20 => 176 | 21 => 177 | 22 => 178 | 23 => 179 | 24 => 180 | 25 => 181 | 26 => 182 | 27 => 183 | 28 => 174 | 29 => 175 | 46 => 200 | 47 => 196 | 48 => 197 | 49 => 201 | 50 => 202 | 57 => 211 | n => n, fun | 0 => 0 | 3 => 3 | 4 => 4 | 5 => 5 | 9 => 9 | 22 => 32 | 24 => 63 | 25 => 141 | 39 => 154 | 45 => 191 | 46 => 192 | 50 => 196 | 53 => 174 | 55 => 200 | 66 => 216 | 70 => 220 | 76 => 230 | 77 => 231 | n => n, fun n => n⟩
theorem f97_lays : SlLaysF0.n6 Tryz.prog f97_ren where
  mixed := by kernel_rfl
  f6 := ⟨ "slices.SortFunc[[]loop.example/g00943/impl.Motion,loop.example/g00943/impl.Motion]", by decide, Tryz.func97.trans (congrArg some (by kernel_rfl))⟩
  f14 := ⟨ "slices.pdqsortCmpFunc[loop.example/g00943/impl.Motion]", by decide, Tryz.func138.trans (congrArg some (by kernel_rfl))⟩
  f15 := Tryz.func133.trans (congrArg some (by kernel_rfl))
  f20 := ⟨ "slices.insertionSortCmpFunc[loop.example/g00943/impl.Motion]", by decide, Tryz.func176.trans (congrArg some (by kernel_rfl))⟩
  f21 := ⟨ "slices.heapSortCmpFunc[loop.example/g00943/impl.Motion]", by decide, Tryz.func177.trans (congrArg some (by kernel_rfl))⟩
  f22 := ⟨ "slices.breakPatternsCmpFunc[loop.example/g00943/impl.Motion]", by decide, Tryz.func178.trans (congrArg some (by kernel_rfl))⟩
  f23 := ⟨ "slices.choosePivotCmpFunc[loop.example/g00943/impl.Motion]", by decide, Tryz.func179.trans (congrArg some (by kernel_rfl))⟩
  f24 := ⟨ "slices.reverseRangeCmpFunc[loop.example/g00943/impl.Motion]", by decide, Tryz.func180.trans (congrArg some (by kernel_rfl))⟩
  f25 := ⟨ "slices.partialInsertionSortCmpFunc[loop.example/g00943/impl.Motion]", by decide, Tryz.func181.trans (congrArg some (by kernel_rfl))⟩
  f26 := ⟨ "slices.partitionEqualCmpFunc[loop.example/g00943/impl.Motion]", by decide, Tryz.func182.trans (congrArg some (by kernel_rfl))⟩
  f27 := ⟨ "slices.partitionCmpFunc[loop.example/g00943/impl.Motion]", by decide, Tryz.func183.trans (congrArg some (by kernel_rfl))⟩
  f28 := Tryz.func174.trans (congrArg some (by kernel_rfl))
  f29 := Tryz.func175.trans (congrArg some (by kernel_rfl))
  f46 := ⟨ "slices.siftDownCmpFunc[loop.example/g00943/impl.Motion]", by decide, Tryz.func200.trans (congrArg some (by kernel_rfl))⟩
  f47 := Tryz.func196.trans (congrArg some (by kernel_rfl))
  f48 := Tryz.func197.trans (congrArg some (by kernel_rfl))
  f49 := ⟨ "slices.medianAdjacentCmpFunc[loop.example/g00943/impl.Motion]", by decide, Tryz.func201.trans (congrArg some (by kernel_rfl))⟩
  f50 := ⟨ "slices.medianCmpFunc[loop.example/g00943/impl.Motion]", by decide, Tryz.func202.trans (congrArg some (by kernel_rfl))⟩
  f57 := ⟨ "slices.order2CmpFunc[loop.example/g00943/impl.Motion]", by decide, Tryz.func211.trans (congrArg some (by kernel_rfl))⟩
  t0 := Tryz.underlying0
  a0 := Tryz.isAgg0
  z0 := Tryz.sizeOf0
  v0 := Tryz.zeroValue0
  t3 := Tryz.underlying3
  a3 := Tryz.isAgg3
  z3 := Tryz.sizeOf3
  v3 := Tryz.zeroValue3
  t4 := Tryz.underlying4
  a4 := Tryz.isAgg4
  z4 := Tryz.sizeOf4
  v4 := Tryz.zeroValue4
  t5 := Tryz.underlying5
  a5 := Tryz.isAgg5
  z5 := Tryz.sizeOf5
  v5 := Tryz.zeroValue5
  t9 := Tryz.underlying9
  a9 := Tryz.isAgg9
  z9 := Tryz.sizeOf9
  v9 := Tryz.zeroValue9
  t22 := Tryz.underlying32
  a22 := Tryz.isAgg32
  z22 := Tryz.sizeOf32
  v22 := Tryz.zeroValue32
  t25 := Tryz.underlying141
  a25 := Tryz.isAgg141
  z25 := Tryz.sizeOf141
  v25 := Tryz.zeroValue141
  t39 := Tryz.underlying154
  a39 := Tryz.isAgg154
  z39 := Tryz.sizeOf154
  v39 := Tryz.zeroValue154
  t45 := Tryz.underlying191
  a45 := Tryz.isAgg191
  z45 := Tryz.sizeOf191
  v45 := Tryz.zeroValue191
  t46 := Tryz.underlying192
  a46 := Tryz.isAgg192
  z46 := Tryz.sizeOf192
  v46 := Tryz.zeroValue192
  t50 := Tryz.underlying196
  a50 := Tryz.isAgg196
  z50 := Tryz.sizeOf196
  v50 := Tryz.zeroValue196
  t53 := Tryz.underlying174
  a53 := Tryz.isAgg174
  z53 := Tryz.sizeOf174
  v53 := Tryz.zeroValue174
  t55 := Tryz.underlying200
  a55 := Tryz.isAgg200
  z55 := Tryz.sizeOf200
  v55 := Tryz.zeroValue200
  t66 := Tryz.underlying216
  a66 := Tryz.isAgg216
  z66 := Tryz.sizeOf216
  v66 := Tryz.zeroValue216
  t70 := Tryz.underlying220
  a70 := Tryz.isAgg220
  z70 := Tryz.sizeOf220
  v70 := Tryz.zeroValue220
  t76 := Tryz.underlying230
  a76 := Tryz.isAgg230
  z76 := Tryz.sizeOf230
  v76 := Tryz.zeroValue230
  t77 := Tryz.underlying231
  a77 := Tryz.isAgg231
  z77 := Tryz.sizeOf231
  v77 := Tryz.zeroValue231
theorem f97_ok (K : Nat) : Sound Tryz.prog 97 (f97M K) := sort_sound (e := 63) (s := sM) f97_lays rfl rfl rfl Tryz.isAgg63 Tryz.sizeOf63
include K
theorem f61_ok : Sound Tryz.prog 61 (f61M K) :=
  sound_fn (eO (f61E K) (aF (f83_ok K) (aF (f95_ok K) (aF (f96_ok K) (aF (f97_ok K) (aF (f98_ok K) aN))))) (v := (AllV.cons (f98_ok K) (rk 98) AllV.nil))) Tryz.func61 fun x => f61_run K x.1 x.2.1
theorem f32_ok : SF 32 (f32M K) :=
  sF (f32E K) (aF (f61_ok K) aN) Tryz.func32
theorem f163_ok : SF 163 (f163M K) :=
  sF (f163E K) (aF (f86_ok K) aN) Tryz.func163
theorem f126_ok : SF 126 (f126M K) :=
  sF (f126E K) (aF (f80_ok K) (aF (f163_ok K) aN)) Tryz.func126
theorem f127_ok : SF 127 (f127M K) :=
  sF (f127E K) (aF (f59_ok K) (aF (f83_ok K) (aF (f95_ok K) (aF (f96_ok K) (aF (f98_ok K) (aF (f124_ok K) (aF (f125_ok K) aN))))))) Tryz.func127 fun x => f127_run K x.1 x.2.1 x.2.2.1
theorem f84_ok : SF 84 (f84M K) :=
  sF (f84E K) (aF (f126_ok K) (aF (f127_ok K) aN)) Tryz.func84 fun x => f84_run K x.1 x.2.1 x.2.2.1
theorem f54_ok : SF 54 (f54M K) :=
  sF (f54E K) (aF (f86_ok K) aN) Tryz.func54
theorem f129_ok : SF 129 (f129M K) :=
  sF (f129E K) (aF (f54_ok K) (aF (f123_ok K) aN)) Tryz.func129
theorem f164_ok : SF 164 (f164M K) :=
  sF (f164E K) aN Tryz.func164 fun x => f164_run K x.1 x.2.1
theorem f128_ok : SF 128 (f128M K) :=
  sF (f128E K) (aF (f164_ok K) aN) Tryz.func128
theorem f85_ok : Sound Tryz.prog 85 (f85M K) :=
  sound_fn (eO (f85E K) (aF (f128_ok K) (aF (f129_ok K) aN)) (v := (AllV.cons (f129_ok K) (rk 129) AllV.nil))) Tryz.func85 fun x => by kernel_rfl
theorem f53_ok : SF 53 (f53M K) :=
  sF (f53E K) (aF (f84_ok K) (aF (f85_ok K) aN)) Tryz.func53
omit K
def f165_ren : Go.Shelf.Ren := ⟨fun | 212 => 165 | 263 => 193 | 264 => 194 | n => n, fun | 46 => 154 | 51 => 174 | 53 => 200 | 146 => 175 | 148 => 214 | n => n, fun n => n⟩
theorem f165_lays : Lays.n212 Tryz.prog f165_ren where
  mixed := by kernel_rfl
  f212 := Tryz.func165.trans (congrArg some (by kernel_rfl))
  f263 := Tryz.func193.trans (congrArg some (by kernel_rfl))
  f264 := Tryz.func194.trans (congrArg some (by kernel_rfl))
  t46 := Tryz.underlying154
  a46 := Tryz.isAgg154
  z46 := Tryz.sizeOf154
  v46 := Tryz.zeroValue154
  t51 := Tryz.underlying174
  a51 := Tryz.isAgg174
  z51 := Tryz.sizeOf174
  v51 := Tryz.zeroValue174
  t53 := Tryz.underlying200
  a53 := Tryz.isAgg200
  z53 := Tryz.sizeOf200
  v53 := Tryz.zeroValue200
  t146 := Tryz.underlying175
  a146 := Tryz.isAgg175
  z146 := Tryz.sizeOf175
  v146 := Tryz.zeroValue175
  t148 := Tryz.underlying214
  a148 := Tryz.isAgg214
  z148 := Tryz.sizeOf214
  v148 := Tryz.zeroValue214
theorem f165_ok (K : Nat) : Sound Tryz.prog 165 (f165M K) := mul_sound f165_lays rfl
include K
theorem f130_ok : SF 130 (f130M K) :=
  sF (f130E K) (aF (f165_ok K) aN) Tryz.func130 fun x => f130_run K x.1 x.2.1
theorem f57_ok : SF 57 (f57M K) :=
  sF (f57E K) aN Tryz.func57 fun x => f57_run K x.1
theorem f60_ok : SF 60 (f60M K) :=
  sF (f60E K) aN Tryz.func60
theorem f131_ok : SF 131 (f131M K) :=
  sF (f131E K) (aF (f136_ok K) (aF (f137_ok K) aN)) Tryz.func131
theorem f90_ok : SF 90 (f90M K) :=
  sF (f90E K) (aF (f59_ok K) (aF (f131_ok K) aN)) Tryz.func90
omit K
def f91_ren : Go.Shelf.Ren := ⟨fun | 6 => 91 | 14 => 132 | 15 => 133 | 20 => 166 | 21 => 167 | 22 => 168 | 23 => 169 | 24 => 170 | 25 => 171 | 26 => 172 | 27 => 173 | 28 => 174 | 29 => 175 | 46 => 195 | 47 => 196 | 48 => 197 | 49 => 198 | 50 => 199 | 57 => 210 | n => n, fun | 0 => 0 | 3 => 3 | 4 => 4 | 5 => 5 | 9 => 9 | 22 => 59 | 24 => 42 | 25 => 137 | 39 => 154 | 45 => 191 | 46 => 192 | 50 => 196 | 53 => 174 | 55 => 200 | 66 => 216 | 70 => 220 | 76 => 230 | 77 => 231 | n => n, fun n => n⟩
theorem f91_lays : SlLaysF0.n6 Tryz.prog f91_ren where
  mixed := by kernel_rfl
  f6 := ⟨ "slices.SortFunc[[]loop.example/g00943/impl.Vec,loop.example/g00943/impl.Vec]", by decide, Tryz.func91.trans (congrArg some (by kernel_rfl))⟩
  f14 := ⟨ "slices.pdqsortCmpFunc[loop.example/g00943/impl.Vec]", by decide, Tryz.func132.trans (congrArg some (by kernel_rfl))⟩
  f15 := Tryz.func133.trans (congrArg some (by kernel_rfl))
  f20 := ⟨ "slices.insertionSortCmpFunc[loop.example/g00943/impl.Vec]", by decide, Tryz.func166.trans (congrArg some (by kernel_rfl))⟩
  f21 := ⟨ "slices.heapSortCmpFunc[loop.example/g00943/impl.Vec]", by decide, Tryz.func167.trans (congrArg some (by kernel_rfl))⟩
  f22 := ⟨ "slices.breakPatternsCmpFunc[loop.example/g00943/impl.Vec]", by decide, Tryz.func168.trans (congrArg some (by kernel_rfl))⟩
  f23 := ⟨ "slices.choosePivotCmpFunc[loop.example/g00943/impl.Vec]", by decide, Tryz.func169.trans (congrArg some (by kernel_rfl))⟩
  f24 := ⟨ "slices.reverseRangeCmpFunc[loop.example/g00943/impl.Vec]", by decide, Tryz.func170.trans (congrArg some (by kernel_rfl))⟩
  f25 := ⟨ "slices.partialInsertionSortCmpFunc[loop.example/g00943/impl.Vec]", by decide, Tryz.func171.trans (congrArg some (by kernel_rfl))⟩
  f26 := ⟨ "slices.partitionEqualCmpFunc[loop.example/g00943/impl.Vec]", by decide, Tryz.func172.trans (congrArg some (by kernel_rfl))⟩
  f27 := ⟨ "slices.partitionCmpFunc[loop.example/g00943/impl.Vec]", by decide, Tryz.func173.trans (congrArg some (by kernel_rfl))⟩
  f28 := Tryz.func174.trans (congrArg some (by kernel_rfl))
  f29 := Tryz.func175.trans (congrArg some (by kernel_rfl))
  f46 := ⟨ "slices.siftDownCmpFunc[loop.example/g00943/impl.Vec]", by decide, Tryz.func195.trans (congrArg some (by kernel_rfl))⟩
  f47 := Tryz.func196.trans (congrArg some (by kernel_rfl))
  f48 := Tryz.func197.trans (congrArg some (by kernel_rfl))
  f49 := ⟨ "slices.medianAdjacentCmpFunc[loop.example/g00943/impl.Vec]", by decide, Tryz.func198.trans (congrArg some (by kernel_rfl))⟩
  f50 := ⟨ "slices.medianCmpFunc[loop.example/g00943/impl.Vec]", by decide, Tryz.func199.trans (congrArg some (by kernel_rfl))⟩
  f57 := ⟨ "slices.order2CmpFunc[loop.example/g00943/impl.Vec]", by decide, Tryz.func210.trans (congrArg some (by kernel_rfl))⟩
  t0 := Tryz.underlying0
  a0 := Tryz.isAgg0
  z0 := Tryz.sizeOf0
  v0 := Tryz.zeroValue0
  t3 := Tryz.underlying3
  a3 := Tryz.isAgg3
  z3 := Tryz.sizeOf3
  v3 := Tryz.zeroValue3
  t4 := Tryz.underlying4
  a4 := Tryz.isAgg4
  z4 := Tryz.sizeOf4
  v4 := Tryz.zeroValue4
  t5 := Tryz.underlying5
  a5 := Tryz.isAgg5
  z5 := Tryz.sizeOf5
  v5 := Tryz.zeroValue5
  t9 := Tryz.underlying9
  a9 := Tryz.isAgg9
  z9 := Tryz.sizeOf9
  v9 := Tryz.zeroValue9
  t22 := Tryz.underlying59
  a22 := Tryz.isAgg59
  z22 := Tryz.sizeOf59
  v22 := Tryz.zeroValue59
  t25 := Tryz.underlying137
  a25 := Tryz.isAgg137
  z25 := Tryz.sizeOf137
  v25 := Tryz.zeroValue137
  t39 := Tryz.underlying154
  a39 := Tryz.isAgg154
  z39 := Tryz.sizeOf154
  v39 := Tryz.zeroValue154
  t45 := Tryz.underlying191
  a45 := Tryz.isAgg191
  z45 := Tryz.sizeOf191
  v45 := Tryz.zeroValue191
  t46 := Tryz.underlying192
  a46 := Tryz.isAgg192
  z46 := Tryz.sizeOf192
  v46 := Tryz.zeroValue192
  t50 := Tryz.underlying196
  a50 := Tryz.isAgg196
  z50 := Tryz.sizeOf196
  v50 := Tryz.zeroValue196
  t53 := Tryz.underlying174
  a53 := Tryz.isAgg174
  z53 := Tryz.sizeOf174
  v53 := Tryz.zeroValue174
  t55 := Tryz.underlying200
  a55 := Tryz.isAgg200
  z55 := Tryz.sizeOf200
  v55 := Tryz.zeroValue200
  t66 := Tryz.underlying216
  a66 := Tryz.isAgg216
  z66 := Tryz.sizeOf216
  v66 := Tryz.zeroValue216
  t70 := Tryz.underlying220
  a70 := Tryz.isAgg220
  z70 := Tryz.sizeOf220
  v70 := Tryz.zeroValue220
  t76 := Tryz.underlying230
  a76 := Tryz.isAgg230
  z76 := Tryz.sizeOf230
  v76 := Tryz.zeroValue230
  t77 := Tryz.underlying231
  a77 := Tryz.isAgg231
  z77 := Tryz.sizeOf231
  v77 := Tryz.zeroValue231
theorem f91_ok (K : Nat) : Sound Tryz.prog 91 (f91M K) := sort_sound (e := 42) (s := sV) f91_lays rfl rfl rfl Tryz.isAgg42 Tryz.sizeOf42
include K
theorem f93_ok : SF 93 (f93M K) :=
  sF (f93E K) aN Tryz.func93 fun x => f93_run K x.1
theorem f58_ok : Sound Tryz.prog 58 (f58M K) :=
  sound_fn (eO (f58E K) (aF (f90_ok K) (aF (f91_ok K) (aF (f92_ok K) (aF (f93_ok K) aN)))) (v := (AllV.cons (f92_ok K) (rk 92) AllV.nil))) Tryz.func58 fun x => f58_run K x.1 x.2.1 x.2.2.1
theorem f87_ok : SF 87 (f87M K) :=
  sF (f87E K) (aF (f57_ok K) (aF (f58_ok K) (aF (f60_ok K) (aF (f89_ok K) (aF (f130_ok K) aN))))) Tryz.func87 fun x => f87_run K x.1 x.2.1
theorem f88_ok : SF 88 (f88M K) :=
  sF (f88E K) (aF (f59_ok K) (aF (f60_ok K) aN)) Tryz.func88
theorem f55_ok : SF 55 (f55M K) :=
  sF (f55E K) (aF (f87_ok K) (aF (f88_ok K) aN)) Tryz.func55 fun x => f55_run K x.1 x.2.1 x.2.2.1
theorem f56_ok : SF 56 (f56M K) :=
  sF (f56E K) (aF (f60_ok K) (aF (f89_ok K) aN)) Tryz.func56 fun x => f56_run K x.1 x.2.1 x.2.2.1 x.2.2.2.1
theorem f31_ok : SF 31 (f31M K) :=
  sF (f31E K) (aF (f53_ok K) (aF (f54_ok K) (aF (f55_ok K) (aF (f56_ok K) (aF (f57_ok K) (aF (f58_ok K) (aF (f59_ok K) (aF (f60_ok K) aN)))))))) Tryz.func31 fun x => f31_run K x.1 x.2.1 x.2.2.1 x.2.2.2.1 x.2.2.2.2.1
attribute [local instance] cwZ in
theorem f13_ok : SoundC Tryz.prog 13 (f13M K) :=
  sound_fnC (eO (f13E K) (aF (Sound.toZ (f28_ok K)) (aF (Sound.toZ (f29_ok K)) (aF (Sound.toZ (f31_ok K)) (aF (Sound.toZ (f32_ok K)) aN)))) (q := (AllQ.cons (f30_ok K) (rk 30) AllQ.nil))) Tryz.func13 fun x => f13_run K x.1
attribute [local instance] cwZ in
theorem f5_ok : Sound Tryz.prog 5 (f5M K) :=
  sound_fn (eO (f5E K) aN (c := (AllC.cons (f13_ok K) (rk 13) AllC.nil))) Tryz.func5 fun x => by kernel_rfl
theorem f14_ok : SF 14 (f14M K) :=
  sF (f14E K) aN Tryz.func14
theorem f15_ok : SF 15 (f15M K) :=
  sF (f15E K) aN Tryz.func15 fun x => f15_run K x.1 x.2.1
theorem f6_ok : SF 6 (f6M K) :=
  sF (f6E K) (aF (f14_ok K) (aF (f15_ok K) aN)) Tryz.func6
theorem f16_ok : SF 16 (f16M K) :=
  sF (f16E K) aN Tryz.func16 fun x => f16_run K x.1 x.2.1
theorem f7_ok : SF 7 (f7M K) :=
  sF (f7E K) (aF (f16_ok K) aN) Tryz.func7
theorem f17_ok : SF 17 (f17M K) :=
  sF (f17E K) aN Tryz.func17 fun x => f17_run K x.1 x.2.1
theorem f8_ok : SF 8 (f8M K) :=
  sF (f8E K) (aF (f17_ok K) aN) Tryz.func8
attribute [local instance] cwZ in
theorem f3_ok : SF 3 (f3M K) :=
  sF (f3E K) (aF (Sound.toZ (f4_ok K)) (aF (f5_ok K) (aF (Sound.toZ (f6_ok K)) (aF (Sound.toZ (f7_ok K)) (aF (Sound.toZ (f8_ok K)) aN))))) Tryz.func3
end Go.Proofs.YthcpeehhjhbepaaGreatDoor.X
