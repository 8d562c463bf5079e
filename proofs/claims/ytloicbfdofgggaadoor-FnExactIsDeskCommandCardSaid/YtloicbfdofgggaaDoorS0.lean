/- Functions of the program as plain Lean functions, and that the program does what they say. Printed by gen.py. -/
import Derived.Test.YtloicbfdofgggaaDoorR0
namespace Go.Proofs.YtloicbfdofgggaaDoor.X
open Go
set_option maxRecDepth 100000
attribute [local instance] cwD
set_option linter.unusedVariables false
theorem f8_ok (K : Nat) : Sound Tryd.prog 8 (f8M K) :=
  sound_fn (envOK (E := (f8E K)) tab_ok mixed_ok AllOK.nil AllP.nil AllN.nil AllQ.nil AllC.nil AllV.nil AllO.nil) Tryd.func8 fun x => f8_run K x.1 x.2.1
theorem f8_runs : Runs Tryd.prog 8 := runsB_ok (by kernel_rfl)
theorem f26_runs : Runs Tryd.prog 26 := runsB_ok (by kernel_rfl)
theorem f26_okn (K : Nat) : ∀ n, Sound Tryd.prog 26 ⟨[(.ro, (.int .i64))], [.str], fun x => f26R K n x.1⟩
  | 0 => fun _ _ _ _ _ _ _ _ _ h => by cases h
  | n + 1 => sound_fn (envOK (E := f26E K (f26R K n)) tab_ok mixed_ok (AllOK.cons (f26_okn K n) f26_runs AllOK.nil) AllP.nil AllN.nil AllQ.nil AllC.nil AllV.nil AllO.nil) Tryd.func26 fun x => f26_run K (f26R K n) x.1
theorem f26_ok (K : Nat) : Sound Tryd.prog 26 (f26M K) := f26_okn K K
theorem f18_ok (K : Nat) : Sound Tryd.prog 18 (f18M K) :=
  sound_fn (envOK (E := (f18E K)) tab_ok mixed_ok (AllOK.cons (f26_ok K) f26_runs AllOK.nil) AllP.nil AllN.nil AllQ.nil AllC.nil AllV.nil AllO.nil) Tryd.func18 fun x => f18_run K x.1
theorem f18_runs : Runs Tryd.prog 18 := runsB_ok (by kernel_rfl)
theorem f13_ok (K : Nat) : Sound Tryd.prog 13 (f13M K) :=
  sound_fn (envOK (E := (f13E K)) tab_ok mixed_ok (AllOK.cons (f18_ok K) f18_runs AllOK.nil) AllP.nil AllN.nil AllQ.nil AllC.nil AllV.nil AllO.nil) Tryd.func13 fun x => f13_run K x.1
theorem f13_runs : Runs Tryd.prog 13 := runsB_ok (by kernel_rfl)
theorem f9_ok (K : Nat) : Sound Tryd.prog 9 (f9M K) :=
  sound_fn (envOK (E := (f9E K)) tab_ok mixed_ok (AllOK.cons (f13_ok K) f13_runs AllOK.nil) AllP.nil AllN.nil AllQ.nil AllC.nil AllV.nil AllO.nil) Tryd.func9 fun x => f9_run K x.1
theorem f9_runs : Runs Tryd.prog 9 := runsB_ok (by kernel_rfl)
theorem f6_ok (K : Nat) : Sound Tryd.prog 6 (f6M K) :=
  sound_fn (envOK (E := (f6E K)) tab_ok mixed_ok (AllOK.cons (f8_ok K) f8_runs (AllOK.cons (f9_ok K) f9_runs AllOK.nil)) AllP.nil AllN.nil AllQ.nil AllC.nil AllV.nil AllO.nil) Tryd.func6 fun x => f6_run K x.1
theorem f6_runs : Runs Tryd.prog 6 := runsB_ok (by kernel_rfl)
theorem f4_ok (K : Nat) : Sound Tryd.prog 4 (f4M K) :=
  sound_fn (envOK (E := (f4E K)) tab_ok mixed_ok (AllOK.cons (f6_ok K) f6_runs AllOK.nil) AllP.nil AllN.nil AllQ.nil AllC.nil AllV.nil AllO.nil) Tryd.func4 fun x => f4_run K x.1
theorem f4_runs : Runs Tryd.prog 4 := runsB_ok (by kernel_rfl)
def f10_ren : Go.Shelf.Ren := ⟨fun | 145 => 10 | 217 => 27 | 219 => 19 | 220 => 14 | 224 => 29 | 225 => 28 | 266 => 38 | 267 => 30 | 314 => 39 | n => n, fun | 3 => 3 | 4 => 4 | 5 => 5 | 9 => 9 | 46 => 50 | 51 => 58 | 59 => 34 | 146 => 59 | n => n, fun | 1 => 0 | n => n⟩
theorem f10_lays : Lays.n145 Tryd.prog f10_ren where
  mixed := by kernel_rfl
  f145 := Tryd.func10.trans (congrArg some (by kernel_rfl))
  f217 := Tryd.func27.trans (congrArg some (by kernel_rfl))
  f219 := Tryd.func19.trans (congrArg some (by kernel_rfl))
  f220 := Tryd.func14.trans (congrArg some (by kernel_rfl))
  f224 := Tryd.func29.trans (congrArg some (by kernel_rfl))
  f225 := Tryd.func28.trans (congrArg some (by kernel_rfl))
  f266 := Tryd.func38.trans (congrArg some (by kernel_rfl))
  f267 := Tryd.func30.trans (congrArg some (by kernel_rfl))
  f314 := Tryd.func39.trans (congrArg some (by kernel_rfl))
  t3 := Tryd.underlying3
  a3 := Tryd.isAgg3
  z3 := Tryd.sizeOf3
  v3 := Tryd.zeroValue3
  t4 := Tryd.underlying4
  a4 := Tryd.isAgg4
  z4 := Tryd.sizeOf4
  v4 := Tryd.zeroValue4
  t5 := Tryd.underlying5
  a5 := Tryd.isAgg5
  z5 := Tryd.sizeOf5
  v5 := Tryd.zeroValue5
  t9 := Tryd.underlying9
  a9 := Tryd.isAgg9
  z9 := Tryd.sizeOf9
  v9 := Tryd.zeroValue9
  t46 := Tryd.underlying50
  a46 := Tryd.isAgg50
  z46 := Tryd.sizeOf50
  v46 := Tryd.zeroValue50
  t51 := Tryd.underlying58
  a51 := Tryd.isAgg58
  z51 := Tryd.sizeOf58
  v51 := Tryd.zeroValue58
  t59 := Tryd.underlying34
  a59 := Tryd.isAgg34
  z59 := Tryd.sizeOf34
  v59 := Tryd.zeroValue34
  t146 := Tryd.underlying59
  a146 := Tryd.isAgg59
  z146 := Tryd.sizeOf59
  v146 := Tryd.zeroValue59
  g1 := by kernel_rfl
theorem tMax : ∀ w, Tabs w → ∃ m, w.cell? ⟨0, 0, none⟩ = some (.int .i64 m) := fun w h => by
  obtain ⟨_, h⟩ := h
  have h : gp w := h
  unfold gp at h
  exact h.2.1
theorem f10_ok (K : Nat) : Sound Tryd.prog 10 (f10M K) := cut_sound f10_lays rfl tMax
theorem f10_runs : Runs Tryd.prog 10 := runsB_ok (by kernel_rfl)
def f11_ren : Go.Shelf.Ren := ⟨fun | 138 => 21 | 143 => 22 | 146 => 11 | 195 => 31 | 197 => 32 | 217 => 27 | 218 => 33 | 219 => 19 | 221 => 15 | 224 => 29 | 225 => 28 | 260 => 40 | 266 => 38 | 267 => 30 | 268 => 20 | 314 => 39 | n => n, fun | 0 => 0 | 3 => 3 | 4 => 4 | 5 => 5 | 9 => 9 | 21 => 21 | 31 => 30 | 46 => 50 | 51 => 58 | 105 => 52 | 119 => 68 | 138 => 70 | 139 => 71 | 146 => 59 | n => n, fun | 1 => 0 | 3 => 1 | 4 => 2 | n => n⟩
theorem f11_lays : Lays.n146 Tryd.prog f11_ren where
  mixed := by kernel_rfl
  f138 := Tryd.func21.trans (congrArg some (by kernel_rfl))
  f143 := Tryd.func22.trans (congrArg some (by kernel_rfl))
  f146 := Tryd.func11.trans (congrArg some (by kernel_rfl))
  f195 := Tryd.func31.trans (congrArg some (by kernel_rfl))
  f197 := Tryd.func32.trans (congrArg some (by kernel_rfl))
  f217 := Tryd.func27.trans (congrArg some (by kernel_rfl))
  f218 := Tryd.func33.trans (congrArg some (by kernel_rfl))
  f219 := Tryd.func19.trans (congrArg some (by kernel_rfl))
  f221 := Tryd.func15.trans (congrArg some (by kernel_rfl))
  f224 := Tryd.func29.trans (congrArg some (by kernel_rfl))
  f225 := Tryd.func28.trans (congrArg some (by kernel_rfl))
  f260 := Tryd.func40.trans (congrArg some (by kernel_rfl))
  f266 := Tryd.func38.trans (congrArg some (by kernel_rfl))
  f267 := Tryd.func30.trans (congrArg some (by kernel_rfl))
  f268 := Tryd.func20.trans (congrArg some (by kernel_rfl))
  f314 := Tryd.func39.trans (congrArg some (by kernel_rfl))
  t0 := Tryd.underlying0
  a0 := Tryd.isAgg0
  z0 := Tryd.sizeOf0
  v0 := Tryd.zeroValue0
  t3 := Tryd.underlying3
  a3 := Tryd.isAgg3
  z3 := Tryd.sizeOf3
  v3 := Tryd.zeroValue3
  t4 := Tryd.underlying4
  a4 := Tryd.isAgg4
  z4 := Tryd.sizeOf4
  v4 := Tryd.zeroValue4
  t5 := Tryd.underlying5
  a5 := Tryd.isAgg5
  z5 := Tryd.sizeOf5
  v5 := Tryd.zeroValue5
  t9 := Tryd.underlying9
  a9 := Tryd.isAgg9
  z9 := Tryd.sizeOf9
  v9 := Tryd.zeroValue9
  t21 := Tryd.underlying21
  a21 := Tryd.isAgg21
  z21 := Tryd.sizeOf21
  v21 := Tryd.zeroValue21
  t31 := Tryd.underlying30
  a31 := Tryd.isAgg30
  z31 := Tryd.sizeOf30
  v31 := Tryd.zeroValue30
  t46 := Tryd.underlying50
  a46 := Tryd.isAgg50
  z46 := Tryd.sizeOf50
  v46 := Tryd.zeroValue50
  t51 := Tryd.underlying58
  a51 := Tryd.isAgg58
  z51 := Tryd.sizeOf58
  v51 := Tryd.zeroValue58
  t105 := Tryd.underlying52
  a105 := Tryd.isAgg52
  z105 := Tryd.sizeOf52
  v105 := Tryd.zeroValue52
  t119 := Tryd.underlying68
  a119 := Tryd.isAgg68
  z119 := Tryd.sizeOf68
  t138 := Tryd.underlying70
  a138 := Tryd.isAgg70
  z138 := Tryd.sizeOf70
  v138 := Tryd.zeroValue70
  t139 := Tryd.underlying71
  a139 := Tryd.isAgg71
  z139 := Tryd.sizeOf71
  v139 := Tryd.zeroValue71
  t146 := Tryd.underlying59
  a146 := Tryd.isAgg59
  z146 := Tryd.sizeOf59
  v146 := Tryd.zeroValue59
  g1 := by kernel_rfl
  g3 := by kernel_rfl
  g4 := by kernel_rfl

theorem f11_ok (K : Nat) : Sound Tryd.prog 11 (f11M K) := split_sound (e := 9) f11_lays rfl rfl (by kernel_rfl) tMax
theorem f11_runs : Runs Tryd.prog 11 := runsB_ok (by kernel_rfl)
def f36_ren : Go.Shelf.Ren := ⟨fun | 129 => 58 | 173 => 36 | 246 => 46 | 283 => 52 | 284 => 53 | 285 => 54 | 286 => 55 | 317 => 57 | 318 => 59 | 319 => 60 | 320 => 61 | 337 => 62 | 338 => 63 | n => n, fun | 0 => 0 | 2 => 2 | 3 => 3 | 4 => 4 | 5 => 5 | 9 => 9 | 20 => 20 | 37 => 57 | 46 => 50 | 51 => 58 | 53 => 62 | 171 => 78 | 173 => 81 | 212 => 88 | 213 => 89 | 232 => 93 | 233 => 94 | n => n, fun | 17 => 5 | 18 => 6 | 19 => 7 | n => n⟩
theorem f36_lays : LaysM.n173 Tryd.prog f36_ren where
  mixed := by kernel_rfl
  f129 := Tryd.func58.trans (congrArg some (by kernel_rfl))
  f173 := Tryd.func36.trans (congrArg some (by kernel_rfl))
  f246 := Tryd.func46.trans (congrArg some (by kernel_rfl))
  f283 := Tryd.func52.trans (congrArg some (by kernel_rfl))
  f284 := Tryd.func53.trans (congrArg some (by kernel_rfl))
  f285 := Tryd.func54.trans (congrArg some (by kernel_rfl))
  f286 := Tryd.func55.trans (congrArg some (by kernel_rfl))
  f317 := Tryd.func57.trans (congrArg some (by kernel_rfl))
  f318 := Tryd.func59.trans (congrArg some (by kernel_rfl))
  f319 := Tryd.func60.trans (congrArg some (by kernel_rfl))
  f320 := Tryd.func61.trans (congrArg some (by kernel_rfl))
  f337 := Tryd.func62.trans (congrArg some (by kernel_rfl))
  f338 := Tryd.func63.trans (congrArg some (by kernel_rfl))
  t0 := Tryd.underlying0
  a0 := Tryd.isAgg0
  z0 := Tryd.sizeOf0
  v0 := Tryd.zeroValue0
  t2 := Tryd.underlying2
  a2 := Tryd.isAgg2
  z2 := Tryd.sizeOf2
  v2 := Tryd.zeroValue2
  t3 := Tryd.underlying3
  a3 := Tryd.isAgg3
  z3 := Tryd.sizeOf3
  v3 := Tryd.zeroValue3
  t4 := Tryd.underlying4
  a4 := Tryd.isAgg4
  z4 := Tryd.sizeOf4
  v4 := Tryd.zeroValue4
  t5 := Tryd.underlying5
  a5 := Tryd.isAgg5
  z5 := Tryd.sizeOf5
  v5 := Tryd.zeroValue5
  t9 := Tryd.underlying9
  a9 := Tryd.isAgg9
  z9 := Tryd.sizeOf9
  v9 := Tryd.zeroValue9
  t20 := Tryd.underlying20
  a20 := Tryd.isAgg20
  z20 := Tryd.sizeOf20
  v20 := Tryd.zeroValue20
  t37 := Tryd.underlying57
  a37 := Tryd.isAgg57
  z37 := Tryd.sizeOf57
  v37 := Tryd.zeroValue57
  t46 := Tryd.underlying50
  a46 := Tryd.isAgg50
  z46 := Tryd.sizeOf50
  v46 := Tryd.zeroValue50
  t51 := Tryd.underlying58
  a51 := Tryd.isAgg58
  z51 := Tryd.sizeOf58
  v51 := Tryd.zeroValue58
  t53 := Tryd.underlying62
  a53 := Tryd.isAgg62
  z53 := Tryd.sizeOf62
  v53 := Tryd.zeroValue62
  t171 := Tryd.underlying78
  a171 := Tryd.isAgg78
  z171 := Tryd.sizeOf78
  v171 := Tryd.zeroValue78
  t173 := Tryd.underlying81
  a173 := Tryd.isAgg81
  z173 := Tryd.sizeOf81
  v173 := Tryd.zeroValue81
  t212 := Tryd.underlying88
  a212 := Tryd.isAgg88
  z212 := Tryd.sizeOf88
  v212 := Tryd.zeroValue88
  t213 := Tryd.underlying89
  a213 := Tryd.isAgg89
  z213 := Tryd.sizeOf89
  t232 := Tryd.underlying93
  a232 := Tryd.isAgg93
  z232 := Tryd.sizeOf93
  v232 := Tryd.zeroValue93
  t233 := Tryd.underlying94
  a233 := Tryd.isAgg94
  z233 := Tryd.sizeOf94
  v233 := Tryd.zeroValue94
  g17 := by kernel_rfl
  g18 := by kernel_rfl
  g19 := by kernel_rfl
  i0 := by kernel_rfl
  i2 := by kernel_rfl
  i3 := by kernel_rfl
  i4 := by kernel_rfl
  i5 := by kernel_rfl
  i9 := by kernel_rfl
  i20 := by kernel_rfl
  i37 := by kernel_rfl
  i46 := by kernel_rfl
  i51 := by kernel_rfl
  i53 := by kernel_rfl
  i171 := by kernel_rfl
  i173 := by kernel_rfl
  i212 := by kernel_rfl
  i232 := by kernel_rfl
  i233 := by kernel_rfl
  m17 := by kernel_rfl
  m18 := by kernel_rfl
  m19 := by kernel_rfl
theorem tPow : ∀ w, Tabs w → Lib.TabIs Tryd.prog w "internal/strconv.uint64pow10" .u64 Lib.pow10Tab := fun w h => by
  obtain ⟨_, h⟩ := h
  have h : gp w := h
  unfold gp at h
  obtain ⟨t, z, h1⟩ := h.1
  unfold Lib.TabIs World.var?
  rw [show Tryd.prog.globalNamed "internal/strconv.uint64pow10" = some 5 by kernel_rfl, Option.bind_some, h1]
theorem f36_ok (K : Nat) : Sound Tryd.prog 36 (f36M K) := fmt_sound f36_lays rfl tPow
theorem f36_runs : Runs Tryd.prog 36 := runsB_ok (by kernel_rfl)
theorem f24_ok (K : Nat) : Sound Tryd.prog 24 (f24M K) :=
  sound_fn (envOK (E := (f24E K)) tab_ok mixed_ok (AllOK.cons (f36_ok K) f36_runs AllOK.nil) AllP.nil AllN.nil AllQ.nil AllC.nil AllV.nil AllO.nil) Tryd.func24 fun x => f24_run K x.1
theorem f24_runs : Runs Tryd.prog 24 := runsB_ok (by kernel_rfl)
def f16_ren : Go.Shelf.Ren := ⟨fun | 129 => 58 | 171 => 51 | 174 => 23 | 205 => 50 | 243 => 56 | 245 => 35 | 246 => 46 | 247 => 34 | 279 => 42 | 280 => 43 | 281 => 44 | 282 => 45 | 283 => 52 | 284 => 53 | 285 => 54 | 286 => 55 | 287 => 41 | 316 => 49 | 317 => 57 | 318 => 59 | 319 => 60 | 320 => 61 | 321 => 47 | 322 => 48 | 337 => 62 | 338 => 63 | n => n, fun | 0 => 0 | 2 => 2 | 3 => 3 | 4 => 4 | 5 => 5 | 9 => 9 | 20 => 20 | 21 => 21 | 37 => 57 | 46 => 50 | 51 => 58 | 53 => 62 | 75 => 44 | 80 => 95 | 85 => 45 | 127 => 83 | 143 => 84 | 145 => 86 | 167 => 61 | 168 => 65 | 171 => 78 | 173 => 81 | 175 => 63 | 210 => 75 | 212 => 88 | 213 => 89 | 232 => 93 | 233 => 94 | n => n, fun | 15 => 3 | 16 => 4 | 17 => 5 | 18 => 6 | 19 => 7 | n => n⟩
theorem f16_lays : LaysC.n174 Tryd.prog f16_ren where
  mixed := by kernel_rfl
  f129 := Tryd.func58.trans (congrArg some (by kernel_rfl))
  f171 := Tryd.func51.trans (congrArg some (by kernel_rfl))
  f174 := Tryd.func23.trans (congrArg some (by kernel_rfl))
  f205 := Tryd.func50.trans (congrArg some (by kernel_rfl))
  f243 := Tryd.func56.trans (congrArg some (by kernel_rfl))
  f245 := Tryd.func35.trans (congrArg some (by kernel_rfl))
  f246 := Tryd.func46.trans (congrArg some (by kernel_rfl))
  f247 := Tryd.func34.trans (congrArg some (by kernel_rfl))
  f279 := Tryd.func42.trans (congrArg some (by kernel_rfl))
  f280 := Tryd.func43.trans (congrArg some (by kernel_rfl))
  f281 := Tryd.func44.trans (congrArg some (by kernel_rfl))
  f282 := Tryd.func45.trans (congrArg some (by kernel_rfl))
  f283 := Tryd.func52.trans (congrArg some (by kernel_rfl))
  f284 := Tryd.func53.trans (congrArg some (by kernel_rfl))
  f285 := Tryd.func54.trans (congrArg some (by kernel_rfl))
  f286 := Tryd.func55.trans (congrArg some (by kernel_rfl))
  f287 := Tryd.func41.trans (congrArg some (by kernel_rfl))
  f316 := Tryd.func49.trans (congrArg some (by kernel_rfl))
  f317 := Tryd.func57.trans (congrArg some (by kernel_rfl))
  f318 := Tryd.func59.trans (congrArg some (by kernel_rfl))
  f319 := Tryd.func60.trans (congrArg some (by kernel_rfl))
  f320 := Tryd.func61.trans (congrArg some (by kernel_rfl))
  f321 := Tryd.func47.trans (congrArg some (by kernel_rfl))
  f322 := Tryd.func48.trans (congrArg some (by kernel_rfl))
  f337 := Tryd.func62.trans (congrArg some (by kernel_rfl))
  f338 := Tryd.func63.trans (congrArg some (by kernel_rfl))
  t0 := Tryd.underlying0
  a0 := Tryd.isAgg0
  z0 := Tryd.sizeOf0
  v0 := Tryd.zeroValue0
  t2 := Tryd.underlying2
  a2 := Tryd.isAgg2
  z2 := Tryd.sizeOf2
  v2 := Tryd.zeroValue2
  t3 := Tryd.underlying3
  a3 := Tryd.isAgg3
  z3 := Tryd.sizeOf3
  v3 := Tryd.zeroValue3
  t4 := Tryd.underlying4
  a4 := Tryd.isAgg4
  z4 := Tryd.sizeOf4
  v4 := Tryd.zeroValue4
  t5 := Tryd.underlying5
  a5 := Tryd.isAgg5
  z5 := Tryd.sizeOf5
  v5 := Tryd.zeroValue5
  t9 := Tryd.underlying9
  a9 := Tryd.isAgg9
  z9 := Tryd.sizeOf9
  v9 := Tryd.zeroValue9
  t20 := Tryd.underlying20
  a20 := Tryd.isAgg20
  z20 := Tryd.sizeOf20
  v20 := Tryd.zeroValue20
  t21 := Tryd.underlying21
  a21 := Tryd.isAgg21
  z21 := Tryd.sizeOf21
  v21 := Tryd.zeroValue21
  t37 := Tryd.underlying57
  a37 := Tryd.isAgg57
  z37 := Tryd.sizeOf57
  v37 := Tryd.zeroValue57
  t46 := Tryd.underlying50
  a46 := Tryd.isAgg50
  z46 := Tryd.sizeOf50
  v46 := Tryd.zeroValue50
  t51 := Tryd.underlying58
  a51 := Tryd.isAgg58
  z51 := Tryd.sizeOf58
  v51 := Tryd.zeroValue58
  t53 := Tryd.underlying62
  a53 := Tryd.isAgg62
  z53 := Tryd.sizeOf62
  v53 := Tryd.zeroValue62
  t75 := Tryd.underlying44
  a75 := Tryd.isAgg44
  z75 := Tryd.sizeOf44
  v75 := Tryd.zeroValue44
  t85 := Tryd.underlying45
  a85 := Tryd.isAgg45
  z85 := Tryd.sizeOf45
  v85 := Tryd.zeroValue45
  t127 := Tryd.underlying83
  a127 := Tryd.isAgg83
  z127 := Tryd.sizeOf83
  v127 := Tryd.zeroValue83
  t143 := Tryd.underlying84
  a143 := Tryd.isAgg84
  z143 := Tryd.sizeOf84
  v143 := Tryd.zeroValue84
  t145 := Tryd.underlying86
  a145 := Tryd.isAgg86
  z145 := Tryd.sizeOf86
  v145 := Tryd.zeroValue86
  t167 := Tryd.underlying61
  a167 := Tryd.isAgg61
  z167 := Tryd.sizeOf61
  v167 := Tryd.zeroValue61
  t168 := Tryd.underlying65
  a168 := Tryd.isAgg65
  z168 := Tryd.sizeOf65
  v168 := Tryd.zeroValue65
  t171 := Tryd.underlying78
  a171 := Tryd.isAgg78
  z171 := Tryd.sizeOf78
  v171 := Tryd.zeroValue78
  t173 := Tryd.underlying81
  a173 := Tryd.isAgg81
  z173 := Tryd.sizeOf81
  v173 := Tryd.zeroValue81
  t175 := Tryd.underlying63
  a175 := Tryd.isAgg63
  z175 := Tryd.sizeOf63
  v175 := Tryd.zeroValue63
  t210 := Tryd.underlying75
  a210 := Tryd.isAgg75
  z210 := Tryd.sizeOf75
  v210 := Tryd.zeroValue75
  t212 := Tryd.underlying88
  a212 := Tryd.isAgg88
  z212 := Tryd.sizeOf88
  v212 := Tryd.zeroValue88
  t213 := Tryd.underlying89
  a213 := Tryd.isAgg89
  z213 := Tryd.sizeOf89
  t232 := Tryd.underlying93
  a232 := Tryd.isAgg93
  z232 := Tryd.sizeOf93
  v232 := Tryd.zeroValue93
  t233 := Tryd.underlying94
  a233 := Tryd.isAgg94
  z233 := Tryd.sizeOf94
  v233 := Tryd.zeroValue94
  g15 := by kernel_rfl
  g16 := by kernel_rfl
  g17 := by kernel_rfl
  g18 := by kernel_rfl
  g19 := by kernel_rfl
  t80 := Tryd.underlying95
  a80 := Tryd.isAgg95
  z80 := Tryd.sizeOf95
  v80 := Tryd.zeroValue95
  i0 := by kernel_rfl
  i2 := by kernel_rfl
  i3 := by kernel_rfl
  i4 := by kernel_rfl
  i5 := by kernel_rfl
  i9 := by kernel_rfl
  i20 := by kernel_rfl
  i21 := by kernel_rfl
  i37 := by kernel_rfl
  i46 := by kernel_rfl
  i51 := by kernel_rfl
  i53 := by kernel_rfl
  i75 := by kernel_rfl
  i80 := by kernel_rfl
  i85 := by kernel_rfl
  i127 := by kernel_rfl
  i143 := by kernel_rfl
  i145 := by kernel_rfl
  i167 := by kernel_rfl
  i168 := by kernel_rfl
  i171 := by kernel_rfl
  i173 := by kernel_rfl
  i175 := by kernel_rfl
  i210 := by kernel_rfl
  i212 := by kernel_rfl
  i232 := by kernel_rfl
  i233 := by kernel_rfl
  m15 := by kernel_rfl
  m16 := by kernel_rfl
  m17 := by kernel_rfl
  m18 := by kernel_rfl
  m19 := by kernel_rfl
  c0 := by kernel_rfl
  c2 := by kernel_rfl
  c3 := by kernel_rfl
  c4 := by kernel_rfl
  c5 := by kernel_rfl
  c9 := by kernel_rfl
  c20 := by kernel_rfl
  c21 := by kernel_rfl
  c37 := by kernel_rfl
  c46 := by kernel_rfl
  c51 := by kernel_rfl
  c53 := by kernel_rfl
  c75 := by kernel_rfl
  c80 := by kernel_rfl
  c85 := by kernel_rfl
  c127 := by kernel_rfl
  c143 := by kernel_rfl
  c145 := by kernel_rfl
  c167 := by kernel_rfl
  c168 := by kernel_rfl
  c171 := by kernel_rfl
  c173 := by kernel_rfl
  c175 := by kernel_rfl
  c210 := by kernel_rfl
  c212 := by kernel_rfl
  c213 := by kernel_rfl
  c232 := by kernel_rfl
  c233 := by kernel_rfl
theorem tSyn : ∀ w, Tabs w → ∃ te pe, w.cell? ⟨3, 0, none⟩ = some (.iface te pe) := fun w h => by
  obtain ⟨_, h⟩ := h
  have h : gp w := h
  unfold gp at h
  exact h.2.2.1
theorem tRng : ∀ w, Tabs w → ∃ te pe, w.cell? ⟨4, 0, none⟩ = some (.iface te pe) := fun w h => by
  obtain ⟨_, h⟩ := h
  have h : gp w := h
  unfold gp at h
  exact h.2.2.2
open Go.RowKit Go.Shelf in
theorem f16_ok (K : Nat) : @Sound cwZ Tryd.prog 16 (f16M K) := by
  intro w x us Fs hW hgf hA hap
  refine fun (y : Int × Bool) hy => ?_
  obtain ⟨s, x0⟩ := x
  obtain ⟨rfl, G, rfl⟩ := str1 hA
  change numF s = some y at hy
  unfold numF at hy
  cases hsz : Nat.ble s.size 140737488355328
  · rw [hsz] at hy; cases hy
  rw [hsz, cond_true] at hy
  have hsz := Nat.le_of_ble_eq_true hsz
  have e23 : ∀ args w, (callFunc 23 args).run Tryd.prog w = .ok (.enter 23 args) w := enters_of Tryd.func23 (by kernel_rfl) rfl
  have e24 : ∀ args w, (callFunc 24 args).run Tryd.prog w = .ok (.enter 24 args) w := enters_of Tryd.func24 (by kernel_rfl) rfl
  have hfin : ∀ (n : Int) (b : Bool), (n, b) = y → (Calls Tryd.prog 16 #[.string s] w fun e w' => e = .returned (.tuple #[.int .i64 n, .bool b]) ∧ Below w.heap.size w w') → Calls Tryd.prog 16 [Value.string s].toArray w fun e w' => ∃ u, e = .returned u ∧ @Post cwZ w (f16M K) [.string s] [G] y u w' := by
    intro n b hy h
    subst hy
    exact h.mono fun e w' ⟨he, hB⟩ => ⟨_, he, num_post hB⟩
  cases hp : Lib.parseIntB 64 s.data.toList
  · rename_i v
    rw [hp] at hy
    have hb := Lib.parseIntB_bounds hp
    refine hfin v (itoaB v == s) (by simpa using hy) ?_
    have hP := Any.strconv_ParseInt_10_at64_ok f16_lays s (by omega) v hp w
    have hin : inI64 v = true := by
      simp only [inI64, Bool.and_eq_true, decide_eq_true_eq]
      omega
    go_enter Tryd.func16, Tryd.ntmps16
    go_wp2_with (go_at_fn 23; refine hP.mono ?_)
    rintro e W1 rfl hW1
    have hB1 : Below w.heap.size w W1 := by
      rcases hW1 with rfl | ⟨t, rfl⟩
      · exact Below.refl _ _
      · exact Lib.bytesWorld_below _ _ _
    go_wp2_with (go_at_fn 24; refine (text_calls (f24_ok K) (hW.below hB1) (y := itoaB v) ?_).mono ?_)
    · show (Option.bind (fmtF v 10) fun y => some y) = some (itoaB v)
      unfold fmtF
      rw [hin]
      rfl
    · rintro e W2 ⟨rfl, hB2⟩
      go_wp2
      go_ret2
      refine ⟨?_, hB1.trans (hB2.mono hB1.size)⟩
      rw [beq_toListBytes]
      rfl
  · rw [hp] at hy
    obtain ⟨te, pe, hc⟩ := tSyn w hW
    have hP := Any.strconv_ParseInt_10_at64_syntax f16_lays s (by omega) hp (.iface te pe) w hc (.inr ⟨te, pe, rfl⟩)
    refine hfin _ false (by simpa using hy) ?_
    go_enter Tryd.func16, Tryd.ntmps16
    go_wp2_with (go_at_fn 23; refine hP.mono ?_)
    rintro e W1 N rfl hN _ hB1
    go_wp2
    go_ret2
    exact ⟨rfl, hB1⟩
  · rw [hp] at hy
    obtain ⟨te, pe, hc⟩ := tRng w hW
    have hP := Any.strconv_ParseInt_10_at64_range f16_lays s (by omega) hp (.iface te pe) w hc (.inr ⟨te, pe, rfl⟩)
    refine hfin _ false (by simpa using hy) ?_
    go_enter Tryd.func16, Tryd.ntmps16
    go_wp2_with (go_at_fn 23; refine hP.mono ?_)
    rintro e W1 N rfl hN _ hB1
    go_wp2
    go_ret2
    exact ⟨rfl, hB1⟩

theorem f16_runs : Runs Tryd.prog 16 := runsB_ok (by kernel_rfl)
theorem f37_ok (K : Nat) : Sound Tryd.prog 37 (f37M K) :=
  sound_fn (envOK (E := (f37E K)) tab_ok mixed_ok AllOK.nil AllP.nil AllN.nil AllQ.nil AllC.nil AllV.nil AllO.nil) Tryd.func37 fun x => f37_run K x.1 x.2.1
theorem f37_runs : Runs Tryd.prog 37 := runsB_ok (by kernel_rfl)
theorem f25_ok (K : Nat) : Sound Tryd.prog 25 (f25M K) :=
  sound_fn (envOK (E := (f25E K)) tab_ok mixed_ok (AllOK.cons (f37_ok K) f37_runs AllOK.nil) AllP.nil AllN.nil AllQ.nil AllC.nil AllV.nil AllO.nil) Tryd.func25 fun x => f25_run K x.1 x.2.1
theorem f25_runs : Runs Tryd.prog 25 := runsB_ok (by kernel_rfl)
theorem f17_ok (K : Nat) : Sound Tryd.prog 17 (f17M K) :=
  sound_fn (envOK (E := (f17E K)) tab_ok mixed_ok (AllOK.cons (f25_ok K) f25_runs AllOK.nil) AllP.nil AllN.nil AllQ.nil AllC.nil AllV.nil AllO.nil) Tryd.func17 fun x => f17_run K x.1 x.2.1
theorem f17_runs : Runs Tryd.prog 17 := runsB_ok (by kernel_rfl)
attribute [local instance] cwZ in
theorem f12_ok (K : Nat) : Sound Tryd.prog 12 (f12M K) :=
  sound_fn (envOK (E := (f12E K)) tab_ok mixed_ok (AllOK.cons (f16_ok K) f16_runs (AllOK.cons (Sound.toZ (f17_ok K)) f17_runs AllOK.nil)) AllP.nil AllN.nil AllQ.nil AllC.nil AllV.nil AllO.nil) Tryd.func12 fun x => f12_run K x.1
theorem f12_runs : Runs Tryd.prog 12 := runsB_ok (by kernel_rfl)
attribute [local instance] cwZ in
theorem f7_ok (K : Nat) : Sound Tryd.prog 7 (f7M K) :=
  sound_fn (envOK (E := (f7E K)) tab_ok mixed_ok (AllOK.cons (Sound.toZ (f10_ok K)) f10_runs (AllOK.cons (Sound.toZ (f11_ok K)) f11_runs (AllOK.cons (f12_ok K) f12_runs AllOK.nil))) AllP.nil AllN.nil AllQ.nil AllC.nil AllV.nil AllO.nil) Tryd.func7 fun x => f7_run K x.1
theorem f7_runs : Runs Tryd.prog 7 := runsB_ok (by kernel_rfl)
attribute [local instance] cwZ in
theorem f5_ok (K : Nat) : Sound Tryd.prog 5 (f5M K) :=
  sound_fn (envOK (E := (f5E K)) tab_ok mixed_ok (AllOK.cons (f7_ok K) f7_runs AllOK.nil) AllP.nil AllN.nil AllQ.nil AllC.nil AllV.nil AllO.nil) Tryd.func5 fun x => f5_run K x.1
theorem f5_runs : Runs Tryd.prog 5 := runsB_ok (by kernel_rfl)
attribute [local instance] cwZ in
theorem f3_ok (K : Nat) : Sound Tryd.prog 3 (f3M K) :=
  sound_fn (envOK (E := (f3E K)) tab_ok mixed_ok (AllOK.cons (Sound.toZ (f4_ok K)) f4_runs (AllOK.cons (f5_ok K) f5_runs AllOK.nil)) AllP.nil AllN.nil AllQ.nil AllC.nil AllV.nil AllO.nil) Tryd.func3 fun x => f3_run K x.1
theorem f3_runs : Runs Tryd.prog 3 := runsB_ok (by kernel_rfl)
end Go.Proofs.YtloicbfdofgggaaDoor.X
