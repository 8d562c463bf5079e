/- The law FnExactSameStrokes holds of the program for every input. There is no condition. -/
import Derived.Test.YtfccacobkcglcaaGreatQaS0
import Derived.Test.YtfccacobkcglcaaGreatRows
import Derived.Test.YtfccacobkcglcaaGreatXRow
import Derived.Test.YtfccacobkcglcaaGreatQaPSameStrokes
namespace Go.Proofs.YtfccacobkcglcaaGreat.fnExactSameStrokes
open Go Go.ChangeShapes Go.WideShapes Go.ChangeAt Go.RowKit
theorem own : ownKnob Tryz.prog.godebug = none := by kernel_rfl
theorem laidOut : laidOutB Tryz.prog = true := by kernel_rfl
abbrev shs : List X.Sh := [.str, (.int .i64), (.list 152 (.cons (.cons (.int .i64) (.int .i64)) (.int .i64))), (.list 152 (.cons (.cons (.int .i64) (.int .i64)) (.int .i64)))]
set_option maxRecDepth 100000 in
theorem lifted (os : Os) (started : os.Started) (H : Type) (enc : TypeId × Value → H) :
    ReturnsInHanded {} Tryz.checked os 3 .any (Rows.fnExactSameStrokesSpec.pre6 enc Tryz.prog Tryz.f3 Rows.fnExactSameStrokesRow.domain false) (Rows.fnExactSameStrokesSpec.post enc Tryz.prog Tryz.f3 false true false false) := by
  refine returnsInHanded_of_change_sized (C := Tryz.checked) own started (by kernel_rfl) Tryz.func3
    (ChangeSpec.witness6 (enc := enc) (C := Tryz.checked) false ⟨#[], #[.string ByteArray.empty, .int .i64 0, .slice none 0 0, .slice none 0 0], []⟩ 8 (by kernel_rfl) (by kernel_rfl) (by kernel_rfl) (by kernel_rfl)) ?_
  intro W base args ds gs before hval0 hW hcnd hsz0 _
  have hval : ∀ (j : Nat) t v, Tryz.f3.params[j]? = some t → args[j]? = some v → Value.okWide Tryz.prog W .any base t v := hval0
  have hW' := hW
  obtain ⟨p, q, hA0, hV, rfl, hfz, hnd⟩ := hW
  have hA : DataW.TrodAll enc Tryz.prog W 0 (fun _ => true) true Tryz.f3.params.toList args.toList ds p := hA0
  rw [Tryz.params3] at hA hval
  obtain ⟨rfl, rfl⟩ := trodVars_none hV
  obtain ⟨x, hX, hwf⟩ := X.args_of [9, 2, 22, 22] shs args.toList ds p (by kernel_rfl) (fun j t v ht hv => hval j t v (by simpa using ht) (by simpa using hv)) hA
  have hlt := X.lt_all _ _ _ _ hA
  have hback := fun {W'} (bel : Below W.heap.size W W') => X.back_all laidOut bel [9, 2, 22, 22] args.toList ds p (by kernel_rfl) hlt hA
  obtain ⟨K, hK⟩ := X.FnExactSameStrokes_pure x.1 x.2.1 x.2.2.1 x.2.2.2.1 hwf
  have hcall := X.law_calls (P := Tryz.prog) (f := 3) (ss := shs) (F := fun x => X.f3G K x.1 x.2.1 x.2.2.1 x.2.2.2.1) (X.f3_ok K) rfl hX hK
  rw [Array.toArray_toList] at hcall
  obtain ⟨v0, vs0, d0, ds0, p0, q0, hargs, rfl, rfl, h0, r0⟩ := trodAll_cons hA
  obtain ⟨v1, vs1, d1, ds1, p1, q1, rfl, rfl, rfl, h1, r1⟩ := trodAll_cons r0
  obtain ⟨v2, vs2, d2, ds2, p2, q2, rfl, rfl, rfl, h2, r2⟩ := trodAll_cons r1
  obtain ⟨v3, vs3, d3, ds3, p3, q3, rfl, rfl, rfl, h3, r3⟩ := trodAll_cons r2
  obtain ⟨rfl, rfl, rfl⟩ := trodAll_nil r3
  refine hcall.mono fun e W' ⟨he, bel⟩ => ?_
  subst he
  exact ⟨_, rfl, _, _, _, [], _, [], hW', trodAll_mk1 (shut_bool Tryz.underlying4 _), hback bel, rfl, bel.frame _, fun h => by cases h⟩
theorem j1 : (Rows.fnExactSameStrokesRow.inPlace == Tryz.prog.inPlace 3) = true := by kernel_rfl
theorem j2 : (Rows.fnExactSameStrokesRow.unfollowed == Tryz.prog.unfollowed 3) = true := by kernel_rfl
theorem j3 : (Rows.fnExactSameStrokesRow.recurses == Tryz.prog.recurses 3) = true := by kernel_rfl
theorem j4 : (Rows.fnExactSameStrokesRow.named == Tryz.prog.varsNamed 3) = true := by kernel_rfl
theorem j5 : mapsRowed Tryz.prog = true := by kernel_rfl
theorem j6 : Tryz.prog.funcNamed Rows.fnExactSameStrokesRow.func = some 3 := by kernel_rfl
theorem closed : joinedFacts Tryz.prog 3 Tryz.f3 Rows.fnExactSameStrokesSpec Rows.fnExactSameStrokesRow = true := by
  unfold joinedFacts
  rw [laidOut, j1, j2, j3, j4, j5]
  kernel_rfl
theorem over : Rows.fnExactSameStrokesRow.holds Tryz.pinned (OpenSpec.ofChange Rows.fnExactSameStrokesSpec) :=
  OpenClaim.holds_of_wide 3 Tryz.f3 rfl rfl rfl rfl rfl rfl rfl ⟨rfl, rfl, rfl, rfl, rfl⟩ rfl rfl rfl rfl rfl j6 Tryz.func3 closed
    (of_decide_eq_true (by kernel_rfl)) (by unfold Func.isWrapper; first | (rw [if_pos (by decide +kernel)]; kernel_rfl) | (rw [if_neg (by decide +kernel)]; exact ⟨rfl, rfl⟩))
    (fun os started H enc _ => lifted os started H enc)
end Go.Proofs.YtfccacobkcglcaaGreat.fnExactSameStrokes
namespace Go.Proofs.YtfccacobkcglcaaGreat
theorem fnExactSameStrokes_holds : Rows.FnExactSameStrokesSaid := fnExactSameStrokes.over
#print axioms fnExactSameStrokes_holds
end Go.Proofs.YtfccacobkcglcaaGreat

