/- The law FnExactNeededStrokes holds of the program for every input. There is no condition. -/
import Derived.Test.YtfccacobkcglcaaGreatQcS0
import Derived.Test.YtfccacobkcglcaaGreatRows
import Derived.Test.YtfccacobkcglcaaGreatXRow
import Derived.Test.YtfccacobkcglcaaGreatQcPNeededStrokes
namespace Go.Proofs.YtfccacobkcglcaaGreat.fnExactNeededStrokes
open Go Go.ChangeShapes Go.WideShapes Go.ChangeAt Go.RowKit
theorem own : ownKnob Tryz.prog.godebug = none := by kernel_rfl
theorem laidOut : laidOutB Tryz.prog = true := by kernel_rfl
abbrev shs : List X.Sh := [.str, (.int .i64), (.list 152 (.cons (.cons (.int .i64) (.int .i64)) (.int .i64)))]
set_option maxRecDepth 100000 in
theorem lifted (os : Os) (started : os.Started) (H : Type) (enc : TypeId × Value → H) :
    ReturnsInHanded {} Tryz.checked os 5 .any (Rows.fnExactNeededStrokesSpec.pre6 enc Tryz.prog Tryz.f5 Rows.fnExactNeededStrokesRow.domain false) (Rows.fnExactNeededStrokesSpec.post enc Tryz.prog Tryz.f5 false true false false) := by
  refine returnsInHanded_of_change_sized (C := Tryz.checked) own started (by kernel_rfl) Tryz.func5
    (ChangeSpec.witness6 (enc := enc) (C := Tryz.checked) false ⟨#[], #[.string ByteArray.empty, .int .i64 0, .slice none 0 0], []⟩ 8 (by kernel_rfl) (by kernel_rfl) (by kernel_rfl) (by kernel_rfl)) ?_
  intro W base args ds gs before hval0 hW hcnd hsz0 _
  have hval : ∀ (j : Nat) t v, Tryz.f5.params[j]? = some t → args[j]? = some v → Value.okWide Tryz.prog W .any base t v := hval0
  have hW' := hW
  obtain ⟨p, q, hA0, hV, rfl, hfz, hnd⟩ := hW
  have hA : DataW.TrodAll enc Tryz.prog W 0 (fun _ => true) true Tryz.f5.params.toList args.toList ds p := hA0
  rw [Tryz.params5] at hA hval
  obtain ⟨rfl, rfl⟩ := trodVars_none hV
  obtain ⟨x, hX, hwf⟩ := X.args_of [9, 2, 22] shs args.toList ds p (by kernel_rfl) (fun j t v ht hv => hval j t v (by simpa using ht) (by simpa using hv)) hA
  have hlt := X.lt_all _ _ _ _ hA
  have hback := fun {W'} (bel : Below W.heap.size W W') => X.back_all laidOut bel [9, 2, 22] args.toList ds p (by kernel_rfl) hlt hA
  obtain ⟨K, hK⟩ := X.FnExactNeededStrokes_pure x.1 x.2.1 x.2.2.1 hwf
  have hcall := X.law_calls (P := Tryz.prog) (f := 5) (ss := shs) (F := fun x => X.f5G K x.1 x.2.1 x.2.2.1) (X.f5_ok K) rfl hX hK
  rw [Array.toArray_toList] at hcall
  obtain ⟨v0, vs0, d0, ds0, p0, q0, hargs, rfl, rfl, h0, r0⟩ := trodAll_cons hA
  obtain ⟨v1, vs1, d1, ds1, p1, q1, rfl, rfl, rfl, h1, r1⟩ := trodAll_cons r0
  obtain ⟨v2, vs2, d2, ds2, p2, q2, rfl, rfl, rfl, h2, r2⟩ := trodAll_cons r1
  obtain ⟨rfl, rfl, rfl⟩ := trodAll_nil r2
  refine hcall.mono fun e W' ⟨he, bel⟩ => ?_
  subst he
  exact ⟨_, rfl, _, _, _, [], _, [], hW', trodAll_mk1 (shut_bool Tryz.underlying4 _), hback bel, rfl, bel.frame _, fun h => by cases h⟩
theorem j1 : (Rows.fnExactNeededStrokesRow.inPlace == Tryz.prog.inPlace 5) = true := by kernel_rfl
theorem j2 : (Rows.fnExactNeededStrokesRow.unfollowed == Tryz.prog.unfollowed 5) = true := by kernel_rfl
theorem j3 : (Rows.fnExactNeededStrokesRow.recurses == Tryz.prog.recurses 5) = true := by kernel_rfl
theorem j4 : (Rows.fnExactNeededStrokesRow.named == Tryz.prog.varsNamed 5) = true := by kernel_rfl
theorem j5 : mapsRowed Tryz.prog = true := by kernel_rfl
theorem j6 : Tryz.prog.funcNamed Rows.fnExactNeededStrokesRow.func = some 5 := by kernel_rfl
theorem closed : joinedFacts Tryz.prog 5 Tryz.f5 Rows.fnExactNeededStrokesSpec Rows.fnExactNeededStrokesRow = true := by
  unfold joinedFacts
  rw [laidOut, j1, j2, j3, j4, j5]
  kernel_rfl
theorem over : Rows.fnExactNeededStrokesRow.holds Tryz.pinned (OpenSpec.ofChange Rows.fnExactNeededStrokesSpec) :=
  OpenClaim.holds_of_wide 5 Tryz.f5 rfl rfl rfl rfl rfl rfl rfl ⟨rfl, rfl, rfl, rfl, rfl⟩ rfl rfl rfl rfl rfl j6 Tryz.func5 closed
    (of_decide_eq_true (by kernel_rfl)) (by unfold Func.isWrapper; first | (rw [if_pos (by decide +kernel)]; kernel_rfl) | (rw [if_neg (by decide +kernel)]; exact ⟨rfl, rfl⟩))
    (fun os started H enc _ => lifted os started H enc)
end Go.Proofs.YtfccacobkcglcaaGreat.fnExactNeededStrokes
namespace Go.Proofs.YtfccacobkcglcaaGreat
theorem fnExactNeededStrokes_holds : Rows.FnExactNeededStrokesSaid := fnExactNeededStrokes.over
#print axioms fnExactNeededStrokes_holds
end Go.Proofs.YtfccacobkcglcaaGreat

