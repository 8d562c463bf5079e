/- The law FnExactFittingLattices holds of the program for every input. There is no condition. -/
import Derived.Test.YtmnciknpeefkfaaS0
import Derived.Test.YtmnciknpeefkfaaRows
import Derived.Test.YtmnciknpeefkfaaXRow
import Derived.Test.YtmnciknpeefkfaaPFittingLattices
namespace Go.Proofs.Ytmnciknpeefkfaa.fnExactFittingLattices
open Go Go.ChangeShapes Go.WideShapes Go.ChangeAt Go.RowKit
theorem own : ownKnob Try.prog.godebug = none := by kernel_rfl
theorem laidOut : laidOutB Try.prog = true := by kernel_rfl
abbrev shs : List X.Sh := [(.list 49 (.cons (.cons (.int .i64) (.int .i64)) (.int .i64))), (.int .i64)]
set_option maxRecDepth 100000 in
theorem lifted (os : Os) (started : os.Started) (H : Type) (enc : TypeId × Value → H) :
    ReturnsInHanded {} Try.checked os 4 .any (Rows.fnExactFittingLatticesSpec.pre6 enc Try.prog Try.f4 Rows.fnExactFittingLatticesRow.domain false) (Rows.fnExactFittingLatticesSpec.post enc Try.prog Try.f4 false true false false) := by
  refine returnsInHanded_of_change_sized (C := Try.checked) own started (by kernel_rfl) Try.func4
    (ChangeSpec.witness6 (enc := enc) (C := Try.checked) false ⟨#[], #[.slice none 0 0, .int .i64 0], []⟩ 8 (by kernel_rfl) (by kernel_rfl) (by kernel_rfl) (by kernel_rfl)) ?_
  intro W base args ds gs before hval0 hW hcnd hsz0 _
  have hval : ∀ (j : Nat) t v, Try.f4.params[j]? = some t → args[j]? = some v → Value.okWide Try.prog W .any base t v := hval0
  have hW' := hW
  obtain ⟨p, q, hA0, hV, rfl, hfz, hnd⟩ := hW
  have hA : DataW.TrodAll enc Try.prog W 0 (fun _ => true) true Try.f4.params.toList args.toList ds p := hA0
  rw [Try.params4] at hA hval
  obtain ⟨rfl, rfl⟩ := trodVars_none hV
  obtain ⟨x, hX, hwf⟩ := X.args_of [22, 2] shs args.toList ds p (by kernel_rfl) (fun j t v ht hv => hval j t v (by simpa using ht) (by simpa using hv)) hA
  have hlt := X.lt_all _ _ _ _ hA
  have hback := fun {W'} (bel : Below W.heap.size W W') => X.back_all laidOut bel [22, 2] args.toList ds p (by kernel_rfl) hlt hA
  obtain ⟨K, hK⟩ := X.FnExactFittingLattices_pure x.1 x.2.1 hwf
  have hcall := X.law_calls (P := Try.prog) (f := 4) (ss := shs) (F := fun x => X.f4G K x.1 x.2.1) (X.f4_ok K) rfl hX hK
  rw [Array.toArray_toList] at hcall
  obtain ⟨v0, vs0, d0, ds0, p0, q0, hargs, rfl, rfl, h0, r0⟩ := trodAll_cons hA
  obtain ⟨v1, vs1, d1, ds1, p1, q1, rfl, rfl, rfl, h1, r1⟩ := trodAll_cons r0
  obtain ⟨rfl, rfl, rfl⟩ := trodAll_nil r1
  refine hcall.mono fun e W' ⟨he, bel⟩ => ?_
  subst he
  exact ⟨_, rfl, _, _, _, [], _, [], hW', trodAll_mk1 (shut_bool Try.underlying4 _), hback bel, rfl, bel.frame _, fun h => by cases h⟩
theorem j1 : (Rows.fnExactFittingLatticesRow.inPlace == Try.prog.inPlace 4) = true := by kernel_rfl
theorem j2 : (Rows.fnExactFittingLatticesRow.unfollowed == Try.prog.unfollowed 4) = true := by kernel_rfl
theorem j3 : (Rows.fnExactFittingLatticesRow.recurses == Try.prog.recurses 4) = true := by kernel_rfl
theorem j4 : (Rows.fnExactFittingLatticesRow.named == Try.prog.varsNamed 4) = true := by kernel_rfl
theorem j5 : mapsRowed Try.prog = true := by kernel_rfl
theorem j6 : Try.prog.funcNamed Rows.fnExactFittingLatticesRow.func = some 4 := by kernel_rfl
theorem closed : joinedFacts Try.prog 4 Try.f4 Rows.fnExactFittingLatticesSpec Rows.fnExactFittingLatticesRow = true := by
  unfold joinedFacts
  rw [laidOut, j1, j2, j3, j4, j5]
  kernel_rfl
theorem over : Rows.fnExactFittingLatticesRow.holds Try.pinned (OpenSpec.ofChange Rows.fnExactFittingLatticesSpec) :=
  OpenClaim.holds_of_wide 4 Try.f4 rfl rfl rfl rfl rfl rfl rfl ⟨rfl, rfl, rfl, rfl, rfl⟩ rfl rfl rfl rfl rfl j6 Try.func4 closed
    (of_decide_eq_true (by kernel_rfl)) (by unfold Func.isWrapper; first | (rw [if_pos (by decide +kernel)]; kernel_rfl) | (rw [if_neg (by decide +kernel)]; exact ⟨rfl, rfl⟩))
    (fun os started H enc _ => lifted os started H enc)
end Go.Proofs.Ytmnciknpeefkfaa.fnExactFittingLattices
namespace Go.Proofs.Ytmnciknpeefkfaa
theorem fnExactFittingLattices_holds : Rows.FnExactFittingLatticesSaid := fnExactFittingLattices.over
#print axioms fnExactFittingLattices_holds
end Go.Proofs.Ytmnciknpeefkfaa

