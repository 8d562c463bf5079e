/- The law FnExactNewDesk holds of the program for every input. There is no condition. -/
import Derived.Test.YthlldmfkdcmcfaaS0
import Derived.Test.YthlldmfkdcmcfaaRows
import Derived.Test.YthlldmfkdcmcfaaXRow
import Derived.Test.YthlldmfkdcmcfaaPNewDesk
namespace Go.Proofs.Ythlldmfkdcmcfaa.fnExactNewDesk
open Go Go.ChangeShapes Go.WideShapes Go.ChangeAt Go.RowKit
theorem own : ownKnob Try.prog.godebug = none := by kernel_rfl
theorem laidOut : laidOutB Try.prog = true := by kernel_rfl
abbrev shs : List X.Sh := []
set_option maxRecDepth 100000 in
theorem lifted (os : Os) (started : os.Started) (H : Type) (enc : TypeId × Value → H) :
    ReturnsInHanded {} Try.checked os 4 .any (Rows.fnExactNewDeskSpec.pre6 enc Try.prog Try.f4 Rows.fnExactNewDeskRow.domain false) (Rows.fnExactNewDeskSpec.post enc Try.prog Try.f4 false true false false) := by
  refine returnsInHanded_of_change_sized (C := Try.checked) own started (by kernel_rfl) Try.func4
    (ChangeSpec.witness6 (enc := enc) (C := Try.checked) false ⟨#[], #[], []⟩ 8 (by kernel_rfl) (by kernel_rfl) (by kernel_rfl) (by kernel_rfl)) ?_
  intro W base args ds gs before hval0 hW hcnd hsz0 _
  have hval : ∀ (j : Nat) t v, Try.f4.params[j]? = some t → args[j]? = some v → Value.okWide Try.prog W .any base t v := hval0
  have hW' := hW
  obtain ⟨p, q, hA0, hV, rfl, hfz, hnd⟩ := hW
  have hA : DataW.TrodAll enc Try.prog W 0 (fun _ => true) true Try.f4.params.toList args.toList ds p := hA0
  rw [Try.params4] at hA hval
  obtain ⟨rfl, rfl⟩ := trodVars_none hV
  obtain ⟨x, hX, hwf⟩ := X.args_of (b0 := base) [] shs args.toList ds p (by kernel_rfl) (fun j t v ht hv => by simp at ht) hA
  have hlt := X.lt_all _ _ _ _ hA
  have hback := fun {W'} (bel : Below W.heap.size W W') => X.back_all laidOut bel [] args.toList ds p (by kernel_rfl) hlt hA
  obtain ⟨K, hK⟩ := X.FnExactNewDesk_pure hwf
  have hcall := X.law_calls (P := Try.prog) (f := 4) (ss := shs) (F := fun x => X.f4G K) (X.f4_ok K) rfl hX hK
  rw [Array.toArray_toList] at hcall
  obtain ⟨rfl, rfl, rfl⟩ := trodAll_none hA
  refine hcall.mono fun e W' ⟨he, bel⟩ => ?_
  subst he
  exact ⟨_, rfl, _, _, _, [], _, [], hW', trodAll_mk1 (shut_bool Try.underlying4 _), hback bel, rfl, bel.frame _, fun h => by cases h⟩
theorem over : Rows.fnExactNewDeskRow.holds Try.pinned (OpenSpec.ofChange Rows.fnExactNewDeskSpec) :=
  OpenClaim.holds_of_wide 4 Try.f4 rfl rfl rfl rfl rfl rfl rfl ⟨rfl, rfl, rfl, rfl, rfl⟩ rfl rfl rfl rfl rfl (by kernel_rfl) Try.func4 (by kernel_rfl)
    (of_decide_eq_true (by kernel_rfl)) (by unfold Func.isWrapper; first | (rw [if_pos (by decide +kernel)]; kernel_rfl) | (rw [if_neg (by decide +kernel)]; exact ⟨rfl, rfl⟩))
    (fun os started H enc _ => lifted os started H enc)
end Go.Proofs.Ythlldmfkdcmcfaa.fnExactNewDesk
namespace Go.Proofs.Ythlldmfkdcmcfaa
theorem fnExactNewDesk_holds : Rows.FnExactNewDeskSaid := fnExactNewDesk.over
#print axioms fnExactNewDesk_holds
end Go.Proofs.Ythlldmfkdcmcfaa

