/- The law FnGroupTilings holds of the program for every input. There is no condition. -/
import Derived.Test.YtfccacobkcglcaaGreatQhS0
import Derived.Test.YtfccacobkcglcaaGreatRows
import Derived.Test.YtfccacobkcglcaaGreatQzXRow
import Derived.Test.YtfccacobkcglcaaGreatQhPGroupTilings
namespace Go.Proofs.YtfccacobkcglcaaGreat.fnGroupTilings
open Go Go.ChangeShapes Go.WideShapes Go.ChangeAt Go.RowKit
theorem own : ownKnob Tryz.prog.godebug = none := by kernel_rfl
theorem laidOut : laidOutB Tryz.prog = true := by kernel_rfl
abbrev shs : List X.Sh := [(.list 5 (.int .u8))]
set_option maxRecDepth 100000 in
theorem lifted (os : Os) (started : os.Started) (H : Type) (enc : TypeId × Value → H) :
    ReturnsInHanded {} Tryz.checked os 10 .any (Rows.fnGroupTilingsSpec.pre6 enc Tryz.prog Tryz.f10 Rows.fnGroupTilingsRow.domain false) (Rows.fnGroupTilingsSpec.post enc Tryz.prog Tryz.f10 false true false false) := by
  refine returnsInHanded_of_change_sized (C := Tryz.checked) own started (by kernel_rfl) Tryz.func10
    (ChangeSpec.witness6 (enc := enc) (C := Tryz.checked) false ⟨#[], #[.slice none 0 0], []⟩ 8 (by kernel_rfl) (by kernel_rfl) (by kernel_rfl) (by kernel_rfl)) ?_
  intro W base args ds gs before hval0 hW hcnd hsz0 _
  have hval : ∀ (j : Nat) t v, Tryz.f10.params[j]? = some t → args[j]? = some v → Value.okWide Tryz.prog W .any base t v := hval0
  have hW' := hW
  obtain ⟨p, q, hA0, hV, rfl, hfz, hnd⟩ := hW
  have hA : DataW.TrodAll enc Tryz.prog W 0 (fun _ => true) true Tryz.f10.params.toList args.toList ds p := hA0
  rw [Tryz.params10] at hA hval
  obtain ⟨rfl, rfl⟩ := trodVars_none hV
  obtain ⟨x, hX, hwf⟩ := X.args_of [82] shs args.toList ds p (by kernel_rfl) (fun j t v ht hv => hval j t v (by simpa using ht) (by simpa using hv)) hA
  have hlt := X.lt_all _ _ _ _ hA
  have hback := fun {W'} (bel : Below W.heap.size W W') => X.back_all laidOut bel [82] args.toList ds p (by kernel_rfl) hlt hA
  obtain ⟨K, hK⟩ := X.FnGroupTilings_pure x.1 hwf
  have hcall := X.law_calls (P := Tryz.prog) (f := 10) (ss := shs) (F := fun x => X.f10G K x.1) (X.f10_ok K) rfl hX hK
  rw [Array.toArray_toList] at hcall
  obtain ⟨v0, vs0, d0, ds0, p0, q0, hargs, rfl, rfl, h0, r0⟩ := trodAll_cons hA
  obtain ⟨rfl, rfl, rfl⟩ := trodAll_nil r0
  refine hcall.mono fun e W' ⟨he, bel⟩ => ?_
  subst he
  exact ⟨_, rfl, _, _, _, [], _, [], hW', trodAll_mk1 (shut_bool Tryz.underlying4 _), hback bel, rfl, bel.frame _, fun h => by cases h⟩
theorem j1 : (Rows.fnGroupTilingsRow.inPlace == Tryz.prog.inPlace 10) = true := by kernel_rfl
theorem j2 : (Rows.fnGroupTilingsRow.unfollowed == Tryz.prog.unfollowed 10) = true := by kernel_rfl
theorem j3 : (Rows.fnGroupTilingsRow.recurses == Tryz.prog.recurses 10) = true := by kernel_rfl
theorem j4 : (Rows.fnGroupTilingsRow.named == Tryz.prog.varsNamed 10) = true := by kernel_rfl
theorem j5 : mapsRowed Tryz.prog = true := by kernel_rfl
theorem j6 : Tryz.prog.funcNamed Rows.fnGroupTilingsRow.func = some 10 := by kernel_rfl
theorem closed : joinedFacts Tryz.prog 10 Tryz.f10 Rows.fnGroupTilingsSpec Rows.fnGroupTilingsRow = true := by
  unfold joinedFacts
  rw [laidOut, j1, j2, j3, j4, j5]
  kernel_rfl
theorem over : Rows.fnGroupTilingsRow.holds Tryz.pinned (OpenSpec.ofChange Rows.fnGroupTilingsSpec) :=
  OpenClaim.holds_of_wide 10 Tryz.f10 rfl rfl rfl rfl rfl rfl rfl ⟨rfl, rfl, rfl, rfl, rfl⟩ rfl rfl rfl rfl rfl j6 Tryz.func10 closed
    (of_decide_eq_true (by kernel_rfl)) (by unfold Func.isWrapper; first | (rw [if_pos (by decide +kernel)]; kernel_rfl) | (rw [if_neg (by decide +kernel)]; exact ⟨rfl, rfl⟩))
    (fun os started H enc _ => lifted os started H enc)
end Go.Proofs.YtfccacobkcglcaaGreat.fnGroupTilings
namespace Go.Proofs.YtfccacobkcglcaaGreat
theorem fnGroupTilings_holds : Rows.FnGroupTilingsSaid := fnGroupTilings.over
#print axioms fnGroupTilings_holds
end Go.Proofs.YtfccacobkcglcaaGreat

