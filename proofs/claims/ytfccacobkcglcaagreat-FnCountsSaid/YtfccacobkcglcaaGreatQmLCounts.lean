/- The law FnCounts holds of the program for every input. There is no condition. -/
import Derived.Test.YtfccacobkcglcaaGreatQmS0
import Derived.Test.YtfccacobkcglcaaGreatRows
import Derived.Test.YtfccacobkcglcaaGreatQzXRow
import Derived.Test.YtfccacobkcglcaaGreatQmPCounts
namespace Go.Proofs.YtfccacobkcglcaaGreat.fnCounts
open Go Go.ChangeShapes Go.WideShapes Go.ChangeAt Go.RowKit
theorem own : ownKnob Tryz.prog.godebug = none := by kernel_rfl
theorem laidOut : laidOutB Tryz.prog = true := by kernel_rfl
abbrev shs : List X.Sh := [(.list 5 (.int .u8))]
set_option maxRecDepth 100000 in
theorem lifted (os : Os) (started : os.Started) (H : Type) (enc : TypeId × Value → H) :
    ReturnsInHanded {} Tryz.checked os 14 .any (Rows.fnCountsSpec.pre6 enc Tryz.prog Tryz.f14 Rows.fnCountsRow.domain false) (Rows.fnCountsSpec.post enc Tryz.prog Tryz.f14 false true false false) := by
  refine returnsInHanded_of_change_sized (C := Tryz.checked) own started (by kernel_rfl) Tryz.func14
    (ChangeSpec.witness6 (enc := enc) (C := Tryz.checked) false ⟨#[], #[.slice none 0 0], []⟩ 8 (by kernel_rfl) (by kernel_rfl) (by kernel_rfl) (by kernel_rfl)) ?_
  intro W base args ds gs before hval0 hW hcnd hsz0 _
  have hval : ∀ (j : Nat) t v, Tryz.f14.params[j]? = some t → args[j]? = some v → Value.okWide Tryz.prog W .any base t v := hval0
  have hW' := hW
  obtain ⟨p, q, hA0, hV, rfl, hfz, hnd⟩ := hW
  have hA : DataW.TrodAll enc Tryz.prog W 0 (fun _ => true) true Tryz.f14.params.toList args.toList ds p := hA0
  rw [Tryz.params14] at hA hval
  obtain ⟨rfl, rfl⟩ := trodVars_none hV
  obtain ⟨x, hX, hwf⟩ := X.args_of [82] shs args.toList ds p (by kernel_rfl) (fun j t v ht hv => hval j t v (by simpa using ht) (by simpa using hv)) hA
  have hlt := X.lt_all _ _ _ _ hA
  have hback := fun {W'} (bel : Below W.heap.size W W') => X.back_all laidOut bel [82] args.toList ds p (by kernel_rfl) hlt hA
  obtain ⟨K, hK⟩ := X.FnCounts_pure x.1 hwf
  have hcall := X.law_calls (P := Tryz.prog) (f := 14) (ss := shs) (F := fun x => X.f14G K x.1) (X.f14_ok K) rfl hX hK
  rw [Array.toArray_toList] at hcall
  obtain ⟨v0, vs0, d0, ds0, p0, q0, hargs, rfl, rfl, h0, r0⟩ := trodAll_cons hA
  obtain ⟨rfl, rfl, rfl⟩ := trodAll_nil r0
  refine hcall.mono fun e W' ⟨he, bel⟩ => ?_
  subst he
  exact ⟨_, rfl, _, _, _, [], _, [], hW', trodAll_mk1 (shut_bool Tryz.underlying4 _), hback bel, rfl, bel.frame _, fun h => by cases h⟩
theorem j1 : (Rows.fnCountsRow.inPlace == Tryz.prog.inPlace 14) = true := by kernel_rfl
theorem j2 : (Rows.fnCountsRow.unfollowed == Tryz.prog.unfollowed 14) = true := by kernel_rfl
theorem j3 : (Rows.fnCountsRow.recurses == Tryz.prog.recurses 14) = true := by kernel_rfl
theorem j4 : (Rows.fnCountsRow.named == Tryz.prog.varsNamed 14) = true := by kernel_rfl
theorem j5 : mapsRowed Tryz.prog = true := by kernel_rfl
theorem j6 : Tryz.prog.funcNamed Rows.fnCountsRow.func = some 14 := by kernel_rfl
theorem closed : joinedFacts Tryz.prog 14 Tryz.f14 Rows.fnCountsSpec Rows.fnCountsRow = true := by
  unfold joinedFacts
  rw [laidOut, j1, j2, j3, j4, j5]
  kernel_rfl
theorem over : Rows.fnCountsRow.holds Tryz.pinned (OpenSpec.ofChange Rows.fnCountsSpec) :=
  OpenClaim.holds_of_wide 14 Tryz.f14 rfl rfl rfl rfl rfl rfl rfl ⟨rfl, rfl, rfl, rfl, rfl⟩ rfl rfl rfl rfl rfl j6 Tryz.func14 closed
    (of_decide_eq_true (by kernel_rfl)) (by unfold Func.isWrapper; first | (rw [if_pos (by decide +kernel)]; kernel_rfl) | (rw [if_neg (by decide +kernel)]; exact ⟨rfl, rfl⟩))
    (fun os started H enc _ => lifted os started H enc)
end Go.Proofs.YtfccacobkcglcaaGreat.fnCounts
namespace Go.Proofs.YtfccacobkcglcaaGreat
theorem fnCounts_holds : Rows.FnCountsSaid := fnCounts.over
#print axioms fnCounts_holds
end Go.Proofs.YtfccacobkcglcaaGreat

