/- The law FnExactFittingNames holds of the program for every input. There is no condition. -/
import Derived.Test.YtfccacobkcglcaaGreatQeS0
import Derived.Test.YtfccacobkcglcaaGreatRows
import Derived.Test.YtfccacobkcglcaaGreatXRow
import Derived.Test.YtfccacobkcglcaaGreatQePFittingNames
namespace Go.Proofs.YtfccacobkcglcaaGreat.fnExactFittingNames
open Go Go.ChangeShapes Go.WideShapes Go.ChangeAt Go.RowKit
theorem own : ownKnob Tryz.prog.godebug = none := by kernel_rfl
theorem laidOut : laidOutB Tryz.prog = true := by kernel_rfl
abbrev shs : List X.Sh := [(.int .i64), (.list 175 (.cons (.cons (.int .i64) (.int .i64)) (.int .i64)))]
set_option maxRecDepth 100000 in
theorem lifted (os : Os) (started : os.Started) (H : Type) (enc : TypeId × Value → H) :
    ReturnsInHanded {} Tryz.checked os 7 .any (Rows.fnExactFittingNamesSpec.pre6 enc Tryz.prog Tryz.f7 Rows.fnExactFittingNamesRow.domain false) (Rows.fnExactFittingNamesSpec.post enc Tryz.prog Tryz.f7 false true false false) := by
  refine returnsInHanded_of_change_sized (C := Tryz.checked) own started (by kernel_rfl) Tryz.func7
    (ChangeSpec.witness6 (enc := enc) (C := Tryz.checked) false ⟨#[], #[.int .i64 0, .slice none 0 0], []⟩ 8 (by kernel_rfl) (by kernel_rfl) (by kernel_rfl) (by kernel_rfl)) ?_
  intro W base args ds gs before hval0 hW hcnd hsz0 _
  have hval : ∀ (j : Nat) t v, Tryz.f7.params[j]? = some t → args[j]? = some v → Value.okWide Tryz.prog W .any base t v := hval0
  have hW' := hW
  obtain ⟨p, q, hA0, hV, rfl, hfz, hnd⟩ := hW
  have hA : DataW.TrodAll enc Tryz.prog W 0 (fun _ => true) true Tryz.f7.params.toList args.toList ds p := hA0
  rw [Tryz.params7] at hA hval
  obtain ⟨rfl, rfl⟩ := trodVars_none hV
  obtain ⟨x, hX, hwf⟩ := X.args_of [2, 50] shs args.toList ds p (by kernel_rfl) (fun j t v ht hv => hval j t v (by simpa using ht) (by simpa using hv)) hA
  have hlt := X.lt_all _ _ _ _ hA
  have hback := fun {W'} (bel : Below W.heap.size W W') => X.back_all laidOut bel [2, 50] args.toList ds p (by kernel_rfl) hlt hA
  obtain ⟨K, hK⟩ := X.FnExactFittingNames_pure x.1 x.2.1 hwf
  have hcall := X.law_calls (P := Tryz.prog) (f := 7) (ss := shs) (F := fun x => X.f7G K x.1 x.2.1) (X.f7_ok K) rfl hX hK
  rw [Array.toArray_toList] at hcall
  obtain ⟨v0, vs0, d0, ds0, p0, q0, hargs, rfl, rfl, h0, r0⟩ := trodAll_cons hA
  obtain ⟨v1, vs1, d1, ds1, p1, q1, rfl, rfl, rfl, h1, r1⟩ := trodAll_cons r0
  obtain ⟨rfl, rfl, rfl⟩ := trodAll_nil r1
  refine hcall.mono fun e W' ⟨he, bel⟩ => ?_
  subst he
  exact ⟨_, rfl, _, _, _, [], _, [], hW', trodAll_mk1 (shut_bool Tryz.underlying4 _), hback bel, rfl, bel.frame _, fun h => by cases h⟩
theorem j1 : (Rows.fnExactFittingNamesRow.inPlace == Tryz.prog.inPlace 7) = true := by kernel_rfl
theorem j2 : (Rows.fnExactFittingNamesRow.unfollowed == Tryz.prog.unfollowed 7) = true := by kernel_rfl
theorem j3 : (Rows.fnExactFittingNamesRow.recurses == Tryz.prog.recurses 7) = true := by kernel_rfl
theorem j4 : (Rows.fnExactFittingNamesRow.named == Tryz.prog.varsNamed 7) = true := by kernel_rfl
theorem j5 : mapsRowed Tryz.prog = true := by kernel_rfl
theorem j6 : Tryz.prog.funcNamed Rows.fnExactFittingNamesRow.func = some 7 := by kernel_rfl
theorem closed : joinedFacts Tryz.prog 7 Tryz.f7 Rows.fnExactFittingNamesSpec Rows.fnExactFittingNamesRow = true := by
  unfold joinedFacts
  rw [laidOut, j1, j2, j3, j4, j5]
  kernel_rfl
theorem over : Rows.fnExactFittingNamesRow.holds Tryz.pinned (OpenSpec.ofChange Rows.fnExactFittingNamesSpec) :=
  OpenClaim.holds_of_wide 7 Tryz.f7 rfl rfl rfl rfl rfl rfl rfl ⟨rfl, rfl, rfl, rfl, rfl⟩ rfl rfl rfl rfl rfl j6 Tryz.func7 closed
    (of_decide_eq_true (by kernel_rfl)) (by unfold Func.isWrapper; first | (rw [if_pos (by decide +kernel)]; kernel_rfl) | (rw [if_neg (by decide +kernel)]; exact ⟨rfl, rfl⟩))
    (fun os started H enc _ => lifted os started H enc)
end Go.Proofs.YtfccacobkcglcaaGreat.fnExactFittingNames
namespace Go.Proofs.YtfccacobkcglcaaGreat
theorem fnExactFittingNames_holds : Rows.FnExactFittingNamesSaid := fnExactFittingNames.over
#print axioms fnExactFittingNames_holds
end Go.Proofs.YtfccacobkcglcaaGreat

