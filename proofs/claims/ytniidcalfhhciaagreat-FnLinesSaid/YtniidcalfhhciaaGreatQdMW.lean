/- Plain facts: what the laws over codes ask: lists alike, lists that hold something, fixed cells. -/
import Derived.Test.YtniidcalfhhciaaGreatQdMY
import Derived.Test.YtniidcalfhhciaaGreatQdPTwoColourPattern
namespace Go.Proofs.YtniidcalfhhciaaGreat.X
open Go
set_option linter.unusedSimpArgs false
set_option linter.unusedVariables false
theorem big_eq (c : List Int) : f14G KK c = some (decide ((c.length : Int) > 4096)) := rfl
/-! ### cells that a motion fixes -/
def fixS (f : Int) (l : Lt) (m : Mo) : Int × Int := if okF f && okL l then (if suitB f l m then ((((cellsS l).filter fun v => mvS l m v == v).length : Nat), 0) else (0, 2)) else (0, 1)
theorem suit_good {f : Int} {l : Lt} {m : Mo} (h : suitB f l m = true) : GoodG m := by
  unfold suitB at h
  rw [Bool.and_eq_true, List.contains_iff_mem] at h
  have := vecB_iff.1 h.2
  exact ⟨stab_mem h.1, by unfold Sv; omega⟩
theorem fold_count {α : Type} (p : α → Bool) : ∀ (l : List α) (s : Nat), l.foldl (fun s a => bif p a then s + 1 else s) s = s + (l.filter p).length
  | [], s => rfl
  | a :: l, s => by
    rw [List.foldl_cons, fold_count p l]
    cases h : p a
    · rw [List.filter_cons_of_neg (by rw [h]; simp)]; rfl
    · rw [List.filter_cons_of_pos h, List.length_cons]; simp only [cond_true]; omega
/-- the code, as a law gets it -/
theorem code_ok {T : TypeId} {c : List Int} (h : Wf (.list T (.int .u8)) c) : ∀ i (h : i < c.length), 0 ≤ c[i] ∧ c[i] ≤ 255 := fun i hi => byte_wf (h.2 _ (List.getElem_mem hi))
end Go.Proofs.YtniidcalfhhciaaGreat.X
