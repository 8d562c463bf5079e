/- Plain facts: marks in lists of lists of vectors. -/
import Derived.Test.YtniidcalfhhciaaGreatQeMJ
namespace Go.Proofs.YtniidcalfhhciaaGreat.X
open Go
set_option linter.unusedSimpArgs false
set_option linter.unusedVariables false
def tot : List (List Vc) → Int
  | [] => 0
  | o :: r => 2 * (o.length : Int) + tot r
def Mk2 (k : Int) : List (List Vc) → Prop
  | [] => True
  | o :: r => MkV2 k o o.length ∧ Mk2 (k + 2 * (o.length : Int)) r
theorem tot_bound : ∀ (C : List (List Vc)), (∀ o ∈ C, o.length ≤ 1000) → 0 ≤ tot C ∧ tot C ≤ 2000 * (C.length : Int)
  | [], _ => by simp [tot]
  | o :: r, h => by
    have h1 := h o (by simp)
    obtain ⟨h2, h3⟩ := tot_bound r fun o ho => h o (by simp [ho])
    simp only [tot, List.length_cons]
    omega
theorem getPre {pre r : List (List Vc)} {o : List Vc} : (pre ++ o :: r).getD ((0 : Int) + (pre.length : Int)).toNat [] = o := by
  have e : ((0 : Int) + (pre.length : Int)).toNat = pre.length := by omega
  rw [e, List.getD_eq_getElem?_getD, List.getElem?_append_right (Nat.le_refl _), Nat.sub_self]
  rfl
end Go.Proofs.YtniidcalfhhciaaGreat.X
