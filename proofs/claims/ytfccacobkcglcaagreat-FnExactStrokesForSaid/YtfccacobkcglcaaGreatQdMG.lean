/- Plain facts: copies and comparisons of lists of motions and of vectors. -/
import Derived.Test.YtfccacobkcglcaaGreatQdMF
namespace Go.Proofs.YtfccacobkcglcaaGreat.X
open Go
set_option linter.unusedSimpArgs false
set_option linter.unusedVariables false
theorem eqVec_eq (v : Vc) : f242G KK v v = some true := by
  unfold f242G
  simp
/-- what is left of a bound on all lists together -/
theorem sz_small {n : Nat} {left : Int} (h0 : 0 ≤ left) (h1 : left ≤ 1048576) (h : (n : Int) ≤ left) : decide ((w (left - (n : Int))) < (0 : Int)) = false ∧ w (left - (n : Int)) = left - n := by
  have e : w (left - (n : Int)) = left - n := w_id (by omega) (by omega)
  rw [e]
  exact ⟨decide_eq_false (by omega), rfl⟩
theorem sz_large {n : Nat} {left : Int} (h0 : 0 ≤ left) (h1 : left ≤ 1048576) (hm : n ≤ maxLen) (h : ¬ (n : Int) ≤ left) : decide ((w (left - (n : Int))) < (0 : Int)) = true := by
  simp only [maxLen] at hm
  rw [w_id (by omega) (by omega)]
  exact decide_eq_true (by omega)
end Go.Proofs.YtfccacobkcglcaaGreat.X
