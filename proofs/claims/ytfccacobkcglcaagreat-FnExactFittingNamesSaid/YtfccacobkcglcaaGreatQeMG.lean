/- Plain facts: copies and comparisons of lists of motions and of vectors. -/
import Derived.Test.YtfccacobkcglcaaGreatQeMF
namespace Go.Proofs.YtfccacobkcglcaaGreat.X
open Go
set_option linter.unusedSimpArgs false
set_option linter.unusedVariables false
theorem iter_copy {α : Type} {body : (Int × List α → Option (List α)) → Int × List α → Option (List α)} (l : List α)
    (h1 : ∀ L q s (hq : q < l.length), s.length = l.length → body L ((q : Int), s) = L (((q + 1 : Nat) : Int), s.set q l[q])) (h2 : ∀ L s, body L ((l.length : Int), s) = some s) : ∀ n q s, q ≤ l.length → l.length - q < n → s.length = l.length → s.take q = l.take q → iter body n ((q : Int), s) = some l
  | 0, q, s, _, h, _, _ => by omega
  | n + 1, q, s, hq, h, hs, ht => by
    show body (iter body n) ((q : Int), s) = _
    by_cases hlt : q < l.length
    · rw [h1 _ q s hlt hs]
      refine iter_copy l h1 h2 n (q + 1) _ hlt (by omega) (by rw [List.length_set, hs]) ?_
      rw [List.take_add_one, List.take_add_one, List.take_set_of_le (Nat.le_refl _), ht, List.getElem?_set_self (by omega), List.getElem?_eq_getElem hlt]
    · have e : q = l.length := by omega
      subst e
      rw [h2]
      rw [List.take_length, ← hs, List.take_length] at ht
      rw [ht]
theorem blimB {n b : Nat} (h : n ≤ 1048576) (hb : 0 < b) (hb2 : b ≤ 1000) : Nat.ble n (lim b) = true := by
  simp only [lim, Nat.ble_eq]
  rw [Nat.le_div_iff_mul_le hb]
  have : n * b ≤ 1048576 * 1000 := Nat.mul_le_mul h hb2
  omega
theorem eqVec_eq (v : Vc) : f242G KK v v = some true := by
  unfold f242G
  simp
/-- what is left of a bound on all lists together -/
theorem sz_small {n : Nat} {left : Int} (h0 : 0 ≤ left) (h1 : left ≤ 1048576) (h : (n : Int) ≤ left) : decide ((w (left - (n : Int))) < (0 : Int)) = false ∧ w (left - (n : Int)) = left - n := by
  have e : w (left - (n : Int)) = left - n := w_id (by omega) (by omega)
  rw [e]
  exact ⟨decide_eq_false (by omega), rfl⟩
theorem sz_large {n : Nat} {left : Int} (h0 : 0 ≤ left) (h1 : left ≤ 1048576) (hm : n ≤ maxLen) (h : ¬ (n : Int) ≤ left) : decide ((w (left - (n : Int))) < (0 : Int)) = true := by
  simp only [maxLen] at hm
  rw [w_id (by omega) (by omega)]
  exact decide_eq_true (by omega)
end Go.Proofs.YtfccacobkcglcaaGreat.X
