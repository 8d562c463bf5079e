/- The plain law of CountKept: both sides give the power of the colours' number, the exponent the number of orbits. -/
import Derived.Test.YtniidcalfhhciaaGreatQbPOrbitNumbers
import Derived.Test.YtniidcalfhhciaaGreatQbMR
namespace Go.Proofs.YtniidcalfhhciaaGreat.X
open Go
set_option linter.unusedSimpArgs false
set_option linter.unusedVariables false
def powK (k : Int) : Nat → Int → Option Int
  | 0, p => some p
  | n + 1, p => bif decide (p * k > 1000000000) then none else powK k n (p * k)
theorem powK_b {k : Int} (h1 : 1 ≤ k) (h2 : k ≤ 10) {p : Int} (h3 : 0 ≤ p) (h4 : p ≤ 1000000000) : 0 ≤ p * k ∧ p * k ≤ 10000000000 :=
  ⟨Int.mul_nonneg h3 (by omega), Int.le_trans (Int.mul_le_mul h4 h2 (by omega) (by omega)) (by omega)⟩
theorem power_loop {k : Int} (h1 : 1 ≤ k) (h2 : k ≤ 10) (N : Nat) (hN : N ≤ 1000) : ∀ (n fuel q : Nat) (p : Int), q + n = N → n < fuel → 0 ≤ p → p ≤ 1000000000 →
    ∃ r, f144_l2 KK k (N : Int) 1000000000 fuel p (q : Int) = some r ∧ ((∃ r', powK k n p = some r' ∧ r = r' ∧ r ≤ 1000000000) ∨ (powK k n p = none ∧ r > 1000000000))
  | _, 0, _, _, _, h, _, _ => by omega
  | 0, fuel + 1, q, p, hq, _, h3, h4 => by
    refine ⟨p, ?_, .inl ⟨p, rfl, rfl, h4⟩⟩
    show f144_b2 KK k (N : Int) 1000000000 (fun v0 v1 => f144_l2 KK k (N : Int) 1000000000 fuel v0 v1) p (q : Int) = _
    unfold f144_b2
    rw [decide_eq_false (by omega), cond_false]
  | n + 1, fuel + 1, q, p, hq, hf, h3, h4 => by
    obtain ⟨b1, b2⟩ := powK_b h1 h2 h3 h4
    have e : f144_l2 KK k (N : Int) 1000000000 (fuel + 1) p (q : Int) = bif decide (p * k > 1000000000) then some (p * k) else f144_l2 KK k (N : Int) 1000000000 fuel (p * k) ((q + 1 : Nat) : Int) := by
      show f144_b2 KK k (N : Int) 1000000000 (fun v0 v1 => f144_l2 KK k (N : Int) 1000000000 fuel v0 v1) p (q : Int) = _
      unfold f144_b2
      rw [decide_eq_true (show (q : Int) < (N : Int) by omega), cond_true, w_id (n := p * k) (by omega) (by omega), w_succ (by omega)]
    rw [e]
    simp only [powK]
    cases h : decide (p * k > 1000000000)
    · have h' : ¬ p * k > 1000000000 := by simpa using h
      rw [cond_false, cond_false]
      exact power_loop h1 h2 N hN n fuel (q + 1) (p * k) (by omega) (by omega) b1 (by omega)
    · have h' : p * k > 1000000000 := by simpa using h
      rw [cond_true, cond_true]
      exact ⟨_, rfl, .inr ⟨rfl, h'⟩⟩
theorem ck_loop {f : Int} {l : Lt} {g : List Mo} {y : Int} {k : Int} (h1 : 1 ≤ k) (h2 : k ≤ 10) : ∀ (n fuel : Nat) (p : Int), n ≤ 1000 → n < fuel → 0 ≤ p → p ≤ 1000000000 →
    f72_l5 KK f l g k y fuel p (n : Int) = some (match powK k n p with | some r => (r, 0) | none => (0, 3))
  | _, 0, _, _, h, _, _ => by omega
  | 0, fuel + 1, p, _, _, h3, h4 => by
    show f72_b5 KK f l g k y (fun v0 v1 => f72_l5 KK f l g k y fuel v0 v1) p ((0 : Nat) : Int) = _
    unfold f72_b5
    rw [decide_eq_false (by omega), cond_false]
    rfl
  | n + 1, fuel + 1, p, hn, hf, h3, h4 => by
    obtain ⟨b1, b2⟩ := powK_b h1 h2 h3 h4
    show f72_b5 KK f l g k y (fun v0 v1 => f72_l5 KK f l g k y fuel v0 v1) p ((n + 1 : Nat) : Int) = _
    unfold f72_b5
    have e : w (((n + 1 : Nat) : Int) - 1) = (n : Int) := by rw [w_id (by omega) (by omega)]; omega
    rw [decide_eq_true (show ((n + 1 : Nat) : Int) > 0 by omega), cond_true, w_id (n := p * k) (by omega) (by omega), e]
    simp only [powK]
    cases h : decide (p * k > 1000000000)
    · have h' : ¬ p * k > 1000000000 := by simpa using h
      rw [cond_false, cond_false]
      exact ck_loop h1 h2 n fuel (p * k) (by omega) (by omega) b1 (by omega)
    · rfl
def inK (k : Int) : Bool := decide (1 ≤ k) && decide (k ≤ 10)
def resCK (f : Int) (l : Lt) (g : List Mo) (k : Int) : Int × Int := bif codeC f l g (inK k) != 0 then (0, codeC f l g (inK k)) else (match powK k (orbsS l g).length 1 with | some r => (r, 0) | none => (0, 3))
theorem inK_spec (k : Int) : f195G KK k 1 10 = some (inK k) := by
  unfold f195G inK
  cases h : decide (1 ≤ k) <;> simp_all
theorem inK_impl (k : Int) : f194G KK k 1 10 = some (inK k) := by
  unfold f194G inK
  cases h : decide (1 ≤ k) <;> simp_all
theorem specCK_eq (f : Int) (l : Lt) {g : List Mo} (hn : g.length ≤ 1048576) (k : Int) : f72G KK f l g k = some (resCK f l g k) := by
  unfold f72G f72_g resCK
  rw [inK_spec, Option.bind_some, specCode_eq f l hn, Option.bind_some]
  cases h : codeC f l g (inK k) != 0
  · have h0 : codeC f l g (inK k) = 0 := by simpa using h
    obtain ⟨hG, hk⟩ := codeC_0 h0
    have hO := orbs_len hG.la g
    simp only [inK, Bool.and_eq_true, decide_eq_true_eq] at hk
    rw [cond_false, cond_false, l07Orbits_eq hG, Option.bind_some]
    exact ck_loop hk.1 hk.2 _ KK 1 (by omega) (by simp only [KK]; omega) (by omega) (by omega)
  · rfl
theorem implCO_eq' (f : Int) (l : Lt) {g : List Mo} (hn : g.length ≤ 1048576) : f54G KK f l g = some (bif codeC f l g true != 0 then (0, codeC f l g true) else ((((orbsS l g).length : Nat) : Int), 0)) := by
  unfold f54G f50G
  rw [cellCode_eq f l hn (by simp), Option.bind_some, show ([] : List Vc).all (cellB l) = true from rfl]
  cases h : codeC f l g true != 0
  · have h0 : codeC f l g true = 0 := by simpa using h
    rw [cond_false, cond_false, orbitsOf_eq (codeC_0 h0).1, Option.bind_some, Option.bind_some]
  · rfl
theorem implCK_eq (f : Int) (l : Lt) {g : List Mo} (hn : g.length ≤ 1048576) (k : Int) : f71G KK f l g k = some (resCK f l g k) := by
  unfold f71G resCK
  rw [implCO_eq' f l hn, Option.bind_some, codeC_in f l g (inK k)]
  cases h : codeC f l g true != 0
  · have h0 : codeC f l g true = 0 := by simpa using h
    have hG := (codeC_0 h0).1
    have hO := orbs_len hG.la g
    simp only [cond_false, bne_self_eq_false]
    rw [inK_impl, Option.bind_some]
    cases hk : inK k
    · rfl
    · simp only [inK, Bool.and_eq_true, decide_eq_true_eq] at hk
      simp only [Bool.not_true, cond_false, cond_true, bne_self_eq_false]
      obtain ⟨r, hr, hc⟩ := power_loop hk.1 hk.2 (orbsS l g).length (by omega) (orbsS l g).length KK 0 1 (by omega) (by simp only [KK]; omega) (by omega) (by omega)
      unfold f144G f144_g
      rw [show ((0 : Nat) : Int) = 0 from rfl] at hr
      show (f144_l2 KK k ((orbsS l g).length : Int) 1000000000 KK 1 0).bind _ = _
      rw [hr, Option.bind_some]
      rcases hc with ⟨r', e1, rfl, e3⟩ | ⟨e1, e3⟩
      · rw [e1, decide_eq_false (by omega)]
        rfl
      · rw [e1, decide_eq_true e3]
        rfl
  · simp only [cond_true, h]
end Go.Proofs.YtniidcalfhhciaaGreat.X
