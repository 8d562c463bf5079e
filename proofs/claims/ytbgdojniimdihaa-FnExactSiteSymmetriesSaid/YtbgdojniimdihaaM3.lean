/- Plain facts: divisors, and the steps of Euclid on two vectors. -/
import Derived.Test.YtbgdojniimdihaaM2
namespace Go.Proofs.Ytbgdojniimdihaa.X
open Go
set_option linter.unusedVariables false
theorem abs_eq {q : Int} (h : q.natAbs ≤ 4611686018427387904) : (if (w (0 - q)) > q then (w (0 - q)) else q) = (q.natAbs : Int) := by
  rw [w_id (by omega) (by omega)]
  split <;> omega
theorem gcd_step (a b : Int) (h : b ≠ 0) : Int.gcd b (a.tmod b) = Int.gcd a b := by
  simp only [Int.gcd, Int.natAbs_tmod]
  rw [Nat.gcd_comm a.natAbs, Nat.gcd_rec b.natAbs a.natAbs, Nat.gcd_comm]
theorem gcd_loop : ∀ (n : Nat) (a b : Int), b.natAbs < n → a.natAbs ≤ 4611686018427387904 → b.natAbs ≤ 4611686018427387904 → f146_l2 KK n a b = some ((Int.gcd a b : Nat) : Int)
  | 0, a, b, h, _, _ => by omega
  | n + 1, a, b, h, h1, h2 => by
    have e : f146_l2 KK (n + 1) a b = f146_b2 KK (fun v0 v1 => f146_l2 KK n v0 v1) a b := rfl
    rw [e]
    unfold f146_b2
    dsimp only
    by_cases hb : b = 0
    · subst hb
      simp only [bne_self_eq_false, cond_false, abs_eq h1]
      simp [Int.gcd]
    · have h3 : (b != 0) = true := by simp [hb]
      rw [h3, cond_true, cond_true]
      have h4 : (a.tmod b).natAbs < b.natAbs := by rw [Int.natAbs_tmod]; exact Nat.mod_lt _ (by omega)
      rw [gcd_loop n b (a.tmod b) (by omega) h2 (by omega), gcd_step a b hb]
theorem gcd_eq {a b : Int} (ha : a.natAbs ≤ 1000000) (hb : b.natAbs ≤ 4611686018427387904) : f146G KK a b = some ((Int.gcd a b : Nat) : Int) := by
  have e : f146G KK a b = f146_b2 KK (fun v0 v1 => f146_l2 KK 2097151 v0 v1) a b := rfl
  rw [e]
  unfold f146_b2
  dsimp only
  by_cases hb0 : b = 0
  · subst hb0
    simp only [bne_self_eq_false, cond_false]
    rw [abs_eq (by omega)]
    simp [Int.gcd]
  · have h3 : (b != 0) = true := by simp [hb0]
    rw [h3, cond_true, cond_true]
    have h4 : (a.tmod b).natAbs ≤ a.natAbs := by rw [Int.natAbs_tmod]; exact Nat.mod_le _ _
    rw [gcd_loop _ b (a.tmod b) (by omega) hb (by omega), gcd_step a b hb0]
theorem divisor_loop : ∀ (n : Nat) (a b : Int), b.natAbs < n → a.natAbs ≤ 4611686018427387904 → b.natAbs ≤ 4611686018427387904 → f175R KK n a b = some ((Int.gcd a b : Nat) : Int)
  | 0, a, b, h, _, _ => by omega
  | n + 1, a, b, h, h1, h2 => by
    show f175_s KK (f175R KK n) a b = _
    unfold f175_s
    by_cases hb : b = 0
    · subst hb
      simp only [beq_self_eq_true, cond_true, abs_eq h1]
      simp [Int.gcd]
    · have h3 : (b != 0) = true := by simp [hb]
      have h5 : (b == 0) = false := by simp [hb]
      rw [h3, h5, cond_true, cond_false]
      have h4 : (a.tmod b).natAbs < b.natAbs := by rw [Int.natAbs_tmod]; exact Nat.mod_lt _ (by omega)
      rw [divisor_loop n b (a.tmod b) (by omega) h2 (by omega), gcd_step a b hb]
      rfl
theorem divisor_eq {a b : Int} (ha : a.natAbs ≤ 1000000) (hb : b.natAbs ≤ 4611686018427387904) : f175G KK a b = some ((Int.gcd a b : Nat) : Int) := by
  show f175_s KK (f175R KK 2097151) a b = _
  unfold f175_s
  by_cases hb0 : b = 0
  · subst hb0
    simp only [beq_self_eq_true, cond_true]
    rw [abs_eq (by omega)]
    simp [Int.gcd]
  · have h3 : (b != 0) = true := by simp [hb0]
    have h5 : (b == 0) = false := by simp [hb0]
    rw [h3, h5, cond_true, cond_false]
    have h4 : (a.tmod b).natAbs ≤ a.natAbs := by rw [Int.natAbs_tmod]; exact Nat.mod_le _ _
    rw [divisor_loop _ b (a.tmod b) (by omega) hb (by omega), gcd_step a b hb0]
    rfl
/-- one step: the new second vector -/
def nx (p v : Vc) : Vc := (p.1 - p.2.tdiv v.2 * v.1, p.2 - p.2.tdiv v.2 * v.2)
def euS : Nat → Vc → Vc → Vc × Int
  | 0, p, v => (p, v.1)
  | n + 1, p, v => if v.2 = 0 then (p, v.1) else euS n v (nx p v)
theorem nx_y (p v : Vc) : (nx p v).2 = p.2.tmod v.2 := by
  have := Int.tmod_add_mul_tdiv p.2 v.2
  simp only [nx]
  rw [Int.mul_comm]
  omega
theorem nx_ylt (p v : Vc) (h : v.2 ≠ 0) : (nx p v).2.natAbs < v.2.natAbs := by
  rw [nx_y, Int.natAbs_tmod]; exact Nat.mod_lt _ (by omega)
def Dv (p v : Vc) : Nat := p.1.natAbs * v.2.natAbs + v.1.natAbs * p.2.natAbs
theorem nx_D (p v : Vc) (h : v.2 ≠ 0) : Dv v (nx p v) ≤ Dv p v := by
  have h1 : (nx p v).2.natAbs = p.2.natAbs % v.2.natAbs := by rw [nx_y, Int.natAbs_tmod]
  have h2 : (nx p v).1.natAbs ≤ p.1.natAbs + p.2.natAbs / v.2.natAbs * v.1.natAbs := by
    have := Int.natAbs_sub_le p.1 (p.2.tdiv v.2 * v.1)
    rw [Int.natAbs_mul, Int.natAbs_tdiv] at this
    exact this
  have h3 := Nat.mod_add_div p.2.natAbs v.2.natAbs
  unfold Dv
  rw [h1]
  generalize p.1.natAbs = P at *
  generalize v.1.natAbs = V at *
  generalize p.2.natAbs / v.2.natAbs = k at *
  generalize p.2.natAbs % v.2.natAbs = r at *
  generalize v.2.natAbs = U at *
  generalize p.2.natAbs = Q at *
  calc V * r + (nx p v).1.natAbs * U ≤ V * r + (P + k * V) * U := Nat.add_le_add_left (Nat.mul_le_mul_right _ h2) _
    _ = P * U + V * (r + U * k) := by
      rw [Nat.add_mul, Nat.mul_add]
      have : k * V * U = V * (U * k) := by rw [Nat.mul_comm k V, Nat.mul_assoc, Nat.mul_comm k U]
      omega
    _ = P * U + V * Q := by rw [h3]
/-- numbers stay below a bound -/
structure Bd (B : Nat) (p v : Vc) : Prop where
  bp : p.1.natAbs ≤ B
  bv : v.1.natAbs ≤ B
  d : Dv p v ≤ B
theorem Bd_nx {B : Nat} {p v : Vc} (h : Bd B p v) (hv : v.2 ≠ 0) : Bd B v (nx p v) := by
  have h1 := nx_D p v hv
  refine ⟨h.bv, ?_, by have := h.d; omega⟩
  have h2 : (nx p v).1.natAbs * v.2.natAbs ≤ Dv v (nx p v) := by unfold Dv; omega
  have h3 : (nx p v).1.natAbs * 1 ≤ (nx p v).1.natAbs * v.2.natAbs := Nat.mul_le_mul_left _ (by omega)
  have := h.d
  omega
theorem euS_bd {B : Nat} : ∀ (n : Nat) (p v : Vc), v.2.natAbs < n → Bd B p v → (euS n p v).1.1.natAbs ≤ B ∧ (euS n p v).2.natAbs ≤ B
  | 0, p, v, h, _ => by omega
  | n + 1, p, v, h, hb => by
    simp only [euS]
    split
    · exact ⟨hb.bp, hb.bv⟩
    · rename_i hv
      exact euS_bd n v (nx p v) (by have := nx_ylt p v hv; omega) (Bd_nx hb hv)
theorem euS_fuel : ∀ (n m : Nat) (p v : Vc), v.2.natAbs < n → v.2.natAbs < m → euS n p v = euS m p v
  | 0, m, p, v, h, _ => by omega
  | n + 1, 0, p, v, _, h => by omega
  | n + 1, m + 1, p, v, h, h' => by
    simp only [euS]
    split
    · rfl
    · rename_i hv
      exact euS_fuel n m v (nx p v) (by have := nx_ylt p v hv; omega) (by have := nx_ylt p v hv; omega)
theorem nx_calc {p v : Vc} (h : Bd 36028797018963968 p v) (hp : p.2.natAbs ≤ 1000000) (hv0 : v.2 ≠ 0) (hv : v.2.natAbs ≤ 1000000) :
    w (p.1 - (w ((w (p.2.tdiv v.2)) * v.1))) = (nx p v).1 ∧ w (p.2 - (w ((w (p.2.tdiv v.2)) * v.2))) = (nx p v).2 ∧ w (p.1 + w (w (0 - (w (p.2.tdiv v.2))) * v.1)) = (nx p v).1 ∧ w (p.2 + w (w (0 - (w (p.2.tdiv v.2))) * v.2)) = (nx p v).2 := by
  have k1 : (p.2.tdiv v.2).natAbs ≤ p.2.natAbs := by rw [Int.natAbs_tdiv]; exact Nat.div_le_self _ _
  have k2 : (p.2.tdiv v.2 * v.1).natAbs ≤ Dv p v := by
    rw [Int.natAbs_mul]
    have := Nat.mul_le_mul_right v.1.natAbs k1
    unfold Dv
    rw [Nat.mul_comm v.1.natAbs]
    omega
  have k3 : (p.2.tdiv v.2 * v.2).natAbs ≤ p.2.natAbs := by
    rw [Int.natAbs_mul, Int.natAbs_tdiv]; exact Nat.div_mul_le_self _ _
  have e1 : -p.2.tdiv v.2 * v.1 = -(p.2.tdiv v.2 * v.1) := Int.neg_mul _ _
  have e2 : -p.2.tdiv v.2 * v.2 = -(p.2.tdiv v.2 * v.2) := Int.neg_mul _ _
  obtain ⟨b1, b2, b3⟩ := h
  rw [w_id (n := p.2.tdiv v.2) (by omega) (by omega), w_id (n := p.2.tdiv v.2 * v.1) (by omega) (by omega), w_id (n := p.2.tdiv v.2 * v.2) (by omega) (by omega), w_id (n := 0 - p.2.tdiv v.2) (by omega) (by omega), Int.zero_sub, e1, e2,
    w_id (n := -(p.2.tdiv v.2 * v.1)) (by omega) (by omega), w_id (n := -(p.2.tdiv v.2 * v.2)) (by omega) (by omega)]
  simp only [nx]
  refine ⟨w_id (by omega) (by omega), w_id (by omega) (by omega), ?_, ?_⟩
  · rw [w_id (by omega) (by omega)]; omega
  · rw [w_id (by omega) (by omega)]; omega
/-- two runs whose first numbers agree up to a multiple -/
theorem euS_cong (a : Int) : ∀ (n : Nat) (p v p' v' : Vc), p.2 = p'.2 → v.2 = v'.2 → a ∣ p.1 - p'.1 → a ∣ v.1 - v'.1 →
    (euS n p v).1.2 = (euS n p' v').1.2 ∧ a ∣ (euS n p v).1.1 - (euS n p' v').1.1 ∧ a ∣ (euS n p v).2 - (euS n p' v').2
  | 0, p, v, p', v', h1, h2, h3, h4 => ⟨h1, h3, h4⟩
  | n + 1, p, v, p', v', h1, h2, h3, h4 => by
    simp only [euS, ← h2]
    split
    · exact ⟨h1, h3, h4⟩
    · refine euS_cong a n v (nx p v) v' (nx p' v') h2 ?_ h4 ?_
      · simp only [nx, ← h1, ← h2]
      · simp only [nx, ← h1, ← h2]
        obtain ⟨s, hs⟩ := h3
        obtain ⟨t, ht⟩ := h4
        refine ⟨s - p.2.tdiv v.2 * t, ?_⟩
        rw [Int.mul_sub, ← hs, show a * (p.2.tdiv v.2 * t) = p.2.tdiv v.2 * (a * t) by rw [← Int.mul_assoc, Int.mul_comm a, Int.mul_assoc], ← ht, Int.mul_sub]
        omega
/-- closed under sums of multiples -/
def Clo (S : Vc → Prop) : Prop := ∀ u v : Vc, ∀ k : Int, S u → S v → S (u.1 + k * v.1, u.2 + k * v.2)
theorem euS_in {S : Vc → Prop} (hS : Clo S) : ∀ (n : Nat) (p v : Vc), v.2.natAbs < n → S p → S v → S (euS n p v).1 ∧ S ((euS n p v).2, 0)
  | 0, p, v, h, _, _ => by omega
  | n + 1, p, v, h, hp, hv => by
    simp only [euS]
    split
    · rename_i h0
      refine ⟨hp, ?_⟩
      have : v = (v.1, 0) := by rw [← h0]
      rwa [this] at hv
    · rename_i h0
      refine euS_in hS n v (nx p v) (by have := nx_ylt p v h0; omega) hv ?_
      have := hS p v (-(p.2.tdiv v.2)) hp hv
      rw [Int.neg_mul, Int.neg_mul] at this
      exact this
theorem euS_out {S : Vc → Prop} (hS : Clo S) : ∀ (n : Nat) (p v : Vc), v.2.natAbs < n → S (euS n p v).1 → S ((euS n p v).2, 0) → S p ∧ S v
  | 0, p, v, h, _, _ => by omega
  | n + 1, p, v, h, h1, h2 => by
    simp only [euS] at h1 h2
    split at h1
    · rename_i h0
      rw [if_pos h0] at h2
      have : v = (v.1, 0) := by rw [← h0]
      exact ⟨h1, by rw [this]; exact h2⟩
    · rename_i h0
      rw [if_neg h0] at h2
      obtain ⟨h3, h4⟩ := euS_out hS n v (nx p v) (by have := nx_ylt p v h0; omega) h1 h2
      refine ⟨?_, h3⟩
      have := hS (nx p v) v (p.2.tdiv v.2) h4 h3
      simp only [nx, Int.sub_add_cancel] at this
      exact this
theorem euS_det : ∀ (n : Nat) (p v : Vc), v.2.natAbs < n → ((euS n p v).2 * (euS n p v).1.2).natAbs = (p.1 * v.2 - v.1 * p.2).natAbs
  | 0, p, v, h => by omega
  | n + 1, p, v, h => by
    simp only [euS]
    split
    · rename_i h0
      show (v.1 * p.2).natAbs = _
      rw [h0, Int.mul_zero, Int.zero_sub, Int.natAbs_neg]
    · rename_i h0
      rw [euS_det n v (nx p v) (by have := nx_ylt p v h0; omega)]
      have e : v.1 * (nx p v).2 - (nx p v).1 * v.2 = -(p.1 * v.2 - v.1 * p.2) := by
        simp only [nx, Int.mul_sub, Int.sub_mul]
        have : v.1 * (p.2.tdiv v.2 * v.2) = p.2.tdiv v.2 * v.1 * v.2 := by rw [← Int.mul_assoc, Int.mul_comm v.1]
        omega
      rw [e, Int.natAbs_neg]
theorem euS_gcd : ∀ (n : Nat) (p v : Vc), v.2.natAbs < n → (euS n p v).1.2.natAbs = Nat.gcd p.2.natAbs v.2.natAbs
  | 0, p, v, h => by omega
  | n + 1, p, v, h => by
    simp only [euS]
    split
    · rename_i h0
      simp [h0]
    · rename_i h0
      rw [euS_gcd n v (nx p v) (by have := nx_ylt p v h0; omega), nx_y, Int.natAbs_tmod, Nat.gcd_comm p.2.natAbs, Nat.gcd_rec v.2.natAbs p.2.natAbs, Nat.gcd_comm]
/-- the first vector changes only when its second number at least halves, or it is the new one -/
theorem euS_half (n : Nat) (p v : Vc) (hn : v.2.natAbs < n) (hn3 : 3 ≤ n) (hp : p.2 ≠ 0) : 2 * (euS n p v).1.2.natAbs ≤ p.2.natAbs ∨ (euS n p v).1 = p ∨ ((euS n p v).1 = v ∧ v.2.natAbs = p.2.natAbs) := by
  have hg := euS_gcd n p v hn
  by_cases hd : p.2.natAbs ∣ v.2.natAbs
  · right
    rw [euS_fuel n (n + 3) p v hn (by omega)]
    simp only [euS]
    split
    · left; rfl
    · rename_i h0
      have h1 : 1 ≤ v.2.natAbs := by omega
      have hle := Nat.le_of_dvd h1 hd
      split
      · rename_i h2
        right
        refine ⟨rfl, ?_⟩
        rw [nx_y] at h2
        have h3 := Int.natAbs_tmod p.2 v.2
        rw [h2] at h3
        have h4 : v.2.natAbs ∣ p.2.natAbs := Nat.dvd_of_mod_eq_zero h3.symm
        exact Nat.le_antisymm (Nat.le_of_dvd (by omega) h4) hle
      · rename_i h2
        left
        have h3 : p.2.natAbs < v.2.natAbs := by
          rcases Nat.lt_or_ge p.2.natAbs v.2.natAbs with h | h
          · exact h
          · exfalso
            apply h2
            have : p.2.natAbs = v.2.natAbs := by omega
            rw [nx_y]
            have h3 := Int.natAbs_tmod p.2 v.2
            rw [this, Nat.mod_self] at h3
            omega
        have hk : p.2.tdiv v.2 = 0 := by
          have : (p.2.tdiv v.2).natAbs = 0 := by rw [Int.natAbs_tdiv]; exact Nat.div_eq_of_lt h3
          omega
        have hnx : nx p v = p := by simp only [nx, hk, Int.zero_mul, Int.sub_zero]
        rw [hnx]
        have h5 : (nx v p).2 = 0 := by
          rw [nx_y]
          have h6 := Int.natAbs_tmod v.2 p.2
          rw [Nat.mod_eq_zero_of_dvd hd] at h6
          omega
        rw [if_pos h5]
  · left
    rw [hg]
    have h1 := Nat.gcd_dvd_left p.2.natAbs v.2.natAbs
    have h2 : Nat.gcd p.2.natAbs v.2.natAbs ≠ p.2.natAbs := fun h => hd (by have := Nat.gcd_dvd_right p.2.natAbs v.2.natAbs; rwa [h] at this)
    obtain ⟨k, hk⟩ := h1
    have h3 : 2 ≤ k := by
      rcases Nat.lt_or_ge k 2 with h | h
      · have : k = 0 ∨ k = 1 := by omega
        rcases this with rfl | rfl
        · simp at hk; omega
        · rw [Nat.mul_one] at hk; exact absurd hk.symm h2
      · exact h
    have := Nat.mul_le_mul_left (Nat.gcd p.2.natAbs v.2.natAbs) h3
    omega
end Go.Proofs.Ytbgdojniimdihaa.X
