/- Plain facts: remainders, vectors of a lattice, the colour at a vector. -/
import Derived.Test.YtbgdojniimdihaaM0
import Derived.Test.YtbgdojniimdihaaD0
namespace Go.Proofs.Ytbgdojniimdihaa.X
open Go
set_option linter.unusedVariables false
abbrev Vc := Int × Int
abbrev Mt := Int × Int × Int × Int
abbrev Lt := Int × Int × Int
abbrev Pt := Int × Lt × List Int
structure IsL (l : Lt) : Prop where
  a1 : 1 ≤ l.1
  a2 : l.1 ≤ 64
  c1 : 1 ≤ l.2.2
  c2 : l.2.2 ≤ 64
  b1 : 0 ≤ l.2.1
  b2 : l.2.1 < l.1
  ix : l.1 * l.2.2 ≤ 64
structure IsP (p : Pt) : Prop where
  f1 : 0 ≤ p.1
  f2 : p.1 ≤ 1
  l : IsL p.2.1
  n : (p.2.2.length : Int) = p.2.1.1 * p.2.1.2.2
theorem tmod_pos {a n : Int} (h : 1 ≤ n) : (a.tmod n < 0 → a % n = a.tmod n + n) ∧ (0 ≤ a.tmod n → a % n = a.tmod n) ∧ -n < a.tmod n ∧ a.tmod n < n := by
  have h0 := Int.tmod_eq_emod (a := a) (b := n)
  have h1 := Int.emod_nonneg a (show n ≠ 0 by omega)
  have h2 := Int.emod_lt_of_pos a (show 0 < n by omega)
  have h3 : (n.natAbs : Int) = n := by omega
  split at h0 <;> refine ⟨?_, ?_, ?_, ?_⟩ <;> intros <;> omega
theorem l01Mod_eq {a n : Int} (h : 1 ≤ n) (h2 : n ≤ 1000000) : f156G KK a n = some (a % n) := by
  obtain ⟨h3, h4, h5, h6⟩ := tmod_pos (a := a) h
  unfold f156G
  have : (n != 0) = true := by simp; omega
  rw [this, cond_true]
  by_cases hl : a.tmod n < 0
  · rw [h3 hl, w_id (by omega) (by omega)]
    simp [hl]
  · rw [h4 (by omega)]
    simp [hl]
theorem mod_eq {a n : Int} (h : 1 ≤ n) (h2 : n ≤ 1000000) : f180G KK a n = some (a % n) := by
  obtain ⟨h3, h4, h5, h6⟩ := tmod_pos (a := a) h
  unfold f180G
  have : (n != 0) = true := by simp; omega
  rw [this, cond_true, cond_true, w_id (by omega) (by omega)]
  obtain ⟨h7, h8, h9, h10⟩ := tmod_pos (a := a.tmod n + n) h
  have h11 : 0 ≤ (a.tmod n + n).tmod n := by
    have := Int.tmod_nonneg (a := a.tmod n + n) n (by omega)
    exact this
  rw [← h8 h11, Int.add_emod_right]
  congr 1
  have := Int.emod_emod_of_dvd a (Int.dvd_refl n)
  by_cases hl : a.tmod n < 0
  · rw [h3 hl]
    rw [← Int.add_emod_right, Int.emod_eq_of_lt (by omega) (by omega)]
  · rw [h4 (by omega)]
    exact Int.emod_eq_of_lt (by omega) (by omega)
def redS (l : Lt) (v : Vc) : Vc := ((v.1 - (v.2 / l.2.2) * l.2.1) % l.1, v.2 % l.2.2)
theorem div_bound {y c : Int} (hc : 1 ≤ c) {B : Int} (hB : 0 ≤ B) (h1 : -B ≤ y) (h2 : y ≤ B) : -B - 1 ≤ y / c ∧ y / c ≤ B := by
  constructor
  · rw [Int.le_ediv_iff_mul_le (by omega)]
    have : (-B - 1) * c ≤ (-B - 1) * 1 := Int.mul_le_mul_of_nonpos_left (by omega) hc
    omega
  · have h := Int.ediv_le_ediv (show 0 < c by omega) h2
    have h3 : B / c ≤ B := Int.ediv_le_self c hB
    omega
theorem sub_mod_tdiv {y c : Int} (hc : 1 ≤ c) : (y - y % c).tdiv c = y / c := by
  have h1 := Int.emod_def y c
  have : y - y % c = c * (y / c) := by omega
  rw [this, Int.mul_comm, Int.mul_tdiv_cancel _ (by omega)]
theorem mul_bound {a b A B : Int} (hA : 0 ≤ A) (ha1 : -A ≤ a) (ha2 : a ≤ A) (hb1 : 0 ≤ b) (hb2 : b ≤ B) : -(A * B) ≤ a * b ∧ a * b ≤ A * B := by
  have h1 : a * b ≤ A * b := Int.mul_le_mul_of_nonneg_right ha2 hb1
  have h2 : A * b ≤ A * B := Int.mul_le_mul_of_nonneg_left hb2 hA
  have h3 : -A * b ≤ a * b := Int.mul_le_mul_of_nonneg_right ha1 hb1
  have h4 : -A * b = -(A * b) := Int.neg_mul A b
  omega
def Sm (v : Vc) : Prop := -1000000000 ≤ v.1 ∧ v.1 ≤ 1000000000 ∧ -1000000000 ≤ v.2 ∧ v.2 ≤ 1000000000
theorem red_calc {l : Lt} (hl : IsL l) {v : Vc} (hv : Sm v) : w (v.1 - (w ((w ((w (v.2 - v.2 % l.2.2)).tdiv l.2.2)) * l.2.1))) = v.1 - (v.2 / l.2.2) * l.2.1 := by
  obtain ⟨a1, a2, c1, c2, b1, b2, ix⟩ := hl
  obtain ⟨v1, v2, v3, v4⟩ := hv
  have h1 := Int.emod_nonneg v.2 (show l.2.2 ≠ 0 by omega)
  have h2 := Int.emod_lt_of_pos v.2 (show 0 < l.2.2 by omega)
  obtain ⟨h3, h4⟩ := div_bound (y := v.2) c1 (B := 1000000000) (by omega) v3 v4
  obtain ⟨h5, h6⟩ := mul_bound (a := v.2 / l.2.2) (b := l.2.1) (A := 1000000001) (B := 64) (by omega) (by omega) (by omega) b1 (by omega)
  rw [w_id (n := v.2 - v.2 % l.2.2) (by omega) (by omega), sub_mod_tdiv c1, w_id (n := v.2 / l.2.2) (by omega) (by omega), w_id (n := v.2 / l.2.2 * l.2.1) (by omega) (by omega), w_id (by omega) (by omega)]
theorem l03Reduce_eq {l : Lt} (hl : IsL l) {v : Vc} (hv : Sm v) : f112G KK l v = some (redS l v) := by
  unfold f112G
  have h0 : (l.2.2 != 0) = true := by have := hl.c1; simp; omega
  rw [l01Mod_eq hl.c1 (by have := hl.c2; omega)]
  simp only [Option.bind_some, h0, cond_true]
  rw [red_calc hl hv, l01Mod_eq hl.a1 (by have := hl.a2; omega)]
  rfl
theorem reduce_eq {l : Lt} (hl : IsL l) {v : Vc} (hv : Sm v) : f159G KK l v = some (redS l v) := by
  unfold f159G
  have h0 : (l.2.2 != 0) = true := by have := hl.c1; simp; omega
  rw [mod_eq hl.c1 (by have := hl.c2; omega)]
  simp only [Option.bind_some, h0, cond_true]
  rw [red_calc hl hv, mod_eq hl.a1 (by have := hl.a2; omega)]
  rfl
theorem redS_bounds {l : Lt} (hl : IsL l) (v : Vc) : 0 ≤ (redS l v).1 ∧ (redS l v).1 < l.1 ∧ 0 ≤ (redS l v).2 ∧ (redS l v).2 < l.2.2 := by
  obtain ⟨a1, a2, c1, c2, b1, b2, ix⟩ := hl
  exact ⟨Int.emod_nonneg _ (by omega), Int.emod_lt_of_pos _ (by omega), Int.emod_nonneg _ (by omega), Int.emod_lt_of_pos _ (by omega)⟩
theorem cell_idx {a c x y : Int} (h1 : 0 ≤ x) (h2 : x < a) (h3 : 0 ≤ y) (h4 : y < c) : 0 ≤ x * c + y ∧ x * c + y < a * c := by
  have e1 : 0 ≤ x * c := Int.mul_nonneg h1 (by omega)
  have e2 : (x + 1) * c ≤ a * c := Int.mul_le_mul_of_nonneg_right (by omega) (by omega)
  have e3 : (x + 1) * c = x * c + c := by rw [Int.add_mul, Int.one_mul]
  omega
def numS (l : Lt) (v : Vc) : Nat := ((redS l v).1 * l.2.2 + (redS l v).2).toNat
theorem num_calc {l : Lt} (hl : IsL l) (v : Vc) : w ((w ((redS l v).1 * l.2.2)) + (redS l v).2) = (numS l v : Int) ∧ (numS l v : Int) < l.1 * l.2.2 := by
  obtain ⟨h1, h2, h3, h4⟩ := redS_bounds hl v
  obtain ⟨h5, h6⟩ := cell_idx h1 h2 h3 h4
  obtain ⟨a1, a2, c1, c2, b1, b2, ix⟩ := hl
  have e1 : 0 ≤ (redS l v).1 * l.2.2 := Int.mul_nonneg h1 (by omega)
  unfold numS
  rw [w_id (n := (redS l v).1 * l.2.2) (by omega) (by omega), w_id (by omega) (by omega)]
  omega
def atS (p : Pt) (v : Vc) : Int := p.2.2.getD (numS p.2.1 v) 0
theorem l09At_eq {p : Pt} (hp : IsP p) {v : Vc} (hv : Sm v) : f135G KK p v = some (atS p v) := by
  unfold f135G f104G
  obtain ⟨h1, h2⟩ := num_calc hp.l v
  rw [l03Reduce_eq hp.l hv]
  simp only [Option.bind_some, h1]
  have h3 : numS p.2.1 v < p.2.2.length := by have := hp.n; omega
  rw [in0, in1 h3, gd h3]
  simp [atS, List.getD, h3]
theorem at_eq {p : Pt} (hp : IsP p) {v : Vc} (hv : Sm v) : f141G KK p v = some (atS p v) := by
  unfold f141G f173G
  obtain ⟨h1, h2⟩ := num_calc hp.l v
  rw [reduce_eq hp.l hv]
  simp only [Option.bind_some, h1]
  have h3 : numS p.2.1 v < p.2.2.length := by have := hp.n; omega
  rw [in0, in1 h3, gd h3]
  simp [atS, List.getD, h3]
end Go.Proofs.Ytbgdojniimdihaa.X
