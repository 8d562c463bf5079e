/- Plain facts: the image of a lattice under a matrix is the lattice itself if its basis stays in it. -/
import Derived.Test.YtbgdojniimdihaaM6
import Derived.KernelRfl
namespace Go.Proofs.Ytbgdojniimdihaa.X
open Go
set_option linter.unusedVariables false
def InL (l : Lt) (v : Vc) : Prop := ∃ i j : Int, v = (i * l.1 + j * l.2.1, j * l.2.2)
theorem InL_clo (l : Lt) : Clo (InL l) := by
  rintro u v k ⟨i, j, rfl⟩ ⟨i', j', rfl⟩
  refine ⟨i + k * i', j + k * j', ?_⟩
  simp only [Int.add_mul, Int.mul_add, Int.mul_assoc]
  congr 1
  omega
theorem redS_InL {l : Lt} (hl : IsL l) (v : Vc) : redS l v = (0, 0) ↔ InL l v := by
  obtain ⟨a1, a2, c1, c2, b1, b2, ix⟩ := hl
  unfold redS
  constructor
  · intro h
    simp only [Prod.mk.injEq] at h
    obtain ⟨h1, h2⟩ := h
    obtain ⟨i, hi⟩ := Int.dvd_of_emod_eq_zero h1
    refine ⟨i, v.2 / l.2.2, ?_⟩
    have h3 := Int.ediv_mul_cancel (Int.dvd_of_emod_eq_zero h2)
    have h4 : i * l.1 = l.1 * i := Int.mul_comm _ _
    refine Prod.ext ?_ h3.symm
    simp only
    omega
  · rintro ⟨i, j, rfl⟩
    simp only
    have h1 : j * l.2.2 / l.2.2 = j := Int.mul_ediv_cancel _ (by omega)
    rw [h1, show i * l.1 + j * l.2.1 - j * l.2.1 = i * l.1 by omega, Int.mul_emod_left, Int.mul_emod_left]
theorem euS_z2 (n : Nat) {a : Vc} (h : a.2 ≠ 0) : euS (n + 2) (0, 0) a = (a, 0) := by
  have h1 : nx (0, 0) a = (0, 0) := by simp [nx]
  simp only [euS, h, if_false, h1, if_true]
theorem Clo_neg {S : Vc → Prop} (hS : Clo S) {v : Vc} (h : S v) : S (-v.1, -v.2) := by
  have := hS v v (-2) h h
  have e1 : v.1 + -2 * v.1 = -v.1 := by omega
  have e2 : v.2 + -2 * v.2 = -v.2 := by omega
  rwa [e1, e2] at this
theorem Clo_abs {S : Vc → Prop} (hS : Clo S) (x : Int) : S ((x.natAbs : Int), 0) ↔ S (x, 0) := by
  rcases Int.natAbs_eq x with h | h
  · rw [← h]
  · constructor
    · intro h1
      have := Clo_neg hS h1
      simp only [Int.neg_zero] at this
      rwa [← h] at this
    · intro h1
      have := Clo_neg hS h1
      simp only [Int.neg_zero] at this
      rw [show (x.natAbs : Int) = -x by omega]
      exact this
/-- the state behind two vectors that span the plane -/
theorem two {a b : Vc} (ha : a.2.natAbs < 1000000) (hb : b.2.natAbs < 1000000) (hd : a.1 * b.2 - b.1 * a.2 ≠ 0) :
    let s := stI (stI (0, 0, 0) a) b
    0 < s.1 ∧ s.1 * (s.2.2.natAbs : Int) = ((a.1 * b.2 - b.1 * a.2).natAbs : Int) ∧ ∀ S : Vc → Prop, Clo S → ((S a ∧ S b) ↔ (S (s.1, 0) ∧ S s.2)) := by
  intro s
  have hs : s = stI (stI (0, 0, 0) a) b := rfl
  by_cases h0 : a.2 = 0
  · have e1 : stI (0, 0, 0) a = ((a.1.natAbs : Int), (0, 0)) := by
      simp only [stI, euS_zero h0, gI, Int.gcd_zero_left]
    have hb0 : b.2 ≠ 0 := by
      intro h; apply hd; rw [h0, h]; simp
    have e2 : euS KK (0, 0) b = (b, 0) := euS_z2 2097150 hb0
    have e3 : s = ((a.1.natAbs : Int), b) := by
      rw [hs, e1]
      simp only [stI, e2, gI]
      congr 1
      simp
    rw [e3]
    have ea : a = (a.1, 0) := by rw [← h0]
    rw [h0] at hd ⊢
    simp only [Int.mul_zero, Int.sub_zero] at hd ⊢
    refine ⟨?_, ?_, ?_⟩
    · have : a.1 ≠ 0 := by rintro h; apply hd; rw [h]; simp
      omega
    · rw [Int.natAbs_mul, Int.natCast_mul]
    · intro S hS
      rw [Clo_abs hS a.1, ← ea]
  · have e1 : stI (0, 0, 0) a = (0, a) := by
      have e2 : euS KK (0, 0) a = (a, 0) := euS_z2 2097150 h0
      simp only [stI, e2, gI]
      rfl
    have e3 : s = (((euS KK a b).2.natAbs : Int), (euS KK a b).1) := by
      rw [hs, e1]
      simp only [stI, gI, Int.gcd_zero_left]
    have hlt := KKlt (n := b.2.natAbs) (by omega)
    have hdet := euS_det KK a b hlt
    rw [e3]
    simp only
    rw [Int.natAbs_mul] at hdet
    refine ⟨?_, ?_, ?_⟩
    · rcases Nat.eq_zero_or_pos (euS KK a b).2.natAbs with h | h
      · rw [h, Nat.zero_mul] at hdet; omega
      · omega
    · rw [← hdet, Int.natCast_mul]
    · intro S hS
      rw [Clo_abs hS]
      constructor
      · rintro ⟨h1, h2⟩
        exact (euS_in hS KK a b hlt h1 h2).symm
      · rintro ⟨h1, h2⟩
        exact euS_out hS KK a b hlt h2 h1
def det2 (a b : Vc) : Int := a.1 * b.2 - b.1 * a.2
theorem fix_iff {l : Lt} (hl : IsL l) {a b : Vc} (ha : a.2.natAbs < 1000000) (hb : b.2.natAbs < 1000000) (hd : (det2 a b).natAbs = l.1 * l.2.2) :
    finR (stI (stI (0, 0, 0) a) b) = l ↔ InL l a ∧ InL l b := by
  obtain ⟨a1, a2, c1, c2, b1, b2, ix⟩ := hl
  have hAC : 0 < l.1 * l.2.2 := Int.mul_pos (by omega) (by omega)
  obtain ⟨hg, hm, hS⟩ := two ha hb (by unfold det2 at hd; omega)
  have hS := hS (InL l) (InL_clo l)
  generalize stI (stI (0, 0, 0) a) b = s at *
  rw [show a.1 * b.2 - b.1 * a.2 = det2 a b from rfl, hd] at hm
  rw [hS]
  have e0 : finR s = (s.1, (if s.2.2 < 0 then -s.2.1 else s.2.1) % s.1, (if s.2.2 < 0 then -s.2.2 else s.2.2)) := by
    unfold finR; rw [if_pos hg]
  rw [e0]
  constructor
  · intro h
    rw [Prod.ext_iff, Prod.ext_iff] at h
    obtain ⟨h1, h2, h3⟩ := h
    simp only at h1 h2 h3
    rw [h1] at h2
    refine ⟨⟨1, 0, by rw [h1]; simp⟩, ?_⟩
    split at h2
    · rename_i hn
      rw [if_pos hn] at h3
      have h4 := Int.emod_def (-s.2.1) l.1
      refine ⟨-(-s.2.1 / l.1), -1, ?_⟩
      have h5 : l.1 * (-s.2.1 / l.1) = (-s.2.1 / l.1) * l.1 := Int.mul_comm _ _
      rw [Int.neg_mul]
      refine Prod.ext ?_ ?_ <;> simp only <;> omega
    · rename_i hn
      rw [if_neg hn] at h3
      have h4 := Int.emod_def s.2.1 l.1
      refine ⟨s.2.1 / l.1, 1, ?_⟩
      have h5 : l.1 * (s.2.1 / l.1) = (s.2.1 / l.1) * l.1 := Int.mul_comm _ _
      refine Prod.ext ?_ ?_ <;> simp only <;> omega
  · rintro ⟨⟨i, j, h1⟩, ⟨i', j', h2⟩⟩
    have h3 : s.1 = i * l.1 + j * l.2.1 := congrArg (fun x : Vc => x.1) h1
    have h4 : (0 : Int) = j * l.2.2 := congrArg (fun x : Vc => x.2) h1
    have h5 : s.2.1 = i' * l.1 + j' * l.2.1 := congrArg (fun x : Vc => x.1) h2
    have h6 : s.2.2 = j' * l.2.2 := congrArg (fun x : Vc => x.2) h2
    have hj : j = 0 := by
      rcases Int.mul_eq_zero.mp h4.symm with h | h
      · exact h
      · omega
    subst hj
    rw [Int.zero_mul, Int.add_zero] at h3
    have hi : 1 ≤ i := by
      rcases Int.lt_or_le i 1 with h | h
      · have : i * l.1 ≤ 0 := Int.mul_nonpos_of_nonpos_of_nonneg (by omega) (by omega)
        omega
      · exact h
    have h7 : (s.2.2.natAbs : Int) = (j'.natAbs : Int) * l.2.2 := by
      rw [h6, Int.natAbs_mul, Int.natCast_mul]
      congr 1
      omega
    have hj' : 1 ≤ (j'.natAbs : Int) := by
      rcases Int.lt_or_le (j'.natAbs : Int) 1 with h | h
      · have : (j'.natAbs : Int) = 0 := by omega
        rw [this, Int.zero_mul] at h7
        rw [h7, Int.mul_zero] at hm
        omega
      · exact h
    have h8 : i * (j'.natAbs : Int) * (l.1 * l.2.2) = l.1 * l.2.2 := by
      have e : i * (j'.natAbs : Int) * (l.1 * l.2.2) = (i * l.1) * ((j'.natAbs : Int) * l.2.2) := by ac_rfl
      rw [e, ← h3, ← h7, hm]
    have h9 : i * (j'.natAbs : Int) = 1 := by
      have : i * (j'.natAbs : Int) * (l.1 * l.2.2) = 1 * (l.1 * l.2.2) := by rw [h8, Int.one_mul]
      exact Int.eq_of_mul_eq_mul_right (by omega) this
    have hi1 : i = 1 := by
      have := Int.mul_le_mul_of_nonneg_left hj' (show 0 ≤ i by omega)
      omega
    subst hi1
    rw [Int.one_mul] at h9 h3
    have e1 : (i' * l.1 + l.2.1) % l.1 = l.2.1 := by
      rw [Int.add_comm, Int.add_mul_emod_self_right, Int.emod_eq_of_lt b1 b2]
    have e2 : (-i' * l.1 + l.2.1) % l.1 = l.2.1 := by
      rw [Int.add_comm, Int.add_mul_emod_self_right, Int.emod_eq_of_lt b1 b2]
    have hjc : j' = 1 ∨ j' = -1 := by omega
    rcases hjc with rfl | rfl
    · rw [Int.one_mul] at h6 h5
      have hn : ¬ s.2.2 < 0 := by omega
      rw [if_neg hn, if_neg hn, h3, h5, h6, e1]
    · have hn : s.2.2 < 0 := by omega
      have e9 : -i' * l.1 = -(i' * l.1) := Int.neg_mul _ _
      rw [if_pos hn, if_pos hn, h3, h5, h6, show -(i' * l.1 + -1 * l.2.1) = -i' * l.1 + l.2.1 by omega, e2]
      have : -(-1 * l.2.2) = l.2.2 := by omega
      rw [this]
structure Bw (v : Vc) : Prop where
  x : v.1.natAbs ≤ 200
  y : v.2.natAbs ≤ 200
theorem mod_abs {a x : Int} {B : Nat} (h : x.natAbs ≤ B) (ha : a.natAbs ≤ B) : (if a > 0 then x % a else x).natAbs ≤ B := by
  split
  · rename_i h1
    have h3 := Int.emod_nonneg x (show a ≠ 0 by omega)
    have h4 := Int.emod_lt_of_pos x h1
    omega
  · exact h
theorem herm2_eq {a b : Vc} (ha : Bw a) (hb : Bw b) : f138G KK [a, b] = some (finR (stI (stI (0, 0, 0) a) b)) := by
  have hrl := Rl_fin (Rl_fold [a, b] (s := (0, 0, 0)) (r := (0, 0, 0)) ⟨rfl, by simp, rfl, by simp⟩)
  have hB0 : Bd 200 (0, 0) a := ⟨by simp, ha.x, by simp [Dv]⟩
  have hla := KKlt (n := a.2.natAbs) (by have := ha.y; omega)
  have hlb := KKlt (n := b.2.natAbs) (by have := hb.y; omega)
  obtain ⟨k1, k2⟩ := euS_bd KK (0, 0) a hla hB0
  have k3 := euS_gcd KK (0, 0) a hla
  have k4 : gI 0 (euS KK (0, 0) a).2 ≤ 200 := by unfold gI; simp only [Int.gcd_zero_left]; omega
  have s1y : (stR (0, 0, 0) a).2.2.natAbs ≤ 200 := by
    show (euS KK (0, 0) a).1.2.natAbs ≤ 200
    simp at k3; have := ha.y; omega
  have s1x : (stR (0, 0, 0) a).2.1.natAbs ≤ 200 := mod_abs k1 (by have := gI_pos 0 (euS KK (0, 0) a).2; show (gI 0 (euS KK (0, 0) a).2).natAbs ≤ 200; omega)
  have s1a : (stR (0, 0, 0) a).1 ≤ 200 := k4
  have s1p : 0 ≤ (stR (0, 0, 0) a).1 := gI_pos _ _
  have hB1 : Bd 80000 (stR (0, 0, 0) a).2 b := by
    refine ⟨by omega, by have := hb.x; omega, ?_⟩
    unfold Dv
    have e1 := Nat.mul_le_mul s1x hb.y
    have e2 := Nat.mul_le_mul hb.x s1y
    omega
  obtain ⟨m1, m2⟩ := euS_bd KK _ b hlb hB1
  have m3 := euS_gcd KK (stR (0, 0, 0) a).2 b hlb
  have m4 : gI (stR (0, 0, 0) a).1 (euS KK (stR (0, 0, 0) a).2 b).2 ≤ 80000 := by
    rcases Int.lt_or_le (stR (0, 0, 0) a).1 1 with h | h
    · have : (stR (0, 0, 0) a).1 = 0 := by omega
      rw [this]; unfold gI; simp only [Int.gcd_zero_left]; omega
    · have := gI_le (x := (euS KK (stR (0, 0, 0) a).2 b).2) h; omega
  have m5 := gI_pos (stR (0, 0, 0) a).1 (euS KK (stR (0, 0, 0) a).2 b).2
  have e := hermite_eq [a, b] (by simp) (fun q s => s = ([a, b].take q).foldl stR (0, 0, 0)) rfl
    (fun q s hq h => by
      match q, hq with
      | 0, _ =>
        subst h
        refine ⟨⟨⟨by simp, by have := ha.x; simp; omega, by simp [Dv]⟩, by simp, by have := ha.y; simp; omega, by simp, ?_⟩, rfl⟩
        show gI 0 (euS KK (0, 0) a).2 ≤ _
        omega
      | 1, _ =>
        subst h
        refine ⟨⟨⟨?_, ?_, ?_⟩, ?_, ?_, ?_, ?_⟩, rfl⟩
        · have := hB1.bp; show (stR (0, 0, 0) a).2.1.natAbs ≤ _; omega
        · have := hB1.bv; show b.1.natAbs ≤ _; omega
        · have := hB1.d; show Dv (stR (0, 0, 0) a).2 b ≤ _; omega
        · show (stR (0, 0, 0) a).2.2.natAbs ≤ _; omega
        · show b.2.natAbs ≤ _; have := hb.y; omega
        · show (stR (0, 0, 0) a).1.natAbs ≤ _; omega
        · show gI (stR (0, 0, 0) a).1 (euS KK (stR (0, 0, 0) a).2 b).2 ≤ _; omega)
    (fun s h => by
      subst h
      have y2 : (euS KK (stR (0, 0, 0) a).2 b).1.2.natAbs ≤ 200 := by
        rw [m3]
        rcases Nat.eq_zero_or_pos b.2.natAbs with h | h
        · rw [h, Nat.gcd_zero_right]; exact s1y
        · have := Nat.gcd_le_right (m := (stR (0, 0, 0) a).2.2.natAbs) h; have := hb.y; omega
      refine ⟨?_, ?_, ?_⟩
      · show gI (stR (0, 0, 0) a).1 (euS KK (stR (0, 0, 0) a).2 b).2 ≤ _; omega
      · have := mod_abs (a := gI (stR (0, 0, 0) a).1 (euS KK (stR (0, 0, 0) a).2 b).2) m1 (by omega)
        show (stR (stR (0, 0, 0) a) b).2.1.natAbs ≤ _
        unfold stR at this ⊢
        exact Nat.le_trans this (by omega)
      · show (euS KK (stR (0, 0, 0) a).2 b).1.2.natAbs ≤ _; omega)
  rw [e, ← hrl]
  rfl
end Go.Proofs.Ytbgdojniimdihaa.X
