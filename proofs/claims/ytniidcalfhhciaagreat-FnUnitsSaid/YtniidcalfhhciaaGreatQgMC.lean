/- Plain facts: the image of a lattice under a matrix is the lattice itself if its basis stays in it. -/
import Derived.Test.YtniidcalfhhciaaGreatQgMB
import Derived.KernelRfl
namespace Go.Proofs.YtniidcalfhhciaaGreat.X
open Go
set_option linter.unusedSimpArgs false
set_option linter.unusedVariables false
def InL (l : Lt) (v : Vc) : Prop := ∃ i j : Int, v = (i * l.1 + j * l.2.1, j * l.2.2)
theorem InL_clo (l : Lt) : Clo (InL l) := by
 rintro u v k ⟨i, j, rfl⟩ ⟨i', j', rfl⟩
 refine ⟨i + k * i', j + k * j', ?_⟩
 simp only [Int.add_mul, Int.mul_add, Int.mul_assoc]
 congr 1
 omega
theorem redS_InL {l : Lt} (hl : IsL l) (v : Vc) : redS l v = (0, 0) ↔ InL l v := by
 obtain ⟨a1, a2, c1, c2, b1, b2, ix⟩ := hl
 unfold redS
 constructor
 ·intro h
  simp only [Prod.mk.injEq] at h
  obtain ⟨h1, h2⟩ := h
  obtain ⟨i, hi⟩ := Int.dvd_of_emod_eq_zero h1
  refine ⟨i, v.2 / l.2.2, ?_⟩
  have h3 := Int.ediv_mul_cancel (Int.dvd_of_emod_eq_zero h2)
  have h4 : i * l.1 = l.1 * i := Int.mul_comm _ _
  refine Prod.ext ?_ h3.symm
  simp only
  omega
 ·rintro ⟨i, j, rfl⟩
  simp only
  have h1 : j * l.2.2 / l.2.2 = j := Int.mul_ediv_cancel _ (by omega)
  rw [h1, show i * l.1 + j * l.2.1 - j * l.2.1 = i * l.1 by omega, Int.mul_emod_left, Int.mul_emod_left]
theorem euS_z2 (n : Nat) {a : Vc} (h : a.2 ≠ 0) : euS (n + 2) (0, 0) a = (a, 0) := by
 have h1 : nx (0, 0) a = (0, 0) := by simp [nx]
 simp only [euS, h, if_false, h1, if_true]
theorem Clo_neg {S : Vc → Prop} (hS : Clo S) {v : Vc} (h : S v) : S (-v.1, -v.2) := by
 have := hS v v (-2) h h
 have e1 : v.1 + -2 * v.1 = -v.1 := by omega
 have e2 : v.2 + -2 * v.2 = -v.2 := by omega
 rwa [e1, e2] at this
theorem Clo_abs {S : Vc → Prop} (hS : Clo S) (x : Int) : S ((x.natAbs : Int), 0) ↔ S (x, 0) := by
 rcases Int.natAbs_eq x with h | h
 ·rw [← h]
 ·constructor
  ·intro h1
   have := Clo_neg hS h1
   simp only [Int.neg_zero] at this
   rwa [← h] at this
  ·intro h1
   have := Clo_neg hS h1
   simp only [Int.neg_zero] at this
   rw [show (x.natAbs : Int) = -x by omega]
   exact this
/-- the state behind two vectors that span the plane -/
theorem two {a b : Vc} (ha : a.2.natAbs < 1000000) (hb : b.2.natAbs < 1000000) (hd : a.1 * b.2 - b.1 * a.2 ≠ 0) :
  let s := stI (stI (0, 0, 0) a) b
  0 < s.1 ∧ s.1 * (s.2.2.natAbs : Int) = ((a.1 * b.2 - b.1 * a.2).natAbs : Int) ∧ ∀ S : Vc → Prop, Clo S → ((S a ∧ S b) ↔ (S (s.1, 0) ∧ S s.2)) := by
 intro s
 have hs : s = stI (stI (0, 0, 0) a) b := rfl
 by_cases h0 : a.2 = 0
 ·have e1 : stI (0, 0, 0) a = ((a.1.natAbs : Int), (0, 0)) := by
   simp only [stI, euS_zero h0, gI, Int.gcd_zero_left]
  have hb0 : b.2 ≠ 0 := by
   intro h; apply hd; rw [h0, h]; simp
  have e2 : euS KK (0, 0) b = (b, 0) := euS_z2 2097150 hb0
  have e3 : s = ((a.1.natAbs : Int), b) := by
   rw [hs, e1]
   simp only [stI, e2, gI]
   congr 1
   simp
  rw [e3]
  have ea : a = (a.1, 0) := by rw [← h0]
  rw [h0] at hd ⊢
  simp only [Int.mul_zero, Int.sub_zero] at hd ⊢
  refine ⟨?_, ?_, ?_⟩
  ·have : a.1 ≠ 0 := by rintro h; apply hd; rw [h]; simp
   omega
  ·rw [Int.natAbs_mul, Int.natCast_mul]
  ·intro S hS
   rw [Clo_abs hS a.1, ← ea]
 ·have e1 : stI (0, 0, 0) a = (0, a) := by
   have e2 : euS KK (0, 0) a = (a, 0) := euS_z2 2097150 h0
   simp only [stI, e2, gI]
   rfl
  have e3 : s = (((euS KK a b).2.natAbs : Int), (euS KK a b).1) := by
   rw [hs, e1]
   simp only [stI, gI, Int.gcd_zero_left]
  have hlt := KKlt (n := b.2.natAbs) (by omega)
  have hdet := euS_det KK a b hlt
  rw [e3]
  simp only
  rw [Int.natAbs_mul] at hdet
  refine ⟨?_, ?_, ?_⟩
  ·rcases Nat.eq_zero_or_pos (euS KK a b).2.natAbs with h | h
   ·rw [h, Nat.zero_mul] at hdet; omega
   ·omega
  ·rw [← hdet, Int.natCast_mul]
  ·intro S hS
   rw [Clo_abs hS]
   constructor
   ·rintro ⟨h1, h2⟩
    exact (euS_in hS KK a b hlt h1 h2).symm
   ·rintro ⟨h1, h2⟩
    exact euS_out hS KK a b hlt h2 h1
def det2 (a b : Vc) : Int := a.1 * b.2 - b.1 * a.2
theorem fix_iff {l : Lt} (hl : IsL l) {a b : Vc} (ha : a.2.natAbs < 1000000) (hb : b.2.natAbs < 1000000) (hd : (det2 a b).natAbs = l.1 * l.2.2) :
  finR (stI (stI (0, 0, 0) a) b) = l ↔ InL l a ∧ InL l b := by
 obtain ⟨a1, a2, c1, c2, b1, b2, ix⟩ := hl
 have hAC : 0 < l.1 * l.2.2 := Int.mul_pos (by omega) (by omega)
 obtain ⟨hg, hm, hS⟩ := two ha hb (by unfold det2 at hd; omega)
 have hS := hS (InL l) (InL_clo l)
 generalize stI (stI (0, 0, 0) a) b = s at *
 rw [show a.1 * b.2 - b.1 * a.2 = det2 a b from rfl, hd] at hm
 rw [hS]
 have e0 : finR s = (s.1, (if s.2.2 < 0 then -s.2.1 else s.2.1) % s.1, (if s.2.2 < 0 then -s.2.2 else s.2.2)) := by
  unfold finR; rw [if_pos hg]
 rw [e0]
 constructor
 ·intro h
  rw [Prod.ext_iff, Prod.ext_iff] at h
  obtain ⟨h1, h2, h3⟩ := h
  simp only at h1 h2 h3
  rw [h1] at h2
  refine ⟨⟨1, 0, by rw [h1]; simp⟩, ?_⟩
  split at h2
  ·rename_i hn
   rw [if_pos hn] at h3
   have h4 := Int.emod_def (-s.2.1) l.1
   refine ⟨-(-s.2.1 / l.1), -1, ?_⟩
   have h5 : l.1 * (-s.2.1 / l.1) = (-s.2.1 / l.1) * l.1 := Int.mul_comm _ _
   rw [Int.neg_mul]
   refine Prod.ext ?_ ?_ <;> simp only <;> omega
  ·rename_i hn
   rw [if_neg hn] at h3
   have h4 := Int.emod_def s.2.1 l.1
   refine ⟨s.2.1 / l.1, 1, ?_⟩
   have h5 : l.1 * (s.2.1 / l.1) = (s.2.1 / l.1) * l.1 := Int.mul_comm _ _
   refine Prod.ext ?_ ?_ <;> simp only <;> omega
 ·rintro ⟨⟨i, j, h1⟩, ⟨i', j', h2⟩⟩
  have h3 : s.1 = i * l.1 + j * l.2.1 := congrArg (fun x : Vc => x.1) h1
  have h4 : (0 : Int) = j * l.2.2 := congrArg (fun x : Vc => x.2) h1
  have h5 : s.2.1 = i' * l.1 + j' * l.2.1 := congrArg (fun x : Vc => x.1) h2
  have h6 : s.2.2 = j' * l.2.2 := congrArg (fun x : Vc => x.2) h2
  have hj : j = 0 := by
   rcases Int.mul_eq_zero.mp h4.symm with h | h
   ·exact h
   ·omega
  subst hj
  rw [Int.zero_mul, Int.add_zero] at h3
  have hi : 1 ≤ i := by
   rcases Int.lt_or_le i 1 with h | h
   ·have : i * l.1 ≤ 0 := Int.mul_nonpos_of_nonpos_of_nonneg (by omega) (by omega)
    omega
   ·exact h
  have h7 : (s.2.2.natAbs : Int) = (j'.natAbs : Int) * l.2.2 := by
   rw [h6, Int.natAbs_mul, Int.natCast_mul]
   congr 1
   omega
  have hj' : 1 ≤ (j'.natAbs : Int) := by
   rcases Int.lt_or_le (j'.natAbs : Int) 1 with h | h
   ·have : (j'.natAbs : Int) = 0 := by omega
    rw [this, Int.zero_mul] at h7
    rw [h7, Int.mul_zero] at hm
    omega
   ·exact h
  have h8 : i * (j'.natAbs : Int) * (l.1 * l.2.2) = l.1 * l.2.2 := by
   have e : i * (j'.natAbs : Int) * (l.1 * l.2.2) = (i * l.1) * ((j'.natAbs : Int) * l.2.2) := by ac_rfl
   rw [e, ← h3, ← h7, hm]
  have h9 : i * (j'.natAbs : Int) = 1 := by
   have : i * (j'.natAbs : Int) * (l.1 * l.2.2) = 1 * (l.1 * l.2.2) := by rw [h8, Int.one_mul]
   exact Int.eq_of_mul_eq_mul_right (by omega) this
  have hi1 : i = 1 := by
   have := Int.mul_le_mul_of_nonneg_left hj' (show 0 ≤ i by omega)
   omega
  subst hi1
  rw [Int.one_mul] at h9 h3
  have e1 : (i' * l.1 + l.2.1) % l.1 = l.2.1 := by
   rw [Int.add_comm, Int.add_mul_emod_self_right, Int.emod_eq_of_lt b1 b2]
  have e2 : (-i' * l.1 + l.2.1) % l.1 = l.2.1 := by
   rw [Int.add_comm, Int.add_mul_emod_self_right, Int.emod_eq_of_lt b1 b2]
  have hjc : j' = 1 ∨ j' = -1 := by omega
  rcases hjc with rfl | rfl
  ·rw [Int.one_mul] at h6 h5
   have hn : ¬ s.2.2 < 0 := by omega
   rw [if_neg hn, if_neg hn, h3, h5, h6, e1]
  ·have hn : s.2.2 < 0 := by omega
   have e9 : -i' * l.1 = -(i' * l.1) := Int.neg_mul _ _
   rw [if_pos hn, if_pos hn, h3, h5, h6, show -(i' * l.1 + -1 * l.2.1) = -i' * l.1 + l.2.1 by omega, e2]
   have : -(-1 * l.2.2) = l.2.2 := by omega
   rw [this]
structure Bw (v : Vc) : Prop where
 x : v.1.natAbs ≤ 200
 y : v.2.natAbs ≤ 200
theorem mod_abs {a x : Int} {B : Nat} (h : x.natAbs ≤ B) (ha : a.natAbs ≤ B) : (if a > 0 then x % a else x).natAbs ≤ B := by
 split
 ·rename_i h1
  have h3 := Int.emod_nonneg x (show a ≠ 0 by omega)
  have h4 := Int.emod_lt_of_pos x h1
  omega
 ·exact h
theorem herm2_eq {a b : Vc} (ha : Bw a) (hb : Bw b) : f296G KK [a, b] = some (finR (stI (stI (0, 0, 0) a) b)) := by
 have hrl := Rl_fin (Rl_fold [a, b] (s := (0, 0, 0)) (r := (0, 0, 0)) ⟨rfl, by simp, rfl, by simp⟩)
 have hB0 : Bd 200 (0, 0) a := ⟨by simp, ha.x, by simp [Dv]⟩
 have hla := KKlt (n := a.2.natAbs) (by have := ha.y; omega)
 have hlb := KKlt (n := b.2.natAbs) (by have := hb.y; omega)
 obtain ⟨k1, k2⟩ := euS_bd KK (0, 0) a hla hB0
 have k3 := euS_gcd KK (0, 0) a hla
 have k4 : gI 0 (euS KK (0, 0) a).2 ≤ 200 := by unfold gI; simp only [Int.gcd_zero_left]; omega
 have s1y : (stR (0, 0, 0) a).2.2.natAbs ≤ 200 := by
  show (euS KK (0, 0) a).1.2.natAbs ≤ 200
  simp at k3; have := ha.y; omega
 have s1x : (stR (0, 0, 0) a).2.1.natAbs ≤ 200 := mod_abs k1 (by have := gI_pos 0 (euS KK (0, 0) a).2; show (gI 0 (euS KK (0, 0) a).2).natAbs ≤ 200; omega)
 have s1a : (stR (0, 0, 0) a).1 ≤ 200 := k4
 have s1p : 0 ≤ (stR (0, 0, 0) a).1 := gI_pos _ _
 have hB1 : Bd 80000 (stR (0, 0, 0) a).2 b := by
  refine ⟨by omega, by have := hb.x; omega, ?_⟩
  unfold Dv
  have e1 := Nat.mul_le_mul s1x hb.y
  have e2 := Nat.mul_le_mul hb.x s1y
  omega
 obtain ⟨m1, m2⟩ := euS_bd KK _ b hlb hB1
 have m3 := euS_gcd KK (stR (0, 0, 0) a).2 b hlb
 have m4 : gI (stR (0, 0, 0) a).1 (euS KK (stR (0, 0, 0) a).2 b).2 ≤ 80000 := by
  rcases Int.lt_or_le (stR (0, 0, 0) a).1 1 with h | h
  ·have : (stR (0, 0, 0) a).1 = 0 := by omega
   rw [this]; unfold gI; simp only [Int.gcd_zero_left]; omega
  ·have := gI_le (x := (euS KK (stR (0, 0, 0) a).2 b).2) h; omega
 have m5 := gI_pos (stR (0, 0, 0) a).1 (euS KK (stR (0, 0, 0) a).2 b).2
 have e := hermite_eq [a, b] (by simp) (fun q s => s = ([a, b].take q).foldl stR (0, 0, 0)) rfl
  (fun q s hq h => by
   match q, hq with
   | 0, _ =>
    subst h
    refine ⟨⟨⟨by simp, by have := ha.x; simp; omega, by simp [Dv]⟩, by simp, by have := ha.y; simp; omega, by simp, ?_⟩, rfl⟩
    show gI 0 (euS KK (0, 0) a).2 ≤ _
    omega
   | 1, _ =>
    subst h
    refine ⟨⟨⟨?_, ?_, ?_⟩, ?_, ?_, ?_, ?_⟩, rfl⟩
    ·have := hB1.bp; show (stR (0, 0, 0) a).2.1.natAbs ≤ _; omega
    ·have := hB1.bv; show b.1.natAbs ≤ _; omega
    ·have := hB1.d; show Dv (stR (0, 0, 0) a).2 b ≤ _; omega
    ·show (stR (0, 0, 0) a).2.2.natAbs ≤ _; omega
    ·show b.2.natAbs ≤ _; have := hb.y; omega
    ·show (stR (0, 0, 0) a).1.natAbs ≤ _; omega
    ·show gI (stR (0, 0, 0) a).1 (euS KK (stR (0, 0, 0) a).2 b).2 ≤ _; omega)
  (fun s h => by
   subst h
   have y2 : (euS KK (stR (0, 0, 0) a).2 b).1.2.natAbs ≤ 200 := by
    rw [m3]
    rcases Nat.eq_zero_or_pos b.2.natAbs with h | h
    ·rw [h, Nat.gcd_zero_right]; exact s1y
    ·have := Nat.gcd_le_right (m := (stR (0, 0, 0) a).2.2.natAbs) h; have := hb.y; omega
   refine ⟨?_, ?_, ?_⟩
   ·show gI (stR (0, 0, 0) a).1 (euS KK (stR (0, 0, 0) a).2 b).2 ≤ _; omega
   ·have := mod_abs (a := gI (stR (0, 0, 0) a).1 (euS KK (stR (0, 0, 0) a).2 b).2) m1 (by omega)
    show (stR (stR (0, 0, 0) a) b).2.1.natAbs ≤ _
    unfold stR at this ⊢
    exact Nat.le_trans this (by omega)
   ·show (euS KK (stR (0, 0, 0) a).2 b).1.2.natAbs ≤ _; omega)
 rw [e, ← hrl]
 rfl
end Go.Proofs.YtniidcalfhhciaaGreat.X
/-! Plain facts: the matrices that keep a lattice, and the group of a pattern. -/
namespace Go.Proofs.YtniidcalfhhciaaGreat.X
open Go
set_option linter.unusedVariables false
def pmQ : List Mt := [(-1, 0, 0, -1), (-1, 0, 0, 1), (0, -1, -1, 0), (0, -1, 1, 0), (0, 1, -1, 0), (0, 1, 1, 0), (1, 0, 0, -1), (1, 0, 0, 1)]
def pmH : List Mt := [(-1, -1, 0, 1), (-1, -1, 1, 0), (-1, 0, 0, -1), (-1, 0, 1, 1), (0, -1, -1, 0), (0, -1, 1, 1), (0, 1, -1, -1), (0, 1, 1, 0), (1, 0, -1, -1), (1, 0, 0, 1), (1, 1, -1, 0), (1, 1, 0, -1)]
def pmS (f : Int) : List Mt := if f = 0 then pmQ else pmH
theorem l04Mats_0 : f336G KK 0 = some pmQ := by kernel_rfl
theorem l04Mats_1 : f336G KK 1 = some pmH := by kernel_rfl
theorem pointMats_0 : f280G KK 0 = some pmQ := by kernel_rfl
theorem pointMats_1 : f280G KK 1 = some pmH := by kernel_rfl
theorem l04Mats_eq {f : Int} (h1 : 0 ≤ f) (h2 : f ≤ 1) : f336G KK f = some (pmS f) := by
 have : f = 0 ∨ f = 1 := by omega
 rcases this with rfl | rfl
 ·exact l04Mats_0
 ·exact l04Mats_1
theorem pointMats_eq {f : Int} (h1 : 0 ≤ f) (h2 : f ≤ 1) : f280G KK f = some (pmS f) := by
 have : f = 0 ∨ f = 1 := by omega
 rcases this with rfl | rfl
 ·exact pointMats_0
 ·exact pointMats_1
def detS (m : Mt) : Int := m.1 * m.2.2.2 - m.2.1 * m.2.2.1
theorem pm_all : ∀ m ∈ pmQ ++ pmH, (-1 ≤ m.1 ∧ m.1 ≤ 1) ∧ (-1 ≤ m.2.1 ∧ m.2.1 ≤ 1) ∧ (-1 ≤ m.2.2.1 ∧ m.2.2.1 ≤ 1) ∧ (-1 ≤ m.2.2.2 ∧ m.2.2.2 ≤ 1) ∧ (detS m = 1 ∨ detS m = -1) := by decide +kernel
theorem pmS_mem {f : Int} {m : Mt} (h : m ∈ pmS f) : m ∈ pmQ ++ pmH := by
 unfold pmS at h
 split at h
 ·exact List.mem_append_left _ h
 ·exact List.mem_append_right _ h
theorem pm_sm {m : Mt} (h : m ∈ pmQ ++ pmH) : SmM m := by
 obtain ⟨h1, h2, h3, h4, _⟩ := pm_all m h
 exact ⟨h1, h2, h3, h4⟩
theorem pm_det {m : Mt} (h : m ∈ pmQ ++ pmH) : detS m = 1 ∨ detS m = -1 := (pm_all m h).2.2.2.2
theorem pmS_len (f : Int) : (pmS f).length ≤ 12 := by
 unfold pmS; split <;> decide
/-- a basis vector stays in the lattice -/
def stayS (l : Lt) (m : Mt) : Bool := (redS l (mulS m (l.1, 0)) == (0, 0)) && (redS l (mulS m l.2) == (0, 0))
theorem basis_Sv {l : Lt} (hl : IsL l) : Sv (l.1, 0) ∧ Sv l.2 := by
 obtain ⟨a1, a2, c1, c2, b1, b2, ix⟩ := hl
 simp only [Sv]; omega
theorem mul_Bw {l : Lt} (hl : IsL l) {m : Mt} (hm : SmM m) : Bw (mulS m (l.1, 0)) ∧ Bw (mulS m l.2) := by
 obtain ⟨a1, a2, c1, c2, b1, b2, ix⟩ := hl
 have p1 := unit_mul hm.a (x := l.1) (B := 64) (by omega) (by omega) (by omega)
 have p2 := unit_mul hm.c (x := l.1) (B := 64) (by omega) (by omega) (by omega)
 have p3 := unit_mul hm.a (x := l.2.1) (B := 64) (by omega) (by omega) (by omega)
 have p4 := unit_mul hm.b (x := l.2.2) (B := 64) (by omega) (by omega) (by omega)
 have p5 := unit_mul hm.c (x := l.2.1) (B := 64) (by omega) (by omega) (by omega)
 have p6 := unit_mul hm.d (x := l.2.2) (B := 64) (by omega) (by omega) (by omega)
 simp only [mulS, Int.mul_zero, Int.add_zero]
 exact ⟨⟨by simp only; omega, by simp only; omega⟩, ⟨by simp only; omega, by simp only; omega⟩⟩
theorem det_mul (l : Lt) (m : Mt) : det2 (mulS m (l.1, 0)) (mulS m l.2) = detS m * (l.1 * l.2.2) := by
 simp only [det2, mulS, detS, Int.mul_zero, Int.add_zero, Int.mul_add, Int.add_mul, Int.sub_mul]
 have e1 : m.1 * l.1 * (m.2.2.1 * l.2.1) = m.1 * l.2.1 * (m.2.2.1 * l.1) := by ac_rfl
 have e2 : m.1 * m.2.2.2 * (l.1 * l.2.2) = m.1 * l.1 * (m.2.2.2 * l.2.2) := by ac_rfl
 have e3 : m.2.1 * m.2.2.1 * (l.1 * l.2.2) = m.2.1 * l.2.2 * (m.2.2.1 * l.1) := by ac_rfl
 omega
theorem stay_iff {l : Lt} (hl : IsL l) {m : Mt} (hm : m ∈ pmQ ++ pmH) : finR (stI (stI (0, 0, 0) (mulS m (l.1, 0))) (mulS m l.2)) = l ↔ stayS l m = true := by
 obtain ⟨b1, b2⟩ := mul_Bw hl (pm_sm hm)
 rw [fix_iff hl (by have := b1.y; omega) (by have := b2.y; omega) ?_]
 ·unfold stayS
  rw [Bool.and_eq_true, beq_iff_eq, beq_iff_eq, redS_InL hl, redS_InL hl]
 ·rw [det_mul]
  have h0 : 0 < l.1 * l.2.2 := Int.mul_pos (by have := hl.a1; omega) (by have := hl.c1; omega)
  rcases pm_det hm with h | h <;> rw [h] <;> omega
theorem l04Image_eq {l : Lt} (hl : IsL l) {m : Mt} (hm : SmM m) : f303G KK m l = some (finR (stI (stI (0, 0, 0) (mulS m (l.1, 0))) (mulS m l.2))) := by
 unfold f303G f295G
 simp only [Option.bind_some]
 have e1 : ([(l.1, (0 : Int)), l.2].getD ((0 : Int) + (0 : Int)).toNat ((0 : Int), (0 : Int))) = (l.1, 0) := rfl
 have e2 : ([(l.1, (0 : Int)), l.2].getD ((0 : Int) + (1 : Int)).toNat ((0 : Int), (0 : Int))) = l.2 := rfl
 obtain ⟨s1, s2⟩ := basis_Sv hl
 obtain ⟨b1, b2⟩ := mul_Bw hl hm
 rw [e1, e2, l02Apply_eq hm s1, l02Apply_eq hm s2]
 simp only [Option.bind_some]
 rw [herm2_eq b1 b2]
 rfl
def stabS (f : Int) (l : Lt) : List Mt := (pmS f).filter (stayS l)
theorem l04Stable_eq {f : Int} (h1 : 0 ≤ f) (h2 : f ≤ 1) {l : Lt} (hl : IsL l) : f264G KK f l = some (stabS f l) := by
 unfold f264G f264_g
 rw [l04Mats_eq h1 h2]
 simp only [Option.bind_some]
 have hc := pmS_len f
 have h := iter_fold (X := Int × List Mt) (body := fun L x => f264_b4 KK f l (pmS f) (fun v0 v1 => L (v0, v1)) x.1 x.2) (pmS f) (fun q s => ((q : Int), s)) (fun s m => bif stayS l m then s ++ [m] else s) (fun s => some s) (fun q s => s.length ≤ q)
  (fun L q s hq hi => by
   have hm := pmS_mem (List.getElem_mem hq)
   refine ⟨?_, ?_⟩
   ·cases stayS l (pmS f)[q] <;> simp <;> omega
   unfold f264_b4
   simp only
   rw [in1 hq, in0, gd hq]
   simp only [Bool.and_self, cond_true]
   rw [l04Image_eq hl (m := (pmS f)[q]) (pm_sm hm), Option.bind_some, blim32 (by simp; omega), w_succ (by omega)]
   have hst := stay_iff hl hm
   generalize finR (stI (stI (0, 0, 0) (mulS (pmS f)[q] (l.1, 0))) (mulS (pmS f)[q] l.2)) = r at *
   have hr : ((r.1 == l.1) && ((r.2.1 == l.2.1) && (r.2.2 == l.2.2))) = stayS l (pmS f)[q] := by
    rw [Bool.eq_iff_iff, ← hst]
    simp only [Bool.and_eq_true, beq_iff_eq]
    rw [Prod.ext_iff, Prod.ext_iff]
   rw [hr]
   cases stayS l (pmS f)[q] <;> rfl)
  (fun L s hi => by
   unfold f264_b4
   simp only
   rw [out1, cond_false]) KK 0 [] (by omega) (by have := KKlt (n := (pmS f).length) (by omega); omega) (by simp)
 unfold f264_l4
 refine h.trans ?_
 simp only [List.drop_zero]
 have := foldl_filter (stayS l) (fun t : Mt => t) (pmS f) []
 rw [List.map_id', List.nil_append] at this
 exact congrArg some this
theorem has_eq {l : Lt} (hl : IsL l) {v : Vc} (hv : Sm v) : f339G KK l v = some (redS l v == (0, 0)) := by
 unfold f339G
 rw [reduce_eq hl hv]
 rfl
theorem Bw_Sm {v : Vc} (h : Bw v) : Sm v := by
 obtain ⟨h1, h2⟩ := h
 simp only [Sm]; omega
theorem drop_pred {l : Lt} (hl : IsL l) {m : Mt} (hm : SmM m) : f338G KK m l (l.1, 0) l.2 = some (!stayS l m) := by
 obtain ⟨s1, s2⟩ := basis_Sv hl
 obtain ⟨b1, b2⟩ := mul_Bw hl hm
 unfold f338G
 rw [matApply_eq hm s1, matApply_eq hm s2]
 simp only [Option.bind_some, Bool.or_true, cond_true]
 rw [has_eq hl (Bw_Sm b1)]
 simp only [Option.bind_some]
 unfold stayS
 cases h : (redS l (mulS m (l.1, 0)) == (0, 0))
 ·rfl
 ·simp only [Bool.not_true, Bool.not_false, cond_true, Option.bind_some, Bool.true_and, cond_false]
  rw [has_eq hl (Bw_Sm b2)]
  rfl
end Go.Proofs.YtniidcalfhhciaaGreat.X
/-! Plain facts: deleting from a list by a test. -/
namespace Go.Proofs.YtniidcalfhhciaaGreat.X
open Go
set_option linter.unusedVariables false
/-- the first place, from q on, where the test holds; -1 if there is none -/
def idxS {α : Type} (p : α → Bool) : Nat → List α → Int
 | _, [] => -1
 | q, a :: l => bif p a then (q : Int) else idxS p (q + 1) l
theorem iter_idx {R α : Type} {body : (Int → Option R) → Int → Option R} (l : List α) (p : α → Bool) (fin : Int → Option R)
  (h1 : ∀ L q (hq : q < l.length), body L (q : Int) = bif p l[q] then fin (q : Int) else L ((q + 1 : Nat) : Int))
  (h2 : ∀ L, body L (l.length : Int) = fin (-1)) : ∀ n q, q ≤ l.length → l.length - q < n → iter body n (q : Int) = fin (idxS p q (l.drop q))
 | 0, q, _, hn => by omega
 | n + 1, q, hq, hn => by
  show body (iter body n) (q : Int) = _
  by_cases hlt : q < l.length
  ·rw [h1 _ q hlt, iter_idx l p fin h1 h2 n (q + 1) hlt (by omega), List.drop_eq_getElem_cons hlt]
   simp only [idxS]
   cases p l[q] <;> simp
  ·have : q = l.length := by omega
   subst this
   rw [h2, List.drop_length]
   rfl
theorem idxS_spec {α : Type} (p : α → Bool) : ∀ (l : List α) (q : Nat), (idxS p q l = -1 ∧ ∀ a ∈ l, p a = false) ∨ (∃ k, k < l.length ∧ idxS p q l = ((q + k : Nat) : Int) ∧ (∀ a ∈ l.take k, p a = false) ∧ ∃ a, l[k]? = some a ∧ p a = true)
 | [], q => Or.inl ⟨rfl, by simp⟩
 | a :: l, q => by
  simp only [idxS]
  cases h : p a
  ·rcases idxS_spec p l (q + 1) with ⟨h1, h2⟩ | ⟨k, h1, h2, h3, b, h4, h5⟩
   ·left
    refine ⟨by simpa using h1, ?_⟩
    intro b hb
    rcases List.mem_cons.mp hb with rfl | hb
    ·exact h
    ·exact h2 b hb
   ·right
    refine ⟨k + 1, by simp; omega, by simp [h2]; omega, ?_, b, by simpa using h4, h5⟩
    intro c hc
    rw [List.take_succ_cons] at hc
    rcases List.mem_cons.mp hc with rfl | hc
    ·exact h
    ·exact h3 c hc
  ·right
   exact ⟨0, by simp, by simp, by simp, a, by simp, h⟩
theorem filter_of_none {α : Type} {p : α → Bool} {l : List α} (h : ∀ a ∈ l, p a = false) : l.filter (fun a => !p a) = l :=
 List.filter_eq_self.mpr fun a ha => by simp [h a ha]
abbrev Ds := Nat × List Mt
def delI (p : Mt → Bool) (s : Ds) (a : Mt) : Ds := bif p a then s else (s.1 + 1, s.2.set s.1 a)
structure Dv2 (p : Mt → Bool) (l : List Mt) (q : Nat) (s : Ds) : Prop where
 n : s.2.length = l.length
 i : s.1 < q
 le : q ≤ l.length
 t : s.2.take s.1 = (l.take q).filter fun a => !p a
 d : s.2.drop q = l.drop q
theorem Dv2_step {p : Mt → Bool} {l : List Mt} {q : Nat} {s : Ds} (h : Dv2 p l q s) (hq : q < l.length) : Dv2 p l (q + 1) (delI p s l[q]) := by
 obtain ⟨h1, h2, h3, h4, h5⟩ := h
 have hd : s.2.drop (q + 1) = l.drop (q + 1) := by
  rw [← List.drop_drop, ← List.drop_drop, h5]
 have ht : l.take (q + 1) = l.take q ++ [l[q]] := by rw [List.take_add_one]; simp [hq]
 unfold delI
 cases hp : p l[q]
 ·simp only [cond_false]
  refine ⟨by simp [h1], by simp only; omega, hq, ?_, ?_⟩
  ·simp only
   rw [ht, List.filter_append, ← h4, List.take_add_one]
   congr 1
   ·rw [List.take_set_of_le (Nat.le_refl _)]
   ·rw [List.getElem?_set_self (by omega)]
    simp [hp]
  ·simp only
   rw [List.drop_set_of_lt (by omega), hd]
 ·simp only [cond_true]
  refine ⟨h1, by omega, hq, ?_, hd⟩
  rw [ht, List.filter_append, ← h4]
  simp [hp]
theorem deleteFunc_eq (l : List Mt) (hn : l.length ≤ 1000) (f : Mt → Option Bool) (p : Mt → Bool) (hf : ∀ m ∈ l, f m = some (p m)) :
  f337G KK l f = some (l.filter fun a => !p a) := by
 have hidx : f378G KK l f = some (idxS p 0 l) := by
  have h := iter_idx (R := Int) (body := fun L x => f378_b3 KK l f (fun v0 => L v0) x) l p some
   (fun L q hq => by
    unfold f378_b3
    rw [in1 hq, in0, gd hq]
    simp only [Bool.and_self, cond_true]
    rw [show f (l[q].1, l[q].2.1, l[q].2.2) = some (p l[q]) from hf _ (List.getElem_mem hq), Option.bind_some, w_succ (by omega)])
   (fun L => by
    unfold f378_b3
    rw [out1, cond_false]) KK 0 (by omega) (by have := KKlt (n := l.length) (by omega); omega)
  unfold f378G f378_g f378_l3
  exact h
 unfold f337G f337_g
 rw [hidx]
 simp only [Option.bind_some]
 rcases idxS_spec p l 0 with ⟨h1, h2⟩ | ⟨k, h1, h2, h3, b, h4, h5⟩
 ·rw [h1, filter_of_none h2]
  rfl
 ·rw [Nat.zero_add] at h2
  have hne : ((k : Int) == -1) = false := by
   rw [beq_eq_false_iff_ne]; omega
  rw [h2, hne, cond_false, w_succ (by omega)]
  have hb : l[k] = b := by
   rw [List.getElem?_eq_getElem h1] at h4
   exact Option.some.inj h4
  have hinv : Dv2 p l (k + 1) (k, l) := by
   refine ⟨rfl, by simp, h1, ?_, rfl⟩
   have ht : l.take (k + 1) = l.take k ++ [l[k]] := by rw [List.take_add_one]; simp [h1]
   simp only
   rw [ht, List.filter_append, filter_of_none h3, hb]
   simp [h5]
  have h := iter_fold (X := Int × Int × List Mt) (body := fun L x => f337_b4 KK f (k : Int) (fun v0 v1 v2 => L (v0, v1, v2)) x.1 x.2.1 x.2.2) l (fun q s => ((s.1 : Int), (q : Int), s.2)) (delI p) (fun s => some (s.2.take s.1)) (Dv2 p l)
   (fun L q s hq hi => by
    refine ⟨Dv2_step hi hq, ?_⟩
    obtain ⟨i1, i2, i3, i4, i5⟩ := hi
    have hq2 : q < s.2.length := by omega
    have hs1 : s.1 < s.2.length := by omega
    have hg : s.2[q] = l[q] := by
     have h6 : (s.2.drop q)[0]? = (l.drop q)[0]? := by rw [i5]
     simpa [hq, hq2] using h6
    unfold f337_b4
    simp only
    rw [in1 hq2, in0, gd hq2, hg]
    simp only [Bool.and_self, cond_true]
    rw [show f (l[q].1, l[q].2.1, l[q].2.2) = some (p l[q]) from hf _ (List.getElem_mem hq), Option.bind_some, w_succ (by omega), w_succ (by omega)]
    unfold delI
    cases p l[q]
    ·simp only [Bool.not_false, cond_true, cond_false]
     rw [in1 hs1, in0]
     have hz : ((0 : Int) + (s.1 : Int)).toNat = s.1 := by omega
     rw [hz]
     rfl
    ·rfl)
   (fun L s hi => by
    obtain ⟨i1, i2, i3, i4, i5⟩ := hi
    unfold f337_b4
    simp only
    have ho : decide ((l.length : Int) < (s.2.length : Int)) = false := by simp; omega
    have hz : ((0 : Int) + (s.1 : Int)).toNat = s.1 := by omega
    have hz2 : (((0 : Int) + (s.1 : Int)) + (((0 : Int) + (s.2.length : Int)) - ((0 : Int) + (s.1 : Int)))).toNat = s.2.length := by omega
    have hc : (clr s.2 s.1 s.2.length ((0 : Int), ((0 : Int), ((0 : Int), (0 : Int))))).length = s.2.length := by
     unfold clr; simp; omega
    have hct : (clr s.2 s.1 s.2.length ((0 : Int), ((0 : Int), ((0 : Int), (0 : Int))))).take s.1 = s.2.take s.1 := by
     unfold clr
     rw [List.append_assoc, List.take_append_of_le_length (by simp; omega), List.take_take, Nat.min_self]
    rw [ho, cond_false, hz, hz2, hc, hct, in0]
    have d1 : decide ((s.1 : Int) ≤ (s.2.length : Int)) = true := by simp; omega
    rw [d1]
    simp) KK (k + 1) (k, l) h1 (by have := KKlt (n := l.length) (by omega); omega) hinv
  unfold f337_l4
  refine h.trans ?_
  have hf := foldl_inv (delI p) (fun q s => Dv2 p l q s) (l.drop (k + 1)) (k + 1) (k, l) hinv (fun i s hi hP => by
   have hlt : k + 1 + i < l.length := by simp at hi; omega
   have := Dv2_step hP hlt
   simpa using this)
  have hend : k + 1 + (l.drop (k + 1)).length = l.length := by simp; omega
  rw [hend] at hf
  have := hf.t
  rw [List.take_length] at this
  exact congrArg some this
theorem latticeMats_eq {f : Int} (h1 : 0 ≤ f) (h2 : f ≤ 1) {l : Lt} (hl : IsL l) : f266G KK f l = some (stabS f l) := by
 unfold f266G f268G
 rw [pointMats_eq h1 h2]
 simp only [Option.bind_some]
 rw [deleteFunc_eq (pmS f) (by have := pmS_len f; omega) _ (fun m => !stayS l m) (fun m hm => drop_pred hl (pm_sm (pmS_mem hm))), Option.bind_some]
 unfold stabS
 simp only [Bool.not_not]
end Go.Proofs.YtniidcalfhhciaaGreat.X
