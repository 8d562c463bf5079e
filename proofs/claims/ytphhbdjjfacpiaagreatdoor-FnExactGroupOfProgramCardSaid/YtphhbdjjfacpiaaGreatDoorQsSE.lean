/- Matrices that are rotations or reflections: the reference counts powers, the program looks at trace and determinant. -/
import Derived.Test.YtphhbdjjfacpiaaGreatDoorQsME
namespace Go.Proofs.YtphhbdjjfacpiaaGreatDoor.X
open Go
set_option linter.unusedSimpArgs false
set_option linter.unusedVariables false
structure Sk (m : Mt) : Prop where
 a : -1000 ≤ m.1 ∧ m.1 ≤ 1000
 b : -1000 ≤ m.2.1 ∧ m.2.1 ≤ 1000
 c : -1000 ≤ m.2.2.1 ∧ m.2.2.1 ≤ 1000
 d : -1000 ≤ m.2.2.2 ∧ m.2.2.2 ≤ 1000
theorem small_iff {m : Mt} : smallB m = true ↔ Sk m := by
 unfold smallB
 rw [aT, vecB_iff, vecB_iff]
 exact ⟨fun ⟨⟨a, b⟩, c, d⟩ => ⟨a, b, c, d⟩, fun ⟨a, b, c, d⟩ => ⟨⟨a, b⟩, c, d⟩⟩
theorem pb {x y : Int} (hx : -1000 ≤ x ∧ x ≤ 1000) (hy : -1000 ≤ y ∧ y ≤ 1000) : -1000000 ≤ x * y ∧ x * y ≤ 1000000 := by
 have := prod_bound (a := x) (b := y) (B := 1000) (by omega) hx hy
 omega
theorem mm_calc2 {m n : Mt} (hm : Sk m) (hn : Sk n) : ((w ((w (m.1 * n.1)) + (w (m.2.1 * n.2.2.1)))), (w ((w (m.1 * n.2.1)) + (w (m.2.1 * n.2.2.2)))), (w ((w (m.2.2.1 * n.1)) + (w (m.2.2.2 * n.2.2.1)))), (w ((w (m.2.2.1 * n.2.1)) + (w (m.2.2.2 * n.2.2.2))))) = mmS m n := by
 have h : ∀ {x y : Int}, (-1000000 ≤ x ∧ x ≤ 1000000) → (-1000000 ≤ y ∧ y ≤ 1000000) → w ((w x) + (w y)) = x + y := fun {x y} hx hy => by
  rw [w_id (n := x) (by omega) (by omega), w_id (n := y) (by omega) (by omega), w_id (by omega) (by omega)]
 rw [h (pb hm.a hn.a) (pb hm.b hn.c), h (pb hm.a hn.b) (pb hm.b hn.d), h (pb hm.c hn.a) (pb hm.d hn.c), h (pb hm.c hn.b) (pb hm.d hn.d)]
 rfl
theorem l02Small_eq (m : Mt) : f148G KK m = some (smallB m) := by
 unfold f148G smallB
 simp only [specIsVec_eq, oB, oT, tO, cT]
 cases vecB (m.1, m.2.1) <;> simp
theorem det_calc {m : Mt} (h : Sk m) : w ((w (m.1 * m.2.2.2)) - (w (m.2.1 * m.2.2.1))) = detS m := by
 have h1 := pb h.a h.d
 have h2 := pb h.b h.c
 rw [w_id (n := m.1 * m.2.2.2) (by omega) (by omega), w_id (n := m.2.1 * m.2.2.1) (by omega) (by omega), w_id (by omega) (by omega)]
 rfl
def goO (m : Mt) : Nat → Int → Mt → Int
 | 0, _, _ => 0
 | f + 1, k, o => bif smallB (mmS m o) then (bif mmS m o == (1, 0, 0, 1) then k else goO m f (k + 1) (mmS m o)) else 0
theorem mt_beq (a b : Mt) : ((a.1 == b.1) && ((a.2.1 == b.2.1) && ((a.2.2.1 == b.2.2.1) && (a.2.2.2 == b.2.2.2)))) = (a == b) := rfl
theorem order_loop {m : Mt} (hm : Sk m) : ∀ (f n : Nat) (k : Int) (o : Mt), Sk o → k + (f : Int) = 7 → 1 ≤ k → f < n → f150_l6 KK m n k o.1 o.2.1 o.2.2.1 o.2.2.2 = some (goO m f k o)
 | f, 0, k, o, _, _, _, h => by omega
 | 0, n + 1, k, o, _, hk, _, _ => by
  show f150_b6 KK m (fun v0 v1 v2 v3 v4 => f150_l6 KK m n v0 v1 v2 v3 v4) k o.1 o.2.1 o.2.2.1 o.2.2.2 = _
  unfold f150_b6
  rw [dF (by omega), cF]
  rfl
 | f + 1, n + 1, k, o, ho, hk, h1, hn => by
  show f150_b6 KK m (fun v0 v1 v2 v3 v4 => f150_l6 KK m n v0 v1 v2 v3 v4) k o.1 o.2.1 o.2.2.1 o.2.2.2 = _
  unfold f150_b6
  have hu : f37G KK = some (1, 0, 0, 1) := rfl
  have e : f39G KK m (o.1, o.2.1, o.2.2.1, o.2.2.2) = some (mmS m o) := by
   unfold f39G
   exact congrArg some (mm_calc2 hm ho)
  rw [dT (show k ≤ 6 by omega), cT, e, oB, l02Small_eq, oB, hu, oB]
  rw [mt_beq (mmS m o) (1, 0, 0, 1)]
  unfold goO
  cases hs : smallB (mmS m o)
  ·rfl
  ·simp only [nT, cF, cT]
   cases hI : mmS m o == (1, 0, 0, 1)
   ·rw [cF, cF, w_id (by omega) (by omega)]
    exact order_loop hm f n (k + 1) (mmS m o) (small_iff.1 hs) (by omega) (by omega) (by omega)
   ·rfl
theorem l02Order_eq {m : Mt} (hm : Sk m) : f150G KK m = some (goO m 6 1 (1, 0, 0, 1)) := by
 have h := order_loop hm 6 KK 1 (1, 0, 0, 1) ⟨by simp, by simp, by simp, by simp⟩ (by omega) (by omega) (by simp only [KK]; omega)
 unfold f150G f150_g
 exact h
def trS (m : Mt) : Int := m.1 + m.2.2.2
def pwS (m : Mt) (x y : Int) : Mt := (x * m.1 - y, x * m.2.1, x * m.2.2.1, x * m.2.2.2 - y)
theorem pw_mul (m : Mt) (x y : Int) : mmS m (pwS m x y) = pwS m (x * trS m - y) (x * detS m) := by
 obtain ⟨a, b, c, d⟩ := m
 unfold mmS pwS trS detS
 simp only
 refine Prod.ext ?_ (Prod.ext ?_ (Prod.ext ?_ ?_)) <;> simp only [Int.mul_add, Int.add_mul, Int.mul_sub, Int.sub_mul, Int.mul_assoc, Int.mul_comm, Int.mul_left_comm] <;> omega
theorem pw_one (m : Mt) : pwS m 0 (-1) = (1, 0, 0, 1) := by
 unfold pwS
 simp
def turnB (m : Mt) : Bool := (detS m == 1 && (m == (1, 0, 0, 1) || (m == (-1, 0, 0, -1) || (trS m == -1 || (trS m == 0 || trS m == 1))))) || (detS m == -1 && trS m == 0)
def seqP (t D : Int) : Nat → Int × Int
 | 0 => (0, -1)
 | n + 1 => ((seqP t D n).1 * t - (seqP t D n).2, (seqP t D n).1 * D)
theorem pow_seq (m : Mt) (n : Nat) : mmS m (pwS m (seqP (trS m) (detS m) n).1 (seqP (trS m) (detS m) n).2) = pwS m (seqP (trS m) (detS m) (n + 1)).1 (seqP (trS m) (detS m) (n + 1)).2 := pw_mul m _ _
theorem goO_pow {m : Mt} : ∀ (f n : Nat) (k : Int), 1 ≤ k → goO m f k (pwS m (seqP (trS m) (detS m) n).1 (seqP (trS m) (detS m) n).2) ≠ 0 →
  ∃ i, n < i ∧ i ≤ n + f ∧ pwS m (seqP (trS m) (detS m) i).1 (seqP (trS m) (detS m) i).2 = (1, 0, 0, 1) ∧ goO m f k (pwS m (seqP (trS m) (detS m) n).1 (seqP (trS m) (detS m) n).2) = k + ((i - n - 1 : Nat) : Int)
 | 0, n, k, _, h => absurd rfl h
 | f + 1, n, k, hk, h => by
  unfold goO at h ⊢
  rw [pow_seq] at h ⊢
  cases hs : smallB (pwS m (seqP (trS m) (detS m) (n + 1)).1 (seqP (trS m) (detS m) (n + 1)).2)
  ·rw [hs] at h; exact absurd rfl h
  ·rw [hs, cT] at h
   rw [cT]
   cases hI : pwS m (seqP (trS m) (detS m) (n + 1)).1 (seqP (trS m) (detS m) (n + 1)).2 == (1, 0, 0, 1)
   ·rw [hI, cF] at h
    rw [cF]
    obtain ⟨i, h1, h2, h3, h4⟩ := goO_pow f (n + 1) (k + 1) (by omega) h
    exact ⟨i, by omega, by omega, h3, by rw [h4]; omega⟩
   ·exact ⟨n + 1, by omega, by omega, by simpa using hI, by rw [cT]; omega⟩
theorem goO_hit {m : Mt} : ∀ (f n i : Nat) (k : Int), 1 ≤ k → n < i → i ≤ n + f → (∀ j, n < j → j ≤ i → Sk (pwS m (seqP (trS m) (detS m) j).1 (seqP (trS m) (detS m) j).2)) → pwS m (seqP (trS m) (detS m) i).1 (seqP (trS m) (detS m) i).2 = (1, 0, 0, 1) →
  goO m f k (pwS m (seqP (trS m) (detS m) n).1 (seqP (trS m) (detS m) n).2) ≠ 0
 | 0, n, i, k, _, h1, h2, _, _ => by omega
 | f + 1, n, i, k, hk, h1, h2, hs, hi => by
  unfold goO
  rw [pow_seq, small_iff.2 (hs (n + 1) (by omega) (by omega)), cT]
  cases hI : pwS m (seqP (trS m) (detS m) (n + 1)).1 (seqP (trS m) (detS m) (n + 1)).2 == (1, 0, 0, 1)
  ·rw [cF]
   have hne : n + 1 ≠ i := fun e => by rw [e, hi] at hI; simp at hI
   exact goO_hit f (n + 1) i (k + 1) (by omega) (by omega) (by omega) (fun j a b => hs j (by omega) b) hi
  ·rw [cT]
   omega
def farB (t : Int) : Bool := [1, 2, 3, 4, 5, 6].all fun n => (seqP t 1 n).1 != 0
theorem far_pos : ((List.range 1999).all fun k => farB ((k : Int) + 2)) = true := by decide +kernel
theorem far_neg : ((List.range 1999).all fun k => farB (-((k : Int) + 2))) = true := by decide +kernel
theorem far_of {t : Int} (h : 2 ≤ t.natAbs) (h2 : t.natAbs ≤ 2000) {n : Nat} (hn : 1 ≤ n) (hn6 : n ≤ 6) : (seqP t 1 n).1 ≠ 0 := by
 have hb : farB t = true := by
  rcases Int.natAbs_eq t with e | e
  ·have := List.all_eq_true.1 far_pos (t.natAbs - 2) (List.mem_range.2 (by omega))
   have e2 : ((t.natAbs - 2 : Nat) : Int) + 2 = t := by omega
   rwa [e2] at this
  ·have := List.all_eq_true.1 far_neg (t.natAbs - 2) (List.mem_range.2 (by omega))
   have e2 : -(((t.natAbs - 2 : Nat) : Int) + 2) = t := by omega
   rwa [e2] at this
 have := List.all_eq_true.1 hb n (by simp; omega)
 simpa using this
theorem pw_eq {m : Mt} {x y : Int} (h : pwS m x y = (1, 0, 0, 1)) : x * m.1 - y = 1 ∧ x * m.2.1 = 0 ∧ x * m.2.2.1 = 0 ∧ x * m.2.2.2 - y = 1 := by
 unfold pwS at h
 simp only [Prod.mk.injEq] at h
 exact h
theorem sq_one {a : Int} (h : a * a = 1) (h1 : -1000 ≤ a ∧ a ≤ 1000) : a = 1 ∨ a = -1 := by
 have h2 : (a.natAbs : Nat) * a.natAbs = 1 := by
  rw [← Int.natAbs_mul, h]
  rfl
 have := Nat.eq_one_of_mul_eq_one_left h2
 omega
theorem kind_turn {m : Mt} (hm : Sk m) (hd : detS m = 1 ∨ detS m = -1) : ∃ k, f105G KK m = some k ∧ (k != 0) = turnB m := by
 have hdet := det_calc hm
 have ho := l02Order_eq hm
 rw [← pw_one m] at ho
 have hseq : (seqP (trS m) (detS m) 0).1 = 0 ∧ (seqP (trS m) (detS m) 0).2 = -1 := ⟨rfl, rfl⟩
 have ho : f150G KK m = some (goO m 6 1 (pwS m (seqP (trS m) (detS m) 0).1 (seqP (trS m) (detS m) 0).2)) := ho
 have ht : (trS m).natAbs ≤ 2000 := by
  have := hm.a
  have := hm.d
  unfold trS
  omega
 unfold f105G f149G
 simp only [oB]
 rw [hdet, ho]
 simp only [oB]
 obtain ⟨a, b, c, d⟩ := m
 have ha := hm.a
 have hb := hm.b
 have hc := hm.c
 have hdd := hm.d
 simp only at ha hb hc hdd
 rcases hd with hd | hd
 ·-- determinant 1
  rw [hd]
  refine ⟨_, rfl, ?_⟩
  rw [hd] at ho
  have hD : a * d - b * c = 1 := hd
  rw [Bool.eq_iff_iff, bne_iff_ne]
  unfold turnB
  rw [hd]
  simp only [Bool.or_eq_true, aT, beq_iff_eq, show ((1 : Int) = -1) = False by simp, false_and, or_false, true_and]
  constructor
  ·intro hne
   have hne : goO (a, b, c, d) 6 1 (pwS (a, b, c, d) (seqP (trS (a, b, c, d)) (detS (a, b, c, d)) 0).1 (seqP (trS (a, b, c, d)) (detS (a, b, c, d)) 0).2) ≠ 0 := by rw [hd]; exact hne
   obtain ⟨i, h1, h2, h3, _⟩ := goO_pow 6 0 1 (by omega) hne
   rw [hd] at h3
   by_cases hfar : 2 ≤ (trS (a, b, c, d)).natAbs
   ·have hp := far_of hfar ht (n := i) (by omega) (by omega)
    obtain ⟨e1, e2, e3, e4⟩ := pw_eq h3
    simp only at e1 e2 e3 e4
    have hb0 : b = 0 := by
     rcases Int.mul_eq_zero.1 e2 with h | h
     ·exact absurd h hp
     ·exact h
    have hc0 : c = 0 := by
     rcases Int.mul_eq_zero.1 e3 with h | h
     ·exact absurd h hp
     ·exact h
    have had : a = d := by
     have : (seqP (trS (a, b, c, d)) 1 i).1 * a = (seqP (trS (a, b, c, d)) 1 i).1 * d := by omega
     exact Int.eq_of_mul_eq_mul_left hp this
    subst hb0 hc0 had
    have : a * a = 1 := by simpa using hD
    rcases sq_one this ha with rfl | rfl
    ·exact .inl rfl
    ·exact .inr (.inl rfl)
   ·exact .inr (.inr (by omega))
  ·intro h
   show goO (a, b, c, d) 6 1 _ ≠ 0
   have key : ∀ i, 0 < i → i ≤ 6 → (∀ j, 0 < j → j ≤ i → Sk (pwS (a, b, c, d) (seqP (trS (a, b, c, d)) (detS (a, b, c, d)) j).1 (seqP (trS (a, b, c, d)) (detS (a, b, c, d)) j).2)) → pwS (a, b, c, d) (seqP (trS (a, b, c, d)) (detS (a, b, c, d)) i).1 (seqP (trS (a, b, c, d)) (detS (a, b, c, d)) i).2 = (1, 0, 0, 1) →
     goO (a, b, c, d) 6 1 (pwS (a, b, c, d) (seqP (trS (a, b, c, d)) 1 0).1 (seqP (trS (a, b, c, d)) 1 0).2) ≠ 0 := fun i h1 h2 h3 h4 => by
    have := goO_hit 6 0 i 1 (by omega) h1 (by omega) h3 h4
    rw [hd] at this
    exact this
   rcases h with h | h | h | h | h
   ·refine key 1 (by omega) (by omega) (fun j h1 h2 => ?_) ?_
    ·have : j = 1 := by omega
     subst this
     rw [hd, h]
     simp only [Prod.mk.injEq] at h
     exact ⟨by simp [pwS, seqP], by simp [pwS, seqP], by simp [pwS, seqP], by simp [pwS, seqP]⟩
    ·rw [hd, h]
     simp [pwS, seqP]
   ·have hs : ∀ j, 0 < j → j ≤ 2 → Sk (pwS (a, b, c, d) (seqP (trS (a, b, c, d)) 1 j).1 (seqP (trS (a, b, c, d)) 1 j).2) := fun j h1 h2 => by
     have : j = 1 ∨ j = 2 := by omega
     rw [h]
     rcases this with rfl | rfl <;> exact ⟨by simp [pwS, seqP, trS], by simp [pwS, seqP, trS], by simp [pwS, seqP, trS], by simp [pwS, seqP, trS]⟩
    refine key 2 (by omega) (by omega) (fun j h1 h2 => by rw [hd]; exact hs j h1 h2) ?_
    rw [hd, h]
    simp [pwS, seqP, trS]
   ·have hs : ∀ j, 0 < j → j ≤ 3 → Sk (pwS (a, b, c, d) (seqP (-1) 1 j).1 (seqP (-1) 1 j).2) := fun j h1 h2 => by
     have h' : a + d = -1 := h
     have : j = 1 ∨ j = 2 ∨ j = 3 := by omega
     rcases this with rfl | rfl | rfl <;> exact ⟨by simp [pwS, seqP] <;> omega, by simp [pwS, seqP] <;> omega, by simp [pwS, seqP] <;> omega, by simp [pwS, seqP] <;> omega⟩
    refine key 3 (by omega) (by omega) (fun j h1 h2 => by rw [hd, h]; exact hs j h1 h2) ?_
    rw [hd, h]
    simp [pwS, seqP]
   ·have hs : ∀ j, 0 < j → j ≤ 4 → Sk (pwS (a, b, c, d) (seqP 0 1 j).1 (seqP 0 1 j).2) := fun j h1 h2 => by
     have : j = 1 ∨ j = 2 ∨ j = 3 ∨ j = 4 := by omega
     rcases this with rfl | rfl | rfl | rfl <;> exact ⟨by simp [pwS, seqP] <;> omega, by simp [pwS, seqP] <;> omega, by simp [pwS, seqP] <;> omega, by simp [pwS, seqP] <;> omega⟩
    refine key 4 (by omega) (by omega) (fun j h1 h2 => by rw [hd, h]; exact hs j h1 h2) ?_
    rw [hd, h]
    simp [pwS, seqP]
   ·have hs : ∀ j, 0 < j → j ≤ 6 → Sk (pwS (a, b, c, d) (seqP 1 1 j).1 (seqP 1 1 j).2) := fun j h1 h2 => by
     have h' : a + d = 1 := h
     have : j = 1 ∨ j = 2 ∨ j = 3 ∨ j = 4 ∨ j = 5 ∨ j = 6 := by omega
     rcases this with rfl | rfl | rfl | rfl | rfl | rfl <;> exact ⟨by simp [pwS, seqP] <;> omega, by simp [pwS, seqP] <;> omega, by simp [pwS, seqP] <;> omega, by simp [pwS, seqP] <;> omega⟩
    refine key 6 (by omega) (by omega) (fun j h1 h2 => by rw [hd, h]; exact hs j h1 h2) ?_
    rw [hd, h]
    simp [pwS, seqP]
 ·-- determinant -1
  rw [hd]
  have hD : a * d - b * c = -1 := hd
  have e1 : ((-1 : Int) == 1) = false := rfl
  rw [e1, cF]
  have hval : ∀ x : Int, ∃ k, (bif x == (2 : Int) then some (-2 : Int) else some (0 : Int)) = some k ∧ ((k != 0) = (x == 2)) := fun x => by
   cases x == 2
   ·exact ⟨0, rfl, rfl⟩
   ·exact ⟨-2, rfl, rfl⟩
  obtain ⟨k, hk1, hk2⟩ := hval (goO (a, b, c, d) 6 1 (pwS (a, b, c, d) (seqP (trS (a, b, c, d)) (-1) 0).1 (seqP (trS (a, b, c, d)) (-1) 0).2))
  refine ⟨k, hk1, hk2.trans ?_⟩
  have ht : turnB (a, b, c, d) = (trS (a, b, c, d) == 0) := by
   unfold turnB
   rw [hd]
   rfl
  rw [ht, Bool.eq_iff_iff, beq_iff_eq, beq_iff_eq]
  constructor
  ·intro h
   have hne : goO (a, b, c, d) 6 1 (pwS (a, b, c, d) (seqP (trS (a, b, c, d)) (detS (a, b, c, d)) 0).1 (seqP (trS (a, b, c, d)) (detS (a, b, c, d)) 0).2) ≠ 0 := by rw [hd, h]; simp
   obtain ⟨i, h1, h2, h3, h4⟩ := goO_pow 6 0 1 (by omega) hne
   rw [hd] at h3 h4
   rw [h] at h4
   have hi : i = 2 := by omega
   subst hi
   obtain ⟨k1, k2, k3, k4⟩ := pw_eq h3
   simp only [seqP] at k1 k2 k3 k4
   have h5 : trS (a, b, c, d) * a = 0 := by
    have : trS (a, b, c, d) * a + 1 = 1 := by simpa using k1
    omega
   have h6 : trS (a, b, c, d) * d = 0 := by
    have : trS (a, b, c, d) * d + 1 = 1 := by simpa using k4
    omega
   rcases Int.mul_eq_zero.1 h5 with h7 | h7
   ·exact h7
   ·rcases Int.mul_eq_zero.1 h6 with h8 | h8
    ·exact h8
    ·show a + d = 0
     omega
  ·intro h
   have hb0 : pwS (a, b, c, d) (seqP (trS (a, b, c, d)) (-1) 0).1 (seqP (trS (a, b, c, d)) (-1) 0).2 = pwS (a, b, c, d) (seqP (trS (a, b, c, d)) (detS (a, b, c, d)) 0).1 (seqP (trS (a, b, c, d)) (detS (a, b, c, d)) 0).2 := by rw [hd]
   have hs : ∀ j, 0 < j → j ≤ 2 → Sk (pwS (a, b, c, d) (seqP 0 (-1) j).1 (seqP 0 (-1) j).2) := fun j h1 h2 => by
    have : j = 1 ∨ j = 2 := by omega
    rcases this with rfl | rfl <;> exact ⟨by simp [pwS, seqP] <;> omega, by simp [pwS, seqP] <;> omega, by simp [pwS, seqP] <;> omega, by simp [pwS, seqP] <;> omega⟩
   have hne := goO_hit (m := (a, b, c, d)) 6 0 2 1 (by omega) (by omega) (by omega) (fun j h1 h2 => by rw [hd, h]; exact hs j h1 h2) (by rw [hd, h]; simp [pwS, seqP])
   obtain ⟨i, h1, h2, h3, h4⟩ := goO_pow 6 0 1 (by omega) hne
   rw [hd] at h4
   rw [h4]
   rw [hd, h] at h3
   -- the first power isn't one
   have hi1 : i ≠ 1 := fun e => by
    subst e
    obtain ⟨k1, k2, k3, k4⟩ := pw_eq h3
    simp only [seqP] at k1 k2 k3 k4
    have h' : a + d = 0 := h
    have : a = 1 := by simpa using k1
    have : d = 1 := by simpa using k4
    omega
   -- the second is
   have h2' : goO (a, b, c, d) 6 1 (pwS (a, b, c, d) (seqP (trS (a, b, c, d)) (-1) 0).1 (seqP (trS (a, b, c, d)) (-1) 0).2) = 2 := by
    rw [hb0]
    unfold goO
    rw [pow_seq, hd, h, small_iff.2 (hs 1 (by omega) (by omega)), cT]
    cases hI : pwS (a, b, c, d) (seqP 0 (-1) 1).1 (seqP 0 (-1) 1).2 == (1, 0, 0, 1)
    ·rw [cF]
     unfold goO
     have e3 := pow_seq (a, b, c, d) 1
     rw [hd, h] at e3
     rw [e3, small_iff.2 (hs 2 (by omega) (by omega)), cT]
     have e4 : (pwS (a, b, c, d) (seqP 0 (-1) 2).1 (seqP 0 (-1) 2).2 == (1, 0, 0, 1)) = true := by simp [pwS, seqP]
     rw [e4, cT]
     rfl
    ·exfalso
     have e5 : pwS (a, b, c, d) (seqP 0 (-1) 1).1 (seqP 0 (-1) 1).2 = (1, 0, 0, 1) := by simpa using hI
     obtain ⟨k1, k2, k3, k4⟩ := pw_eq e5
     simp only [seqP] at k1 k2 k3 k4
     have h' : a + d = 0 := h
     have : a = 1 := by simpa using k1
     have : d = 1 := by simpa using k4
     omega
   rw [← h4]
   exact h2'
end Go.Proofs.YtphhbdjjfacpiaaGreatDoor.X
