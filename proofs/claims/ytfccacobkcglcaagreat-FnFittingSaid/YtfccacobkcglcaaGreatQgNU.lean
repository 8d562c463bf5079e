/- Plain facts: names, strokes and marks that a code draws. -/
import Derived.Test.YtfccacobkcglcaaGreatQgMT
import Derived.Test.YtfccacobkcglcaaGreatQgNS
namespace Go.Proofs.YtfccacobkcglcaaGreat.X
open Go
set_option linter.unusedSimpArgs false
set_option linter.unusedVariables false
theorem ba_self (a : ByteArray) : (a == a) = true := by
 rw [beq_toListBytes]
 simp
theorem ba_not (a : ByteArray) : (a != a) = false := by
 unfold bne
 rw [ba_self]
 rfl
theorem likeTexts_eq {l : List ByteArray} (hl : l.length ≤ 1048576) : f84G KK l l = some true := by
 unfold f84G f84_g f84_l2
 rw [show ((l.length : Int) != (l.length : Int)) = false by simp, cF]
 have h := iter_all (X := Int) (body := fun L x => f84_b2 KK l l (fun v0 => L v0) x) l (fun q => (q : Int)) (fun _ => true) (some false) (some true)
  (fun L q hq => by
   unfold f84_b2
   rw [in1 hq, in0, gd hq, w_succ (by omega), ba_not]
   simp)
  (fun L => by
   unfold f84_b2
   rw [out1, cF]) KK 0 (by omega) (by simp only [KK]; omega)
 refine h.trans ?_
 rw [List.drop_zero, show (l.all fun _ => true) = true from List.all_eq_true.mpr (by simp)]
 rfl
theorem likeLattices_eq {l : List Lt} (hl : l.length ≤ 1048576) : f85G KK l l = some true := by
 unfold f85G f85_g f85_l2
 rw [show ((l.length : Int) != (l.length : Int)) = false by simp, cF]
 have h := iter_all (X := Int) (body := fun L x => f85_b2 KK l l (fun v0 => L v0) x) l (fun q => (q : Int)) (fun _ => true) (some false) (some true)
  (fun L q hq => by
   unfold f85_b2
   rw [in1 hq, in0, gd hq, w_succ (by omega)]
   simp)
  (fun L => by
   unfold f85_b2
   rw [out1, cF]) KK 0 (by omega) (by simp only [KK]; omega)
 refine h.trans ?_
 rw [List.drop_zero, show (l.all fun _ => true) = true from List.all_eq_true.mpr (by simp)]
 rfl
theorem nmDraw_len : (((f142G KK).getD []).length) = 17 := rfl
theorem name_draw {c : List Int} {t : Int × Int} (h : Src c t) : ∃ t' a, f198G KK (c, t) = some (t', a) ∧ Src c t' := by
 unfold f198G
 obtain ⟨t1, r1, e1, h1, _⟩ := next_ok h 24
 rw [e1, oB]
 simp only
 cases r1 == 0
 ·rw [cF]
  have hN : f142G KK = some ((f142G KK).getD []) := rfl
  obtain ⟨t2, r2, e2, h2, a2, b2⟩ := next_pos h1 (n := 17) (by omega)
  obtain ⟨k, rfl⟩ : ∃ k : Nat, r2 = (k : Int) := ⟨r2.toNat, by omega⟩
  rw [hN, oB, e2, oB]
  simp only
  rw [in0, in1 (show k < ((f142G KK).getD []).length by rw [nmDraw_len]; omega)]
  exact ⟨t2, _, rfl, h2⟩
 ·rw [cT]
  obtain ⟨t2, r2, e2, h2, a2, b2⟩ := next_pos h1 (n := 4) (by omega)
  obtain ⟨k, rfl⟩ : ∃ k : Nat, r2 = (k : Int) := ⟨r2.toNat, by omega⟩
  rw [e2, oB]
  simp only
  rw [in0, in1 (show k < [ByteArray.empty, (bs [112, 53]), (bs [80, 52]), (bs [112, 52, 32])].length by simp; omega)]
  exact ⟨t2, _, rfl, h2⟩
theorem vec_draw {c : List Int} {t : Int × Int} (h : Src c t) : ∃ t' v, f291G KK (c, t) = some (t', v) ∧ Src c t' := by
 unfold f291G
 obtain ⟨t1, r1, e1, h1, _⟩ := next_ok h 40
 rw [e1, oB]
 simp only
 cases r1 == 0
 ·rw [cF]
  obtain ⟨t2, r2, e2, h2, _⟩ := pick_ok h1 (l := [(4 : Int), 9, 30]) (by simp)
  rw [e2, oB]
  simp only
  obtain ⟨t3, r3, e3, h3, _⟩ := next_ok h2 (w ((w ((2 : Int) * r2)) + (1 : Int)))
  rw [e3, oB]
  simp only
  obtain ⟨t4, r4, e4, h4, _⟩ := next_ok h3 (w ((w ((2 : Int) * r2)) + (1 : Int)))
  rw [e4]
  exact ⟨t4, _, rfl, h4⟩
 ·rw [cT]
  obtain ⟨t2, r2, e2, h2, _⟩ := pick_ok h1 (l := [(-1000 : Int), 1000, 1001, 0]) (by simp)
  rw [e2, oB]
  simp only
  obtain ⟨t3, r3, e3, h3, _⟩ := pick_ok h2 (l := [(-1001 : Int), 1000, 0]) (by simp)
  rw [e3]
  exact ⟨t3, _, rfl, h3⟩
theorem marks_loop {c : List Int} {t0 : Int × Int} : ∀ (n k : Nat) (t : Int × Int) (s : List (Vc × Int)), Src c t → s.length + k ≤ 100 → k < n →
  ∃ t' r, f199_l6 KK (c, t0) n (k : Int) t.1 t.2 s = some (t', r) ∧ Src c t' ∧ r.length ≤ 200
 | 0, k, _, _, _, _, h => by omega
 | n + 1, k, t, s, h, hk, hn => by
  show ∃ t' r, f199_b6 KK (c, t0) (fun v0 v1 v2 v3 => f199_l6 KK (c, t0) n v0 v1 v2 v3) (k : Int) t.1 t.2 s = some (t', r) ∧ Src c t' ∧ r.length ≤ 200
  unfold f199_b6
  have et : ((t.1, t.2) : Int × Int) = t := rfl
  simp only
  rw [et]
  cases k with
  | zero =>
   rw [dF (show ¬ ((0 : Nat) : Int) > 0 by omega), cF]
   obtain ⟨t1, r1, e1, h1, _⟩ := next_ok h 40
   rw [e1, oB]
   simp only
   cases r1 == 0
   ·rw [cF]
    cases r1 == 1
    ·exact ⟨t1, s, rfl, h1, by omega⟩
    ·rw [cT]
     obtain ⟨t2, r2, e2, h2, a2, b2⟩ := next_pos h1 (n := 2) (by omega)
     rw [e2, oB]
     simp only
     have e3 : (decide (0 ≤ (w ((40 : Int) + r2))) && Nat.ble (w ((40 : Int) + r2)).toNat (lim 24) && ((w ((40 : Int) + r2)) == (w ((40 : Int) + r2)))) = true := by
      rw [w_id (n := 40 + r2) (by omega) (by omega), dT (show (0 : Int) ≤ 40 + r2 by omega), blim24 (by omega)]; simp
     rw [e3, cT]
     refine ⟨t2, _, rfl, h2, ?_⟩
     rw [List.length_replicate, w_id (n := 40 + r2) (by omega) (by omega)]
     omega
   ·rw [cT]
    obtain ⟨t2, v, e2, h2⟩ := vec_draw h1
    rw [e2, oB]
    simp only
    obtain ⟨t3, r3, e3, h3, _⟩ := pick_ok h2 (l := [(-1 : Int), 9, 10]) (by simp)
    rw [e3, oB, blim24 (by simp; omega)]
    exact ⟨t3, _, rfl, h3, by simp; omega⟩
  | succ k =>
   rw [dT (show ((k + 1 : Nat) : Int) > 0 by omega), cT]
   obtain ⟨t1, r1, e1, h1, _⟩ := next_ok h 9
   rw [e1, oB]
   simp only
   obtain ⟨t2, r2, e2, h2, _⟩ := next_ok h1 9
   rw [e2, oB]
   simp only
   obtain ⟨t3, r3, e3, h3, _⟩ := next_ok h2 3
   rw [e3, oB, blim24 (by simp; omega), cT, w_id (n := ((k + 1 : Nat) : Int) - 1) (by omega) (by omega)]
   have ek : ((k + 1 : Nat) : Int) - 1 = (k : Int) := by omega
   rw [ek]
   exact marks_loop n k t3 _ h3 (by simp; omega) (by omega)
theorem marks_draw {c : List Int} {t : Int × Int} (h : Src c t) : ∃ t' r, f199G KK (c, t) = some (t', r) ∧ Src c t' ∧ r.length ≤ 200 := by
 unfold f199G f199_g
 obtain ⟨t1, r1, e1, h1, a1, b1⟩ := next_pos h (n := 7) (by omega)
 obtain ⟨k, rfl⟩ : ∃ k : Nat, r1 = (k : Int) := ⟨r1.toNat, by omega⟩
 rw [e1, oB]
 exact marks_loop KK k t1 [] h1 (by simp; omega) (by simp only [KK]; omega)
theorem marksOf_loop {c : List Int} {t0 : Int × Int} {p : Pt} (hp : IsP p) {y1 : Bool} {y2 : (Int × Int) × Int} : ∀ (n k : Nat) (t : Int × Int) (s : List (Vc × Int)), Src c t → s.length + k ≤ 100 → k < n →
  ∃ t' r, f200_l9 KK (c, t0) p y1 y2 n (k : Int) t.1 t.2 s = some (t', r) ∧ Src c t' ∧ r.length ≤ 200
 | 0, k, _, _, _, _, h => by omega
 | n + 1, k, t, s, h, hk, hn => by
  show ∃ t' r, f200_b9 KK (c, t0) p y1 y2 (fun v0 v1 v2 v3 => f200_l9 KK (c, t0) p y1 y2 n v0 v1 v2 v3) (k : Int) t.1 t.2 s = some (t', r) ∧ Src c t' ∧ r.length ≤ 200
  unfold f200_b9
  have et : ((t.1, t.2) : Int × Int) = t := rfl
  simp only
  rw [et]
  cases k with
  | zero =>
   rw [dF (show ¬ ((0 : Nat) : Int) > 0 by omega), cF]
   by_cases h0 : 0 < s.length
   ·rw [dT (show (s.length : Int) > 0 by omega)]
    simp only [nT, oT, cT]
    obtain ⟨t1, r1, e1, h1, _⟩ := next_ok h 4
    rw [e1, oB]
    simp only
    cases r1 == 0
    ·exact ⟨t1, s, rfl, h1, by omega⟩
    ·rw [cT]
     obtain ⟨t2, r2, e2, h2, a2, b2⟩ := next_pos h1 (n := (s.length : Int)) (by omega)
     obtain ⟨j, rfl⟩ : ∃ j : Nat, r2 = (j : Int) := ⟨r2.toNat, by omega⟩
     rw [e2, oB]
     simp only
     obtain ⟨t3, r3, e3, h3, _⟩ := next_ok h2 3
     rw [e3, oB, in0, in1 (show j < s.length by omega)]
     exact ⟨t3, _, rfl, h3, by rw [List.length_set]; omega⟩
   ·rw [dF (show ¬ (s.length : Int) > 0 by omega)]
    exact ⟨t, s, rfl, h, by omega⟩
  | succ k =>
   rw [dT (show ((k + 1 : Nat) : Int) > 0 by omega), cT]
   obtain ⟨t1, r1, e1, h1, a1, b1⟩ := next_pos h (n := 13) (by omega)
   rw [e1, oB]
   simp only
   obtain ⟨t2, r2, e2, h2, a2, b2⟩ := next_pos h1 (n := 13) (by omega)
   rw [e2, oB]
   simp only
   rw [w_id (n := r1 - 5) (by omega) (by omega), w_id (n := r2 - 5) (by omega) (by omega), l09At_eq hp (v := (r1 - 5, r2 - 5)) (by unfold Sm; simp only; omega), oB, blim24 (by simp; omega), cT, w_id (n := ((k + 1 : Nat) : Int) - 1) (by omega) (by omega)]
   have ek : ((k + 1 : Nat) : Int) - 1 = (k : Int) := by omega
   rw [ek]
   exact marksOf_loop hp n k t2 _ h2 (by simp; omega) (by omega)
theorem marksOf_draw {c : List Int} {t : Int × Int} (h : Src c t) (p : Pt) : ∃ t' r, f200G KK (c, t) p = some (t', r) ∧ Src c t' ∧ r.length ≤ 200 := by
 unfold f200G f200_g
 rw [specIsPattern_eq, oB]
 cases hb : okP p
 ·simp only [Bool.not_false, nT, oT, cT, cF, oB]
  obtain ⟨t1, r1, e1, h1, hr⟩ := marks_draw h
  rw [e1]
  exact ⟨t1, r1, rfl, h1, hr⟩
 ·have hp := okP_P hb
  simp only [Bool.not_false, nT, oT, cT, cF]
  obtain ⟨t1, r1, e1, h1, _⟩ := next_ok h 5
  rw [e1, oB]
  simp only
  cases r1 == 0
  ·rw [cF]
   obtain ⟨t2, r2, e2, h2, a2, b2⟩ := next_pos h1 (n := 9) (by omega)
   obtain ⟨k, rfl⟩ : ∃ k : Nat, r2 = (k : Int) := ⟨r2.toNat, by omega⟩
   rw [e2, oB]
   exact marksOf_loop hp KK k t2 [] h2 (by simp; omega) (by simp only [KK]; omega)
  ·rw [cT]
   obtain ⟨t2, r2, e2, h2, hr⟩ := marks_draw h1
   rw [e2]
   exact ⟨t2, r2, rfl, h2, hr⟩
end Go.Proofs.YtfccacobkcglcaaGreat.X
