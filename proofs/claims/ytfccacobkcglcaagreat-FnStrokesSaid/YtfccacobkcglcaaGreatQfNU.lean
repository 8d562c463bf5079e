/- Plain facts: names, strokes and marks that a code draws. -/
import Derived.Test.YtfccacobkcglcaaGreatQfMT
import Derived.Test.YtfccacobkcglcaaGreatQfNS
namespace Go.Proofs.YtfccacobkcglcaaGreat.X
open Go
set_option linter.unusedSimpArgs false
set_option linter.unusedVariables false
theorem likeStrokes_eq {l : List (Vc × Int)} (hl : l.length ≤ 1048576) : f75G KK l l = some true := by
 unfold f75G f75_g f75_l2
 rw [show ((l.length : Int) != (l.length : Int)) = false by simp, cond_false]
 have h := iter_all (X := Int) (body := fun L x => f75_b2 KK l l (fun v0 => L v0) x) l (fun q => (q : Int)) (fun _ => true) (some false) (some true)
  (fun L q hq => by
   unfold f75_b2
   rw [in1 hq, in0, gd hq, w_succ (by omega)]
   simp)
  (fun L => by
   unfold f75_b2
   rw [out1, cond_false]) KK 0 (by omega) (by simp only [KK]; omega)
 refine h.trans ?_
 rw [List.drop_zero, show (l.all fun _ => true) = true from List.all_eq_true.mpr (by simp)]
 rfl
theorem nmDraw_len : (((f142G KK).getD []).length) = 17 := rfl
theorem name_draw {c : List Int} {t : Int × Int} (h : Src c t) : ∃ t' a, f198G KK (c, t) = some (t', a) ∧ Src c t' := by
 unfold f198G
 obtain ⟨t1, r1, e1, h1, _⟩ := next_ok h 24
 rw [e1, Option.bind_some]
 simp only
 cases r1 == 0
 ·rw [cond_false]
  have hN : f142G KK = some ((f142G KK).getD []) := rfl
  obtain ⟨t2, r2, e2, h2, a2, b2⟩ := next_pos h1 (n := 17) (by omega)
  obtain ⟨k, rfl⟩ : ∃ k : Nat, r2 = (k : Int) := ⟨r2.toNat, by omega⟩
  rw [hN, Option.bind_some, e2, Option.bind_some]
  simp only
  rw [in0, in1 (show k < ((f142G KK).getD []).length by rw [nmDraw_len]; omega)]
  exact ⟨t2, _, rfl, h2⟩
 ·rw [cond_true]
  obtain ⟨t2, r2, e2, h2, a2, b2⟩ := next_pos h1 (n := 4) (by omega)
  obtain ⟨k, rfl⟩ : ∃ k : Nat, r2 = (k : Int) := ⟨r2.toNat, by omega⟩
  rw [e2, Option.bind_some]
  simp only
  rw [in0, in1 (show k < [ByteArray.empty, (bs [112, 53]), (bs [80, 52]), (bs [112, 52, 32])].length by simp; omega)]
  exact ⟨t2, _, rfl, h2⟩
theorem strokes_loop {c : List Int} {t0 : Int × Int} {l : Lt} : ∀ (n k : Nat) (t : Int × Int) (s : List (Vc × Int)), Src c t → s.length + k ≤ 100 → k < n →
  ∃ t' r, f197_l6 KK (c, t0) l n (k : Int) t.1 t.2 s = some (t', r) ∧ Src c t' ∧ r.length ≤ 200
 | 0, k, _, _, _, _, h => by omega
 | n + 1, k, t, s, h, hk, hn => by
  show ∃ t' r, f197_b6 KK (c, t0) l (fun v0 v1 v2 v3 => f197_l6 KK (c, t0) l n v0 v1 v2 v3) (k : Int) t.1 t.2 s = some (t', r) ∧ Src c t' ∧ r.length ≤ 200
  unfold f197_b6
  have et : ((t.1, t.2) : Int × Int) = t := rfl
  simp only
  rw [et]
  cases k with
  | zero =>
   rw [decide_eq_false (show ¬ ((0 : Nat) : Int) > 0 by omega), cond_false]
   obtain ⟨t1, r1, e1, h1, _⟩ := next_ok h 40
   rw [e1, Option.bind_some]
   simp only
   cases r1 == 0
   ·rw [cond_false]
    cases r1 == 1
    ·exact ⟨t1, s, rfl, h1, by omega⟩
    ·rw [cond_true]
     obtain ⟨t2, r2, e2, h2, a2, b2⟩ := next_pos h1 (n := 2) (by omega)
     rw [e2, Option.bind_some]
     simp only
     have e3 : (decide (0 ≤ (w ((100 : Int) + r2))) && Nat.ble (w ((100 : Int) + r2)).toNat (lim 24) && ((w ((100 : Int) + r2)) == (w ((100 : Int) + r2)))) = true := by
      rw [w_id (n := 100 + r2) (by omega) (by omega), decide_eq_true (show (0 : Int) ≤ 100 + r2 by omega), blim24 (by omega)]; simp
     rw [e3, cond_true]
     refine ⟨t2, _, rfl, h2, ?_⟩
     rw [List.length_replicate, w_id (n := 100 + r2) (by omega) (by omega)]
     omega
   ·rw [cond_true]
    obtain ⟨t2, v, e2, h2⟩ := cell_ok h1 l
    rw [e2, Option.bind_some]
    simp only
    obtain ⟨t3, r3, e3, h3, _⟩ := pick_ok h2 (l := [(-1 : Int), 9, 10]) (by simp)
    rw [e3, Option.bind_some, blim24 (by simp; omega)]
    exact ⟨t3, _, rfl, h3, by simp; omega⟩
  | succ k =>
   rw [decide_eq_true (show ((k + 1 : Nat) : Int) > 0 by omega), cond_true]
   obtain ⟨t1, r1, e1, h1, _⟩ := next_ok h l.1
   rw [e1, Option.bind_some]
   simp only
   obtain ⟨t2, r2, e2, h2, _⟩ := next_ok h1 l.2.2
   rw [e2, Option.bind_some]
   simp only
   obtain ⟨t3, r3, e3, h3, _⟩ := next_ok h2 4
   rw [e3, Option.bind_some, blim24 (by simp; omega), cond_true, w_id (n := ((k + 1 : Nat) : Int) - 1) (by omega) (by omega)]
   have ek : ((k + 1 : Nat) : Int) - 1 = (k : Int) := by omega
   rw [ek]
   exact strokes_loop n k t3 _ h3 (by simp; omega) (by omega)
theorem strokes_draw {c : List Int} {t : Int × Int} (h : Src c t) (l : Lt) : ∃ t' r, f197G KK (c, t) l = some (t', r) ∧ Src c t' ∧ r.length ≤ 200 := by
 unfold f197G f197_g
 obtain ⟨t1, r1, e1, h1, a1, b1⟩ := next_pos h (n := 8) (by omega)
 obtain ⟨k, rfl⟩ : ∃ k : Nat, r1 = (k : Int) := ⟨r1.toNat, by omega⟩
 rw [e1, Option.bind_some]
 exact strokes_loop KK k t1 [] h1 (by simp; omega) (by simp only [KK]; omega)
theorem canvas_draw {c : List Int} {t : Int × Int} (h : Src c t) : ∃ t' a n r, f193G KK (c, t) = some (t', a, n, r) ∧ Src c t' ∧ r.length ≤ 200 := by
 unfold f193G
 obtain ⟨t1, a, e1, h1⟩ := name_draw h
 rw [e1, Option.bind_some]
 simp only
 obtain ⟨t2, r2, e2, h2, _⟩ := next_ok h1 2
 rw [e2, Option.bind_some]
 simp only
 obtain ⟨t3, r3, e3, h3, _⟩ := next_ok h2 24
 rw [e3, Option.bind_some]
 simp only
 cases r3 == 0
 ·rw [cond_false]
  obtain ⟨t4, r4, e4, h4, hr⟩ := strokes_draw h3 ((w ((2 : Int) * (if (w ((1 : Int) + r2)) > (1 : Int) then (w ((1 : Int) + r2)) else (1 : Int)))), (0 : Int), (w ((2 : Int) * (if (w ((1 : Int) + r2)) > (1 : Int) then (w ((1 : Int) + r2)) else (1 : Int)))))
  rw [e4]
  exact ⟨t4, a, _, r4, rfl, h4, hr⟩
 ·rw [cond_true]
  obtain ⟨t4, r4, e4, h4, _⟩ := pick_ok h3 (l := [(0 : Int), 4, 5]) (by simp)
  rw [e4, Option.bind_some]
  simp only
  obtain ⟨t5, r5, e5, h5, hr⟩ := strokes_draw h4 ((w ((2 : Int) * (if r4 > (1 : Int) then r4 else (1 : Int)))), (0 : Int), (w ((2 : Int) * (if r4 > (1 : Int) then r4 else (1 : Int)))))
  rw [e5]
  exact ⟨t5, a, _, r5, rfl, h5, hr⟩
end Go.Proofs.YtfccacobkcglcaaGreat.X
