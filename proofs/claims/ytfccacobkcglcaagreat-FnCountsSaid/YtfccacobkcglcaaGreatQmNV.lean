/- Plain facts: motions that a code draws, good or not. -/
import Derived.Test.YtfccacobkcglcaaGreatQmMT
namespace Go.Proofs.YtfccacobkcglcaaGreat.X
open Go
set_option linter.unusedSimpArgs false
set_option linter.unusedVariables false
theorem vec_drawV {c : List Int} {t : Int × Int} (h : Src c t) : ∃ t' v, f291G KK (c, t) = some (t', v) ∧ Src c t' := by
 unfold f291G
 obtain ⟨t1, r1, e1, h1, _⟩ := next_ok h 40
 rw [e1, Option.bind_some]
 simp only
 cases r1 == 0
 ·rw [cond_false]
  obtain ⟨t2, r2, e2, h2, _⟩ := pick_ok h1 (l := [(4 : Int), 9, 30]) (by simp)
  rw [e2, Option.bind_some]
  simp only
  obtain ⟨t3, r3, e3, h3, _⟩ := next_ok h2 (w ((w ((2 : Int) * r2)) + (1 : Int)))
  rw [e3, Option.bind_some]
  simp only
  obtain ⟨t4, r4, e4, h4, _⟩ := next_ok h3 (w ((w ((2 : Int) * r2)) + (1 : Int)))
  rw [e4]
  exact ⟨t4, _, rfl, h4⟩
 ·rw [cond_true]
  obtain ⟨t2, r2, e2, h2, _⟩ := pick_ok h1 (l := [(-1000 : Int), 1000, 1001, 0]) (by simp)
  rw [e2, Option.bind_some]
  simp only
  obtain ⟨t3, r3, e3, h3, _⟩ := pick_ok h2 (l := [(-1001 : Int), 1000, 0]) (by simp)
  rw [e3]
  exact ⟨t3, _, rfl, h3⟩
theorem mulD (a b : Mt) : ∃ r, f351G KK a b = some r := ⟨_, rfl⟩
theorem invD (a : Mt) : ∃ r, f399G KK a = some r := ⟨_, rfl⟩
theorem fin_loop {c : List Int} {t0 : Int × Int} : ∀ (n k : Nat) (t : Int × Int) (m : Mt), Src c t → k ≤ 1000 → k < n → ∃ t' m', f354_l10 KK (c, t0) n (k : Int) t.1 t.2 m.1 m.2.1 m.2.2.1 m.2.2.2 = some (t', m') ∧ Src c t'
 | 0, k, _, _, _, _, h => by omega
 | n + 1, k, t, m, h, hk, hn => by
  show ∃ t' m', f354_b10 KK (c, t0) (fun v0 v1 v2 v3 v4 v5 v6 => f354_l10 KK (c, t0) n v0 v1 v2 v3 v4 v5 v6) (k : Int) t.1 t.2 m.1 m.2.1 m.2.2.1 m.2.2.2 = some (t', m') ∧ Src c t'
  unfold f354_b10
  have et : ((t.1, t.2) : Int × Int) = t := rfl
  simp only
  rw [et]
  cases k with
  | zero =>
   rw [decide_eq_false (show ¬ ((0 : Nat) : Int) > 0 by omega), cond_false]
   exact ⟨t, m, rfl, h⟩
  | succ k =>
   rw [decide_eq_true (show ((k + 1 : Nat) : Int) > 0 by omega), cond_true, w_id (n := ((k + 1 : Nat) : Int) - 1) (by omega) (by omega)]
   have ek : ((k + 1 : Nat) : Int) - 1 = (k : Int) := by omega
   rw [ek]
   obtain ⟨t1, r1, e1, h1, _⟩ := next_ok h 5
   rw [e1, Option.bind_some]
   simp only
   obtain ⟨t2, r2, e2, h2, _⟩ := next_ok h1 2
   rw [e2, Option.bind_some]
   simp only
   cases r2 == 0
   ·rw [cond_false]
    obtain ⟨a, ea⟩ := mulD ((1 : Int), (w (r1 - (2 : Int))), (0 : Int), (1 : Int)) (m.1, m.2.1, m.2.2.1, m.2.2.2)
    obtain ⟨b, eb⟩ := invD ((1 : Int), (w (r1 - (2 : Int))), (0 : Int), (1 : Int))
    obtain ⟨d, ed⟩ := mulD a b
    rw [ea, Option.bind_some, eb, Option.bind_some, ed, Option.bind_some]
    exact fin_loop n k t2 d h2 (by omega) (by omega)
   ·rw [cond_true]
    obtain ⟨t3, r3, e3, h3, _⟩ := next_ok h2 5
    rw [e3, Option.bind_some]
    simp only
    obtain ⟨a, ea⟩ := mulD ((1 : Int), (0 : Int), (w (r3 - (2 : Int))), (1 : Int)) (m.1, m.2.1, m.2.2.1, m.2.2.2)
    obtain ⟨b, eb⟩ := invD ((1 : Int), (0 : Int), (w (r3 - (2 : Int))), (1 : Int))
    obtain ⟨d, ed⟩ := mulD a b
    rw [ea, Option.bind_some, eb, Option.bind_some, ed, Option.bind_some]
    exact fin_loop n k t3 d h3 (by omega) (by omega)
theorem fin_draw {c : List Int} {t : Int × Int} (h : Src c t) : ∃ t' m, f354G KK (c, t) = some (t', m) ∧ Src c t' := by
 unfold f354G f354_g
 obtain ⟨t1, r1, e1, h1, a1, b1⟩ := next_pos h (n := 8) (by omega)
 rw [e1, Option.bind_some]
 simp only
 rw [decide_eq_true a1, decide_eq_true (show r1 < ([((1 : Int), (0 : Int), (0 : Int), (1 : Int)), ((-1 : Int), (0 : Int), (0 : Int), (-1 : Int)), ((0 : Int), (-1 : Int), (1 : Int), (0 : Int)), ((0 : Int), (-1 : Int), (1 : Int), (1 : Int)), ((-1 : Int), (-1 : Int), (1 : Int), (0 : Int)), ((1 : Int), (0 : Int), (0 : Int), (-1 : Int)), ((0 : Int), (1 : Int), (1 : Int), (0 : Int)), ((1 : Int), (1 : Int), (0 : Int), (-1 : Int))].length : Int) by simp; omega)]
 simp only [Bool.and_self, cond_true]
 obtain ⟨t2, r2, e2, h2, a2, b2⟩ := next_pos h1 (n := 3) (by omega)
 obtain ⟨k, rfl⟩ : ∃ k : Nat, r2 = (k : Int) := ⟨r2.toNat, by omega⟩
 rw [e2, Option.bind_some]
 exact fin_loop KK k t2 _ h2 (by omega) (by simp only [KK]; omega)
theorem mat_loop {c : List Int} {t0 : Int × Int} {y1 : (Int × Int) × Int} : ∀ (n k : Nat) (t : Int × Int) (m : Mt), Src c t → k ≤ 1000 → k < n → ∃ t' m', f353_l8 KK (c, t0) y1 n (k : Int) t.1 t.2 m.1 m.2.1 m.2.2.1 m.2.2.2 = some (t', m') ∧ Src c t'
 | 0, k, _, _, _, _, h => by omega
 | n + 1, k, t, m, h, hk, hn => by
  show ∃ t' m', f353_b8 KK (c, t0) y1 (fun v0 v1 v2 v3 v4 v5 v6 => f353_l8 KK (c, t0) y1 n v0 v1 v2 v3 v4 v5 v6) (k : Int) t.1 t.2 m.1 m.2.1 m.2.2.1 m.2.2.2 = some (t', m') ∧ Src c t'
  unfold f353_b8
  have et : ((t.1, t.2) : Int × Int) = t := rfl
  simp only
  rw [et]
  cases k with
  | zero =>
   rw [decide_eq_false (show ¬ ((0 : Nat) : Int) > 0 by omega), cond_false]
   obtain ⟨t1, r1, e1, h1, _⟩ := next_ok h 20
   rw [e1, Option.bind_some]
   simp only
   cases r1 == 0
   ·rw [cond_false]
    cases r1 == 1
    ·exact ⟨t1, _, rfl, h1⟩
    ·rw [cond_true]
     obtain ⟨t2, r2, e2, h2, _⟩ := pick_ok h1 (l := [(999 : Int), 1000, 1001]) (by simp)
     rw [e2]
     exact ⟨t2, _, rfl, h2⟩
   ·exact ⟨t1, _, rfl, h1⟩
  | succ k =>
   rw [decide_eq_true (show ((k + 1 : Nat) : Int) > 0 by omega), cond_true, w_id (n := ((k + 1 : Nat) : Int) - 1) (by omega) (by omega)]
   have ek : ((k + 1 : Nat) : Int) - 1 = (k : Int) := by omega
   rw [ek]
   obtain ⟨t1, r1, e1, h1, a1, b1⟩ := next_pos h (n := 5) (by omega)
   rw [e1, Option.bind_some]
   simp only
   rw [decide_eq_true a1, decide_eq_true (show r1 < ([((1 : Int), (1 : Int), (0 : Int), (1 : Int)), ((1 : Int), (0 : Int), (1 : Int), (1 : Int)), ((1 : Int), (-2 : Int), (0 : Int), (1 : Int)), ((0 : Int), (1 : Int), (1 : Int), (0 : Int)), ((-1 : Int), (0 : Int), (0 : Int), (1 : Int))].length : Int) by simp; omega)]
   simp only [Bool.and_self, cond_true]
   exact mat_loop n k t1 _ h1 (by omega) (by omega)
theorem mat_draw {c : List Int} {t : Int × Int} (h : Src c t) : ∃ t' m, f353G KK (c, t) = some (t', m) ∧ Src c t' := by
 unfold f353G f353_g
 obtain ⟨t1, r1, e1, h1, _⟩ := next_ok h 3
 rw [e1, Option.bind_some]
 simp only
 cases decide (r1 > 0)
 ·rw [cond_false]
  have hu : f233G KK = some (1, 0, 0, 1) := rfl
  obtain ⟨t2, r2, e2, h2, a2, b2⟩ := next_pos h1 (n := 5) (by omega)
  obtain ⟨k, rfl⟩ : ∃ k : Nat, r2 = (k : Int) := ⟨r2.toNat, by omega⟩
  rw [hu, Option.bind_some, e2, Option.bind_some]
  exact mat_loop KK k t2 (1, 0, 0, 1) h2 (by omega) (by simp only [KK]; omega)
 ·rw [cond_true]
  obtain ⟨t2, m, e2, h2⟩ := fin_draw h1
  rw [e2]
  exact ⟨t2, m, rfl, h2⟩
theorem pmat_draw {c : List Int} {t : Int × Int} (h : Src c t) {f : Int} (h1 : 0 ≤ f) (h2 : f ≤ 1) : ∃ t' m, f352G KK (c, t) f = some (t', m) ∧ Src c t' := by
 unfold f352G
 have hf : okF f = true := by simp [okF]; omega
 rw [specIsFrame_eq, Option.bind_some, hf]
 simp only [Bool.not_true, cond_false]
 rw [l04Mats_eq h1 h2, Option.bind_some]
 have hpos : 0 < (pmS f).length := List.length_pos_of_mem (pmS_one f)
 obtain ⟨t1, r1, e1, s1, a1, b1⟩ := next_pos h (n := ((pmS f).length : Int)) (by omega)
 rw [e1, Option.bind_some]
 simp only
 rw [decide_eq_true a1, decide_eq_true b1]
 exact ⟨t1, _, rfl, s1⟩
theorem gen_draw {c : List Int} {t : Int × Int} (h : Src c t) : ∃ t' m, f308G KK (c, t) = some (t', m) ∧ Src c t' := by
 have tail : ∀ (M : Mt) {t : Int × Int}, Src c t → ∃ t' m, ((f194G KK (c, t) 5).bind fun y5 => (bif (y5.2 == (0 : Int)) then some (y5.1, M, (0 : Int), (0 : Int)) else (f291G KK (c, y5.1)).bind fun y6 => some (y6.1, M, y6.2))) = some (t', (m : Mo)) ∧ Src c t' := fun M {t} h => by
  obtain ⟨t1, r1, e1, h1, _⟩ := next_ok h 5
  rw [e1, Option.bind_some]
  simp only
  cases r1 == 0
  ·rw [cond_false]
   obtain ⟨t2, v, e2, h2⟩ := vec_drawV h1
   rw [e2]
   exact ⟨t2, (M, v), rfl, h2⟩
  ·exact ⟨t1, (M, 0, 0), rfl, h1⟩
 unfold f308G
 obtain ⟨t1, r1, e1, h1, a1, b1⟩ := next_pos h (n := 2) (by omega)
 rw [e1, Option.bind_some]
 simp only
 obtain ⟨t2, m2, e2, h2⟩ := pmat_draw h1 (f := r1) a1 (by omega)
 rw [e2, Option.bind_some]
 simp only
 obtain ⟨t3, r3, e3, h3, _⟩ := next_ok h2 12
 rw [e3, Option.bind_some]
 simp only
 cases r3 == 0
 ·rw [cond_false]
  cases r3 == 1
  ·rw [cond_false]
   cases r3 == 2
   ·rw [cond_false]
    exact tail m2 h3
   ·rw [cond_true]
    obtain ⟨t4, m4, e4, h4⟩ := fin_draw h3
    rw [e4, Option.bind_some]
    exact tail m4 h4
  ·rw [cond_true]
   have hu : f233G KK = some (1, 0, 0, 1) := rfl
   rw [hu, Option.bind_some]
   exact tail (1, 0, 0, 1) h3
 ·rw [cond_true]
  obtain ⟨t4, m4, e4, h4⟩ := mat_draw h3
  rw [e4, Option.bind_some]
  exact tail m4 h4
theorem any_motion {c : List Int} {t : Int × Int} (h : Src c t) (f : Int) (l : Lt) : ∃ t' m, f309G KK (c, t) f l = some (t', m) ∧ Src c t' := by
 cases hc : okF f && okL l
 ·unfold f309G f233G
  rw [Option.bind_some, l04Code_eq, hc, Option.bind_some]
  obtain ⟨t1, r1, e1, h1, _⟩ := next_ok h 9
  obtain ⟨t2, r2, e2, h2, _⟩ := next_ok h1 9
  rw [e1, Option.bind_some]
  simp only
  rw [e2]
  exact ⟨t2, _, rfl, h2⟩
 ·rw [Bool.and_eq_true] at hc
  obtain ⟨t', m, e, h', _⟩ := motion_ok h hc.1 (okL_iff.1 hc.2)
  exact ⟨t', m, e, h'⟩
theorem suit_draw {c : List Int} (hb : ∀ i (h : i < c.length), 0 ≤ c[i] ∧ c[i] ≤ 255) (hl : c.length ≤ 4096) : ∃ f l m, f222G KK c = some (f, l, m) := by
 obtain ⟨t0, s0, e0⟩ := from_ok hb hl
 obtain ⟨t1, f, l, e1, s1⟩ := dlat_ok s0
 unfold f222G
 rw [e0, Option.bind_some, e1, Option.bind_some]
 simp only
 obtain ⟨t2, r2, e2, s2, _⟩ := next_ok s1 4
 rw [e2, Option.bind_some]
 simp only
 cases r2 == 0
 ·obtain ⟨t3, m, e3, s3⟩ := any_motion s2 f l
  rw [cond_false, e3]
  exact ⟨f, l, m, rfl⟩
 ·obtain ⟨t3, m, e3, s3⟩ := gen_draw s2
  rw [cond_true, e3]
  exact ⟨f, l, m, rfl⟩
end Go.Proofs.YtfccacobkcglcaaGreat.X
