/- Plain facts: numbers, lattices, motions and cells that a code draws. -/
import Derived.Test.YtniidcalfhhciaaGreatQgMR
namespace Go.Proofs.YtniidcalfhhciaaGreat.X
open Go
set_option linter.unusedSimpArgs false
set_option linter.unusedVariables false
/-- a source of numbers: the code, how far it is read, the seed -/
structure Src (c : List Int) (t : Int × Int) : Prop where
 by0 : ∀ i (h : i < c.length), 0 ≤ c[i] ∧ c[i] ≤ 255
 len : c.length ≤ 4096
 a0 : 0 ≤ t.1
 a1 : t.1 ≤ (c.length : Int)
 s0 : 0 ≤ t.2
 s1 : t.2 < 2147483647
theorem byte_wf {n : Int} (h : (Lit.int .u8 n).wf = true) : 0 ≤ n ∧ n ≤ 255 := by
 simp [Lit.wf, IntKind.min, IntKind.max, IntKind.signed, IntKind.bits] at h
 omega
theorem from_ok {c : List Int} (hb : ∀ i (h : i < c.length), 0 ≤ c[i] ∧ c[i] ≤ 255) (hl : c.length ≤ 4096) : ∃ t, Src c t ∧ f124G KK c = some t := by
 unfold f124G f124_g f124_l2
 refine iter_ex (X := Int × Int) (R := Int × Int) (min c.length 64) (fun q x => x.1 = (q : Int) ∧ 0 ≤ x.2 ∧ x.2 < 2147483647) (Src c) ?_ ?_ KK 0 (0, 93001) (by omega) (by simp only [KK]; omega) ⟨rfl, by simp, by simp⟩
 ·rintro L q ⟨x1, x2⟩ hq ⟨e1, e2, e3⟩
  simp only at e1 e2 e3
  subst e1
  have hq1 : q < c.length := by omega
  obtain ⟨b0, b1⟩ := hb q hq1
  have hq4 : decide ((q : Int) < 64) = true := decide_eq_true (by omega)
  refine ⟨(((q + 1 : Nat) : Int), (x2 * 73 + c[q]).tmod 2147483647), ⟨rfl, Int.tmod_nonneg _ (by omega), Int.tmod_lt_of_pos _ (by omega)⟩, ?_⟩
  show f124_b2 KK c (fun v0 v1 => L (v0, v1)) (q : Int) x2 = _
  unfold f124_b2
  rw [in1 hq1, in0, gd hq1, hq4, w_id (n := x2 * 73) (by omega) (by omega), w_id (n := c[q]) (by omega) (by omega), w_id (n := x2 * 73 + c[q]) (by omega) (by omega), w_succ (by omega)]
  simp only [Bool.or_true, cond_true, Bool.and_self]
 ·rintro L ⟨x1, x2⟩ ⟨e1, e2, e3⟩
  simp only at e1 e2 e3
  subst e1
  refine ⟨(0, x2), ⟨hb, hl, by simp, by simp, e2, e3⟩, ?_⟩
  show f124_b2 KK c (fun v0 v1 => L (v0, v1)) ((min c.length 64 : Nat) : Int) x2 = _
  unfold f124_b2
  have hx : (bif decide (((min c.length 64 : Nat) : Int) < (c.length : Int)) then decide (((min c.length 64 : Nat) : Int) < 64) else false) = false := by
   by_cases h1 : c.length ≤ 64
   ·rw [decide_eq_false (by omega)]; rfl
   ·rw [decide_eq_false (show ¬ ((min c.length 64 : Nat) : Int) < 64 by omega)]
    cases decide (((min c.length 64 : Nat) : Int) < (c.length : Int)) <;> rfl
  rw [hx]
  simp only [Bool.or_true, cond_true, cond_false]
theorem next_ok {c : List Int} {t : Int × Int} (h : Src c t) (n : Int) : ∃ t' r, f140G KK (c, t) n = some (t', r) ∧ Src c t' ∧ 0 ≤ r ∧ (r < n ∨ r = 0) := by
 obtain ⟨hb, hl, a0, a1, s0, s1⟩ := h
 obtain ⟨a, sd⟩ := t
 simp only at a0 a1 s0 s1
 obtain ⟨k, rfl⟩ : ∃ k : Nat, a = (k : Int) := ⟨a.toNat, by omega⟩
 unfold f140G
 simp only
 by_cases h1 : n ≤ 1
 ·rw [decide_eq_true h1, cond_true]
  exact ⟨_, _, rfl, ⟨hb, hl, a0, a1, s0, s1⟩, by omega, .inr rfl⟩
 ·have hn0 : (n != 0) = true := by simp; omega
  rw [decide_eq_false h1, cond_false, hn0, w_id (n := sd * 48271) (by omega) (by omega), w_id (n := sd * 48271 + 67) (by omega) (by omega)]
  have m0 := Int.tmod_nonneg (a := sd * 48271 + 67) 2147483647 (by omega)
  have m1 := Int.tmod_lt_of_pos (sd * 48271 + 67) (show (0 : Int) < 2147483647 by omega)
  generalize (sd * 48271 + 67).tmod 2147483647 = u at *
  have q : u.tdiv 37 = u / 37 := Int.tdiv_eq_ediv_of_nonneg m0
  rw [q, w_id (n := u / 37) (by omega) (by omega)]
  have fin : ∀ x : Int, 0 ≤ x → 0 ≤ x.tmod n ∧ (x.tmod n < n ∨ x.tmod n = 0) := fun x hx => ⟨Int.tmod_nonneg _ hx, .inl (Int.tmod_lt_of_pos _ (by omega))⟩
  by_cases h2 : k < c.length
  ·obtain ⟨b0, b1⟩ := hb k h2
   rw [in1 h2, in0, gd h2, w_succ (by omega), w_id (n := ((k + 1 : Nat) : Int) - 1) (by omega) (by omega)]
   have e1 : ((k + 1 : Nat) : Int) - 1 = (k : Int) := by omega
   rw [e1, in0, in1 h2, gd h2, w_id (n := c[k]) (by omega) (by omega), w_id (n := u / 37 + c[k]) (by omega) (by omega)]
   simp only [Bool.or_true, cond_true, Bool.and_self]
   have hs : Src c (((k + 1 : Nat) : Int), u) := ⟨hb, hl, by simp only; omega, by simp only; omega, m0, m1⟩
   cases (bif decide (n ≤ 256) then (((k + 1 : Nat) : Int).tmod 2 == 0) else false)
   ·exact ⟨_, _, rfl, hs, fin _ (by omega)⟩
   ·exact ⟨_, _, rfl, hs, fin _ (by omega)⟩
  ·have e : decide ((k : Int) < (c.length : Int)) = false := decide_eq_false (by omega)
   rw [e, cond_false, cond_true]
   exact ⟨_, _, rfl, ⟨hb, hl, by simp only; omega, by simp only; omega, m0, m1⟩, fin _ (by omega)⟩
theorem next_pos {c : List Int} {t : Int × Int} (h : Src c t) {n : Int} (hn : 1 ≤ n) : ∃ t' r, f140G KK (c, t) n = some (t', r) ∧ Src c t' ∧ 0 ≤ r ∧ r < n := by
 obtain ⟨t', r, e, hs, h0, h1⟩ := next_ok h n
 exact ⟨t', r, e, hs, h0, by omega⟩
theorem pick_ok {c : List Int} {t : Int × Int} (h : Src c t) {l : List Int} (hl : 0 < l.length) : ∃ t' r, f142G KK (c, t) l = some (t', r) ∧ Src c t' ∧ r ∈ l := by
 obtain ⟨t', r, e, hs, h0, h1⟩ := next_pos h (n := (l.length : Int)) (by omega)
 obtain ⟨k, rfl⟩ : ∃ k : Nat, r = (k : Int) := ⟨r.toNat, by omega⟩
 have hk : k < l.length := by omega
 unfold f142G
 rw [e, Option.bind_some, in0, in1 hk, gd hk]
 exact ⟨t', _, rfl, hs, List.getElem_mem hk⟩
theorem frame_ok {c : List Int} {t : Int × Int} (h : Src c t) : ∃ t' f, f304G KK (c, t) = some (t', f) ∧ Src c t' := by
 unfold f304G
 obtain ⟨t1, r1, e1, h1, _⟩ := next_ok h 40
 rw [e1, Option.bind_some]
 simp only
 cases r1 == 0
 ·obtain ⟨t2, r2, e2, h2, _⟩ := next_ok h1 2
  rw [cond_false, e2]
  exact ⟨_, _, rfl, h2⟩
 ·obtain ⟨t2, r2, e2, h2, _⟩ := pick_ok h1 (l := [(-1 : Int), 2]) (by simp)
  rw [cond_true, e2]
  exact ⟨_, _, rfl, h2⟩
theorem lat_ok {c : List Int} {t : Int × Int} (h : Src c t) : ∃ t' l, f305G KK (c, t) = some (t', l) ∧ Src c t' := by
 unfold f305G
 obtain ⟨t1, r1, e1, h1, _⟩ := next_ok h 6
 rw [e1, Option.bind_some]
 simp only
 obtain ⟨t2, r2, e2, h2, _⟩ := next_ok h1 6
 rw [e2, Option.bind_some]
 simp only
 obtain ⟨t3, r3, e3, h3, _⟩ := next_ok h2 (w (1 + r1))
 rw [e3, Option.bind_some]
 simp only
 obtain ⟨t4, r4, e4, h4, _⟩ := next_ok h3 60
 rw [e4, Option.bind_some]
 simp only
 cases r4 == 0
 ·rw [cond_false]
  cases r4 == 1
  ·rw [cond_false]
   cases r4 == 2
   ·exact ⟨_, _, rfl, h4⟩
   ·obtain ⟨t5, r5, e5, h5, _⟩ := pick_ok h4 (l := [(8 : Int), 9]) (by simp)
    rw [cond_true, e5]
    exact ⟨_, _, rfl, h5⟩
  ·obtain ⟨t5, r5, e5, h5, _⟩ := pick_ok h4 (l := [(-1 : Int), w (1 + r1), w (w (1 + r1) - 1)]) (by simp)
   rw [cond_true, e5]
   exact ⟨_, _, rfl, h5⟩
 ·obtain ⟨t5, r5, e5, h5, _⟩ := pick_ok h4 (l := [(0 : Int), 64, 65, 8]) (by simp)
  rw [cond_true, e5]
  exact ⟨_, _, rfl, h5⟩
theorem dlat_ok {c : List Int} {t : Int × Int} (h : Src c t) : ∃ t' f l, f213G KK (c, t) = some (t', f, l) ∧ Src c t' := by
 unfold f213G
 obtain ⟨t1, f, e1, h1⟩ := frame_ok h
 rw [e1, Option.bind_some]
 simp only
 obtain ⟨t2, r2, e2, h2, _⟩ := next_ok h1 5
 rw [e2, Option.bind_some]
 simp only
 cases r2 == 0
 ·rw [cond_false]
  cases r2 == 1
  ·rw [cond_false]
   cases r2 == 2
   ·rw [cond_false]
    obtain ⟨t3, r3, e3, h3, _⟩ := next_ok h2 4
    rw [e3]
    exact ⟨_, _, _, rfl, h3⟩
   ·rw [cond_true]
    cases f == 0
    ·exact ⟨_, _, _, rfl, h2⟩
    ·exact ⟨_, _, _, rfl, h2⟩
  ·rw [cond_true]
   obtain ⟨t3, r3, e3, h3, _⟩ := next_ok h2 4
   rw [e3, Option.bind_some]
   simp only
   obtain ⟨t4, r4, e4, h4, _⟩ := next_ok h3 4
   rw [e4]
   exact ⟨_, _, _, rfl, h4⟩
 ·obtain ⟨t3, l, e3, h3⟩ := lat_ok h2
  rw [cond_true, e3]
  exact ⟨_, _, _, rfl, h3⟩
/-- a motion whose matrix the lattice allows and whose shift is short -/
theorem motion_ok {c : List Int} {t : Int × Int} (h : Src c t) {f : Int} {l : Lt} (hf : okF f = true) (hl : IsL l) : ∃ t' m, f291G KK (c, t) f l = some (t', m) ∧ Src c t' ∧ m.1 ∈ stabS f l ∧ Sm m.2 := by
 have hf' : 0 ≤ f ∧ f ≤ 1 := by simpa [okF] using hf
 have hs1 := stab_one (f := f) hl
 have hpos : 0 < (stabS f l).length := List.length_pos_of_mem hs1
 unfold f291G f218G
 rw [l04Code_eq, hf, okL_iff.2 hl, l04Stable_eq hf'.1 hf'.2 hl]
 simp only [Option.bind_some, Bool.and_self, if_true, beq_self_eq_true, cond_true]
 obtain ⟨t1, r1, e1, h1, a1, b1⟩ := next_pos h (n := ((stabS f l).length : Int)) (by omega)
 obtain ⟨k, rfl⟩ : ∃ k : Nat, r1 = (k : Int) := ⟨r1.toNat, by omega⟩
 have hk : k < (stabS f l).length := by omega
 rw [e1, Option.bind_some]
 simp only
 rw [in0, in1 hk, gd hk]
 simp only [Bool.and_self, cond_true]
 obtain ⟨t2, r2, e2, h2, a2, b2⟩ := next_pos h1 (n := 9) (by omega)
 rw [e2, Option.bind_some]
 simp only
 obtain ⟨t3, r3, e3, h3, a3, b3⟩ := next_pos h2 (n := 9) (by omega)
 rw [e3, Option.bind_some, w_id (n := r2 - 4) (by omega) (by omega), w_id (n := r3 - 4) (by omega) (by omega)]
 refine ⟨t3, ((stabS f l)[k], (r2 - 4, r3 - 4)), rfl, h3, List.getElem_mem hk, ?_⟩
 unfold Sm
 simp only
 omega
end Go.Proofs.YtniidcalfhhciaaGreat.X
