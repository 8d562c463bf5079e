/- Plain facts: the lattice of a list of vectors, as the program and the reference compute it. -/
import Derived.Test.YtniidcalfhhciaaGreatQgMA
namespace Go.Proofs.YtniidcalfhhciaaGreat.X
open Go
set_option linter.unusedSimpArgs false
set_option linter.unusedVariables false
noncomputable def tailR (a : Int) (q : Int) (L : Int → Int → Int → Int → Option Lt) (r : Vc × Int) : Option Lt :=
 (f136G KK a r.2).bind fun y20 => (bif (decide (y20 > (0 : Int))) then (f324G KK r.1.1 y20).bind fun y21 => L y20 (w (q + (1 : Int))) y21 r.1.2 else L y20 (w (q + (1 : Int))) r.1.1 r.1.2)
theorem herm_in (l : List Vc) (a q : Int) (L : Int → Int → Int → Int → Option Lt) : ∀ (n : Nat) (p v : Vc), v.2.natAbs < n → Bd 36028797018963968 p v → p.2.natAbs ≤ 1000000 → v.2.natAbs ≤ 1000000 →
  f296_l15 KK l a q L n p.1 p.2 v.1 v.2 = tailR a q L (euS n p v)
 | 0, p, v, h, _, _, _ => by omega
 | n + 1, p, v, h, hb, hp, hv => by
  have e : f296_l15 KK l a q L (n + 1) p.1 p.2 v.1 v.2 = f296_b15 KK l a q L (fun v0 v1 v2 v3 => f296_l15 KK l a q L n v0 v1 v2 v3) p.1 p.2 v.1 v.2 := rfl
  rw [e]
  unfold f296_b15
  dsimp only
  by_cases h0 : v.2 = 0
  ·have h1 : (v.2 != 0) = false := by simp [h0]
   rw [h1, cond_false]
   simp only [euS, h0, if_true]
   rfl
  ·have h1 : (v.2 != 0) = true := by simp [h0]
   obtain ⟨c1, c2, c3, c4⟩ := nx_calc hb hp h0 hv
   have h2 := nx_ylt p v h0
   rw [h1, cond_true, cond_true, c1, c2, herm_in l a q L n v (nx p v) (by omega) (Bd_nx hb h0) hv (by omega)]
   simp only [euS, if_neg h0]
abbrev Hs := Int × Vc
def gI (a x : Int) : Int := ((Int.gcd a x : Nat) : Int)
def stI (s : Hs) (t : Vc) : Hs := (gI s.1 (euS KK s.2 t).2, (euS KK s.2 t).1)
def stR (s : Hs) (t : Vc) : Hs := (gI s.1 (euS KK s.2 t).2, ((if gI s.1 (euS KK s.2 t).2 > 0 then (euS KK s.2 t).1.1 % gI s.1 (euS KK s.2 t).2 else (euS KK s.2 t).1.1), (euS KK s.2 t).1.2))
structure Oks (s : Hs) (t : Vc) : Prop where
 bd : Bd 36028797018963968 s.2 t
 y : s.2.2.natAbs ≤ 1000000
 ty : t.2.natAbs ≤ 1000000
 a : s.1.natAbs ≤ 1000000
 g : gI s.1 (euS KK s.2 t).2 ≤ 1000000
def finR (s : Hs) : Lt := (s.1, (if s.1 > 0 then (if s.2.2 < 0 then -s.2.1 else s.2.1) % s.1 else (if s.2.2 < 0 then -s.2.1 else s.2.1)), (if s.2.2 < 0 then -s.2.2 else s.2.2))
theorem gI_pos (a x : Int) : 0 ≤ gI a x := by unfold gI; omega
theorem KKlt {n : Nat} (h : n ≤ 1000000) : n < KK := by simp only [KK]; omega
theorem hermite_eq (l : List Vc) (hl : l.length ≤ 1000000) (inv : Nat → Hs → Prop) (h0 : inv 0 (0, 0, 0)) (h1 : ∀ q s (hq : q < l.length), inv q s → Oks s l[q] ∧ inv (q + 1) (stR s l[q]))
  (h2 : ∀ s, inv l.length s → s.1 ≤ 1000000 ∧ s.2.1.natAbs ≤ 36028797018963968 ∧ s.2.2.natAbs ≤ 36028797018963968) : f296G KK l = some (finR (l.foldl stR (0, 0, 0))) := by
 have h := iter_fold (X := Int × Int × Int × Int) (body := fun L x => f296_b10 KK l (fun c0 c1 d0 d1 d2 d3 => f296_l15 KK l c0 c1 (fun v0 v1 v2 v3 => L (v0, v1, v2, v3)) KK d0 d1 d2 d3) (fun v0 v1 v2 v3 => L (v0, v1, v2, v3)) x.1 x.2.1 x.2.2.1 x.2.2.2) l (fun q s => (s.1, (q : Int), s.2.1, s.2.2)) stR (fun s => some (finR s)) inv
  (fun L q s hq hi => by
   obtain ⟨ok, hn⟩ := h1 q s hq hi
   refine ⟨hn, ?_⟩
   have hy := KKlt ok.ty
   have hbd := euS_bd KK s.2 l[q] hy ok.bd
   unfold f296_b10
   simp only
   rw [in1 hq, in0, gd hq, herm_in l s.1 q _ KK s.2 l[q] hy ok.bd ok.y ok.ty]
   simp only [Bool.and_self, cond_true]
   unfold tailR
   rw [divisor_eq ok.a (by have := hbd.2; omega), Option.bind_some, w_succ (by omega)]
   show (bif decide (gI s.1 (euS KK s.2 l[q]).2 > 0) then _ else _) = _
   unfold stR
   by_cases hg : gI s.1 (euS KK s.2 l[q]).2 > 0
   ·rw [decide_eq_true hg, cond_true]
    show (f324G KK (euS KK s.2 l[q]).1.1 (gI s.1 (euS KK s.2 l[q]).2)).bind _ = _
    rw [l01Mod_eq (by omega) ok.g]
    simp only [Option.bind_some, if_pos hg]
    rfl
   ·rw [decide_eq_false hg, cond_false]
    simp only [if_neg hg]
    rfl)
  (fun L s hi => by
   obtain ⟨e1, e2, e3⟩ := h2 s hi
   unfold f296_b10 f333G
   simp only
   rw [out1, cond_false]
   unfold finR
   by_cases hy : s.2.2 < 0
   ·rw [decide_eq_true hy, cond_true, Option.bind_some, w_id (n := -1 * s.2.1) (by omega) (by omega), w_id (n := -1 * s.2.2) (by omega) (by omega)]
    simp only [if_pos hy]
    have e4 : -1 * s.2.1 = -s.2.1 := by omega
    have e5 : -1 * s.2.2 = -s.2.2 := by omega
    rw [e4, e5]
    by_cases ha : s.1 > 0
    ·rw [decide_eq_true ha, cond_true, l01Mod_eq (by omega) e1, if_pos ha]; rfl
    ·rw [decide_eq_false ha, cond_false, if_neg ha]
   ·rw [decide_eq_false hy, cond_false]
    simp only [if_neg hy]
    by_cases ha : s.1 > 0
    ·rw [decide_eq_true ha, cond_true, l01Mod_eq (by omega) e1, if_pos ha]; rfl
    ·rw [decide_eq_false ha, cond_false, if_neg ha]) KK 0 (0, 0, 0) (by omega) (by have := KKlt hl; omega) h0
 unfold f296G f296_g f296_l10
 refine h.trans ?_
 simp only [List.drop_zero]
end Go.Proofs.YtniidcalfhhciaaGreat.X
/-! Plain facts: the full lattice is found alike; bounds of the numbers. -/
namespace Go.Proofs.YtniidcalfhhciaaGreat.X
open Go
set_option linter.unusedVariables false
theorem gcd_cong {a x y : Int} (h : a ∣ x - y) : Int.gcd a x = Int.gcd a y := by
 obtain ⟨k, hk⟩ := h
 have : x = y + a * k := by omega
 subst this
 simp
theorem emod_cong {a x y : Int} (h : a ∣ x - y) : x % a = y % a :=
 Int.emod_eq_emod_iff_emod_sub_eq_zero.mpr (Int.emod_eq_zero_of_dvd h)
structure Rl (s r : Hs) : Prop where
 a : s.1 = r.1
 p : 0 ≤ s.1
 y : s.2.2 = r.2.2
 x : s.1 ∣ s.2.1 - r.2.1
theorem Rl_step {s r : Hs} (h : Rl s r) (t : Vc) : Rl (stI s t) (stR r t) := by
 obtain ⟨c1, c2, c3⟩ := euS_cong s.1 KK s.2 t r.2 t h.y rfl h.x (by simp)
 have hg : gI s.1 (euS KK s.2 t).2 = gI r.1 (euS KK r.2 t).2 := by
  unfold gI; rw [gcd_cong c3, h.a]
 have hd : gI s.1 (euS KK s.2 t).2 ∣ s.1 := by unfold gI; exact Int.gcd_dvd_left ..
 refine ⟨hg, gI_pos _ _, c1, ?_⟩
 have h1 := Int.dvd_trans hd c2
 show gI s.1 (euS KK s.2 t).2 ∣ (euS KK s.2 t).1.1 - (stR r t).2.1
 unfold stR
 simp only [← hg]
 split
 ·have e : (euS KK s.2 t).1.1 - (euS KK r.2 t).1.1 % gI s.1 (euS KK s.2 t).2 = ((euS KK s.2 t).1.1 - (euS KK r.2 t).1.1) + ((euS KK r.2 t).1.1 - (euS KK r.2 t).1.1 % gI s.1 (euS KK s.2 t).2) := by omega
  rw [e]
  exact Int.dvd_add h1 (Int.dvd_self_sub_emod)
 ·exact h1
theorem Rl_fold : ∀ (l : List Vc) {s r : Hs}, Rl s r → Rl (l.foldl stI s) (l.foldl stR r)
 | [], _, _, h => h
 | t :: l, _, _, h => Rl_fold l (Rl_step h t)
theorem Rl_fin {s r : Hs} (h : Rl s r) : finR s = finR r := by
 unfold finR
 rw [← h.a, ← h.y]
 have hx := h.x
 congr 2
 split
 ·split
  ·apply emod_cong
   have e : -s.2.1 - -r.2.1 = -(s.2.1 - r.2.1) := by omega
   rw [e]; exact Int.dvd_neg.mpr hx
  ·exact emod_cong hx
 ·have h0 : s.1 = 0 := by have := h.p; omega
  rw [h0, Int.zero_dvd] at hx
  have : s.2.1 = r.2.1 := by omega
  rw [this]
def Gd (Y X : Nat) : Prop := (Y ≤ 64 ∧ X ≤ 64) ∨ (Y ≤ 32 ∧ X ≤ 8192) ∨ (Y ≤ 16 ∧ X ≤ 1048576) ∨ (Y ≤ 8 ∧ X ≤ 134217728) ∨ (Y ≤ 4 ∧ X ≤ 17179869184) ∨ (Y ≤ 2 ∧ X ≤ 2199023255552) ∨ (Y ≤ 1 ∧ X ≤ 281474976710656)
structure Bx (t : Vc) : Prop where
 x1 : 0 ≤ t.1
 x2 : t.1 ≤ 64
 y1 : 0 ≤ t.2
 y2 : t.2 ≤ 64
structure Pp (p : Vc) : Prop where
 y : 0 ≤ p.2
 z : p.2 = 0 → p = (0, 0)
 g : 1 ≤ p.2 → Gd p.2.natAbs p.1.natAbs
theorem euS_z (n : Nat) {p v : Vc} (h : v.2 = 0) : euS (n + 1) p v = (p, v.1) := by
 simp only [euS, h, if_true]
theorem euS_zero {p v : Vc} (h : v.2 = 0) : euS KK p v = (p, v.1) := euS_z 2097151 h
/-- what holds of the state behind q vectors, the first (A, 0) and the second (B, C) -/
structure Iv (l : Lt) (q : Nat) (s : Hs) : Prop where
 z : q = 0 → s = (0, 0, 0)
 a : 1 ≤ q → 1 ≤ s.1 ∧ s.1 ≤ l.1
 o : q = 1 → s.2.2 = 0
 y : 2 ≤ q → 1 ≤ s.2.2 ∧ s.2.2 ≤ l.2.2
 p : Pp s.2
theorem gI_le {a x : Int} (h : 1 ≤ a) : 1 ≤ gI a x ∧ gI a x ≤ a := by
 have h1 : 0 < Int.gcd a x := Int.gcd_pos_of_ne_zero_left _ (by omega)
 have h2 : gI a x ∣ a := by unfold gI; exact Int.gcd_dvd_left ..
 have h3 := Int.le_of_dvd (by omega) h2
 unfold gI at *
 omega
theorem foldl_inv {α S : Type} (f : S → α → S) (P : Nat → S → Prop) : ∀ (l : List α) (q : Nat) (s : S), P q s → (∀ i s (h : i < l.length), P (q + i) s → P (q + i + 1) (f s l[i])) → P (q + l.length) (l.foldl f s)
 | [], q, s, h, _ => h
 | a :: l, q, s, h, hs => by
  rw [List.foldl_cons]
  have := foldl_inv f P l (q + 1) (f s a) (hs 0 s (by simp) h) (fun i s' hi hP => by
   have := hs (i + 1) s' (by simp; omega) (by rw [show q + (i + 1) = q + 1 + i by omega]; exact hP)
   rw [show q + (i + 1) + 1 = q + 1 + i + 1 by omega] at this
   simpa using this)
  rw [List.length_cons, show q + (l.length + 1) = q + 1 + l.length by omega]
  exact this
/-- the lattice of a list that begins with a lattice's basis -/
def latS (l : List Vc) : Lt := finR (l.foldl stI (0, 0, 0))
end Go.Proofs.YtniidcalfhhciaaGreat.X
/-! Plain facts: the lean pattern, as the program and the reference compute it. -/
namespace Go.Proofs.YtniidcalfhhciaaGreat.X
open Go
set_option linter.unusedVariables false
abbrev Un : Mt := (1, 0, 0, 1)
def fullL (p : Pt) : List Vc := (cellsS p.2.1).filter fun t => keepsS p (Un, t)
def fullS (p : Pt) : Lt := latS ((p.2.1.1, 0) :: (p.2.1.2.1, p.2.1.2.2) :: fullL p)
def onS (p : Pt) (l : Lt) : Pt := (p.1, l, (cellsS l).map (atS p))
def leanS (p : Pt) : Pt := onS p (fullS p)
end Go.Proofs.YtniidcalfhhciaaGreat.X
