/- Plain facts: the lattice of a list of vectors, as the program and the reference compute it. -/
import Derived.Test.YtbgdojniimdihaaM3
namespace Go.Proofs.Ytbgdojniimdihaa.X
open Go
set_option linter.unusedVariables false
noncomputable def tailR (a : Int) (q : Int) (L : Int → Int → Int → Int → Option Lt) (r : Vc × Int) : Option Lt :=
  (f175G KK a r.2).bind fun y20 => (bif (decide (y20 > (0 : Int))) then (f156G KK r.1.1 y20).bind fun y21 => L y20 (w (q + (1 : Int))) y21 r.1.2 else L y20 (w (q + (1 : Int))) r.1.1 r.1.2)
theorem herm_in (l : List Vc) (a q : Int) (L : Int → Int → Int → Int → Option Lt) : ∀ (n : Nat) (p v : Vc), v.2.natAbs < n → Bd 36028797018963968 p v → p.2.natAbs ≤ 1000000 → v.2.natAbs ≤ 1000000 →
    f138_l15 KK l a q L n p.1 p.2 v.1 v.2 = tailR a q L (euS n p v)
  | 0, p, v, h, _, _, _ => by omega
  | n + 1, p, v, h, hb, hp, hv => by
    have e : f138_l15 KK l a q L (n + 1) p.1 p.2 v.1 v.2 = f138_b15 KK l a q L (fun v0 v1 v2 v3 => f138_l15 KK l a q L n v0 v1 v2 v3) p.1 p.2 v.1 v.2 := rfl
    rw [e]
    unfold f138_b15
    dsimp only
    by_cases h0 : v.2 = 0
    · have h1 : (v.2 != 0) = false := by simp [h0]
      rw [h1, cond_false]
      simp only [euS, h0, if_true]
      rfl
    · have h1 : (v.2 != 0) = true := by simp [h0]
      obtain ⟨c1, c2, c3, c4⟩ := nx_calc hb hp h0 hv
      have h2 := nx_ylt p v h0
      rw [h1, cond_true, cond_true, c1, c2, herm_in l a q L n v (nx p v) (by omega) (Bd_nx hb h0) hv (by omega)]
      simp only [euS, if_neg h0]
noncomputable def tailI (a : Int) (q : Int) (L : Int → Int → Int → Int → Option Lt) (r : Vc × Int) : Option Lt :=
  (f146G KK a r.2).bind fun y25 => L y25 (w (q + (1 : Int))) r.1.1 r.1.2
theorem latt_in (l : List Vc) (a q : Int) (L : Int → Int → Int → Int → Option Lt) : ∀ (n : Nat) (p v : Vc), v.2.natAbs < n → Bd 36028797018963968 p v → p.2.natAbs ≤ 1000000 → v.2.natAbs ≤ 1000000 →
    f143_l18 KK l a q L n p.1 p.2 v.1 v.2 = tailI a q L (euS n p v)
  | 0, p, v, h, _, _, _ => by omega
  | n + 1, p, v, h, hb, hp, hv => by
    have e : f143_l18 KK l a q L (n + 1) p.1 p.2 v.1 v.2 = f143_b18 KK l a q L (fun v0 v1 v2 v3 => f143_l18 KK l a q L n v0 v1 v2 v3) p.1 p.2 v.1 v.2 := rfl
    rw [e]
    unfold f143_b18 f179G f178G
    dsimp only
    by_cases h0 : v.2 = 0
    · have h1 : (v.2 != 0) = false := by simp [h0]
      rw [h1, cond_false]
      simp only [euS, h0, if_true]
      rfl
    · have h1 : (v.2 != 0) = true := by simp [h0]
      obtain ⟨c1, c2, c3, c4⟩ := nx_calc hb hp h0 hv
      have h2 := nx_ylt p v h0
      simp only [Option.bind_some]
      rw [h1, cond_true, cond_true, c3, c4, latt_in l a q L n v (nx p v) (by omega) (Bd_nx hb h0) hv (by omega)]
      simp only [euS, if_neg h0]
abbrev Hs := Int × Vc
def gI (a x : Int) : Int := ((Int.gcd a x : Nat) : Int)
def stI (s : Hs) (t : Vc) : Hs := (gI s.1 (euS KK s.2 t).2, (euS KK s.2 t).1)
def stR (s : Hs) (t : Vc) : Hs := (gI s.1 (euS KK s.2 t).2, ((if gI s.1 (euS KK s.2 t).2 > 0 then (euS KK s.2 t).1.1 % gI s.1 (euS KK s.2 t).2 else (euS KK s.2 t).1.1), (euS KK s.2 t).1.2))
structure Oks (s : Hs) (t : Vc) : Prop where
  bd : Bd 36028797018963968 s.2 t
  y : s.2.2.natAbs ≤ 1000000
  ty : t.2.natAbs ≤ 1000000
  a : s.1.natAbs ≤ 1000000
  g : gI s.1 (euS KK s.2 t).2 ≤ 1000000
def finR (s : Hs) : Lt := (s.1, (if s.1 > 0 then (if s.2.2 < 0 then -s.2.1 else s.2.1) % s.1 else (if s.2.2 < 0 then -s.2.1 else s.2.1)), (if s.2.2 < 0 then -s.2.2 else s.2.2))
theorem gI_pos (a x : Int) : 0 ≤ gI a x := by unfold gI; omega
theorem KKlt {n : Nat} (h : n ≤ 1000000) : n < KK := by simp only [KK]; omega
theorem hermite_eq (l : List Vc) (hl : l.length ≤ 1000000) (inv : Nat → Hs → Prop) (h0 : inv 0 (0, 0, 0)) (h1 : ∀ q s (hq : q < l.length), inv q s → Oks s l[q] ∧ inv (q + 1) (stR s l[q]))
    (h2 : ∀ s, inv l.length s → s.1 ≤ 1000000 ∧ s.2.1.natAbs ≤ 36028797018963968 ∧ s.2.2.natAbs ≤ 36028797018963968) : f138G KK l = some (finR (l.foldl stR (0, 0, 0))) := by
  have h := iter_fold (X := Int × Int × Int × Int) (body := fun L x => f138_b10 KK l (fun c0 c1 d0 d1 d2 d3 => f138_l15 KK l c0 c1 (fun v0 v1 v2 v3 => L (v0, v1, v2, v3)) KK d0 d1 d2 d3) (fun v0 v1 v2 v3 => L (v0, v1, v2, v3)) x.1 x.2.1 x.2.2.1 x.2.2.2) l (fun q s => (s.1, (q : Int), s.2.1, s.2.2)) stR (fun s => some (finR s)) inv
    (fun L q s hq hi => by
      obtain ⟨ok, hn⟩ := h1 q s hq hi
      refine ⟨hn, ?_⟩
      have hy := KKlt ok.ty
      have hbd := euS_bd KK s.2 l[q] hy ok.bd
      unfold f138_b10
      simp only
      rw [in1 hq, in0, gd hq, herm_in l s.1 q _ KK s.2 l[q] hy ok.bd ok.y ok.ty]
      simp only [Bool.and_self, cond_true]
      unfold tailR
      rw [divisor_eq ok.a (by have := hbd.2; omega), Option.bind_some, w_succ (by omega)]
      show (bif decide (gI s.1 (euS KK s.2 l[q]).2 > 0) then _ else _) = _
      unfold stR
      by_cases hg : gI s.1 (euS KK s.2 l[q]).2 > 0
      · rw [decide_eq_true hg, cond_true]
        show (f156G KK (euS KK s.2 l[q]).1.1 (gI s.1 (euS KK s.2 l[q]).2)).bind _ = _
        rw [l01Mod_eq (by omega) ok.g]
        simp only [Option.bind_some, if_pos hg]
        rfl
      · rw [decide_eq_false hg, cond_false]
        simp only [if_neg hg]
        rfl)
    (fun L s hi => by
      obtain ⟨e1, e2, e3⟩ := h2 s hi
      unfold f138_b10 f176G
      simp only
      rw [out1, cond_false]
      unfold finR
      by_cases hy : s.2.2 < 0
      · rw [decide_eq_true hy, cond_true, Option.bind_some, w_id (n := -1 * s.2.1) (by omega) (by omega), w_id (n := -1 * s.2.2) (by omega) (by omega)]
        simp only [if_pos hy]
        have e4 : -1 * s.2.1 = -s.2.1 := by omega
        have e5 : -1 * s.2.2 = -s.2.2 := by omega
        rw [e4, e5]
        by_cases ha : s.1 > 0
        · rw [decide_eq_true ha, cond_true, l01Mod_eq (by omega) e1, if_pos ha]; rfl
        · rw [decide_eq_false ha, cond_false, if_neg ha]
      · rw [decide_eq_false hy, cond_false]
        simp only [if_neg hy]
        by_cases ha : s.1 > 0
        · rw [decide_eq_true ha, cond_true, l01Mod_eq (by omega) e1, if_pos ha]; rfl
        · rw [decide_eq_false ha, cond_false, if_neg ha]) KK 0 (0, 0, 0) (by omega) (by have := KKlt hl; omega) h0
  unfold f138G f138_g f138_l10
  refine h.trans ?_
  simp only [List.drop_zero]
theorem lattice_eq (l : List Vc) (hl : l.length ≤ 1000000) (inv : Nat → Hs → Prop) (h0 : inv 0 (0, 0, 0)) (h1 : ∀ q s (hq : q < l.length), inv q s → Oks s l[q] ∧ inv (q + 1) (stI s l[q]))
    (h2 : ∀ s, inv l.length s → 1 ≤ s.1 ∧ s.1 ≤ 1000000 ∧ s.2.1.natAbs ≤ 36028797018963968 ∧ s.2.2.natAbs ≤ 36028797018963968) : f143G KK l = some (finR (l.foldl stI (0, 0, 0))) := by
  have h := iter_fold (X := Int × Int × Int × Int) (body := fun L x => f143_b13 KK l (fun c0 c1 d0 d1 d2 d3 => f143_l18 KK l c0 c1 (fun v0 v1 v2 v3 => L (v0, v1, v2, v3)) KK d0 d1 d2 d3) (fun v0 v1 v2 v3 => L (v0, v1, v2, v3)) x.1 x.2.1 x.2.2.1 x.2.2.2) l (fun q s => (s.1, (q : Int), s.2.1, s.2.2)) stI (fun s => some (finR s)) inv
    (fun L q s hq hi => by
      obtain ⟨ok, hn⟩ := h1 q s hq hi
      refine ⟨hn, ?_⟩
      have hy := KKlt ok.ty
      have hbd := euS_bd KK s.2 l[q] hy ok.bd
      unfold f143_b13
      simp only
      rw [in1 hq, in0, gd hq, latt_in l s.1 q _ KK s.2 l[q] hy ok.bd ok.y ok.ty]
      simp only [Bool.and_self, cond_true]
      unfold tailI
      rw [gcd_eq ok.a (by have := hbd.2; omega), Option.bind_some, w_succ (by omega)]
      rfl)
    (fun L s hi => by
      obtain ⟨e0, e1, e2, e3⟩ := h2 s hi
      unfold f143_b13 f179G
      simp only
      rw [out1, cond_false]
      unfold finR
      have ha : s.1 > 0 := by omega
      by_cases hy : s.2.2 < 0
      · rw [decide_eq_true hy, cond_true, Option.bind_some, w_id (n := -1 * s.2.1) (by omega) (by omega), w_id (n := -1 * s.2.2) (by omega) (by omega)]
        simp only [if_pos hy]
        have e4 : -1 * s.2.1 = -s.2.1 := by omega
        have e5 : -1 * s.2.2 = -s.2.2 := by omega
        rw [e4, e5, mod_eq e0 e1, if_pos ha]; rfl
      · rw [decide_eq_false hy, cond_false]
        simp only [if_neg hy]
        rw [mod_eq e0 e1, if_pos ha]; rfl) KK 0 (0, 0, 0) (by omega) (by have := KKlt hl; omega) h0
  unfold f143G f143_g f143_l13
  refine h.trans ?_
  simp only [List.drop_zero]
end Go.Proofs.Ytbgdojniimdihaa.X
