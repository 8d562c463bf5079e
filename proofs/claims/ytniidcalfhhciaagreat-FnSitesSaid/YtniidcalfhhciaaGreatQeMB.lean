/- Plain facts: the lattice of a list of vectors, as the program and the reference compute it. -/
import Derived.Test.YtniidcalfhhciaaGreatQeMA
namespace Go.Proofs.YtniidcalfhhciaaGreat.X
open Go
set_option linter.unusedSimpArgs false
set_option linter.unusedVariables false
noncomputable def tailR (a : Int) (q : Int) (L : Int → Int → Int → Int → Option Lt) (r : Vc × Int) : Option Lt :=
  (f136G KK a r.2).bind fun y20 => (bif (decide (y20 > (0 : Int))) then (f324G KK r.1.1 y20).bind fun y21 => L y20 (w (q + (1 : Int))) y21 r.1.2 else L y20 (w (q + (1 : Int))) r.1.1 r.1.2)
theorem herm_in (l : List Vc) (a q : Int) (L : Int → Int → Int → Int → Option Lt) : ∀ (n : Nat) (p v : Vc), v.2.natAbs < n → Bd 36028797018963968 p v → p.2.natAbs ≤ 1000000 → v.2.natAbs ≤ 1000000 →
    f296_l15 KK l a q L n p.1 p.2 v.1 v.2 = tailR a q L (euS n p v)
  | 0, p, v, h, _, _, _ => by omega
  | n + 1, p, v, h, hb, hp, hv => by
    have e : f296_l15 KK l a q L (n + 1) p.1 p.2 v.1 v.2 = f296_b15 KK l a q L (fun v0 v1 v2 v3 => f296_l15 KK l a q L n v0 v1 v2 v3) p.1 p.2 v.1 v.2 := rfl
    rw [e]
    unfold f296_b15
    dsimp only
    by_cases h0 : v.2 = 0
    · have h1 : (v.2 != 0) = false := by simp [h0]
      rw [h1, cond_false]
      simp only [euS, h0, if_true]
      rfl
    · have h1 : (v.2 != 0) = true := by simp [h0]
      obtain ⟨c1, c2, c3, c4⟩ := nx_calc hb hp h0 hv
      have h2 := nx_ylt p v h0
      rw [h1, cond_true, cond_true, c1, c2, herm_in l a q L n v (nx p v) (by omega) (Bd_nx hb h0) hv (by omega)]
      simp only [euS, if_neg h0]
noncomputable def tailI (a : Int) (q : Int) (L : Int → Int → Int → Int → Option Lt) (r : Vc × Int) : Option Lt :=
  (f135G KK a r.2).bind fun y25 => L y25 (w (q + (1 : Int))) r.1.1 r.1.2
theorem latt_in (l : List Vc) (a q : Int) (L : Int → Int → Int → Int → Option Lt) : ∀ (n : Nat) (p v : Vc), v.2.natAbs < n → Bd 36028797018963968 p v → p.2.natAbs ≤ 1000000 → v.2.natAbs ≤ 1000000 →
    f269_l18 KK l a q L n p.1 p.2 v.1 v.2 = tailI a q L (euS n p v)
  | 0, p, v, h, _, _, _ => by omega
  | n + 1, p, v, h, hb, hp, hv => by
    have e : f269_l18 KK l a q L (n + 1) p.1 p.2 v.1 v.2 = f269_b18 KK l a q L (fun v0 v1 v2 v3 => f269_l18 KK l a q L n v0 v1 v2 v3) p.1 p.2 v.1 v.2 := rfl
    rw [e]
    unfold f269_b18 f340G f289G
    dsimp only
    by_cases h0 : v.2 = 0
    · have h1 : (v.2 != 0) = false := by simp [h0]
      rw [h1, cond_false]
      simp only [euS, h0, if_true]
      rfl
    · have h1 : (v.2 != 0) = true := by simp [h0]
      obtain ⟨c1, c2, c3, c4⟩ := nx_calc hb hp h0 hv
      have h2 := nx_ylt p v h0
      simp only [Option.bind_some]
      rw [h1, cond_true, cond_true, c3, c4, latt_in l a q L n v (nx p v) (by omega) (Bd_nx hb h0) hv (by omega)]
      simp only [euS, if_neg h0]
abbrev Hs := Int × Vc
def gI (a x : Int) : Int := ((Int.gcd a x : Nat) : Int)
def stI (s : Hs) (t : Vc) : Hs := (gI s.1 (euS KK s.2 t).2, (euS KK s.2 t).1)
def stR (s : Hs) (t : Vc) : Hs := (gI s.1 (euS KK s.2 t).2, ((if gI s.1 (euS KK s.2 t).2 > 0 then (euS KK s.2 t).1.1 % gI s.1 (euS KK s.2 t).2 else (euS KK s.2 t).1.1), (euS KK s.2 t).1.2))
structure Oks (s : Hs) (t : Vc) : Prop where
  bd : Bd 36028797018963968 s.2 t
  y : s.2.2.natAbs ≤ 1000000
  ty : t.2.natAbs ≤ 1000000
  a : s.1.natAbs ≤ 1000000
  g : gI s.1 (euS KK s.2 t).2 ≤ 1000000
def finR (s : Hs) : Lt := (s.1, (if s.1 > 0 then (if s.2.2 < 0 then -s.2.1 else s.2.1) % s.1 else (if s.2.2 < 0 then -s.2.1 else s.2.1)), (if s.2.2 < 0 then -s.2.2 else s.2.2))
theorem gI_pos (a x : Int) : 0 ≤ gI a x := by unfold gI; omega
theorem KKlt {n : Nat} (h : n ≤ 1000000) : n < KK := by simp only [KK]; omega
theorem KKlt2 {n : Nat} (h : n ≤ 1048576) : n < KK := by simp only [KK]; omega
theorem hermite_eq (l : List Vc) (hl : l.length ≤ 1000000) (inv : Nat → Hs → Prop) (h0 : inv 0 (0, 0, 0)) (h1 : ∀ q s (hq : q < l.length), inv q s → Oks s l[q] ∧ inv (q + 1) (stR s l[q]))
    (h2 : ∀ s, inv l.length s → s.1 ≤ 1000000 ∧ s.2.1.natAbs ≤ 36028797018963968 ∧ s.2.2.natAbs ≤ 36028797018963968) : f296G KK l = some (finR (l.foldl stR (0, 0, 0))) := by
  have h := iter_fold (X := Int × Int × Int × Int) (body := fun L x => f296_b10 KK l (fun c0 c1 d0 d1 d2 d3 => f296_l15 KK l c0 c1 (fun v0 v1 v2 v3 => L (v0, v1, v2, v3)) KK d0 d1 d2 d3) (fun v0 v1 v2 v3 => L (v0, v1, v2, v3)) x.1 x.2.1 x.2.2.1 x.2.2.2) l (fun q s => (s.1, (q : Int), s.2.1, s.2.2)) stR (fun s => some (finR s)) inv
    (fun L q s hq hi => by
      obtain ⟨ok, hn⟩ := h1 q s hq hi
      refine ⟨hn, ?_⟩
      have hy := KKlt ok.ty
      have hbd := euS_bd KK s.2 l[q] hy ok.bd
      unfold f296_b10
      simp only
      rw [in1 hq, in0, gd hq, herm_in l s.1 q _ KK s.2 l[q] hy ok.bd ok.y ok.ty]
      simp only [Bool.and_self, cond_true]
      unfold tailR
      rw [divisor_eq ok.a (by have := hbd.2; omega), Option.bind_some, w_succ (by omega)]
      show (bif decide (gI s.1 (euS KK s.2 l[q]).2 > 0) then _ else _) = _
      unfold stR
      by_cases hg : gI s.1 (euS KK s.2 l[q]).2 > 0
      · rw [decide_eq_true hg, cond_true]
        show (f324G KK (euS KK s.2 l[q]).1.1 (gI s.1 (euS KK s.2 l[q]).2)).bind _ = _
        rw [l01Mod_eq (by omega) ok.g]
        simp only [Option.bind_some, if_pos hg]
        rfl
      · rw [decide_eq_false hg, cond_false]
        simp only [if_neg hg]
        rfl)
    (fun L s hi => by
      obtain ⟨e1, e2, e3⟩ := h2 s hi
      unfold f296_b10 f333G
      simp only
      rw [out1, cond_false]
      unfold finR
      by_cases hy : s.2.2 < 0
      · rw [decide_eq_true hy, cond_true, Option.bind_some, w_id (n := -1 * s.2.1) (by omega) (by omega), w_id (n := -1 * s.2.2) (by omega) (by omega)]
        simp only [if_pos hy]
        have e4 : -1 * s.2.1 = -s.2.1 := by omega
        have e5 : -1 * s.2.2 = -s.2.2 := by omega
        rw [e4, e5]
        by_cases ha : s.1 > 0
        · rw [decide_eq_true ha, cond_true, l01Mod_eq (by omega) e1, if_pos ha]; rfl
        · rw [decide_eq_false ha, cond_false, if_neg ha]
      · rw [decide_eq_false hy, cond_false]
        simp only [if_neg hy]
        by_cases ha : s.1 > 0
        · rw [decide_eq_true ha, cond_true, l01Mod_eq (by omega) e1, if_pos ha]; rfl
        · rw [decide_eq_false ha, cond_false, if_neg ha]) KK 0 (0, 0, 0) (by omega) (by have := KKlt hl; omega) h0
  unfold f296G f296_g f296_l10
  refine h.trans ?_
  simp only [List.drop_zero]
theorem lattice_eq (l : List Vc) (hl : l.length ≤ 1000000) (inv : Nat → Hs → Prop) (h0 : inv 0 (0, 0, 0)) (h1 : ∀ q s (hq : q < l.length), inv q s → Oks s l[q] ∧ inv (q + 1) (stI s l[q]))
    (h2 : ∀ s, inv l.length s → 1 ≤ s.1 ∧ s.1 ≤ 1000000 ∧ s.2.1.natAbs ≤ 36028797018963968 ∧ s.2.2.natAbs ≤ 36028797018963968) : f269G KK l = some (finR (l.foldl stI (0, 0, 0))) := by
  have h := iter_fold (X := Int × Int × Int × Int) (body := fun L x => f269_b13 KK l (fun c0 c1 d0 d1 d2 d3 => f269_l18 KK l c0 c1 (fun v0 v1 v2 v3 => L (v0, v1, v2, v3)) KK d0 d1 d2 d3) (fun v0 v1 v2 v3 => L (v0, v1, v2, v3)) x.1 x.2.1 x.2.2.1 x.2.2.2) l (fun q s => (s.1, (q : Int), s.2.1, s.2.2)) stI (fun s => some (finR s)) inv
    (fun L q s hq hi => by
      obtain ⟨ok, hn⟩ := h1 q s hq hi
      refine ⟨hn, ?_⟩
      have hy := KKlt ok.ty
      have hbd := euS_bd KK s.2 l[q] hy ok.bd
      unfold f269_b13
      simp only
      rw [in1 hq, in0, gd hq, latt_in l s.1 q _ KK s.2 l[q] hy ok.bd ok.y ok.ty]
      simp only [Bool.and_self, cond_true]
      unfold tailI
      rw [gcd_eq ok.a (by have := hbd.2; omega), Option.bind_some, w_succ (by omega)]
      rfl)
    (fun L s hi => by
      obtain ⟨e0, e1, e2, e3⟩ := h2 s hi
      unfold f269_b13 f340G
      simp only
      rw [out1, cond_false]
      unfold finR
      have ha : s.1 > 0 := by omega
      by_cases hy : s.2.2 < 0
      · rw [decide_eq_true hy, cond_true, Option.bind_some, w_id (n := -1 * s.2.1) (by omega) (by omega), w_id (n := -1 * s.2.2) (by omega) (by omega)]
        simp only [if_pos hy]
        have e4 : -1 * s.2.1 = -s.2.1 := by omega
        have e5 : -1 * s.2.2 = -s.2.2 := by omega
        rw [e4, e5, mod_eq e0 e1, if_pos ha]; rfl
      · rw [decide_eq_false hy, cond_false]
        simp only [if_neg hy]
        rw [mod_eq e0 e1, if_pos ha]; rfl) KK 0 (0, 0, 0) (by omega) (by have := KKlt hl; omega) h0
  unfold f269G f269_g f269_l13
  refine h.trans ?_
  simp only [List.drop_zero]
end Go.Proofs.YtniidcalfhhciaaGreat.X
/-! Plain facts: the full lattice is found alike; bounds of the numbers. -/
namespace Go.Proofs.YtniidcalfhhciaaGreat.X
open Go
set_option linter.unusedVariables false
theorem gcd_cong {a x y : Int} (h : a ∣ x - y) : Int.gcd a x = Int.gcd a y := by
  obtain ⟨k, hk⟩ := h
  have : x = y + a * k := by omega
  subst this
  simp
theorem emod_cong {a x y : Int} (h : a ∣ x - y) : x % a = y % a :=
  Int.emod_eq_emod_iff_emod_sub_eq_zero.mpr (Int.emod_eq_zero_of_dvd h)
structure Rl (s r : Hs) : Prop where
  a : s.1 = r.1
  p : 0 ≤ s.1
  y : s.2.2 = r.2.2
  x : s.1 ∣ s.2.1 - r.2.1
theorem Rl_step {s r : Hs} (h : Rl s r) (t : Vc) : Rl (stI s t) (stR r t) := by
  obtain ⟨c1, c2, c3⟩ := euS_cong s.1 KK s.2 t r.2 t h.y rfl h.x (by simp)
  have hg : gI s.1 (euS KK s.2 t).2 = gI r.1 (euS KK r.2 t).2 := by
    unfold gI; rw [gcd_cong c3, h.a]
  have hd : gI s.1 (euS KK s.2 t).2 ∣ s.1 := by unfold gI; exact Int.gcd_dvd_left ..
  refine ⟨hg, gI_pos _ _, c1, ?_⟩
  have h1 := Int.dvd_trans hd c2
  show gI s.1 (euS KK s.2 t).2 ∣ (euS KK s.2 t).1.1 - (stR r t).2.1
  unfold stR
  simp only [← hg]
  split
  · have e : (euS KK s.2 t).1.1 - (euS KK r.2 t).1.1 % gI s.1 (euS KK s.2 t).2 = ((euS KK s.2 t).1.1 - (euS KK r.2 t).1.1) + ((euS KK r.2 t).1.1 - (euS KK r.2 t).1.1 % gI s.1 (euS KK s.2 t).2) := by omega
    rw [e]
    exact Int.dvd_add h1 (Int.dvd_self_sub_emod)
  · exact h1
theorem Rl_fold : ∀ (l : List Vc) {s r : Hs}, Rl s r → Rl (l.foldl stI s) (l.foldl stR r)
  | [], _, _, h => h
  | t :: l, _, _, h => Rl_fold l (Rl_step h t)
theorem Rl_fin {s r : Hs} (h : Rl s r) : finR s = finR r := by
  unfold finR
  rw [← h.a, ← h.y]
  have hx := h.x
  congr 2
  split
  · split
    · apply emod_cong
      have e : -s.2.1 - -r.2.1 = -(s.2.1 - r.2.1) := by omega
      rw [e]; exact Int.dvd_neg.mpr hx
    · exact emod_cong hx
  · have h0 : s.1 = 0 := by have := h.p; omega
    rw [h0, Int.zero_dvd] at hx
    have : s.2.1 = r.2.1 := by omega
    rw [this]
def Gd (Y X : Nat) : Prop := (Y ≤ 64 ∧ X ≤ 64) ∨ (Y ≤ 32 ∧ X ≤ 8192) ∨ (Y ≤ 16 ∧ X ≤ 1048576) ∨ (Y ≤ 8 ∧ X ≤ 134217728) ∨ (Y ≤ 4 ∧ X ≤ 17179869184) ∨ (Y ≤ 2 ∧ X ≤ 2199023255552) ∨ (Y ≤ 1 ∧ X ≤ 281474976710656)
structure Bx (t : Vc) : Prop where
  x1 : 0 ≤ t.1
  x2 : t.1 ≤ 64
  y1 : 0 ≤ t.2
  y2 : t.2 ≤ 64
structure Pp (p : Vc) : Prop where
  y : 0 ≤ p.2
  z : p.2 = 0 → p = (0, 0)
  g : 1 ≤ p.2 → Gd p.2.natAbs p.1.natAbs
theorem euS_nonneg : ∀ (n : Nat) (p v : Vc), 0 ≤ p.2 → 0 ≤ v.2 → 0 ≤ (euS n p v).1.2
  | 0, p, v, h, _ => h
  | n + 1, p, v, h, h2 => by
    simp only [euS]
    split
    · exact h
    · exact euS_nonneg n v (nx p v) h2 (by rw [nx_y]; exact Int.tmod_nonneg _ h)
theorem euS_z (n : Nat) {p v : Vc} (h : v.2 = 0) : euS (n + 1) p v = (p, v.1) := by
  simp only [euS, h, if_true]
theorem euS_zero {p v : Vc} (h : v.2 = 0) : euS KK p v = (p, v.1) := euS_z 2097151 h
theorem Gd_le {Y X : Nat} (h : Gd Y X) : Y ≤ 64 ∧ X ≤ 281474976710656 := by unfold Gd at h; omega
theorem Dv_le {p t : Vc} (ht : Bx t) (hp : p.2.natAbs ≤ 64) : Dv p t ≤ p.1.natAbs * 64 + 4096 := by
  unfold Dv
  have h1 : p.1.natAbs * t.2.natAbs ≤ p.1.natAbs * 64 := Nat.mul_le_mul_left _ (by have := ht.y1; have := ht.y2; omega)
  have h2 : t.1.natAbs * p.2.natAbs ≤ 64 * 64 := Nat.mul_le_mul (by have := ht.x1; have := ht.x2; omega) hp
  omega
theorem Pp_bd {p t : Vc} (ht : Bx t) (hp : Pp p) : Bd 36028797018963968 p t ∧ p.2.natAbs ≤ 64 := by
  obtain ⟨x1, x2, y1, y2⟩ := ht
  have hy : p.2.natAbs ≤ 64 ∧ p.1.natAbs ≤ 281474976710656 := by
    rcases Int.lt_or_le p.2 1 with h | h
    · have h0 : p.2 = 0 := by have := hp.y; omega
      rw [hp.z h0]; simp
    · exact Gd_le (hp.g h)
  refine ⟨⟨by omega, by omega, ?_⟩, hy.1⟩
  have := Dv_le ⟨x1, x2, y1, y2⟩ hy.1
  omega
theorem Pp_eu {p t : Vc} (ht : Bx t) (hp : Pp p) : Pp (euS KK p t).1 ∧ (1 ≤ p.2 → 1 ≤ (euS KK p t).1.2 ∧ (euS KK p t).1.2 ≤ p.2) ∧ (p.2 = 0 → (euS KK p t).1.2 = t.2) := by
  obtain ⟨hb, h64⟩ := Pp_bd ht hp
  have hn := euS_nonneg KK p t hp.y ht.y1
  have hlt : t.2.natAbs < KK := KKlt (by have := ht.y1; have := ht.y2; omega)
  have hg := euS_gcd KK p t hlt
  have hx1 := ht.x1
  have hx2 := ht.x2
  have hy1 := ht.y1
  have hy2 := ht.y2
  rcases Int.lt_or_le p.2 1 with h | h
  · have h0 : p.2 = 0 := by have := hp.y; omega
    have hp0 := hp.z h0
    subst hp0
    have hy : (euS KK (0, 0) t).1.2 = t.2 := by
      simp at hg; omega
    refine ⟨⟨hn, fun h1 => ?_, fun h1 => ?_⟩, fun h1 => by simp at h1, fun _ => hy⟩
    · rw [euS_zero (by omega)]
    · have := (euS_bd (B := 64) KK (0, 0) t hlt ⟨by simp, by omega, by simp [Dv]⟩).1
      unfold Gd; omega
  · have hG := hp.g h
    have h1 : 1 ≤ (euS KK p t).1.2.natAbs := by
      rw [hg]; exact Nat.gcd_pos_of_pos_left _ (by omega)
    have h2 : (euS KK p t).1.2.natAbs ≤ p.2.natAbs := by
      rw [hg]; exact Nat.gcd_le_left _ (by omega)
    refine ⟨⟨hn, fun h3 => by omega, fun _ => ?_⟩, fun _ => by omega, fun h0 => by omega⟩
    rcases Int.lt_or_le t.2 1 with h4 | h4
    · rw [euS_zero (by omega)]; exact hG
    · have hD := Dv_le ht h64
      have hP : p.1.natAbs ≤ Dv p t := by
        unfold Dv
        have : p.1.natAbs * 1 ≤ p.1.natAbs * t.2.natAbs := Nat.mul_le_mul_left _ (by omega)
        omega
      have hV : t.1.natAbs ≤ Dv p t := by
        unfold Dv
        have : t.1.natAbs * 1 ≤ t.1.natAbs * p.2.natAbs := Nat.mul_le_mul_left _ (by omega)
        omega
      have hB := (euS_bd (B := Dv p t) KK p t hlt ⟨hP, hV, Nat.le_refl _⟩).1
      rcases euS_half KK p t hlt (by simp [KK]) (by omega) with h5 | h5 | ⟨h5, h6⟩
      · generalize (euS KK p t).1.2.natAbs = Y at *
        generalize (euS KK p t).1.1.natAbs = X at *
        unfold Gd at hG ⊢
        omega
      · rw [h5]; exact hG
      · rw [h5]; unfold Gd at hG ⊢; omega
/-- what holds of the state behind q vectors, the first (A, 0) and the second (B, C) -/
structure Iv (l : Lt) (q : Nat) (s : Hs) : Prop where
  z : q = 0 → s = (0, 0, 0)
  a : 1 ≤ q → 1 ≤ s.1 ∧ s.1 ≤ l.1
  o : q = 1 → s.2.2 = 0
  y : 2 ≤ q → 1 ≤ s.2.2 ∧ s.2.2 ≤ l.2.2
  p : Pp s.2
theorem gI_le {a x : Int} (h : 1 ≤ a) : 1 ≤ gI a x ∧ gI a x ≤ a := by
  have h1 : 0 < Int.gcd a x := Int.gcd_pos_of_ne_zero_left _ (by omega)
  have h2 : gI a x ∣ a := by unfold gI; exact Int.gcd_dvd_left ..
  have h3 := Int.le_of_dvd (by omega) h2
  unfold gI at *
  omega
theorem Iv_ok {l : Lt} (hl : IsL l) {q : Nat} {s : Hs} (h : Iv l q s) {t : Vc} (ht : Bx t) : Oks s t := by
  obtain ⟨hb, h64⟩ := Pp_bd ht h.p
  have ha := hl.a2
  refine ⟨hb, by omega, by have := ht.y1; have := ht.y2; omega, ?_, ?_⟩
  · rcases Nat.eq_zero_or_pos q with h0 | h0
    · rw [h.z h0]; simp
    · have := h.a h0; omega
  · rcases Nat.eq_zero_or_pos q with h0 | h0
    · rw [h.z h0]
      have := (euS_bd (B := 64) KK (0, 0) t (KKlt (by have := ht.y1; have := ht.y2; omega)) ⟨by simp, by have := ht.x1; have := ht.x2; omega, by simp [Dv]⟩).2
      unfold gI
      simp only [Int.gcd_zero_left]
      omega
    · have h1 := h.a h0
      have := gI_le (x := (euS KK s.2 t).2) h1.1
      omega
theorem Iv_nx {l : Lt} (hl : IsL l) {q : Nat} {s : Hs} (h : Iv l q s) {t : Vc} (ht : Bx t) (h0 : q = 0 → t = (l.1, 0)) (h1 : q = 1 → t.2 = l.2.2) (s' : Hs) (e1 : s'.1 = gI s.1 (euS KK s.2 t).2) (e2 : s'.2.2 = (euS KK s.2 t).1.2) (e3 : Pp s'.2) : Iv l (q + 1) s' := by
  obtain ⟨k1, k2, k3⟩ := Pp_eu ht h.p
  refine ⟨fun h => by omega, fun _ => ?_, fun hq => ?_, fun hq => ?_, e3⟩
  · rw [e1]
    rcases Nat.eq_zero_or_pos q with hq | hq
    · rw [h.z hq, h0 hq, euS_zero rfl]
      unfold gI
      simp only [Int.gcd_zero_left]
      have := hl.a1
      omega
    · have h1 := h.a hq
      have := gI_le (x := (euS KK s.2 t).2) h1.1
      omega
  · have hq0 : q = 0 := by omega
    rw [e2, h.z hq0, h0 hq0, euS_zero rfl]
  · rw [e2]
    rcases Nat.lt_or_ge q 2 with hq2 | hq2
    · have hq1 : q = 1 := by omega
      rw [k3 (h.o hq1), h1 hq1]
      have := hl.c1
      omega
    · have := h.y hq2
      have := k2 this.1
      omega
theorem Pp_mod {p : Vc} (h : Pp p) {a : Int} (ha : a ≤ 64) : Pp ((if a > 0 then p.1 % a else p.1), p.2) := by
  refine ⟨h.y, fun h0 => ?_, fun h1 => ?_⟩
  · have := h.z h0
    rw [this]; simp
  · have hg := h.g h1
    split
    · rename_i h2
      have h3 := Int.emod_nonneg p.1 (show a ≠ 0 by omega)
      have h4 := Int.emod_lt_of_pos p.1 h2
      simp only
      unfold Gd at hg ⊢
      omega
    · exact hg
theorem Iv_I {l : Lt} (hl : IsL l) {q : Nat} {s : Hs} (h : Iv l q s) {t : Vc} (ht : Bx t) (h0 : q = 0 → t = (l.1, 0)) (h1 : q = 1 → t.2 = l.2.2) : Iv l (q + 1) (stI s t) :=
  Iv_nx hl h ht h0 h1 _ rfl rfl (Pp_eu ht h.p).1
theorem Iv_R {l : Lt} (hl : IsL l) {q : Nat} {s : Hs} (h : Iv l q s) {t : Vc} (ht : Bx t) (h0 : q = 0 → t = (l.1, 0)) (h1 : q = 1 → t.2 = l.2.2) : Iv l (q + 1) (stR s t) := by
  refine Iv_nx hl h ht h0 h1 _ rfl rfl (Pp_mod (Pp_eu ht h.p).1 ?_)
  have ha := hl.a2
  rcases Nat.eq_zero_or_pos q with hq | hq
  · rw [h.z hq, h0 hq, euS_zero rfl]
    unfold gI
    simp only [Int.gcd_zero_left]
    have := hl.a1
    omega
  · have h1 := h.a hq
    have := gI_le (x := (euS KK s.2 t).2) h1.1
    omega
theorem Iv_0 (l : Lt) : Iv l 0 (0, 0, 0) :=
  ⟨fun _ => rfl, fun h => by omega, fun h => by omega, fun h => by omega, ⟨by simp, fun _ => rfl, fun h => by simp at h⟩⟩
theorem Iv_fin {l : Lt} (hl : IsL l) {q : Nat} (hq : 2 ≤ q) {s : Hs} (h : Iv l q s) : IsL (finR s) := by
  obtain ⟨a1, a2⟩ := h.a (by omega)
  obtain ⟨y1, y2⟩ := h.y hq
  obtain ⟨b1, b2, b3, b4, b5, b6, b7⟩ := hl
  have hy : ¬ s.2.2 < 0 := by omega
  unfold finR
  simp only [if_neg hy, if_pos (show s.1 > 0 by omega)]
  refine ⟨a1, by simp only; omega, y1, by simp only; omega, Int.emod_nonneg _ (by omega), Int.emod_lt_of_pos _ (by omega), ?_⟩
  have m1 : s.1 * s.2.2 ≤ l.1 * s.2.2 := Int.mul_le_mul_of_nonneg_right a2 (by omega)
  have m2 : l.1 * s.2.2 ≤ l.1 * l.2.2 := Int.mul_le_mul_of_nonneg_left y2 (by omega)
  simp only
  omega
theorem foldl_inv {α S : Type} (f : S → α → S) (P : Nat → S → Prop) : ∀ (l : List α) (q : Nat) (s : S), P q s → (∀ i s (h : i < l.length), P (q + i) s → P (q + i + 1) (f s l[i])) → P (q + l.length) (l.foldl f s)
  | [], q, s, h, _ => h
  | a :: l, q, s, h, hs => by
    rw [List.foldl_cons]
    have := foldl_inv f P l (q + 1) (f s a) (hs 0 s (by simp) h) (fun i s' hi hP => by
      have := hs (i + 1) s' (by simp; omega) (by rw [show q + (i + 1) = q + 1 + i by omega]; exact hP)
      rw [show q + (i + 1) + 1 = q + 1 + i + 1 by omega] at this
      simpa using this)
    rw [List.length_cons, show q + (l.length + 1) = q + 1 + l.length by omega]
    exact this
/-- the lattice of a list that begins with a lattice's basis -/
def latS (l : List Vc) : Lt := finR (l.foldl stI (0, 0, 0))
theorem full_eq {l : Lt} (hl : IsL l) (rest : List Vc) (hn : rest.length ≤ 1000) (hr : ∀ t ∈ rest, Bx t) :
    f296G KK ((l.1, 0) :: (l.2.1, l.2.2) :: rest) = some (latS ((l.1, 0) :: (l.2.1, l.2.2) :: rest)) ∧ f269G KK ((l.1, 0) :: (l.2.1, l.2.2) :: rest) = some (latS ((l.1, 0) :: (l.2.1, l.2.2) :: rest)) ∧ IsL (latS ((l.1, 0) :: (l.2.1, l.2.2) :: rest)) := by
  have hb : ∀ q (hq : q < ((l.1, 0) :: (l.2.1, l.2.2) :: rest).length), Bx ((l.1, 0) :: (l.2.1, l.2.2) :: rest)[q] ∧ (q = 0 → ((l.1, 0) :: (l.2.1, l.2.2) :: rest)[q] = (l.1, 0)) ∧ (q = 1 → ((l.1, 0) :: (l.2.1, l.2.2) :: rest)[q].2 = l.2.2) := by
    obtain ⟨a1, a2, c1, c2, b1, b2, ix⟩ := hl
    intro q hq
    match q, hq with
    | 0, _ => exact ⟨⟨by simp; omega, by simp; omega, by simp, by simp⟩, fun _ => rfl, fun h => by omega⟩
    | 1, _ => exact ⟨⟨by simp; omega, by simp; omega, by simp; omega, by simp; omega⟩, fun h => by omega, fun _ => rfl⟩
    | q + 2, hq => exact ⟨hr _ (by simp), fun h => by omega, fun h => by omega⟩
  have hlen : ((l.1, 0) :: (l.2.1, l.2.2) :: rest).length = rest.length + 2 := by simp
  have hfin : ∀ s, Iv l ((l.1, 0) :: (l.2.1, l.2.2) :: rest).length s → 1 ≤ s.1 ∧ s.1 ≤ 1000000 ∧ s.2.1.natAbs ≤ 36028797018963968 ∧ s.2.2.natAbs ≤ 36028797018963968 := by
    intro s h
    obtain ⟨a1, a2⟩ := h.a (by omega)
    obtain ⟨y1, y2⟩ := h.y (by omega)
    have := Gd_le (h.p.g y1)
    have := hl.a2
    omega
  have e1 := hermite_eq _ (by omega) (Iv l) (Iv_0 l) (fun q s hq h => by
    obtain ⟨b1, b2, b3⟩ := hb q hq
    exact ⟨Iv_ok hl h b1, Iv_R hl h b1 b2 b3⟩) (fun s h => (hfin s h).2)
  have e2 := lattice_eq _ (by omega) (Iv l) (Iv_0 l) (fun q s hq h => by
    obtain ⟨b1, b2, b3⟩ := hb q hq
    exact ⟨Iv_ok hl h b1, Iv_I hl h b1 b2 b3⟩) hfin
  have hrl := Rl_fin (Rl_fold ((l.1, 0) :: (l.2.1, l.2.2) :: rest) (s := (0, 0, 0)) (r := (0, 0, 0)) ⟨rfl, by simp, rfl, by simp⟩)
  refine ⟨by rw [e1, ← hrl]; rfl, e2, ?_⟩
  have := foldl_inv stI (Iv l) ((l.1, 0) :: (l.2.1, l.2.2) :: rest) 0 (0, 0, 0) (Iv_0 l) (fun i s hi h => by
    rw [Nat.zero_add] at h ⊢
    obtain ⟨b1, b2, b3⟩ := hb i hi
    exact Iv_I hl h b1 b2 b3)
  exact Iv_fin hl (by omega) this
end Go.Proofs.YtniidcalfhhciaaGreat.X
/-! Plain facts: the lean pattern, as the program and the reference compute it. -/
namespace Go.Proofs.YtniidcalfhhciaaGreat.X
open Go
set_option linter.unusedVariables false
abbrev Un : Mt := (1, 0, 0, 1)
theorem Un_sm : SmM Un := ⟨by simp, by simp, by simp, by simp⟩
def fullL (p : Pt) : List Vc := (cellsS p.2.1).filter fun t => keepsS p (Un, t)
def fullS (p : Pt) : Lt := latS ((p.2.1.1, 0) :: (p.2.1.2.1, p.2.1.2.2) :: fullL p)
theorem cell_Bx {l : Lt} (hl : IsL l) {v : Vc} (h : v ∈ cellsS l) : Bx v := by
  obtain ⟨h1, h2, h3, h4⟩ := mem_cellsS h
  obtain ⟨a1, a2, c1, c2, b1, b2, ix⟩ := hl
  exact ⟨by omega, by omega, by omega, by omega⟩
theorem full_all {p : Pt} (hp : IsP p) : f296G KK ([(p.2.1.1, 0), p.2.1.2] ++ fullL p) = some (fullS p) ∧ f269G KK ([(p.2.1.1, 0), p.2.1.2] ++ fullL p) = some (fullS p) ∧ IsL (fullS p) := by
  have h1 : (fullL p).length ≤ 64 := Nat.le_trans (List.length_filter_le _ _) (cellsS_le hp.l)
  exact full_eq hp.l (fullL p) (by omega) (fun t ht => cell_Bx hp.l (List.mem_filter.mp ht).1)
theorem fold_full (p : Pt) (s : List Vc) : (cellsS p.2.1).foldl (fun s t => bif keepsS p (Un, t) then s ++ [t] else s) s = s ++ fullL p := by
  have := foldl_filter (fun t => keepsS p (Un, t)) (fun t : Vc => t) (cellsS p.2.1) s
  rw [List.map_id'] at this
  exact this
theorem l09Full_eq {p : Pt} (hp : IsP p) : f189G KK p = some (fullS p) := by
  unfold f189G f189_g f295G
  rw [l03Cells_eq hp.l]
  simp only [Option.bind_some]
  have hc := cellsS_le hp.l
  have h := iter_fold (X := Int × List Vc) (body := fun L x => f189_b6 KK p (cellsS p.2.1) (fun v0 v1 => L (v0, v1)) x.1 x.2) (cellsS p.2.1) (fun q s => ((q : Int), s)) (fun s t => bif keepsS p (Un, t) then s ++ [t] else s) (fun s => (f296G KK s).bind fun y => some y) (fun q s => s.length ≤ q + 2)
    (fun L q s hq hi => by
      have hv := cell_Sv hp.l (List.getElem_mem hq)
      refine ⟨?_, ?_⟩
      · cases keepsS p (Un, (cellsS p.2.1)[q]) <;> simp <;> omega
      unfold f189_b6 f218G
      simp only
      rw [in1 hq, in0, gd hq]
      simp only [Bool.and_self, cond_true, Option.bind_some]
      rw [l09Keeps_eq hp (m := (Un, (cellsS p.2.1)[q])) Un_sm hv, Option.bind_some, blim16 (by simp; omega), w_succ (by omega)]
      cases keepsS p (Un, (cellsS p.2.1)[q]) <;> rfl)
    (fun L s hi => by
      unfold f189_b6
      simp only
      rw [out1, cond_false]) KK 0 [(p.2.1.1, 0), p.2.1.2] (by omega) (by have := KKlt (n := (cellsS p.2.1).length) (by omega); omega) (by simp)
  unfold f189_l6
  refine h.trans ?_
  simp only [List.drop_zero]
  rw [fold_full, (full_all hp).1]
  rfl
theorem fullLattice_eq {p : Pt} (hp : IsP p) : f137G KK p = some (fullS p) := by
  unfold f137G f137_g f268G
  rw [cells_eq hp.l]
  simp only [Option.bind_some]
  have hc := cellsS_le hp.l
  have h := iter_fold (X := Int × List Vc) (body := fun L x => f137_b6 KK p ((p.2.1.1, 0), p.2.1.2) (cellsS p.2.1) (fun v0 v1 => L (v0, v1)) x.1 x.2) (cellsS p.2.1) (fun q s => ((q : Int), s)) (fun s t => bif keepsS p (Un, t) then s ++ [t] else s) (fun s => (f269G KK s).bind fun y => some y) (fun q s => s.length ≤ q + 2)
    (fun L q s hq hi => by
      have hv := cell_Sv hp.l (List.getElem_mem hq)
      refine ⟨?_, ?_⟩
      · cases keepsS p (Un, (cellsS p.2.1)[q]) <;> simp <;> omega
      unfold f137_b6 f217G
      simp only
      rw [in1 hq, in0, gd hq]
      simp only [Bool.and_self, cond_true, Option.bind_some]
      rw [keeps_eq hp (m := (Un, (cellsS p.2.1)[q])) Un_sm hv, Option.bind_some, blim16 (by simp; omega), w_succ (by omega)]
      cases keepsS p (Un, (cellsS p.2.1)[q]) <;> rfl)
    (fun L s hi => by
      unfold f137_b6
      simp only
      rw [out1, cond_false]) KK 0 [(p.2.1.1, 0), p.2.1.2] (by omega) (by have := KKlt (n := (cellsS p.2.1).length) (by omega); omega) (by simp)
  unfold f137_l6
  refine h.trans ?_
  simp only [List.drop_zero]
  rw [fold_full, (full_all hp).2.1]
  rfl
def onS (p : Pt) (l : Lt) : Pt := (p.1, l, (cellsS l).map (atS p))
theorem l09On_eq {p : Pt} (hp : IsP p) {l : Lt} (hl : IsL l) : f263G KK p l = some (onS p l) := by
  unfold f263G f263_g
  rw [l03Cells_eq hl]
  simp only [Option.bind_some]
  have hc := cellsS_le hl
  have h := iter_fold (X := Int × List Int) (body := fun L x => f263_b4 KK p l (cellsS l) (fun v0 v1 => L (v0, v1)) x.1 x.2) (cellsS l) (fun q s => ((q : Int), s)) (fun s t => s ++ [atS p t]) (fun s => some (p.1, l, s)) (fun q s => s.length ≤ q)
    (fun L q s hq hi => by
      have hv := cell_Sv hl (List.getElem_mem hq)
      refine ⟨by simp; omega, ?_⟩
      unfold f263_b4
      simp only
      rw [in1 hq, in0, gd hq]
      simp only [Bool.and_self, cond_true]
      rw [l09At_eq hp (Sv_Sm hv), Option.bind_some, blim8 (by simp; omega), w_succ (by omega)]
      rfl)
    (fun L s hi => by
      unfold f263_b4
      simp only
      rw [out1, cond_false]) KK 0 [] (by omega) (by have := KKlt (n := (cellsS l).length) (by omega); omega) (by simp)
  unfold f263_l4
  refine h.trans ?_
  simp only [List.drop_zero]
  rw [foldl_push]
  rfl
theorem spread_eq {p : Pt} (hp : IsP p) {l : Lt} (hl : IsL l) : f257G KK p l = some (onS p l) := by
  unfold f257G f257_g
  rw [cells_eq hl]
  simp only [Option.bind_some]
  have hc := cellsS_le hl
  have h := iter_fold (X := Int × List Int) (body := fun L x => f257_b4 KK p l (cellsS l) (fun v0 v1 => L (v0, v1)) x.1 x.2) (cellsS l) (fun q s => ((q : Int), s)) (fun s t => s ++ [atS p t]) (fun s => some (p.1, l, s)) (fun q s => s.length ≤ q)
    (fun L q s hq hi => by
      have hv := cell_Sv hl (List.getElem_mem hq)
      refine ⟨by simp; omega, ?_⟩
      unfold f257_b4
      simp only
      rw [in1 hq, in0, gd hq]
      simp only [Bool.and_self, cond_true]
      rw [at_eq hp (Sv_Sm hv), Option.bind_some, blim8 (by simp; omega), w_succ (by omega)]
      rfl)
    (fun L s hi => by
      unfold f257_b4
      simp only
      rw [out1, cond_false]) KK 0 [] (by omega) (by have := KKlt (n := (cellsS l).length) (by omega); omega) (by simp)
  unfold f257_l4
  refine h.trans ?_
  simp only [List.drop_zero]
  rw [foldl_push]
  rfl
def leanS (p : Pt) : Pt := onS p (fullS p)
theorem leanS_P {p : Pt} (hp : IsP p) : IsP (leanS p) := by
  have hl := (full_all hp).2.2
  refine ⟨hp.f1, hp.f2, hl, ?_⟩
  show ((((cellsS (fullS p)).map (atS p)).length : Nat) : Int) = _
  rw [List.length_map, cellsS_len hl, idx_nat hl]
  rfl
theorem l09Lean_eq {p : Pt} (hp : IsP p) : f130G KK p = some (leanS p) := by
  unfold f130G
  rw [l09Full_eq hp, Option.bind_some, l09On_eq hp (full_all hp).2.2, Option.bind_some]
  rfl
theorem lean_eq {p : Pt} (hp : IsP p) : f126G KK p = some (leanS p) := by
  unfold f126G
  rw [fullLattice_eq hp, Option.bind_some, spread_eq hp (full_all hp).2.2, Option.bind_some]
  rfl
end Go.Proofs.YtniidcalfhhciaaGreat.X
