/- Plain facts: the lines of a pattern: each motion that turns the plane over adds two. -/
import Derived.Test.YtbgdojniimdihaaM10
namespace Go.Proofs.Ytbgdojniimdihaa.X
open Go
set_option linter.unusedVariables false
def dv (a b : Int) : Int := if b = 0 then 0 else a / b
noncomputable def axS (m : Mt) : Vc := (f149G KK m).getD (0, 0)
def negS (m : Mt) : Mt := (-m.1, -m.2.1, -m.2.2.1, -m.2.2.2)
noncomputable def alS (m : Mt) : Int := if (axS m).1 = 0 then dv m.2.2.1 (axS m).2 else dv (1 + m.1) (axS m).1
noncomputable def beS (m : Mt) : Int := if (axS m).1 = 0 then dv (1 + m.2.2.2) (axS m).2 else dv m.2.1 (axS m).1
def le3 (x : Int) : Bool := decide (-3 ≤ x) && decide (x ≤ 3)
noncomputable def chkM (m : Mt) : Bool := (detS m != -1) || ((f144G KK m == some true) && (f149G KK m == some (axS m)) && (f150G KK m == some (negS m)) && (f149G KK (negS m) == some (axS (negS m))) &&
  ((1 + m.1 == alS m * (axS m).1) && (m.2.1 == beS m * (axS m).1) && (m.2.2.1 == alS m * (axS m).2) && (1 + m.2.2.2 == beS m * (axS m).2)) &&
  ((axS m).1 != 0 || (axS m).2 != 0) && (alS m != 0 || beS m != 0) && le3 (alS m) && le3 (beS m) && le3 (axS m).1 && le3 (axS m).2 && le3 (axS (negS m)).1 && le3 (axS (negS m)).2)
theorem chk_all : (pmQ ++ pmH).all chkM = true := by kernel_rfl
structure Rf (m : Mt) : Prop where
  r : f144G KK m = some true
  ax : f149G KK m = some (axS m)
  ng : f150G KK m = some (negS m)
  an : f149G KK (negS m) = some (axS (negS m))
  c1 : 1 + m.1 = alS m * (axS m).1
  c2 : m.2.1 = beS m * (axS m).1
  c3 : m.2.2.1 = alS m * (axS m).2
  c4 : 1 + m.2.2.2 = beS m * (axS m).2
  nz : (axS m).1 ≠ 0 ∨ (axS m).2 ≠ 0
  ab : alS m ≠ 0 ∨ beS m ≠ 0
  la : -3 ≤ alS m ∧ alS m ≤ 3
  lb : -3 ≤ beS m ∧ beS m ≤ 3
  x1 : -3 ≤ (axS m).1 ∧ (axS m).1 ≤ 3
  x2 : -3 ≤ (axS m).2 ∧ (axS m).2 ≤ 3
  y1 : -3 ≤ (axS (negS m)).1 ∧ (axS (negS m)).1 ≤ 3
  y2 : -3 ≤ (axS (negS m)).2 ∧ (axS (negS m)).2 ≤ 3
theorem Rf_of {m : Mt} (hm : m ∈ pmQ ++ pmH) (hd : detS m = -1) : Rf m := by
  have h := List.all_eq_true.mp chk_all m hm
  unfold chkM at h
  simp only [hd, bne_self_eq_false, Bool.false_or, Bool.and_eq_true, beq_iff_eq, Bool.or_eq_true, bne_iff_ne, le3, decide_eq_true_eq] at h
  obtain ⟨⟨⟨⟨⟨⟨⟨⟨⟨⟨⟨⟨k1, k2⟩, k3⟩, k4⟩, ⟨⟨⟨k5, k6⟩, k7⟩, k8⟩⟩, k9⟩, k10⟩, k11⟩, k12⟩, k13⟩, k14⟩, k15⟩, k16⟩ := h
  exact ⟨k1, k2, k3, k4, k5, k6, k7, k8, k9, k10, k11, k12, k13, k14, k15, k16⟩
/-- how far a vector goes along the axis, twice -/
noncomputable def alongS (m : Mt) (v : Vc) : Int := alS m * v.1 + beS m * v.2
theorem three_mul {a x : Int} (h : -3 ≤ a ∧ a ≤ 3) {B : Int} (h1 : -B ≤ x) (h2 : x ≤ B) (hB : 0 ≤ B) : -(3 * B) ≤ a * x ∧ a * x ≤ 3 * B := by
  have : a = -3 ∨ a = -2 ∨ a = -1 ∨ a = 0 ∨ a = 1 ∨ a = 2 ∨ a = 3 := by omega
  rcases this with rfl | rfl | rfl | rfl | rfl | rfl | rfl <;> omega
theorem along_bound {m : Mt} (hr : Rf m) {v : Vc} (hv : Sv v) : -6000000 ≤ alongS m v ∧ alongS m v ≤ 6000000 := by
  obtain ⟨v1, v2, v3, v4⟩ := hv
  have h1 := three_mul hr.la v1 v2 (by omega)
  have h2 := three_mul hr.lb v3 v4 (by omega)
  unfold alongS; omega
theorem along_eq {m : Mt} (hm : SmM m) (hr : Rf m) {v : Vc} (hv : Sv v) : f145G KK m v = some (alongS m v) := by
  obtain ⟨b1, b2, b3, b4⟩ := mulS_bound hm hv
  obtain ⟨v1, v2, v3, v4⟩ := id hv
  have hal := along_bound hr hv
  unfold f145G f178G
  rw [matApply_eq hm hv]
  simp only [Option.bind_some]
  rw [hr.ax, Option.bind_some, w_id (n := v.1 + (mulS m v).1) (by omega) (by omega), w_id (n := v.2 + (mulS m v).2) (by omega) (by omega)]
  have e1 : v.1 + (mulS m v).1 = alongS m v * (axS m).1 := by
    have h1 : v.1 + (mulS m v).1 = (1 + m.1) * v.1 + m.2.1 * v.2 := by simp only [mulS, Int.add_mul]; omega
    rw [h1, hr.c1, hr.c2]
    simp only [alongS, Int.add_mul]
    have h2 : alS m * (axS m).1 * v.1 = alS m * v.1 * (axS m).1 := by ac_rfl
    have h3 : beS m * (axS m).1 * v.2 = beS m * v.2 * (axS m).1 := by ac_rfl
    omega
  have e2 : v.2 + (mulS m v).2 = alongS m v * (axS m).2 := by
    have h1 : v.2 + (mulS m v).2 = m.2.2.1 * v.1 + (1 + m.2.2.2) * v.2 := by simp only [mulS, Int.add_mul]; omega
    rw [h1, hr.c3, hr.c4]
    simp only [alongS, Int.add_mul]
    have h2 : alS m * (axS m).2 * v.1 = alS m * v.1 * (axS m).2 := by ac_rfl
    have h3 : beS m * (axS m).2 * v.2 = beS m * v.2 * (axS m).2 := by ac_rfl
    omega
  rw [e1, e2]
  by_cases h0 : (axS m).1 = 0
  · have h1 : ((axS m).1 != 0) = false := by simp [h0]
    have h2 : (axS m).2 ≠ 0 := by rcases hr.nz with h | h; exact absurd h0 h; exact h
    have h3 : ((axS m).2 != 0) = true := by simp [h2]
    rw [h1, h3, cond_false, cond_true, Int.mul_tdiv_cancel _ h2, w_id (by omega) (by omega)]
  · have h1 : ((axS m).1 != 0) = true := by simp [h0]
    rw [h1, cond_true, cond_true, Int.mul_tdiv_cancel _ h0, w_id (by omega) (by omega)]
noncomputable def gS (l : Lt) (m : Mt) : Int := gI (alongS m (l.1, 0)) (alongS m l.2)
noncomputable def mayS (l : Lt) (g : Mo) : Bool := (alongS g.1 g.2).tmod (gS l g.1) == 0
theorem gS_pos {l : Lt} (hl : IsL l) {m : Mt} (hr : Rf m) : gS l m ≠ 0 := by
  intro h
  unfold gS gI at h
  have h1 : Int.gcd (alongS m (l.1, 0)) (alongS m l.2) = 0 := by omega
  rw [Int.gcd_eq_zero_iff] at h1
  obtain ⟨h2, h3⟩ := h1
  simp only [alongS, Int.mul_zero, Int.add_zero] at h2
  have h4 : alS m = 0 := by
    rcases Int.mul_eq_zero.mp h2 with h | h
    · exact h
    · have := hl.a1; omega
  have h5 : beS m ≠ 0 := by rcases hr.ab with h | h; exact absurd h4 h; exact h
  unfold alongS at h3
  rw [h4, Int.zero_mul, Int.zero_add] at h3
  rcases Int.mul_eq_zero.mp h3 with h | h
  · exact h5 h
  · have := hl.c1; omega
theorem mayReflect_eq {l : Lt} (hl : IsL l) {g : Mo} (hm : SmM g.1) (hr : Rf g.1) (ht : Sv g.2) : f99G KK l g = some (mayS l g) := by
  obtain ⟨s1, s2⟩ := basis_Sv hl
  have b1 : -500 ≤ alongS g.1 (l.1, 0) ∧ alongS g.1 (l.1, 0) ≤ 500 := by
    have := three_mul (x := l.1) hr.la (B := 64) (by have := hl.a1; omega) (by have := hl.a2; omega) (by omega)
    simp only [alongS, Int.mul_zero]; omega
  have b2 := along_bound hr s2
  unfold f99G f142G
  rw [hr.r, along_eq hm hr ht]
  simp only [Option.bind_some, Bool.not_true, cond_false]
  rw [along_eq hm hr s1, along_eq hm hr s2]
  simp only [Option.bind_some]
  rw [gcd_eq (by omega) (by omega), Option.bind_some]
  have h0 : ((((alongS g.1 (l.1, 0)).gcd (alongS g.1 l.2) : Nat) : Int) != 0) = true := by
    rw [bne_iff_ne]; exact gS_pos hl hr
  rw [h0]
  rfl
/-- the first multiple of a vector that lies in the lattice -/
def mulV (k : Nat) (v : Vc) : Vc := ((k : Int) * v.1, (k : Int) * v.2)
theorem all_mul {l : Lt} (hl : IsL l) (v : Vc) : redS l (mulV (l.1.toNat * l.2.2.toNat) v) = (0, 0) := by
  rw [redS_InL hl]
  refine ⟨l.2.2 * v.1 - v.2 * l.2.1, l.1 * v.2, ?_⟩
  unfold mulV
  rw [idx_nat hl, Int.sub_mul]
  have e1 : l.1 * l.2.2 * v.1 = l.2.2 * v.1 * l.1 := by ac_rfl
  have e2 : v.2 * l.2.1 * l.1 = l.1 * v.2 * l.2.1 := by ac_rfl
  have e3 : l.1 * l.2.2 * v.2 = l.1 * v.2 * l.2.2 := by ac_rfl
  refine Prod.ext ?_ e3
  simp only
  omega
theorem mulV_succ (k : Nat) (v : Vc) : ((mulV k v).1 + v.1, (mulV k v).2 + v.2) = mulV (k + 1) v := by
  simp only [mulV, Int.natCast_add, Int.add_mul]
  simp
theorem mulV_bound {v : Vc} (h1 : -3 ≤ v.1 ∧ v.1 ≤ 3) (h2 : -3 ≤ v.2 ∧ v.2 ≤ 3) {k : Nat} (hk : k ≤ 70) : -210 ≤ (mulV k v).1 ∧ (mulV k v).1 ≤ 210 ∧ -210 ≤ (mulV k v).2 ∧ (mulV k v).2 ≤ 210 := by
  have e1 := three_mul h1 (x := (k : Int)) (B := 70) (by omega) (by omega) (by omega)
  have e2 := three_mul h2 (x := (k : Int)) (B := 70) (by omega) (by omega) (by omega)
  have c1 : (k : Int) * v.1 = v.1 * k := Int.mul_comm _ _
  have c2 : (k : Int) * v.2 = v.2 * k := Int.mul_comm _ _
  simp only [mulV]
  omega
theorem multiple_loop {l : Lt} (hl : IsL l) {v : Vc} (h1 : -3 ≤ v.1 ∧ v.1 ≤ 3) (h2 : -3 ≤ v.2 ∧ v.2 ≤ 3) : ∀ (n k : Nat), k ≤ l.1.toNat * l.2.2.toNat → l.1.toNat * l.2.2.toNat - k < n → ∃ r, f148_l4 KK l v n (mulV k v).1 (mulV k v).2 = some r
  | 0, k, _, hn => by omega
  | n + 1, k, hk, hn => by
    have hix := idx_nat hl
    have h64 := hl.ix
    have hb := mulV_bound h1 h2 (k := k) (by omega)
    have hb2 := mulV_bound h1 h2 (k := k + 1) (by omega)
    have e : f148_l4 KK l v (n + 1) (mulV k v).1 (mulV k v).2 = f148_b4 KK l v (fun v0 v1 => f148_l4 KK l v n v0 v1) (mulV k v).1 (mulV k v).2 := rfl
    rw [e]
    unfold f148_b4 f178G
    rw [has_eq hl (v := ((mulV k v).1, (mulV k v).2)) (by simp only [Sm]; omega)]
    simp only [Option.bind_some]
    cases hr : (redS l ((mulV k v).1, (mulV k v).2) == (0, 0))
    · simp only [Bool.not_false, cond_true]
      have hne : k ≠ l.1.toNat * l.2.2.toNat := by
        intro h
        rw [beq_eq_false_iff_ne] at hr
        apply hr
        rw [h]
        exact all_mul hl v
      have hs := mulV_succ k v
      rw [Prod.ext_iff] at hs
      simp only at hs
      rw [w_id (n := (mulV k v).1 + v.1) (by omega) (by omega), w_id (n := (mulV k v).2 + v.2) (by omega) (by omega), hs.1, hs.2]
      exact multiple_loop hl h1 h2 n (k + 1) (by omega) (by omega)
    · exact ⟨_, rfl⟩
theorem multiple_some {l : Lt} (hl : IsL l) {v : Vc} (h1 : -3 ≤ v.1 ∧ v.1 ≤ 3) (h2 : -3 ≤ v.2 ∧ v.2 ≤ 3) : ∃ r, f148G KK l v = some r := by
  unfold f148G f148_g
  have hix := idx_nat hl
  have h64 := hl.ix
  have h0 : 0 < l.1 * l.2.2 := Int.mul_pos (by have := hl.a1; omega) (by have := hl.c1; omega)
  have e : (mulV 1 v) = v := by simp [mulV]
  have := multiple_loop hl h1 h2 KK 1 (by omega) (by have := KKlt (n := l.1.toNat * l.2.2.toNat) (by omega); omega)
  rw [e] at this
  exact this
theorem centred_some {l : Lt} (hl : IsL l) {m : Mt} (hr : Rf m) : ∃ b, f100G KK l m = some b := by
  obtain ⟨r1, e1⟩ := multiple_some hl hr.x1 hr.x2
  obtain ⟨r2, e2⟩ := multiple_some hl hr.y1 hr.y2
  unfold f100G f147G f95G
  rw [hr.ax, Option.bind_some, e1, Option.bind_some, hr.ng, Option.bind_some, hr.an, Option.bind_some, e2]
  exact ⟨_, rfl⟩
noncomputable def cenS (l : Lt) (m : Mt) : Bool := (f100G KK l m).getD false
theorem isCentred_eq {l : Lt} (hl : IsL l) {m : Mt} (hr : Rf m) : f100G KK l m = some (cenS l m) := by
  obtain ⟨b, hb⟩ := centred_some hl hr
  unfold cenS
  rw [hb]
  rfl
noncomputable def linI (l : Lt) (s : Int × Int) (g : Mo) : Int × Int :=
  bif detS g.1 == 1 then s else bif !mayS l g then (s.1 + 2, s.2) else bif cenS l g.1 then (s.1 + 1, s.2 + 1) else (s.1, s.2 + 2)
theorem det_eq {m : Mt} (hm : SmM m) : f76G KK m = some (detS m) ∧ f52G KK m = some (detS m) := by
  have h1 := unit_mul hm.a (x := m.2.2.2) (B := 1) hm.d.1 hm.d.2 (by omega)
  have h2 := unit_mul hm.b (x := m.2.2.1) (B := 1) hm.c.1 hm.c.2 (by omega)
  unfold f76G f52G detS
  rw [w_id (n := m.1 * m.2.2.2) (by omega) (by omega), w_id (n := m.2.1 * m.2.2.1) (by omega) (by omega), w_id (by omega) (by omega)]
  exact ⟨rfl, rfl⟩
theorem lines_eq {p : Pt} (hp : IsP p) : f56G KK p = some (((groupS p).foldl (linI p.2.1) (0, 0)).2, ((groupS p).foldl (linI p.2.1) (0, 0)).1) := by
  unfold f56G f56_g
  rw [groupOf_eq hp]
  simp only [Option.bind_some]
  have hc := groupS_len hp
  have h := iter_fold (X := Int × Int × Int) (body := fun L x => f56_b14 KK p (groupS p) (fun v0 v1 v2 => L (v0, v1, v2)) x.1 x.2.1 x.2.2) (groupS p) (fun q s => ((q : Int), s)) (linI p.2.1) (fun s => some (s.2, s.1)) (fun q s => 0 ≤ s.1 ∧ 0 ≤ s.2 ∧ s.1 ≤ 2 * q ∧ s.2 ≤ 2 * q)
    (fun L q s hq hi => by
      have hg := groupS_mem (List.getElem_mem hq)
      have hm := stab_mem hg.1
      have hs := pm_sm hm
      have ht := cell_Sv hp.l hg.2
      refine ⟨?_, ?_⟩
      · unfold linI
        cases detS (groupS p)[q].1 == 1 <;> cases mayS p.2.1 (groupS p)[q] <;> cases cenS p.2.1 (groupS p)[q].1 <;> simp <;> omega
      unfold f56_b14 linI
      simp only
      rw [in1 hq, in0, gd hq, w_succ (by omega), w_id (n := s.1 + 2) (by omega) (by omega), w_id (n := s.1 + 1) (by omega) (by omega), w_id (n := s.2 + 2) (by omega) (by omega), w_id (n := s.2 + 1) (by omega) (by omega)]
      simp only [Bool.and_self, cond_true]
      rw [show f76G KK ((groupS p)[q].1.1, (groupS p)[q].1.2.1, (groupS p)[q].1.2.2) = some (detS (groupS p)[q].1) from (det_eq hs).1, Option.bind_some]
      cases hd : detS (groupS p)[q].1 == 1
      · have hd2 : detS (groupS p)[q].1 = -1 := by
          rcases pm_det hm with h | h
          · rw [h] at hd; simp at hd
          · exact h
        have hr := Rf_of hm hd2
        simp only [cond_false]
        rw [show f99G KK p.2.1 (((groupS p)[q].1.1, (groupS p)[q].1.2.1, (groupS p)[q].1.2.2), (groupS p)[q].2) = some (mayS p.2.1 (groupS p)[q]) from mayReflect_eq hp.l hs hr ht, Option.bind_some]
        cases mayS p.2.1 (groupS p)[q]
        · rfl
        · simp only [Bool.not_true, cond_false]
          rw [show f100G KK p.2.1 ((groupS p)[q].1.1, (groupS p)[q].1.2.1, (groupS p)[q].1.2.2) = some (cenS p.2.1 (groupS p)[q].1) from isCentred_eq hp.l hr, Option.bind_some]
          cases cenS p.2.1 (groupS p)[q].1 <;> rfl
      · rfl)
    (fun L s hi => by
      unfold f56_b14
      simp only
      rw [out1, cond_false]) KK 0 (0, 0) (by omega) (by have := KKlt (n := (groupS p).length) (by omega); omega) (by simp)
  unfold f56_l14
  refine h.trans ?_
  simp only [List.drop_zero]
theorem lin_sum (l : Lt) : ∀ (gs : List Mo) (s : Int × Int), (gs.foldl (linI l) s).1 + (gs.foldl (linI l) s).2 = s.1 + s.2 + 2 * ((gs.filter fun g => !(detS g.1 == 1)).length : Int)
  | [], s => by simp
  | g :: gs, s => by
    rw [List.foldl_cons, lin_sum l gs]
    unfold linI
    cases h : detS g.1 == 1
    · rw [List.filter_cons_of_pos (by simp [h])]
      cases mayS l g <;> cases cenS l g.1 <;> simp <;> omega
    · rw [List.filter_cons_of_neg (by simp [h])]
      rfl
end Go.Proofs.Ytbgdojniimdihaa.X
