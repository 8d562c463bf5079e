/- Plain facts: the lines of a pattern, as the reference counts them; the facts about the lattices of an index up to 64 and the eight reflections are found by trying all. -/
import Derived.Test.YtniidcalfhhciaaGreatQdMD
namespace Go.Proofs.YtniidcalfhhciaaGreat.X
open Go
set_option linter.unusedSimpArgs false
set_option linter.unusedVariables false
abbrev Et := Mt × Vc × Vc × Int × Int
def rtab : List Et := [((-1, 0, 0, 1), (0, 1), (1, 0), 0, 2), ((0, -1, -1, 0), (1, -1), (1, 1), 1, -1), ((0, 1, 1, 0), (1, 1), (1, -1), 1, 1), ((1, 0, 0, -1), (1, 0), (0, 1), 2, 0), ((-1, -1, 0, 1), (1, -2), (1, 0), 0, -1), ((-1, 0, 1, 1), (0, 1), (2, -1), 1, 2), ((1, 0, -1, -1), (2, -1), (0, 1), 1, 0), ((1, 1, 0, -1), (1, 0), (1, -2), 2, 1)]
noncomputable def rchk (e : Et) : Bool := (axS e.1 == e.2.1) && (axS (negS e.1) == e.2.2.1) && (alS e.1 == e.2.2.2.1) && (beS e.1 == e.2.2.2.2) && (f376G KK e.1 == some e.2.1) && (f376G KK (negS e.1) == some e.2.2.1) && (Int.gcd e.2.1.1 e.2.1.2 == 1)
theorem rtab_ok : rtab.all rchk = true := by kernel_rfl
theorem rtab_all : ((pmQ ++ pmH).all fun m => (detS m != -1) || rtab.any fun e => e.1 == m) = true := by decide +kernel
/-- the first multiple in the lattice, from k on -/
def kS (l : Lt) (v : Vc) : Nat → Nat → Nat
  | 0, k => k
  | n + 1, k => bif redS l (mulV k v) == (0, 0) then k else kS l v n (k + 1)
def cenT (l : Lt) (a b : Vc) : Bool := ((det2 (mulV (kS l a 64 1) a) (mulV (kS l b 64 1) b)).natAbs : Int) != l.1 * l.2.2
def stepT (l : Lt) (a b : Vc) : Nat := bif cenT l a b then kS l a 64 1 else 2 * kS l a 64 1
def lchk (l : Lt) (e : Et) : Bool := !stayS l e.1 || (gI (e.2.2.2.1 * l.1 + e.2.2.2.2 * 0) (e.2.2.2.1 * l.2.1 + e.2.2.2.2 * l.2.2) == (stepT l e.2.1 e.2.2.1 : Int))
def lats (a : Nat) : List Lt := (List.range (64 / a)).flatMap fun c => (List.range a).map fun (b : Nat) => ((a : Int), (b : Int), ((c + 1 : Nat) : Int))
def latsOk (a : Nat) : Bool := (lats a).all fun l => rtab.all (lchk l)
theorem lats_ok : ((List.range 64).all fun a => latsOk (a + 1)) = true := by decide +kernel
theorem lats_mem {l : Lt} (hl : IsL l) : l ∈ lats l.1.toNat := by
  obtain ⟨a1, a2, c1, c2, b1, b2, ix⟩ := hl
  unfold lats
  simp only [List.mem_flatMap, List.mem_map, List.mem_range]
  refine ⟨l.2.2.toNat - 1, ?_, l.2.1.toNat, by omega, ?_⟩
  · rw [Nat.lt_div_iff_mul_lt (by omega)]
    have h1 : ((l.1.toNat * l.2.2.toNat : Nat) : Int) = l.1 * l.2.2 := idx_nat ⟨a1, a2, c1, c2, b1, b2, ix⟩
    have h2 : (l.2.2.toNat - 1) * l.1.toNat = l.1.toNat * l.2.2.toNat - l.1.toNat := by
      rw [Nat.sub_mul, Nat.one_mul, Nat.mul_comm]
    have h3 : l.1.toNat * 1 ≤ l.1.toNat * l.2.2.toNat := Nat.mul_le_mul_left _ (by omega)
    omega
  · refine Prod.ext (by simp; omega) (Prod.ext (by simp; omega) (by simp only; omega))
theorem lat_fact {l : Lt} (hl : IsL l) {e : Et} (he : e ∈ rtab) (hs : stayS l e.1 = true) : gI (e.2.2.2.1 * l.1 + e.2.2.2.2 * 0) (e.2.2.2.1 * l.2.1 + e.2.2.2.2 * l.2.2) = (stepT l e.2.1 e.2.2.1 : Int) := by
  have h1 := List.all_eq_true.mp lats_ok (l.1.toNat - 1) (by rw [List.mem_range]; have := hl.a2; have := hl.a1; omega)
  rw [show l.1.toNat - 1 + 1 = l.1.toNat by have := hl.a1; omega] at h1
  have h2 := List.all_eq_true.mp (List.all_eq_true.mp h1 l (lats_mem hl)) e he
  unfold lchk at h2
  rw [hs] at h2
  simpa using h2
theorem kS_ge (l : Lt) (v : Vc) : ∀ n k, k ≤ kS l v n k ∧ kS l v n k ≤ k + n
  | 0, k => by simp [kS]
  | n + 1, k => by
    simp only [kS]
    have := kS_ge l v n (k + 1)
    cases redS l (mulV k v) == (0, 0) <;> simp <;> omega
end Go.Proofs.YtniidcalfhhciaaGreat.X
/-! Plain facts: mirror lines and glide lines are counted alike. -/
namespace Go.Proofs.YtniidcalfhhciaaGreat.X
open Go
set_option linter.unusedVariables false
structure REnt (e : Et) : Prop where
  mem : e ∈ rtab
  ax : axS e.1 = e.2.1
  an : axS (negS e.1) = e.2.2.1
  al : alS e.1 = e.2.2.2.1
  be : beS e.1 = e.2.2.2.2
  sx : f376G KK e.1 = some e.2.1
  sn : f376G KK (negS e.1) = some e.2.2.1
  one : Int.gcd e.2.1.1 e.2.1.2 = 1
theorem REnt_of {m : Mt} (hm : m ∈ pmQ ++ pmH) (hd : detS m = -1) : ∃ e, REnt e ∧ e.1 = m := by
  have h := List.all_eq_true.mp rtab_all m hm
  simp only [hd, bne_self_eq_false, Bool.false_or, List.any_eq_true, beq_iff_eq] at h
  obtain ⟨e, he, rfl⟩ := h
  have h2 := List.all_eq_true.mp rtab_ok e he
  unfold rchk at h2
  simp only [Bool.and_eq_true, beq_iff_eq] at h2
  obtain ⟨⟨⟨⟨⟨⟨k1, k2⟩, k3⟩, k4⟩, k5⟩, k6⟩, k7⟩ := h2
  exact ⟨e, ⟨he, k1, k2, k3, k4, k5, k6, k7⟩, rfl⟩
theorem multiple_val {l : Lt} (hl : IsL l) {v : Vc} (h1 : -3 ≤ v.1 ∧ v.1 ≤ 3) (h2 : -3 ≤ v.2 ∧ v.2 ≤ 3) : ∀ (n n' k : Nat), k ≤ l.1.toNat * l.2.2.toNat → l.1.toNat * l.2.2.toNat - k < n → l.1.toNat * l.2.2.toNat - k ≤ n' → f329_l4 KK l v n (mulV k v).1 (mulV k v).2 = some (mulV (kS l v n' k) v)
  | 0, n', k, _, hn, _ => by omega
  | n + 1, n', k, hk, hn, hn' => by
    have hix := idx_nat hl
    have h64 := hl.ix
    have hb := mulV_bound h1 h2 (k := k) (by omega)
    have hb2 := mulV_bound h1 h2 (k := k + 1) (by omega)
    have e : f329_l4 KK l v (n + 1) (mulV k v).1 (mulV k v).2 = f329_b4 KK l v (fun v0 v1 => f329_l4 KK l v n v0 v1) (mulV k v).1 (mulV k v).2 := rfl
    rw [e]
    unfold f329_b4 f289G
    rw [has_eq hl (v := ((mulV k v).1, (mulV k v).2)) (by simp only [Sm]; omega)]
    simp only [Option.bind_some]
    cases hr : (redS l ((mulV k v).1, (mulV k v).2) == (0, 0))
    · simp only [Bool.not_false, cond_true]
      have hne : k ≠ l.1.toNat * l.2.2.toNat := by
        intro h
        rw [beq_eq_false_iff_ne] at hr
        apply hr
        rw [h]
        exact all_mul hl v
      have hs := mulV_succ k v
      rw [Prod.ext_iff] at hs
      simp only at hs
      rw [w_id (n := (mulV k v).1 + v.1) (by omega) (by omega), w_id (n := (mulV k v).2 + v.2) (by omega) (by omega), hs.1, hs.2]
      obtain ⟨n2, rfl⟩ : ∃ n2, n' = n2 + 1 := ⟨n' - 1, by omega⟩
      rw [multiple_val hl h1 h2 n n2 (k + 1) (by omega) (by omega) (by omega)]
      simp only [kS]
      rw [show (redS l (mulV k v) == (0, 0)) = false from hr, cond_false]
    · match n' with
      | 0 => rfl
      | n2 + 1 =>
        simp only [kS]
        rw [show (redS l (mulV k v) == (0, 0)) = true from hr]
        rfl
theorem multipleIn_eq {l : Lt} (hl : IsL l) {v : Vc} (h1 : -3 ≤ v.1 ∧ v.1 ≤ 3) (h2 : -3 ≤ v.2 ∧ v.2 ≤ 3) : f329G KK l v = some (mulV (kS l v 64 1) v) := by
  unfold f329G f329_g
  have hix := idx_nat hl
  have h64 := hl.ix
  have h0 : 0 < l.1 * l.2.2 := Int.mul_pos (by have := hl.a1; omega) (by have := hl.c1; omega)
  have e : (mulV 1 v) = v := by simp [mulV]
  have := multiple_val hl h1 h2 KK 64 1 (by omega) (by have := KKlt (n := l.1.toNat * l.2.2.toNat) (by omega); omega) (by omega)
  rw [e] at this
  exact this
theorem invariant_val {l : Lt} (hl : IsL l) (m : Mt) (s : Int) {v : Vc} (h1 : -3 ≤ v.1 ∧ v.1 ≤ 3) (h2 : -3 ≤ v.2 ∧ v.2 ≤ 3) : ∀ (n n' k : Nat), k ≤ l.1.toNat * l.2.2.toNat → l.1.toNat * l.2.2.toNat - k < n → l.1.toNat * l.2.2.toNat - k ≤ n' → f332_l5 KK l m s v n (k : Int) = some (mulV (kS l v n' k) v)
  | 0, n', k, _, hn, _ => by omega
  | n + 1, n', k, hk, hn, hn' => by
    have hix := idx_nat hl
    have h64 := hl.ix
    have hb := mulV_bound h1 h2 (k := k) (by omega)
    have e : f332_l5 KK l m s v (n + 1) (k : Int) = f332_b5 KK l m s v (fun v0 => f332_l5 KK l m s v n v0) (k : Int) := rfl
    rw [e]
    unfold f332_b5 f333G f377G
    have e2 : (w ((k : Int) * v.1), w ((k : Int) * v.2)) = mulV k v := by
      simp only [mulV] at hb ⊢
      rw [w_id (by omega) (by omega), w_id (by omega) (by omega)]
    rw [e2]
    simp only [Option.bind_some]
    rw [l03Reduce_eq hl (v := mulV k v) (by simp only [Sm]; omega)]
    simp only [Option.bind_some]
    rw [show (((redS l (mulV k v)).1 == (0 : Int)) && ((redS l (mulV k v)).2 == (0 : Int))) = (redS l (mulV k v) == (0, 0)) from rfl]
    cases hr : (redS l (mulV k v) == (0, 0))
    · simp only [cond_false]
      have hne : k ≠ l.1.toNat * l.2.2.toNat := by
        intro h
        rw [beq_eq_false_iff_ne] at hr
        apply hr
        rw [h]
        exact all_mul hl v
      obtain ⟨n2, rfl⟩ : ∃ n2, n' = n2 + 1 := ⟨n' - 1, by omega⟩
      rw [w_succ (by omega), invariant_val hl m s h1 h2 n n2 (k + 1) (by omega) (by omega) (by omega)]
      simp only [kS]
      rw [hr, cond_false]
    · match n' with
      | 0 => rfl
      | n2 + 1 =>
        simp only [kS]
        rw [hr]
        rfl
theorem invariant_eq {l : Lt} (hl : IsL l) (m : Mt) (s : Int) {v : Vc} (hv : f376G KK ((w (s * m.1)), (w (s * m.2.1)), (w (s * m.2.2.1)), (w (s * m.2.2.2))) = some v) (h1 : -3 ≤ v.1 ∧ v.1 ≤ 3) (h2 : -3 ≤ v.2 ∧ v.2 ≤ 3) :
    f332G KK l m s = some (mulV (kS l v 64 1) v) := by
  unfold f332G f332_g
  rw [hv, Option.bind_some]
  have hix := idx_nat hl
  have h64 := hl.ix
  have h0 : 0 < l.1 * l.2.2 := Int.mul_pos (by have := hl.a1; omega) (by have := hl.c1; omega)
  exact invariant_val hl m s h1 h2 KK 64 1 (by omega) (by have := KKlt (n := l.1.toNat * l.2.2.toNat) (by omega); omega) (by omega)
theorem pos_neg {m : Mt} (hm : SmM m) : ((w (1 * m.1)), (w (1 * m.2.1)), (w (1 * m.2.2.1)), (w (1 * m.2.2.2))) = m ∧ ((w (-1 * m.1)), (w (-1 * m.2.1)), (w (-1 * m.2.2.1)), (w (-1 * m.2.2.2))) = negS m := by
  obtain ⟨⟨a1, a2⟩, ⟨b1, b2⟩, ⟨c1, c2⟩, ⟨d1, d2⟩⟩ := hm
  rw [w_id (n := 1 * m.1) (by omega) (by omega), w_id (n := 1 * m.2.1) (by omega) (by omega), w_id (n := 1 * m.2.2.1) (by omega) (by omega), w_id (n := 1 * m.2.2.2) (by omega) (by omega), w_id (n := -1 * m.1) (by omega) (by omega), w_id (n := -1 * m.2.1) (by omega) (by omega), w_id (n := -1 * m.2.2.1) (by omega) (by omega), w_id (n := -1 * m.2.2.2) (by omega) (by omega)]
  simp only [Int.one_mul, negS]
  have : ∀ x : Int, -1 * x = -x := fun x => by omega
  simp only [this]
  exact ⟨trivial, trivial⟩
theorem kS_bd (l : Lt) (v : Vc) : 1 ≤ kS l v 64 1 ∧ kS l v 64 1 ≤ 65 := by
  have := kS_ge l v 64 1; omega
theorem cross_calc {a b : Vc} (h1 : -210 ≤ a.1 ∧ a.1 ≤ 210 ∧ -210 ≤ a.2 ∧ a.2 ≤ 210) (h2 : -210 ≤ b.1 ∧ b.1 ≤ 210 ∧ -210 ≤ b.2 ∧ b.2 ≤ 210) : w ((w (a.1 * b.2)) - (w (a.2 * b.1))) = det2 a b ∧ (det2 a b).natAbs ≤ 1000000 := by
  have m1 : (a.1 * b.2).natAbs ≤ 210 * 210 := by rw [Int.natAbs_mul]; exact Nat.mul_le_mul (by omega) (by omega)
  have m2 : (a.2 * b.1).natAbs ≤ 210 * 210 := by rw [Int.natAbs_mul]; exact Nat.mul_le_mul (by omega) (by omega)
  unfold det2
  rw [Int.mul_comm b.1 a.2, w_id (n := a.1 * b.2) (by omega) (by omega), w_id (n := a.2 * b.1) (by omega) (by omega), w_id (by omega) (by omega)]
  exact ⟨rfl, by omega⟩
theorem cenS_eq {l : Lt} (hl : IsL l) {m : Mt} (hm : SmM m) (hr : Rf m) : cenS l m = cenT l (axS m) (axS (negS m)) := by
  have b1 := mulV_bound hr.x1 hr.x2 (k := kS l (axS m) 64 1) (by have := kS_bd l (axS m); omega)
  have b2 := mulV_bound hr.y1 hr.y2 (k := kS l (axS (negS m)) 64 1) (by have := kS_bd l (axS (negS m)); omega)
  obtain ⟨c1, c2⟩ := cross_calc b1 b2
  have h64 := mul64 hl.a1 hl.a2 hl.c1 hl.c2
  unfold cenS f260G f328G f133G
  rw [hr.ax, Option.bind_some, multipleIn_eq hl hr.x1 hr.x2, Option.bind_some, hr.ng, Option.bind_some, hr.an, Option.bind_some, multipleIn_eq hl hr.y1 hr.y2]
  simp only [Option.bind_some]
  rw [c1, abs_eq (by omega), w_id (n := l.1 * l.2.2) (by omega) (by omega)]
  rfl
theorem l11Centred_eq {l : Lt} (hl : IsL l) {e : Et} (he : REnt e) (hm : SmM e.1) (hr : Rf e.1) : f262G KK l e.1 = some (cenS l e.1) := by
  rw [cenS_eq hl hm hr]
  have b1 := mulV_bound hr.x1 hr.x2 (k := kS l (axS e.1) 64 1) (by have := kS_bd l (axS e.1); omega)
  have b2 := mulV_bound hr.y1 hr.y2 (k := kS l (axS (negS e.1)) 64 1) (by have := kS_bd l (axS (negS e.1)); omega)
  obtain ⟨c1, c2⟩ := cross_calc b1 b2
  have h64 := mul64 hl.a1 hl.a2 hl.c1 hl.c2
  obtain ⟨p1, p2⟩ := pos_neg hm
  unfold f262G f335G
  rw [invariant_eq hl e.1 1 (by rw [p1, he.ax]; exact he.sx) hr.x1 hr.x2, invariant_eq hl e.1 (-1) (by rw [p2, he.an]; exact he.sn) hr.y1 hr.y2]
  simp only [Option.bind_some]
  rw [c1, abs_eq (by omega), w_id (n := l.1 * l.2.2) (by omega) (by omega)]
  rfl
theorem tmod_iff {a n : Int} (h : 1 ≤ n) : (a.tmod n == 0) = (((a.natAbs : Int) % n) == 0) := by
  rw [Bool.eq_iff_iff, beq_iff_eq, beq_iff_eq]
  have h1 : (a.natAbs : Int) % n = 0 ↔ a % n = 0 := by
    rw [← Int.dvd_iff_emod_eq_zero, ← Int.dvd_iff_emod_eq_zero, Int.dvd_natAbs]
  rw [h1]
  obtain ⟨k1, k2, k3, k4⟩ := tmod_pos (a := a) h
  rcases Int.lt_or_le (a.tmod n) 0 with h2 | h2
  · have := k1 h2; omega
  · have := k2 h2; omega
theorem gcd_scale {a : Vc} (h : Int.gcd a.1 a.2 = 1) (k : Int) : Int.gcd (k * a.1) (k * a.2) = k.natAbs := by
  rw [Int.gcd_mul_left, h, Nat.mul_one]
theorem twice_eq {m : Mt} (hm : SmM m) (hr : Rf m) {t : Vc} (ht : Sv t) : f334G KK (m, t) = some (alongS m t * (axS m).1, alongS m t * (axS m).2) := by
  obtain ⟨b1, b2, b3, b4⟩ := mulS_bound hm ht
  obtain ⟨v1, v2, v3, v4⟩ := id ht
  unfold f334G f277G
  rw [l02Apply_eq hm ht]
  simp only [Option.bind_some]
  rw [w_id (n := (mulS m t).1 + t.1) (by omega) (by omega), w_id (n := (mulS m t).2 + t.2) (by omega) (by omega)]
  have e1 : (mulS m t).1 + t.1 = alongS m t * (axS m).1 := by
    have h1 : (mulS m t).1 + t.1 = (1 + m.1) * t.1 + m.2.1 * t.2 := by simp only [mulS, Int.add_mul]; omega
    rw [h1, hr.c1, hr.c2]
    simp only [alongS, Int.add_mul]
    have h2 : alS m * (axS m).1 * t.1 = alS m * t.1 * (axS m).1 := by ac_rfl
    have h3 : beS m * (axS m).1 * t.2 = beS m * t.2 * (axS m).1 := by ac_rfl
    omega
  have e2 : (mulS m t).2 + t.2 = alongS m t * (axS m).2 := by
    have h1 : (mulS m t).2 + t.2 = m.2.2.1 * t.1 + (1 + m.2.2.2) * t.2 := by simp only [mulS, Int.add_mul]; omega
    rw [h1, hr.c3, hr.c4]
    simp only [alongS, Int.add_mul]
    have h2 : alS m * (axS m).2 * t.1 = alS m * t.1 * (axS m).2 := by ac_rfl
    have h3 : beS m * (axS m).2 * t.2 = beS m * t.2 * (axS m).2 := by ac_rfl
    omega
  rw [e1, e2]
theorem mayS_eq {l : Lt} (hl : IsL l) {e : Et} (he : REnt e) (hs : stayS l e.1 = true) (t : Vc) : mayS l (e.1, t) = ((((alongS e.1 t).natAbs : Int) % (stepT l (axS e.1) (axS (negS e.1)) : Int)) == 0) := by
  have hg : gS l e.1 = (stepT l (axS e.1) (axS (negS e.1)) : Int) := by
    rw [he.ax, he.an, ← lat_fact hl he.mem hs]
    unfold gS alongS
    rw [he.al, he.be]
  have hp : 1 ≤ (stepT l (axS e.1) (axS (negS e.1)) : Int) := by
    unfold stepT
    have := kS_bd l (axS e.1)
    cases cenT l (axS e.1) (axS (negS e.1)) <;> simp <;> omega
  unfold mayS
  simp only
  rw [hg, tmod_iff hp]
theorem scale_nat {a : Vc} (h : Int.gcd a.1 a.2 = 1) (k : Nat) : Int.gcd (mulV k a).1 (mulV k a).2 = k := by
  have := gcd_scale h (k : Int)
  simpa [mulV] using this
theorem Bx_Sv {t : Vc} (h : Bx t) : Sv t := by
  obtain ⟨h1, h2, h3, h4⟩ := h
  simp only [Sv]; omega
theorem l11Reflects_eq {l : Lt} (hl : IsL l) {e : Et} (he : REnt e) (hm : SmM e.1) (hr : Rf e.1) (hs : stayS l e.1 = true) {t : Vc} (hb : Bx t) : f261G KK l (e.1, t) = some (mayS l (e.1, t)) := by
  have kb := kS_bd l (axS e.1)
  have b1 := mulV_bound hr.x1 hr.x2 (k := kS l (axS e.1) 64 1) (by omega)
  obtain ⟨p1, p2⟩ := pos_neg hm
  have hone : Int.gcd (axS e.1).1 (axS e.1).2 = 1 := by rw [he.ax]; exact he.one
  have ht := Bx_Sv hb
  have al1 := three_mul hr.la (x := t.1) (B := 64) (by have := hb.x1; omega) hb.x2 (by omega)
  have al2 := three_mul hr.lb (x := t.2) (B := 64) (by have := hb.y1; omega) hb.y2 (by omega)
  have hal : -384 ≤ alongS e.1 t ∧ alongS e.1 t ≤ 384 := by unfold alongS; omega
  have hx1 := three_mul hr.x1 (x := alongS e.1 t) (B := 384) hal.1 hal.2 (by omega)
  have hx2 := three_mul hr.x2 (x := alongS e.1 t) (B := 384) hal.1 hal.2 (by omega)
  have cx1 : alongS e.1 t * (axS e.1).1 = (axS e.1).1 * alongS e.1 t := Int.mul_comm _ _
  have cx2 : alongS e.1 t * (axS e.1).2 = (axS e.1).2 * alongS e.1 t := Int.mul_comm _ _
  rw [mayS_eq hl he hs t]
  unfold f261G
  simp only
  rw [invariant_eq hl e.1 1 (by rw [p1, he.ax]; exact he.sx) hr.x1 hr.x2, l11Centred_eq hl he hm hr, cenS_eq hl hm hr, twice_eq hm hr ht]
  simp only [Option.bind_some]
  have hd2 : ∀ d : Nat, 1 ≤ d → d ≤ 1000 → f324G KK ((alongS e.1 t).natAbs : Int) (d : Int) = some (((alongS e.1 t).natAbs : Int) % (d : Int)) := fun d h1 h2 => l01Mod_eq (by omega) (by omega)
  have hgv : f136G KK (alongS e.1 t * (axS e.1).1) (alongS e.1 t * (axS e.1).2) = some ((alongS e.1 t).natAbs : Int) := by
    rw [divisor_eq (by omega) (by omega), gcd_scale hone]
  cases hc : cenT l (axS e.1) (axS (negS e.1))
  · simp only [Bool.not_false, cond_true]
    unfold f333G
    simp only [Option.bind_some]
    have e1 : (w (2 * (mulV (kS l (axS e.1) 64 1) (axS e.1)).1), w (2 * (mulV (kS l (axS e.1) 64 1) (axS e.1)).2)) = mulV (2 * kS l (axS e.1) 64 1) (axS e.1) := by
      rw [w_id (by omega) (by omega), w_id (by omega) (by omega)]
      simp only [mulV, Int.natCast_mul, Int.mul_assoc]
      rfl
    have e3 : (mulV (2 * kS l (axS e.1) 64 1) (axS e.1)).1 = 2 * (mulV (kS l (axS e.1) 64 1) (axS e.1)).1 ∧ (mulV (2 * kS l (axS e.1) 64 1) (axS e.1)).2 = 2 * (mulV (kS l (axS e.1) 64 1) (axS e.1)).2 := by
      simp only [mulV, Int.natCast_mul, Int.mul_assoc]
      exact ⟨rfl, rfl⟩
    rw [Prod.ext_iff] at e1
    simp only at e1
    rw [e1.1, e1.2, divisor_eq (by omega) (by omega), scale_nat hone]
    simp only [Option.bind_some]
    rw [hgv, Option.bind_some, hd2 _ (by omega) (by omega), Option.bind_some]
    unfold stepT
    rw [hc]
    rfl
  · simp only [Bool.not_true, cond_false]
    rw [divisor_eq (by omega) (by omega), scale_nat hone]
    simp only [Option.bind_some]
    rw [hgv, Option.bind_some, hd2 _ (by omega) (by omega), Option.bind_some]
    unfold stepT
    rw [hc]
    rfl
theorem l14Lines_eq {p : Pt} (hp : IsP p) : f129G KK p = some (((groupS p).foldl (linI p.2.1) (0, 0)).2, ((groupS p).foldl (linI p.2.1) (0, 0)).1) := by
  unfold f129G f129_g
  rw [l10Group_eq hp]
  simp only [Option.bind_some]
  have hc := groupS_len hp
  have h := iter_fold (X := Int × Int × Int) (body := fun L x => f129_b14 KK p (groupS p) (fun v0 v1 v2 => L (v0, v1, v2)) x.1 x.2.1 x.2.2) (groupS p) (fun q s => ((q : Int), s)) (linI p.2.1) (fun s => some (s.2, s.1)) (fun q s => 0 ≤ s.1 ∧ 0 ≤ s.2 ∧ s.1 ≤ 2 * q ∧ s.2 ≤ 2 * q)
    (fun L q s hq hi => by
      have hg := groupS_mem (List.getElem_mem hq)
      have hm := stab_mem hg.1
      have hs := pm_sm hm
      have hst : stayS p.2.1 (groupS p)[q].1 = true := (List.mem_filter.mp hg.1).2
      refine ⟨?_, ?_⟩
      · unfold linI
        cases detS (groupS p)[q].1 == 1 <;> cases mayS p.2.1 (groupS p)[q] <;> cases cenS p.2.1 (groupS p)[q].1 <;> simp <;> omega
      unfold f129_b14 linI
      simp only
      rw [in1 hq, in0, gd hq, w_succ (by omega), w_id (n := s.1 + 2) (by omega) (by omega), w_id (n := s.1 + 1) (by omega) (by omega), w_id (n := s.2 + 2) (by omega) (by omega), w_id (n := s.2 + 1) (by omega) (by omega)]
      simp only [Bool.and_self, cond_true]
      rw [show f132G KK ((groupS p)[q].1.1, (groupS p)[q].1.2.1, (groupS p)[q].1.2.2) = some (detS (groupS p)[q].1) from (det_eq hs).2, Option.bind_some]
      cases hd : detS (groupS p)[q].1 == 1
      · have hd2 : detS (groupS p)[q].1 = -1 := by
          rcases pm_det hm with h | h
          · rw [h] at hd; simp at hd
          · exact h
        have hr := Rf_of hm hd2
        obtain ⟨e, he, hem⟩ := REnt_of hm hd2
        simp only [cond_false]
        have e1 : f261G KK p.2.1 (((groupS p)[q].1.1, (groupS p)[q].1.2.1, (groupS p)[q].1.2.2), (groupS p)[q].2) = some (mayS p.2.1 (groupS p)[q]) := by
          have := l11Reflects_eq hp.l he (by rw [hem]; exact hs) (by rw [hem]; exact hr) (by rw [hem]; exact hst) (cell_Bx hp.l hg.2)
          rw [hem] at this
          exact this
        have e2 : f262G KK p.2.1 ((groupS p)[q].1.1, (groupS p)[q].1.2.1, (groupS p)[q].1.2.2) = some (cenS p.2.1 (groupS p)[q].1) := by
          have := l11Centred_eq hp.l he (by rw [hem]; exact hs) (by rw [hem]; exact hr)
          rw [hem] at this
          exact this
        rw [e1, Option.bind_some]
        cases mayS p.2.1 (groupS p)[q]
        · rfl
        · simp only [Bool.not_true, cond_false]
          rw [e2, Option.bind_some]
          cases cenS p.2.1 (groupS p)[q].1 <;> rfl
      · rfl)
    (fun L s hi => by
      unfold f129_b14
      simp only
      rw [out1, cond_false]) KK 0 (0, 0) (by omega) (by have := KKlt (n := (groupS p).length) (by omega); omega) (by simp)
  unfold f129_l14
  refine h.trans ?_
  simp only [List.drop_zero]
end Go.Proofs.YtniidcalfhhciaaGreat.X
