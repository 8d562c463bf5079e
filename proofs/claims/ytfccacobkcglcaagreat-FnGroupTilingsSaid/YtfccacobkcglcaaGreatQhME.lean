/- Plain facts: point matrices, suitable motions, the order of motions. -/
import Derived.Test.YtfccacobkcglcaaGreatQhMA
namespace Go.Proofs.YtfccacobkcglcaaGreat.X
open Go
set_option linter.unusedSimpArgs false
set_option linter.unusedVariables false
def allFrom {α : Type} (p : Nat → α → Bool) : Nat → List α → Bool
 | _, [] => true
 | q, a :: r => p q a && allFrom p (q + 1) r
theorem iter_scan {X R S α : Type} {body : (X → Option R) → X → Option R} (l : List α) (fr : Nat → S → X) (p : Nat → α → Bool) (step : S → α → S) (no : Option R) (fin : S → Option R) (inv : Nat → S → Prop)
  (h1 : ∀ L q s (hq : q < l.length), inv q s → (p q l[q] = true → inv (q + 1) (step s l[q])) ∧ body L (fr q s) = bif p q l[q] then L (fr (q + 1) (step s l[q])) else no)
  (h2 : ∀ L s, inv l.length s → body L (fr l.length s) = fin s) : ∀ n q s, q ≤ l.length → l.length - q < n → inv q s → iter body n (fr q s) = bif allFrom p q (l.drop q) then fin ((l.drop q).foldl step s) else no
 | 0, q, s, _, hn, _ => by omega
 | n + 1, q, s, hq, hn, hi => by
  show body (iter body n) (fr q s) = _
  by_cases hlt : q < l.length
  ·obtain ⟨h3, h4⟩ := h1 (iter body n) q s hlt hi
   rw [h4, List.drop_eq_getElem_cons hlt]
   simp only [allFrom, List.foldl_cons]
   cases hp : p q l[q]
   ·simp
   ·rw [cT, iter_scan l fr p step no fin inv h1 h2 n (q + 1) _ hlt (by omega) (h3 hp), Bool.true_and]
  ·have : q = l.length := by omega
   subst this
   rw [h2 _ _ hi]
   simp [allFrom]
theorem allFrom_get {α : Type} {p : Nat → α → Bool} : ∀ {l : List α} {q : Nat}, allFrom p q l = true → ∀ i (hi : i < l.length), p (q + i) l[i] = true
 | [], _, _, i, hi => by simp at hi
 | a :: l, q, h, i, hi => by
  simp only [allFrom, Bool.and_eq_true] at h
  cases i with
  | zero => exact h.1
  | succ i =>
   have := allFrom_get h.2 i (by simpa using hi)
   rw [show q + (i + 1) = q + 1 + i by omega]
   exact this
def normS (f : Int) (v : Vc) : Int := v.1 * v.1 + f * v.1 * v.2 + v.2 * v.2
def keepS (f : Int) (m : Mt) : Bool := (normS f (m.1, m.2.2.1) == 1) && (normS f (m.2.1, m.2.2.2) == 1) && (normS f (m.1 + m.2.1, m.2.2.1 + m.2.2.2) == 2 + f)
theorem sq_small {x : Int} (h : x * x ≤ 2) : -1 ≤ x ∧ x ≤ 1 := by
 constructor
 ·refine Decidable.byContradiction fun hn => ?_
  have h1 : (-x) * 2 ≤ (-x) * (-x) := Int.mul_le_mul_of_nonneg_left (by omega) (by omega)
  rw [Int.neg_mul_neg] at h1
  omega
 ·refine Decidable.byContradiction fun hn => ?_
  have h1 : x * 2 ≤ x * x := Int.mul_le_mul_of_nonneg_left (by omega) (by omega)
  omega
theorem sq_nonneg (x : Int) : 0 ≤ x * x := by
 rcases Int.le_total 0 x with h | h
 ·exact Int.mul_nonneg h h
 ·have := Int.mul_nonneg (show 0 ≤ -x by omega) (show 0 ≤ -x by omega)
  rwa [Int.neg_mul_neg] at this
theorem norm_one {f : Int} (h1 : 0 ≤ f) (h2 : f ≤ 1) {v : Vc} (h : normS f v = 1) : (-1 ≤ v.1 ∧ v.1 ≤ 1) ∧ (-1 ≤ v.2 ∧ v.2 ≤ 1) := by
 unfold normS at h
 have s1 := sq_nonneg v.1
 have s2 := sq_nonneg v.2
 have : f = 0 ∨ f = 1 := by omega
 rcases this with rfl | rfl
 ·simp only [Int.zero_mul, Int.add_zero] at h
  exact ⟨sq_small (by omega), sq_small (by omega)⟩
 ·simp only [Int.one_mul] at h
  have s3 := sq_nonneg (v.1 + v.2)
  have e : (v.1 + v.2) * (v.1 + v.2) = v.1 * v.1 + 2 * (v.1 * v.2) + v.2 * v.2 := by
   rw [Int.add_mul, Int.mul_add, Int.mul_add, Int.mul_comm v.2 v.1]; omega
  exact ⟨sq_small (by omega), sq_small (by omega)⟩
theorem keep_all : ∀ f ∈ [(0 : Int), 1], ∀ a ∈ [(-1 : Int), 0, 1], ∀ b ∈ [(-1 : Int), 0, 1], ∀ c ∈ [(-1 : Int), 0, 1], ∀ d ∈ [(-1 : Int), 0, 1], keepS f (a, b, c, d) = (pmS f).contains (a, b, c, d) := by decide +kernel
theorem mem3 {a : Int} (h : -1 ≤ a ∧ a ≤ 1) : a ∈ [(-1 : Int), 0, 1] := by
 rcases one_cases h with rfl | rfl | rfl <;> simp
theorem keepS_eq {f : Int} (h1 : 0 ≤ f) (h2 : f ≤ 1) (m : Mt) : keepS f m = (pmS f).contains m := by
 have hf : f ∈ [(0 : Int), 1] := by
  have : f = 0 ∨ f = 1 := by omega
  rcases this with rfl | rfl <;> simp
 by_cases hs : (-1 ≤ m.1 ∧ m.1 ≤ 1) ∧ (-1 ≤ m.2.1 ∧ m.2.1 ≤ 1) ∧ (-1 ≤ m.2.2.1 ∧ m.2.2.1 ≤ 1) ∧ (-1 ≤ m.2.2.2 ∧ m.2.2.2 ≤ 1)
 ·exact keep_all f hf _ (mem3 hs.1) _ (mem3 hs.2.1) _ (mem3 hs.2.2.1) _ (mem3 hs.2.2.2)
 ·have e1 : keepS f m = false := by
   cases hk : keepS f m with
   | false => rfl
   | true =>
    unfold keepS at hk
    simp only [Bool.and_eq_true, beq_iff_eq] at hk
    obtain ⟨⟨k1, k2⟩, _⟩ := hk
    have n1 := norm_one h1 h2 k1
    have n2 := norm_one h1 h2 k2
    exact absurd ⟨n1.1, n2.1, n1.2, n2.2⟩ hs
  have e2 : (pmS f).contains m = false := by
   cases hk : (pmS f).contains m with
   | false => rfl
   | true =>
    rw [List.contains_iff_mem] at hk
    have := pm_sm (pmS_mem hk)
    exact absurd ⟨this.a, this.b, this.c, this.d⟩ hs
  rw [e1, e2]
def vecB (v : Vc) : Bool := decide (-1000 ≤ v.1 ∧ v.1 ≤ 1000) && decide (-1000 ≤ v.2 ∧ v.2 ≤ 1000)
theorem vecB_iff {v : Vc} : vecB v = true ↔ (-1000 ≤ v.1 ∧ v.1 ≤ 1000) ∧ (-1000 ≤ v.2 ∧ v.2 ≤ 1000) := by
 unfold vecB
 simp only [Bool.and_eq_true, decide_eq_true_eq]
theorem specIsVec_eq (v : Vc) : f211G KK v = some (vecB v) := by
 unfold f211G vecB
 simp only [in_eq, oB, Bool.or_true, cT]
 by_cases h : -1000 ≤ v.1 ∧ v.1 ≤ 1000 <;> simp [h]
theorem isVec_eq (v : Vc) : f189G KK v = some (vecB v) := by
 unfold f189G f287G vecB
 simp only [within_eq, oB, Bool.or_true, cT]
 by_cases h : -1000 ≤ v.1 ∧ v.1 ≤ 1000 <;> simp [h]
theorem prod_bound {a b B : Int} (hB : 0 ≤ B) (h1 : -B ≤ a ∧ a ≤ B) (h2 : -B ≤ b ∧ b ≤ B) : -(B * B) ≤ a * b ∧ a * b ≤ B * B := by
 have hh : (a * b).natAbs ≤ B.natAbs * B.natAbs := by
  rw [Int.natAbs_mul]
  exact Nat.mul_le_mul (by omega) (by omega)
 have e : ((B.natAbs * B.natAbs : Nat) : Int) = B * B := by
  rw [Int.natCast_mul]
  have : (B.natAbs : Int) = B := by omega
  rw [this]
 omega
theorem specNorm_eq {f : Int} (h1 : 0 ≤ f) (h2 : f ≤ 1) {v : Vc} (hv : (-2000 ≤ v.1 ∧ v.1 ≤ 2000) ∧ (-2000 ≤ v.2 ∧ v.2 ≤ 2000)) : f404G KK f v = some (normS f v) := by
 obtain ⟨a1, a2⟩ := prod_bound (B := 2000) (by omega) hv.1 hv.1
 obtain ⟨b1, b2⟩ := prod_bound (B := 2000) (by omega) hv.2 hv.2
 obtain ⟨c1, c2⟩ := prod_bound (B := 2000) (by omega) hv.1 hv.2
 have hf : f = 0 ∨ f = 1 := by omega
 unfold f404G normS
 rcases hf with rfl | rfl
 ·rw [show (((0 : Int) == 1) = false) from rfl, cF, w_id (n := v.1 * v.1) (by omega) (by omega), w_id (n := v.2 * v.2) (by omega) (by omega), w_id (by omega) (by omega)]
  simp
 ·rw [show (((1 : Int) == 1) = true) from rfl, cT, w_id (n := v.1 * v.1) (by omega) (by omega), w_id (n := v.2 * v.2) (by omega) (by omega), w_id (n := v.1 * v.2) (by omega) (by omega), w_id (n := v.1 * v.1 + v.2 * v.2) (by omega) (by omega), w_id (by omega) (by omega), Int.one_mul]
  congr 1
  omega
theorem l04Keeps_eq {f : Int} (h1 : 0 ≤ f) (h2 : f ≤ 1) {m : Mt} (ha : -1000 ≤ m.1 ∧ m.1 ≤ 1000) (hb : -1000 ≤ m.2.1 ∧ m.2.1 ≤ 1000) (hc : -1000 ≤ m.2.2.1 ∧ m.2.2.1 ≤ 1000) (hd : -1000 ≤ m.2.2.2 ∧ m.2.2.2 ≤ 1000) : f362G KK f m = some (keepS f m) := by
 unfold f362G f340G keepS
 simp only [Bool.or_true, cT]
 rw [specNorm_eq h1 h2 (v := (m.1, m.2.2.1)) ⟨by simp only; omega, by simp only; omega⟩, oB, w_id (n := m.1 + m.2.1) (by omega) (by omega), w_id (n := m.2.2.1 + m.2.2.2) (by omega) (by omega), w_id (n := 2 + f) (by omega) (by omega)]
 cases e1 : (normS f (m.1, m.2.2.1) == 1)
 ·rfl
 ·simp only [cT]
  rw [specNorm_eq h1 h2 (v := (m.2.1, m.2.2.2)) ⟨by simp only; omega, by simp only; omega⟩, oB]
  cases e2 : (normS f (m.2.1, m.2.2.2) == 1)
  ·rfl
  ·simp only [cT, oB]
   rw [specNorm_eq h1 h2 (v := (m.1 + m.2.1, m.2.2.1 + m.2.2.2)) ⟨by simp only; omega, by simp only; omega⟩]
   rfl
def smallB (m : Mt) : Bool := vecB (m.1, m.2.1) && vecB m.2.2
theorem specIsMat_eq (m : Mt) : f361G KK m = some (smallB m && ((detS m == 1) || (detS m == -1))) := by
 unfold f361G f402G f403G smallB
 simp only [specIsVec_eq, oB, Bool.or_true, cT]
 cases h1 : vecB (m.1, m.2.1)
 ·rfl
 ·cases h2 : vecB m.2.2
  ·simp [h2]
  ·rw [vecB_iff] at h1 h2
   obtain ⟨a1, a2⟩ := prod_bound (a := m.1) (b := m.2.2.2) (B := 1000) (by omega) h1.1 h2.2
   obtain ⟨b1, b2⟩ := prod_bound (a := m.2.1) (b := m.2.2.1) (B := 1000) (by omega) h1.2 h2.1
   have e : w ((w (m.1 * m.2.2.2)) - (w (m.2.1 * m.2.2.1))) = detS m := by
    rw [w_id (n := m.1 * m.2.2.2) (by omega) (by omega), w_id (n := m.2.1 * m.2.2.1) (by omega) (by omega), w_id (by omega) (by omega)]
    rfl
   have h2' : vecB m.2.2 = true := vecB_iff.2 h2
   simp only [h2', cT, oB, e, Bool.and_self, Bool.true_and]
   cases h3 : detS m == 1 <;> cases h4 : detS m == -1 <;> simp [h4]
theorem specIsPointMat_eq (f : Int) (m : Mt) : f312G KK f m = some (okF f && (pmS f).contains m) := by
 unfold f312G
 rw [specIsFrame_eq]
 simp only [oB, Bool.or_true, cT]
 cases hf : okF f
 ·rfl
 ·have hf' : 0 ≤ f ∧ f ≤ 1 := by simpa [okF] using hf
  simp only [cT, specIsMat_eq, oB, Bool.true_and]
  cases hm : (smallB m && ((detS m == 1) || (detS m == -1)))
  ·have : (pmS f).contains m = false := by
    cases hk : (pmS f).contains m with
    | false => rfl
    | true =>
     rw [List.contains_iff_mem] at hk
     have h1 := pm_sm (pmS_mem hk)
     have h2 := pm_det (pmS_mem hk)
     obtain ⟨a, b, c, d⟩ := h1
     have h3 : smallB m = true := by
      unfold smallB
      rw [Bool.and_eq_true, vecB_iff, vecB_iff]
      simp only
      omega
     have h4 : ((detS m == 1) || (detS m == -1)) = true := by
      rw [Bool.or_eq_true, beq_iff_eq, beq_iff_eq]
      exact h2
     rw [h3, h4] at hm
     cases hm
   rw [this]
   rfl
  ·have hm' := hm
   unfold smallB at hm'
   rw [Bool.and_eq_true, Bool.and_eq_true, vecB_iff, vecB_iff] at hm'
   obtain ⟨⟨⟨h1, h2⟩, h3, h4⟩, _⟩ := hm'
   simp only [cT]
   rw [l04Keeps_eq hf'.1 hf'.2 h1 h2 h3 h4, oB, keepS_eq hf'.1 hf'.2]
theorem stabS_contains (f : Int) (l : Lt) (m : Mt) : (stabS f l).contains m = ((pmS f).contains m && stayS l m) := by
 rw [Bool.eq_iff_iff, Bool.and_eq_true, List.contains_iff_mem, List.contains_iff_mem]
 unfold stabS
 rw [List.mem_filter]
def suitB (f : Int) (l : Lt) (m : Mo) : Bool := (stabS f l).contains m.1 && vecB m.2
theorem isSuitable_eq (f : Int) (l : Lt) (m : Mo) : f226G KK f l m = some (okF f && okL l && suitB f l m) := by
 unfold f226G
 rw [l04Code_eq]
 simp only [oB, Bool.or_true, cT]
 cases hc : (okF f && okL l)
 ·rfl
 ·rw [Bool.and_eq_true] at hc
  have hl := okL_iff.1 hc.2
  simp only [if_true, show (((0 : Int) == 0) = true) from rfl, cT, specIsPointMat_eq, hc.1, Bool.true_and, oB]
  unfold suitB
  rw [stabS_contains]
  cases hp : (pmS f).contains m.1
  ·rfl
  ·have hp' := hp
   rw [List.contains_iff_mem] at hp'
   have hmm := pmS_mem hp'
   simp only [cT, Bool.true_and]
   rw [l04Image_eq hl (m := m.1) (pm_sm hmm), oB]
   have hst := stay_iff hl hmm
   generalize finR (stI (stI (0, 0, 0) (mulS m.1 (l.1, 0))) (mulS m.1 l.2)) = r at *
   have hr : ((r.1 == l.1) && ((r.2.1 == l.2.1) && (r.2.2 == l.2.2))) = stayS l m.1 := by
    rw [Bool.eq_iff_iff, ← hst]
    simp only [Bool.and_eq_true, beq_iff_eq]
    rw [Prod.ext_iff, Prod.ext_iff]
   rw [hr]
   cases stayS l m.1
   ·rfl
   ·simp only [cT, specIsVec_eq, oB, Bool.true_and]
def cmpL : List Int → List Int → Int
 | a :: r, b :: s => bif a == b then cmpL r s else (if a < b then -1 else 1)
 | _, _ => 0
def ltL : List Int → List Int → Bool
 | a :: r, b :: s => bif a == b then ltL r s else decide (a < b)
 | _, _ => false
theorem cmpL_lt : ∀ (a b : List Int), (decide (cmpL a b ≥ 0)) = !ltL a b
 | [], _ => rfl
 | _ :: _, [] => rfl
 | a :: r, b :: s => by
  have ih := cmpL_lt r s
  by_cases h : a = b
  ·subst h
   simpa [cmpL, ltL] using ih
  ·have h1 : (a == b) = false := by rw [beq_eq_false_iff_ne]; exact h
   simp only [cmpL, ltL, h1, cF]
   by_cases h2 : a < b <;> simp [h2]
theorem cmpL_app : ∀ {a b : List Int} (c d : List Int), a.length = b.length → cmpL (a ++ c) (b ++ d) = if cmpL a b = 0 then cmpL c d else cmpL a b
 | [], [], c, d, _ => by simp [cmpL]
 | a :: r, b :: s, c, d, h => by
  have ih := cmpL_app (a := r) (b := s) c d (by simpa using h)
  by_cases h1 : a = b
  ·subst h1
   simpa [cmpL] using ih
  ·have h2 : (a == b) = false := by rw [beq_eq_false_iff_ne]; exact h1
   simp only [List.cons_append, cmpL, h2, cF]
   by_cases h3 : a < b <;> simp [h3]
theorem ltL_irrefl : ∀ a : List Int, ltL a a = false
 | [] => rfl
 | a :: r => by simp [ltL, ltL_irrefl r]
theorem ltL_trans : ∀ {a b c : List Int}, ltL a b = true → ltL b c = true → ltL a c = true
 | [], _, _, h, _ => by simp [ltL] at h
 | _ :: _, [], _, h, _ => by simp [ltL] at h
 | _ :: _, _ :: _, [], _, h => by simp [ltL] at h
 | a :: r, b :: s, c :: t, h, h' => by
  simp only [ltL] at h h' ⊢
  cases h1 : a == b <;> rw [h1] at h <;> cases h2 : b == c <;> rw [h2] at h' <;> simp only [cT, cF, decide_eq_true_eq] at h h'
  ·have : (a == c) = false := by rw [beq_eq_false_iff_ne]; omega
   rw [this, cF, decide_eq_true_eq]
   omega
  ·have e2 := eq_of_beq h2
   subst e2
   rw [h1, cF, decide_eq_true_eq]
   exact h
  ·have e1 := eq_of_beq h1
   subst e1
   rw [h2, cF, decide_eq_true_eq]
   exact h'
  ·have e1 := eq_of_beq h1
   subst e1
   rw [h2, cT]
   exact ltL_trans h h'
theorem ltL_tri : ∀ {a b : List Int}, a.length = b.length → ltL a b = false → ltL b a = false → a = b
 | [], [], _, _, _ => rfl
 | a :: r, b :: s, hl, h, h' => by
  simp only [ltL] at h h'
  cases h1 : a == b
  ·have h2 : (b == a) = false := by rw [beq_eq_false_iff_ne] at h1 ⊢; exact fun e => h1 e.symm
   rw [h1, cF, decide_eq_false_iff_not] at h
   rw [h2, cF, decide_eq_false_iff_not] at h'
   rw [beq_eq_false_iff_ne] at h1
   omega
  ·have e := eq_of_beq h1
   subst e
   simp only [BEq.rfl, cT] at h h'
   rw [ltL_tri (by simpa using hl) h h']
theorem compareNumbers_loop {a b : List Int} (hl : a.length = b.length) (hn : a.length ≤ 1000) : ∀ n q, q ≤ a.length → a.length - q < n → f332_l2 KK a b n (q : Int) = some (cmpL (a.drop q) (b.drop q))
 | 0, q, _, h => by omega
 | n + 1, q, hq, h => by
  show f332_b2 KK a b (fun v0 => f332_l2 KK a b n v0) (q : Int) = _
  unfold f332_b2
  by_cases hlt : q < a.length
  ·have hlt' : q < b.length := by omega
   rw [in1 hlt, in1 hlt', in0, gd hlt, gd hlt', List.drop_eq_getElem_cons hlt, List.drop_eq_getElem_cons hlt']
   simp only [Bool.and_self, cT, cmpL]
   cases h1 : a[q] == b[q]
   ·have : (a[q] != b[q]) = true := by simp [bne, h1]
    rw [this, cT, cF]
    by_cases h2 : a[q] < b[q] <;> simp [h2]
   ·have : (a[q] != b[q]) = false := by simp [bne, h1]
    rw [this, cF, cT, w_succ (by omega)]
    exact compareNumbers_loop hl hn n (q + 1) hlt (by omega)
  ·have e : q = a.length := by omega
   subst e
   rw [out1, cF, List.drop_length]
   rfl
theorem compareNumbers_eq {a b : List Int} (hl : a.length = b.length) (hn : a.length ≤ 1000) : f332G KK a b = some (cmpL a b) := by
 unfold f332G f332_g
 have := compareNumbers_loop hl hn KK 0 (by omega) (by have := KKlt (n := a.length) (by omega); omega)
 simpa using this
def numV (v : Vc) : List Int := [v.1, v.2]
def numM (m : Mt) : List Int := [m.1, m.2.1, m.2.2.1, m.2.2.2]
def numMo (m : Mo) : List Int := numM m.1 ++ numV m.2
def ltV (u v : Vc) : Bool := ltL (numV u) (numV v)
def ltM (m n : Mo) : Bool := ltL (numMo m) (numMo n)
theorem numMo_inj {m n : Mo} (h : numMo m = numMo n) : m = n := by
 simp only [numMo, numM, numV, List.cons_append, List.nil_append, List.cons.injEq, and_true] at h
 obtain ⟨h1, h2, h3, h4, h5, h6⟩ := h
 exact Prod.ext (Prod.ext h1 (Prod.ext h2 (Prod.ext h3 h4))) (Prod.ext h5 h6)
theorem numV_inj {m n : Vc} (h : numV m = numV n) : m = n := by
 simp only [numV, List.cons.injEq, and_true] at h
 exact Prod.ext h.1 h.2
theorem compareVecs_eq (u v : Vc) : f269G KK u v = some (cmpL (numV u) (numV v)) := by
 unfold f269G
 rw [compareNumbers_eq (by rfl) (by simp)]
 rfl
theorem compareMotions_eq (m n : Mo) : f300G KK m n = some (cmpL (numMo m) (numMo n)) := by
 unfold f300G f349G
 rw [compareNumbers_eq (by rfl) (by simp), compareVecs_eq]
 simp only [oB]
 unfold numMo
 rw [cmpL_app _ _ (by rfl)]
 unfold numM
 generalize cmpL [m.1.1, m.1.2.1, m.1.2.2.1, m.1.2.2.2] [n.1.1, n.1.2.1, n.1.2.2.1, n.1.2.2.2] = c
 by_cases h : c = 0
 ·simp [h]
 ·have : (c != 0) = true := by simp [h]
  rw [this, if_neg h, cT]
theorem l01Less_eq (u v : Vc) : f339G KK u v = some (ltV u v) := by
 unfold f339G
 simp only [Bool.or_true, cT]
 simp only [ltV, numV, ltL]
 congr 1
 by_cases h1 : u.1 < v.1
 ·have : (u.1 == v.1) = false := by rw [beq_eq_false_iff_ne]; omega
  simp [h1, this]
 ·by_cases h2 : u.1 = v.1
  ·by_cases h3 : u.2 = v.2 <;> simp [h2, h3]
  ·have : (u.1 == v.1) = false := by rw [beq_eq_false_iff_ne]; exact h2
   simp [h1, this]
theorem lessList_loop {a b : List Int} (hl : a.length = b.length) (hn : a.length ≤ 1000) : ∀ n q, q ≤ a.length → a.length - q < n → f397_l2 KK a b n (q : Int) = some (ltL (a.drop q) (b.drop q))
 | 0, q, _, h => by omega
 | n + 1, q, hq, h => by
  show f397_b2 KK a b (fun v0 => f397_l2 KK a b n v0) (q : Int) = _
  unfold f397_b2
  simp only [Bool.or_true, cT]
  by_cases hlt : q < a.length
  ·have hlt' : q < b.length := by omega
   rw [in1 hlt, in1 hlt', in0, gd hlt, gd hlt', List.drop_eq_getElem_cons hlt, List.drop_eq_getElem_cons hlt']
   simp only [Bool.and_self, cT, ltL]
   cases h1 : a[q] == b[q]
   ·have : (a[q] != b[q]) = true := by simp [bne, h1]
    rw [this, cT, cF]
   ·have : (a[q] != b[q]) = false := by simp [bne, h1]
    rw [this, cF, cT, w_succ (by omega)]
    exact lessList_loop hl hn n (q + 1) hlt (by omega)
  ·have e : q = a.length := by omega
   subst e
   rw [out1, cF, List.drop_length, hl]
   simp [ltL]
theorem l05Less_eq (m n : Mo) : f304G KK m n = some (ltM m n) := by
 unfold f304G f350G f398G f397G f397_g
 simp only [oB]
 have h1 := lessList_loop (a := numM m.1) (b := numM n.1) rfl (by simp [numM]) KK 0 (by omega) (by have := KKlt (n := 4) (by omega); simp [numM]; omega)
 have h1' : f397_l2 KK [m.1.1, m.1.2.1, m.1.2.2.1, m.1.2.2.2] [n.1.1, n.1.2.1, n.1.2.2.1, n.1.2.2.2] KK 0 = some (ltL (numM m.1) (numM n.1)) := h1
 rw [h1', l01Less_eq]
 simp only [oB]
 unfold ltM numMo ltV numM
 cases e1 : m.1.1 == n.1.1 <;> cases e2 : m.1.2.1 == n.1.2.1 <;> cases e3 : m.1.2.2.1 == n.1.2.2.1 <;> cases e4 : m.1.2.2.2 == n.1.2.2.2 <;> simp [ltL, e1, e2, e3, e4]
end Go.Proofs.YtfccacobkcglcaaGreat.X
namespace Go.Proofs.YtfccacobkcglcaaGreat.X
open Go
set_option linter.unusedVariables false
def cellB (l : Lt) (v : Vc) : Bool := decide (0 ≤ v.1 ∧ v.1 ≤ l.1 - 1) && decide (0 ≤ v.2 ∧ v.2 ≤ l.2.2 - 1)
theorem cellB_iff {l : Lt} {v : Vc} : cellB l v = true ↔ (0 ≤ v.1 ∧ v.1 ≤ l.1 - 1) ∧ (0 ≤ v.2 ∧ v.2 ≤ l.2.2 - 1) := by
 unfold cellB
 simp only [Bool.and_eq_true, decide_eq_true_eq]
theorem redS_cell {l : Lt} (hl : IsL l) {v : Vc} (h : cellB l v = true) : redS l v = v := by
 obtain ⟨⟨h1, h2⟩, h3, h4⟩ := cellB_iff.1 h
 unfold redS
 have e1 : v.2 / l.2.2 = 0 := Int.ediv_eq_zero_of_lt h3 (by omega)
 have e2 : v.2 % l.2.2 = v.2 := Int.emod_eq_of_lt h3 (by omega)
 rw [e1, e2, Int.zero_mul, Int.sub_zero, Int.emod_eq_of_lt h1 (by omega)]
theorem redS_isCell {l : Lt} (hl : IsL l) (v : Vc) : cellB l (redS l v) = true := by
 obtain ⟨h1, h2, h3, h4⟩ := redS_bounds hl v
 rw [cellB_iff]; omega
theorem cell_bounds {l : Lt} (hl : IsL l) {v : Vc} (h : cellB l v = true) : 0 ≤ v.1 ∧ v.1 ≤ 63 ∧ 0 ≤ v.2 ∧ v.2 ≤ 63 := by
 obtain ⟨⟨h1, h2⟩, h3, h4⟩ := cellB_iff.1 h
 have := hl.a2
 have := hl.c2
 omega
theorem cellB_Sv {l : Lt} (hl : IsL l) {v : Vc} (h : cellB l v = true) : Sv v := by
 have := cell_bounds hl h
 simp only [Sv]; omega
theorem cellB_vec {l : Lt} (hl : IsL l) {v : Vc} (h : cellB l v = true) : vecB v = true := by
 have := cell_bounds hl h
 rw [vecB_iff]; omega
theorem redS_same {l : Lt} (hl : IsL l) (v : Vc) : ((redS l v).1 == v.1 && (redS l v).2 == v.2) = cellB l v := by
 cases h : cellB l v with
 | true => rw [redS_cell hl h]; simp
 | false =>
  cases h2 : ((redS l v).1 == v.1 && (redS l v).2 == v.2) with
  | false => rfl
  | true =>
   rw [Bool.and_eq_true, beq_iff_eq, beq_iff_eq] at h2
   have : redS l v = v := Prod.ext h2.1 h2.2
   have h3 := redS_isCell hl v
   rw [this, h] at h3
   cases h3
theorem reduce_same {l : Lt} (hl : IsL l) (v : Vc) : ∃ r, f161G KK l v = some r ∧ (r.1 == v.1 && r.2 == v.2) = cellB l v := by
 cases h : cellB l v with
 | true => exact ⟨_, reduce_eq hl (Sv_Sm (cellB_Sv hl h)), by rw [redS_cell hl h]; simp⟩
 | false =>
  unfold f161G
  have h0 : (l.2.2 != 0) = true := by have := hl.c1; simp; omega
  rw [mod_eq hl.c1 (by have := hl.c2; omega)]
  simp only [oB, h0, cT]
  rw [mod_eq hl.a1 (by have := hl.a2; omega)]
  refine ⟨_, rfl, ?_⟩
  cases h2 : ((w (v.1 - w (w ((w (v.2 - v.2 % l.2.2)).tdiv l.2.2) * l.2.1))) % l.1 == v.1 && v.2 % l.2.2 == v.2) with
  | false => rfl
  | true =>
   rw [Bool.and_eq_true, beq_iff_eq, beq_iff_eq] at h2
   have hc := hl.c1
   have ha := hl.a1
   have b1 := Int.emod_nonneg (w (v.1 - w (w ((w (v.2 - v.2 % l.2.2)).tdiv l.2.2) * l.2.1))) (show l.1 ≠ 0 by omega)
   have b2 := Int.emod_lt_of_pos (w (v.1 - w (w ((w (v.2 - v.2 % l.2.2)).tdiv l.2.2) * l.2.1))) (show 0 < l.1 by omega)
   have b3 := Int.emod_nonneg v.2 (show l.2.2 ≠ 0 by omega)
   have b4 := Int.emod_lt_of_pos v.2 (show 0 < l.2.2 by omega)
   rw [h2.1] at b1 b2
   rw [h2.2] at b3 b4
   have : cellB l v = true := by rw [cellB_iff]; omega
   rw [h] at this
   cases this
theorem idxS_any {α : Type} (p : α → Bool) : ∀ (l : List α) (q : Nat), decide (idxS p q l ≥ 0) = l.any p
 | [], _ => rfl
 | a :: l, q => by
  have ih := idxS_any p l (q + 1)
  cases h : p a with
  | false => simpa [idxS, h] using ih
  | true => simp [idxS, h]
theorem eqMt (m n : Mt) : ((m.1 == n.1) && ((m.2.1 == n.2.1) && ((m.2.2.1 == n.2.2.1) && (m.2.2.2 == n.2.2.2)))) = (m == n) := by
 rw [Bool.eq_iff_iff]
 simp only [Bool.and_eq_true, beq_iff_eq, Prod.ext_iff]
theorem eqMo (m n : Mo) : ((m.1.1 == n.1.1) && ((m.1.2.1 == n.1.2.1) && ((m.1.2.2.1 == n.1.2.2.1) && ((m.1.2.2.2 == n.1.2.2.2) && ((m.2.1 == n.2.1) && (m.2.2 == n.2.2)))))) = (m == n) := by
 rw [Bool.eq_iff_iff]
 simp only [Bool.and_eq_true, beq_iff_eq, Prod.ext_iff, and_assoc]
theorem containsMat_eq {l : List Mt} (hn : l.length ≤ 1000) (m : Mt) : f310G KK l m = some (l.contains m) := by
 have hidx : f355G KK l m = some (idxS (fun a => m == a) 0 l) := by
  have h := iter_idx (R := Int) (body := fun L x => f355_b2 KK l m (fun v0 => L v0) x) l (fun a => m == a) some
   (fun L q hq => by
    unfold f355_b2
    rw [in1 hq, in0, gd hq]
    simp only [Bool.and_self, cT]
    rw [eqMt, w_succ (by omega)])
   (fun L => by
    unfold f355_b2
    rw [out1, cF]) KK 0 (by omega) (by have := KKlt (n := l.length) (by omega); omega)
  unfold f355G f355_g f355_l2
  exact h
 unfold f310G
 rw [hidx, oB, idxS_any]
 congr 1
 rw [List.contains_eq_any_beq]
theorem mfind_mput {K : Sh} (hK : K.flat = true) {β : Type} : ∀ (xs : List (K.T × β)) (k x : K.T) (v : β), mfind (eqSh K) (mput (eqSh K) xs k v) x = bif eqSh K x k then some v else mfind (eqSh K) xs x
 | [], k, x, v => by simp [mput, mfind]
 | p :: r, k, x, v => by
  simp only [mput]
  cases h : eqSh K k p.1
  ·simp only [cF, mfind]
   rw [mfind_mput hK r k x v]
   cases h1 : eqSh K x p.1
   ·simp
   ·have e1 := (eqSh_iff K hK _ _).1 h1
    cases h2 : eqSh K x k
    ·simp
    ·have e2 := (eqSh_iff K hK _ _).1 h2
     have : eqSh K k p.1 = true := (eqSh_iff K hK _ _).2 (e2.symm.trans e1)
     rw [h] at this
     cases this
  ·have e := (eqSh_iff K hK _ _).1 h
   simp only [cT, mfind, ← e]
   cases eqSh K x k <;> rfl
theorem mfind_fold {K : Sh} (hK : K.flat = true) [DecidableEq K.T] : ∀ (l : List K.T) (xs : List (K.T × Bool)) (x : K.T), (mfind (eqSh K) (l.foldl (fun s a => mput (eqSh K) s a true) xs) x).getD false = (decide (x ∈ l) || (mfind (eqSh K) xs x).getD false)
 | [], xs, x => by simp
 | a :: l, xs, x => by
  rw [List.foldl_cons, mfind_fold hK l, mfind_mput hK]
  cases h : eqSh K x a
  ·have : x ≠ a := fun e => by rw [(eqSh_iff K hK x a).2 e] at h; cases h
   simp [this]
  ·have := (eqSh_iff K hK x a).1 h
   simp [this]
abbrev shMo : Sh := .cons (.cons (.int .i64) (.cons (.int .i64) (.cons (.int .i64) (.int .i64)))) (.cons (.int .i64) (.int .i64))
def mapMo (g : List Mo) : List (Mo × Bool) := g.foldl (fun s a => mput (eqSh shMo) s a true) []
theorem mapMo_find (g : List Mo) (x : Mo) : (mfind (eqSh shMo) (mapMo g) x).getD false = g.contains x := by
 have h := mfind_fold (K := shMo) rfl g [] x
 refine Eq.trans h ?_
 simp [mfind, List.contains_eq_mem]
def mmS (m n : Mt) : Mt := (m.1 * n.1 + m.2.1 * n.2.2.1, m.1 * n.2.1 + m.2.1 * n.2.2.2, m.2.2.1 * n.1 + m.2.2.2 * n.2.2.1, m.2.2.1 * n.2.1 + m.2.2.2 * n.2.2.2)
def mulG (l : Lt) (m n : Mo) : Mo := (mmS m.1 n.1, redS l (appS m n.2))
theorem mm_calc {m n : Mt} (hm : SmM m) (hn : SmM n) : ((w ((w (m.1 * n.1)) + (w (m.2.1 * n.2.2.1)))), (w ((w (m.1 * n.2.1)) + (w (m.2.1 * n.2.2.2)))), (w ((w (m.2.2.1 * n.1)) + (w (m.2.2.2 * n.2.2.1)))), (w ((w (m.2.2.1 * n.2.1)) + (w (m.2.2.2 * n.2.2.2))))) = mmS m n := by
 obtain ⟨a, b, c, d⟩ := hm
 obtain ⟨a', b', c', d'⟩ := hn
 have h : ∀ {x y : Int}, (-1 ≤ x ∧ x ≤ 1) → (-1 ≤ y ∧ y ≤ 1) → -1 ≤ x * y ∧ x * y ≤ 1 := fun {x y} hx hy => by
  have := unit_mul hx (B := 1) (x := y) (by omega) (by omega) (by omega)
  omega
 have h1 := h a a'; have h2 := h b c'; have h3 := h a b'; have h4 := h b d'; have h5 := h c a'; have h6 := h d c'; have h7 := h c b'; have h8 := h d d'
 unfold mmS
 rw [w_id (n := m.1 * n.1) (by omega) (by omega), w_id (n := m.2.1 * n.2.2.1) (by omega) (by omega), w_id (n := m.1 * n.2.1) (by omega) (by omega), w_id (n := m.2.1 * n.2.2.2) (by omega) (by omega), w_id (n := m.2.2.1 * n.1) (by omega) (by omega), w_id (n := m.2.2.2 * n.2.2.1) (by omega) (by omega), w_id (n := m.2.2.1 * n.2.1) (by omega) (by omega), w_id (n := m.2.2.2 * n.2.2.2) (by omega) (by omega)]
 rw [w_id (n := m.1 * n.1 + m.2.1 * n.2.2.1) (by omega) (by omega), w_id (n := m.1 * n.2.1 + m.2.1 * n.2.2.2) (by omega) (by omega), w_id (n := m.2.2.1 * n.1 + m.2.2.2 * n.2.2.1) (by omega) (by omega), w_id (n := m.2.2.1 * n.2.1 + m.2.2.2 * n.2.2.2) (by omega) (by omega)]
def GoodG (m : Mo) : Prop := m.1 ∈ pmQ ++ pmH ∧ Sv m.2
theorem app_calc {m : Mt × Vc} (hm : SmM m.1) {v : Vc} (hv : Sv v) (ht : Sv m.2) : (w ((mulS m.1 v).1 + m.2.1), w ((mulS m.1 v).2 + m.2.2)) = appS m v := by
 obtain ⟨h1, h2, h3, h4⟩ := mulS_bound hm hv
 obtain ⟨t1, t2, t3, t4⟩ := ht
 unfold appS
 rw [w_id (by omega) (by omega), w_id (by omega) (by omega)]
theorem times_eq {m n : Mo} (hm : GoodG m) (hn : GoodG n) : f298G KK m n = some (mmS m.1 n.1, appS m n.2) := by
 unfold f298G f347G f289G
 simp only [oB]
 rw [mm_calc (pm_sm hm.1) (pm_sm hn.1), matApply_eq (pm_sm hm.1) hn.2]
 simp only [oB]
 rw [app_calc (pm_sm hm.1) hn.2 hm.2]
theorem compose_eq {m n : Mo} (hm : GoodG m) (hn : GoodG n) : f307G KK m n = some (mmS m.1 n.1, appS m n.2) := by
 unfold f307G f351G f340G
 simp only [oB]
 rw [mm_calc (pm_sm hm.1) (pm_sm hn.1), l02Apply_eq (pm_sm hm.1) hn.2]
 simp only [oB]
 rw [app_calc (pm_sm hm.1) hn.2 hm.2]
theorem reduceMotion_eq {l : Lt} (hl : IsL l) {m : Mo} (hm : Sm m.2) : f297G KK l m = some (m.1, redS l m.2) := by
 unfold f297G
 rw [reduce_eq hl hm]
 rfl
theorem l06Reduce_eq {l : Lt} (hl : IsL l) {m : Mo} (hm : Sm m.2) : f303G KK l m = some (m.1, redS l m.2) := by
 unfold f303G
 rw [l03Reduce_eq hl hm]
 rfl
def dMo : Mo := ((0, 0, 0, 0), 0, 0)
def uMo : Mo := ((1, 0, 0, 1), 0, 0)
def preP (f : Int) (l : Lt) (g : List Mo) (q : Nat) (a : Mo) : Bool := (stabS f l).contains a.1 && (cellB l a.2 && (Nat.beq q 0 || ltM (g.getD (q - 1) dMo) a))
def grpB (f : Int) (l : Lt) (g : List Mo) : Bool := allFrom (preP f l g) 0 g && (g.contains uMo && g.all fun m => g.all fun n => g.contains (mulG l m n))
structure Pre (f : Int) (l : Lt) (g : List Mo) : Prop where
 mem : ∀ m ∈ g, m.1 ∈ stabS f l ∧ cellB l m.2 = true
 up : ∀ i (h : i + 1 < g.length), ltM g[i] g[i + 1] = true
theorem pre_of {f : Int} {l : Lt} {g : List Mo} (h : allFrom (preP f l g) 0 g = true) : Pre f l g := by
 have hg := allFrom_get h
 refine ⟨fun m hm => ?_, fun i hi => ?_⟩
 ·obtain ⟨i, hi, rfl⟩ := List.getElem_of_mem hm
  have := hg i hi
  unfold preP at this
  rw [Bool.and_eq_true, Bool.and_eq_true, List.contains_iff_mem] at this
  exact ⟨this.1, this.2.1⟩
 ·have := hg (i + 1) hi
  unfold preP at this
  rw [Bool.and_eq_true, Bool.and_eq_true, Bool.or_eq_true] at this
  rcases this.2.2 with h1 | h1
  ·have := Nat.eq_of_beq_eq_true h1; omega
  ·have e : (0 + (i + 1) - 1) = i := by omega
   rw [e] at h1
   simpa [List.getD, show i < g.length by omega] using h1
theorem Pre.lt {f : Int} {l : Lt} {g : List Mo} (h : Pre f l g) : ∀ (j i : Nat) (hj : j < g.length) (hi : i < j), ltM g[i] g[j] = true
 | 0, i, hj, hi => by omega
 | j + 1, i, hj, hi => by
  by_cases e : i = j
  ·subst e; exact h.up i hj
  ·exact ltL_trans (h.lt j i (by omega) (by omega)) (h.up j hj)
theorem Pre.good {f : Int} {l : Lt} (hl : IsL l) {g : List Mo} (h : Pre f l g) {m : Mo} (hm : m ∈ g) : GoodG m := ⟨stab_mem (h.mem m hm).1, cellB_Sv hl (h.mem m hm).2⟩
theorem Pre.nodup {f : Int} {l : Lt} {g : List Mo} (h : Pre f l g) : g.Nodup := by
 rw [List.Nodup, List.pairwise_iff_getElem]
 intro i j hi hj hij e
 have := h.lt j i hj hij
 rw [e] at this
 unfold ltM at this
 rw [ltL_irrefl] at this
 cases this
theorem nodup_len {α : Type} [DecidableEq α] : ∀ (l m : List α), l.Nodup → (∀ x ∈ l, x ∈ m) → l.length ≤ m.length
 | [], m, _, _ => Nat.zero_le _
 | a :: l, m, hn, h => by
  have ha := h a (by simp)
  rw [List.nodup_cons] at hn
  have := nodup_len l (m.erase a) hn.2 fun x hx => by
   have hne : x ≠ a := fun e => hn.1 (e ▸ hx)
   exact (List.mem_erase_of_ne hne).2 (h x (by simp [hx]))
  rw [List.length_erase_of_mem ha] at this
  have := List.length_pos_of_mem ha
  simp only [List.length_cons]
  omega
theorem cellB_mem {l : Lt} (hl : IsL l) {v : Vc} (h : cellB l v = true) : v ∈ cellsS l := by
 obtain ⟨⟨h1, h2⟩, h3, h4⟩ := cellB_iff.1 h
 have := hl.a1
 have := hl.c1
 unfold cellsS rowS
 rw [List.mem_flatMap]
 refine ⟨v.1.toNat, List.mem_range.2 (by omega), List.mem_map.2 ⟨v.2.toNat, List.mem_range.2 (by omega), Prod.ext ?_ ?_⟩⟩ <;> simp only <;> omega
theorem Pre.len {f : Int} {l : Lt} (hl : IsL l) {g : List Mo} (h : Pre f l g) : g.length ≤ 768 := by
 have := nodup_len g ((stabS f l).flatMap fun m => (cellsS l).map fun v => (m, v)) h.nodup fun x hx => by
  obtain ⟨h1, h2⟩ := h.mem x hx
  exact List.mem_flatMap.2 ⟨x.1, h1, List.mem_map.2 ⟨x.2, cellB_mem hl h2, rfl⟩⟩
 have h2 := flatMap_len (fun m : Mt => (cellsS l).map fun v : Vc => (m, v)) 64 (fun m => by rw [List.length_map]; exact cellsS_le hl) (stabS f l)
 have h3 := stab_len f l
 have : (stabS f l).length * 64 ≤ 12 * 64 := Nat.mul_le_mul_right _ h3
 omega
end Go.Proofs.YtfccacobkcglcaaGreat.X
namespace Go.Proofs.YtfccacobkcglcaaGreat.X
open Go
set_option linter.unusedVariables false
theorem frameCode_eq (f : Int) (l : Lt) : f223G KK f l = some (if okF f && okL l then 0 else 1) := by
 unfold f223G
 rw [isFrame_eq, isLattice_eq]
 cases okF f <;> cases h : okL l <;> rfl
theorem getP {g : List Mo} {q : Nat} (hq : q + 1 < 4611686018427387904) (d : Mo) : g.getD ((0 : Int) + (w ((((q + 1 : Nat)) : Int) - (1 : Int)))).toNat d = g.getD q d := by
 rw [w_id (by omega) (by omega)]
 congr 1
 omega
theorem inP {g : List Mo} {q : Nat} (hq : q + 1 < g.length) (h2 : q + 1 < 4611686018427387904) : (decide (0 ≤ (w (((q + 1 : Nat) : Int) - (1 : Int)))) && decide ((w (((q + 1 : Nat) : Int) - (1 : Int))) < (g.length : Int))) = true := by
 rw [w_id (by omega) (by omega), Bool.and_eq_true, decide_eq_true_eq, decide_eq_true_eq]
 omega
theorem grp_body {f : Int} {l : Lt} (hl : IsL l) {g : List Mo} (hn : g.length ≤ 1048576) {I : Int → List (Mo × Bool) → List Mt → Mt → Int → Option Bool} {L : Int → List (Mo × Bool) → Option Bool} {q : Nat} (hq : q < g.length) (s : List (Mo × Bool)) :
  f325_b6 KK f l g (stabS f l) I L (q : Int) s = bif preP f l g q g[q] then L ((q + 1 : Nat) : Int) (mput (eqSh shMo) s g[q] true) else some false := by
 obtain ⟨r, hr, hrc⟩ := reduce_same hl g[q].2
 unfold f325_b6
 rw [in1 hq]
 simp only [cT, in0, Bool.and_self, Bool.or_true, gd hq]
 rw [containsMat_eq (by have := stab_len f l; omega), oB]
 unfold preP
 cases h1 : (stabS f l).contains g[q].1
 ·rfl
 ·simp only [Bool.not_true, Bool.not_false, cT, cF, oB, Bool.true_and, hr, hrc]
  cases h2 : cellB l g[q].2
  ·simp only [Bool.not_false, Bool.not_true, Bool.false_and, Bool.true_or, cT, cF, oB]
  ·simp only [Bool.not_false, Bool.not_true, Bool.true_and]
   cases q with
   | zero =>
    have : decide (((0 : Nat) : Int) > 0) = false := by simp
    simp only [this, Bool.not_false, Bool.true_or, cT, cF, oB]
    rfl
   | succ q =>
    have h3 : decide (((q + 1 : Nat) : Int) > 0) = true := by simp
    simp only [h3, Bool.not_true, Bool.false_or, cT, cF, inP hq (by omega), getP (g := g) (q := q) (by omega)]
    rw [compareMotions_eq, oB, cmpL_lt, w_succ (by omega)]
    have e : (q + 1 - 1) = q := rfl
    rw [e]
    have e2 : Nat.beq (q + 1) 0 = false := rfl
    rw [e2, Bool.false_or]
    unfold ltM dMo
    cases ltL (numMo (g.getD q ((0, 0, 0, 0), 0, 0))) (numMo g[q + 1]) <;> rfl
theorem etaMo (m : Mo) : ((m.1.1, m.1.2.1, m.1.2.2), m.2) = m := rfl
theorem suit_cell {f : Int} {l : Lt} (hl : IsL l) (m : Mo) : (suitB f l m && cellB l m.2) = ((stabS f l).contains m.1 && cellB l m.2) := by
 unfold suitB
 cases h : cellB l m.2 with
 | false => simp
 | true => rw [cellB_vec hl h]; simp
theorem spec_body {f : Int} {l : Lt} (hf : okF f = true) (hl : IsL l) {g : List Mo} (hn : g.length ≤ 1048576) {c : Int} {I : Int → Int → Bool → Int → Option Bool} {L : Int → Option Bool} {q : Nat} (hq : q < g.length) :
  f219_b6 KK f l g c I L (q : Int) = bif preP f l g q g[q] then L ((q + 1 : Nat) : Int) else some false := by
 have hsc := suit_cell (f := f) hl g[q]
 have hp : preP f l g q g[q] = (suitB f l g[q] && (cellB l g[q].2 && (Nat.beq q 0 || ltM (g.getD (q - 1) dMo) g[q]))) := by
  unfold preP
  rw [← Bool.and_assoc, ← Bool.and_assoc, hsc]
 rw [hp]
 unfold f219_b6
 rw [in1 hq]
 simp only [cT, in0, Bool.and_self, Bool.or_true, gd hq]
 rw [isSuitable_eq, oB, hf, okL_iff.2 hl, etaMo]
 simp only [Bool.true_and, Bool.or_true, cT]
 cases h1 : suitB f l g[q]
 ·rfl
 ·have hv : vecB g[q].2 = true := by
   unfold suitB at h1
   rw [Bool.and_eq_true] at h1
   exact h1.2
  have hS : Sm g[q].2 := by
   rw [vecB_iff] at hv
   simp only [Sm]
   omega
  simp only [Bool.not_true, Bool.not_false, cT, cF]
  rw [l06Reduce_eq hl (m := g[q]) hS, oB]
  have hc := redS_same hl g[q].2
  simp only [beq_self_eq_true, Bool.true_and, hc]
  cases h2 : cellB l g[q].2
  ·simp only [Bool.not_false, Bool.not_true, Bool.false_and, Bool.true_or, Bool.or_true, cT, cF, oB]
  ·simp only [Bool.not_false, Bool.not_true, Bool.true_and, Bool.or_true, cT]
   cases q with
   | zero =>
    have : decide (((0 : Nat) : Int) > 0) = false := by simp
    simp only [this, Bool.not_false, Bool.true_or, cT, cF, oB]
    rfl
   | succ q =>
    have h3 : decide (((q + 1 : Nat) : Int) > 0) = true := by simp
    simp only [h3, Bool.not_true, Bool.false_or, cT, cF, inP hq (by omega), getP (g := g) (q := q) (by omega)]
    rw [l05Less_eq, oB, w_succ (by omega)]
    have e : (q + 1 - 1) = q := rfl
    rw [e]
    have e2 : Nat.beq (q + 1) 0 = false := rfl
    rw [e2, Bool.false_or]
    unfold dMo
    cases ltM (g.getD q ((0, 0, 0, 0), 0, 0)) g[q + 1] <;> rfl
theorem place_loop {f : Int} {l : Lt} {g : List Mo} (hp : Pre f l g) (hn : g.length ≤ 1048576) (m : Mo) : ∀ (n lo hi : Nat), lo ≤ hi → hi ≤ g.length → hi - lo < n → (∀ i (h : i < g.length), i < lo → ltM g[i] m = true) → (∀ i (h : i < g.length), hi ≤ i → ltM g[i] m = false) →
  ∃ p : Nat, f328_l6 KK g m n (lo : Int) (hi : Int) = some (p : Int) ∧ p ≤ g.length ∧ (∀ i (h : i < g.length), i < p → ltM g[i] m = true) ∧ (∀ i (h : i < g.length), p ≤ i → ltM g[i] m = false)
 | 0, lo, hi, _, _, h, _, _ => by omega
 | n + 1, lo, hi, hle, hhi, hd, h1, h2 => by
  show ∃ p : Nat, f328_b6 KK g m (fun v0 v1 => f328_l6 KK g m n v0 v1) (lo : Int) (hi : Int) = _ ∧ _
  unfold f328_b6
  by_cases hlt : lo < hi
  ·have e1 : w ((w ((lo : Int) + (hi : Int))).tdiv 2) = ((((lo + hi) / 2 : Nat)) : Int) := by
    rw [w_id (n := (lo : Int) + (hi : Int)) (by omega) (by omega)]
    have : ((lo : Int) + (hi : Int)).tdiv 2 = (((lo + hi) / 2 : Nat) : Int) := by
     rw [Int.tdiv_eq_ediv_of_nonneg (by omega)]
     omega
    rw [this, w_id (by omega) (by omega)]
   have hmid : (lo + hi) / 2 < g.length := by omega
   rw [in1 hlt, e1, in0, in1 hmid, gd hmid]
   simp only [Bool.and_self, cT]
   rw [l05Less_eq, oB, w_succ (by omega)]
   cases hc : ltM g[(lo + hi) / 2] m
   ·rw [cF]
    refine place_loop hp hn m n lo ((lo + hi) / 2) (by omega) (by omega) (by omega) h1 fun i hi' hle' => ?_
    by_cases e : i = (lo + hi) / 2
    ·subst e; exact hc
    ·cases hx : ltM g[i] m with
     | false => rfl
     | true =>
      have := ltL_trans (hp.lt i ((lo + hi) / 2) hi' (by omega)) hx
      exact absurd (hc.symm.trans this) (by simp)
   ·rw [cT]
    refine place_loop hp hn m n ((lo + hi) / 2 + 1) hi (by omega) hhi (by omega) (fun i hi' hle' => ?_) h2
    by_cases e : i = (lo + hi) / 2
    ·subst e; exact hc
    ·exact ltL_trans (hp.lt ((lo + hi) / 2) i hmid (by omega)) hc
  ·have e : lo = hi := by omega
   subst e
   rw [out1, cF]
   exact ⟨lo, rfl, hhi, h1, h2⟩
theorem l06Has_eq {f : Int} {l : Lt} {g : List Mo} (hp : Pre f l g) (hn : g.length ≤ 1048576) (m : Mo) : f305G KK g m = some (g.contains m) := by
 obtain ⟨p, h1, h2, h3, h4⟩ := place_loop hp hn m KK 0 g.length (by omega) (by omega) (by simp only [KK]; omega) (fun i _ h => by omega) (fun i hi h => by omega)
 unfold f305G f328G f328_g
 simp only [show f328_l6 KK g m KK (0 : Int) (g.length : Int) = some (p : Int) from h1, oB, Bool.or_true, cT]
 by_cases hlt : p < g.length
 ·rw [in1 hlt, in0, gd hlt]
  simp only [Bool.not_true, Bool.false_or, Bool.and_self, cT]
  rw [eqMo]
  congr 1
  rw [Bool.eq_iff_iff, beq_iff_eq, List.contains_iff_mem]
  constructor
  ·intro e; rw [← e]; exact gM hlt
  ·intro hm
   obtain ⟨j, hj, e⟩ := List.getElem_of_mem hm
   by_cases hjp : j < p
   ·have := h3 j hj hjp
    rw [e] at this
    unfold ltM at this
    rw [ltL_irrefl] at this
    cases this
   ·by_cases e2 : j = p
    ·subst e2; exact e
    ·have := hp.lt j p hj (by omega)
     rw [e, h4 p hlt (Nat.le_refl _)] at this
     cases this
 ·have hpe : p = g.length := by omega
  subst hpe
  rw [out1]
  simp only [Bool.not_false, Bool.true_or, cT, cF]
  congr 1
  cases hc : g.contains m with
  | false => rfl
  | true =>
   rw [List.contains_iff_mem] at hc
   obtain ⟨j, hj, e⟩ := List.getElem_of_mem hc
   have := h3 j hj hj
   rw [e] at this
   unfold ltM at this
   rw [ltL_irrefl] at this
   cases this
theorem grp_in {f : Int} {l : Lt} (hl : IsL l) {g : List Mo} (hp : Pre f l g) (hn : g.length ≤ 1048576) {c : Int} {ms : List Mt} {L : Int → Option Bool} {x : Nat} (hx : x < g.length) :
  f325_l23 KK f l g c (mapMo g) (x : Int) ms Un L KK 0 = bif g.all fun n => g.contains (mulG l g[x] n) then L ((x + 1 : Nat) : Int) else some false := by
 have h := iter_all (X := Int) (body := fun L23 z => f325_b23 KK f l g c (mapMo g) (x : Int) ms Un L (fun v0 => L23 v0) z) g (fun q => (q : Int)) (fun n => g.contains (mulG l g[x] n)) (some false) (L ((x + 1 : Nat) : Int))
  (fun L23 q hq => by
   have g1 := hp.good hl (gM hx)
   have g2 := hp.good hl (gM hq)
   unfold f325_b23
   rw [in1 hq, in0, gd hx, gd hq]
   simp only [Bool.and_self, cT]
   rw [times_eq g1 g2, oB, reduceMotion_eq hl (m := (mmS g[x].1 g[q].1, appS g[x] g[q].2)) (appS_Sm (pm_sm g1.1) g2.2 g1.2), oB, w_succ (by omega)]
   have := mapMo_find g (mulG l g[x] g[q])
   rw [show (mfind (eqSh shMo) (mapMo g) (mmS g[x].1 g[q].1, redS l (appS g[x] g[q].2))).getD false = g.contains (mulG l g[x] g[q]) from this]
   cases g.contains (mulG l g[x] g[q]) <;> rfl)
  (fun L23 => by
   unfold f325_b23
   rw [out1, cF, w_succ (by omega)]) KK 0 (by omega) (by simp only [KK]; omega)
 unfold f325_l23
 exact h
theorem isGroup_eq {f : Int} {l : Lt} (hf : okF f = true) (hl : IsL l) {g : List Mo} (hn : g.length ≤ 1048576) : f325G KK f l g = some (grpB f l g) := by
 have hf' : 0 ≤ f ∧ f ≤ 1 := by simpa [okF] using hf
 unfold f325G f325_g
 rw [latticeMats_eq hf'.1 hf'.2 hl, oB]
 have h := iter_scan (X := Int × List (Mo × Bool)) (body := fun L6 z => f325_b6 KK f l g (stabS f l) (fun c0 c1 c2 c3 d0 => f325_l21 KK f l g c0 c1 c2 c3 KK d0) (fun v0 v1 => L6 (v0, v1)) z.1 z.2) g (fun q s => ((q : Int), s)) (preP f l g) (fun s a => mput (eqSh shMo) s a true) (some false)
  (fun s => f325_b6 KK f l g (stabS f l) (fun c0 c1 c2 c3 d0 => f325_l21 KK f l g c0 c1 c2 c3 KK d0) (fun _ _ => none) (g.length : Int) s) (fun q s => True)
  (fun L6 q s hq _ => ⟨fun _ => trivial, grp_body hl hn hq s⟩)
  (fun L6 s _ => by
   unfold f325_b6
   rw [out1, cF, cF]) KK 0 [] (by omega) (by simp only [KK]; omega) trivial
 unfold f325_l6
 refine Eq.trans h ?_
 simp only [List.drop_zero]
 unfold grpB
 cases hpre : allFrom (preP f l g) 0 g
 ·rfl
 ·have hp := pre_of hpre
  simp only [cT, Bool.true_and]
  unfold f325_b6 f231G
  rw [out1, cF]
  simp only [oB]
  have h2 := mapMo_find g uMo
  rw [show (mfind (eqSh shMo) (g.foldl (fun s a => mput (eqSh shMo) s a true) []) ((1, 0, 0, 1), 0, 0)).getD false = g.contains uMo from h2]
  cases g.contains uMo
  ·rfl
  ·simp only [Bool.not_true, cF, Bool.true_and]
   have h3 := iter_all (X := Int) (body := fun L21 z => f325_b21 KK f l g (g.length : Int) (mapMo g) (stabS f l) Un (fun c0 d0 => f325_l23 KK f l g (g.length : Int) (mapMo g) c0 (stabS f l) Un (fun v0 => L21 v0) KK d0) (fun v0 => L21 v0) z) g (fun q => (q : Int)) (fun m => g.all fun n => g.contains (mulG l m n)) (some false) (some true)
    (fun L21 q hq => by
     unfold f325_b21
     rw [in1 hq, in0]
     simp only [Bool.and_self, cT]
     exact grp_in hl hp hn hq)
    (fun L21 => by
     unfold f325_b21
     rw [out1, cF]) KK 0 (by omega) (by simp only [KK]; omega)
   unfold f325_l21
   refine Eq.trans h3 ?_
   rw [List.drop_zero]
   cases g.all fun m => g.all fun n => g.contains (mulG l m n) <;> rfl
theorem spec_in {f : Int} {l : Lt} (hl : IsL l) {g : List Mo} (hp : Pre f l g) (hn : g.length ≤ 1048576) {c c' : Int} {b : Bool} {L : Int → Option Bool} {x : Nat} (hx : x < g.length) :
  f219_l25 KK f l g c (x : Int) c' b L KK 0 = bif g.all fun n => g.contains (mulG l g[x] n) then L ((x + 1 : Nat) : Int) else some false := by
 have h := iter_all (X := Int) (body := fun L23 z => f219_b25 KK f l g c (x : Int) c' b L (fun v0 => L23 v0) z) g (fun q => (q : Int)) (fun n => g.contains (mulG l g[x] n)) (some false) (L ((x + 1 : Nat) : Int))
  (fun L23 q hq => by
   have g1 := hp.good hl (gM hx)
   have g2 := hp.good hl (gM hq)
   unfold f219_b25
   rw [in1 hq, in1 hx, in0, in0, gd hx, gd hq]
   simp only [Bool.and_self, cT]
   rw [compose_eq g1 g2, oB, l06Reduce_eq hl (m := (mmS g[x].1 g[q].1, appS g[x] g[q].2)) (appS_Sm (pm_sm g1.1) g2.2 g1.2), oB, l06Has_eq hp hn, oB, w_succ (by omega)]
   rw [show g.contains (mmS g[x].1 g[q].1, redS l (appS g[x] g[q].2)) = g.contains (mulG l g[x] g[q]) from rfl]
   cases g.contains (mulG l g[x] g[q]) <;> rfl)
  (fun L23 => by
   unfold f219_b25
   rw [out1, cF, w_succ (by omega)]) KK 0 (by omega) (by simp only [KK]; omega)
 unfold f219_l25
 exact h
theorem specIsGroup_eq (f : Int) (l : Lt) {g : List Mo} (hn : g.length ≤ 1048576) : f219G KK f l g = some (okF f && okL l && grpB f l g) := by
 unfold f219G f219_g
 rw [l04Code_eq]
 simp only [oB, Bool.or_true, cT]
 cases hc : (okF f && okL l)
 ·rfl
 ·rw [Bool.and_eq_true] at hc
  have hf := hc.1
  have hl := okL_iff.1 hc.2
  have h := iter_scan (X := Int) (S := Unit) (body := fun L6 z => f219_b6 KK f l g 0 (fun c0 c1 c2 d0 => f219_l23 KK f l g c0 c1 c2 KK d0) (fun v0 => L6 v0) z) g (fun q s => (q : Int)) (preP f l g) (fun s a => s) (some false)
   (fun s => f219_b6 KK f l g 0 (fun c0 c1 c2 d0 => f219_l23 KK f l g c0 c1 c2 KK d0) (fun _ => none) (g.length : Int)) (fun q s => True)
   (fun L6 q s hq _ => ⟨fun _ => trivial, spec_body hf hl hn hq⟩)
   (fun L6 s _ => by
    unfold f219_b6
    rw [out1, cF, cF]) KK 0 () (by omega) (by simp only [KK]; omega) trivial
  have hgr : (bif decide ((g.length : Int) > 768) then some false else f219_l6 KK f l g 0 KK 0) = some (grpB f l g) := by
   unfold f219_l6
   rw [show iter (X := Int) (fun L x => (fun L6 => f219_b6 KK f l g 0 (fun c0 c1 c2 d0 => f219_l23 KK f l g c0 c1 c2 KK d0) L6 x) (fun v0 => L v0)) KK 0 = _ from h]
   simp only [List.drop_zero]
   unfold grpB
   cases hpre : allFrom (preP f l g) 0 g
   ·simp only [cF, Bool.false_and]
    cases decide ((g.length : Int) > 768) <;> rfl
   ·have hp := pre_of hpre
    have hle := hp.len hl
    have : decide ((g.length : Int) > 768) = false := by simp; omega
    rw [this]
    simp only [cT, cF, Bool.true_and]
    unfold f219_b6 f306G f233G
    rw [out1, cF]
    simp only [oB]
    rw [l06Has_eq hp hn, oB]
    rw [show g.contains ((1, 0, 0, 1), 0, 0) = g.contains uMo from rfl]
    cases g.contains uMo
    ·rfl
    ·simp only [Bool.not_true, cF, Bool.true_and]
     have h3 := iter_all (X := Int) (body := fun L21 z => f219_b23 KK f l g (g.length : Int) 0 true (fun c0 d0 => f219_l25 KK f l g (g.length : Int) c0 0 true (fun v0 => L21 v0) KK d0) (fun v0 => L21 v0) z) g (fun q => (q : Int)) (fun m => g.all fun n => g.contains (mulG l m n)) (some false) (some true)
      (fun L21 q hq => by
       unfold f219_b23
       rw [in1 hq]
       simp only [cT]
       exact spec_in hl hp hn hq)
      (fun L21 => by
       unfold f219_b23
       rw [out1, cF]) KK 0 (by omega) (by simp only [KK]; omega)
     unfold f219_l23
     refine Eq.trans h3 ?_
     rw [List.drop_zero]
     cases g.all fun m => g.all fun n => g.contains (mulG l m n) <;> rfl
  simp only [if_true, show (((0 : Int) != 0) = false) from rfl, cF, Bool.true_and]
  exact hgr
def codeG (f : Int) (l : Lt) (g : List Mo) : Int := if okF f && okL l then (if grpB f l g then 0 else 2) else 1
theorem groupCode_eq (f : Int) (l : Lt) {g : List Mo} (hn : g.length ≤ 1048576) : f257G KK f l [g] = some (codeG f l g) := by
 unfold f257G f257_g codeG
 rw [frameCode_eq, oB]
 cases hc : (okF f && okL l)
 ·rfl
 ·rw [Bool.and_eq_true] at hc
  simp only [if_true, show (((0 : Int) != 0) = false) from rfl, cF]
  unfold f257_l4
  show f257_b4 KK f l [g] 0 _ (0 : Int) = _
  unfold f257_b4
  simp only [show decide ((0 : Int) < (([g] : List (List Mo)).length : Int)) = true from rfl, show decide ((0 : Int) ≤ 0) = true from rfl, Bool.and_self, cT]
  rw [show ([g] : List (List Mo)).getD ((0 : Int) + 0).toNat [] = g from rfl, isGroup_eq hc.1 (okL_iff.1 hc.2) hn, oB]
  cases grpB f l g
  ·rfl
  ·rfl
theorem l07Code_eq (f : Int) (l : Lt) {g : List Mo} (hn : g.length ≤ 1048576) (b : Bool) : f166G KK f l g b = some (if okF f && okL l then (if b && grpB f l g then 0 else 2) else 1) := by
 unfold f166G f225G
 simp only [Bool.or_true, cT, l04Code_eq, oB]
 cases b
 ·simp only [cF, oB]
  cases okF f && okL l <;> rfl
 ·simp only [cT, specIsGroup_eq f l hn, oB]
  cases okF f && okL l <;> cases grpB f l g <;> rfl
end Go.Proofs.YtfccacobkcglcaaGreat.X
namespace Go.Proofs.YtfccacobkcglcaaGreat.X
open Go
set_option linter.unusedVariables false
def tileP (t : List Vc) (q : Nat) (v : Vc) : Bool := vecB v && (Nat.beq q 0 || ltV (t.getD (q - 1) (0, 0)) v)
def tileB (t : List Vc) : Bool := allFrom (tileP t) 0 t && (decide (1 ≤ t.length) && decide (t.length ≤ 16))
theorem getV {g : List Vc} {q : Nat} (hq : q + 1 < 4611686018427387904) (d : Vc) : g.getD ((0 : Int) + (w ((((q + 1 : Nat)) : Int) - (1 : Int)))).toNat d = g.getD q d := by
 rw [w_id (by omega) (by omega)]
 congr 1
 omega
theorem inV {g : List Vc} {q : Nat} (hq : q + 1 < g.length) (h2 : q + 1 < 4611686018427387904) : (decide (0 ≤ (w (((q + 1 : Nat) : Int) - (1 : Int)))) && decide ((w (((q + 1 : Nat) : Int) - (1 : Int))) < (g.length : Int))) = true := by
 rw [w_id (by omega) (by omega), Bool.and_eq_true, decide_eq_true_eq, decide_eq_true_eq]
 omega
theorem int_ge1 (n : Nat) : decide ((n : Int) ≥ 1) = decide (1 ≤ n) := by
 by_cases h : 1 ≤ n <;> simp <;> omega
theorem int_le16 (n : Nat) : decide ((n : Int) ≤ 16) = decide (n ≤ 16) := by
 by_cases h : n ≤ 16 <;> simp <;> omega
theorem isTile_eq {t : List Vc} (hn : t.length ≤ 1048576) : f281G KK t = some (tileB t) := by
 have h := iter_scan (X := Int) (S := Unit) (body := fun L4 z => f281_b4 KK t (fun v0 => L4 v0) z) t (fun q s => (q : Int)) (tileP t) (fun s a => s) (some false)
  (fun s => some (decide (1 ≤ t.length) && decide (t.length ≤ 16))) (fun q s => True)
  (fun L4 q s hq _ => ⟨fun _ => trivial, by
   unfold f281_b4 tileP
   rw [in1 hq]
   simp only [cT, in0, Bool.and_self, Bool.or_true, gd hq, isVec_eq, oB]
   cases h1 : vecB t[q]
   ·rfl
   ·simp only [Bool.not_true, Bool.not_false, Bool.true_and]
    cases q with
    | zero =>
     have : decide (((0 : Nat) : Int) > 0) = false := by simp
     simp only [this, Bool.not_false, Bool.true_or, cT, cF, oB]
     rfl
    | succ q =>
     have h3 : decide (((q + 1 : Nat) : Int) > 0) = true := by simp
     simp only [h3, Bool.not_true, Bool.false_or, cT, cF, inV hq (by omega), getV (g := t) (q := q) (by omega)]
     rw [compareVecs_eq, oB, cmpL_lt, w_succ (by omega)]
     have e : (q + 1 - 1) = q := rfl
     have e2 : Nat.beq (q + 1) 0 = false := rfl
     rw [e, e2, Bool.false_or]
     unfold ltV
     cases ltL (numV (t.getD q (0, 0))) (numV t[q + 1]) <;> rfl⟩)
  (fun L4 s _ => by
   unfold f281_b4
   rw [out1]
   simp only [cF, Bool.or_true, cT, int_ge1, int_le16]
   cases decide (1 ≤ t.length) <;> rfl) KK 0 () (by omega) (by simp only [KK]; omega) trivial
 unfold f281G f281_g f281_l4 tileB
 refine Eq.trans h ?_
 rw [List.drop_zero]
 cases allFrom (tileP t) 0 t <;> rfl
theorem specIsTile_eq {t : List Vc} (hn : t.length ≤ 1048576) : f282G KK t = some (tileB t) := by
 have h := iter_scan (X := Int) (S := Unit) (body := fun L4 z => f282_b4 KK t (fun v0 => L4 v0) z) t (fun q s => (q : Int)) (tileP t) (fun s a => s) (some false)
  (fun s => some (decide (1 ≤ t.length) && decide (t.length ≤ 16))) (fun q s => True)
  (fun L4 q s hq _ => ⟨fun _ => trivial, by
   unfold f282_b4 tileP
   rw [in1 hq]
   simp only [cT, in0, Bool.and_self, Bool.or_true, gd hq, specIsVec_eq, oB]
   cases h1 : vecB t[q]
   ·rfl
   ·simp only [Bool.not_true, Bool.not_false, Bool.true_and]
    cases q with
    | zero =>
     have : decide (((0 : Nat) : Int) > 0) = false := by simp
     simp only [this, Bool.not_false, Bool.true_or, cT, cF, oB]
     rfl
    | succ q =>
     have h3 : decide (((q + 1 : Nat) : Int) > 0) = true := by simp
     simp only [h3, Bool.not_true, Bool.false_or, cT, cF, inV hq (by omega), getV (g := t) (q := q) (by omega)]
     rw [l01Less_eq, oB, w_succ (by omega)]
     have e : (q + 1 - 1) = q := rfl
     have e2 : Nat.beq (q + 1) 0 = false := rfl
     rw [e, e2, Bool.false_or]
     cases ltV (t.getD q (0, 0)) t[q + 1] <;> rfl⟩)
  (fun L4 s _ => by
   unfold f282_b4
   rw [out1]
   simp only [cF, Bool.or_true, cT, int_ge1, int_le16]
   cases decide (1 ≤ t.length) <;> rfl) KK 0 () (by omega) (by simp only [KK]; omega) trivial
 unfold f282G f282_g f282_l4 tileB
 refine Eq.trans h ?_
 rw [List.drop_zero]
 cases allFrom (tileP t) 0 t <;> rfl
theorem tile_of {t : List Vc} (h : tileB t = true) : (∀ v ∈ t, vecB v = true) ∧ 1 ≤ t.length ∧ t.length ≤ 16 := by
 unfold tileB at h
 rw [Bool.and_eq_true, Bool.and_eq_true, decide_eq_true_eq, decide_eq_true_eq] at h
 refine ⟨fun v hv => ?_, h.2⟩
 obtain ⟨i, hi, rfl⟩ := List.getElem_of_mem hv
 have := allFrom_get h.1 i hi
 unfold tileP at this
 rw [Bool.and_eq_true] at this
 exact this.1
def codeT (f : Int) (l : Lt) (g : List Mo) (t : List Vc) : Int := if okF f && okL l && tileB t then (if grpB f l g then 0 else 2) else 1
theorem tileCode_eq (f : Int) (l : Lt) {g : List Mo} (hn : g.length ≤ 1048576) {t : List Vc} (ht : t.length ≤ 1048576) : f175G KK f l g t = some (codeT f l g t) := by
 unfold f175G codeT
 rw [frameCode_eq, isTile_eq ht, groupCode_eq f l hn]
 simp only [oB, Bool.or_true, cT]
 unfold codeG
 cases okF f && okL l <;> cases h : tileB t <;> rfl
theorem l23Code_eq (f : Int) (l : Lt) {g : List Mo} (hn : g.length ≤ 1048576) {t : List Vc} (ht : t.length ≤ 1048576) : f179G KK f l g t = some (codeT f l g t) := by
 unfold f179G codeT
 rw [l04Code_eq, specIsTile_eq ht, l07Code_eq f l hn]
 simp only [oB, Bool.or_true, cT]
 cases okF f && okL l <;> cases h : tileB t <;> rfl
structure TileG (f : Int) (l : Lt) (g : List Mo) (t : List Vc) : Prop where
 fr : okF f = true
 la : IsL l
 pr : Pre f l g
 vec : ∀ v ∈ t, vecB v = true
 t1 : 1 ≤ t.length
 t2 : t.length ≤ 16
theorem codeT_0 {f : Int} {l : Lt} {g : List Mo} {t : List Vc} (h : codeT f l g t = 0) : TileG f l g t := by
 unfold codeT at h
 split at h
 ·rename_i hc
  rw [Bool.and_eq_true, Bool.and_eq_true] at hc
  split at h
  ·rename_i hg
   unfold grpB at hg
   rw [Bool.and_eq_true] at hg
   obtain ⟨h1, h2, h3⟩ := tile_of hc.2
   exact ⟨hc.1.1, okL_iff.1 hc.1.2, pre_of hg.1, h1, h2, h3⟩
  ·cases h
 ·cases h
theorem vecB_Sv {v : Vc} (h : vecB v = true) : Sv v := by
 rw [vecB_iff] at h
 simp only [Sv]; omega
def mvS (l : Lt) (m : Mo) (v : Vc) : Vc := redS l (appS m v)
theorem l07Move_gen {l : Lt} (hl : IsL l) {m : Mo} (hm : GoodG m) {v : Vc} (hv : Sv v) : f185G KK l m v = some (mvS l m v) := by
 unfold f185G
 rw [l05Apply_eq (pm_sm hm.1) hv hm.2, oB, l03Reduce_eq hl (appS_Sm (pm_sm hm.1) hv hm.2)]
 rfl
theorem take_gen {l : Lt} (hl : IsL l) {m : Mo} (hm : GoodG m) {v : Vc} (hv : Sv v) : f267G KK l m v = some (mvS l m v) := by
 unfold f267G
 rw [motApply_eq (pm_sm hm.1) hv hm.2, oB, reduce_eq hl (appS_Sm (pm_sm hm.1) hv hm.2)]
 rfl
def cpsS (l : Lt) (g : List Mo) (t : List Vc) : List (List Vc) := g.map fun m => t.map (mvS l m)
theorem blim24 {n : Nat} (h : n ≤ 1000000) : Nat.ble n (lim 24) = true := by
 simp only [lim, Nat.ble_eq]; omega
theorem copies_in {f : Int} {l : Lt} {g : List Mo} {t : List Vc} (hT : TileG f l g t) {L : Int → List (List Vc) → Option (List (List Vc))} {x : Nat} (hx : x < g.length) {s : List (List Vc)} (hs : s.length ≤ 768) :
  f178_l11 KK l g t (x : Int) s L KK 0 [] = L ((x + 1 : Nat) : Int) (s ++ [t.map (mvS l g[x])]) := by
 have hle := hT.pr.len hT.la
 have ht2 := hT.t2
 have h := iter_fold (X := Int × List Vc) (body := fun L11 z => f178_b11 KK l g t (x : Int) s L (fun v0 v1 => L11 (v0, v1)) z.1 z.2) t (fun q s => ((q : Int), s)) (fun s v => s ++ [mvS l g[x] v]) (fun r => L ((x + 1 : Nat) : Int) (s ++ [r])) (fun q s => s.length ≤ q)
  (fun L11 q s hq hi => by
   refine ⟨by simp; omega, ?_⟩
   unfold f178_b11
   simp only
   rw [in1 hq, in0, gd hx, gd hq]
   simp only [Bool.and_self, cT]
   rw [take_gen hT.la (hT.pr.good hT.la (gM hx)) (vecB_Sv (hT.vec _ (gM hq))), oB, blim16 (by simp; omega), w_succ (by omega)]
   rfl)
  (fun L11 s' hi => by
   unfold f178_b11
   simp only
   rw [out1, cF, blim24 (by simp; omega), cT, w_succ (by omega)]) KK 0 [] (by omega) (by have := KKlt (n := t.length) (by omega); omega) (by simp)
 unfold f178_l11
 refine Eq.trans h ?_
 simp only [List.drop_zero]
 rw [foldl_push, List.nil_append]
theorem copiesOf_eq {f : Int} {l : Lt} {g : List Mo} {t : List Vc} (hT : TileG f l g t) : f178G KK l g t = some (cpsS l g t) := by
 have hle := hT.pr.len hT.la
 have h := iter_fold (X := Int × List (List Vc)) (body := fun L8 z => f178_b8 KK l g t (fun c0 c1 d0 d1 => f178_l11 KK l g t c0 c1 (fun v0 v1 => L8 (v0, v1)) KK d0 d1) (fun v0 v1 => L8 (v0, v1)) z.1 z.2) g (fun q s => ((q : Int), s)) (fun s m => s ++ [t.map (mvS l m)]) (fun s => some s) (fun q s => s.length ≤ q)
  (fun L8 q s hq hi => by
   refine ⟨by simp; omega, ?_⟩
   unfold f178_b8
   simp only
   rw [in1 hq, in0]
   simp only [Bool.and_self, cT]
   exact copies_in hT hq (by omega))
  (fun L8 s hi => by
   unfold f178_b8
   simp only
   rw [out1, cF]) KK 0 [] (by omega) (by have := KKlt (n := g.length) (by omega); omega) (by simp)
 unfold f178G f178_g f178_l8
 refine Eq.trans h ?_
 simp only [List.drop_zero]
 rw [foldl_push, List.nil_append]
 rfl
theorem scopies_in {f : Int} {l : Lt} {g : List Mo} {t : List Vc} (hT : TileG f l g t) {L : Int → List (List Vc) → Option (List (List Vc))} {x : Nat} (hx : x < g.length) {s : List (List Vc)} (hs : s.length ≤ 768) :
  f181_l11 KK l g t (x : Int) s L KK 0 [] = L ((x + 1 : Nat) : Int) (s ++ [t.map (mvS l g[x])]) := by
 have hle := hT.pr.len hT.la
 have ht2 := hT.t2
 have h := iter_fold (X := Int × List Vc) (body := fun L11 z => f181_b11 KK l g t (x : Int) s L (fun v0 v1 => L11 (v0, v1)) z.1 z.2) t (fun q s => ((q : Int), s)) (fun s v => s ++ [mvS l g[x] v]) (fun r => L ((x + 1 : Nat) : Int) (s ++ [r])) (fun q s => s.length ≤ q)
  (fun L11 q s hq hi => by
   refine ⟨by simp; omega, ?_⟩
   unfold f181_b11
   simp only
   rw [in1 hq, in1 hx, in0, in0, gd hx, gd hq]
   simp only [Bool.and_self, cT]
   rw [l07Move_gen hT.la (hT.pr.good hT.la (gM hx)) (vecB_Sv (hT.vec _ (gM hq))), oB, blim16 (by simp; omega), w_succ (by omega)]
   rfl)
  (fun L11 s' hi => by
   unfold f181_b11
   simp only
   rw [out1, cF, blim24 (by simp; omega), cT, w_succ (by omega)]) KK 0 [] (by omega) (by have := KKlt (n := t.length) (by omega); omega) (by simp)
 unfold f181_l11
 refine Eq.trans h ?_
 simp only [List.drop_zero]
 rw [foldl_push, List.nil_append]
theorem l23Copies_eq {f : Int} {l : Lt} {g : List Mo} {t : List Vc} (hT : TileG f l g t) : f181G KK l g t = some (cpsS l g t) := by
 have hle := hT.pr.len hT.la
 have h := iter_fold (X := Int × List (List Vc)) (body := fun L8 z => f181_b8 KK l g t (fun c0 c1 d0 d1 => f181_l11 KK l g t c0 c1 (fun v0 v1 => L8 (v0, v1)) KK d0 d1) (fun v0 v1 => L8 (v0, v1)) z.1 z.2) g (fun q s => ((q : Int), s)) (fun s m => s ++ [t.map (mvS l m)]) (fun s => some s) (fun q s => s.length ≤ q)
  (fun L8 q s hq hi => by
   refine ⟨by simp; omega, ?_⟩
   unfold f181_b8
   simp only
   rw [in1 hq]
   simp only [cT]
   exact scopies_in hT hq (by omega))
  (fun L8 s hi => by
   unfold f181_b8
   simp only
   rw [out1, cF]) KK 0 [] (by omega) (by have := KKlt (n := g.length) (by omega); omega) (by simp)
 unfold f181G f181_g f181_l8
 refine Eq.trans h ?_
 simp only [List.drop_zero]
 rw [foldl_push, List.nil_append]
 rfl
end Go.Proofs.YtfccacobkcglcaaGreat.X
namespace Go.Proofs.YtfccacobkcglcaaGreat.X
open Go
set_option linter.unusedVariables false
def putR (i : Int) : List Nat → List Int → Option (List Int)
 | [], o => some o
 | n :: r, o => bif decide (o.getD n 0 ≥ 0) then none else putR i r (o.set n i)
def putA : List (List Nat) → Nat → List Int → Option (List Int)
 | [], _, o => some o
 | c :: r, i, o => match putR (i : Int) c o with | some o' => putA r (i + 1) o' | none => none
theorem putR_spec {i : Int} (hi : 0 ≤ i) : ∀ (c : List Nat) (o : List Int), (∀ n ∈ c, n < o.length) →
  (∀ o', putR i c o = some o' → c.Nodup ∧ (∀ n ∈ c, o.getD n 0 < 0) ∧ o'.length = o.length ∧ ∀ k, o'.getD k 0 = if k ∈ c then i else o.getD k 0) ∧ (c.Nodup → (∀ n ∈ c, o.getD n 0 < 0) → ∃ o', putR i c o = some o')
 | [], o, _ => ⟨fun o' h => by cases h; exact ⟨List.nodup_nil, by simp, rfl, by simp⟩, fun _ _ => ⟨o, rfl⟩⟩
 | n :: r, o, hlt => by
  have hn := hlt n (by simp)
  have ih := putR_spec hi r (o.set n i) fun m hm => by rw [List.length_set]; exact hlt m (by simp [hm])
  have hget : ∀ k, (o.set n i).getD k 0 = if k = n then i else o.getD k 0 := fun k => by
   simp only [List.getD, List.getElem?_set]
   by_cases h : n = k
   ·subst h; simp [hn]
   ·simp [h, Ne.symm h]
  refine ⟨fun o' h => ?_, fun hnd hneg => ?_⟩
  ·simp only [putR] at h
   by_cases h0 : o.getD n 0 ≥ 0
   ·rw [dT h0] at h; cases h
   ·rw [dF h0, cF] at h
    obtain ⟨h1, h2, h3, h4⟩ := ih.1 o' h
    have hnr : n ∉ r := fun hm => by
     have := h2 n hm
     rw [hget, if_pos rfl] at this
     omega
    refine ⟨List.nodup_cons.2 ⟨hnr, h1⟩, fun m hm => ?_, by rw [h3, List.length_set], fun k => ?_⟩
    ·rcases List.mem_cons.1 hm with rfl | hm
     ·omega
     ·have := h2 m hm
      rw [hget] at this
      split at this
      ·rename_i e; exact absurd (e ▸ hm) hnr
      ·exact this
    ·rw [h4, hget]
     by_cases h5 : k ∈ r
     ·simp [h5]
     ·by_cases h6 : k = n
      ·simp [h6]
      ·simp [h5, h6]
  ·rw [List.nodup_cons] at hnd
   have h0 := hneg n (by simp)
   simp only [putR]
   rw [dF (by omega), cF]
   refine ih.2 hnd.2 fun m hm => ?_
   rw [hget, if_neg (fun (e : m = n) => hnd.1 (e ▸ hm))]
   exact hneg m (by simp [hm])
def ownS : List (List Nat) → Nat → Nat → Option Nat
 | [], _, _ => none
 | c :: r, i, k => if k ∈ c then some i else ownS r (i + 1) k
theorem putA_spec : ∀ (C : List (List Nat)) (i : Nat) (o : List Int), (∀ c ∈ C, ∀ n ∈ c, n < o.length) →
  (∀ o', putA C i o = some o' → C.flatten.Nodup ∧ (∀ n ∈ C.flatten, o.getD n 0 < 0) ∧ o'.length = o.length ∧ ∀ k, o'.getD k 0 = match ownS C i k with | some j => (j : Int) | none => o.getD k 0) ∧ (C.flatten.Nodup → (∀ n ∈ C.flatten, o.getD n 0 < 0) → ∃ o', putA C i o = some o')
 | [], i, o, _ => ⟨fun o' h => by cases h; exact ⟨List.nodup_nil, by simp, rfl, by simp [ownS]⟩, fun _ _ => ⟨o, rfl⟩⟩
 | c :: r, i, o, hlt => by
  have h1 := putR_spec (i := (i : Int)) (by omega) c o (hlt c (by simp))
  refine ⟨fun o' h => ?_, fun hnd hneg => ?_⟩
  ·simp only [putA] at h
   split at h
   ·rename_i o1 ho1
    obtain ⟨a1, a2, a3, a4⟩ := h1.1 o1 ho1
    have ih := putA_spec r (i + 1) o1 fun c' hc' n hn => by rw [a3]; exact hlt c' (by simp [hc']) n hn
    obtain ⟨b1, b2, b3, b4⟩ := ih.1 o' h
    have hdis : ∀ n ∈ c, n ∉ r.flatten := fun n hn hm => by
     have := b2 n hm
     rw [a4, if_pos hn] at this
     omega
    refine ⟨?_, fun n hn => ?_, b3.trans a3, fun k => ?_⟩
    ·rw [List.flatten_cons, List.nodup_append]
     exact ⟨a1, b1, fun x hx y hy e => hdis x hx (e ▸ hy)⟩
    ·rw [List.flatten_cons, List.mem_append] at hn
     rcases hn with hn | hn
     ·exact a2 n hn
     ·have := b2 n hn
      rw [a4] at this
      split at this
      ·omega
      ·exact this
    ·rw [b4]
     simp only [ownS]
     by_cases hk : k ∈ c
     ·rw [if_pos hk]
      have hno : ownS r (i + 1) k = none := by
       have : ∀ (C : List (List Nat)) (i : Nat), k ∉ C.flatten → ownS C i k = none := by
        intro C
        induction C with
        | nil => intro i _; rfl
        | cons d D ihD =>
         intro i hh
         rw [List.flatten_cons, List.mem_append] at hh
         simp only [ownS]
         rw [if_neg (fun h => hh (.inl h)), ihD _ (fun h => hh (.inr h))]
       exact this r (i + 1) (hdis k hk)
      rw [hno]
      simp only
      rw [a4, if_pos hk]
     ·rw [if_neg hk]
      cases ownS r (i + 1) k with
      | some j => rfl
      | none => simp only; rw [a4, if_neg hk]
   ·cases h
  ·rw [List.flatten_cons, List.nodup_append] at hnd
   obtain ⟨n1, n2, n3⟩ := hnd
   obtain ⟨o1, ho1⟩ := h1.2 n1 fun n hn => hneg n (by simp [hn])
   obtain ⟨a1, a2, a3, a4⟩ := h1.1 o1 ho1
   have ih := putA_spec r (i + 1) o1 fun c' hc' n hn => by rw [a3]; exact hlt c' (by simp [hc']) n hn
   simp only [putA, ho1]
   refine ih.2 n2 fun n hn => ?_
   rw [a4, if_neg (fun h => n3 n h n hn rfl)]
   exact hneg n (by rw [List.flatten_cons]; exact List.mem_append_right _ hn)
theorem ownS_some : ∀ {C : List (List Nat)} {i k : Nat}, k ∈ C.flatten → ∃ j, ownS C i k = some (i + j) ∧ ∃ (h : j < C.length), k ∈ C[j]
 | [], _, _, h => by simp at h
 | c :: r, i, k, h => by
  simp only [ownS]
  by_cases hk : k ∈ c
  ·exact ⟨0, by simp [hk], by simp, by simpa using hk⟩
  ·rw [if_neg hk]
   rw [List.flatten_cons, List.mem_append] at h
   obtain ⟨j, h1, h2, h3⟩ := ownS_some (i := i + 1) (h.resolve_left hk)
   exact ⟨j + 1, by rw [h1]; congr 1; omega, by simp; omega, by simpa using h3⟩
theorem nodup_of_len {α : Type} [DecidableEq α] : ∀ (l m : List α), m.Nodup → (∀ x ∈ m, x ∈ l) → (∀ x ∈ l, x ∈ m) → l.length ≤ m.length → l.Nodup
 | [], _, _, _, _, _ => List.nodup_nil
 | a :: r, m, hm, h1, h2, h3 => by
  have ha : a ∉ r := fun har => by
   have := nodup_len m r hm fun x hx => by
    rcases List.mem_cons.1 (h1 x hx) with rfl | h
    ·exact har
    ·exact h
   simp only [List.length_cons] at h3
   omega
  have hma := h2 a (by simp)
  refine List.nodup_cons.2 ⟨ha, nodup_of_len r (m.erase a) (hm.erase a) (fun x hx => ?_) (fun x hx => ?_) ?_⟩
  ·have hxm := List.mem_of_mem_erase hx
   rcases List.mem_cons.1 (h1 x hxm) with rfl | h
   ·exact absurd hx (hm.not_mem_erase)
   ·exact h
  ·exact (List.mem_erase_of_ne (fun (e : x = a) => ha (e ▸ hx))).2 (h2 x (by simp [hx]))
  ·rw [List.length_erase_of_mem hma]
   simp only [List.length_cons] at h3
   omega
theorem full_of_len {α : Type} [DecidableEq α] (l m : List α) (hm : m.Nodup) (h1 : ∀ x ∈ m, x ∈ l) (h2 : l.length ≤ m.length) : ∀ x ∈ l, x ∈ m := fun x hx => by
 refine Decidable.byContradiction fun hn => ?_
 have := nodup_len m (l.erase x) hm fun y hy => (List.mem_erase_of_ne (fun (e : y = x) => hn (e ▸ hy))).2 (h1 y hy)
 rw [List.length_erase_of_mem hx] at this
 have := List.length_pos_of_mem hx
 omega
theorem mput_keys {K : Sh} (hK : K.flat = true) : ∀ (xs : List (K.T × Bool)) (k : K.T) (v : Bool), (xs.map (·.1)).Nodup → ((mput (eqSh K) xs k v).map (·.1)).Nodup ∧ ∀ x, x ∈ (mput (eqSh K) xs k v).map (·.1) ↔ x = k ∨ x ∈ xs.map (·.1)
 | [], k, v, _ => by simp [mput]
 | p :: r, k, v, h => by
  rw [List.map_cons, List.nodup_cons] at h
  simp only [mput]
  cases he : eqSh K k p.1
  ·have hne : k ≠ p.1 := fun e => by rw [(eqSh_iff K hK _ _).2 e] at he; cases he
   obtain ⟨h1, h2⟩ := mput_keys hK r k v h.2
   rw [cF, List.map_cons]
   refine ⟨List.nodup_cons.2 ⟨fun hm => ?_, h1⟩, fun x => ?_⟩
   ·rcases (h2 p.1).1 hm with e | hm
    ·exact hne e.symm
    ·exact h.1 hm
   ·rw [List.mem_cons, h2, List.map_cons, List.mem_cons]
    constructor
    ·rintro (h | h | h)
     ·exact .inr (.inl h)
     ·exact .inl h
     ·exact .inr (.inr h)
    ·rintro (h | h | h)
     ·exact .inr (.inl h)
     ·exact .inl h
     ·exact .inr (.inr h)
  ·have e := (eqSh_iff K hK _ _).1 he
   rw [cT, List.map_cons]
   subst e
   refine ⟨List.nodup_cons.2 h, fun x => ?_⟩
   rw [List.mem_cons, List.map_cons, List.mem_cons]
   constructor
   ·rintro (h | h)
    ·exact .inl h
    ·exact .inr (.inr h)
   ·rintro (h | h | h)
    ·exact .inl h
    ·exact .inl h
    ·exact .inr h
abbrev shV : Sh := .cons (.int .i64) (.int .i64)
def setV (xs : List (Vc × Bool)) (vs : List Vc) : List (Vc × Bool) := vs.foldl (fun s a => mput (eqSh shV) s a true) xs
theorem setV_keys : ∀ (vs : List Vc) (xs : List (Vc × Bool)), (xs.map (·.1)).Nodup → ((setV xs vs).map (·.1)).Nodup ∧ ∀ x, x ∈ (setV xs vs).map (·.1) ↔ x ∈ vs ∨ x ∈ xs.map (·.1)
 | [], xs, h => by simpa [setV] using h
 | v :: r, xs, h => by
  obtain ⟨h1, h2⟩ := mput_keys (K := shV) rfl xs v true h
  obtain ⟨h3, h4⟩ := setV_keys r (mput (eqSh shV) xs v true) h1
  refine ⟨h3, fun x => (h4 x).trans ?_⟩
  rw [h2, List.mem_cons]
  constructor
  ·rintro (h | h | h)
   ·exact .inl (.inr h)
   ·exact .inl (.inl h)
   ·exact .inr h
  ·rintro ((h | h) | h)
   ·exact .inr (.inl h)
   ·exact .inl h
   ·exact .inr (.inr h)
def tilesP (l : Lt) (g : List Mo) (t : List Vc) : Prop := (cpsS l g t).flatten.Nodup ∧ ∀ v ∈ cellsS l, v ∈ (cpsS l g t).flatten
instance (l : Lt) (g : List Mo) (t : List Vc) : Decidable (tilesP l g t) := by unfold tilesP; infer_instance
theorem cps_len (l : Lt) (g : List Mo) (t : List Vc) : (cpsS l g t).flatten.length = g.length * t.length := by
 unfold cpsS
 induction g with
 | nil => simp
 | cons m g ih => rw [List.map_cons, List.flatten_cons, List.length_append, ih, List.length_map, List.length_cons, Nat.succ_mul]; omega
theorem cps_mem {l : Lt} {g : List Mo} {t : List Vc} {v : Vc} (h : v ∈ (cpsS l g t).flatten) : ∃ m ∈ g, ∃ u ∈ t, v = mvS l m u := by
 simp only [cpsS, List.mem_flatten, List.mem_map] at h
 obtain ⟨c, ⟨m, hm, rfl⟩, hv⟩ := h
 obtain ⟨u, hu, e⟩ := List.mem_map.1 hv
 exact ⟨m, hm, u, hu, e.symm⟩
theorem cps_cell {l : Lt} (hl : IsL l) {g : List Mo} {t : List Vc} {v : Vc} (h : v ∈ (cpsS l g t).flatten) : cellB l v = true := by
 obtain ⟨m, _, u, _, rfl⟩ := cps_mem h
 exact redS_isCell hl _
theorem cellsS_nodup {l : Lt} (hl : IsL l) : (cellsS l).Nodup := by
 rw [List.Nodup, List.pairwise_iff_getElem]
 intro i j hi hj hij e
 have h1 := cellsS_num hl hi
 have h2 := cellsS_num hl hj
 rw [e, h2] at h1
 omega
theorem set_tiles {l : Lt} (hl : IsL l) (g : List Mo) (t : List Vc) : ((setV [] (cpsS l g t).flatten).length = (cellsS l).length ∧ (setV [] (cpsS l g t).flatten).length = g.length * t.length) ↔ tilesP l g t := by
 obtain ⟨h1, h2⟩ := setV_keys (cpsS l g t).flatten [] (by simp)
 have hlen : ((setV [] (cpsS l g t).flatten).map (·.1)).length = (setV [] (cpsS l g t).flatten).length := List.length_map ..
 have hin : ∀ x ∈ (setV [] (cpsS l g t).flatten).map (·.1), x ∈ cellsS l := fun x hx => by
  have := (h2 x).1 hx
  simp at this
  exact cellB_mem hl (cps_cell hl (by simpa using this))
 rw [← hlen]
 constructor
 ·rintro ⟨e1, e2⟩
  refine ⟨nodup_of_len _ _ h1 (fun x hx => ?_) (fun x hx => (h2 x).2 (.inl hx)) ?_, fun v hv => ?_⟩
  ·have := (h2 x).1 hx
   simpa using this
  ·rw [cps_len, e2]; exact Nat.le_refl _
  ·have := full_of_len (cellsS l) _ h1 hin (by omega) v hv
   have := (h2 v).1 this
   simpa using this
 ·rintro ⟨p1, p2⟩
  have a1 := nodup_len _ _ h1 hin
  have a2 := nodup_len (cellsS l) _ (cellsS_nodup hl) fun x hx => (h2 x).2 (.inl (p2 x hx))
  have a3 := nodup_len _ (cpsS l g t).flatten h1 fun x hx => by
   have := (h2 x).1 hx
   simpa using this
  have a4 := nodup_len _ _ p1 fun x hx => (h2 x).2 (.inl hx)
  rw [cps_len] at a3 a4
  omega
end Go.Proofs.YtfccacobkcglcaaGreat.X
namespace Go.Proofs.YtfccacobkcglcaaGreat.X
open Go
set_option linter.unusedVariables false
theorem setV_flat : ∀ (C : List (List Vc)) (s : List (Vc × Bool)), C.foldl setV s = setV s C.flatten
 | [], s => rfl
 | c :: r, s => by
  rw [List.foldl_cons, setV_flat r, List.flatten_cons]
  unfold setV
  rw [List.foldl_append]
theorem getC {C : List (List Vc)} {x : Nat} (h : x < C.length) : C.getD ((0 : Int) + (x : Int)).toNat [] = C[x] := gd h
theorem cps_get {l : Lt} {g : List Mo} {t : List Vc} {x : Nat} (h : x < (cpsS l g t).length) : (cpsS l g t)[x].length = t.length := by
 simp [cpsS]
theorem cpsS_length (l : Lt) (g : List Mo) (t : List Vc) : (cpsS l g t).length = g.length := by simp [cpsS]
theorem tiles_in {l : Lt} {g : List Mo} {t : List Vc} {C : List (List Vc)} (hC : C.length ≤ 1000) {L : Int → List (Vc × Bool) → Option Bool} {x : Nat} (hx : x < C.length) (hn : C[x].length ≤ 1000) (s : List (Vc × Bool)) :
  f176_l10 KK l g t (x : Int) C L KK 0 s = L ((x + 1 : Nat) : Int) (setV s C[x]) := by
 have h := iter_fold (X := Int × List (Vc × Bool)) (body := fun L10 z => f176_b10 KK l g t (x : Int) C L (fun v0 v1 => L10 (v0, v1)) z.1 z.2) C[x] (fun q s => ((q : Int), s)) (fun s v => mput (eqSh shV) s v true) (fun s => L ((x + 1 : Nat) : Int) s) (fun q s => True)
  (fun L10 q s hq _ => by
   refine ⟨trivial, ?_⟩
   unfold f176_b10
   simp only
   rw [getC hx, in1 hq, in0, gd hq, w_succ (by omega)]
   rfl)
  (fun L10 s _ => by
   unfold f176_b10
   simp only
   rw [getC hx, out1, cF, w_succ (by omega)]) KK 0 s (by omega) (by have := KKlt (n := C[x].length) (by omega); omega) trivial
 unfold f176_l10
 exact h
theorem len_eq {l : Lt} (hl : IsL l) : w (l.1 * l.2.2) = ((cellsS l).length : Int) := by
 rw [cellsS_len hl, idx_nat hl]
 have := hl.ix
 have : 0 ≤ l.1 * l.2.2 := Int.mul_nonneg (by have := hl.a1; omega) (by have := hl.c1; omega)
 exact w_id (by omega) (by omega)
theorem tilesByGroup_eq {f : Int} {l : Lt} {g : List Mo} {t : List Vc} (hT : TileG f l g t) : f176G KK l g t = some (decide (tilesP l g t)) := by
 have hle := hT.pr.len hT.la
 have ht2 := hT.t2
 unfold f176G f176_g
 rw [copiesOf_eq hT, oB]
 have hC := cpsS_length l g t
 have h := iter_fold (X := Int × List (Vc × Bool)) (body := fun L7 z => f176_b7 KK l g t (cpsS l g t) (fun c0 d0 d1 => f176_l10 KK l g t c0 (cpsS l g t) (fun v0 v1 => L7 (v0, v1)) KK d0 d1) (fun v0 v1 => L7 (v0, v1)) z.1 z.2) (cpsS l g t) (fun q s => ((q : Int), s)) setV
  (fun s => some (decide (s.length = (cellsS l).length ∧ s.length = g.length * t.length))) (fun q s => True)
  (fun L7 q s hq _ => by
   refine ⟨trivial, ?_⟩
   unfold f176_b7
   simp only
   rw [in1 hq, in0]
   simp only [Bool.and_self, cT]
   exact tiles_in (by omega) hq (by rw [cps_get hq]; omega) s)
  (fun L7 s _ => by
   unfold f176_b7 f238G
   simp only
   rw [out1, cF, oB, len_eq hT.la]
   simp only [Bool.or_true, cT]
   have hm : g.length * t.length ≤ 768 * 16 := Nat.mul_le_mul hle ht2
   have e : w ((g.length : Int) * (t.length : Int)) = ((g.length * t.length : Nat) : Int) := by
    rw [← Int.natCast_mul]
    exact w_id (by omega) (by omega)
   rw [e]
   congr 1
   by_cases h1 : s.length = (cellsS l).length
   ·have : ((s.length : Int) == ((cellsS l).length : Int)) = true := by rw [h1]; simp
    rw [this, cT, Bool.eq_iff_iff, beq_iff_eq, decide_eq_true_eq]
    omega
   ·have : ((s.length : Int) == ((cellsS l).length : Int)) = false := by rw [beq_eq_false_iff_ne]; omega
    rw [this, cF]
    simp [h1]) KK 0 [] (by omega) (by have := KKlt (n := (cpsS l g t).length) (by omega); omega) trivial
 unfold f176_l7
 refine Eq.trans h ?_
 rw [List.drop_zero, setV_flat]
 congr 1
 exact decide_eq_decide.2 (set_tiles hT.la g t)
theorem l03Number_eq {l : Lt} (hl : IsL l) {v : Vc} (hv : cellB l v = true) : f127G KK l v = some ((numS l v : Nat) : Int) := by
 unfold f127G
 rw [l03Reduce_eq hl (Sv_Sm (cellB_Sv hl hv)), oB, (num_calc hl v).1]
theorem numS_lt {l : Lt} (hl : IsL l) (v : Vc) : numS l v < (cellsS l).length := by
 have h1 := (num_calc hl v).2
 rw [cellsS_len hl]
 have := idx_nat hl
 omega
def cnS (l : Lt) (C : List (List Vc)) : List (List Nat) := C.map fun c => c.map (numS l)
theorem own_in {l : Lt} (hl : IsL l) {g : List Mo} {t : List Vc} {q3 : Int} {C : List (List Vc)} (hC : C.length ≤ 1000) (ht : t.length ≤ 1000) {L : Int → List Int → Option (List Int × Bool)} {x : Nat} (hx : x < C.length) (hn : C[x].length = t.length) (hc : ∀ v ∈ C[x], cellB l v = true) : ∀ (n q : Nat) (o : List Int), q ≤ t.length → t.length - q < n → o.length = (cellsS l).length →
  f180_l16 KK l g t q3 (x : Int) C L n (q : Int) o = match putR (x : Int) ((C[x].map (numS l)).drop q) o with | some o' => L ((x + 1 : Nat) : Int) o' | none => some ([], false)
 | 0, q, o, _, h, _ => by omega
 | n + 1, q, o, hq, h, ho => by
  show f180_b16 KK l g t q3 (x : Int) C L (fun v0 v1 => f180_l16 KK l g t q3 (x : Int) C L n v0 v1) (q : Int) o = _
  unfold f180_b16
  by_cases hlt : q < t.length
  ·have hq2 : q < C[x].length := by omega
   have hq3 : q < (C[x].map (numS l)).length := by simpa using hq2
   rw [in1 hlt, in1 hx, in0, in0, getC hx, in1 hq2, gd hq2]
   simp only [Bool.and_self, cT]
   rw [l03Number_eq hl (hc _ (gM hq2)), oB]
   have hlt2 : numS l C[x][q] < o.length := by rw [ho]; exact numS_lt hl _
   rw [in0, in1 hlt2]
   simp only [Bool.and_self, cT]
   rw [List.drop_eq_getElem_cons hq3, List.getElem_map]
   simp only [putR]
   have e0 : ((0 : Int) + (numS l C[x][q] : Int)).toNat = numS l C[x][q] := by omega
   rw [e0]
   cases hd : decide (o.getD (numS l C[x][q]) 0 ≥ 0)
   ·rw [cF, cF, w_succ (by omega)]
    exact own_in hl hC ht hx hn hc n (q + 1) _ hlt (by omega) (by rw [List.length_set]; exact ho)
   ·rfl
  ·have e : q = t.length := by omega
   subst e
   rw [out1, cF, List.drop_eq_nil_of_le (by rw [List.length_map, hn]; exact Nat.le_refl _), w_succ (by omega)]
   rfl
theorem putA_cons {C : List (List Nat)} {i : Nat} {o : List Int} {c : List Nat} : putA (c :: C) i o = match putR (i : Int) c o with | some o' => putA C (i + 1) o' | none => none := rfl
theorem l01Has_eq {o : List Int} (ho : o.length ≤ 1000) (x : Int) : f283G KK o x = some (o.contains x) := by
 have h := iter_all (X := Int) (body := fun L z => f283_b2 KK o x (fun v0 => L v0) z) o (fun q => (q : Int)) (fun a => !(a == x)) (some true) (some false)
  (fun L q hq => by
   unfold f283_b2
   rw [in1 hq, in0, gd hq]
   simp only [Bool.and_self, cT]
   rw [w_succ (by omega)]
   cases o[q] == x <;> rfl)
  (fun L => by
   unfold f283_b2
   rw [out1, cF]) KK 0 (by omega) (by have := KKlt (n := o.length) (by omega); omega)
 unfold f283G f283_g f283_l2
 refine Eq.trans h ?_
 rw [List.drop_zero]
 have e : (o.all fun a => !(a == x)) = !o.contains x := by
  rw [List.contains_eq_any_beq]
  rw [← List.not_any_eq_all_not]
  congr 2
  funext a
  rw [Bool.eq_iff_iff, beq_iff_eq, beq_iff_eq]
  exact eq_comm
 rw [e]
 cases o.contains x <;> rfl
theorem own_out {l : Lt} (hl : IsL l) {g : List Mo} {t : List Vc} {q3 : Int} {C : List (List Vc)} (hC : C.length ≤ 1000) (ht : t.length ≤ 1000) (hn : ∀ c ∈ C, c.length = t.length) (hc : ∀ c ∈ C, ∀ v ∈ c, cellB l v = true) : ∀ (n q : Nat) (o : List Int), q ≤ C.length → C.length - q < n → o.length = (cellsS l).length →
  f180_l13 KK l g t q3 C n (q : Int) o = match putA ((cnS l C).drop q) q o with | some o' => some (o', !o'.contains (-1)) | none => some ([], false)
 | 0, q, o, _, h, _ => by omega
 | n + 1, q, o, hq, h, ho => by
  show f180_b13 KK l g t q3 C (fun c0 d0 d1 => f180_l16 KK l g t q3 c0 C (fun v0 v1 => f180_l13 KK l g t q3 C n v0 v1) KK d0 d1) (fun v0 v1 => f180_l13 KK l g t q3 C n v0 v1) (q : Int) o = _
  have hcl : (cellsS l).length ≤ 64 := cellsS_le hl
  unfold f180_b13
  by_cases hlt : q < C.length
  ·have hq3 : q < (cnS l C).length := by unfold cnS; simpa using hlt
   rw [in1 hlt, cT]
   refine Eq.trans (own_in hl hC ht hlt (hn _ (gM hlt)) (hc _ (gM hlt)) KK 0 o (by omega) (by have := KKlt (n := t.length) (by omega); omega) ho) ?_
   rw [List.drop_zero, List.drop_eq_getElem_cons hq3, putA_cons]
   have e : (cnS l C)[q] = C[q].map (numS l) := by simp [cnS]
   rw [e]
   cases hp : putR (q : Int) (C[q].map (numS l)) o with
   | none => rfl
   | some o' =>
    have := (putR_spec (i := (q : Int)) (by omega) (C[q].map (numS l)) o (fun n hn' => by
     obtain ⟨v, _, rfl⟩ := List.mem_map.1 hn'
     rw [ho]; exact numS_lt hl v)).1 o' hp
    exact own_out hl hC ht hn hc n (q + 1) o' hlt (by omega) (this.2.2.1.trans ho)
  ·have e : q = C.length := by omega
   subst e
   rw [out1, cF, l01Has_eq (by omega), oB, List.drop_eq_nil_of_le (by unfold cnS; simp)]
   rfl
theorem cells_cover {l : Lt} (hl : IsL l) (vs : List Vc) (hc : ∀ v ∈ vs, cellB l v = true) : (∀ v ∈ cellsS l, v ∈ vs) ↔ ∀ k, k < (cellsS l).length → k ∈ vs.map (numS l) := by
 constructor
 ·intro h k hk
  exact List.mem_map.2 ⟨(cellsS l)[k], h _ (gM hk), cellsS_num hl hk⟩
 ·intro h v hv
  obtain ⟨k, hk, rfl⟩ := List.getElem_of_mem hv
  obtain ⟨u, hu, e⟩ := List.mem_map.1 (h k hk)
  obtain ⟨j, hj, e2⟩ := List.getElem_of_mem (cellB_mem hl (hc u hu))
  have : j = k := by rw [← cellsS_num hl hj, e2, e]
  subst this
  rw [e2]
  exact hu
theorem num_inj {l : Lt} (hl : IsL l) {u v : Vc} (hu : cellB l u = true) (hv : cellB l v = true) (h : numS l u = numS l v) : u = v := by
 obtain ⟨i, hi, e1⟩ := List.getElem_of_mem (cellB_mem hl hu)
 obtain ⟨j, hj, e2⟩ := List.getElem_of_mem (cellB_mem hl hv)
 have h1 := cellsS_num hl hi
 have h2 := cellsS_num hl hj
 rw [e1] at h1
 rw [e2] at h2
 have : i = j := by omega
 subst this
 rw [← e1, ← e2]
theorem nodup_map_num {l : Lt} (hl : IsL l) : ∀ (vs : List Vc), (∀ v ∈ vs, cellB l v = true) → ((vs.map (numS l)).Nodup ↔ vs.Nodup)
 | [], _ => by simp
 | v :: vs, h => by
  rw [List.map_cons, List.nodup_cons, List.nodup_cons, nodup_map_num hl vs fun u hu => h u (by simp [hu])]
  constructor
  ·rintro ⟨h1, h2⟩
   exact ⟨fun hm => h1 (List.mem_map.2 ⟨v, hm, rfl⟩), h2⟩
  ·rintro ⟨h1, h2⟩
   refine ⟨fun hm => ?_, h2⟩
   obtain ⟨u, hu, e⟩ := List.mem_map.1 hm
   exact h1 (num_inj hl (h u (by simp [hu])) (h v (by simp)) e ▸ hu)
theorem cn_flat (l : Lt) : ∀ C : List (List Vc), (cnS l C).flatten = C.flatten.map (numS l)
 | [] => rfl
 | c :: C => by
  have := cn_flat l C
  unfold cnS at this ⊢
  rw [List.map_cons, List.flatten_cons, List.flatten_cons, List.map_append, this]
theorem rep_getD (n k : Nat) : (List.replicate n (-1 : Int)).getD k 0 = if k < n then -1 else 0 := by
 by_cases h : k < n
 ·simp [List.getD, h]
 ·simp [List.getD, h]
theorem owners_eq {f : Int} {l : Lt} {g : List Mo} {t : List Vc} (hT : TileG f l g t) : ∃ o, f180G KK l g t = some (o, decide (tilesP l g t)) ∧
  (tilesP l g t → o.length = (cellsS l).length ∧ ∀ k, k < (cellsS l).length → ∃ j : Nat, o.getD k 0 = (j : Int) ∧ ownS (cnS l (cpsS l g t)) 0 k = some j) := by
 have hl := hT.la
 have hle := hT.pr.len hl
 have ht2 := hT.t2
 have hcl : (cellsS l).length ≤ 64 := cellsS_le hl
 have hC := cpsS_length l g t
 have h := iter_fold (X := Int × List Int) (body := fun L2 z => f180_b2 KK l g t (fun c0 c1 d0 d1 => f180_l13 KK l g t c0 c1 KK d0 d1) (fun v0 v1 => L2 (v0, v1)) z.1 z.2) (List.range (cellsS l).length) (fun q s => ((q : Int), s)) (fun s _ => s ++ [(-1 : Int)])
  (fun s => f180_l13 KK l g t ((cellsS l).length : Int) (cpsS l g t) KK 0 s) (fun q s => s.length = q)
  (fun L2 q s hq hi => by
   rw [List.length_range] at hq
   refine ⟨by simp; omega, ?_⟩
   unfold f180_b2
   simp only
   rw [len_eq hl, in1 hq, cT, blim8 (by simp; omega), cT, w_succ (by omega)])
  (fun L2 s hi => by
   unfold f180_b2
   simp only [List.length_range]
   rw [len_eq hl, out1, cF, l23Copies_eq hT, oB]) KK 0 [] (by omega) (by simp only [KK, List.length_range]; omega) rfl
 have hg : f180G KK l g t = f180_l13 KK l g t ((cellsS l).length : Int) (cpsS l g t) KK 0 (List.replicate (cellsS l).length (-1)) := by
  unfold f180G f180_g f180_l2
  refine Eq.trans h ?_
  congr 1
  rw [List.drop_zero]
  generalize (cellsS l).length = n
  have : ∀ (r : List Nat) (s : List Int), r.foldl (fun s _ => s ++ [(-1 : Int)]) s = s ++ List.replicate r.length (-1) := by
   intro r
   induction r with
   | nil => intro s; simp
   | cons a r ih => intro s; rw [List.foldl_cons, ih, List.length_cons, List.replicate_succ]; simp
  rw [this, List.length_range, List.nil_append]
 have hout : f180_l13 KK l g t ((cellsS l).length : Int) (cpsS l g t) KK (0 : Int) (List.replicate (cellsS l).length (-1)) = match putA ((cnS l (cpsS l g t)).drop 0) 0 (List.replicate (cellsS l).length (-1)) with | some o' => some (o', !o'.contains (-1)) | none => some ([], false) :=
  own_out hl (by omega) (by omega) (fun c hc => by
   obtain ⟨x, hx, rfl⟩ := List.getElem_of_mem hc
   exact cps_get hx) (fun c hc v hv => cps_cell hl (List.mem_flatten.2 ⟨c, hc, hv⟩)) KK 0 _ (by omega) (by have := KKlt (n := (cpsS l g t).length) (by omega); omega) (by simp)
 rw [hg, hout, List.drop_zero]
 have hcell : ∀ v ∈ (cpsS l g t).flatten, cellB l v = true := fun v hv => cps_cell hl hv
 obtain ⟨s1, s2⟩ := putA_spec (cnS l (cpsS l g t)) 0 (List.replicate (cellsS l).length (-1)) (fun c hc n hn => by
  rw [List.length_replicate]
  have : n ∈ (cnS l (cpsS l g t)).flatten := List.mem_flatten.2 ⟨c, hc, hn⟩
  rw [cn_flat] at this
  obtain ⟨v, _, rfl⟩ := List.mem_map.1 this
  exact numS_lt hl v)
 rw [cn_flat, nodup_map_num hl _ hcell] at s1 s2
 have hneg : ∀ n ∈ (cpsS l g t).flatten.map (numS l), (List.replicate (cellsS l).length (-1 : Int)).getD n 0 < 0 := fun n hn => by
  obtain ⟨v, _, rfl⟩ := List.mem_map.1 hn
  rw [rep_getD, if_pos (numS_lt hl v)]
  omega
 cases hp : putA (cnS l (cpsS l g t)) 0 (List.replicate (cellsS l).length (-1)) with
 | none =>
  have hno : ¬ tilesP l g t := fun ht => by
   obtain ⟨o', e⟩ := s2 ht.1 hneg
   rw [hp] at e
   cases e
  exact ⟨[], by simp [hno], fun h => absurd h hno⟩
 | some o =>
  obtain ⟨a1, a2, a3, a4⟩ := s1 o hp
  rw [List.length_replicate] at a3
  have hcov := cells_cover hl _ hcell
  have hval : ∀ k, k < (cellsS l).length → (k ∈ (cpsS l g t).flatten.map (numS l) → ∃ j : Nat, o.getD k 0 = (j : Int) ∧ ownS (cnS l (cpsS l g t)) 0 k = some j) ∧ (k ∉ (cpsS l g t).flatten.map (numS l) → o.getD k 0 = -1) := fun k hk => by
   constructor
   ·intro hm
    rw [← cn_flat] at hm
    obtain ⟨j, h1, _⟩ := ownS_some (i := 0) hm
    refine ⟨0 + j, ?_, h1⟩
    rw [a4, h1]
   ·intro hm
    rw [← cn_flat] at hm
    rw [a4]
    have : ∀ (C : List (List Nat)) (i : Nat), k ∉ C.flatten → ownS C i k = none := by
     intro C
     induction C with
     | nil => intro i _; rfl
     | cons d D ihD =>
      intro i hh
      rw [List.flatten_cons, List.mem_append] at hh
      simp only [ownS]
      rw [if_neg (fun h => hh (.inl h)), ihD _ (fun h => hh (.inr h))]
    rw [this _ 0 hm]
    simp only
    rw [rep_getD, if_pos hk]
  have hb : (!o.contains (-1)) = decide (tilesP l g t) := by
   rw [Bool.eq_iff_iff, decide_eq_true_eq, Bool.not_eq_true']
   constructor
   ·intro hnc
    refine ⟨a1, hcov.2 fun k hk => ?_⟩
    refine Decidable.byContradiction fun hm => ?_
    have := (hval k hk).2 hm
    have hk' : k < o.length := by omega
    have hmem : (-1 : Int) ∈ o := by
     rw [show o.getD k 0 = o[k] by simp [List.getD, hk']] at this
     rw [← this]
     exact gM hk'
    rw [List.contains_iff_mem.2 hmem] at hnc
    cases hnc
   ·intro ht
    cases hnc : o.contains (-1) with
    | false => rfl
    | true =>
     rw [List.contains_iff_mem] at hnc
     obtain ⟨k, hk, e⟩ := List.getElem_of_mem hnc
     obtain ⟨j, h1, _⟩ := (hval k (by omega)).1 (hcov.1 ht.2 k (by omega))
     rw [show o.getD k 0 = o[k] by simp [List.getD, hk], e] at h1
     omega
  refine ⟨o, by rw [← hb], fun ht => ⟨a3, fun k hk => (hval k hk).1 (hcov.1 ht.2 k hk)⟩⟩
end Go.Proofs.YtfccacobkcglcaaGreat.X
namespace Go.Proofs.YtfccacobkcglcaaGreat.X
open Go
set_option linter.unusedVariables false
end Go.Proofs.YtfccacobkcglcaaGreat.X
