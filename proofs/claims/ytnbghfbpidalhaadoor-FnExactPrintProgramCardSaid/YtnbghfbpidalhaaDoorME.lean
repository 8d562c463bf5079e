/- Plain facts: point matrices, suitable motions, the order of motions. -/
import Derived.Test.YtnbghfbpidalhaaDoorMA
namespace Go.Proofs.YtnbghfbpidalhaaDoor.X
open Go
set_option linter.unusedSimpArgs false
set_option linter.unusedVariables false
/-! ### loops that may end early -/
def allFrom {α : Type} (p : Nat → α → Bool) : Nat → List α → Bool
  | _, [] => true
  | q, a :: r => p q a && allFrom p (q + 1) r
theorem iter_scan {X R S α : Type} {body : (X → Option R) → X → Option R} (l : List α) (fr : Nat → S → X) (p : Nat → α → Bool) (step : S → α → S) (no : Option R) (fin : S → Option R) (inv : Nat → S → Prop)
    (h1 : ∀ L q s (hq : q < l.length), inv q s → (p q l[q] = true → inv (q + 1) (step s l[q])) ∧ body L (fr q s) = bif p q l[q] then L (fr (q + 1) (step s l[q])) else no)
    (h2 : ∀ L s, inv l.length s → body L (fr l.length s) = fin s) : ∀ n q s, q ≤ l.length → l.length - q < n → inv q s → iter body n (fr q s) = bif allFrom p q (l.drop q) then fin ((l.drop q).foldl step s) else no
  | 0, q, s, _, hn, _ => by omega
  | n + 1, q, s, hq, hn, hi => by
    show body (iter body n) (fr q s) = _
    by_cases hlt : q < l.length
    · obtain ⟨h3, h4⟩ := h1 (iter body n) q s hlt hi
      rw [h4, List.drop_eq_getElem_cons hlt]
      simp only [allFrom, List.foldl_cons]
      cases hp : p q l[q]
      · simp
      · rw [cond_true, iter_scan l fr p step no fin inv h1 h2 n (q + 1) _ hlt (by omega) (h3 hp), Bool.true_and]
    · have : q = l.length := by omega
      subst this
      rw [h2 _ _ hi]
      simp [allFrom]
theorem allFrom_congr {α : Type} {p p' : Nat → α → Bool} : ∀ (l : List α) (q : Nat), (∀ i a, l[i]? = some a → p (q + i) a = p' (q + i) a) → allFrom p q l = allFrom p' q l
  | [], _, _ => rfl
  | a :: l, q, h => by
    simp only [allFrom]
    have ih := allFrom_congr (p := p) (p' := p') l (q + 1) fun i b hb => by
      have := h (i + 1) b (by simpa using hb)
      rw [show q + 1 + i = q + (i + 1) by omega]
      exact this
    rw [ih, show p q a = p' q a from h 0 a rfl]
theorem allFrom_get {α : Type} {p : Nat → α → Bool} : ∀ {l : List α} {q : Nat}, allFrom p q l = true → ∀ i (hi : i < l.length), p (q + i) l[i] = true
  | [], _, _, i, hi => by simp at hi
  | a :: l, q, h, i, hi => by
    simp only [allFrom, Bool.and_eq_true] at h
    cases i with
    | zero => exact h.1
    | succ i =>
      have := allFrom_get h.2 i (by simpa using hi)
      rw [show q + (i + 1) = q + 1 + i by omega]
      exact this
/-! ### point matrices -/
def normS (f : Int) (v : Vc) : Int := v.1 * v.1 + f * v.1 * v.2 + v.2 * v.2
def keepS (f : Int) (m : Mt) : Bool := (normS f (m.1, m.2.2.1) == 1) && (normS f (m.2.1, m.2.2.2) == 1) && (normS f (m.1 + m.2.1, m.2.2.1 + m.2.2.2) == 2 + f)
theorem sq_small {x : Int} (h : x * x ≤ 2) : -1 ≤ x ∧ x ≤ 1 := by
  constructor
  · refine Decidable.byContradiction fun hn => ?_
    have h1 : (-x) * 2 ≤ (-x) * (-x) := Int.mul_le_mul_of_nonneg_left (by omega) (by omega)
    rw [Int.neg_mul_neg] at h1
    omega
  · refine Decidable.byContradiction fun hn => ?_
    have h1 : x * 2 ≤ x * x := Int.mul_le_mul_of_nonneg_left (by omega) (by omega)
    omega
theorem sq_nonneg (x : Int) : 0 ≤ x * x := by
  rcases Int.le_total 0 x with h | h
  · exact Int.mul_nonneg h h
  · have := Int.mul_nonneg (show 0 ≤ -x by omega) (show 0 ≤ -x by omega)
    rwa [Int.neg_mul_neg] at this
theorem norm_one {f : Int} (h1 : 0 ≤ f) (h2 : f ≤ 1) {v : Vc} (h : normS f v = 1) : (-1 ≤ v.1 ∧ v.1 ≤ 1) ∧ (-1 ≤ v.2 ∧ v.2 ≤ 1) := by
  unfold normS at h
  have s1 := sq_nonneg v.1
  have s2 := sq_nonneg v.2
  have : f = 0 ∨ f = 1 := by omega
  rcases this with rfl | rfl
  · simp only [Int.zero_mul, Int.add_zero] at h
    exact ⟨sq_small (by omega), sq_small (by omega)⟩
  · simp only [Int.one_mul] at h
    have s3 := sq_nonneg (v.1 + v.2)
    have e : (v.1 + v.2) * (v.1 + v.2) = v.1 * v.1 + 2 * (v.1 * v.2) + v.2 * v.2 := by
      rw [Int.add_mul, Int.mul_add, Int.mul_add, Int.mul_comm v.2 v.1]; omega
    exact ⟨sq_small (by omega), sq_small (by omega)⟩
theorem keep_all : ∀ f ∈ [(0 : Int), 1], ∀ a ∈ [(-1 : Int), 0, 1], ∀ b ∈ [(-1 : Int), 0, 1], ∀ c ∈ [(-1 : Int), 0, 1], ∀ d ∈ [(-1 : Int), 0, 1], keepS f (a, b, c, d) = (pmS f).contains (a, b, c, d) := by decide +kernel
theorem mem3 {a : Int} (h : -1 ≤ a ∧ a ≤ 1) : a ∈ [(-1 : Int), 0, 1] := by
  rcases one_cases h with rfl | rfl | rfl <;> simp
theorem keepS_eq {f : Int} (h1 : 0 ≤ f) (h2 : f ≤ 1) (m : Mt) : keepS f m = (pmS f).contains m := by
  have hf : f ∈ [(0 : Int), 1] := by
    have : f = 0 ∨ f = 1 := by omega
    rcases this with rfl | rfl <;> simp
  by_cases hs : (-1 ≤ m.1 ∧ m.1 ≤ 1) ∧ (-1 ≤ m.2.1 ∧ m.2.1 ≤ 1) ∧ (-1 ≤ m.2.2.1 ∧ m.2.2.1 ≤ 1) ∧ (-1 ≤ m.2.2.2 ∧ m.2.2.2 ≤ 1)
  · exact keep_all f hf _ (mem3 hs.1) _ (mem3 hs.2.1) _ (mem3 hs.2.2.1) _ (mem3 hs.2.2.2)
  · have e1 : keepS f m = false := by
      cases hk : keepS f m with
      | false => rfl
      | true =>
        unfold keepS at hk
        simp only [Bool.and_eq_true, beq_iff_eq] at hk
        obtain ⟨⟨k1, k2⟩, _⟩ := hk
        have n1 := norm_one h1 h2 k1
        have n2 := norm_one h1 h2 k2
        exact absurd ⟨n1.1, n2.1, n1.2, n2.2⟩ hs
    have e2 : (pmS f).contains m = false := by
      cases hk : (pmS f).contains m with
      | false => rfl
      | true =>
        rw [List.contains_iff_mem] at hk
        have := pm_sm (pmS_mem hk)
        exact absurd ⟨this.a, this.b, this.c, this.d⟩ hs
    rw [e1, e2]
def vecB (v : Vc) : Bool := decide (-1000 ≤ v.1 ∧ v.1 ≤ 1000) && decide (-1000 ≤ v.2 ∧ v.2 ≤ 1000)
theorem vecB_iff {v : Vc} : vecB v = true ↔ (-1000 ≤ v.1 ∧ v.1 ≤ 1000) ∧ (-1000 ≤ v.2 ∧ v.2 ≤ 1000) := by
  unfold vecB
  simp only [Bool.and_eq_true, decide_eq_true_eq]
theorem specIsVec_eq (v : Vc) : f39G KK v = some (vecB v) := by
  unfold f39G vecB
  simp only [in_eq, Option.bind_some, Bool.or_true, cond_true]
  by_cases h : -1000 ≤ v.1 ∧ v.1 ≤ 1000 <;> simp [h]
theorem isVec_eq (v : Vc) : f46G KK v = some (vecB v) := by
  unfold f46G f51G vecB
  simp only [within_eq, Option.bind_some, Bool.or_true, cond_true]
  by_cases h : -1000 ≤ v.1 ∧ v.1 ≤ 1000 <;> simp [h]
theorem prod_bound {a b B : Int} (hB : 0 ≤ B) (h1 : -B ≤ a ∧ a ≤ B) (h2 : -B ≤ b ∧ b ≤ B) : -(B * B) ≤ a * b ∧ a * b ≤ B * B := by
  have hh : (a * b).natAbs ≤ B.natAbs * B.natAbs := by
    rw [Int.natAbs_mul]
    exact Nat.mul_le_mul (by omega) (by omega)
  have e : ((B.natAbs * B.natAbs : Nat) : Int) = B * B := by
    rw [Int.natCast_mul]
    have : (B.natAbs : Int) = B := by omega
    rw [this]
  omega
def smallB (m : Mt) : Bool := vecB (m.1, m.2.1) && vecB m.2.2
theorem stabS_contains (f : Int) (l : Lt) (m : Mt) : (stabS f l).contains m = ((pmS f).contains m && stayS l m) := by
  rw [Bool.eq_iff_iff, Bool.and_eq_true, List.contains_iff_mem, List.contains_iff_mem]
  unfold stabS
  rw [List.mem_filter]
/-- a motion that is suitable -/
def suitB (f : Int) (l : Lt) (m : Mo) : Bool := (stabS f l).contains m.1 && vecB m.2
/-! ### comparing lists of numbers -/
def cmpL : List Int → List Int → Int
  | a :: r, b :: s => bif a == b then cmpL r s else (if a < b then -1 else 1)
  | _, _ => 0
def ltL : List Int → List Int → Bool
  | a :: r, b :: s => bif a == b then ltL r s else decide (a < b)
  | _, _ => false
theorem cmpL_lt : ∀ (a b : List Int), (decide (cmpL a b ≥ 0)) = !ltL a b
  | [], _ => rfl
  | _ :: _, [] => rfl
  | a :: r, b :: s => by
    have ih := cmpL_lt r s
    by_cases h : a = b
    · subst h
      simpa [cmpL, ltL] using ih
    · have h1 : (a == b) = false := by rw [beq_eq_false_iff_ne]; exact h
      simp only [cmpL, ltL, h1, cond_false]
      by_cases h2 : a < b <;> simp [h2]
theorem cmpL_app : ∀ {a b : List Int} (c d : List Int), a.length = b.length → cmpL (a ++ c) (b ++ d) = if cmpL a b = 0 then cmpL c d else cmpL a b
  | [], [], c, d, _ => by simp [cmpL]
  | a :: r, b :: s, c, d, h => by
    have ih := cmpL_app (a := r) (b := s) c d (by simpa using h)
    by_cases h1 : a = b
    · subst h1
      simpa [cmpL] using ih
    · have h2 : (a == b) = false := by rw [beq_eq_false_iff_ne]; exact h1
      simp only [List.cons_append, cmpL, h2, cond_false]
      by_cases h3 : a < b <;> simp [h3]
theorem ltL_irrefl : ∀ a : List Int, ltL a a = false
  | [] => rfl
  | a :: r => by simp [ltL, ltL_irrefl r]
theorem ltL_trans : ∀ {a b c : List Int}, ltL a b = true → ltL b c = true → ltL a c = true
  | [], _, _, h, _ => by simp [ltL] at h
  | _ :: _, [], _, h, _ => by simp [ltL] at h
  | _ :: _, _ :: _, [], _, h => by simp [ltL] at h
  | a :: r, b :: s, c :: t, h, h' => by
    simp only [ltL] at h h' ⊢
    cases h1 : a == b <;> rw [h1] at h <;> cases h2 : b == c <;> rw [h2] at h' <;> simp only [cond_true, cond_false, decide_eq_true_eq] at h h'
    · have : (a == c) = false := by rw [beq_eq_false_iff_ne]; omega
      rw [this, cond_false, decide_eq_true_eq]
      omega
    · have e2 := eq_of_beq h2
      subst e2
      rw [h1, cond_false, decide_eq_true_eq]
      exact h
    · have e1 := eq_of_beq h1
      subst e1
      rw [h2, cond_false, decide_eq_true_eq]
      exact h'
    · have e1 := eq_of_beq h1
      subst e1
      rw [h2, cond_true]
      exact ltL_trans h h'
theorem ltL_tri : ∀ {a b : List Int}, a.length = b.length → ltL a b = false → ltL b a = false → a = b
  | [], [], _, _, _ => rfl
  | a :: r, b :: s, hl, h, h' => by
    simp only [ltL] at h h'
    cases h1 : a == b
    · have h2 : (b == a) = false := by rw [beq_eq_false_iff_ne] at h1 ⊢; exact fun e => h1 e.symm
      rw [h1, cond_false, decide_eq_false_iff_not] at h
      rw [h2, cond_false, decide_eq_false_iff_not] at h'
      rw [beq_eq_false_iff_ne] at h1
      omega
    · have e := eq_of_beq h1
      subst e
      simp only [BEq.rfl, cond_true] at h h'
      rw [ltL_tri (by simpa using hl) h h']
def numV (v : Vc) : List Int := [v.1, v.2]
def numM (m : Mt) : List Int := [m.1, m.2.1, m.2.2.1, m.2.2.2]
def numMo (m : Mo) : List Int := numM m.1 ++ numV m.2
def ltV (u v : Vc) : Bool := ltL (numV u) (numV v)
def ltM (m n : Mo) : Bool := ltL (numMo m) (numMo n)
theorem numMo_inj {m n : Mo} (h : numMo m = numMo n) : m = n := by
  simp only [numMo, numM, numV, List.cons_append, List.nil_append, List.cons.injEq, and_true] at h
  obtain ⟨h1, h2, h3, h4, h5, h6⟩ := h
  exact Prod.ext (Prod.ext h1 (Prod.ext h2 (Prod.ext h3 h4))) (Prod.ext h5 h6)
theorem numV_inj {m n : Vc} (h : numV m = numV n) : m = n := by
  simp only [numV, List.cons.injEq, and_true] at h
  exact Prod.ext h.1 h.2
end Go.Proofs.YtnbghfbpidalhaaDoor.X
/-! Plain facts: which lists are groups, as the program and the reference decide it. -/
namespace Go.Proofs.YtnbghfbpidalhaaDoor.X
open Go
set_option linter.unusedVariables false
def cellB (l : Lt) (v : Vc) : Bool := decide (0 ≤ v.1 ∧ v.1 ≤ l.1 - 1) && decide (0 ≤ v.2 ∧ v.2 ≤ l.2.2 - 1)
theorem cellB_iff {l : Lt} {v : Vc} : cellB l v = true ↔ (0 ≤ v.1 ∧ v.1 ≤ l.1 - 1) ∧ (0 ≤ v.2 ∧ v.2 ≤ l.2.2 - 1) := by
  unfold cellB
  simp only [Bool.and_eq_true, decide_eq_true_eq]
theorem redS_cell {l : Lt} (hl : IsL l) {v : Vc} (h : cellB l v = true) : redS l v = v := by
  obtain ⟨⟨h1, h2⟩, h3, h4⟩ := cellB_iff.1 h
  unfold redS
  have e1 : v.2 / l.2.2 = 0 := Int.ediv_eq_zero_of_lt h3 (by omega)
  have e2 : v.2 % l.2.2 = v.2 := Int.emod_eq_of_lt h3 (by omega)
  rw [e1, e2, Int.zero_mul, Int.sub_zero, Int.emod_eq_of_lt h1 (by omega)]
theorem redS_isCell {l : Lt} (hl : IsL l) (v : Vc) : cellB l (redS l v) = true := by
  obtain ⟨h1, h2, h3, h4⟩ := redS_bounds hl v
  rw [cellB_iff]; omega
theorem cell_bounds {l : Lt} (hl : IsL l) {v : Vc} (h : cellB l v = true) : 0 ≤ v.1 ∧ v.1 ≤ 63 ∧ 0 ≤ v.2 ∧ v.2 ≤ 63 := by
  obtain ⟨⟨h1, h2⟩, h3, h4⟩ := cellB_iff.1 h
  have := hl.a2
  have := hl.c2
  omega
theorem cellB_Sv {l : Lt} (hl : IsL l) {v : Vc} (h : cellB l v = true) : Sv v := by
  have := cell_bounds hl h
  simp only [Sv]; omega
theorem cellB_vec {l : Lt} (hl : IsL l) {v : Vc} (h : cellB l v = true) : vecB v = true := by
  have := cell_bounds hl h
  rw [vecB_iff]; omega
theorem redS_same {l : Lt} (hl : IsL l) (v : Vc) : ((redS l v).1 == v.1 && (redS l v).2 == v.2) = cellB l v := by
  cases h : cellB l v with
  | true => rw [redS_cell hl h]; simp
  | false =>
    cases h2 : ((redS l v).1 == v.1 && (redS l v).2 == v.2) with
    | false => rfl
    | true =>
      rw [Bool.and_eq_true, beq_iff_eq, beq_iff_eq] at h2
      have : redS l v = v := Prod.ext h2.1 h2.2
      have h3 := redS_isCell hl v
      rw [this, h] at h3
      cases h3
theorem reduce_same {l : Lt} (hl : IsL l) (v : Vc) : ∃ r, f45G KK l v = some r ∧ (r.1 == v.1 && r.2 == v.2) = cellB l v := by
  cases h : cellB l v with
  | true => exact ⟨_, reduce_eq hl (Sv_Sm (cellB_Sv hl h)), by rw [redS_cell hl h]; simp⟩
  | false =>
    unfold f45G
    have h0 : (l.2.2 != 0) = true := by have := hl.c1; simp; omega
    rw [mod_eq hl.c1 (by have := hl.c2; omega)]
    simp only [Option.bind_some, h0, cond_true]
    rw [mod_eq hl.a1 (by have := hl.a2; omega)]
    refine ⟨_, rfl, ?_⟩
    cases h2 : ((w (v.1 - w (w ((w (v.2 - v.2 % l.2.2)).tdiv l.2.2) * l.2.1))) % l.1 == v.1 && v.2 % l.2.2 == v.2) with
    | false => rfl
    | true =>
      rw [Bool.and_eq_true, beq_iff_eq, beq_iff_eq] at h2
      have hc := hl.c1
      have ha := hl.a1
      have b1 := Int.emod_nonneg (w (v.1 - w (w ((w (v.2 - v.2 % l.2.2)).tdiv l.2.2) * l.2.1))) (show l.1 ≠ 0 by omega)
      have b2 := Int.emod_lt_of_pos (w (v.1 - w (w ((w (v.2 - v.2 % l.2.2)).tdiv l.2.2) * l.2.1))) (show 0 < l.1 by omega)
      have b3 := Int.emod_nonneg v.2 (show l.2.2 ≠ 0 by omega)
      have b4 := Int.emod_lt_of_pos v.2 (show 0 < l.2.2 by omega)
      rw [h2.1] at b1 b2
      rw [h2.2] at b3 b4
      have : cellB l v = true := by rw [cellB_iff]; omega
      rw [h] at this
      cases this
theorem idxS_any {α : Type} (p : α → Bool) : ∀ (l : List α) (q : Nat), decide (idxS p q l ≥ 0) = l.any p
  | [], _ => rfl
  | a :: l, q => by
    have ih := idxS_any p l (q + 1)
    cases h : p a with
    | false => simpa [idxS, h] using ih
    | true => simp [idxS, h]
theorem eqMt (m n : Mt) : ((m.1 == n.1) && ((m.2.1 == n.2.1) && ((m.2.2.1 == n.2.2.1) && (m.2.2.2 == n.2.2.2)))) = (m == n) := by
  rw [Bool.eq_iff_iff]
  simp only [Bool.and_eq_true, beq_iff_eq, Prod.ext_iff]
theorem eqMo (m n : Mo) : ((m.1.1 == n.1.1) && ((m.1.2.1 == n.1.2.1) && ((m.1.2.2.1 == n.1.2.2.1) && ((m.1.2.2.2 == n.1.2.2.2) && ((m.2.1 == n.2.1) && (m.2.2 == n.2.2)))))) = (m == n) := by
  rw [Bool.eq_iff_iff]
  simp only [Bool.and_eq_true, beq_iff_eq, Prod.ext_iff, and_assoc]
/-! ### maps whose entries are all true -/
theorem mfind_mput {K : Sh} (hK : K.flat = true) {β : Type} : ∀ (xs : List (K.T × β)) (k x : K.T) (v : β), mfind (eqSh K) (mput (eqSh K) xs k v) x = bif eqSh K x k then some v else mfind (eqSh K) xs x
  | [], k, x, v => by simp [mput, mfind]
  | p :: r, k, x, v => by
    simp only [mput]
    cases h : eqSh K k p.1
    · simp only [cond_false, mfind]
      rw [mfind_mput hK r k x v]
      cases h1 : eqSh K x p.1
      · simp
      · have e1 := (eqSh_iff K hK _ _).1 h1
        cases h2 : eqSh K x k
        · simp
        · have e2 := (eqSh_iff K hK _ _).1 h2
          have : eqSh K k p.1 = true := (eqSh_iff K hK _ _).2 (e2.symm.trans e1)
          rw [h] at this
          cases this
    · have e := (eqSh_iff K hK _ _).1 h
      simp only [cond_true, mfind, ← e]
      cases eqSh K x k <;> rfl
theorem mfind_fold {K : Sh} (hK : K.flat = true) [DecidableEq K.T] : ∀ (l : List K.T) (xs : List (K.T × Bool)) (x : K.T), (mfind (eqSh K) (l.foldl (fun s a => mput (eqSh K) s a true) xs) x).getD false = (decide (x ∈ l) || (mfind (eqSh K) xs x).getD false)
  | [], xs, x => by simp
  | a :: l, xs, x => by
    rw [List.foldl_cons, mfind_fold hK l, mfind_mput hK]
    cases h : eqSh K x a
    · have : x ≠ a := fun e => by rw [(eqSh_iff K hK x a).2 e] at h; cases h
      simp [this]
    · have := (eqSh_iff K hK x a).1 h
      simp [this]
abbrev shMo : Sh := .cons (.cons (.int .i64) (.cons (.int .i64) (.cons (.int .i64) (.int .i64)))) (.cons (.int .i64) (.int .i64))
def mapMo (g : List Mo) : List (Mo × Bool) := g.foldl (fun s a => mput (eqSh shMo) s a true) []
theorem mapMo_find (g : List Mo) (x : Mo) : (mfind (eqSh shMo) (mapMo g) x).getD false = g.contains x := by
  have h := mfind_fold (K := shMo) rfl g [] x
  refine Eq.trans h ?_
  simp [mfind, List.contains_eq_mem]
/-! ### products -/
def mmS (m n : Mt) : Mt := (m.1 * n.1 + m.2.1 * n.2.2.1, m.1 * n.2.1 + m.2.1 * n.2.2.2, m.2.2.1 * n.1 + m.2.2.2 * n.2.2.1, m.2.2.1 * n.2.1 + m.2.2.2 * n.2.2.2)
def mulG (l : Lt) (m n : Mo) : Mo := (mmS m.1 n.1, redS l (appS m n.2))
theorem mm_calc {m n : Mt} (hm : SmM m) (hn : SmM n) : ((w ((w (m.1 * n.1)) + (w (m.2.1 * n.2.2.1)))), (w ((w (m.1 * n.2.1)) + (w (m.2.1 * n.2.2.2)))), (w ((w (m.2.2.1 * n.1)) + (w (m.2.2.2 * n.2.2.1)))), (w ((w (m.2.2.1 * n.2.1)) + (w (m.2.2.2 * n.2.2.2))))) = mmS m n := by
  obtain ⟨a, b, c, d⟩ := hm
  obtain ⟨a', b', c', d'⟩ := hn
  have h : ∀ {x y : Int}, (-1 ≤ x ∧ x ≤ 1) → (-1 ≤ y ∧ y ≤ 1) → -1 ≤ x * y ∧ x * y ≤ 1 := fun {x y} hx hy => by
    have := unit_mul hx (B := 1) (x := y) (by omega) (by omega) (by omega)
    omega
  have h1 := h a a'; have h2 := h b c'; have h3 := h a b'; have h4 := h b d'; have h5 := h c a'; have h6 := h d c'; have h7 := h c b'; have h8 := h d d'
  unfold mmS
  rw [w_id (n := m.1 * n.1) (by omega) (by omega), w_id (n := m.2.1 * n.2.2.1) (by omega) (by omega), w_id (n := m.1 * n.2.1) (by omega) (by omega), w_id (n := m.2.1 * n.2.2.2) (by omega) (by omega), w_id (n := m.2.2.1 * n.1) (by omega) (by omega), w_id (n := m.2.2.2 * n.2.2.1) (by omega) (by omega), w_id (n := m.2.2.1 * n.2.1) (by omega) (by omega), w_id (n := m.2.2.2 * n.2.2.2) (by omega) (by omega)]
  rw [w_id (n := m.1 * n.1 + m.2.1 * n.2.2.1) (by omega) (by omega), w_id (n := m.1 * n.2.1 + m.2.1 * n.2.2.2) (by omega) (by omega), w_id (n := m.2.2.1 * n.1 + m.2.2.2 * n.2.2.1) (by omega) (by omega), w_id (n := m.2.2.1 * n.2.1 + m.2.2.2 * n.2.2.2) (by omega) (by omega)]
def GoodG (m : Mo) : Prop := m.1 ∈ pmQ ++ pmH ∧ Sv m.2
theorem app_calc {m : Mt × Vc} (hm : SmM m.1) {v : Vc} (hv : Sv v) (ht : Sv m.2) : (w ((mulS m.1 v).1 + m.2.1), w ((mulS m.1 v).2 + m.2.2)) = appS m v := by
  obtain ⟨h1, h2, h3, h4⟩ := mulS_bound hm hv
  obtain ⟨t1, t2, t3, t4⟩ := ht
  unfold appS
  rw [w_id (by omega) (by omega), w_id (by omega) (by omega)]
/-! ### lists in order -/
def dMo : Mo := ((0, 0, 0, 0), 0, 0)
def uMo : Mo := ((1, 0, 0, 1), 0, 0)
def preP (f : Int) (l : Lt) (g : List Mo) (q : Nat) (a : Mo) : Bool := (stabS f l).contains a.1 && (cellB l a.2 && (Nat.beq q 0 || ltM (g.getD (q - 1) dMo) a))
def grpB (f : Int) (l : Lt) (g : List Mo) : Bool := allFrom (preP f l g) 0 g && (g.contains uMo && g.all fun m => g.all fun n => g.contains (mulG l m n))
structure Pre (f : Int) (l : Lt) (g : List Mo) : Prop where
  mem : ∀ m ∈ g, m.1 ∈ stabS f l ∧ cellB l m.2 = true
  up : ∀ i (h : i + 1 < g.length), ltM g[i] g[i + 1] = true
theorem pre_of {f : Int} {l : Lt} {g : List Mo} (h : allFrom (preP f l g) 0 g = true) : Pre f l g := by
  have hg := allFrom_get h
  refine ⟨fun m hm => ?_, fun i hi => ?_⟩
  · obtain ⟨i, hi, rfl⟩ := List.getElem_of_mem hm
    have := hg i hi
    unfold preP at this
    rw [Bool.and_eq_true, Bool.and_eq_true, List.contains_iff_mem] at this
    exact ⟨this.1, this.2.1⟩
  · have := hg (i + 1) hi
    unfold preP at this
    rw [Bool.and_eq_true, Bool.and_eq_true, Bool.or_eq_true] at this
    rcases this.2.2 with h1 | h1
    · have := Nat.eq_of_beq_eq_true h1; omega
    · have e : (0 + (i + 1) - 1) = i := by omega
      rw [e] at h1
      simpa [List.getD, show i < g.length by omega] using h1
theorem Pre.lt {f : Int} {l : Lt} {g : List Mo} (h : Pre f l g) : ∀ (j i : Nat) (hj : j < g.length) (hi : i < j), ltM g[i] g[j] = true
  | 0, i, hj, hi => by omega
  | j + 1, i, hj, hi => by
    by_cases e : i = j
    · subst e; exact h.up i hj
    · exact ltL_trans (h.lt j i (by omega) (by omega)) (h.up j hj)
theorem Pre.good {f : Int} {l : Lt} (hl : IsL l) {g : List Mo} (h : Pre f l g) {m : Mo} (hm : m ∈ g) : GoodG m := ⟨stab_mem (h.mem m hm).1, cellB_Sv hl (h.mem m hm).2⟩
theorem Pre.nodup {f : Int} {l : Lt} {g : List Mo} (h : Pre f l g) : g.Nodup := by
  rw [List.Nodup, List.pairwise_iff_getElem]
  intro i j hi hj hij e
  have := h.lt j i hj hij
  rw [e] at this
  unfold ltM at this
  rw [ltL_irrefl] at this
  cases this
theorem nodup_len {α : Type} [DecidableEq α] : ∀ (l m : List α), l.Nodup → (∀ x ∈ l, x ∈ m) → l.length ≤ m.length
  | [], m, _, _ => Nat.zero_le _
  | a :: l, m, hn, h => by
    have ha := h a (by simp)
    rw [List.nodup_cons] at hn
    have := nodup_len l (m.erase a) hn.2 fun x hx => by
      have hne : x ≠ a := fun e => hn.1 (e ▸ hx)
      exact (List.mem_erase_of_ne hne).2 (h x (by simp [hx]))
    rw [List.length_erase_of_mem ha] at this
    have := List.length_pos_of_mem ha
    simp only [List.length_cons]
    omega
theorem cellB_mem {l : Lt} (hl : IsL l) {v : Vc} (h : cellB l v = true) : v ∈ cellsS l := by
  obtain ⟨⟨h1, h2⟩, h3, h4⟩ := cellB_iff.1 h
  have := hl.a1
  have := hl.c1
  unfold cellsS rowS
  rw [List.mem_flatMap]
  refine ⟨v.1.toNat, List.mem_range.2 (by omega), List.mem_map.2 ⟨v.2.toNat, List.mem_range.2 (by omega), Prod.ext ?_ ?_⟩⟩ <;> simp only <;> omega
theorem Pre.len {f : Int} {l : Lt} (hl : IsL l) {g : List Mo} (h : Pre f l g) : g.length ≤ 768 := by
  have := nodup_len g ((stabS f l).flatMap fun m => (cellsS l).map fun v => (m, v)) h.nodup fun x hx => by
    obtain ⟨h1, h2⟩ := h.mem x hx
    exact List.mem_flatMap.2 ⟨x.1, h1, List.mem_map.2 ⟨x.2, cellB_mem hl h2, rfl⟩⟩
  have h2 := flatMap_len (fun m : Mt => (cellsS l).map fun v : Vc => (m, v)) 64 (fun m => by rw [List.length_map]; exact cellsS_le hl) (stabS f l)
  have h3 := stab_len f l
  have : (stabS f l).length * 64 ≤ 12 * 64 := Nat.mul_le_mul_right _ h3
  omega
end Go.Proofs.YtnbghfbpidalhaaDoor.X
/-! Plain facts: isGroup and IsGroup decide the same. -/
namespace Go.Proofs.YtnbghfbpidalhaaDoor.X
open Go
set_option linter.unusedVariables false
theorem getP {g : List Mo} {q : Nat} (hq : q + 1 < 4611686018427387904) (d : Mo) : g.getD ((0 : Int) + (w ((((q + 1 : Nat)) : Int) - (1 : Int)))).toNat d = g.getD q d := by
  rw [w_id (by omega) (by omega)]
  congr 1
  omega
theorem inP {g : List Mo} {q : Nat} (hq : q + 1 < g.length) (h2 : q + 1 < 4611686018427387904) : (decide (0 ≤ (w (((q + 1 : Nat) : Int) - (1 : Int)))) && decide ((w (((q + 1 : Nat) : Int) - (1 : Int))) < (g.length : Int))) = true := by
  rw [w_id (by omega) (by omega), Bool.and_eq_true, decide_eq_true_eq, decide_eq_true_eq]
  omega
theorem etaMo (m : Mo) : ((m.1.1, m.1.2.1, m.1.2.2), m.2) = m := rfl
theorem suit_cell {f : Int} {l : Lt} (hl : IsL l) (m : Mo) : (suitB f l m && cellB l m.2) = ((stabS f l).contains m.1 && cellB l m.2) := by
  unfold suitB
  cases h : cellB l m.2 with
  | false => simp
  | true => rw [cellB_vec hl h]; simp
/-! ### binary search -/
/-! ### closed under products -/
def codeG (f : Int) (l : Lt) (g : List Mo) : Int := if okF f && okL l then (if grpB f l g then 0 else 2) else 1
end Go.Proofs.YtnbghfbpidalhaaDoor.X
/-! Plain facts: tiles, copies of tiles, and whether they tile. -/
namespace Go.Proofs.YtnbghfbpidalhaaDoor.X
open Go
set_option linter.unusedVariables false
def tileP (t : List Vc) (q : Nat) (v : Vc) : Bool := vecB v && (Nat.beq q 0 || ltV (t.getD (q - 1) (0, 0)) v)
def tileB (t : List Vc) : Bool := allFrom (tileP t) 0 t && (decide (1 ≤ t.length) && decide (t.length ≤ 16))
theorem getV {g : List Vc} {q : Nat} (hq : q + 1 < 4611686018427387904) (d : Vc) : g.getD ((0 : Int) + (w ((((q + 1 : Nat)) : Int) - (1 : Int)))).toNat d = g.getD q d := by
  rw [w_id (by omega) (by omega)]
  congr 1
  omega
theorem inV {g : List Vc} {q : Nat} (hq : q + 1 < g.length) (h2 : q + 1 < 4611686018427387904) : (decide (0 ≤ (w (((q + 1 : Nat) : Int) - (1 : Int)))) && decide ((w (((q + 1 : Nat) : Int) - (1 : Int))) < (g.length : Int))) = true := by
  rw [w_id (by omega) (by omega), Bool.and_eq_true, decide_eq_true_eq, decide_eq_true_eq]
  omega
theorem int_ge1 (n : Nat) : decide ((n : Int) ≥ 1) = decide (1 ≤ n) := by
  by_cases h : 1 ≤ n <;> simp <;> omega
theorem int_le16 (n : Nat) : decide ((n : Int) ≤ 16) = decide (n ≤ 16) := by
  by_cases h : n ≤ 16 <;> simp <;> omega
theorem tile_of {t : List Vc} (h : tileB t = true) : (∀ v ∈ t, vecB v = true) ∧ 1 ≤ t.length ∧ t.length ≤ 16 := by
  unfold tileB at h
  rw [Bool.and_eq_true, Bool.and_eq_true, decide_eq_true_eq, decide_eq_true_eq] at h
  refine ⟨fun v hv => ?_, h.2⟩
  obtain ⟨i, hi, rfl⟩ := List.getElem_of_mem hv
  have := allFrom_get h.1 i hi
  unfold tileP at this
  rw [Bool.and_eq_true] at this
  exact this.1
def codeT (f : Int) (l : Lt) (g : List Mo) (t : List Vc) : Int := if okF f && okL l && tileB t then (if grpB f l g then 0 else 2) else 1
/-- what code 0 says -/
structure TileG (f : Int) (l : Lt) (g : List Mo) (t : List Vc) : Prop where
  fr : okF f = true
  la : IsL l
  pr : Pre f l g
  vec : ∀ v ∈ t, vecB v = true
  t1 : 1 ≤ t.length
  t2 : t.length ≤ 16
theorem codeT_0 {f : Int} {l : Lt} {g : List Mo} {t : List Vc} (h : codeT f l g t = 0) : TileG f l g t := by
  unfold codeT at h
  split at h
  · rename_i hc
    rw [Bool.and_eq_true, Bool.and_eq_true] at hc
    split at h
    · rename_i hg
      unfold grpB at hg
      rw [Bool.and_eq_true] at hg
      obtain ⟨h1, h2, h3⟩ := tile_of hc.2
      exact ⟨hc.1.1, okL_iff.1 hc.1.2, pre_of hg.1, h1, h2, h3⟩
    · cases h
  · cases h
theorem vecB_Sv {v : Vc} (h : vecB v = true) : Sv v := by
  rw [vecB_iff] at h
  simp only [Sv]; omega
def mvS (l : Lt) (m : Mo) (v : Vc) : Vc := redS l (appS m v)
def cpsS (l : Lt) (g : List Mo) (t : List Vc) : List (List Vc) := g.map fun m => t.map (mvS l m)
theorem blim24 {n : Nat} (h : n ≤ 1000000) : Nat.ble n (lim 24) = true := by
  simp only [lim, Nat.ble_eq]; omega
end Go.Proofs.YtnbghfbpidalhaaDoor.X
/-! Plain facts: whether copies tile, by the owners of cells and by the set of cells. -/
namespace Go.Proofs.YtnbghfbpidalhaaDoor.X
open Go
set_option linter.unusedVariables false
/-! ### owners -/
def putR (i : Int) : List Nat → List Int → Option (List Int)
  | [], o => some o
  | n :: r, o => bif decide (o.getD n 0 ≥ 0) then none else putR i r (o.set n i)
def putA : List (List Nat) → Nat → List Int → Option (List Int)
  | [], _, o => some o
  | c :: r, i, o => match putR (i : Int) c o with | some o' => putA r (i + 1) o' | none => none
theorem putR_spec {i : Int} (hi : 0 ≤ i) : ∀ (c : List Nat) (o : List Int), (∀ n ∈ c, n < o.length) →
    (∀ o', putR i c o = some o' → c.Nodup ∧ (∀ n ∈ c, o.getD n 0 < 0) ∧ o'.length = o.length ∧ ∀ k, o'.getD k 0 = if k ∈ c then i else o.getD k 0) ∧ (c.Nodup → (∀ n ∈ c, o.getD n 0 < 0) → ∃ o', putR i c o = some o')
  | [], o, _ => ⟨fun o' h => by cases h; exact ⟨List.nodup_nil, by simp, rfl, by simp⟩, fun _ _ => ⟨o, rfl⟩⟩
  | n :: r, o, hlt => by
    have hn := hlt n (by simp)
    have ih := putR_spec hi r (o.set n i) fun m hm => by rw [List.length_set]; exact hlt m (by simp [hm])
    have hget : ∀ k, (o.set n i).getD k 0 = if k = n then i else o.getD k 0 := fun k => by
      simp only [List.getD, List.getElem?_set]
      by_cases h : n = k
      · subst h; simp [hn]
      · simp [h, Ne.symm h]
    refine ⟨fun o' h => ?_, fun hnd hneg => ?_⟩
    · simp only [putR] at h
      by_cases h0 : o.getD n 0 ≥ 0
      · rw [decide_eq_true h0] at h; cases h
      · rw [decide_eq_false h0, cond_false] at h
        obtain ⟨h1, h2, h3, h4⟩ := ih.1 o' h
        have hnr : n ∉ r := fun hm => by
          have := h2 n hm
          rw [hget, if_pos rfl] at this
          omega
        refine ⟨List.nodup_cons.2 ⟨hnr, h1⟩, fun m hm => ?_, by rw [h3, List.length_set], fun k => ?_⟩
        · rcases List.mem_cons.1 hm with rfl | hm
          · omega
          · have := h2 m hm
            rw [hget] at this
            split at this
            · rename_i e; exact absurd (e ▸ hm) hnr
            · exact this
        · rw [h4, hget]
          by_cases h5 : k ∈ r
          · simp [h5]
          · by_cases h6 : k = n
            · simp [h6]
            · simp [h5, h6]
    · rw [List.nodup_cons] at hnd
      have h0 := hneg n (by simp)
      simp only [putR]
      rw [decide_eq_false (by omega), cond_false]
      refine ih.2 hnd.2 fun m hm => ?_
      rw [hget, if_neg (fun (e : m = n) => hnd.1 (e ▸ hm))]
      exact hneg m (by simp [hm])
/-- the first copy that has a cell -/
def ownS : List (List Nat) → Nat → Nat → Option Nat
  | [], _, _ => none
  | c :: r, i, k => if k ∈ c then some i else ownS r (i + 1) k
theorem putA_spec : ∀ (C : List (List Nat)) (i : Nat) (o : List Int), (∀ c ∈ C, ∀ n ∈ c, n < o.length) →
    (∀ o', putA C i o = some o' → C.flatten.Nodup ∧ (∀ n ∈ C.flatten, o.getD n 0 < 0) ∧ o'.length = o.length ∧ ∀ k, o'.getD k 0 = match ownS C i k with | some j => (j : Int) | none => o.getD k 0) ∧ (C.flatten.Nodup → (∀ n ∈ C.flatten, o.getD n 0 < 0) → ∃ o', putA C i o = some o')
  | [], i, o, _ => ⟨fun o' h => by cases h; exact ⟨List.nodup_nil, by simp, rfl, by simp [ownS]⟩, fun _ _ => ⟨o, rfl⟩⟩
  | c :: r, i, o, hlt => by
    have h1 := putR_spec (i := (i : Int)) (by omega) c o (hlt c (by simp))
    refine ⟨fun o' h => ?_, fun hnd hneg => ?_⟩
    · simp only [putA] at h
      split at h
      · rename_i o1 ho1
        obtain ⟨a1, a2, a3, a4⟩ := h1.1 o1 ho1
        have ih := putA_spec r (i + 1) o1 fun c' hc' n hn => by rw [a3]; exact hlt c' (by simp [hc']) n hn
        obtain ⟨b1, b2, b3, b4⟩ := ih.1 o' h
        have hdis : ∀ n ∈ c, n ∉ r.flatten := fun n hn hm => by
          have := b2 n hm
          rw [a4, if_pos hn] at this
          omega
        refine ⟨?_, fun n hn => ?_, b3.trans a3, fun k => ?_⟩
        · rw [List.flatten_cons, List.nodup_append]
          exact ⟨a1, b1, fun x hx y hy e => hdis x hx (e ▸ hy)⟩
        · rw [List.flatten_cons, List.mem_append] at hn
          rcases hn with hn | hn
          · exact a2 n hn
          · have := b2 n hn
            rw [a4] at this
            split at this
            · omega
            · exact this
        · rw [b4]
          simp only [ownS]
          by_cases hk : k ∈ c
          · rw [if_pos hk]
            have hno : ownS r (i + 1) k = none := by
              have : ∀ (C : List (List Nat)) (i : Nat), k ∉ C.flatten → ownS C i k = none := by
                intro C
                induction C with
                | nil => intro i _; rfl
                | cons d D ihD =>
                  intro i hh
                  rw [List.flatten_cons, List.mem_append] at hh
                  simp only [ownS]
                  rw [if_neg (fun h => hh (.inl h)), ihD _ (fun h => hh (.inr h))]
              exact this r (i + 1) (hdis k hk)
            rw [hno]
            simp only
            rw [a4, if_pos hk]
          · rw [if_neg hk]
            cases ownS r (i + 1) k with
            | some j => rfl
            | none => simp only; rw [a4, if_neg hk]
      · cases h
    · rw [List.flatten_cons, List.nodup_append] at hnd
      obtain ⟨n1, n2, n3⟩ := hnd
      obtain ⟨o1, ho1⟩ := h1.2 n1 fun n hn => hneg n (by simp [hn])
      obtain ⟨a1, a2, a3, a4⟩ := h1.1 o1 ho1
      have ih := putA_spec r (i + 1) o1 fun c' hc' n hn => by rw [a3]; exact hlt c' (by simp [hc']) n hn
      simp only [putA, ho1]
      refine ih.2 n2 fun n hn => ?_
      rw [a4, if_neg (fun h => n3 n h n hn rfl)]
      exact hneg n (by rw [List.flatten_cons]; exact List.mem_append_right _ hn)
theorem ownS_some : ∀ {C : List (List Nat)} {i k : Nat}, k ∈ C.flatten → ∃ j, ownS C i k = some (i + j) ∧ ∃ (h : j < C.length), k ∈ C[j]
  | [], _, _, h => by simp at h
  | c :: r, i, k, h => by
    simp only [ownS]
    by_cases hk : k ∈ c
    · exact ⟨0, by simp [hk], by simp, by simpa using hk⟩
    · rw [if_neg hk]
      rw [List.flatten_cons, List.mem_append] at h
      obtain ⟨j, h1, h2, h3⟩ := ownS_some (i := i + 1) (h.resolve_left hk)
      exact ⟨j + 1, by rw [h1]; congr 1; omega, by simp; omega, by simpa using h3⟩
/-! ### the set of cells -/
theorem nodup_of_len {α : Type} [DecidableEq α] : ∀ (l m : List α), m.Nodup → (∀ x ∈ m, x ∈ l) → (∀ x ∈ l, x ∈ m) → l.length ≤ m.length → l.Nodup
  | [], _, _, _, _, _ => List.nodup_nil
  | a :: r, m, hm, h1, h2, h3 => by
    have ha : a ∉ r := fun har => by
      have := nodup_len m r hm fun x hx => by
        rcases List.mem_cons.1 (h1 x hx) with rfl | h
        · exact har
        · exact h
      simp only [List.length_cons] at h3
      omega
    have hma := h2 a (by simp)
    refine List.nodup_cons.2 ⟨ha, nodup_of_len r (m.erase a) (hm.erase a) (fun x hx => ?_) (fun x hx => ?_) ?_⟩
    · have hxm := List.mem_of_mem_erase hx
      rcases List.mem_cons.1 (h1 x hxm) with rfl | h
      · exact absurd hx (hm.not_mem_erase)
      · exact h
    · exact (List.mem_erase_of_ne (fun (e : x = a) => ha (e ▸ hx))).2 (h2 x (by simp [hx]))
    · rw [List.length_erase_of_mem hma]
      simp only [List.length_cons] at h3
      omega
theorem full_of_len {α : Type} [DecidableEq α] (l m : List α) (hm : m.Nodup) (h1 : ∀ x ∈ m, x ∈ l) (h2 : l.length ≤ m.length) : ∀ x ∈ l, x ∈ m := fun x hx => by
  refine Decidable.byContradiction fun hn => ?_
  have := nodup_len m (l.erase x) hm fun y hy => (List.mem_erase_of_ne (fun (e : y = x) => hn (e ▸ hy))).2 (h1 y hy)
  rw [List.length_erase_of_mem hx] at this
  have := List.length_pos_of_mem hx
  omega
theorem mput_keys {K : Sh} (hK : K.flat = true) : ∀ (xs : List (K.T × Bool)) (k : K.T) (v : Bool), (xs.map (·.1)).Nodup → ((mput (eqSh K) xs k v).map (·.1)).Nodup ∧ ∀ x, x ∈ (mput (eqSh K) xs k v).map (·.1) ↔ x = k ∨ x ∈ xs.map (·.1)
  | [], k, v, _ => by simp [mput]
  | p :: r, k, v, h => by
    rw [List.map_cons, List.nodup_cons] at h
    simp only [mput]
    cases he : eqSh K k p.1
    · have hne : k ≠ p.1 := fun e => by rw [(eqSh_iff K hK _ _).2 e] at he; cases he
      obtain ⟨h1, h2⟩ := mput_keys hK r k v h.2
      rw [cond_false, List.map_cons]
      refine ⟨List.nodup_cons.2 ⟨fun hm => ?_, h1⟩, fun x => ?_⟩
      · rcases (h2 p.1).1 hm with e | hm
        · exact hne e.symm
        · exact h.1 hm
      · rw [List.mem_cons, h2, List.map_cons, List.mem_cons]
        constructor
        · rintro (h | h | h)
          · exact .inr (.inl h)
          · exact .inl h
          · exact .inr (.inr h)
        · rintro (h | h | h)
          · exact .inr (.inl h)
          · exact .inl h
          · exact .inr (.inr h)
    · have e := (eqSh_iff K hK _ _).1 he
      rw [cond_true, List.map_cons]
      subst e
      refine ⟨List.nodup_cons.2 h, fun x => ?_⟩
      rw [List.mem_cons, List.map_cons, List.mem_cons]
      constructor
      · rintro (h | h)
        · exact .inl h
        · exact .inr (.inr h)
      · rintro (h | h | h)
        · exact .inl h
        · exact .inl h
        · exact .inr h
abbrev shV : Sh := .cons (.int .i64) (.int .i64)
def setV (xs : List (Vc × Bool)) (vs : List Vc) : List (Vc × Bool) := vs.foldl (fun s a => mput (eqSh shV) s a true) xs
theorem setV_keys : ∀ (vs : List Vc) (xs : List (Vc × Bool)), (xs.map (·.1)).Nodup → ((setV xs vs).map (·.1)).Nodup ∧ ∀ x, x ∈ (setV xs vs).map (·.1) ↔ x ∈ vs ∨ x ∈ xs.map (·.1)
  | [], xs, h => by simpa [setV] using h
  | v :: r, xs, h => by
    obtain ⟨h1, h2⟩ := mput_keys (K := shV) rfl xs v true h
    obtain ⟨h3, h4⟩ := setV_keys r (mput (eqSh shV) xs v true) h1
    refine ⟨h3, fun x => (h4 x).trans ?_⟩
    rw [h2, List.mem_cons]
    constructor
    · rintro (h | h | h)
      · exact .inl (.inr h)
      · exact .inl (.inl h)
      · exact .inr h
    · rintro ((h | h) | h)
      · exact .inr (.inl h)
      · exact .inl h
      · exact .inr (.inr h)
/-- copies tile: no cell twice, and every cell -/
def tilesP (l : Lt) (g : List Mo) (t : List Vc) : Prop := (cpsS l g t).flatten.Nodup ∧ ∀ v ∈ cellsS l, v ∈ (cpsS l g t).flatten
instance (l : Lt) (g : List Mo) (t : List Vc) : Decidable (tilesP l g t) := by unfold tilesP; infer_instance
theorem cps_len (l : Lt) (g : List Mo) (t : List Vc) : (cpsS l g t).flatten.length = g.length * t.length := by
  unfold cpsS
  induction g with
  | nil => simp
  | cons m g ih => rw [List.map_cons, List.flatten_cons, List.length_append, ih, List.length_map, List.length_cons, Nat.succ_mul]; omega
theorem cps_mem {l : Lt} {g : List Mo} {t : List Vc} {v : Vc} (h : v ∈ (cpsS l g t).flatten) : ∃ m ∈ g, ∃ u ∈ t, v = mvS l m u := by
  simp only [cpsS, List.mem_flatten, List.mem_map] at h
  obtain ⟨c, ⟨m, hm, rfl⟩, hv⟩ := h
  obtain ⟨u, hu, e⟩ := List.mem_map.1 hv
  exact ⟨m, hm, u, hu, e.symm⟩
theorem cps_cell {l : Lt} (hl : IsL l) {g : List Mo} {t : List Vc} {v : Vc} (h : v ∈ (cpsS l g t).flatten) : cellB l v = true := by
  obtain ⟨m, _, u, _, rfl⟩ := cps_mem h
  exact redS_isCell hl _
theorem cellsS_nodup {l : Lt} (hl : IsL l) : (cellsS l).Nodup := by
  rw [List.Nodup, List.pairwise_iff_getElem]
  intro i j hi hj hij e
  have h1 := cellsS_num hl hi
  have h2 := cellsS_num hl hj
  rw [e, h2] at h1
  omega
theorem set_tiles {l : Lt} (hl : IsL l) (g : List Mo) (t : List Vc) : ((setV [] (cpsS l g t).flatten).length = (cellsS l).length ∧ (setV [] (cpsS l g t).flatten).length = g.length * t.length) ↔ tilesP l g t := by
  obtain ⟨h1, h2⟩ := setV_keys (cpsS l g t).flatten [] (by simp)
  have hlen : ((setV [] (cpsS l g t).flatten).map (·.1)).length = (setV [] (cpsS l g t).flatten).length := List.length_map ..
  have hin : ∀ x ∈ (setV [] (cpsS l g t).flatten).map (·.1), x ∈ cellsS l := fun x hx => by
    have := (h2 x).1 hx
    simp at this
    exact cellB_mem hl (cps_cell hl (by simpa using this))
  rw [← hlen]
  constructor
  · rintro ⟨e1, e2⟩
    refine ⟨nodup_of_len _ _ h1 (fun x hx => ?_) (fun x hx => (h2 x).2 (.inl hx)) ?_, fun v hv => ?_⟩
    · have := (h2 x).1 hx
      simpa using this
    · rw [cps_len, e2]; exact Nat.le_refl _
    · have := full_of_len (cellsS l) _ h1 hin (by omega) v hv
      have := (h2 v).1 this
      simpa using this
  · rintro ⟨p1, p2⟩
    have a1 := nodup_len _ _ h1 hin
    have a2 := nodup_len (cellsS l) _ (cellsS_nodup hl) fun x hx => (h2 x).2 (.inl (p2 x hx))
    have a3 := nodup_len _ (cpsS l g t).flatten h1 fun x hx => by
      have := (h2 x).1 hx
      simpa using this
    have a4 := nodup_len _ _ p1 fun x hx => (h2 x).2 (.inl hx)
    rw [cps_len] at a3 a4
    omega
end Go.Proofs.YtnbghfbpidalhaaDoor.X
/-! Plain facts: tilesByGroup and the owners decide the same. -/
namespace Go.Proofs.YtnbghfbpidalhaaDoor.X
open Go
set_option linter.unusedVariables false
theorem setV_flat : ∀ (C : List (List Vc)) (s : List (Vc × Bool)), C.foldl setV s = setV s C.flatten
  | [], s => rfl
  | c :: r, s => by
    rw [List.foldl_cons, setV_flat r, List.flatten_cons]
    unfold setV
    rw [List.foldl_append]
theorem getC {C : List (List Vc)} {x : Nat} (h : x < C.length) : C.getD ((0 : Int) + (x : Int)).toNat [] = C[x] := gd h
theorem cps_get {l : Lt} {g : List Mo} {t : List Vc} {x : Nat} (h : x < (cpsS l g t).length) : (cpsS l g t)[x].length = t.length := by
  simp [cpsS]
theorem cpsS_length (l : Lt) (g : List Mo) (t : List Vc) : (cpsS l g t).length = g.length := by simp [cpsS]
theorem len_eq {l : Lt} (hl : IsL l) : w (l.1 * l.2.2) = ((cellsS l).length : Int) := by
  rw [cellsS_len hl, idx_nat hl]
  have := hl.ix
  have : 0 ≤ l.1 * l.2.2 := Int.mul_nonneg (by have := hl.a1; omega) (by have := hl.c1; omega)
  exact w_id (by omega) (by omega)
/-! ### the owners -/
theorem numS_lt {l : Lt} (hl : IsL l) (v : Vc) : numS l v < (cellsS l).length := by
  have h1 := (num_calc hl v).2
  rw [cellsS_len hl]
  have := idx_nat hl
  omega
def cnS (l : Lt) (C : List (List Vc)) : List (List Nat) := C.map fun c => c.map (numS l)
theorem putA_cons {C : List (List Nat)} {i : Nat} {o : List Int} {c : List Nat} : putA (c :: C) i o = match putR (i : Int) c o with | some o' => putA C (i + 1) o' | none => none := rfl
theorem cells_cover {l : Lt} (hl : IsL l) (vs : List Vc) (hc : ∀ v ∈ vs, cellB l v = true) : (∀ v ∈ cellsS l, v ∈ vs) ↔ ∀ k, k < (cellsS l).length → k ∈ vs.map (numS l) := by
  constructor
  · intro h k hk
    exact List.mem_map.2 ⟨(cellsS l)[k], h _ (List.getElem_mem hk), cellsS_num hl hk⟩
  · intro h v hv
    obtain ⟨k, hk, rfl⟩ := List.getElem_of_mem hv
    obtain ⟨u, hu, e⟩ := List.mem_map.1 (h k hk)
    obtain ⟨j, hj, e2⟩ := List.getElem_of_mem (cellB_mem hl (hc u hu))
    have : j = k := by rw [← cellsS_num hl hj, e2, e]
    subst this
    rw [e2]
    exact hu
theorem num_inj {l : Lt} (hl : IsL l) {u v : Vc} (hu : cellB l u = true) (hv : cellB l v = true) (h : numS l u = numS l v) : u = v := by
  obtain ⟨i, hi, e1⟩ := List.getElem_of_mem (cellB_mem hl hu)
  obtain ⟨j, hj, e2⟩ := List.getElem_of_mem (cellB_mem hl hv)
  have h1 := cellsS_num hl hi
  have h2 := cellsS_num hl hj
  rw [e1] at h1
  rw [e2] at h2
  have : i = j := by omega
  subst this
  rw [← e1, ← e2]
theorem nodup_map_num {l : Lt} (hl : IsL l) : ∀ (vs : List Vc), (∀ v ∈ vs, cellB l v = true) → ((vs.map (numS l)).Nodup ↔ vs.Nodup)
  | [], _ => by simp
  | v :: vs, h => by
    rw [List.map_cons, List.nodup_cons, List.nodup_cons, nodup_map_num hl vs fun u hu => h u (by simp [hu])]
    constructor
    · rintro ⟨h1, h2⟩
      exact ⟨fun hm => h1 (List.mem_map.2 ⟨v, hm, rfl⟩), h2⟩
    · rintro ⟨h1, h2⟩
      refine ⟨fun hm => ?_, h2⟩
      obtain ⟨u, hu, e⟩ := List.mem_map.1 hm
      exact h1 (num_inj hl (h u (by simp [hu])) (h v (by simp)) e ▸ hu)
theorem cn_flat (l : Lt) : ∀ C : List (List Vc), (cnS l C).flatten = C.flatten.map (numS l)
  | [] => rfl
  | c :: C => by
    have := cn_flat l C
    unfold cnS at this ⊢
    rw [List.map_cons, List.flatten_cons, List.flatten_cons, List.map_append, this]
theorem rep_getD (n k : Nat) : (List.replicate n (-1 : Int)).getD k 0 = if k < n then -1 else 0 := by
  by_cases h : k < n
  · simp [List.getD, h]
  · simp [List.getD, h]
end Go.Proofs.YtnbghfbpidalhaaDoor.X
/-! Plain facts: copies and comparisons of lists of motions and of vectors. -/
namespace Go.Proofs.YtnbghfbpidalhaaDoor.X
open Go
set_option linter.unusedVariables false
theorem iter_copy {α : Type} {body : (Int × List α → Option (List α)) → Int × List α → Option (List α)} (l : List α)
    (h1 : ∀ L q s (hq : q < l.length), s.length = l.length → body L ((q : Int), s) = L (((q + 1 : Nat) : Int), s.set q l[q])) (h2 : ∀ L s, body L ((l.length : Int), s) = some s) : ∀ n q s, q ≤ l.length → l.length - q < n → s.length = l.length → s.take q = l.take q → iter body n ((q : Int), s) = some l
  | 0, q, s, _, h, _, _ => by omega
  | n + 1, q, s, hq, h, hs, ht => by
    show body (iter body n) ((q : Int), s) = _
    by_cases hlt : q < l.length
    · rw [h1 _ q s hlt hs]
      refine iter_copy l h1 h2 n (q + 1) _ hlt (by omega) (by rw [List.length_set, hs]) ?_
      rw [List.take_add_one, List.take_add_one, List.take_set_of_le (Nat.le_refl _), ht, List.getElem?_set_self (by omega), List.getElem?_eq_getElem hlt]
    · have e : q = l.length := by omega
      subst e
      rw [h2]
      rw [List.take_length, ← hs, List.take_length] at ht
      rw [ht]
theorem blimB {n b : Nat} (h : n ≤ 1048576) (hb : 0 < b) (hb2 : b ≤ 1000) : Nat.ble n (lim b) = true := by
  simp only [lim, Nat.ble_eq]
  rw [Nat.le_div_iff_mul_le hb]
  have : n * b ≤ 1048576 * 1000 := Nat.mul_le_mul h hb2
  omega
/-- what is left of a bound on all lists together -/
theorem sz_small {n : Nat} {left : Int} (h0 : 0 ≤ left) (h1 : left ≤ 1048576) (h : (n : Int) ≤ left) : decide ((w (left - (n : Int))) < (0 : Int)) = false ∧ w (left - (n : Int)) = left - n := by
  have e : w (left - (n : Int)) = left - n := w_id (by omega) (by omega)
  rw [e]
  exact ⟨decide_eq_false (by omega), rfl⟩
theorem sz_large {n : Nat} {left : Int} (h0 : 0 ≤ left) (h1 : left ≤ 1048576) (hm : n ≤ maxLen) (h : ¬ (n : Int) ≤ left) : decide ((w (left - (n : Int))) < (0 : Int)) = true := by
  simp only [maxLen] at hm
  rw [w_id (by omega) (by omega)]
  exact decide_eq_true (by omega)
end Go.Proofs.YtnbghfbpidalhaaDoor.X
