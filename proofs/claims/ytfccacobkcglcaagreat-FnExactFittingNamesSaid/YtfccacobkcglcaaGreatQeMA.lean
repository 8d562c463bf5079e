/- Plain facts: numbers that do not run over, and loops that step through a list. -/
import Derived.Test.YtfccacobkcglcaaGreatXLoop
import Derived.Test.YtfccacobkcglcaaGreatQeD0
namespace Go.Proofs.YtfccacobkcglcaaGreat.X
open Go
set_option linter.unusedSimpArgs false
def KK : Nat := 2097152
theorem w_id {n : Int} (h1 : -9223372036854775808 ≤ n) (h2 : n ≤ 9223372036854775807) : w n = n := by
  simp only [w, IntKind.wrap]
  simp [IntKind.signed, IntKind.bits]
  omega
theorem w_succ {q : Nat} (h : q < 4611686018427387904) : w ((q : Int) + 1) = ((q + 1 : Nat) : Int) := by
  rw [w_id] <;> omega
theorem gd {α : Type} {l : List α} {q : Nat} {d : α} (h : q < l.length) : l.getD ((0 : Int) + (q : Int)).toNat d = l[q] := by
  have : ((0 : Int) + (q : Int)).toNat = q := by omega
  rw [this]
  simp [List.getD, h]
theorem in1 {q n : Nat} (h : q < n) : decide ((q : Int) < (n : Int)) = true := by
  simp; omega
theorem in0 {q : Nat} : decide (0 ≤ (q : Int)) = true := by simp
theorem out1 {n : Nat} : decide ((n : Int) < (n : Int)) = false := by simp
theorem blim16 {n : Nat} (h : n ≤ 4000000) : Nat.ble n (lim 16) = true := by
  simp only [lim, Nat.ble_eq]; omega
theorem blim8 {n : Nat} (h : n ≤ 4000000) : Nat.ble n (lim 8) = true := by
  simp only [lim, Nat.ble_eq]; omega
theorem blim48 {n : Nat} (h : n ≤ 1000000) : Nat.ble n (lim 48) = true := by
  simp only [lim, Nat.ble_eq]; omega
theorem iter_fold {X R S α : Type} {body : (X → Option R) → X → Option R} (l : List α) (fr : Nat → S → X) (step : S → α → S) (fin : S → Option R) (inv : Nat → S → Prop)
    (h1 : ∀ L q s (hq : q < l.length), inv q s → inv (q + 1) (step s l[q]) ∧ body L (fr q s) = L (fr (q + 1) (step s l[q])))
    (h2 : ∀ L s, inv l.length s → body L (fr l.length s) = fin s) : ∀ n q s, q ≤ l.length → l.length - q < n → inv q s → iter body n (fr q s) = fin ((l.drop q).foldl step s)
  | 0, q, s, _, hn, _ => by omega
  | n + 1, q, s, hq, hn, hi => by
    show body (iter body n) (fr q s) = _
    by_cases hlt : q < l.length
    · obtain ⟨h3, h4⟩ := h1 (iter body n) q s hlt hi
      rw [h4, iter_fold l fr step fin inv h1 h2 n (q + 1) _ hlt (by omega) h3, List.drop_eq_getElem_cons hlt]
      rfl
    · have : q = l.length := by omega
      subst this
      rw [h2 _ _ hi]
      simp
theorem iter_all {X R α : Type} {body : (X → Option R) → X → Option R} (l : List α) (fr : Nat → X) (p : α → Bool) (no fin : Option R)
    (h1 : ∀ L q (hq : q < l.length), body L (fr q) = bif p l[q] then L (fr (q + 1)) else no)
    (h2 : ∀ L, body L (fr l.length) = fin) : ∀ n q, q ≤ l.length → l.length - q < n → iter body n (fr q) = bif (l.drop q).all p then fin else no
  | 0, q, _, hn => by omega
  | n + 1, q, hq, hn => by
    show body (iter body n) (fr q) = _
    by_cases hlt : q < l.length
    · rw [h1 _ q hlt, iter_all l fr p no fin h1 h2 n (q + 1) hlt (by omega), List.drop_eq_getElem_cons hlt]
      simp only [List.all_cons]
      cases p l[q] <;> simp
    · have : q = l.length := by omega
      subst this
      rw [h2]
      simp
theorem foldl_filter {α β : Type} (p : α → Bool) (g : α → β) : ∀ (l : List α) (s : List β), l.foldl (fun s a => bif p a then s ++ [g a] else s) s = s ++ (l.filter p).map g
  | [], s => by simp
  | a :: l, s => by
    rw [List.foldl_cons, foldl_filter p g l]
    cases h : p a <;> simp [h]
theorem foldl_push {α β : Type} (g : α → β) : ∀ (l : List α) (s : List β), l.foldl (fun s a => s ++ [g a]) s = s ++ l.map g
  | [], s => by simp
  | a :: l, s => by
    rw [List.foldl_cons, foldl_push g l]
    simp
theorem foldl_flat {α β : Type} (g : α → List β) : ∀ (l : List α) (s : List β), l.foldl (fun s a => s ++ g a) s = s ++ l.flatMap g
  | [], s => by simp
  | a :: l, s => by
    rw [List.foldl_cons, foldl_flat g l]
    simp
end Go.Proofs.YtfccacobkcglcaaGreat.X
/-! Plain facts: remainders, vectors of a lattice, the colour at a vector. -/
namespace Go.Proofs.YtfccacobkcglcaaGreat.X
open Go
set_option linter.unusedVariables false
abbrev Vc := Int × Int
abbrev Mt := Int × Int × Int × Int
abbrev Lt := Int × Int × Int
abbrev Pt := Int × Lt × List Int
structure IsL (l : Lt) : Prop where
  a1 : 1 ≤ l.1
  a2 : l.1 ≤ 64
  c1 : 1 ≤ l.2.2
  c2 : l.2.2 ≤ 64
  b1 : 0 ≤ l.2.1
  b2 : l.2.1 < l.1
  ix : l.1 * l.2.2 ≤ 64
structure IsP (p : Pt) : Prop where
  f1 : 0 ≤ p.1
  f2 : p.1 ≤ 1
  l : IsL p.2.1
  n : (p.2.2.length : Int) = p.2.1.1 * p.2.1.2.2
theorem tmod_pos {a n : Int} (h : 1 ≤ n) : (a.tmod n < 0 → a % n = a.tmod n + n) ∧ (0 ≤ a.tmod n → a % n = a.tmod n) ∧ -n < a.tmod n ∧ a.tmod n < n := by
  have h0 := Int.tmod_eq_emod (a := a) (b := n)
  have h1 := Int.emod_nonneg a (show n ≠ 0 by omega)
  have h2 := Int.emod_lt_of_pos a (show 0 < n by omega)
  have h3 : (n.natAbs : Int) = n := by omega
  split at h0 <;> refine ⟨?_, ?_, ?_, ?_⟩ <;> intros <;> omega
theorem l01Mod_eq {a n : Int} (h : 1 ≤ n) (h2 : n ≤ 1000000) : f255G KK a n = some (a % n) := by
  obtain ⟨h3, h4, h5, h6⟩ := tmod_pos (a := a) h
  unfold f255G
  have : (n != 0) = true := by simp; omega
  rw [this, cond_true]
  by_cases hl : a.tmod n < 0
  · rw [h3 hl, w_id (by omega) (by omega)]
    simp [hl]
  · rw [h4 (by omega)]
    simp [hl]
theorem mod_eq {a n : Int} (h : 1 ≤ n) (h2 : n ≤ 1000000) : f260G KK a n = some (a % n) := by
  obtain ⟨h3, h4, h5, h6⟩ := tmod_pos (a := a) h
  unfold f260G
  have : (n != 0) = true := by simp; omega
  rw [this, cond_true, cond_true, w_id (by omega) (by omega)]
  obtain ⟨h7, h8, h9, h10⟩ := tmod_pos (a := a.tmod n + n) h
  have h11 : 0 ≤ (a.tmod n + n).tmod n := by
    have := Int.tmod_nonneg (a := a.tmod n + n) n (by omega)
    exact this
  rw [← h8 h11, Int.add_emod_right]
  congr 1
  have := Int.emod_emod_of_dvd a (Int.dvd_refl n)
  by_cases hl : a.tmod n < 0
  · rw [h3 hl]
    rw [← Int.add_emod_right, Int.emod_eq_of_lt (by omega) (by omega)]
  · rw [h4 (by omega)]
    exact Int.emod_eq_of_lt (by omega) (by omega)
def redS (l : Lt) (v : Vc) : Vc := ((v.1 - (v.2 / l.2.2) * l.2.1) % l.1, v.2 % l.2.2)
theorem div_bound {y c : Int} (hc : 1 ≤ c) {B : Int} (hB : 0 ≤ B) (h1 : -B ≤ y) (h2 : y ≤ B) : -B - 1 ≤ y / c ∧ y / c ≤ B := by
  constructor
  · rw [Int.le_ediv_iff_mul_le (by omega)]
    have : (-B - 1) * c ≤ (-B - 1) * 1 := Int.mul_le_mul_of_nonpos_left (by omega) hc
    omega
  · have h := Int.ediv_le_ediv (show 0 < c by omega) h2
    have h3 : B / c ≤ B := Int.ediv_le_self c hB
    omega
theorem sub_mod_tdiv {y c : Int} (hc : 1 ≤ c) : (y - y % c).tdiv c = y / c := by
  have h1 := Int.emod_def y c
  have : y - y % c = c * (y / c) := by omega
  rw [this, Int.mul_comm, Int.mul_tdiv_cancel _ (by omega)]
theorem mul_bound {a b A B : Int} (hA : 0 ≤ A) (ha1 : -A ≤ a) (ha2 : a ≤ A) (hb1 : 0 ≤ b) (hb2 : b ≤ B) : -(A * B) ≤ a * b ∧ a * b ≤ A * B := by
  have h1 : a * b ≤ A * b := Int.mul_le_mul_of_nonneg_right ha2 hb1
  have h2 : A * b ≤ A * B := Int.mul_le_mul_of_nonneg_left hb2 hA
  have h3 : -A * b ≤ a * b := Int.mul_le_mul_of_nonneg_right ha1 hb1
  have h4 : -A * b = -(A * b) := Int.neg_mul A b
  omega
def Sm (v : Vc) : Prop := -1000000000 ≤ v.1 ∧ v.1 ≤ 1000000000 ∧ -1000000000 ≤ v.2 ∧ v.2 ≤ 1000000000
theorem red_calc {l : Lt} (hl : IsL l) {v : Vc} (hv : Sm v) : w (v.1 - (w ((w ((w (v.2 - v.2 % l.2.2)).tdiv l.2.2)) * l.2.1))) = v.1 - (v.2 / l.2.2) * l.2.1 := by
  obtain ⟨a1, a2, c1, c2, b1, b2, ix⟩ := hl
  obtain ⟨v1, v2, v3, v4⟩ := hv
  have h1 := Int.emod_nonneg v.2 (show l.2.2 ≠ 0 by omega)
  have h2 := Int.emod_lt_of_pos v.2 (show 0 < l.2.2 by omega)
  obtain ⟨h3, h4⟩ := div_bound (y := v.2) c1 (B := 1000000000) (by omega) v3 v4
  obtain ⟨h5, h6⟩ := mul_bound (a := v.2 / l.2.2) (b := l.2.1) (A := 1000000001) (B := 64) (by omega) (by omega) (by omega) b1 (by omega)
  rw [w_id (n := v.2 - v.2 % l.2.2) (by omega) (by omega), sub_mod_tdiv c1, w_id (n := v.2 / l.2.2) (by omega) (by omega), w_id (n := v.2 / l.2.2 * l.2.1) (by omega) (by omega), w_id (by omega) (by omega)]
theorem l03Reduce_eq {l : Lt} (hl : IsL l) {v : Vc} (hv : Sm v) : f153G KK l v = some (redS l v) := by
  unfold f153G
  have h0 : (l.2.2 != 0) = true := by have := hl.c1; simp; omega
  rw [l01Mod_eq hl.c1 (by have := hl.c2; omega)]
  simp only [Option.bind_some, h0, cond_true]
  rw [red_calc hl hv, l01Mod_eq hl.a1 (by have := hl.a2; omega)]
  rfl
theorem reduce_eq {l : Lt} (hl : IsL l) {v : Vc} (hv : Sm v) : f161G KK l v = some (redS l v) := by
  unfold f161G
  have h0 : (l.2.2 != 0) = true := by have := hl.c1; simp; omega
  rw [mod_eq hl.c1 (by have := hl.c2; omega)]
  simp only [Option.bind_some, h0, cond_true]
  rw [red_calc hl hv, mod_eq hl.a1 (by have := hl.a2; omega)]
  rfl
theorem redS_bounds {l : Lt} (hl : IsL l) (v : Vc) : 0 ≤ (redS l v).1 ∧ (redS l v).1 < l.1 ∧ 0 ≤ (redS l v).2 ∧ (redS l v).2 < l.2.2 := by
  obtain ⟨a1, a2, c1, c2, b1, b2, ix⟩ := hl
  exact ⟨Int.emod_nonneg _ (by omega), Int.emod_lt_of_pos _ (by omega), Int.emod_nonneg _ (by omega), Int.emod_lt_of_pos _ (by omega)⟩
theorem cell_idx {a c x y : Int} (h1 : 0 ≤ x) (h2 : x < a) (h3 : 0 ≤ y) (h4 : y < c) : 0 ≤ x * c + y ∧ x * c + y < a * c := by
  have e1 : 0 ≤ x * c := Int.mul_nonneg h1 (by omega)
  have e2 : (x + 1) * c ≤ a * c := Int.mul_le_mul_of_nonneg_right (by omega) (by omega)
  have e3 : (x + 1) * c = x * c + c := by rw [Int.add_mul, Int.one_mul]
  omega
def numS (l : Lt) (v : Vc) : Nat := ((redS l v).1 * l.2.2 + (redS l v).2).toNat
theorem num_calc {l : Lt} (hl : IsL l) (v : Vc) : w ((w ((redS l v).1 * l.2.2)) + (redS l v).2) = (numS l v : Int) ∧ (numS l v : Int) < l.1 * l.2.2 := by
  obtain ⟨h1, h2, h3, h4⟩ := redS_bounds hl v
  obtain ⟨h5, h6⟩ := cell_idx h1 h2 h3 h4
  obtain ⟨a1, a2, c1, c2, b1, b2, ix⟩ := hl
  have e1 : 0 ≤ (redS l v).1 * l.2.2 := Int.mul_nonneg h1 (by omega)
  unfold numS
  rw [w_id (n := (redS l v).1 * l.2.2) (by omega) (by omega), w_id (by omega) (by omega)]
  omega
def atS (p : Pt) (v : Vc) : Int := p.2.2.getD (numS p.2.1 v) 0
end Go.Proofs.YtfccacobkcglcaaGreat.X
/-! Plain facts: the cells of a lattice, and which motions keep a pattern. -/
namespace Go.Proofs.YtfccacobkcglcaaGreat.X
open Go
set_option linter.unusedVariables false
def rowS (c x : Nat) : List Vc := (List.range c).map fun (y : Nat) => ((x : Int), (y : Int))
def cellsS (l : Lt) : List Vc := (List.range l.1.toNat).flatMap (rowS l.2.2.toNat)
theorem cells_map (a c : Nat) (hc : 0 < c) : (List.range a).flatMap (rowS c) = (List.range (a * c)).map fun i => (((i / c : Nat) : Int), ((i % c : Nat) : Int)) := by
  induction a with
  | zero => simp
  | succ a ih =>
    rw [List.range_succ, List.flatMap_append, ih, Nat.succ_mul, List.range_add, List.map_append]
    congr 1
    simp only [List.flatMap_cons, List.flatMap_nil, List.append_nil, rowS, List.map_map]
    apply List.map_congr_left
    intro y hy
    rw [List.mem_range] at hy
    simp only [Function.comp]
    have h1 : (a * c + y) / c = a := by
      rw [Nat.mul_comm, Nat.mul_add_div hc, Nat.div_eq_of_lt hy]; rfl
    have h2 : (a * c + y) % c = y := by
      rw [Nat.mul_comm, Nat.mul_add_mod, Nat.mod_eq_of_lt hy]
    rw [h1, h2]
theorem cellsS_eq {l : Lt} (hl : IsL l) : cellsS l = (List.range (l.1.toNat * l.2.2.toNat)).map fun i => (((i / l.2.2.toNat : Nat) : Int), ((i % l.2.2.toNat : Nat) : Int)) :=
  cells_map _ _ (by have := hl.c1; omega)
theorem idx_nat {l : Lt} (hl : IsL l) : ((l.1.toNat * l.2.2.toNat : Nat) : Int) = l.1 * l.2.2 := by
  have h1 : ((l.1.toNat : Nat) : Int) = l.1 := by have := hl.a1; omega
  have h2 : ((l.2.2.toNat : Nat) : Int) = l.2.2 := by have := hl.c1; omega
  rw [Int.natCast_mul, h1, h2]
theorem cellsS_len {l : Lt} (hl : IsL l) : (cellsS l).length = l.1.toNat * l.2.2.toNat := by
  rw [cellsS_eq hl]; simp
theorem cellsS_le {l : Lt} (hl : IsL l) : (cellsS l).length ≤ 64 := by
  have := idx_nat hl; have := hl.ix; rw [cellsS_len hl]; omega
theorem mem_cellsS {l : Lt} {v : Vc} (h : v ∈ cellsS l) : 0 ≤ v.1 ∧ v.1 < l.1 ∧ 0 ≤ v.2 ∧ v.2 < l.2.2 := by
  simp only [cellsS, rowS, List.mem_flatMap, List.mem_map, List.mem_range] at h
  obtain ⟨x, hx, y, hy, rfl⟩ := h
  refine ⟨?_, ?_, ?_, ?_⟩ <;> simp <;> omega
theorem cellsS_num {l : Lt} (hl : IsL l) {i : Nat} (h : i < (cellsS l).length) : numS l (cellsS l)[i] = i := by
  have hm := mem_cellsS (List.getElem_mem h)
  have h1 : (cellsS l)[i] = (((i / l.2.2.toNat : Nat) : Int), ((i % l.2.2.toNat : Nat) : Int)) := by
    simp [cellsS_eq hl]
  unfold numS redS
  obtain ⟨m1, m2, m3, m4⟩ := hm
  have h2 : (cellsS l)[i].2 / l.2.2 = 0 := Int.ediv_eq_zero_of_lt m3 m4
  have h3 : (cellsS l)[i].2 % l.2.2 = (cellsS l)[i].2 := Int.emod_eq_of_lt m3 m4
  simp only [h2, h3, Int.zero_mul, Int.sub_zero, Int.emod_eq_of_lt m1 m2]
  rw [h1]
  have h4 : ((l.2.2.toNat : Nat) : Int) = l.2.2 := by have := hl.c1; omega
  have h5 : (((i / l.2.2.toNat : Nat) : Int)) * l.2.2 + ((i % l.2.2.toNat : Nat) : Int) = ((i / l.2.2.toNat * l.2.2.toNat + i % l.2.2.toNat : Nat) : Int) := by
    rw [Int.natCast_add, Int.natCast_mul, h4]
  simp only [h5]
  have := Nat.div_add_mod' i l.2.2.toNat
  omega
theorem l03Cells_row {l : Lt} (hl : IsL l) {L : Int → List Vc → Option (List Vc)} {x : Nat} (hx : x < 64) {s : List Vc} (hs : s.length ≤ x * 64) :
    f232_l9 KK l (x : Int) L KK 0 s = L ((x + 1 : Nat) : Int) (s ++ rowS l.2.2.toNat x) := by
  have h2 : ((l.2.2.toNat : Nat) : Int) = l.2.2 := by have := hl.c1; omega
  have hc := hl.c2
  have h := iter_fold (X := Int × List Vc) (body := fun L9 z => f232_b9 KK l (x : Int) L (fun v0 v1 => L9 (v0, v1)) z.1 z.2) (List.range l.2.2.toNat) (fun q s => ((q : Int), s)) (fun s y => s ++ [((x : Int), ((y : Nat) : Int))]) (fun s => L ((x + 1 : Nat) : Int) s) (fun q s => s.length ≤ x * 64 + q)
    (fun L9 q s hq hi => by
      simp only [List.length_range] at hq
      simp only [List.getElem_range]
      refine ⟨by simp; omega, ?_⟩
      unfold f232_b9
      have h3 : decide ((q : Int) < l.2.2) = true := by simp; omega
      rw [h3, cond_true, blim16 (by simp; omega), cond_true, w_succ (by omega)])
    (fun L9 s hi => by
      unfold f232_b9
      have h3 : decide (((List.range l.2.2.toNat).length : Int) < l.2.2) = false := by simp; omega
      simp only [h3, cond_false]
      rw [w_succ (by omega)]) KK 0 s (by omega) (by simp [KK]; omega) (by simpa using hs)
  unfold f232_l9
  refine h.trans ?_
  simp only [List.drop_zero]
  rw [foldl_push]
  rfl
theorem l03Cells_eq {l : Lt} (hl : IsL l) : f232G KK l = some (cellsS l) := by
  have h1 : ((l.1.toNat : Nat) : Int) = l.1 := by have := hl.a1; omega
  have ha := hl.a2
  have hc := hl.c2
  have h := iter_fold (X := Int × List Vc) (body := fun L6 z => f232_b6 KK l (fun c0 d0 d1 => f232_l9 KK l c0 (fun v0 v1 => L6 (v0, v1)) KK d0 d1) (fun v0 v1 => L6 (v0, v1)) z.1 z.2) (List.range l.1.toNat) (fun q s => ((q : Int), s)) (fun s x => s ++ rowS l.2.2.toNat x) (fun s => some s) (fun q s => s.length ≤ q * 64)
    (fun L6 q s hq hi => by
      simp only [List.length_range] at hq
      simp only [List.getElem_range]
      refine ⟨by simp [rowS]; omega, ?_⟩
      unfold f232_b6
      have h3 : decide ((q : Int) < l.1) = true := by simp; omega
      rw [h3, cond_true]
      exact l03Cells_row hl (by omega) hi)
    (fun L6 s hi => by
      unfold f232_b6
      have h3 : decide (((List.range l.1.toNat).length : Int) < l.1) = false := by simp; omega
      simp only [h3, cond_false]) KK 0 [] (by omega) (by simp [KK]; omega) (by simp)
  unfold f232G f232_g f232_l6
  refine h.trans ?_
  simp only [List.drop_zero]
  rw [foldl_flat]
  rfl
theorem cells_row {l : Lt} (hl : IsL l) {L : Int → List Vc → Option (List Vc)} {x : Nat} (hx : x < 64) {s : List Vc} (hs : s.length ≤ x * 64) :
    f207_l9 KK l (x : Int) L KK 0 s = L ((x + 1 : Nat) : Int) (s ++ rowS l.2.2.toNat x) := by
  have h2 : ((l.2.2.toNat : Nat) : Int) = l.2.2 := by have := hl.c1; omega
  have hc := hl.c2
  have h := iter_fold (X := Int × List Vc) (body := fun L9 z => f207_b9 KK l (x : Int) L (fun v0 v1 => L9 (v0, v1)) z.1 z.2) (List.range l.2.2.toNat) (fun q s => ((q : Int), s)) (fun s y => s ++ [((x : Int), ((y : Nat) : Int))]) (fun s => L ((x + 1 : Nat) : Int) s) (fun q s => s.length ≤ x * 64 + q)
    (fun L9 q s hq hi => by
      simp only [List.length_range] at hq
      simp only [List.getElem_range]
      refine ⟨by simp; omega, ?_⟩
      unfold f207_b9
      have h3 : decide ((q : Int) < l.2.2) = true := by simp; omega
      rw [h3, cond_true, blim16 (by simp; omega), cond_true, w_succ (by omega)])
    (fun L9 s hi => by
      unfold f207_b9
      have h3 : decide (((List.range l.2.2.toNat).length : Int) < l.2.2) = false := by simp; omega
      simp only [h3, cond_false]
      rw [w_succ (by omega)]) KK 0 s (by omega) (by simp [KK]; omega) (by simpa using hs)
  unfold f207_l9
  refine h.trans ?_
  simp only [List.drop_zero]
  rw [foldl_push]
  rfl
theorem cells_eq {l : Lt} (hl : IsL l) : f207G KK l = some (cellsS l) := by
  have h1 : ((l.1.toNat : Nat) : Int) = l.1 := by have := hl.a1; omega
  have ha := hl.a2
  have hc := hl.c2
  have h := iter_fold (X := Int × List Vc) (body := fun L6 z => f207_b6 KK l (fun c0 d0 d1 => f207_l9 KK l c0 (fun v0 v1 => L6 (v0, v1)) KK d0 d1) (fun v0 v1 => L6 (v0, v1)) z.1 z.2) (List.range l.1.toNat) (fun q s => ((q : Int), s)) (fun s x => s ++ rowS l.2.2.toNat x) (fun s => some s) (fun q s => s.length ≤ q * 64)
    (fun L6 q s hq hi => by
      simp only [List.length_range] at hq
      simp only [List.getElem_range]
      refine ⟨by simp [rowS]; omega, ?_⟩
      unfold f207_b6
      have h3 : decide ((q : Int) < l.1) = true := by simp; omega
      rw [h3, cond_true]
      exact cells_row hl (by omega) hi)
    (fun L6 s hi => by
      unfold f207_b6
      have h3 : decide (((List.range l.1.toNat).length : Int) < l.1) = false := by simp; omega
      simp only [h3, cond_false]) KK 0 [] (by omega) (by simp [KK]; omega) (by simp)
  unfold f207G f207_g f207_l6
  refine h.trans ?_
  simp only [List.drop_zero]
  rw [foldl_flat]
  rfl
structure SmM (m : Mt) : Prop where
  a : -1 ≤ m.1 ∧ m.1 ≤ 1
  b : -1 ≤ m.2.1 ∧ m.2.1 ≤ 1
  c : -1 ≤ m.2.2.1 ∧ m.2.2.1 ≤ 1
  d : -1 ≤ m.2.2.2 ∧ m.2.2.2 ≤ 1
def Sv (v : Vc) : Prop := -1000000 ≤ v.1 ∧ v.1 ≤ 1000000 ∧ -1000000 ≤ v.2 ∧ v.2 ≤ 1000000
theorem one_cases {a : Int} (h : -1 ≤ a ∧ a ≤ 1) : a = -1 ∨ a = 0 ∨ a = 1 := by omega
theorem unit_mul {a x : Int} (h : -1 ≤ a ∧ a ≤ 1) {B : Int} (h1 : -B ≤ x) (h2 : x ≤ B) (hB : 0 ≤ B) : -B ≤ a * x ∧ a * x ≤ B := by
  rcases one_cases h with rfl | rfl | rfl <;> omega
def mulS (m : Mt) (v : Vc) : Vc := (m.1 * v.1 + m.2.1 * v.2, m.2.2.1 * v.1 + m.2.2.2 * v.2)
def appS (m : Mt × Vc) (v : Vc) : Vc := ((mulS m.1 v).1 + m.2.1, (mulS m.1 v).2 + m.2.2)
theorem mul_calc {m : Mt} (hm : SmM m) {v : Vc} (hv : Sv v) : ((w ((w (m.1 * v.1)) + (w (m.2.1 * v.2)))), (w ((w (m.2.2.1 * v.1)) + (w (m.2.2.2 * v.2))))) = mulS m v := by
  obtain ⟨v1, v2, v3, v4⟩ := hv
  obtain ⟨a1, a2⟩ := unit_mul hm.a v1 v2 (by omega)
  obtain ⟨b1, b2⟩ := unit_mul hm.b v3 v4 (by omega)
  obtain ⟨c1, c2⟩ := unit_mul hm.c v1 v2 (by omega)
  obtain ⟨d1, d2⟩ := unit_mul hm.d v3 v4 (by omega)
  rw [w_id (n := m.1 * v.1) (by omega) (by omega), w_id (n := m.2.1 * v.2) (by omega) (by omega), w_id (n := m.2.2.1 * v.1) (by omega) (by omega), w_id (n := m.2.2.2 * v.2) (by omega) (by omega), w_id (by omega) (by omega), w_id (by omega) (by omega)]
  rfl
theorem mulS_bound {m : Mt} (hm : SmM m) {v : Vc} (hv : Sv v) : -2000000 ≤ (mulS m v).1 ∧ (mulS m v).1 ≤ 2000000 ∧ -2000000 ≤ (mulS m v).2 ∧ (mulS m v).2 ≤ 2000000 := by
  obtain ⟨v1, v2, v3, v4⟩ := hv
  obtain ⟨a1, a2⟩ := unit_mul hm.a v1 v2 (by omega)
  obtain ⟨b1, b2⟩ := unit_mul hm.b v3 v4 (by omega)
  obtain ⟨c1, c2⟩ := unit_mul hm.c v1 v2 (by omega)
  obtain ⟨d1, d2⟩ := unit_mul hm.d v3 v4 (by omega)
  simp only [mulS]
  omega
theorem l02Apply_eq {m : Mt} (hm : SmM m) {v : Vc} (hv : Sv v) : f341G KK m v = some (mulS m v) := by
  unfold f341G; rw [mul_calc hm hv]
theorem matApply_eq {m : Mt} (hm : SmM m) {v : Vc} (hv : Sv v) : f288G KK m v = some (mulS m v) := by
  unfold f288G; rw [mul_calc hm hv]
theorem l05Apply_eq {m : Mt × Vc} (hm : SmM m.1) {v : Vc} (hv : Sv v) (ht : Sv m.2) : f284G KK m v = some (appS m v) := by
  obtain ⟨b1, b2, b3, b4⟩ := mulS_bound hm hv
  obtain ⟨t1, t2, t3, t4⟩ := ht
  unfold f284G f340G
  rw [l02Apply_eq hm hv]
  simp only [Option.bind_some]
  rw [w_id (by omega) (by omega), w_id (by omega) (by omega)]
  rfl
theorem motApply_eq {m : Mt × Vc} (hm : SmM m.1) {v : Vc} (hv : Sv v) (ht : Sv m.2) : f191G KK m v = some (appS m v) := by
  obtain ⟨b1, b2, b3, b4⟩ := mulS_bound hm hv
  obtain ⟨t1, t2, t3, t4⟩ := ht
  unfold f191G f289G
  rw [matApply_eq hm hv]
  simp only [Option.bind_some]
  rw [w_id (by omega) (by omega), w_id (by omega) (by omega)]
  rfl
theorem appS_Sm {m : Mt × Vc} (hm : SmM m.1) {v : Vc} (hv : Sv v) (ht : Sv m.2) : Sm (appS m v) := by
  obtain ⟨b1, b2, b3, b4⟩ := mulS_bound hm hv
  obtain ⟨t1, t2, t3, t4⟩ := ht
  simp only [Sm, appS]
  omega
theorem Sv_Sm {v : Vc} (h : Sv v) : Sm v := by
  obtain ⟨h1, h2, h3, h4⟩ := h
  simp only [Sm]; omega
def keepsS (p : Pt) (m : Mt × Vc) : Bool := (cellsS p.2.1).all fun v => atS p (appS m v) == atS p v
end Go.Proofs.YtfccacobkcglcaaGreat.X
/-! Plain facts: divisors, and the steps of Euclid on two vectors. -/
namespace Go.Proofs.YtfccacobkcglcaaGreat.X
open Go
set_option linter.unusedVariables false
/-- one step: the new second vector -/
def nx (p v : Vc) : Vc := (p.1 - p.2.tdiv v.2 * v.1, p.2 - p.2.tdiv v.2 * v.2)
def euS : Nat → Vc → Vc → Vc × Int
  | 0, p, v => (p, v.1)
  | n + 1, p, v => if v.2 = 0 then (p, v.1) else euS n v (nx p v)
theorem nx_y (p v : Vc) : (nx p v).2 = p.2.tmod v.2 := by
  have := Int.tmod_add_mul_tdiv p.2 v.2
  simp only [nx]
  rw [Int.mul_comm]
  omega
theorem nx_ylt (p v : Vc) (h : v.2 ≠ 0) : (nx p v).2.natAbs < v.2.natAbs := by
  rw [nx_y, Int.natAbs_tmod]; exact Nat.mod_lt _ (by omega)
def Dv (p v : Vc) : Nat := p.1.natAbs * v.2.natAbs + v.1.natAbs * p.2.natAbs
/-- numbers stay below a bound -/
structure Bd (B : Nat) (p v : Vc) : Prop where
  bp : p.1.natAbs ≤ B
  bv : v.1.natAbs ≤ B
  d : Dv p v ≤ B
/-- closed under sums of multiples -/
def Clo (S : Vc → Prop) : Prop := ∀ u v : Vc, ∀ k : Int, S u → S v → S (u.1 + k * v.1, u.2 + k * v.2)
theorem euS_in {S : Vc → Prop} (hS : Clo S) : ∀ (n : Nat) (p v : Vc), v.2.natAbs < n → S p → S v → S (euS n p v).1 ∧ S ((euS n p v).2, 0)
  | 0, p, v, h, _, _ => by omega
  | n + 1, p, v, h, hp, hv => by
    simp only [euS]
    split
    · rename_i h0
      refine ⟨hp, ?_⟩
      have : v = (v.1, 0) := by rw [← h0]
      rwa [this] at hv
    · rename_i h0
      refine euS_in hS n v (nx p v) (by have := nx_ylt p v h0; omega) hv ?_
      have := hS p v (-(p.2.tdiv v.2)) hp hv
      rw [Int.neg_mul, Int.neg_mul] at this
      exact this
theorem euS_out {S : Vc → Prop} (hS : Clo S) : ∀ (n : Nat) (p v : Vc), v.2.natAbs < n → S (euS n p v).1 → S ((euS n p v).2, 0) → S p ∧ S v
  | 0, p, v, h, _, _ => by omega
  | n + 1, p, v, h, h1, h2 => by
    simp only [euS] at h1 h2
    split at h1
    · rename_i h0
      rw [if_pos h0] at h2
      have : v = (v.1, 0) := by rw [← h0]
      exact ⟨h1, by rw [this]; exact h2⟩
    · rename_i h0
      rw [if_neg h0] at h2
      obtain ⟨h3, h4⟩ := euS_out hS n v (nx p v) (by have := nx_ylt p v h0; omega) h1 h2
      refine ⟨?_, h3⟩
      have := hS (nx p v) v (p.2.tdiv v.2) h4 h3
      simp only [nx, Int.sub_add_cancel] at this
      exact this
theorem euS_det : ∀ (n : Nat) (p v : Vc), v.2.natAbs < n → ((euS n p v).2 * (euS n p v).1.2).natAbs = (p.1 * v.2 - v.1 * p.2).natAbs
  | 0, p, v, h => by omega
  | n + 1, p, v, h => by
    simp only [euS]
    split
    · rename_i h0
      show (v.1 * p.2).natAbs = _
      rw [h0, Int.mul_zero, Int.zero_sub, Int.natAbs_neg]
    · rename_i h0
      rw [euS_det n v (nx p v) (by have := nx_ylt p v h0; omega)]
      have e : v.1 * (nx p v).2 - (nx p v).1 * v.2 = -(p.1 * v.2 - v.1 * p.2) := by
        simp only [nx, Int.mul_sub, Int.sub_mul]
        have : v.1 * (p.2.tdiv v.2 * v.2) = p.2.tdiv v.2 * v.1 * v.2 := by rw [← Int.mul_assoc, Int.mul_comm v.1]
        omega
      rw [e, Int.natAbs_neg]
end Go.Proofs.YtfccacobkcglcaaGreat.X
