/- Plain facts: the cells of a lattice, and which motions keep a pattern. -/
import Derived.Test.YtbgdojniimdihaaM1
namespace Go.Proofs.Ytbgdojniimdihaa.X
open Go
set_option linter.unusedVariables false
def rowS (c x : Nat) : List Vc := (List.range c).map fun (y : Nat) => ((x : Int), (y : Int))
def cellsS (l : Lt) : List Vc := (List.range l.1.toNat).flatMap (rowS l.2.2.toNat)
theorem cells_map (a c : Nat) (hc : 0 < c) : (List.range a).flatMap (rowS c) = (List.range (a * c)).map fun i => (((i / c : Nat) : Int), ((i % c : Nat) : Int)) := by
  induction a with
  | zero => simp
  | succ a ih =>
    rw [List.range_succ, List.flatMap_append, ih, Nat.succ_mul, List.range_add, List.map_append]
    congr 1
    simp only [List.flatMap_cons, List.flatMap_nil, List.append_nil, rowS, List.map_map]
    apply List.map_congr_left
    intro y hy
    rw [List.mem_range] at hy
    simp only [Function.comp]
    have h1 : (a * c + y) / c = a := by
      rw [Nat.mul_comm, Nat.mul_add_div hc, Nat.div_eq_of_lt hy]; rfl
    have h2 : (a * c + y) % c = y := by
      rw [Nat.mul_comm, Nat.mul_add_mod, Nat.mod_eq_of_lt hy]
    rw [h1, h2]
theorem cellsS_eq {l : Lt} (hl : IsL l) : cellsS l = (List.range (l.1.toNat * l.2.2.toNat)).map fun i => (((i / l.2.2.toNat : Nat) : Int), ((i % l.2.2.toNat : Nat) : Int)) :=
  cells_map _ _ (by have := hl.c1; omega)
theorem idx_nat {l : Lt} (hl : IsL l) : ((l.1.toNat * l.2.2.toNat : Nat) : Int) = l.1 * l.2.2 := by
  have h1 : ((l.1.toNat : Nat) : Int) = l.1 := by have := hl.a1; omega
  have h2 : ((l.2.2.toNat : Nat) : Int) = l.2.2 := by have := hl.c1; omega
  rw [Int.natCast_mul, h1, h2]
theorem cellsS_len {l : Lt} (hl : IsL l) : (cellsS l).length = l.1.toNat * l.2.2.toNat := by
  rw [cellsS_eq hl]; simp
theorem cellsS_le {l : Lt} (hl : IsL l) : (cellsS l).length ≤ 64 := by
  have := idx_nat hl; have := hl.ix; rw [cellsS_len hl]; omega
theorem mem_cellsS {l : Lt} {v : Vc} (h : v ∈ cellsS l) : 0 ≤ v.1 ∧ v.1 < l.1 ∧ 0 ≤ v.2 ∧ v.2 < l.2.2 := by
  simp only [cellsS, rowS, List.mem_flatMap, List.mem_map, List.mem_range] at h
  obtain ⟨x, hx, y, hy, rfl⟩ := h
  refine ⟨?_, ?_, ?_, ?_⟩ <;> simp <;> omega
theorem cellsS_num {l : Lt} (hl : IsL l) {i : Nat} (h : i < (cellsS l).length) : numS l (cellsS l)[i] = i := by
  have hm := mem_cellsS (List.getElem_mem h)
  have h1 : (cellsS l)[i] = (((i / l.2.2.toNat : Nat) : Int), ((i % l.2.2.toNat : Nat) : Int)) := by
    simp [cellsS_eq hl]
  unfold numS redS
  obtain ⟨m1, m2, m3, m4⟩ := hm
  have h2 : (cellsS l)[i].2 / l.2.2 = 0 := Int.ediv_eq_zero_of_lt m3 m4
  have h3 : (cellsS l)[i].2 % l.2.2 = (cellsS l)[i].2 := Int.emod_eq_of_lt m3 m4
  simp only [h2, h3, Int.zero_mul, Int.sub_zero, Int.emod_eq_of_lt m1 m2]
  rw [h1]
  have h4 : ((l.2.2.toNat : Nat) : Int) = l.2.2 := by have := hl.c1; omega
  have h5 : (((i / l.2.2.toNat : Nat) : Int)) * l.2.2 + ((i % l.2.2.toNat : Nat) : Int) = ((i / l.2.2.toNat * l.2.2.toNat + i % l.2.2.toNat : Nat) : Int) := by
    rw [Int.natCast_add, Int.natCast_mul, h4]
  simp only [h5]
  have := Nat.div_add_mod' i l.2.2.toNat
  omega
theorem l03Cells_row {l : Lt} (hl : IsL l) {L : Int → List Vc → Option (List Vc)} {x : Nat} (hx : x < 64) {s : List Vc} (hs : s.length ≤ x * 64) :
    f72_l9 KK l (x : Int) L KK 0 s = L ((x + 1 : Nat) : Int) (s ++ rowS l.2.2.toNat x) := by
  have h2 : ((l.2.2.toNat : Nat) : Int) = l.2.2 := by have := hl.c1; omega
  have hc := hl.c2
  have h := iter_fold (X := Int × List Vc) (body := fun L9 z => f72_b9 KK l (x : Int) L (fun v0 v1 => L9 (v0, v1)) z.1 z.2) (List.range l.2.2.toNat) (fun q s => ((q : Int), s)) (fun s y => s ++ [((x : Int), ((y : Nat) : Int))]) (fun s => L ((x + 1 : Nat) : Int) s) (fun q s => s.length ≤ x * 64 + q)
    (fun L9 q s hq hi => by
      simp only [List.length_range] at hq
      simp only [List.getElem_range]
      refine ⟨by simp; omega, ?_⟩
      unfold f72_b9
      have h3 : decide ((q : Int) < l.2.2) = true := by simp; omega
      rw [h3, cond_true, blim16 (by simp; omega), cond_true, w_succ (by omega)])
    (fun L9 s hi => by
      unfold f72_b9
      have h3 : decide (((List.range l.2.2.toNat).length : Int) < l.2.2) = false := by simp; omega
      simp only [h3, cond_false]
      rw [w_succ (by omega)]) KK 0 s (by omega) (by simp [KK]; omega) (by simpa using hs)
  unfold f72_l9
  refine h.trans ?_
  simp only [List.drop_zero]
  rw [foldl_push]
  rfl
theorem l03Cells_eq {l : Lt} (hl : IsL l) : f72G KK l = some (cellsS l) := by
  have h1 : ((l.1.toNat : Nat) : Int) = l.1 := by have := hl.a1; omega
  have ha := hl.a2
  have hc := hl.c2
  have h := iter_fold (X := Int × List Vc) (body := fun L6 z => f72_b6 KK l (fun c0 d0 d1 => f72_l9 KK l c0 (fun v0 v1 => L6 (v0, v1)) KK d0 d1) (fun v0 v1 => L6 (v0, v1)) z.1 z.2) (List.range l.1.toNat) (fun q s => ((q : Int), s)) (fun s x => s ++ rowS l.2.2.toNat x) (fun s => some s) (fun q s => s.length ≤ q * 64)
    (fun L6 q s hq hi => by
      simp only [List.length_range] at hq
      simp only [List.getElem_range]
      refine ⟨by simp [rowS]; omega, ?_⟩
      unfold f72_b6
      have h3 : decide ((q : Int) < l.1) = true := by simp; omega
      rw [h3, cond_true]
      exact l03Cells_row hl (by omega) hi)
    (fun L6 s hi => by
      unfold f72_b6
      have h3 : decide (((List.range l.1.toNat).length : Int) < l.1) = false := by simp; omega
      simp only [h3, cond_false]) KK 0 [] (by omega) (by simp [KK]; omega) (by simp)
  unfold f72G f72_g f72_l6
  refine h.trans ?_
  simp only [List.drop_zero]
  rw [foldl_flat]
  rfl
theorem cells_eq {l : Lt} (hl : IsL l) : f75G KK l = some (cellsS l) := l03Cells_eq hl
structure SmM (m : Mt) : Prop where
  a : -1 ≤ m.1 ∧ m.1 ≤ 1
  b : -1 ≤ m.2.1 ∧ m.2.1 ≤ 1
  c : -1 ≤ m.2.2.1 ∧ m.2.2.1 ≤ 1
  d : -1 ≤ m.2.2.2 ∧ m.2.2.2 ≤ 1
def Sv (v : Vc) : Prop := -1000000 ≤ v.1 ∧ v.1 ≤ 1000000 ∧ -1000000 ≤ v.2 ∧ v.2 ≤ 1000000
theorem one_cases {a : Int} (h : -1 ≤ a ∧ a ≤ 1) : a = -1 ∨ a = 0 ∨ a = 1 := by omega
theorem unit_mul {a x : Int} (h : -1 ≤ a ∧ a ≤ 1) {B : Int} (h1 : -B ≤ x) (h2 : x ≤ B) (hB : 0 ≤ B) : -B ≤ a * x ∧ a * x ≤ B := by
  rcases one_cases h with rfl | rfl | rfl <;> omega
def mulS (m : Mt) (v : Vc) : Vc := (m.1 * v.1 + m.2.1 * v.2, m.2.2.1 * v.1 + m.2.2.2 * v.2)
def appS (m : Mt × Vc) (v : Vc) : Vc := ((mulS m.1 v).1 + m.2.1, (mulS m.1 v).2 + m.2.2)
theorem mul_calc {m : Mt} (hm : SmM m) {v : Vc} (hv : Sv v) : ((w ((w (m.1 * v.1)) + (w (m.2.1 * v.2)))), (w ((w (m.2.2.1 * v.1)) + (w (m.2.2.2 * v.2))))) = mulS m v := by
  obtain ⟨v1, v2, v3, v4⟩ := hv
  obtain ⟨a1, a2⟩ := unit_mul hm.a v1 v2 (by omega)
  obtain ⟨b1, b2⟩ := unit_mul hm.b v3 v4 (by omega)
  obtain ⟨c1, c2⟩ := unit_mul hm.c v1 v2 (by omega)
  obtain ⟨d1, d2⟩ := unit_mul hm.d v3 v4 (by omega)
  rw [w_id (n := m.1 * v.1) (by omega) (by omega), w_id (n := m.2.1 * v.2) (by omega) (by omega), w_id (n := m.2.2.1 * v.1) (by omega) (by omega), w_id (n := m.2.2.2 * v.2) (by omega) (by omega), w_id (by omega) (by omega), w_id (by omega) (by omega)]
  rfl
theorem mulS_bound {m : Mt} (hm : SmM m) {v : Vc} (hv : Sv v) : -2000000 ≤ (mulS m v).1 ∧ (mulS m v).1 ≤ 2000000 ∧ -2000000 ≤ (mulS m v).2 ∧ (mulS m v).2 ≤ 2000000 := by
  obtain ⟨v1, v2, v3, v4⟩ := hv
  obtain ⟨a1, a2⟩ := unit_mul hm.a v1 v2 (by omega)
  obtain ⟨b1, b2⟩ := unit_mul hm.b v3 v4 (by omega)
  obtain ⟨c1, c2⟩ := unit_mul hm.c v1 v2 (by omega)
  obtain ⟨d1, d2⟩ := unit_mul hm.d v3 v4 (by omega)
  simp only [mulS]
  omega
theorem l02Apply_eq {m : Mt} (hm : SmM m) {v : Vc} (hv : Sv v) : f158G KK m v = some (mulS m v) := by
  unfold f158G; rw [mul_calc hm hv]
theorem matApply_eq {m : Mt} (hm : SmM m) {v : Vc} (hv : Sv v) : f165G KK m v = some (mulS m v) := by
  unfold f165G; rw [mul_calc hm hv]
theorem l05Apply_eq {m : Mt × Vc} (hm : SmM m.1) {v : Vc} (hv : Sv v) (ht : Sv m.2) : f113G KK m v = some (appS m v) := by
  obtain ⟨b1, b2, b3, b4⟩ := mulS_bound hm hv
  obtain ⟨t1, t2, t3, t4⟩ := ht
  unfold f113G f157G
  rw [l02Apply_eq hm hv]
  simp only [Option.bind_some]
  rw [w_id (by omega) (by omega), w_id (by omega) (by omega)]
  rfl
theorem motApply_eq {m : Mt × Vc} (hm : SmM m.1) {v : Vc} (hv : Sv v) (ht : Sv m.2) : f160G KK m v = some (appS m v) := by
  obtain ⟨b1, b2, b3, b4⟩ := mulS_bound hm hv
  obtain ⟨t1, t2, t3, t4⟩ := ht
  unfold f160G f178G
  rw [matApply_eq hm hv]
  simp only [Option.bind_some]
  rw [w_id (by omega) (by omega), w_id (by omega) (by omega)]
  rfl
theorem appS_Sm {m : Mt × Vc} (hm : SmM m.1) {v : Vc} (hv : Sv v) (ht : Sv m.2) : Sm (appS m v) := by
  obtain ⟨b1, b2, b3, b4⟩ := mulS_bound hm hv
  obtain ⟨t1, t2, t3, t4⟩ := ht
  simp only [Sm, appS]
  omega
theorem cell_Sv {l : Lt} (hl : IsL l) {v : Vc} (h : v ∈ cellsS l) : Sv v := by
  obtain ⟨h1, h2, h3, h4⟩ := mem_cellsS h
  obtain ⟨a1, a2, c1, c2, b1, b2, ix⟩ := hl
  simp only [Sv]; omega
theorem Sv_Sm {v : Vc} (h : Sv v) : Sm v := by
  obtain ⟨h1, h2, h3, h4⟩ := h
  simp only [Sm]; omega
def keepsS (p : Pt) (m : Mt × Vc) : Bool := (cellsS p.2.1).all fun v => atS p (appS m v) == atS p v
theorem l09Keeps_eq {p : Pt} (hp : IsP p) {m : Mt × Vc} (hm : SmM m.1) (ht : Sv m.2) : f90G KK p m = some (keepsS p m) := by
  unfold f90G f90_g
  rw [l03Cells_eq hp.l]
  simp only [Option.bind_some]
  have h := iter_all (X := Int) (body := fun L6 x => f90_b6 KK p m (cellsS p.2.1) (fun v0 => L6 v0) x) (cellsS p.2.1) (fun q => (q : Int)) (fun v => atS p (appS m v) == atS p v) (some false) (some true)
    (fun L6 q hq => by
      have hv := cell_Sv hp.l (List.getElem_mem hq)
      have := cellsS_le hp.l
      unfold f90_b6
      rw [in1 hq, in0, gd hq, l05Apply_eq hm hv ht, l09At_eq hp (Sv_Sm hv)]
      simp only [Bool.and_self, cond_true, Option.bind_some]
      rw [l09At_eq hp (appS_Sm hm hv ht), Option.bind_some, w_succ (by omega), bne]
      cases atS p (appS m (cellsS p.2.1)[q]) == atS p (cellsS p.2.1)[q] <;> rfl)
    (fun L6 => by
      unfold f90_b6
      rw [out1, cond_false]) KK 0 (by omega) (by have := cellsS_le hp.l; simp [KK]; omega)
  unfold f90_l6
  refine h.trans ?_
  simp only [List.drop_zero]
  unfold keepsS
  cases (cellsS p.2.1).all fun v => atS p (appS m v) == atS p v <;> rfl
theorem keeps_eq {p : Pt} (hp : IsP p) {m : Mt × Vc} (hm : SmM m.1) (ht : Sv m.2) : f117G KK p m = some (keepsS p m) := by
  unfold f117G f117_g
  rw [cells_eq hp.l]
  simp only [Option.bind_some]
  have h := iter_all (X := Int) (body := fun L6 x => f117_b5 KK p m (cellsS p.2.1) (fun v0 => L6 v0) x) (cellsS p.2.1) (fun q => (q : Int)) (fun v => atS p (appS m v) == atS p v) (some false) (some true)
    (fun L6 q hq => by
      have hv := cell_Sv hp.l (List.getElem_mem hq)
      have := cellsS_le hp.l
      have h1 := cellsS_num hp.l hq
      have h2 := cellsS_len hp.l
      have h3 := idx_nat hp.l
      have hq2 : q < p.2.2.length := by have := hp.n; omega
      have h4 : atS p (cellsS p.2.1)[q] = p.2.2[q] := by
        unfold atS; rw [h1]; simp [List.getD, hq2]
      unfold f117_b5
      rw [in1 hq, in0, gd hq, motApply_eq hm hv ht, in1 hq2, gd hq2]
      simp only [Bool.and_self, cond_true, Option.bind_some]
      rw [at_eq hp (appS_Sm hm hv ht), Option.bind_some, w_succ (by omega), bne, h4]
      cases atS p (appS m (cellsS p.2.1)[q]) == p.2.2[q] <;> rfl)
    (fun L6 => by
      unfold f117_b5
      rw [out1, cond_false]) KK 0 (by omega) (by have := cellsS_le hp.l; simp [KK]; omega)
  unfold f117_l5
  refine h.trans ?_
  simp only [List.drop_zero]
  unfold keepsS
  cases (cellsS p.2.1).all fun v => atS p (appS m v) == atS p v <;> rfl
end Go.Proofs.Ytbgdojniimdihaa.X
