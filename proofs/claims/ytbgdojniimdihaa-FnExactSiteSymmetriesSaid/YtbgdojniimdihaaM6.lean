/- Plain facts: the lean pattern, as the program and the reference compute it. -/
import Derived.Test.YtbgdojniimdihaaM5
namespace Go.Proofs.Ytbgdojniimdihaa.X
open Go
set_option linter.unusedVariables false
abbrev Un : Mt := (1, 0, 0, 1)
theorem Un_sm : SmM Un := ⟨by simp, by simp, by simp, by simp⟩
def fullL (p : Pt) : List Vc := (cellsS p.2.1).filter fun t => keepsS p (Un, t)
def fullS (p : Pt) : Lt := latS ((p.2.1.1, 0) :: (p.2.1.2.1, p.2.1.2.2) :: fullL p)
theorem cell_Bx {l : Lt} (hl : IsL l) {v : Vc} (h : v ∈ cellsS l) : Bx v := by
  obtain ⟨h1, h2, h3, h4⟩ := mem_cellsS h
  obtain ⟨a1, a2, c1, c2, b1, b2, ix⟩ := hl
  exact ⟨by omega, by omega, by omega, by omega⟩
theorem full_all {p : Pt} (hp : IsP p) : f138G KK ([(p.2.1.1, 0), p.2.1.2] ++ fullL p) = some (fullS p) ∧ f143G KK ([(p.2.1.1, 0), p.2.1.2] ++ fullL p) = some (fullS p) ∧ IsL (fullS p) := by
  have h1 : (fullL p).length ≤ 64 := Nat.le_trans (List.length_filter_le _ _) (cellsS_le hp.l)
  exact full_eq hp.l (fullL p) (by omega) (fun t ht => cell_Bx hp.l (List.mem_filter.mp ht).1)
theorem fold_full (p : Pt) (s : List Vc) : (cellsS p.2.1).foldl (fun s t => bif keepsS p (Un, t) then s ++ [t] else s) s = s ++ fullL p := by
  have := foldl_filter (fun t => keepsS p (Un, t)) (fun t : Vc => t) (cellsS p.2.1) s
  rw [List.map_id'] at this
  exact this
theorem l09Full_eq {p : Pt} (hp : IsP p) : f92G KK p = some (fullS p) := by
  unfold f92G f92_g f136G
  rw [l03Cells_eq hp.l]
  simp only [Option.bind_some]
  have hc := cellsS_le hp.l
  have h := iter_fold (X := Int × List Vc) (body := fun L x => f92_b6 KK p (cellsS p.2.1) (fun v0 v1 => L (v0, v1)) x.1 x.2) (cellsS p.2.1) (fun q s => ((q : Int), s)) (fun s t => bif keepsS p (Un, t) then s ++ [t] else s) (fun s => (f138G KK s).bind fun y => some y) (fun q s => s.length ≤ q + 2)
    (fun L q s hq hi => by
      have hv := cell_Sv hp.l (List.getElem_mem hq)
      refine ⟨?_, ?_⟩
      · cases keepsS p (Un, (cellsS p.2.1)[q]) <;> simp <;> omega
      unfold f92_b6 f137G
      simp only
      rw [in1 hq, in0, gd hq]
      simp only [Bool.and_self, cond_true, Option.bind_some]
      rw [l09Keeps_eq hp (m := (Un, (cellsS p.2.1)[q])) Un_sm hv, Option.bind_some, blim16 (by simp; omega), w_succ (by omega)]
      cases keepsS p (Un, (cellsS p.2.1)[q]) <;> rfl)
    (fun L s hi => by
      unfold f92_b6
      simp only
      rw [out1, cond_false]) KK 0 [(p.2.1.1, 0), p.2.1.2] (by omega) (by have := KKlt (n := (cellsS p.2.1).length) (by omega); omega) (by simp)
  unfold f92_l6
  refine h.trans ?_
  simp only [List.drop_zero]
  rw [fold_full, (full_all hp).1]
  rfl
theorem fullLattice_eq {p : Pt} (hp : IsP p) : f98G KK p = some (fullS p) := by
  unfold f98G f98_g f142G
  rw [cells_eq hp.l]
  simp only [Option.bind_some]
  have hc := cellsS_le hp.l
  have h := iter_fold (X := Int × List Vc) (body := fun L x => f98_b6 KK p ((p.2.1.1, 0), p.2.1.2) (cellsS p.2.1) (fun v0 v1 => L (v0, v1)) x.1 x.2) (cellsS p.2.1) (fun q s => ((q : Int), s)) (fun s t => bif keepsS p (Un, t) then s ++ [t] else s) (fun s => (f143G KK s).bind fun y => some y) (fun q s => s.length ≤ q + 2)
    (fun L q s hq hi => by
      have hv := cell_Sv hp.l (List.getElem_mem hq)
      refine ⟨?_, ?_⟩
      · cases keepsS p (Un, (cellsS p.2.1)[q]) <;> simp <;> omega
      unfold f98_b6 f119G
      simp only
      rw [in1 hq, in0, gd hq]
      simp only [Bool.and_self, cond_true, Option.bind_some]
      rw [keeps_eq hp (m := (Un, (cellsS p.2.1)[q])) Un_sm hv, Option.bind_some, blim16 (by simp; omega), w_succ (by omega)]
      cases keepsS p (Un, (cellsS p.2.1)[q]) <;> rfl)
    (fun L s hi => by
      unfold f98_b6
      simp only
      rw [out1, cond_false]) KK 0 [(p.2.1.1, 0), p.2.1.2] (by omega) (by have := KKlt (n := (cellsS p.2.1).length) (by omega); omega) (by simp)
  unfold f98_l6
  refine h.trans ?_
  simp only [List.drop_zero]
  rw [fold_full, (full_all hp).2.1]
  rfl
def onS (p : Pt) (l : Lt) : Pt := (p.1, l, (cellsS l).map (atS p))
theorem l09On_eq {p : Pt} (hp : IsP p) {l : Lt} (hl : IsL l) : f91G KK p l = some (onS p l) := by
  unfold f91G f91_g
  rw [l03Cells_eq hl]
  simp only [Option.bind_some]
  have hc := cellsS_le hl
  have h := iter_fold (X := Int × List Int) (body := fun L x => f91_b4 KK p l (cellsS l) (fun v0 v1 => L (v0, v1)) x.1 x.2) (cellsS l) (fun q s => ((q : Int), s)) (fun s t => s ++ [atS p t]) (fun s => some (p.1, l, s)) (fun q s => s.length ≤ q)
    (fun L q s hq hi => by
      have hv := cell_Sv hl (List.getElem_mem hq)
      refine ⟨by simp; omega, ?_⟩
      unfold f91_b4
      simp only
      rw [in1 hq, in0, gd hq]
      simp only [Bool.and_self, cond_true]
      rw [l09At_eq hp (Sv_Sm hv), Option.bind_some, blim8 (by simp; omega), w_succ (by omega)]
      rfl)
    (fun L s hi => by
      unfold f91_b4
      simp only
      rw [out1, cond_false]) KK 0 [] (by omega) (by have := KKlt (n := (cellsS l).length) (by omega); omega) (by simp)
  unfold f91_l4
  refine h.trans ?_
  simp only [List.drop_zero]
  rw [foldl_push]
  rfl
theorem spread_eq {p : Pt} (hp : IsP p) {l : Lt} (hl : IsL l) : f97G KK p l = some (onS p l) := by
  unfold f97G f97_g
  rw [cells_eq hl]
  simp only [Option.bind_some]
  have hc := cellsS_le hl
  have h := iter_fold (X := Int × List Int) (body := fun L x => f97_b4 KK p l (cellsS l) (fun v0 v1 => L (v0, v1)) x.1 x.2) (cellsS l) (fun q s => ((q : Int), s)) (fun s t => s ++ [atS p t]) (fun s => some (p.1, l, s)) (fun q s => s.length ≤ q)
    (fun L q s hq hi => by
      have hv := cell_Sv hl (List.getElem_mem hq)
      refine ⟨by simp; omega, ?_⟩
      unfold f97_b4
      simp only
      rw [in1 hq, in0, gd hq]
      simp only [Bool.and_self, cond_true]
      rw [at_eq hp (Sv_Sm hv), Option.bind_some, blim8 (by simp; omega), w_succ (by omega)]
      rfl)
    (fun L s hi => by
      unfold f97_b4
      simp only
      rw [out1, cond_false]) KK 0 [] (by omega) (by have := KKlt (n := (cellsS l).length) (by omega); omega) (by simp)
  unfold f97_l4
  refine h.trans ?_
  simp only [List.drop_zero]
  rw [foldl_push]
  rfl
def leanS (p : Pt) : Pt := onS p (fullS p)
theorem leanS_P {p : Pt} (hp : IsP p) : IsP (leanS p) := by
  have hl := (full_all hp).2.2
  refine ⟨hp.f1, hp.f2, hl, ?_⟩
  show ((((cellsS (fullS p)).map (atS p)).length : Nat) : Int) = _
  rw [List.length_map, cellsS_len hl, idx_nat hl]
  rfl
theorem l09Lean_eq {p : Pt} (hp : IsP p) : f51G KK p = some (leanS p) := by
  unfold f51G
  rw [l09Full_eq hp, Option.bind_some, l09On_eq hp (full_all hp).2.2, Option.bind_some]
  rfl
theorem lean_eq {p : Pt} (hp : IsP p) : f55G KK p = some (leanS p) := by
  unfold f55G
  rw [fullLattice_eq hp, Option.bind_some, spread_eq hp (full_all hp).2.2, Option.bind_some]
  rfl
end Go.Proofs.Ytbgdojniimdihaa.X
