/- Plain facts: the group of a pattern, as the program and the reference compute it. -/
import Derived.Test.YtbgdojniimdihaaM9
namespace Go.Proofs.Ytbgdojniimdihaa.X
open Go
set_option linter.unusedVariables false
abbrev Mo := Mt × Vc
def rowG (p : Pt) (m : Mt) : List Mo := ((cellsS p.2.1).filter fun t => keepsS p (m, t)).map fun t => (m, t)
def groupS (p : Pt) : List Mo := (stabS p.1 p.2.1).flatMap (rowG p)
theorem fold_row (p : Pt) (m : Mt) (s : List Mo) : (cellsS p.2.1).foldl (fun s t => bif keepsS p (m, t) then s ++ [(m, t)] else s) s = s ++ rowG p m :=
  foldl_filter (fun t => keepsS p (m, t)) (fun t : Vc => ((m, t) : Mo)) (cellsS p.2.1) s
theorem stab_mem {f : Int} {l : Lt} {m : Mt} (h : m ∈ stabS f l) : m ∈ pmQ ++ pmH := pmS_mem (List.mem_filter.mp h).1
theorem stab_len (f : Int) (l : Lt) : (stabS f l).length ≤ 12 := Nat.le_trans (List.length_filter_le _ _) (pmS_len f)
theorem rowG_len {p : Pt} (hp : IsP p) (m : Mt) : (rowG p m).length ≤ 64 := by
  unfold rowG
  rw [List.length_map]
  exact Nat.le_trans (List.length_filter_le _ _) (cellsS_le hp.l)
theorem l10_row {p : Pt} (hp : IsP p) {ms : List Mt} (hms : ∀ m ∈ ms, m ∈ pmQ ++ pmH) {L : Int → List Mo → Option (List Mo)} {x : Nat} (hx : x < ms.length) (hx2 : x < 100) {s : List Mo} (hs : s.length ≤ x * 64) :
    f50_l13 KK p (x : Int) ms (cellsS p.2.1) L KK 0 s = L ((x + 1 : Nat) : Int) (s ++ rowG p ms[x]) := by
  have hc := cellsS_le hp.l
  have hm := hms _ (List.getElem_mem hx)
  have h := iter_fold (X := Int × List Mo) (body := fun L13 z => f50_b13 KK p (x : Int) ms (cellsS p.2.1) L (fun v0 v1 => L13 (v0, v1)) z.1 z.2) (cellsS p.2.1) (fun q s => ((q : Int), s)) (fun s t => bif keepsS p (ms[x], t) then s ++ [(ms[x], t)] else s) (fun s => L ((x + 1 : Nat) : Int) s) (fun q s => s.length ≤ x * 64 + q)
    (fun L13 q s hq hi => by
      have hv := cell_Sv hp.l (List.getElem_mem hq)
      refine ⟨?_, ?_⟩
      · cases keepsS p (ms[x], (cellsS p.2.1)[q]) <;> simp <;> omega
      unfold f50_b13
      simp only
      rw [in1 hq, in1 hx, in0, in0, gd hq, gd hx]
      simp only [Bool.and_self, cond_true]
      rw [l09Keeps_eq hp (m := (ms[x], (cellsS p.2.1)[q])) (pm_sm hm) hv, Option.bind_some, blim48 (by simp; omega), w_succ (by omega)]
      cases keepsS p (ms[x], (cellsS p.2.1)[q]) <;> rfl)
    (fun L13 s hi => by
      unfold f50_b13
      simp only
      rw [out1, cond_false, w_succ (by omega)]) KK 0 s (by omega) (by have := KKlt (n := (cellsS p.2.1).length) (by omega); omega) (by simpa using hs)
  unfold f50_l13
  refine h.trans ?_
  simp only [List.drop_zero]
  rw [fold_row]
theorem l10Group_eq {p : Pt} (hp : IsP p) : f50G KK p = some (groupS p) := by
  unfold f50G f50_g
  rw [l04Stable_eq hp.f1 hp.f2 hp.l, l03Cells_eq hp.l]
  simp only [Option.bind_some]
  have hc := stab_len p.1 p.2.1
  have h := iter_fold (X := Int × List Mo) (body := fun L10 z => f50_b10 KK p (stabS p.1 p.2.1) (cellsS p.2.1) (fun c0 d0 d1 => f50_l13 KK p c0 (stabS p.1 p.2.1) (cellsS p.2.1) (fun v0 v1 => L10 (v0, v1)) KK d0 d1) (fun v0 v1 => L10 (v0, v1)) z.1 z.2) (stabS p.1 p.2.1) (fun q s => ((q : Int), s)) (fun s m => s ++ rowG p m) (fun s => some s) (fun q s => s.length ≤ q * 64)
    (fun L10 q s hq hi => by
      refine ⟨by have := rowG_len hp (stabS p.1 p.2.1)[q]; simp; omega, ?_⟩
      unfold f50_b10
      simp only
      rw [in1 hq, cond_true]
      exact l10_row hp (fun m hm => stab_mem hm) hq (by omega) hi)
    (fun L10 s hi => by
      unfold f50_b10
      simp only
      rw [out1, cond_false]) KK 0 [] (by omega) (by have := KKlt (n := (stabS p.1 p.2.1).length) (by omega); omega) (by simp)
  unfold f50_l10
  refine h.trans ?_
  simp only [List.drop_zero]
  rw [foldl_flat]
  rfl
theorem gr_row {p : Pt} (hp : IsP p) {ms : List Mt} (hms : ∀ m ∈ ms, m ∈ pmQ ++ pmH) {L : Int → List Mo → Option (List Mo)} {x : Nat} (hx : x < ms.length) (hx2 : x < 100) {s : List Mo} (hs : s.length ≤ x * 64) :
    f69_l14 KK p (x : Int) ms (cellsS p.2.1) L KK 0 s = L ((x + 1 : Nat) : Int) (s ++ rowG p ms[x]) := by
  have hc := cellsS_le hp.l
  have hm := hms _ (List.getElem_mem hx)
  have h := iter_fold (X := Int × List Mo) (body := fun L14 z => f69_b14 KK p (x : Int) ms (cellsS p.2.1) L (fun v0 v1 => L14 (v0, v1)) z.1 z.2) (cellsS p.2.1) (fun q s => ((q : Int), s)) (fun s t => bif keepsS p (ms[x], t) then s ++ [(ms[x], t)] else s) (fun s => L ((x + 1 : Nat) : Int) s) (fun q s => s.length ≤ x * 64 + q)
    (fun L14 q s hq hi => by
      have hv := cell_Sv hp.l (List.getElem_mem hq)
      refine ⟨?_, ?_⟩
      · cases keepsS p (ms[x], (cellsS p.2.1)[q]) <;> simp <;> omega
      unfold f69_b14
      simp only
      rw [in1 hq, in0, gd hq, gd hx]
      simp only [Bool.and_self, cond_true]
      rw [keeps_eq hp (m := (ms[x], (cellsS p.2.1)[q])) (pm_sm hm) hv, Option.bind_some, blim48 (by simp; omega), w_succ (by omega)]
      cases keepsS p (ms[x], (cellsS p.2.1)[q]) <;> rfl)
    (fun L14 s hi => by
      unfold f69_b14
      simp only
      rw [out1, cond_false, w_succ (by omega)]) KK 0 s (by omega) (by have := KKlt (n := (cellsS p.2.1).length) (by omega); omega) (by simpa using hs)
  unfold f69_l14
  refine h.trans ?_
  simp only [List.drop_zero]
  rw [fold_row]
theorem groupOf_eq {p : Pt} (hp : IsP p) : f69G KK p = some (groupS p) := by
  unfold f69G f69_g
  rw [latticeMats_eq hp.f1 hp.f2 hp.l]
  simp only [Option.bind_some]
  have hc := stab_len p.1 p.2.1
  have h := iter_fold (X := Int × List Mo) (body := fun L10 z => f69_b10 KK p (stabS p.1 p.2.1) (fun c0 c1 d0 d1 => f69_l14 KK p c0 (stabS p.1 p.2.1) c1 (fun v0 v1 => L10 (v0, v1)) KK d0 d1) (fun v0 v1 => L10 (v0, v1)) z.1 z.2) (stabS p.1 p.2.1) (fun q s => ((q : Int), s)) (fun s m => s ++ rowG p m) (fun s => some s) (fun q s => s.length ≤ q * 64)
    (fun L10 q s hq hi => by
      refine ⟨by have := rowG_len hp (stabS p.1 p.2.1)[q]; simp; omega, ?_⟩
      unfold f69_b10
      simp only
      rw [in1 hq, in0, cells_eq hp.l]
      simp only [Bool.and_self, cond_true, Option.bind_some]
      exact gr_row hp (fun m hm => stab_mem hm) hq (by omega) hi)
    (fun L10 s hi => by
      unfold f69_b10
      simp only
      rw [out1, cond_false]) KK 0 [] (by omega) (by have := KKlt (n := (stabS p.1 p.2.1).length) (by omega); omega) (by simp)
  unfold f69_l10
  refine h.trans ?_
  simp only [List.drop_zero]
  rw [foldl_flat]
  rfl
theorem groupS_mem {p : Pt} {g : Mo} (h : g ∈ groupS p) : g.1 ∈ stabS p.1 p.2.1 ∧ g.2 ∈ cellsS p.2.1 := by
  unfold groupS rowG at h
  simp only [List.mem_flatMap, List.mem_map, List.mem_filter] at h
  obtain ⟨m, hm, t, ⟨ht, _⟩, rfl⟩ := h
  exact ⟨hm, ht⟩
theorem flatMap_len {α β : Type} (f : α → List β) (B : Nat) (hf : ∀ a, (f a).length ≤ B) : ∀ l : List α, (l.flatMap f).length ≤ l.length * B
  | [] => by simp
  | a :: l => by
    rw [List.flatMap_cons, List.length_append, List.length_cons, Nat.add_mul]
    have := flatMap_len f B hf l
    have := hf a
    omega
theorem groupS_len {p : Pt} (hp : IsP p) : (groupS p).length ≤ 768 := by
  have h1 := flatMap_len (rowG p) 64 (rowG_len hp) (stabS p.1 p.2.1)
  have h2 := stab_len p.1 p.2.1
  have : (stabS p.1 p.2.1).length * 64 ≤ 12 * 64 := Nat.mul_le_mul_right _ h2
  unfold groupS
  omega
end Go.Proofs.Ytbgdojniimdihaa.X
