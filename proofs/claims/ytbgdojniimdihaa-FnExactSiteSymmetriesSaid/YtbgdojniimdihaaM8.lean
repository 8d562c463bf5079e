/- Plain facts: the matrices that keep a lattice, and the group of a pattern. -/
import Derived.Test.YtbgdojniimdihaaM7
namespace Go.Proofs.Ytbgdojniimdihaa.X
open Go
set_option linter.unusedVariables false
def pmQ : List Mt := [(-1, 0, 0, -1), (-1, 0, 0, 1), (0, -1, -1, 0), (0, -1, 1, 0), (0, 1, -1, 0), (0, 1, 1, 0), (1, 0, 0, -1), (1, 0, 0, 1)]
def pmH : List Mt := [(-1, -1, 0, 1), (-1, -1, 1, 0), (-1, 0, 0, -1), (-1, 0, 1, 1), (0, -1, -1, 0), (0, -1, 1, 1), (0, 1, -1, -1), (0, 1, 1, 0), (1, 0, -1, -1), (1, 0, 0, 1), (1, 1, -1, 0), (1, 1, 0, -1)]
def pmS (f : Int) : List Mt := if f = 0 then pmQ else pmH
theorem l04Mats_0 : f133G KK 0 = some pmQ := by kernel_rfl
theorem l04Mats_1 : f133G KK 1 = some pmH := by kernel_rfl
theorem pointMats_0 : f162G KK 0 = some pmQ := by kernel_rfl
theorem pointMats_1 : f162G KK 1 = some pmH := by kernel_rfl
theorem l04Mats_eq {f : Int} (h1 : 0 ≤ f) (h2 : f ≤ 1) : f133G KK f = some (pmS f) := by
  have : f = 0 ∨ f = 1 := by omega
  rcases this with rfl | rfl
  · exact l04Mats_0
  · exact l04Mats_1
theorem pointMats_eq {f : Int} (h1 : 0 ≤ f) (h2 : f ≤ 1) : f162G KK f = some (pmS f) := by
  have : f = 0 ∨ f = 1 := by omega
  rcases this with rfl | rfl
  · exact pointMats_0
  · exact pointMats_1
def detS (m : Mt) : Int := m.1 * m.2.2.2 - m.2.1 * m.2.2.1
theorem pm_all : ∀ m ∈ pmQ ++ pmH, (-1 ≤ m.1 ∧ m.1 ≤ 1) ∧ (-1 ≤ m.2.1 ∧ m.2.1 ≤ 1) ∧ (-1 ≤ m.2.2.1 ∧ m.2.2.1 ≤ 1) ∧ (-1 ≤ m.2.2.2 ∧ m.2.2.2 ≤ 1) ∧ (detS m = 1 ∨ detS m = -1) := by decide +kernel
theorem pmS_mem {f : Int} {m : Mt} (h : m ∈ pmS f) : m ∈ pmQ ++ pmH := by
  unfold pmS at h
  split at h
  · exact List.mem_append_left _ h
  · exact List.mem_append_right _ h
theorem pm_sm {m : Mt} (h : m ∈ pmQ ++ pmH) : SmM m := by
  obtain ⟨h1, h2, h3, h4, _⟩ := pm_all m h
  exact ⟨h1, h2, h3, h4⟩
theorem pm_det {m : Mt} (h : m ∈ pmQ ++ pmH) : detS m = 1 ∨ detS m = -1 := (pm_all m h).2.2.2.2
theorem pmS_len (f : Int) : (pmS f).length ≤ 12 := by
  unfold pmS; split <;> decide
/-- a basis vector stays in the lattice -/
def stayS (l : Lt) (m : Mt) : Bool := (redS l (mulS m (l.1, 0)) == (0, 0)) && (redS l (mulS m l.2) == (0, 0))
theorem basis_Sv {l : Lt} (hl : IsL l) : Sv (l.1, 0) ∧ Sv l.2 := by
  obtain ⟨a1, a2, c1, c2, b1, b2, ix⟩ := hl
  simp only [Sv]; omega
theorem mul_Bw {l : Lt} (hl : IsL l) {m : Mt} (hm : SmM m) : Bw (mulS m (l.1, 0)) ∧ Bw (mulS m l.2) := by
  obtain ⟨a1, a2, c1, c2, b1, b2, ix⟩ := hl
  have p1 := unit_mul hm.a (x := l.1) (B := 64) (by omega) (by omega) (by omega)
  have p2 := unit_mul hm.c (x := l.1) (B := 64) (by omega) (by omega) (by omega)
  have p3 := unit_mul hm.a (x := l.2.1) (B := 64) (by omega) (by omega) (by omega)
  have p4 := unit_mul hm.b (x := l.2.2) (B := 64) (by omega) (by omega) (by omega)
  have p5 := unit_mul hm.c (x := l.2.1) (B := 64) (by omega) (by omega) (by omega)
  have p6 := unit_mul hm.d (x := l.2.2) (B := 64) (by omega) (by omega) (by omega)
  simp only [mulS, Int.mul_zero, Int.add_zero]
  exact ⟨⟨by simp only; omega, by simp only; omega⟩, ⟨by simp only; omega, by simp only; omega⟩⟩
theorem det_mul (l : Lt) (m : Mt) : det2 (mulS m (l.1, 0)) (mulS m l.2) = detS m * (l.1 * l.2.2) := by
  simp only [det2, mulS, detS, Int.mul_zero, Int.add_zero, Int.mul_add, Int.add_mul, Int.sub_mul]
  have e1 : m.1 * l.1 * (m.2.2.1 * l.2.1) = m.1 * l.2.1 * (m.2.2.1 * l.1) := by ac_rfl
  have e2 : m.1 * m.2.2.2 * (l.1 * l.2.2) = m.1 * l.1 * (m.2.2.2 * l.2.2) := by ac_rfl
  have e3 : m.2.1 * m.2.2.1 * (l.1 * l.2.2) = m.2.1 * l.2.2 * (m.2.2.1 * l.1) := by ac_rfl
  omega
theorem stay_iff {l : Lt} (hl : IsL l) {m : Mt} (hm : m ∈ pmQ ++ pmH) : finR (stI (stI (0, 0, 0) (mulS m (l.1, 0))) (mulS m l.2)) = l ↔ stayS l m = true := by
  obtain ⟨b1, b2⟩ := mul_Bw hl (pm_sm hm)
  rw [fix_iff hl (by have := b1.y; omega) (by have := b2.y; omega) ?_]
  · unfold stayS
    rw [Bool.and_eq_true, beq_iff_eq, beq_iff_eq, redS_InL hl, redS_InL hl]
  · rw [det_mul]
    have h0 : 0 < l.1 * l.2.2 := Int.mul_pos (by have := hl.a1; omega) (by have := hl.c1; omega)
    rcases pm_det hm with h | h <;> rw [h] <;> omega
theorem l04Image_eq {l : Lt} (hl : IsL l) {m : Mt} (hm : SmM m) : f134G KK m l = some (finR (stI (stI (0, 0, 0) (mulS m (l.1, 0))) (mulS m l.2))) := by
  unfold f134G f136G
  simp only [Option.bind_some]
  have e1 : ([(l.1, (0 : Int)), l.2].getD ((0 : Int) + (0 : Int)).toNat ((0 : Int), (0 : Int))) = (l.1, 0) := rfl
  have e2 : ([(l.1, (0 : Int)), l.2].getD ((0 : Int) + (1 : Int)).toNat ((0 : Int), (0 : Int))) = l.2 := rfl
  obtain ⟨s1, s2⟩ := basis_Sv hl
  obtain ⟨b1, b2⟩ := mul_Bw hl hm
  rw [e1, e2, l02Apply_eq hm s1, l02Apply_eq hm s2]
  simp only [Option.bind_some]
  rw [herm2_eq b1 b2]
  rfl
def stabS (f : Int) (l : Lt) : List Mt := (pmS f).filter (stayS l)
theorem l04Stable_eq {f : Int} (h1 : 0 ≤ f) (h2 : f ≤ 1) {l : Lt} (hl : IsL l) : f89G KK f l = some (stabS f l) := by
  unfold f89G f89_g
  rw [l04Mats_eq h1 h2]
  simp only [Option.bind_some]
  have hc := pmS_len f
  have h := iter_fold (X := Int × List Mt) (body := fun L x => f89_b4 KK f l (pmS f) (fun v0 v1 => L (v0, v1)) x.1 x.2) (pmS f) (fun q s => ((q : Int), s)) (fun s m => bif stayS l m then s ++ [m] else s) (fun s => some s) (fun q s => s.length ≤ q)
    (fun L q s hq hi => by
      have hm := pmS_mem (List.getElem_mem hq)
      refine ⟨?_, ?_⟩
      · cases stayS l (pmS f)[q] <;> simp <;> omega
      unfold f89_b4
      simp only
      rw [in1 hq, in0, gd hq]
      simp only [Bool.and_self, cond_true]
      rw [l04Image_eq hl (m := (pmS f)[q]) (pm_sm hm), Option.bind_some, blim32 (by simp; omega), w_succ (by omega)]
      have hst := stay_iff hl hm
      generalize finR (stI (stI (0, 0, 0) (mulS (pmS f)[q] (l.1, 0))) (mulS (pmS f)[q] l.2)) = r at *
      have hr : ((r.1 == l.1) && ((r.2.1 == l.2.1) && (r.2.2 == l.2.2))) = stayS l (pmS f)[q] := by
        rw [Bool.eq_iff_iff, ← hst]
        simp only [Bool.and_eq_true, beq_iff_eq]
        rw [Prod.ext_iff, Prod.ext_iff]
      rw [hr]
      cases stayS l (pmS f)[q] <;> rfl)
    (fun L s hi => by
      unfold f89_b4
      simp only
      rw [out1, cond_false]) KK 0 [] (by omega) (by have := KKlt (n := (pmS f).length) (by omega); omega) (by simp)
  unfold f89_l4
  refine h.trans ?_
  simp only [List.drop_zero]
  have := foldl_filter (stayS l) (fun t : Mt => t) (pmS f) []
  rw [List.map_id', List.nil_append] at this
  exact congrArg some this
theorem has_eq {l : Lt} (hl : IsL l) {v : Vc} (hv : Sm v) : f164G KK l v = some (redS l v == (0, 0)) := by
  unfold f164G
  rw [reduce_eq hl hv]
  rfl
theorem Bw_Sm {v : Vc} (h : Bw v) : Sm v := by
  obtain ⟨h1, h2⟩ := h
  simp only [Sm]; omega
theorem drop_pred {l : Lt} (hl : IsL l) {m : Mt} (hm : SmM m) : f163G KK m l (l.1, 0) l.2 = some (!stayS l m) := by
  obtain ⟨s1, s2⟩ := basis_Sv hl
  obtain ⟨b1, b2⟩ := mul_Bw hl hm
  unfold f163G
  rw [matApply_eq hm s1, matApply_eq hm s2]
  simp only [Option.bind_some, Bool.or_true, cond_true]
  rw [has_eq hl (Bw_Sm b1)]
  simp only [Option.bind_some]
  unfold stayS
  cases h : (redS l (mulS m (l.1, 0)) == (0, 0))
  · rfl
  · simp only [Bool.not_true, Bool.not_false, cond_true, Option.bind_some, Bool.true_and, cond_false]
    rw [has_eq hl (Bw_Sm b2)]
    rfl
end Go.Proofs.Ytbgdojniimdihaa.X
