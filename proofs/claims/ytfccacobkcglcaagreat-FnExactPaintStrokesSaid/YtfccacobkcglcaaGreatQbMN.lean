/- Plain facts: all orbits, and for each cell the number of its orbit. -/
import Derived.Test.YtfccacobkcglcaaGreatQbML
namespace Go.Proofs.YtfccacobkcglcaaGreat.X
open Go
set_option linter.unusedSimpArgs false
set_option linter.unusedVariables false
theorem number_eq {l : Lt} (hl : IsL l) {v : Vc} (hv : cellB l v = true) : f130G KK l v = some ((numS l v : Nat) : Int) := by
  unfold f130G
  have := (num_calc hl v).1
  rw [redS_cell hl hv] at this
  rw [this]
/-! ### numbers of cells -/
theorem cell_at {l : Lt} (hl : IsL l) {v : Vc} (hv : cellB l v = true) : (cellsS l)[numS l v]? = some v := by
  have h := numS_lt hl v
  rw [List.getElem?_eq_getElem h]
  congr 1
  have hm : (cellsS l)[numS l v] ∈ cellsS l := List.getElem_mem h
  have hc := mem_cellsS hm
  exact num_inj hl (cellB_iff.2 (by omega)) hv (cellsS_num hl h)
theorem cellsS_cell {l : Lt} {v : Vc} (h : v ∈ cellsS l) : cellB l v = true := by
  have := mem_cellsS h
  exact cellB_iff.2 (by omega)
/-! ### where an orbit stands -/
theorem idxS_app {α : Type} (p : α → Bool) : ∀ (C D : List α) (q : Nat), idxS p q (C ++ D) = bif C.any p then idxS p q C else idxS p (q + C.length) D
  | [], D, q => by simp
  | a :: C, D, q => by
    have ih := idxS_app p C D (q + 1)
    simp only [List.cons_append, idxS, List.any_cons, List.length_cons]
    cases h : p a
    · rw [cond_false, cond_false, Bool.false_or, ih]
      have e : q + 1 + C.length = q + (C.length + 1) := by omega
      rw [e]
    · rfl
def setAll (l : Lt) (i : Int) (o : List Vc) (s : List Int) : List Int := o.foldl (fun s u => s.set (numS l u) i) s
theorem setAll_len (l : Lt) (i : Int) : ∀ (o : List Vc) (s : List Int), (setAll l i o s).length = s.length
  | [], _ => rfl
  | u :: o, s => by
    show (setAll l i o (s.set (numS l u) i)).length = _
    rw [setAll_len l i o, List.length_set]
theorem setAll_get {l : Lt} (hl : IsL l) (i : Int) {u : Vc} (hu : cellB l u = true) : ∀ (o : List Vc) (s : List Int), (∀ x ∈ o, cellB l x = true) → numS l u < s.length → (setAll l i o s)[numS l u]? = if u ∈ o then some i else s[numS l u]?
  | [], s, _, _ => by simp [setAll]
  | x :: o, s, ho, hs => by
    show (setAll l i o (s.set (numS l x) i))[numS l u]? = _
    rw [setAll_get hl i hu o _ (fun y hy => ho y (by simp [hy])) (by rw [List.length_set]; exact hs)]
    by_cases h1 : u ∈ o
    · rw [if_pos h1, if_pos (by simp [h1])]
    · rw [if_neg h1]
      by_cases h2 : u = x
      · subst h2
        rw [if_pos (by simp), List.getElem?_set_self hs]
      · rw [if_neg (by simp [h1, h2]), List.getElem?_set_ne (fun e => h2 (num_inj hl hu (ho x (by simp)) e.symm))]
/-- the orbits of the first q cells -/
def orbT (l : Lt) (g : List Mo) (q : Nat) : List (List Vc) := (((cellsS l).take q).filter (repB l g)).map (orbS l g)
def numsF (l : Lt) (g : List Mo) : List Int := (cellsS l).map fun v => idxS (fun o => o.contains v) 0 (orbsS l g)
theorem orbT_all (l : Lt) (g : List Mo) : orbT l g (cellsS l).length = orbsS l g := by
  unfold orbT orbsS repsS
  rw [List.take_length]
/-- the numbers, while orbits are found -/
structure Num (l : Lt) (g : List Mo) (q : Nat) (s : List Int) : Prop where
  len : s.length = (cellsS l).length
  get : ∀ u, cellB l u = true → s[numS l u]? = some (idxS (fun o => o.contains u) 0 (orbT l g q))
theorem Num.all {l : Lt} (hl : IsL l) {g : List Mo} {s : List Int} (h : Num l g (cellsS l).length s) : s = numsF l g := by
  apply List.ext_getElem?
  intro k
  unfold numsF
  rw [List.getElem?_map]
  by_cases hk : k < (cellsS l).length
  · have hc : cellB l (cellsS l)[k] = true := cellsS_cell (List.getElem_mem hk)
    have := h.get _ hc
    rw [cellsS_num hl hk, orbT_all] at this
    rw [this, List.getElem?_eq_getElem hk]
    rfl
  · rw [List.getElem?_eq_none (by rw [h.len]; omega), List.getElem?_eq_none (by omega)]
    rfl
theorem l07Orbits_eq {f : Int} {l : Lt} {g : List Mo} (h : OrbG f l g) : f135G KK l g = some (orbsS l g) := by
  have hN := cellsS_le h.la
  have hh := iter_fold (R := List (List Vc)) (body := fun L x => f135_b4 KK l g (cellsS l) (fun v0 v1 => L (v0, v1)) x.1 x.2) (cellsS l) (fun q s => ((q : Int), s)) (fun s v => bif repB l g v then s ++ [orbS l g v] else s) some (fun q s => s.length ≤ q)
    (fun L q s hq hi => by
      refine ⟨by cases repB l g (cellsS l)[q] <;> simp <;> omega, ?_⟩
      show f135_b4 KK l g (cellsS l) (fun v0 v1 => L (v0, v1)) (q : Int) s = _
      have hv : cellB l (cellsS l)[q] = true := cellsS_cell (List.getElem_mem hq)
      obtain ⟨x, t, ho, _⟩ := orb_cons h hv
      unfold f135_b4
      rw [in1 hq, in0, gd hq]
      simp only [Bool.and_self, cond_true]
      rw [l07Orbit_eq h.la (by have := h.len; omega) h.good (cellB_Sv h.la hv), Option.bind_some, ho]
      have e1 : (decide (0 ≤ (0 : Int)) && decide ((0 : Int) < (((x :: t : List Vc).length : Nat) : Int))) = true := by
        have : (0 : Int) < (((x :: t : List Vc).length : Nat) : Int) := by simp only [List.length_cons]; omega
        rw [decide_eq_true this]
        rfl
      have e2 : ((x :: t : List Vc).getD ((0 : Int) + (0 : Int)).toNat (0, 0)) = x := rfl
      rw [e1, cond_true, e2, eqV2, blim24 (by simp; omega), w_succ (by omega)]
      have e3 : repB l g (cellsS l)[q] = (x == (cellsS l)[q]) := by
        unfold repB
        rw [ho]
        rfl
      rw [e3]
      cases x == (cellsS l)[q] <;> rfl)
    (fun L s hi => by
      show f135_b4 KK l g (cellsS l) (fun v0 v1 => L (v0, v1)) ((cellsS l).length : Int) s = _
      unfold f135_b4
      rw [out1, cond_false]) KK 0 [] (by omega) (by simp only [KK]; omega) (by simp)
  unfold f135G f135_g f135_l4
  rw [l03Cells_eq h.la, Option.bind_some]
  rw [List.drop_zero] at hh
  refine Eq.trans hh (congrArg some ?_)
  rw [foldl_filter, List.nil_append]
  rfl
end Go.Proofs.YtfccacobkcglcaaGreat.X
