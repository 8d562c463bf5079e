/- Plain facts: all orbits, and for each cell the number of its orbit. -/
import Derived.Test.YtniidcalfhhciaaGreatQdML
namespace Go.Proofs.YtniidcalfhhciaaGreat.X
open Go
set_option linter.unusedSimpArgs false
set_option linter.unusedVariables false
theorem number_eq {l : Lt} (hl : IsL l) {v : Vc} (hv : cellB l v = true) : f163G KK l v = some ((numS l v : Nat) : Int) := by
  unfold f163G
  have := (num_calc hl v).1
  rw [redS_cell hl hv] at this
  rw [this]
theorem wrap64 {n : Int} (h1 : 0 ≤ n) (h2 : n < 18446744073709551616) : IntKind.u64.wrap n = n := by
  rw [IntKind.wrap_u64]
  omega
/-! ### numbers of cells -/
theorem numS_cell {l : Lt} (hl : IsL l) {v : Vc} (hv : cellB l v = true) : (numS l v : Int) = v.1 * l.2.2 + v.2 := by
  have h := cellB_iff.1 hv
  have e1 : 0 ≤ v.1 * l.2.2 := Int.mul_nonneg h.1.1 (by have := hl.c1; omega)
  unfold numS
  rw [redS_cell hl hv]
  omega
theorem num_lt {l : Lt} (hl : IsL l) {u v : Vc} (hu : cellB l u = true) (hv : cellB l v = true) (h : ltV u v = true) : numS l u < numS l v := by
  have h1 := numS_cell hl hu
  have h2 := numS_cell hl hv
  have b1 := cellB_iff.1 hu
  have b2 := cellB_iff.1 hv
  have : (u.1 = v.1 ∧ u.2 < v.2) ∨ u.1 < v.1 := by
    unfold ltV numV ltL at h
    by_cases e : u.1 = v.1
    · have e1 : (u.1 == v.1) = true := by simpa using e
      rw [e1, cond_true] at h
      unfold ltL at h
      by_cases e2 : u.2 = v.2
      · have e3 : (u.2 == v.2) = true := by simpa using e2
        rw [e3, cond_true] at h
        cases h
      · have e3 : (u.2 == v.2) = false := by simpa using e2
        rw [e3, cond_false, decide_eq_true_eq] at h
        exact .inl ⟨e, h⟩
    · have e1 : (u.1 == v.1) = false := by simpa using e
      rw [e1, cond_false, decide_eq_true_eq] at h
      exact .inr h
  rcases this with ⟨e1, e2⟩ | e
  · rw [e1] at h1; omega
  · have h3 : u.1 + 1 ≤ v.1 := by omega
    have h4 : (u.1 + 1) * l.2.2 ≤ v.1 * l.2.2 := Int.mul_le_mul_of_nonneg_right h3 (by have := hl.c1; omega)
    rw [Int.add_mul] at h4
    omega
theorem cell_at {l : Lt} (hl : IsL l) {v : Vc} (hv : cellB l v = true) : (cellsS l)[numS l v]? = some v := by
  have h := numS_lt hl v
  rw [List.getElem?_eq_getElem h]
  congr 1
  have hm : (cellsS l)[numS l v] ∈ cellsS l := List.getElem_mem h
  have hc := mem_cellsS hm
  exact num_inj hl (cellB_iff.2 (by omega)) hv (cellsS_num hl h)
theorem cellsS_cell {l : Lt} {v : Vc} (h : v ∈ cellsS l) : cellB l v = true := by
  have := mem_cellsS h
  exact cellB_iff.2 (by omega)
theorem mem_takeC {l : Lt} (hl : IsL l) {q : Nat} (hq : q ≤ (cellsS l).length) {v : Vc} : v ∈ (cellsS l).take q ↔ cellB l v = true ∧ numS l v < q := by
  constructor
  · intro h
    obtain ⟨i, hi, rfl⟩ := List.getElem_of_mem h
    rw [List.length_take] at hi
    rw [List.getElem_take]
    have hi2 : i < (cellsS l).length := by omega
    exact ⟨cellsS_cell (List.getElem_mem hi2), by rw [cellsS_num hl hi2]; omega⟩
  · rintro ⟨h1, h2⟩
    have h3 := cell_at hl h1
    refine List.mem_of_getElem? (i := numS l v) ?_
    rw [List.getElem?_take, if_pos h2, h3]
/-! ### where an orbit stands -/
theorem idxS_none {α : Type} {p : α → Bool} {C : List α} (h : C.any p = false) : idxS p 0 C = -1 := by
  rcases idxS_spec p C 0 with ⟨h1, _⟩ | ⟨k, h1, _, _, a, h4, h5⟩
  · exact h1
  · rw [List.any_eq_false] at h
    exact absurd h5 (h a (List.mem_of_getElem? h4))
theorem idxS_app {α : Type} (p : α → Bool) : ∀ (C D : List α) (q : Nat), idxS p q (C ++ D) = bif C.any p then idxS p q C else idxS p (q + C.length) D
  | [], D, q => by simp
  | a :: C, D, q => by
    have ih := idxS_app p C D (q + 1)
    simp only [List.cons_append, idxS, List.any_cons, List.length_cons]
    cases h : p a
    · rw [cond_false, cond_false, Bool.false_or, ih]
      have e : q + 1 + C.length = q + (C.length + 1) := by omega
      rw [e]
    · rfl
def setAll (l : Lt) (i : Int) (o : List Vc) (s : List Int) : List Int := o.foldl (fun s u => s.set (numS l u) i) s
theorem setAll_len (l : Lt) (i : Int) : ∀ (o : List Vc) (s : List Int), (setAll l i o s).length = s.length
  | [], _ => rfl
  | u :: o, s => by
    show (setAll l i o (s.set (numS l u) i)).length = _
    rw [setAll_len l i o, List.length_set]
theorem setAll_get {l : Lt} (hl : IsL l) (i : Int) {u : Vc} (hu : cellB l u = true) : ∀ (o : List Vc) (s : List Int), (∀ x ∈ o, cellB l x = true) → numS l u < s.length → (setAll l i o s)[numS l u]? = if u ∈ o then some i else s[numS l u]?
  | [], s, _, _ => by simp [setAll]
  | x :: o, s, ho, hs => by
    show (setAll l i o (s.set (numS l x) i))[numS l u]? = _
    rw [setAll_get hl i hu o _ (fun y hy => ho y (by simp [hy])) (by rw [List.length_set]; exact hs)]
    by_cases h1 : u ∈ o
    · rw [if_pos h1, if_pos (by simp [h1])]
    · rw [if_neg h1]
      by_cases h2 : u = x
      · subst h2
        rw [if_pos (by simp), List.getElem?_set_self hs]
      · rw [if_neg (by simp [h1, h2]), List.getElem?_set_ne (fun e => h2 (num_inj hl hu (ho x (by simp)) e.symm))]
/-- the orbits of the first q cells -/
def orbT (l : Lt) (g : List Mo) (q : Nat) : List (List Vc) := (((cellsS l).take q).filter (repB l g)).map (orbS l g)
theorem orbT_mem {f : Int} {l : Lt} {g : List Mo} (h : OrbG f l g) {q : Nat} (hq : q ≤ (cellsS l).length) {u : Vc} : (orbT l g q).any (fun o => o.contains u) = true ↔ ∃ r, cellB l r = true ∧ numS l r < q ∧ repB l g r = true ∧ u ∈ orbS l g r := by
  unfold orbT
  rw [List.any_eq_true]
  constructor
  · rintro ⟨o, ho, hu⟩
    obtain ⟨r, hr, rfl⟩ := List.mem_map.1 ho
    obtain ⟨h1, h2⟩ := List.mem_filter.1 hr
    obtain ⟨h3, h4⟩ := (mem_takeC h.la hq).1 h1
    exact ⟨r, h3, h4, h2, List.contains_iff_mem.1 hu⟩
  · rintro ⟨r, h1, h2, h3, h4⟩
    exact ⟨_, List.mem_map.2 ⟨r, List.mem_filter.2 ⟨(mem_takeC h.la hq).2 ⟨h1, h2⟩, h3⟩, rfl⟩, List.contains_iff_mem.2 h4⟩
theorem orbT_rep {f : Int} {l : Lt} {g : List Mo} (h : OrbG f l g) {q : Nat} (hq : q < (cellsS l).length) : (orbT l g q).any (fun o => o.contains (cellsS l)[q]) = !repB l g (cellsS l)[q] := by
  have hv : cellB l (cellsS l)[q] = true := cellsS_cell (List.getElem_mem hq)
  have hn := cellsS_num h.la hq
  cases hr : repB l g (cellsS l)[q]
  · rw [Bool.not_false]
    refine (orbT_mem h (by omega)).2 ?_
    obtain ⟨w, h1, h2, h3, h4⟩ := rep_of h hv
    refine ⟨w, h2, ?_, h1, h3⟩
    rcases h4 with e | e
    · rw [e, hr] at h1; cases h1
    · have := num_lt h.la h2 hv e
      omega
  · rw [Bool.not_true]
    cases hx : (orbT l g q).any (fun o => o.contains (cellsS l)[q])
    · rfl
    · obtain ⟨r, h1, h2, h3, h4⟩ := (orbT_mem h (by omega)).1 hx
      have := rep_one h h1 hv h3 hr h4
      rw [this, hn] at h2
      omega
theorem orbT_succ {l : Lt} {g : List Mo} {q : Nat} (hq : q < (cellsS l).length) : orbT l g (q + 1) = bif repB l g (cellsS l)[q] then orbT l g q ++ [orbS l g (cellsS l)[q]] else orbT l g q := by
  unfold orbT
  rw [List.take_succ_eq_append_getElem hq, List.filter_append, List.map_append]
  cases hr : repB l g (cellsS l)[q] <;> simp [hr]
theorem orbT_len (l : Lt) (g : List Mo) (q : Nat) : (orbT l g q).length ≤ q := by
  unfold orbT
  rw [List.length_map]
  refine Nat.le_trans (List.length_filter_le _ _) ?_
  simp [List.length_take]
  omega
/-- one orbit more -/
theorem idx_snoc {f : Int} {l : Lt} {g : List Mo} (h : OrbG f l g) {q : Nat} (hq : q < (cellsS l).length) (hr : repB l g (cellsS l)[q] = true) {u : Vc} (hu : cellB l u = true) :
    idxS (fun o => o.contains u) 0 (orbT l g q ++ [orbS l g (cellsS l)[q]]) = if u ∈ orbS l g (cellsS l)[q] then ((orbT l g q).length : Int) else idxS (fun o => o.contains u) 0 (orbT l g q) := by
  have hv : cellB l (cellsS l)[q] = true := cellsS_cell (List.getElem_mem hq)
  rw [idxS_app]
  by_cases hm : u ∈ orbS l g (cellsS l)[q]
  · rw [if_pos hm]
    have hno : ¬ (orbT l g q).any (fun o => o.contains u) = true := by
      intro hx
      obtain ⟨r, h1, h2, h3, h4⟩ := (orbT_mem h (by omega)).1 hx
      have h5 : (cellsS l)[q] ∈ orbS l g r := orb_trans h h4 (orb_symm h hv hm)
      have h6 := rep_one h h1 hv h3 hr h5
      rw [h6, cellsS_num h.la hq] at h2
      omega
    have hno : (orbT l g q).any (fun o => o.contains u) = false := by simpa using hno
    rw [hno, cond_false]
    simp only [idxS, List.contains_iff_mem.2 hm, cond_true]
    omega
  · rw [if_neg hm]
    by_cases hx : (orbT l g q).any (fun o => o.contains u) = true
    · rw [hx, cond_true]
    · have hx : (orbT l g q).any (fun o => o.contains u) = false := by simpa using hx
      rw [hx, cond_false, idxS_none hx]
      have : (orbS l g (cellsS l)[q]).contains u = false := by
        cases hc : (orbS l g (cellsS l)[q]).contains u
        · rfl
        · exact absurd (List.contains_iff_mem.1 hc) hm
      simp only [idxS, this, cond_false]
def numsF (l : Lt) (g : List Mo) : List Int := (cellsS l).map fun v => idxS (fun o => o.contains v) 0 (orbsS l g)
theorem orbT_all (l : Lt) (g : List Mo) : orbT l g (cellsS l).length = orbsS l g := by
  unfold orbT orbsS repsS
  rw [List.take_length]
/-- the numbers, while orbits are found -/
structure Num (l : Lt) (g : List Mo) (q : Nat) (s : List Int) : Prop where
  len : s.length = (cellsS l).length
  get : ∀ u, cellB l u = true → s[numS l u]? = some (idxS (fun o => o.contains u) 0 (orbT l g q))
theorem Num.all {l : Lt} (hl : IsL l) {g : List Mo} {s : List Int} (h : Num l g (cellsS l).length s) : s = numsF l g := by
  apply List.ext_getElem?
  intro k
  unfold numsF
  rw [List.getElem?_map]
  by_cases hk : k < (cellsS l).length
  · have hc : cellB l (cellsS l)[k] = true := cellsS_cell (List.getElem_mem hk)
    have := h.get _ hc
    rw [cellsS_num hl hk, orbT_all] at this
    rw [this, List.getElem?_eq_getElem hk]
    rfl
  · rw [List.getElem?_eq_none (by rw [h.len]; omega), List.getElem?_eq_none (by omega)]
    rfl
theorem l07Orbits_eq {f : Int} {l : Lt} {g : List Mo} (h : OrbG f l g) : f182G KK l g = some (orbsS l g) := by
  have hN := cellsS_le h.la
  have hh := iter_fold (R := List (List Vc)) (body := fun L x => f182_b4 KK l g (cellsS l) (fun v0 v1 => L (v0, v1)) x.1 x.2) (cellsS l) (fun q s => ((q : Int), s)) (fun s v => bif repB l g v then s ++ [orbS l g v] else s) some (fun q s => s.length ≤ q)
    (fun L q s hq hi => by
      refine ⟨by cases repB l g (cellsS l)[q] <;> simp <;> omega, ?_⟩
      show f182_b4 KK l g (cellsS l) (fun v0 v1 => L (v0, v1)) (q : Int) s = _
      have hv : cellB l (cellsS l)[q] = true := cellsS_cell (List.getElem_mem hq)
      obtain ⟨x, t, ho, _⟩ := orb_cons h hv
      unfold f182_b4
      rw [in1 hq, in0, gd hq]
      simp only [Bool.and_self, cond_true]
      rw [l07Orbit_eq h.la (by have := h.len; omega) h.good (cellB_Sv h.la hv), Option.bind_some, ho]
      have e1 : (decide (0 ≤ (0 : Int)) && decide ((0 : Int) < (((x :: t : List Vc).length : Nat) : Int))) = true := by
        have : (0 : Int) < (((x :: t : List Vc).length : Nat) : Int) := by simp only [List.length_cons]; omega
        rw [decide_eq_true this]
        rfl
      have e2 : ((x :: t : List Vc).getD ((0 : Int) + (0 : Int)).toNat (0, 0)) = x := rfl
      rw [e1, cond_true, e2, eqV2, blim24 (by simp; omega), w_succ (by omega)]
      have e3 : repB l g (cellsS l)[q] = (x == (cellsS l)[q]) := by
        unfold repB
        rw [ho]
        rfl
      rw [e3]
      cases x == (cellsS l)[q] <;> rfl)
    (fun L s hi => by
      show f182_b4 KK l g (cellsS l) (fun v0 v1 => L (v0, v1)) ((cellsS l).length : Int) s = _
      unfold f182_b4
      rw [out1, cond_false]) KK 0 [] (by omega) (by simp only [KK]; omega) (by simp)
  unfold f182G f182_g f182_l4
  rw [l03Cells_eq h.la, Option.bind_some]
  rw [List.drop_zero] at hh
  refine Eq.trans hh (congrArg some ?_)
  rw [foldl_filter, List.nil_append]
  rfl
end Go.Proofs.YtniidcalfhhciaaGreat.X
