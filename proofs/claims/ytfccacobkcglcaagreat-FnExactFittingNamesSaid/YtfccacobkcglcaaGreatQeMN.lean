/- Plain facts: all orbits, and for each cell the number of its orbit. -/
import Derived.Test.YtfccacobkcglcaaGreatQeML
namespace Go.Proofs.YtfccacobkcglcaaGreat.X
open Go
set_option linter.unusedSimpArgs false
set_option linter.unusedVariables false
theorem number_eq {l : Lt} (hl : IsL l) {v : Vc} (hv : cellB l v = true) : f130G KK l v = some ((numS l v : Nat) : Int) := by
  unfold f130G
  have := (num_calc hl v).1
  rw [redS_cell hl hv] at this
  rw [this]
theorem wrap64 {n : Int} (h1 : 0 ≤ n) (h2 : n < 18446744073709551616) : IntKind.u64.wrap n = n := by
  rw [IntKind.wrap_u64]
  omega
theorem repeat_loop {n : Nat} (hn : n ≤ 1000) {a0 : List Int} {a1 : Int} {y1 : Int × Int} : ∀ (k q : Nat) (s : List Int), s.length = n → 1 ≤ q → q ≤ n → s.take q = List.replicate q (-1) → n - q < k → f243_l3 KK a0 a1 y1 k (q : Int) s = some (List.replicate n (-1))
  | 0, q, s, _, _, _, _, h => by omega
  | k + 1, q, s, hs, hq, hqn, ht, hk => by
    show f243_b3 KK a0 a1 y1 (fun v0 v1 => f243_l3 KK a0 a1 y1 k v0 v1) (q : Int) s = _
    unfold f243_b3
    by_cases hlt : q < n
    · obtain ⟨c, hc1, hc2, hc3, hc⟩ : ∃ c : Nat, 1 ≤ c ∧ c ≤ q ∧ q + c ≤ n ∧ (bif decide ((((0 : Int) + (s.length : Int)) - ((0 : Int) + (q : Int))) ≤ (((0 : Int) + (q : Int)) - (0 : Int))) then (((0 : Int) + (s.length : Int)) - ((0 : Int) + (q : Int))) else (((0 : Int) + (q : Int)) - (0 : Int))) = (c : Int) := by
        rw [hs]
        by_cases h : n - q ≤ q
        · exact ⟨n - q, by omega, by omega, by omega, by rw [decide_eq_true (by omega), cond_true]; omega⟩
        · exact ⟨q, by omega, by omega, by omega, by rw [decide_eq_false (by omega), cond_false]; omega⟩
      rw [hc]
      have d1 : decide ((q : Int) < (s.length : Int)) = true := decide_eq_true (by omega)
      have d2 : (decide (0 ≤ (q : Int)) && decide ((q : Int) ≤ (s.length : Int)) && decide ((s.length : Int) ≤ (s.length : Int))) = true := by simp; omega
      have d3 : (decide (0 ≤ (0 : Int)) && decide ((0 : Int) ≤ (q : Int)) && decide ((q : Int) ≤ (s.length : Int))) = true := by simp; omega
      have i1 : ((0 : Int) + (q : Int)).toNat = q := by omega
      have i2 : ((0 : Int) + (((0 : Int) + (q : Int)) - (0 : Int))).toNat = q := by omega
      have i3 : ((c : Int)).toNat = c := by omega
      rw [d1, cond_true, d2, cond_true, d3, cond_true, i1, i2, i3, w_id (n := (q : Int) + (c : Int)) (by omega) (by omega), List.drop_zero, ht]
      have e : ((q : Int) + (c : Int)) = ((q + c : Nat) : Int) := by omega
      rw [e]
      refine repeat_loop hn k (q + c) _ ?_ (by omega) hc3 ?_ (by omega)
      · simp only [List.length_append, List.length_replicate, List.length_take, List.length_drop]
        omega
      · rw [List.take_replicate, Nat.min_eq_left hc2, List.replicate_append_replicate, List.take_append_of_le_length (by simp), List.take_replicate, Nat.min_self]
    · have : q = n := by omega
      subst this
      rw [decide_eq_false (by omega), cond_false, ← ht, ← hs, List.take_length]
theorem repeat_eq {n : Nat} (h1 : 1 ≤ n) (hn : n ≤ 1000) : f243G KK [(-1 : Int)] (n : Int) = some (List.replicate n (-1)) := by
  unfold f243G f243_g f321G mulF
  have e1 : IntKind.u64.wrap ((([(-1 : Int)] : List Int).length : Nat) : Int) = 1 := by
    rw [wrap64 (by simp) (by simp)]
    rfl
  have e2 : IntKind.u64.wrap (n : Int) = (n : Int) := wrap64 (by omega) (by omega)
  rw [decide_eq_false (by omega), cond_false, e1, e2, if_pos (by omega)]
  simp only [Option.bind_some]
  have e3 : (1 : Int) * (n : Int) / 18446744073709551616 = 0 := by omega
  have e4 : (1 : Int) * (n : Int) % 18446744073709551616 = (n : Int) := by omega
  rw [e3, e4, decide_eq_false (by omega), decide_eq_false (show ¬ ((n : Int) > 9223372036854775807) by omega), w_id (n := (n : Int)) (by omega) (by omega)]
  have e5 : ((n : Int)).toNat = n := by omega
  have e6 : (decide (0 ≤ (n : Int)) && Nat.ble ((n : Int)).toNat (lim 8) && ((n : Int) == (n : Int))) = true := by
    rw [in0, e5, blim8 (by omega)]
    simp
  simp only [Bool.not_false, Bool.not_true, Bool.false_or, Bool.or_true, cond_true, cond_false]
  rw [e6, cond_true, e5]
  have e7 : (bif decide ((((List.replicate n (0 : Int)).length : Nat) : Int) ≤ (([(-1 : Int)] : List Int).length : Int)) then (((List.replicate n (0 : Int)).length : Nat) : Int) else (([(-1 : Int)] : List Int).length : Int)) = ((1 : Nat) : Int) := by
    rw [List.length_replicate]
    by_cases h : n = 1
    · subst h; rfl
    · rw [decide_eq_false (by simp; omega), cond_false]; rfl
  rw [e7]
  refine repeat_loop hn KK 1 _ ?_ (by omega) h1 ?_ (by simp only [KK]; omega)
  · simp only [List.length_append, List.length_take, List.length_drop, List.length_replicate, List.take_zero, List.length_nil]
    simp
    omega
  · simp
/-! ### numbers of cells -/
theorem numS_cell {l : Lt} (hl : IsL l) {v : Vc} (hv : cellB l v = true) : (numS l v : Int) = v.1 * l.2.2 + v.2 := by
  have h := cellB_iff.1 hv
  have e1 : 0 ≤ v.1 * l.2.2 := Int.mul_nonneg h.1.1 (by have := hl.c1; omega)
  unfold numS
  rw [redS_cell hl hv]
  omega
theorem num_lt {l : Lt} (hl : IsL l) {u v : Vc} (hu : cellB l u = true) (hv : cellB l v = true) (h : ltV u v = true) : numS l u < numS l v := by
  have h1 := numS_cell hl hu
  have h2 := numS_cell hl hv
  have b1 := cellB_iff.1 hu
  have b2 := cellB_iff.1 hv
  have : (u.1 = v.1 ∧ u.2 < v.2) ∨ u.1 < v.1 := by
    unfold ltV numV ltL at h
    by_cases e : u.1 = v.1
    · have e1 : (u.1 == v.1) = true := by simpa using e
      rw [e1, cond_true] at h
      unfold ltL at h
      by_cases e2 : u.2 = v.2
      · have e3 : (u.2 == v.2) = true := by simpa using e2
        rw [e3, cond_true] at h
        cases h
      · have e3 : (u.2 == v.2) = false := by simpa using e2
        rw [e3, cond_false, decide_eq_true_eq] at h
        exact .inl ⟨e, h⟩
    · have e1 : (u.1 == v.1) = false := by simpa using e
      rw [e1, cond_false, decide_eq_true_eq] at h
      exact .inr h
  rcases this with ⟨e1, e2⟩ | e
  · rw [e1] at h1; omega
  · have h3 : u.1 + 1 ≤ v.1 := by omega
    have h4 : (u.1 + 1) * l.2.2 ≤ v.1 * l.2.2 := Int.mul_le_mul_of_nonneg_right h3 (by have := hl.c1; omega)
    rw [Int.add_mul] at h4
    omega
theorem cell_at {l : Lt} (hl : IsL l) {v : Vc} (hv : cellB l v = true) : (cellsS l)[numS l v]? = some v := by
  have h := numS_lt hl v
  rw [List.getElem?_eq_getElem h]
  congr 1
  have hm : (cellsS l)[numS l v] ∈ cellsS l := List.getElem_mem h
  have hc := mem_cellsS hm
  exact num_inj hl (cellB_iff.2 (by omega)) hv (cellsS_num hl h)
theorem cellsS_cell {l : Lt} {v : Vc} (h : v ∈ cellsS l) : cellB l v = true := by
  have := mem_cellsS h
  exact cellB_iff.2 (by omega)
theorem mem_takeC {l : Lt} (hl : IsL l) {q : Nat} (hq : q ≤ (cellsS l).length) {v : Vc} : v ∈ (cellsS l).take q ↔ cellB l v = true ∧ numS l v < q := by
  constructor
  · intro h
    obtain ⟨i, hi, rfl⟩ := List.getElem_of_mem h
    rw [List.length_take] at hi
    rw [List.getElem_take]
    have hi2 : i < (cellsS l).length := by omega
    exact ⟨cellsS_cell (List.getElem_mem hi2), by rw [cellsS_num hl hi2]; omega⟩
  · rintro ⟨h1, h2⟩
    have h3 := cell_at hl h1
    refine List.mem_of_getElem? (i := numS l v) ?_
    rw [List.getElem?_take, if_pos h2, h3]
/-! ### where an orbit stands -/
theorem idxS_none {α : Type} {p : α → Bool} {C : List α} (h : C.any p = false) : idxS p 0 C = -1 := by
  rcases idxS_spec p C 0 with ⟨h1, _⟩ | ⟨k, h1, _, _, a, h4, h5⟩
  · exact h1
  · rw [List.any_eq_false] at h
    exact absurd h5 (h a (List.mem_of_getElem? h4))
theorem idxS_app {α : Type} (p : α → Bool) : ∀ (C D : List α) (q : Nat), idxS p q (C ++ D) = bif C.any p then idxS p q C else idxS p (q + C.length) D
  | [], D, q => by simp
  | a :: C, D, q => by
    have ih := idxS_app p C D (q + 1)
    simp only [List.cons_append, idxS, List.any_cons, List.length_cons]
    cases h : p a
    · rw [cond_false, cond_false, Bool.false_or, ih]
      have e : q + 1 + C.length = q + (C.length + 1) := by omega
      rw [e]
    · rfl
def setAll (l : Lt) (i : Int) (o : List Vc) (s : List Int) : List Int := o.foldl (fun s u => s.set (numS l u) i) s
theorem setAll_len (l : Lt) (i : Int) : ∀ (o : List Vc) (s : List Int), (setAll l i o s).length = s.length
  | [], _ => rfl
  | u :: o, s => by
    show (setAll l i o (s.set (numS l u) i)).length = _
    rw [setAll_len l i o, List.length_set]
theorem setAll_get {l : Lt} (hl : IsL l) (i : Int) {u : Vc} (hu : cellB l u = true) : ∀ (o : List Vc) (s : List Int), (∀ x ∈ o, cellB l x = true) → numS l u < s.length → (setAll l i o s)[numS l u]? = if u ∈ o then some i else s[numS l u]?
  | [], s, _, _ => by simp [setAll]
  | x :: o, s, ho, hs => by
    show (setAll l i o (s.set (numS l x) i))[numS l u]? = _
    rw [setAll_get hl i hu o _ (fun y hy => ho y (by simp [hy])) (by rw [List.length_set]; exact hs)]
    by_cases h1 : u ∈ o
    · rw [if_pos h1, if_pos (by simp [h1])]
    · rw [if_neg h1]
      by_cases h2 : u = x
      · subst h2
        rw [if_pos (by simp), List.getElem?_set_self hs]
      · rw [if_neg (by simp [h1, h2]), List.getElem?_set_ne (fun e => h2 (num_inj hl hu (ho x (by simp)) e.symm))]
/-- the orbits of the first q cells -/
def orbT (l : Lt) (g : List Mo) (q : Nat) : List (List Vc) := (((cellsS l).take q).filter (repB l g)).map (orbS l g)
theorem orbT_mem {f : Int} {l : Lt} {g : List Mo} (h : OrbG f l g) {q : Nat} (hq : q ≤ (cellsS l).length) {u : Vc} : (orbT l g q).any (fun o => o.contains u) = true ↔ ∃ r, cellB l r = true ∧ numS l r < q ∧ repB l g r = true ∧ u ∈ orbS l g r := by
  unfold orbT
  rw [List.any_eq_true]
  constructor
  · rintro ⟨o, ho, hu⟩
    obtain ⟨r, hr, rfl⟩ := List.mem_map.1 ho
    obtain ⟨h1, h2⟩ := List.mem_filter.1 hr
    obtain ⟨h3, h4⟩ := (mem_takeC h.la hq).1 h1
    exact ⟨r, h3, h4, h2, List.contains_iff_mem.1 hu⟩
  · rintro ⟨r, h1, h2, h3, h4⟩
    exact ⟨_, List.mem_map.2 ⟨r, List.mem_filter.2 ⟨(mem_takeC h.la hq).2 ⟨h1, h2⟩, h3⟩, rfl⟩, List.contains_iff_mem.2 h4⟩
theorem orbT_rep {f : Int} {l : Lt} {g : List Mo} (h : OrbG f l g) {q : Nat} (hq : q < (cellsS l).length) : (orbT l g q).any (fun o => o.contains (cellsS l)[q]) = !repB l g (cellsS l)[q] := by
  have hv : cellB l (cellsS l)[q] = true := cellsS_cell (List.getElem_mem hq)
  have hn := cellsS_num h.la hq
  cases hr : repB l g (cellsS l)[q]
  · rw [Bool.not_false]
    refine (orbT_mem h (by omega)).2 ?_
    obtain ⟨w, h1, h2, h3, h4⟩ := rep_of h hv
    refine ⟨w, h2, ?_, h1, h3⟩
    rcases h4 with e | e
    · rw [e, hr] at h1; cases h1
    · have := num_lt h.la h2 hv e
      omega
  · rw [Bool.not_true]
    cases hx : (orbT l g q).any (fun o => o.contains (cellsS l)[q])
    · rfl
    · obtain ⟨r, h1, h2, h3, h4⟩ := (orbT_mem h (by omega)).1 hx
      have := rep_one h h1 hv h3 hr h4
      rw [this, hn] at h2
      omega
theorem orbT_succ {l : Lt} {g : List Mo} {q : Nat} (hq : q < (cellsS l).length) : orbT l g (q + 1) = bif repB l g (cellsS l)[q] then orbT l g q ++ [orbS l g (cellsS l)[q]] else orbT l g q := by
  unfold orbT
  rw [List.take_succ_eq_append_getElem hq, List.filter_append, List.map_append]
  cases hr : repB l g (cellsS l)[q] <;> simp [hr]
theorem orbT_len (l : Lt) (g : List Mo) (q : Nat) : (orbT l g q).length ≤ q := by
  unfold orbT
  rw [List.length_map]
  refine Nat.le_trans (List.length_filter_le _ _) ?_
  simp [List.length_take]
  omega
/-- one orbit more -/
theorem idx_snoc {f : Int} {l : Lt} {g : List Mo} (h : OrbG f l g) {q : Nat} (hq : q < (cellsS l).length) (hr : repB l g (cellsS l)[q] = true) {u : Vc} (hu : cellB l u = true) :
    idxS (fun o => o.contains u) 0 (orbT l g q ++ [orbS l g (cellsS l)[q]]) = if u ∈ orbS l g (cellsS l)[q] then ((orbT l g q).length : Int) else idxS (fun o => o.contains u) 0 (orbT l g q) := by
  have hv : cellB l (cellsS l)[q] = true := cellsS_cell (List.getElem_mem hq)
  rw [idxS_app]
  by_cases hm : u ∈ orbS l g (cellsS l)[q]
  · rw [if_pos hm]
    have hno : ¬ (orbT l g q).any (fun o => o.contains u) = true := by
      intro hx
      obtain ⟨r, h1, h2, h3, h4⟩ := (orbT_mem h (by omega)).1 hx
      have h5 : (cellsS l)[q] ∈ orbS l g r := orb_trans h h4 (orb_symm h hv hm)
      have h6 := rep_one h h1 hv h3 hr h5
      rw [h6, cellsS_num h.la hq] at h2
      omega
    have hno : (orbT l g q).any (fun o => o.contains u) = false := by simpa using hno
    rw [hno, cond_false]
    simp only [idxS, List.contains_iff_mem.2 hm, cond_true]
    omega
  · rw [if_neg hm]
    by_cases hx : (orbT l g q).any (fun o => o.contains u) = true
    · rw [hx, cond_true]
    · have hx : (orbT l g q).any (fun o => o.contains u) = false := by simpa using hx
      rw [hx, cond_false, idxS_none hx]
      have : (orbS l g (cellsS l)[q]).contains u = false := by
        cases hc : (orbS l g (cellsS l)[q]).contains u
        · rfl
        · exact absurd (List.contains_iff_mem.1 hc) hm
      simp only [idxS, this, cond_false]
def numsF (l : Lt) (g : List Mo) : List Int := (cellsS l).map fun v => idxS (fun o => o.contains v) 0 (orbsS l g)
theorem orbT_all (l : Lt) (g : List Mo) : orbT l g (cellsS l).length = orbsS l g := by
  unfold orbT orbsS repsS
  rw [List.take_length]
/-- the numbers, while orbits are found -/
structure Num (l : Lt) (g : List Mo) (q : Nat) (s : List Int) : Prop where
  len : s.length = (cellsS l).length
  get : ∀ u, cellB l u = true → s[numS l u]? = some (idxS (fun o => o.contains u) 0 (orbT l g q))
theorem Num.all {l : Lt} (hl : IsL l) {g : List Mo} {s : List Int} (h : Num l g (cellsS l).length s) : s = numsF l g := by
  apply List.ext_getElem?
  intro k
  unfold numsF
  rw [List.getElem?_map]
  by_cases hk : k < (cellsS l).length
  · have hc : cellB l (cellsS l)[k] = true := cellsS_cell (List.getElem_mem hk)
    have := h.get _ hc
    rw [cellsS_num hl hk, orbT_all] at this
    rw [this, List.getElem?_eq_getElem hk]
    rfl
  · rw [List.getElem?_eq_none (by rw [h.len]; omega), List.getElem?_eq_none (by omega)]
    rfl
theorem orbits_in {f : Int} {l : Lt} {g : List Mo} (h : OrbG f l g) {q17 : Int} {C : List (List Vc)} {q19 y : List Vc → Int → List Int} {s0 : List Int} {y3 : List Vc} {y20 : Int} {o : List Vc} (ho : ∀ u ∈ o, cellB l u = true) (hol : o.length ≤ 768) (hC : C.length ≤ 1000) {L : Int → List (List Vc) → List Int → Option (List (List Vc) × List Int)} {s : List Int} (hs : s.length = (cellsS l).length) :
    f128_l22 KK l g q17 C s0 y3 y20 o L KK 0 s = L (w (q17 + 1)) (C ++ [o]) (setAll l (C.length : Int) o s) := by
  have hh := iter_fold (R := List (List Vc) × List Int) (body := fun L' x => f128_b22 KK l g q17 C s0 y3 y20 o L (fun v0 v1 => L' (v0, v1)) x.1 x.2) o (fun q s => ((q : Int), s)) (fun s u => s.set (numS l u) (C.length : Int)) (fun s => L (w (q17 + 1)) (C ++ [o]) s) (fun q s => s.length = (cellsS l).length)
    (fun L' q s hq hi => by
      refine ⟨by rw [List.length_set]; exact hi, ?_⟩
      show f128_b22 KK l g q17 C s0 y3 y20 o L (fun v0 v1 => L' (v0, v1)) (q : Int) s = _
      unfold f128_b22
      have hlt := numS_lt h.la o[q]
      rw [in1 hq, in0, gd hq]
      simp only [Bool.and_self, cond_true]
      rw [number_eq h.la (ho _ (List.getElem_mem hq)), Option.bind_some, in0, in1 (show numS l o[q] < s.length by omega), w_succ (by omega)]
      have e1 : ((0 : Int) + ((numS l o[q] : Nat) : Int)).toNat = numS l o[q] := by omega
      simp only [Bool.and_self, cond_true, e1])
    (fun L' s hi => by
      show f128_b22 KK l g q17 C s0 y3 y20 o L (fun v0 v1 => L' (v0, v1)) (o.length : Int) s = _
      unfold f128_b22
      rw [out1, cond_false, blim24 (by simp; omega), cond_true]) KK 0 s (by omega) (by simp only [KK]; omega) hs
  unfold f128_l22
  rw [List.drop_zero] at hh
  exact hh
theorem orbitsOf_eq {f : Int} {l : Lt} {g : List Mo} (h : OrbG f l g) : f128G KK l g = some (orbsS l g, numsF l g) := by
  have hN := cellsS_le h.la
  have hN1 : 1 ≤ (cellsS l).length := by
    have := numS_lt h.la (0, 0)
    omega
  obtain ⟨r, ⟨hr1, hr2⟩, hh⟩ := iter_ex (X := Int × List (List Vc) × List Int) (R := List (List Vc) × List Int) (body := fun L x => f128_b16 KK l g (cellsS l) (fun c0 c1 c2 c3 c4 d0 d1 => f128_l22 KK l g c0 c1 c2 (cellsS l) c3 c4 (fun v0 v1 v2 => L (v0, v1, v2)) KK d0 d1) (fun v0 v1 v2 => L (v0, v1, v2)) x.1 x.2.1 x.2.2) (cellsS l).length
    (fun q x => x.1 = (q : Int) ∧ x.2.1 = orbT l g q ∧ Num l g q x.2.2) (fun r => r.1 = orbsS l g ∧ r.2 = numsF l g)
    (fun L q x hq hP => by
      obtain ⟨c, C, s⟩ := x
      obtain ⟨rfl, rfl, hNm⟩ := hP
      simp only at hNm
      have hv : cellB l (cellsS l)[q] = true := cellsS_cell (List.getElem_mem hq)
      have hn := cellsS_num h.la hq
      have hsl := hNm.len
      have hg := hNm.get _ hv
      rw [hn] at hg
      have hgd : s.getD ((0 : Int) + (q : Int)).toNat 0 = idxS (fun o => o.contains (cellsS l)[q]) 0 (orbT l g q) := by
        have e1 : ((0 : Int) + (q : Int)).toNat = q := by omega
        rw [e1, List.getD_eq_getElem?_getD, hg]
        rfl
      have hbody : ∀ (I : Int → List (List Vc) → List Int → Int → List Vc → Int → List Int → Option (List (List Vc) × List Int)) (L' : Int → List (List Vc) → List Int → Option (List (List Vc) × List Int)), f128_b16 KK l g (cellsS l) I L' (q : Int) (orbT l g q) s = bif repB l g (cellsS l)[q] then I (q : Int) (orbT l g q) s (q : Int) (orbS l g (cellsS l)[q]) 0 s else L' ((q + 1 : Nat) : Int) (orbT l g q) s := by
        intro I L'
        unfold f128_b16
        rw [in1 hq, in0, gd hq]
        simp only [Bool.and_self, cond_true]
        rw [number_eq h.la hv, Option.bind_some, hn, in0, in1 (show q < s.length by omega), hgd, idxS_any, orbT_rep h hq, w_succ (by omega)]
        simp only [Bool.and_self, cond_true]
        rw [orbitOf_eq h.la (by have := h.len; omega) h.good (cellB_Sv h.la hv), Option.bind_some]
        cases repB l g (cellsS l)[q] <;> rfl
      cases hrp : repB l g (cellsS l)[q]
      · refine ⟨(((q + 1 : Nat) : Int), orbT l g q, s), ⟨rfl, ?_, ⟨hsl, fun u hu => ?_⟩⟩, ?_⟩
        · rw [orbT_succ hq, hrp]; rfl
        · rw [orbT_succ hq, hrp]; exact hNm.get u hu
        · show f128_b16 KK l g (cellsS l) _ _ (q : Int) (orbT l g q) s = _
          rw [hbody, hrp]
          rfl
      · refine ⟨(((q + 1 : Nat) : Int), orbT l g q ++ [orbS l g (cellsS l)[q]], setAll l ((orbT l g q).length : Int) (orbS l g (cellsS l)[q]) s), ⟨rfl, ?_, ⟨by rw [setAll_len]; exact hsl, fun u hu => ?_⟩⟩, ?_⟩
        · rw [orbT_succ hq, hrp]; rfl
        · rw [orbT_succ hq, hrp, cond_true, idx_snoc h hq hrp hu, setAll_get h.la _ hu _ _ (fun x hx => orb_cell h hx) (by rw [hsl]; exact numS_lt h.la u)]
          by_cases hm : u ∈ orbS l g (cellsS l)[q]
          · rw [if_pos hm, if_pos hm]
          · rw [if_neg hm, if_neg hm]; exact hNm.get u hu
        · show f128_b16 KK l g (cellsS l) _ _ (q : Int) (orbT l g q) s = _
          rw [hbody, hrp, cond_true, orbits_in h (q19 := fun _ _ => []) (y := fun _ _ => []) (fun u hu => orb_cell h hu) (by have := orbS_len l g (cellsS l)[q]; have := h.len; omega) (by have := orbT_len l g q; omega) hsl, w_succ (by omega)])
    (fun L x hP => by
      obtain ⟨c, C, s⟩ := x
      obtain ⟨rfl, rfl, hNm⟩ := hP
      refine ⟨(orbT l g (cellsS l).length, s), ⟨orbT_all l g, hNm.all h.la⟩, ?_⟩
      show f128_b16 KK l g (cellsS l) _ _ ((cellsS l).length : Int) (orbT l g (cellsS l).length) s = _
      unfold f128_b16
      rw [out1, cond_false]) KK 0 (0, [], List.replicate (cellsS l).length (-1)) (by omega) (by simp only [KK]; omega)
    ⟨rfl, rfl, ⟨by simp, fun u hu => by
      rw [List.getElem?_replicate, if_pos (numS_lt h.la u)]
      rfl⟩⟩
  unfold f128G f128_g f238G
  simp only [Option.bind_some]
  rw [len_eq h.la, repeat_eq hN1 (by omega), Option.bind_some, cells_eq h.la, Option.bind_some]
  refine hh.trans ?_
  rw [← hr1, ← hr2]
theorem l07Orbits_eq {f : Int} {l : Lt} {g : List Mo} (h : OrbG f l g) : f135G KK l g = some (orbsS l g) := by
  have hN := cellsS_le h.la
  have hh := iter_fold (R := List (List Vc)) (body := fun L x => f135_b4 KK l g (cellsS l) (fun v0 v1 => L (v0, v1)) x.1 x.2) (cellsS l) (fun q s => ((q : Int), s)) (fun s v => bif repB l g v then s ++ [orbS l g v] else s) some (fun q s => s.length ≤ q)
    (fun L q s hq hi => by
      refine ⟨by cases repB l g (cellsS l)[q] <;> simp <;> omega, ?_⟩
      show f135_b4 KK l g (cellsS l) (fun v0 v1 => L (v0, v1)) (q : Int) s = _
      have hv : cellB l (cellsS l)[q] = true := cellsS_cell (List.getElem_mem hq)
      obtain ⟨x, t, ho, _⟩ := orb_cons h hv
      unfold f135_b4
      rw [in1 hq, in0, gd hq]
      simp only [Bool.and_self, cond_true]
      rw [l07Orbit_eq h.la (by have := h.len; omega) h.good (cellB_Sv h.la hv), Option.bind_some, ho]
      have e1 : (decide (0 ≤ (0 : Int)) && decide ((0 : Int) < (((x :: t : List Vc).length : Nat) : Int))) = true := by
        have : (0 : Int) < (((x :: t : List Vc).length : Nat) : Int) := by simp only [List.length_cons]; omega
        rw [decide_eq_true this]
        rfl
      have e2 : ((x :: t : List Vc).getD ((0 : Int) + (0 : Int)).toNat (0, 0)) = x := rfl
      rw [e1, cond_true, e2, eqV2, blim24 (by simp; omega), w_succ (by omega)]
      have e3 : repB l g (cellsS l)[q] = (x == (cellsS l)[q]) := by
        unfold repB
        rw [ho]
        rfl
      rw [e3]
      cases x == (cellsS l)[q] <;> rfl)
    (fun L s hi => by
      show f135_b4 KK l g (cellsS l) (fun v0 v1 => L (v0, v1)) ((cellsS l).length : Int) s = _
      unfold f135_b4
      rw [out1, cond_false]) KK 0 [] (by omega) (by simp only [KK]; omega) (by simp)
  unfold f135G f135_g f135_l4
  rw [l03Cells_eq h.la, Option.bind_some]
  rw [List.drop_zero] at hh
  refine Eq.trans hh (congrArg some ?_)
  rw [foldl_filter, List.nil_append]
  rfl
end Go.Proofs.YtfccacobkcglcaaGreat.X
