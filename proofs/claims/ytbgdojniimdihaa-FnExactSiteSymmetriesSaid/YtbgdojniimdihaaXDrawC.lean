/- Regions that draw their order: from the text's order to any order. -/
import Derived.Test.YtbgdojniimdihaaXDrawB
namespace Go.Proofs.Ytbgdojniimdihaa.X
open Go Go.RowKit
variable {C : Cx} {fr s : Fr} {big : FF} {g : Sg} {a : Act} {w w' : World} {ch : List (Nat × Bool)} {E : Env}
theorem has_iff {l : List Nat} {i : Nat} : has l i = true ↔ i ∈ l := by
  simp only [has, List.any_eq_true]
  constructor
  · rintro ⟨x, hx, h⟩
    rw [Nat.eq_of_beq_eq_true h]
    exact hx
  · exact fun h => ⟨i, h, beq_same i⟩
theorem addN_mem {l : List Nat} : ∀ (r : List Nat) {l : List Nat} {i : Nat}, i ∈ addN l r → i ∈ l ∨ i ∈ r
  | [], _, _, h => .inl h
  | j :: r, l, i, h => by
    simp only [addN] at h
    cases hj : l.any (Nat.beq j)
    · rw [hj, cond_false] at h
      rcases addN_mem (l := l ++ [j]) r h with h | h
      · rcases List.mem_append.1 h with h | h
        · exact .inl h
        · exact .inr (by simp at h; simp [h])
      · exact .inr (by simp [h])
    · rw [hj, cond_true] at h
      rcases addN_mem (l := l) r h with h | h
      · exact .inl h
      · exact .inr (by simp [h])
theorem befOf_mem {bs : List (List Nat)} {o : Oper} {i : Nat} (h : i ∈ befOf bs o) : ∃ e ∈ o.after, Region.binds .any e = true ∧ (i = e.on ∨ i ∈ bs.getD e.on []) := by
  unfold befOf at h
  have key : ∀ (l : List Edge) (s : List Nat), i ∈ l.foldl (fun s e => bif Region.binds .any e then addN (addN s [e.on]) (bs.getD e.on []) else s) s → i ∈ s ∨ ∃ e ∈ l, Region.binds .any e = true ∧ (i = e.on ∨ i ∈ bs.getD e.on []) := by
    intro l
    induction l with
    | nil => intro s h; exact .inl h
    | cons e l ih =>
      intro s h
      rcases ih _ h with h | ⟨e', h1, h2⟩
      · cases hb : Region.binds .any e
        · simp only [hb, cond_false] at h; exact .inl h
        · simp only [hb, cond_true] at h
          rcases addN_mem (l := addN s [e.on]) _ h with h | h
          · rcases addN_mem (l := s) _ h with h | h
            · exact .inl h
            · exact .inr ⟨e, by simp, hb, .inl (by simpa using h)⟩
          · exact .inr ⟨e, by simp, hb, .inr h⟩
      · exact .inr ⟨e', by simp [h1], h2⟩
  rcases key _ _ h with h | ⟨e, h1, h2⟩
  · simp at h
  · exact ⟨e, by simpa using h1, h2⟩
theorem befs_spec : ∀ (l : List Oper) (bs : List (List Nat)), ∃ t, befs l bs = bs ++ t ∧ t.length = l.length ∧ ∀ (j : Nat) o, l[j]? = some o → ∃ p, (befs l bs).take (bs.length + j) = p ∧ (befs l bs)[bs.length + j]? = some (befOf p o)
  | [], bs => ⟨[], by simp [befs], rfl, fun j o h => by simp at h⟩
  | o :: l, bs => by
    obtain ⟨t, h1, h2, h3⟩ := befs_spec l (bs ++ [befOf bs o])
    refine ⟨befOf bs o :: t, by simp [befs, h1], by simp [h2], fun j o' hj => ?_⟩
    cases j with
    | zero =>
      simp only [List.getElem?_cons_zero, Option.some.injEq] at hj
      subst hj
      refine ⟨bs, ?_, ?_⟩
      · rw [befs, h1, List.append_assoc, Nat.add_zero, List.take_left]
      · rw [befs, h1, Nat.add_zero, List.append_assoc, List.getElem?_append_right (Nat.le_refl _)]
        simp
    | succ j =>
      obtain ⟨p, h4, h5⟩ := h3 j o' (by simpa using hj)
      have e : (bs ++ [befOf bs o]).length + j = bs.length + (j + 1) := by simp; omega
      rw [e] at h4 h5
      exact ⟨p, h4, h5⟩
variable {ops : Array Oper}
theorem bs_mem {i j : Nat} (h : i ∈ (Dr.of ops.toList).bs.getD j []) : ∃ o, ops[j]? = some o ∧ ∃ e ∈ o.after, Region.binds .any e = true ∧ (i = e.on ∨ i ∈ (Dr.of ops.toList).bs.getD e.on []) := by
  obtain ⟨t, h1, h2, h3⟩ := befs_spec ops.toList []
  simp only [Dr.of] at h ⊢
  have hj : j < ops.toList.length := by
    rcases Nat.lt_or_ge j ops.toList.length with h' | h'
    · exact h'
    · rw [List.getD_eq_getElem?_getD, List.getElem?_eq_none (by rw [h1]; simpa [h2] using h')] at h
      simp at h
  obtain ⟨p, h4, h5⟩ := h3 j _ (List.getElem?_eq_getElem hj)
  simp only [List.length_nil, Nat.zero_add] at h4 h5
  rw [List.getD_eq_getElem?_getD, h5, Option.getD_some] at h
  obtain ⟨e, a1, a2, a3⟩ := befOf_mem h
  refine ⟨_, by rw [← Array.getElem?_toList]; exact List.getElem?_eq_getElem hj, e, by simpa using a1, a2, ?_⟩
  rcases a3 with a3 | a3
  · exact .inl a3
  · refine .inr ?_
    rw [← h4, List.getD_eq_getElem?_getD, List.getElem?_take] at a3
    split at a3
    · rw [List.getD_eq_getElem?_getD]; exact a3
    · simp at a3
theorem edges_lt : ∀ (l : List Oper) {n j : Nat} {o : Oper}, edgesOK l n = true → l[j]? = some o → ∀ e ∈ o.after, Region.binds .any e = true → e.on < n + j
  | [], _, _, _, _, h => by simp at h
  | o :: l, n, j, o', h, hj => by
    simp only [edgesOK, Bool.and_eq_true] at h
    cases j with
    | zero =>
      simp only [List.getElem?_cons_zero, Option.some.injEq] at hj
      subst hj
      intro e he hb
      have := List.all_eq_true.1 h.1.1 e (by simpa using he)
      simp only [hb, Bool.not_true, Bool.false_or, Nat.blt, Nat.ble_eq] at this
      omega
    | succ j =>
      intro e he hb
      have := edges_lt l h.2 (by simpa using hj) e he hb
      omega
theorem bs_lt (hed : edgesOK ops.toList 0 = true) : ∀ (j : Nat) {i : Nat}, i ∈ (Dr.of ops.toList).bs.getD j [] → i < j := by
  intro j
  induction j using Nat.strongRecOn with
  | _ j ih =>
    intro i h
    obtain ⟨o, h1, e, h2, h3, h4⟩ := bs_mem h
    have h5 := edges_lt ops.toList hed (by simpa using h1) e h2 h3
    rcases h4 with h4 | h4
    · omega
    · have := ih e.on (by omega) h4
      omega
def DC (ops : Array Oper) (listed : Array Bool) : Prop := ∀ j o, ops[j]? = some o → listed.getD j false = true → ∀ e ∈ o.after, Region.binds .any e = true → listed.getD e.on false = true
theorem bs_listed (hed : edgesOK ops.toList 0 = true) {listed : Array Bool} (hdc : DC ops listed) : ∀ (j : Nat) {o : Oper}, ops[j]? = some o → (∀ e ∈ o.after, Region.binds .any e = true → listed.getD e.on false = true) → ∀ i ∈ (Dr.of ops.toList).bs.getD j [], listed.getD i false = true := by
  intro j
  induction j using Nat.strongRecOn with
  | _ j ih =>
    intro o ho hr i hi
    obtain ⟨o', h1, e, h2, h3, h4⟩ := bs_mem hi
    rw [ho] at h1
    cases h1
    have h5 := edges_lt ops.toList hed (by simpa using ho) e h2 h3
    have h6 := hr e h2 h3
    rcases h4 with h4 | h4
    · rw [h4]; exact h6
    · obtain ⟨o2, h7, _⟩ := bs_mem h4
      exact ih e.on (by omega) h7 (hdc e.on o2 h7 h6) i h4
theorem incs_mem {i j : Nat} : j ∈ incs (Dr.of ops.toList) i ↔ j < ops.size ∧ i ≠ j ∧ i ∉ (Dr.of ops.toList).bs.getD j [] ∧ j ∉ (Dr.of ops.toList).bs.getD i [] := by
  simp only [incs, List.mem_filter, List.mem_range, inc, Bool.and_eq_true, Bool.not_eq_true']
  have hn : (Dr.of ops.toList).n = ops.size := by simp [Dr.of]
  rw [hn]
  have e1 : ∀ (l : List Nat) (x : Nat), has l x = false ↔ x ∉ l := fun l x => by
    rw [← has_iff]; simp
  have e2 : Nat.beq i j = false ↔ i ≠ j := ⟨fun h e => (by rw [e, beq_same] at h; cases h), beq_ne⟩
  rw [e1, e1, e2]
  exact ⟨fun ⟨h1, ⟨h2, h3⟩, h4⟩ => ⟨h1, h2, h3, h4⟩, fun ⟨h1, h2, h3, h4⟩ => ⟨h1, ⟨h2, h3⟩, h4⟩⟩
/-! ### a part of a frame -/
theorem unset_len {α : Type} : ∀ (is : List Nat) (l : List (Option α)), (unset l is).length = l.length
  | [], _ => rfl
  | i :: is, l => by
    show (unset (put? l i none) is).length = l.length
    rw [unset_len is, put?_length]
theorem at?_unset {α : Type} {n : Nat} {x : α} : ∀ (is : List Nat) (l : List (Option α)), at? (unset l is) n = some x → at? l n = some x ∧ n ∉ is
  | [], _, h => ⟨h, by simp⟩
  | i :: is, l, h => by
    obtain ⟨h1, h2⟩ := at?_unset is (put? l i none) h
    rw [at?_put] at h1
    split at h1
    · cases h1
    · rename_i hc
      refine ⟨h1, fun hm => ?_⟩
      rcases List.mem_cons.1 hm with e | e
      · subst e; exact hc ⟨rfl, at?_lt h1⟩
      · exact h2 e
theorem strip_len {ds : List (Option Nat)} {rs bs : List Nat} : (strip fr ds rs bs).bx.length = fr.bx.length ∧ (strip fr ds rs bs).rw.length = fr.rw.length := by simp [strip, unset_len]
theorem strip_bx {ds : List (Option Nat)} {rs bs : List Nat} {n : Nat} {b : BoxE} (h : at? (strip fr ds rs bs).bx n = some b) : at? fr.bx n = some b ∧ n ∉ bs := at?_unset _ _ h
theorem strip_rw {ds : List (Option Nat)} {rs bs : List Nat} {n : Nat} {r : RowE} (h : at? (strip fr ds rs bs).rw n = some r) : at? fr.rw n = some r ∧ n ∉ rs ∧ ∀ p pa, r.m = .bor p pa → ∃ r', at? (strip fr ds rs bs).rw p = some r' := by
  have get : ∀ m, at? (strip fr ds rs bs).rw m = orphan (unset fr.rw rs) (at? (unset fr.rw rs) m) := fun m => by
    simp only [strip, at?_get, List.getElem?_map]
    cases (unset fr.rw rs)[m]? <;> rfl
  rw [get] at h
  have h1 : at? (unset fr.rw rs) n = some r ∧ ∀ p pa, r.m = .bor p pa → ∃ r', at? (unset fr.rw rs) p = some r' ∧ r'.m.mine = true := by
    unfold orphan at h
    split at h
    · rename_i q hq
      split at h
      · rename_i p pa hm
        split at h
        · rename_i q' hq'
          cases hmi : q'.m.mine
          · rw [hmi] at h; cases h
          · rw [hmi, cond_true] at h
            rw [hq] at h
            cases h
            refine ⟨hq, fun p' pa' e => ?_⟩
            rw [hm] at e
            cases e
            exact ⟨q', hq', hmi⟩
        · cases h
      · rename_i hno
        rw [hq] at h
        cases h
        exact ⟨hq, fun p pa e => absurd e (hno p pa)⟩
    · cases h
  obtain ⟨h2, h3⟩ := h1
  obtain ⟨h4, h5⟩ := at?_unset _ _ h2
  refine ⟨h4, h5, fun p pa e => ?_⟩
  obtain ⟨r', h6, h7⟩ := h3 p pa e
  refine ⟨r', ?_⟩
  rw [get, h6]
  unfold orphan
  simp only
  split
  · rename_i e'; rw [e'] at h7; cases h7
  · rfl
theorem strip_sl (hu : Up fr.sl) {ds : List (Option Nat)} {rs bs : List Nat} {t : Nat} {v : AV} (h : lkp (strip fr ds rs bs).sl t = some v) : lkp fr.sl t = some v ∧ some t ∉ ds := by
  obtain ⟨h1, h2⟩ := lkp_filter hu h
  refine ⟨h1, fun hm => ?_⟩
  simp only [inO, Bool.not_eq_true', List.any_eq_false] at h2
  exact h2 _ hm (beq_same t)
theorem noWait_quiet (hu : Up fr.sl) {ds : List (Option Nat)} (h : noWait fr ds = true) {d : Option Nat} (hd : d ∈ ds) : Quiet fr.f d := fun t v hv => by
  have := List.all_eq_true.1 h _ (lkp_mem hv)
  cases d with
  | none => rfl
  | some d =>
    cases v with
    | grd c b ag cs =>
      have h2 := List.all_eq_true.1 this _ hd
      simpa using h2
    | _ => rfl
/-! ### operations one after the other in the text's order -/
structure Step1 (C : Cx) (ops : Array Oper) (i : Nat) (st : List Span) (fr fr1 : Fr) (e : Ent) (o : Oper) : Prop where
  op : ops[i]? = some o
  od : OpD C ops o (tgtOf (smallOf (Dr.of ops.toList) (incs (Dr.of ops.toList) i) st fr) o) ((incs (Dr.of ops.toList) i).map fun j => (Dr.of ops.toList).ds.getD j none) (smallOf (Dr.of ops.toList) (incs (Dr.of ops.toList) i) st fr) fr fr1 e
  ne : ∀ j ∈ incs (Dr.of ops.toList) i, neO ((Dr.of ops.toList).ds.getD i none) ((Dr.of ops.toList).ds.getD j none) = true ∧ predOK st i j (tgtOf (smallOf (Dr.of ops.toList) (incs (Dr.of ops.toList) i) st fr) o) = true
  up0 : Up fr.sl
  up : Up fr1.sl
  nt : fr1.nt = fr.nt
  nw : noWait fr1 ((Dr.of ops.toList).ds.drop (i + 1)) = true
  sl : st.length = i
inductive Chain (C : Cx) (ops : Array Oper) : Nat → List Span → Fr → List Ent → Fr → Prop
  | nil {i st fr} : Chain C ops i st fr [] fr
  | cons {i st fr fr1 e o es fr2} : Step1 C ops i st fr fr1 e o → Chain C ops (i + 1) (st ++ [span (Dr.of ops.toList) (tgtOf (smallOf (Dr.of ops.toList) (incs (Dr.of ops.toList) i) st fr) o) fr fr1]) fr1 es fr2 → Chain C ops i st fr (e :: es) fr2
theorem ds_get {j : Nat} {o : Oper} (h : ops[j]? = some o) : (Dr.of ops.toList).ds.getD j none = o.dst ∧ o.dst ∈ (Dr.of ops.toList).ds.drop j := by
  have h' : ops.toList[j]? = some o := by simpa using h
  refine ⟨by simp [Dr.of, h], ?_⟩
  simp only [Dr.of]
  refine List.mem_of_getElem? (i := 0) ?_
  rw [List.getElem?_drop, List.getElem?_map]
  simp [h]
theorem drawK_chain {R : Type} (hE : EnvOK C.P E) (hC : CxOK C) {k : Fr → Option R} {r : R} : ∀ (rest : List Oper) {i : Nat} {st : List Span} {fr : Fr}, ops.toList.drop i = rest → st.length = i → Up fr.sl → noWait fr ((Dr.of ops.toList).ds.drop i) = true →
    drawK E (Dr.of ops.toList) rest i st fr k = some r → ∃ es fr' st', Chain C ops i st fr es fr' ∧ st'.length = i + es.length ∧ Up fr'.sl ∧ noWait fr' ((Dr.of ops.toList).ds.drop (i + es.length)) = true ∧ es.length ≤ rest.length ∧
      drawK E (Dr.of ops.toList) (ops.toList.drop (i + es.length)) (i + es.length) st' fr' k = some r ∧ ∀ o r2, ops.toList.drop (i + es.length) = o :: r2 → incs (Dr.of ops.toList) (i + es.length) = []
  | [], i, st, fr, hd, hst, hu, hw, h => ⟨[], fr, st, .nil, by simpa using hst, hu, hw, Nat.le_refl _, by rw [List.length_nil, Nat.add_zero, hd]; exact h, fun o r2 e => by rw [List.length_nil, Nat.add_zero, hd] at e; cases e⟩
  | o :: rest, i, st, fr, hd, hst, hu, hw, h => by
    have hn : ops[i]? = some o := by
      have : (ops.toList.drop i)[0]? = some o := by rw [hd]; rfl
      rw [List.getElem?_drop] at this
      simpa using this
    have hd' : ops.toList.drop (i + 1) = rest := by
      have : (ops.toList.drop i).drop 1 = rest := by rw [hd]; rfl
      rwa [List.drop_drop] at this
    cases hI : incs (Dr.of ops.toList) i with
    | nil => exact ⟨[], fr, st, .nil, by simpa using hst, hu, hw, Nat.zero_le _, by rw [List.length_nil, Nat.add_zero, hd]; exact h, fun _ _ _ => hI⟩
    | cons j0 I =>
      simp only [drawK] at h
      split at h
      · rename_i e; rw [hI] at e; cases e
      · cases hc : ((incs (Dr.of ops.toList) i).all fun j => neO ((Dr.of ops.toList).ds.getD i none) ((Dr.of ops.toList).ds.getD j none) && predOK st i j (tgtOf (smallOf (Dr.of ops.toList) (incs (Dr.of ops.toList) i) st fr) o))
        · rw [hc] at h; cases h
        · rw [hc, cond_true] at h
          obtain ⟨ds1, ds2⟩ := ds_get hn
          have l1 : (smallOf (Dr.of ops.toList) (incs (Dr.of ops.toList) i) st fr).bx.length = fr.bx.length := strip_len.1
          have l2 : (smallOf (Dr.of ops.toList) (incs (Dr.of ops.toList) i) st fr).rw.length = fr.rw.length := strip_len.2
          obtain ⟨e, fr1, hod, hu1, hnt1, hk⟩ := opD_ok hE hC (s := smallOf (Dr.of ops.toList) (incs (Dr.of ops.toList) i) st fr) l1 l2 rfl hu (noWait_quiet hu hw ds2) h
          cases hw1 : noWait fr1 ((Dr.of ops.toList).ds.drop (i + 1))
          · rw [hw1] at hk; cases hk
          · rw [hw1, cond_true] at hk
            obtain ⟨es, fr', st', c1, c2, c3, c4, c5, c6, c7⟩ := drawK_chain hE hC rest hd' (by simp [hst]) hu1 hw1 hk
            have e1 : i + 1 + es.length = i + (e :: es).length := by simp; omega
            rw [e1] at c2 c4 c6 c7
            refine ⟨e :: es, fr', st', .cons ⟨hn, hod, fun j hj => ?_, hu, hu1, hnt1, hw1, hst⟩ c1, c2, c3, c4, by simpa using c5, c6, c7⟩
            have := List.all_eq_true.1 hc j hj
            simpa using this
theorem runL_cons {e : Ent} {es : List Ent} {L : Nat → Bool} {p : Nat} {f : FF} : runL (e :: es) L p f = runL es L (p + 1) (bif L p then appE e f else f) := rfl
theorem runL_none : ∀ (es : List Ent) {L : Nat → Bool} {p : Nat} {f : FF}, (∀ q, p ≤ q → L q = false) → runL es L p f = f
  | [], _, _, _, _ => rfl
  | e :: es, L, p, f, h => by
    unfold runL
    rw [h p (Nat.le_refl _), cond_false]
    exact runL_none es fun q hq => h q (by omega)
/-- what stands at one place of the run -/
structure AtP (C : Cx) (ops : Array Oper) (i : Nat) (fr : Fr) (es : List Ent) (fr' : Fr) (p0 p : Nat) (e : Ent) (o : Oper) (stp : List Span) (frp frq : Fr) : Prop where
  st : Step1 C ops (i + p) stp frp frq e o
  f : frp.f = runL es (fun q => decide (q < p0 + p)) p0 fr.f
  sp : ∀ q e', q < p → es[q]? = some e' → ∃ s, stp[i + q]? = some s ∧ s.r0 = e'.r0 ∧ s.rn = e'.nr.length ∧ s.b0 = e'.b0 ∧ s.bn = e'.nb.length ∧ ∀ n b, e'.ef = .box n b → s.et = some n
  later : ∀ q e', p < q → es[q]? = some e' → i + p ∈ incs (Dr.of ops.toList) (i + q) → ∀ n b, e'.ef = .box n b → tgtAt (Dr.of ops.toList) frp (i + q) = some n ∨ e.b0 ≤ n
  rlo : fr.rw.length ≤ e.r0
  blo : fr.bx.length ≤ e.b0
  rhi : e.r0 + e.nr.length ≤ fr'.rw.length
  bhi : e.b0 + e.nb.length ≤ fr'.bx.length
  r : ∀ q e', q < p → es[q]? = some e' → e'.r0 + e'.nr.length ≤ e.r0 ∧ e'.b0 + e'.nb.length ≤ e.b0
  val : ∀ t v, e.d = some t → e.v = some v → lkp frq.sl t = some v
theorem chain_fin {i : Nat} {st : List Span} {fr fr' : Fr} {es : List Ent} (h : Chain C ops i st fr es fr') : ∀ p0, fr'.f = runL es (fun q => decide (q < p0 + es.length)) p0 fr.f ∧ fr.rw.length ≤ fr'.rw.length ∧ fr.bx.length ≤ fr'.bx.length ∧ fr'.nt = fr.nt := by
  induction h with
  | nil => exact fun p0 => ⟨rfl, Nat.le_refl _, Nat.le_refl _, rfl⟩
  | @cons i st fr fr1 e o es fr2 hs hc ih =>
    intro p0
    obtain ⟨h1, h2, h3, h4⟩ := ih (p0 + 1)
    refine ⟨?_, ?_, ?_, h4.trans hs.nt⟩
    · unfold runL
      have e1 : decide (p0 < p0 + (e :: es).length) = true := by simp
      simp only [e1, cond_true]
      rw [← hs.od.f, h1]
      have : p0 + 1 + es.length = p0 + (e :: es).length := by simp; omega
      rw [this]
    · have := hs.od.rl; omega
    · have := hs.od.bl; omega
theorem chain_at {i : Nat} {st : List Span} {fr fr' : Fr} {es : List Ent} (h : Chain C ops i st fr es fr') : ∀ p0 (p : Nat) e, es[p]? = some e → ∃ o stp frp frq, AtP C ops i fr es fr' p0 p e o stp frp frq ∧ ∃ t, stp = st ++ t := by
  induction h with
  | nil => intro p0 p e he; simp at he
  | @cons i st fr fr1 e o es fr2 hs hc ih =>
    intro p0 p e' he
    have hl := hs.sl
    cases p with
    | zero =>
      simp only [List.getElem?_cons_zero, Option.some.injEq] at he
      subst he
      obtain ⟨_, b1, b2, _⟩ := chain_fin hc 0
      refine ⟨o, st, fr, fr1, ⟨by simpa using hs, ?_, fun q e' hq => absurd hq (by omega), fun q e' hq he' hin n b hb => ?_, by rw [hs.od.r0]; exact Nat.le_refl _, by rw [hs.od.b0]; exact Nat.le_refl _, ?_, ?_, fun q e' hq => absurd hq (by omega), fun t v ht hv => ?_⟩, [], by simp⟩
      · rw [runL_none _ fun q hq => by simp; omega]
      · obtain ⟨q, rfl⟩ : ∃ q', q = q' + 1 := ⟨q - 1, by omega⟩
        obtain ⟨o', stq, frq1, frq2, ha, t, ht⟩ := ih (p0 + 1) q e' (by simpa using he')
        have e1 : i + 1 + q = i + (q + 1) := by omega
        have hne := (ha.st.ne i (by rw [e1]; simpa using hin)).2
        rcases ha.st.od.ef with h1 | ⟨k, b2, h1, h2, _⟩
        · rw [hb] at h1; cases h1
        · rw [hb] at h1
          cases h1
          rw [h2] at hne
          have hsp : stq[i]? = some (span (Dr.of ops.toList) (tgtOf (smallOf (Dr.of ops.toList) (incs (Dr.of ops.toList) i) st fr) o) fr fr1) := by
            rw [ht, List.append_assoc, List.getElem?_append_right (by omega), hl, Nat.sub_self]
            rfl
          simp only [predOK, hsp, span, Bool.or_eq_true] at hne
          rcases hne with h3 | h3
          · left
            rw [e1] at h3
            unfold tgtAt
            rw [Nat.add_zero] at *
            split at h3
            · rename_i k' hk'
              rw [hk', Nat.eq_of_beq_eq_true h3]
            · cases h3
          · right
            rw [hs.od.b0]
            exact ble_le h3
      · have := hs.od.rl; rw [hs.od.r0]; omega
      · have := hs.od.bl; rw [hs.od.b0]; omega
      · have : lkp fr1.f.sl t = some v := by
          rw [hs.od.f]
          simp only [appE, lkp_slE, ht, hv, if_true]
        exact this
    | succ p =>
      obtain ⟨o', stp, frp, frq, ha, t, ht⟩ := ih (p0 + 1) p e' (by simpa using he)
      have e1 : i + 1 + p = i + (p + 1) := by omega
      have hrl := hs.od.rl
      have hbl := hs.od.bl
      refine ⟨o', stp, frp, frq, ⟨by rw [← e1]; exact ha.st, ?_, fun q e2 hq he2 => ?_, fun q e2 hq he2 hin n b hb => ?_, ?_, ?_, ha.rhi, ha.bhi, fun q e2 hq he2 => ?_, ha.val⟩, span (Dr.of ops.toList) (tgtOf (smallOf (Dr.of ops.toList) (incs (Dr.of ops.toList) i) st fr) o) fr fr1 :: t, by rw [ht]; simp⟩
      · rw [ha.f, runL_cons]
        have e2 : decide (p0 < p0 + (p + 1)) = true := by simp
        simp only [e2, cond_true]
        rw [← hs.od.f]
        have : p0 + 1 + p = p0 + (p + 1) := by omega
        rw [this]
      · cases q with
        | zero =>
          simp only [List.getElem?_cons_zero, Option.some.injEq] at he2
          subst he2
          refine ⟨_, by rw [ht, Nat.add_zero, List.append_assoc, List.getElem?_append_right (by omega), hl, Nat.sub_self]; rfl, hs.od.r0.symm, by simp only [span]; omega, hs.od.b0.symm, by simp only [span]; omega, fun n b hb => ?_⟩
          rcases hs.od.ef with h1 | ⟨k, b2, h1, h2, _⟩
          · rw [hb] at h1; cases h1
          · rw [hb] at h1
            cases h1
            exact h2
        | succ q =>
          have := ha.sp q e2 (by omega) (by simpa using he2)
          rw [show i + (q + 1) = i + 1 + q by omega]
          exact this
      · obtain ⟨q, rfl⟩ : ∃ q', q = q' + 1 := ⟨q - 1, by omega⟩
        rw [show i + (q + 1) = i + 1 + q by omega] at hin ⊢
        exact ha.later q e2 (by omega) (by simpa using he2) (by rw [e1]; exact hin) n b hb
      · have := ha.rlo; omega
      · have := ha.blo; omega
      · cases q with
        | zero =>
          simp only [List.getElem?_cons_zero, Option.some.injEq] at he2
          subst he2
          have := ha.rlo
          have := ha.blo
          rw [hs.od.r0, hs.od.b0]
          omega
        | succ q => exact ha.r q e2 (by omega) (by simpa using he2)
end Go.Proofs.Ytbgdojniimdihaa.X
