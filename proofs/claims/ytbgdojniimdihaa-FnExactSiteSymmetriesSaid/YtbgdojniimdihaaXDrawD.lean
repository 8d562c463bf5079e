/- Regions that draw their order: the region. -/
import Derived.Test.YtbgdojniimdihaaXDrawC
namespace Go.Proofs.Ytbgdojniimdihaa.X
open Go Go.RowKit
variable {C : Cx} {fr s : Fr} {big : FF} {g : Sg} {a : Act} {w w' : World} {ch : List (Nat × Bool)} {E : Env} {ops : Array Oper}
def cnt (L : Nat → Bool) : Nat → Nat
  | 0 => 0
  | k + 1 => cnt L k + (bif L k then 0 else 1)
theorem cnt_add {L L' : Nat → Bool} {p : Nat} (h0 : L p = false) (h1 : L' p = true) (h2 : ∀ j, j ≠ p → L' j = L j) : ∀ k, p < k → cnt L k = cnt L' k + 1
  | 0, h => absurd h (by omega)
  | k + 1, h => by
    have same : ∀ k, k ≤ p → cnt L k = cnt L' k := by
      intro k
      induction k with
      | zero => intro _; rfl
      | succ k ih => intro hk; simp only [cnt, ih (by omega), h2 k (by omega)]
    by_cases hk : p = k
    · subst hk
      simp only [cnt, h0, h1, same p (Nat.le_refl _), cond_true, cond_false]
    · simp only [cnt, cnt_add h0 h1 h2 k (by omega), h2 k (by omega)]
      omega
theorem cnt_zero {L : Nat → Bool} : ∀ k, cnt L k = 0 → ∀ q, q < k → L q = true
  | 0, _, q, h => absurd h (by omega)
  | k + 1, hc, q, h => by
    simp only [cnt] at hc
    by_cases hq : q = k
    · subst hq
      cases hl : L q
      · rw [hl, cond_false] at hc; omega
      · rfl
    · exact cnt_zero k (by omega) q (by omega)
theorem cnt_pos {L : Nat → Bool} : ∀ k, 0 < cnt L k → ∃ q, q < k ∧ L q = false ∧ ∀ j, j < q → L j = true
  | 0, h => absurd h (by simp [cnt])
  | k + 1, h => by
    by_cases hk : 0 < cnt L k
    · obtain ⟨q, h1, h2, h3⟩ := cnt_pos k hk
      exact ⟨q, by omega, h2, h3⟩
    · refine ⟨k, by omega, ?_, fun j hj => cnt_zero k (by omega) j hj⟩
      simp only [cnt] at h
      cases hl : L k
      · rfl
      · rw [hl, cond_true] at h; omega
/-- which operations have come up: the first m, and some of the next n -/
structure LI (ops : Array Oper) (m n : Nat) (L : Nat → Bool) (listed : Array Bool) : Prop where
  size : listed.size = ops.size
  get : ∀ j, j < ops.size → listed.getD j false = (decide (j < m) || (decide (j < m + n) && L (j - m)))
theorem getD_tf {l : Array Bool} {j : Nat} (h : j < l.size) : l.getD j true = l.getD j false := by simp [Array.getD, h]
theorem LI.set {m n p : Nat} {L : Nat → Bool} {listed : Array Bool} (h : LI ops m n L listed) (hp : p < n) (hpo : m + p < ops.size) : LI ops m n (fun q => L q || Nat.beq q p) (listed.setIfInBounds (m + p) true) := by
  refine ⟨by rw [Array.size_setIfInBounds]; exact h.size, fun j hj => ?_⟩
  by_cases hjp : j = m + p
  · subst hjp
    have h1 : (listed.setIfInBounds (m + p) true).getD (m + p) false = true := by
      have := h.size
      simp only [Array.getD_eq_getD_getElem?]
      rw [Array.getElem?_setIfInBounds_self_of_lt (by omega)]
      rfl
    rw [h1]
    have e1 : m + p - m = p := by omega
    rw [e1, beq_same]
    simp [hp]
  · rw [getD_set_ne false (fun e => hjp e.symm), h.get j hj]
    by_cases h1 : j < m
    · simp [h1]
    · have : Nat.beq (j - m) p = false := beq_ne (by omega)
      rw [this, Bool.or_false]
/-- one operation of the run comes up -/
structure Inv (C : Cx) (m : Nat) (fr : Fr) (es : List Ent) (L : Nat → Bool) (g : Sg) (a : Act) (w : World) : Prop where
  sim : Sim C (runL es L 0 fr.f) g a w
  β : ∀ n, fr.bx.length ≤ n → (∀ q e, es[q]? = some e → L q = true → ¬ (e.b0 ≤ n ∧ n < e.b0 + e.nb.length)) → g.β n = none
  ρ : ∀ n, fr.rw.length ≤ n → (∀ q e, es[q]? = some e → L q = true → ¬ (e.r0 ≤ n ∧ n < e.r0 + e.nr.length)) → g.ρ n = none
theorem ranges {m : Nat} {st : List Span} {fr fr' : Fr} {es : List Ent} (hch : Chain C ops m st fr es fr') {p q : Nat} {e e' : Ent} (hpq : p < q) (hp : es[p]? = some e) (hq : es[q]? = some e') : e.r0 + e.nr.length ≤ e'.r0 ∧ e.b0 + e.nb.length ≤ e'.b0 := by
  obtain ⟨_, _, _, _, h, _⟩ := chain_at hch 0 q e' hq
  exact h.r p e hpq hp
theorem seg_step {m : Nat} {st : List Span} {fr fr' : Fr} {es : List Ent} (hch : Chain C ops m st fr es fr') (hst : st.length = m) (hu : Up fr.sl) (hnw : noWait fr ((Dr.of ops.toList).ds.drop m) = true)
    {L : Nat → Bool} {p : Nat} {e : Ent} (he : es[p]? = some e) (hL : L p = false)
    (hlow : ∀ q, q < p → L q = false → m + q ∈ incs (Dr.of ops.toList) (m + p)) (hhigh : ∀ q, p < q → q < es.length → L q = true → m + q ∈ incs (Dr.of ops.toList) (m + p) ∧ m + p ∈ incs (Dr.of ops.toList) (m + q))
    {g : Sg} {a : Act} {w : World} (hI : Inv C m fr es L g a w) {o : Oper} (ho : ops[m + p]? = some o) {K : Act → World → Prop} {Q : Exit → Act → World → Prop} (hK : ∀ g' a' w', Inv C m fr es (fun q => L q || Nat.beq q p) g' a' w' → K a' w') :
    if Region.wanted o (yielded ops a.tmps) then o.wp C.P a w K Q else K (a.put o.dst undef) w := by
  obtain ⟨o', stp, frp, frq, hat, tt, htt⟩ := chain_at hch 0 p e he
  have ho' := hat.st.op
  rw [ho] at ho'
  cases ho'
  have hod := hat.st.od
  obtain ⟨ds1, _⟩ := ds_get ho
  have hfrpnt : frp.nt = fr.nt := by
    have := congrArg FF.nt hat.f
    rw [runL_nt] at this
    exact this
  -- what other entries write
  have other : ∀ {q e'}, es[q]? = some e' → ∃ o' stq frq1 frq2, AtP C ops m fr es fr' 0 q e' o' stq frq1 frq2 := fun h => by
    obtain ⟨o', s1, f1, f2, h1, _⟩ := chain_at hch 0 _ _ h
    exact ⟨o', s1, f1, f2, h1⟩
  have dsq : ∀ {q e'}, es[q]? = some e' → (Dr.of ops.toList).ds.getD (m + q) none = e'.d := fun h => by
    obtain ⟨o', s1, f1, f2, h1⟩ := other h
    rw [(ds_get h1.st.op).1, h1.st.od.d]
  have lenp : ∀ {q e'}, es[q]? = some e' → q < es.length := fun h => (List.getElem?_eq_some_iff.1 h).1
  -- the part of the frame that the operation was looked at in
  have diff : ∀ q e', es[q]? = some e' → decide (q < p) ≠ L q → m + q ∈ incs (Dr.of ops.toList) (m + p) ∧ q ≠ p := fun q e' hq hd => by
    by_cases h1 : q < p
    · rw [decide_eq_true h1] at hd
      exact ⟨hlow q h1 (by cases h2 : L q <;> simp_all), by omega⟩
    · rw [decide_eq_false h1] at hd
      have h2 : L q = true := by cases h2 : L q <;> simp_all
      have h3 : q ≠ p := fun e => by rw [e, hL] at h2; cases h2
      exact ⟨(hhigh q (by omega) (lenp hq) h2).1, h3⟩
  have hsub : Sub (smallOf (Dr.of ops.toList) (incs (Dr.of ops.toList) (m + p)) stp frp) (runL es L 0 fr.f) := by
    have hbx : ∀ i b, at? (smallOf (Dr.of ops.toList) (incs (Dr.of ops.toList) (m + p)) stp frp).bx i = some b → (runL es L 0 fr.f).bx i = some b := fun i b hb => by
      obtain ⟨h1, h2⟩ := strip_bx hb
      have h3 : frp.f.bx i = some b := h1
      rw [hat.f] at h3
      rw [← h3]
      refine (runL_bx es rfl fun q e' hq hd => ?_).symm
      have hd' : decide (q < p) ≠ L q := by simpa using hd
      obtain ⟨hin, hqp⟩ := diff q e' hq hd'
      have hil := at?_lt h1
      rw [← hod.b0] at hil
      rintro (hw | ⟨b', hw⟩)
      · by_cases hlt : q < p
        · refine h2 (List.mem_append.2 (.inl (List.mem_flatMap.2 ⟨m + q, hin, ?_⟩)))
          obtain ⟨sp, hs1, _, _, hs4, hs5, _⟩ := hat.sp q e' hlt hq
          rw [hs1]
          exact List.mem_range'.2 ⟨i - e'.b0, (by rw [hs5]; omega), (by rw [hs4]; omega)⟩
        · have := (ranges hch (show p < q by omega) he hq).2
          omega
      · by_cases hlt : q < p
        · refine h2 (List.mem_append.2 (.inr (List.mem_filterMap.2 ⟨m + q, hin, ?_⟩)))
          obtain ⟨sp, hs1, _, _, _, _, hs6⟩ := hat.sp q e' hlt hq
          rw [hs1]
          exact hs6 _ _ hw
        · have hLq : L q = true := by
            rw [decide_eq_false hlt] at hd'
            cases h3 : L q <;> simp_all
          have hqp' : p < q := by omega
          rcases hat.later q e' hqp' hq (hhigh q hqp' (lenp hq) hLq).2 i b' hw with h4 | h4
          · refine h2 (List.mem_append.2 (.inr (List.mem_filterMap.2 ⟨m + q, hin, ?_⟩)))
            have : stp[m + q]? = none := List.getElem?_eq_none (by rw [hat.st.sl]; omega)
            rw [this]
            exact h4
          · omega
    have hrw : ∀ i r, at? (smallOf (Dr.of ops.toList) (incs (Dr.of ops.toList) (m + p)) stp frp).rw i = some r → (runL es L 0 fr.f).rw i = some r := fun i r hr => by
      obtain ⟨h1, h2, _⟩ := strip_rw hr
      have h3 : frp.f.rw i = some r := h1
      rw [hat.f] at h3
      rw [← h3]
      refine (runL_rw es rfl fun q e' hq hd => ?_).symm
      have hd' : decide (q < p) ≠ L q := by simpa using hd
      obtain ⟨hin, hqp⟩ := diff q e' hq hd'
      have hil := at?_lt h1
      rw [← hod.r0] at hil
      intro hw
      have hw' : e'.r0 ≤ i ∧ i < e'.r0 + e'.nr.length := hw
      by_cases hlt : q < p
      · refine h2 (List.mem_flatMap.2 ⟨m + q, hin, ?_⟩)
        obtain ⟨sp, hs1, hs2, hs3, _⟩ := hat.sp q e' hlt hq
        rw [hs1]
        exact List.mem_range'.2 ⟨i - e'.r0, (by rw [hs3]; omega), (by rw [hs2]; omega)⟩
      · have := (ranges hch (show p < q by omega) he hq).1
        omega
    refine ⟨?_, hat.st.up0.filter _, fun t v ht => ?_, hbx, hrw, fun i r pp pa hr hm r' hr' => ?_⟩
    · rw [runL_nt]; exact hfrpnt
    · obtain ⟨h1, h2⟩ := strip_sl hat.st.up0 ht
      have h3 : lkp frp.f.sl t = some v := h1
      rw [hat.f] at h3
      rw [← h3]
      refine (runL_sl es rfl fun q e' hq hd => ?_).symm
      have hd' : decide (q < p) ≠ L q := by simpa using hd
      obtain ⟨hin, _⟩ := diff q e' hq hd'
      intro hdt
      refine h2 (List.mem_map.2 ⟨m + q, hin, ?_⟩)
      rw [dsq hq, hdt]
    · obtain ⟨_, _, h3⟩ := strip_rw hr
      obtain ⟨r2, h4⟩ := h3 pp pa hm
      have h5 := hrw pp r2 h4
      rw [hr'] at h5
      cases h5
      exact h4
  have hfree : FreeE e g := ⟨fun j h1 h2 => hI.β j (Nat.le_trans hat.blo h1) fun q e' hq hl hin => by
      by_cases hqp : q = p
      · rw [hqp, hL] at hl; cases hl
      · rcases Nat.lt_or_ge q p with h3 | h3
        · have := (ranges hch h3 hq he).2; omega
        · have := (ranges hch (show p < q by omega) he hq).2; omega, fun j h1 h2 => hI.ρ j (Nat.le_trans hat.rlo h1) fun q e' hq hl hin => by
      by_cases hqp : q = p
      · rw [hqp, hL] at hl; cases hl
      · rcases Nat.lt_or_ge q p with h3 | h3
        · have := (ranges hch h3 hq he).1; omega
        · have := (ranges hch (show p < q by omega) he hq).1; omega⟩
  have hquiet : Quiet (runL es L 0 fr.f) o.dst := fun t v hv => by
    rcases runL_from es hv with h1 | ⟨q, e', h1, h2, h3, h4⟩
    · refine noWait_quiet hu hnw ?_ t v h1
      have := (ds_get ho).2
      rw [← List.drop_drop] at this
      exact List.mem_of_mem_drop this
    · rw [Nat.zero_add] at h2
      have hqp : q ≠ p := fun e => by rw [e, hL] at h2; cases h2
      obtain ⟨o', s1, f1, f2, ha⟩ := other h1
      rcases Nat.lt_or_ge q p with h5 | h5
      · refine noWait_quiet ha.st.up ha.st.nw ?_ t v (ha.val t v h3 h4)
        have := (ds_get ho).2
        rw [show m + p = (m + q + 1) + (p - q - 1) by omega, ← List.drop_drop] at this
        exact List.mem_of_mem_drop this
      · have h6 := (hhigh q (by omega) (lenp h1) h2).2
        exact ha.st.od.ws v h4 _ (List.mem_map.2 ⟨m + p, h6, ds1⟩)
  refine hod.ent hI.sim hsub hfree hquiet fun g' a' w' hf hs => hK g' a' w' ?_
  have hindep : ∀ q e', p < q → es[q]? = some e' → L (0 + q) = true → Indep e e' := fun q e' hpq hq hl => by
    rw [Nat.zero_add] at hl
    obtain ⟨o', s1, f1, f2, ha⟩ := other hq
    have h6 := (hhigh q hpq (lenp hq) hl).2
    obtain ⟨n1, n2⟩ := ha.st.ne _ h6
    obtain ⟨r1, r2⟩ := ranges hch hpq he hq
    refine ⟨fun t ht ht' => ?_, fun n hn hn' => ?_, fun n hn hn' => ?_⟩
    · rw [dsq hq, dsq he, ht, ht'] at n1
      simp [neO] at n1
    · obtain ⟨sp, hs1, _, _, hs4, hs5, hs6⟩ := ha.sp p e hpq he
      rcases hn with hn | ⟨b, hn⟩ <;> rcases hn' with hn' | ⟨b', hn'⟩
      · omega
      · rcases ha.st.od.ef with h7 | ⟨k, b2, h7, _, _, b3, h8⟩
        · rw [hn'] at h7; cases h7
        · rw [hn'] at h7
          cases h7
          obtain ⟨_, h9⟩ := strip_bx h8
          refine h9 (List.mem_append.2 (.inl (List.mem_flatMap.2 ⟨m + p, h6, ?_⟩)))
          rw [hs1]
          exact List.mem_range'.2 ⟨n - e.b0, (by rw [hs5]; omega), (by rw [hs4]; omega)⟩
      · rcases hod.ef with h7 | ⟨k, b2, h7, _, _, b3, h8⟩
        · rw [hn] at h7; cases h7
        · rw [hn] at h7
          cases h7
          obtain ⟨h9, _⟩ := strip_bx h8
          have := at?_lt h9
          rw [← hod.b0] at this
          omega
      · rcases ha.st.od.ef with h7 | ⟨k, b2, h7, _, _, b3, h8⟩
        · rw [hn'] at h7; cases h7
        · rw [hn'] at h7
          cases h7
          obtain ⟨_, h9⟩ := strip_bx h8
          refine h9 (List.mem_append.2 (.inr (List.mem_filterMap.2 ⟨m + p, h6, ?_⟩)))
          rw [hs1]
          exact hs6 _ _ hn
    · have h1 : e.r0 ≤ n ∧ n < e.r0 + e.nr.length := hn
      have h2 : e'.r0 ≤ n ∧ n < e'.r0 + e'.nr.length := hn'
      omega
  refine ⟨hs.feq (runL_add es (i := p) (L := L) (L' := fun q => L q || Nat.beq q p) (p := 0) he (by rw [Nat.zero_add]; exact hL) (by rw [Nat.zero_add]; simp [beq_same]) (fun j hj => by rw [Nat.zero_add] at hj; rw [beq_ne hj, Bool.or_false]) hindep).symm (runL_up es hu), fun n h1 h2 => ?_, fun n h1 h2 => ?_⟩
  · have h3 := h2 p e he (by simp [beq_same])
    rw [hf.β n h3]
    exact hI.β n h1 fun q e' hq hl => h2 q e' hq (by simp [hl])
  · have h3 := h2 p e he (by simp [beq_same])
    rw [hf.ρ n h3]
    exact hI.ρ n h1 fun q e' hq hl => h2 q e' hq (by simp [hl])
theorem seg_ok (hed : edgesOK ops.toList 0 = true) {m : Nat} {st : List Span} {fr fr' : Fr} {es : List Ent} (hch : Chain C ops m st fr es fr') (hst : st.length = m) (hu : Up fr.sl) (hnw : noWait fr ((Dr.of ops.toList).ds.drop m) = true) (hlen : m + es.length ≤ ops.size)
    (hcut : m + es.length < ops.size → incs (Dr.of ops.toList) (m + es.length) = []) {N : Nat} {Q : Exit → Act → World → Prop}
    (hK : ∀ g a w listed fuel, Sim C fr'.f g a w → Fit fr' g → LI ops (m + es.length) 0 (fun _ => false) listed → DC ops listed → N ≤ fuel → wpAny C.P .any ops Q fuel listed a w) :
    ∀ (n : Nat) {L : Nat → Bool} {listed : Array Bool} {g : Sg} {a : Act} {w : World} {fuel : Nat}, cnt L es.length = n → n + N ≤ fuel → LI ops m es.length L listed → DC ops listed → Inv C m fr es L g a w → wpAny C.P .any ops Q fuel listed a w
  | 0, L, listed, g, a, w, fuel, hn, hfu, hLI, hdc, hI => by
    have hall := cnt_zero _ hn
    obtain ⟨h1, h2, h3, _⟩ := chain_fin hch 0
    refine hK g a w listed fuel ?_ ?_ ⟨hLI.size, fun j hj => ?_⟩ hdc (by omega)
    · refine hI.sim.feq ?_ (by rw [h1]; exact runL_up es hu)
      rw [h1]
      have : FEq (runL es L 0 fr.f) (runL es (fun q => decide (q < 0 + es.length)) 0 fr.f) := by
        refine ⟨by rw [runL_nt, runL_nt], fun n => runL_bx es rfl fun q e hq hd => ?_, fun n => runL_rw es rfl fun q e hq hd => ?_, fun t => runL_sl es rfl fun q e hq hd => ?_⟩ <;>
        · have hql := (List.getElem?_eq_some_iff.1 hq).1
          refine absurd ?_ hd
          rw [Nat.zero_add, hall q hql]
          simp [hql]
      exact this
    · refine ⟨fun n hnn => hI.β n (by omega) fun q e hq _ hin => ?_, fun n hnn => hI.ρ n (by omega) fun q e hq _ hin => ?_⟩
      · obtain ⟨_, _, _, _, ha, _⟩ := chain_at hch 0 q e hq
        have := ha.bhi
        omega
      · obtain ⟨_, _, _, _, ha, _⟩ := chain_at hch 0 q e hq
        have := ha.rhi
        omega
    · rw [hLI.get j hj]
      by_cases h4 : j < m
      · simp [h4]; omega
      · by_cases h5 : j < m + es.length
        · have := hall (j - m) (by omega)
          simp [h4, h5, this]
        · simp [h4, h5]
  | n + 1, L, listed, g, a, w, fuel, hn, hfu, hLI, hdc, hI => by
    obtain ⟨fuel, rfl⟩ : ∃ k, fuel = k + 1 := ⟨fuel - 1, by omega⟩
    obtain ⟨q0, hq0, hq1, hq2⟩ := cnt_pos _ (show 0 < cnt L es.length by omega)
    have hsz := hLI.size
    -- what may come up
    have hrd : ∀ j, j ∈ Region.ready .any ops listed → ∃ p e o, j = m + p ∧ es[p]? = some e ∧ ops[j]? = some o ∧ L p = false ∧ (∀ i ∈ (Dr.of ops.toList).bs.getD j [], listed.getD i false = true) ∧ ∀ e ∈ o.after, Region.binds .any e = true → listed.getD e.on false = true := by
      intro j hj
      obtain ⟨h1, o, h2, h3⟩ := mem_ready.1 hj
      have hjs : j < ops.size := (Array.getElem?_eq_some_iff.1 h2).1
      have hbs := bs_listed hed hdc j h2 h3
      rw [getD_tf (by omega), hLI.get j hjs] at h1
      simp only [Bool.or_eq_false_iff, decide_eq_false_iff_not, Bool.and_eq_false_iff] at h1
      obtain ⟨h4, h5⟩ := h1
      have hjl : j < m + es.length := by
        apply Decidable.byContradiction
        intro hge
        -- the one that is comparable with all
        have hcs : m + es.length < ops.size := by omega
        have hc := hcut hcs
        have hq0' : m + q0 ≠ m + es.length := by omega
        have hun : listed.getD (m + q0) false = false := by
          rw [hLI.get _ (by omega)]
          have : m + q0 - m = q0 := by omega
          simp [this, hq1]
        have comp : ∀ x, x < ops.size → x ≠ m + es.length → (m + es.length ∈ (Dr.of ops.toList).bs.getD x [] ∨ x ∈ (Dr.of ops.toList).bs.getD (m + es.length) []) := by
          intro x hx hne
          have : x ∉ incs (Dr.of ops.toList) (m + es.length) := by rw [hc]; simp
          rw [incs_mem] at this
          apply Decidable.byContradiction
          intro hno
          exact this ⟨hx, fun e => hne e.symm, fun h => hno (.inl h), fun h => hno (.inr h)⟩
        have c1 : m + q0 ∈ (Dr.of ops.toList).bs.getD (m + es.length) [] := by
          rcases comp (m + q0) (by omega) hq0' with h | h
          · have := bs_lt hed _ h; omega
          · exact h
        by_cases hje : j = m + es.length
        · subst hje
          have := hbs _ c1
          rw [hun] at this; cases this
        · have c2 : m + es.length ∈ (Dr.of ops.toList).bs.getD j [] := by
            rcases comp j hjs hje with h | h
            · exact h
            · have := bs_lt hed _ h; omega
          have h6 := hbs _ c2
          obtain ⟨oc, hoc, _⟩ := bs_mem c1
          have h7 := bs_listed hed hdc _ hoc (hdc _ oc hoc h6) _ c1
          rw [hun] at h7; cases h7
      have hpl : j - m < es.length := by omega
      refine ⟨j - m, es[j - m], o, by omega, List.getElem?_eq_getElem hpl, h2, ?_, hbs, h3⟩
      rcases h5 with h5 | h5
      · exact absurd hjl h5
      · exact h5
    refine ⟨fun h0 => ?_, fun j hj => ?_⟩
    · -- the first that has not come up may come up
      exfalso
      have hqo : m + q0 < ops.size := by omega
      have : m + q0 ∈ Region.ready .any ops listed := by
        refine mem_ready.2 ⟨?_, _, Array.getElem?_eq_getElem hqo, fun e he hb => ?_⟩
        · rw [getD_tf (by omega), hLI.get _ hqo]
          have : m + q0 - m = q0 := by omega
          simp [this, hq1]
        · have h1 := edges_lt ops.toList hed (j := m + q0) (by simp [hqo]) e he hb
          rw [hLI.get _ (by omega)]
          by_cases h2 : e.on < m
          · simp [h2]
          · have := hq2 (e.on - m) (by omega)
            simp [this] <;> omega
      rw [h0] at this
      cases this
    · obtain ⟨p, e, o, rfl, he, ho, hLp, hbs, hrd3⟩ := hrd j hj
      have hpl : p < es.length := (List.getElem?_eq_some_iff.1 he).1
      have hps : m + p < ops.size := by omega
      have hlow : ∀ q, q < p → L q = false → m + q ∈ incs (Dr.of ops.toList) (m + p) := fun q hq hlq => by
        refine incs_mem.2 ⟨by omega, by omega, fun h => ?_, fun h => ?_⟩
        · have := bs_lt hed _ h; omega
        · have := hbs _ h
          rw [hLI.get _ (by omega)] at this
          have e1 : m + q - m = q := by omega
          simp [e1, hlq] at this <;> omega
      have hhigh : ∀ q, p < q → q < es.length → L q = true → m + q ∈ incs (Dr.of ops.toList) (m + p) ∧ m + p ∈ incs (Dr.of ops.toList) (m + q) := fun q hq hql hlq => by
        have n1 : m + p ∉ (Dr.of ops.toList).bs.getD (m + q) [] := fun h => by
          obtain ⟨oq, hoq, _⟩ := bs_mem h
          have h7 : listed.getD (m + q) false = true := by
            rw [hLI.get _ (by omega)]
            have e1 : m + q - m = q := by omega
            simp [e1, hlq] <;> omega
          have := bs_listed hed hdc _ hoq (hdc _ oq hoq h7) _ h
          rw [hLI.get _ hps] at this
          have e1 : m + p - m = p := by omega
          simp [e1, hLp] at this <;> omega
        have n2 : m + q ∉ (Dr.of ops.toList).bs.getD (m + p) [] := fun h => by
          have := bs_lt hed _ h; omega
        exact ⟨incs_mem.2 ⟨by omega, by omega, n1, n2⟩, incs_mem.2 ⟨hps, by omega, n2, n1⟩⟩
      have hdc' : DC ops (listed.setIfInBounds (m + p) true) := fun i oi hoi hli x hx hb => by
        by_cases hi : i = m + p
        · subst hi
          rw [ho] at hoi
          cases hoi
          exact getD_set_true (hrd3 x hx hb)
        · rw [getD_set_ne false (fun e => hi e.symm)] at hli
          exact getD_set_true (hdc i oi hoi hli x hx hb)
      have hc1 : cnt (fun q => L q || Nat.beq q p) es.length = n := by
        have := cnt_add (L := L) (L' := fun q => L q || Nat.beq q p) hLp (by simp [beq_same]) (fun j hj => by simp [beq_ne hj]) es.length hpl
        omega
      have := seg_step hch hst hu hnw he hLp hlow hhigh hI ho (K := wpAny C.P .any ops Q fuel (listed.setIfInBounds (m + p) true)) (Q := Q) fun g' a' w' hI' => seg_ok hed hch hst hu hnw hlen hcut hK n hc1 (by omega) (hLI.set hpl hps) hdc' hI'
      unfold wpOp
      rw [ho]
      simp only
      split
      · rename_i hw
        rw [if_pos hw] at this
        exact .inl this
      · rename_i hw
        rw [if_neg hw] at this
        exact this
/-- the whole region, in whatever order -/
theorem drawK_ok {R : Type} (hE : EnvOK C.P E) (hC : CxOK C) (hed : edgesOK ops.toList 0 = true) {k : Fr → Option R} {r : R} {Q : Exit → Act → World → Prop} (hQ : ∀ fr' g' a' w', k fr' = some r → Sim C fr'.f g' a' w' → Fit fr' g' → Q .normal a' w') :
    ∀ (n i : Nat) {st : List Span} {fr : Fr} {g : Sg} {a : Act} {w : World} {listed : Array Bool} {fuel : Nat}, ops.size - i = n → i ≤ ops.size → st.length = i → noWait fr ((Dr.of ops.toList).ds.drop i) = true → drawK E (Dr.of ops.toList) (ops.toList.drop i) i st fr k = some r →
      Sim C fr.f g a w → Fit fr g → LI ops i 0 (fun _ => false) listed → DC ops listed → n ≤ fuel → wpAny C.P .any ops Q fuel listed a w := by
  intro n
  induction n using Nat.strongRecOn with
  | _ n ih =>
    intro i st fr g a w listed fuel hn hi hst hnw h hs hf hLI hdc hfu
    obtain ⟨es, fr', st', c1, c2, c3, c4, c5, c6, c7⟩ := drawK_chain hE hC (ops.toList.drop i) rfl hst hs.up hnw h
    have hel : i + es.length ≤ ops.size := by simp at c5; omega
    obtain ⟨b1, b2, b3, _⟩ := chain_fin c1 0
    -- behind the run
    have cont : ∀ g a w listed fuel, Sim C fr'.f g a w → Fit fr' g → LI ops (i + es.length) 0 (fun _ => false) listed → DC ops listed → ops.size - (i + es.length) ≤ fuel → wpAny C.P .any ops Q fuel listed a w := by
      intro g a w listed fuel hs hf hLI hdc hfu
      cases hd : ops.toList.drop (i + es.length) with
      | nil =>
        rw [hd] at c6
        simp only [drawK] at c6
        have hge : ops.size ≤ i + es.length := by
          have := congrArg List.length hd
          simp at this
          omega
        obtain ⟨s1, s2⟩ := endR_ok (E := E) hs hf
        refine wpAny_done ?_ (hQ _ _ _ _ c6 s1 s2) fuel
        cases hr : Region.ready .any ops listed with
        | nil => rfl
        | cons j l =>
          exfalso
          have hj : j ∈ Region.ready .any ops listed := by rw [hr]; simp
          obtain ⟨h1, o, h2, _⟩ := mem_ready.1 hj
          have hjs : j < ops.size := (Array.getElem?_eq_some_iff.1 h2).1
          rw [getD_tf (by rw [hLI.size]; exact hjs), hLI.get j hjs] at h1
          simp at h1
          omega
      | cons o r2 =>
        rw [hd] at c6
        have hcut := c7 o r2 hd
        have hm : i + es.length < ops.size := by
          have := congrArg List.length hd
          simp at this
          omega
        have ho : ops[i + es.length]? = some o := by
          have : (ops.toList.drop (i + es.length))[0]? = some o := by rw [hd]; rfl
          rw [List.getElem?_drop] at this
          simpa using this
        have hd' : ops.toList.drop (i + es.length + 1) = r2 := by
          have : (ops.toList.drop (i + es.length)).drop 1 = r2 := by rw [hd]; rfl
          rwa [List.drop_drop] at this
        obtain ⟨fuel, rfl⟩ : ∃ k, fuel = k + 1 := ⟨fuel - 1, by omega⟩
        have comp : ∀ x, x < ops.size → x ≠ i + es.length → (i + es.length ∈ (Dr.of ops.toList).bs.getD x [] ∨ x ∈ (Dr.of ops.toList).bs.getD (i + es.length) []) := by
          intro x hx hne
          have : x ∉ incs (Dr.of ops.toList) (i + es.length) := by rw [hcut]; simp
          rw [incs_mem] at this
          apply Decidable.byContradiction
          intro hno
          exact this ⟨hx, fun e => hne e.symm, fun h => hno (.inl h), fun h => hno (.inr h)⟩
        have hrdy : i + es.length ∈ Region.ready .any ops listed := by
          refine mem_ready.2 ⟨?_, o, ho, fun e he hb => ?_⟩
          · rw [getD_tf (by rw [hLI.size]; exact hm), hLI.get _ hm]
            simp
          · have h1 := edges_lt ops.toList hed (j := i + es.length) (by simpa using ho) e he hb
            rw [hLI.get _ (by omega)]
            simp; omega
        refine ⟨fun h0 => (by rw [h0] at hrdy; cases hrdy), fun j hj => ?_⟩
        obtain ⟨h1, oj, h2, h3⟩ := mem_ready.1 hj
        have hjs : j < ops.size := (Array.getElem?_eq_some_iff.1 h2).1
        rw [getD_tf (by rw [hLI.size]; exact hjs), hLI.get j hjs] at h1
        have hji : i + es.length ≤ j := by simp at h1; omega
        have hje : j = i + es.length := by
          apply Decidable.byContradiction
          intro hne
          rcases comp j hjs hne with h4 | h4
          · have := bs_listed hed hdc j h2 h3 _ h4
            rw [hLI.get _ hm] at this
            simp at this
          · have := bs_lt hed _ h4; omega
        subst hje
        rw [ho] at h2
        cases h2
        simp only [drawK] at c6
        split at c6
        · have := opK_ok (Q := Q) hE hC (fr := fr') hs hf (show opK E ops.toList o fr' _ = some r from c6) (K := wpAny C.P .any ops Q fuel (listed.setIfInBounds (i + es.length) true)) fun fr2 g2 a2 w2 s1 s2 h' => by
            cases hw0 : (Nat.ble fr'.bx.length fr2.bx.length && noWait fr2 ((Dr.of ops.toList).ds.drop (i + es.length + 1)))
            · rw [hw0] at h'; cases h'
            · rw [hw0, cond_true, ← hd'] at h'
              simp only [Bool.and_eq_true] at hw0
              obtain ⟨_, hw1⟩ := hw0
              refine ih (ops.size - (i + es.length + 1)) (by omega) (i + es.length + 1) rfl (by omega) (by simp [c2]) hw1 h' s1 s2 ⟨by rw [Array.size_setIfInBounds]; exact hLI.size, fun j hj => ?_⟩ ?_ (by omega)
              · by_cases hj2 : j = i + es.length
                · subst hj2
                  simp only [Array.getD_eq_getD_getElem?]
                  rw [Array.getElem?_setIfInBounds_self_of_lt (by rw [hLI.size]; exact hm)]
                  simp
                · rw [getD_set_ne false (fun e => hj2 e.symm), hLI.get j hj]
                  simp; omega
              · intro x ox hox hlx y hy hb
                by_cases hx : x = i + es.length
                · subst hx
                  rw [ho] at hox
                  cases hox
                  exact getD_set_true (h3 y hy hb)
                · rw [getD_set_ne false (fun e => hx e.symm)] at hlx
                  exact getD_set_true (hdc x ox hox hlx y hy hb)
          unfold wpOp
          rw [ho]
          simp only
          split
          · rename_i hw
            rw [if_pos hw] at this
            exact .inl this
          · rename_i hw
            rw [if_neg hw] at this
            exact this
        · rename_i hne
          exact absurd hcut hne
    refine seg_ok hed c1 hst hs.up hnw hel (fun h => ?_) cont (cnt (fun _ => false) es.length) (L := fun _ => false) rfl ?_ ⟨hLI.size, fun j hj => by rw [hLI.get j hj]; simp⟩ hdc ⟨by rw [runL_none es fun _ _ => rfl]; exact hs, fun n hn _ => hf.β n hn, fun n hn _ => hf.ρ n hn⟩
    · have hlt : i + es.length < ops.toList.length := by simpa using h
      exact c7 _ _ (List.drop_eq_getElem_cons hlt)
    · have : ∀ k, cnt (fun _ => false) k = k := by
        intro k
        induction k with
        | zero => rfl
        | succ k ih => simp [cnt, ih]
      rw [this]
      omega
theorem drawRun_ok {R : Type} (hE : EnvOK C.P E) (hC : CxOK C) (hm : C.P.follows .mixedOrders = true) {id : Nat} {k : Fr → Option R} {r : R} {Q : Exit → Act → World → Prop} (hQ : ∀ fr' g' a' w', k fr' = some r → Sim C fr'.f g' a' w' → Fit fr' g' → Q .normal a' w')
    (h : drawRun E ops.toList fr k = some r) (hs : Sim C fr.f g a w) (hf : Fit fr g) : (Code.region id ops true).wp C.P Q a w := by
  unfold drawRun at h
  cases hc : (edgesOK ops.toList 0 && noWait fr (Dr.of ops.toList).ds)
  · simp only [hc] at h; cases h
  · simp only [hc, cond_true] at h
    simp only [Bool.and_eq_true] at hc
    refine wp_region_any hm ?_
    refine drawK_ok hE hC hc.1 hQ ops.size 0 (by simp) (Nat.zero_le _) rfl hc.2 (by simpa using h) (hs.quiet hC (w' := { w with drawn := w.drawn + 1 }) ⟨rfl, rfl, rfl, Nat.le_refl _, fun _ _ _ => rfl⟩) hf ⟨by simp, fun j hj => by simp [Array.getD_eq_getD_getElem?, hj]⟩ (fun j o ho hl => by
      have hj : j < ops.size := (Array.getElem?_eq_some_iff.1 ho).1
      simp [Array.getD_eq_getD_getElem?, hj] at hl) (Nat.le_refl _)
end Go.Proofs.Ytbgdojniimdihaa.X
