/- New rows of the frame's own: made, appended to, written. -/
import Derived.Test.YtbgdojniimdihaaXMk
namespace Go.Proofs.Ytbgdojniimdihaa.X
open Go Go.RowKit
variable {C : Cx} {fr : Fr} {big : FF} {g : Sg} {a : Act} {w w' : World} {ch : List (Nat × Bool)} {E : Env}
theorem Took.any {m : Option Nat} {rw rw' : Nat → Option RowE} (h : Took none rw rw') : Took m rw rw' := by
  refine ⟨fun j r' hj => ?_, fun j r p pa hj e => ?_⟩
  · rcases h.row j r' hj with h1 | ⟨q0, r, h1, _⟩
    · exact .inl h1
    · cases h1
  · rcases h.par j r p pa hj e with h1 | h1
    · exact .inl h1
    · cases h1
theorem Own.zone {fr : FF} (h : Sim C fr g a w) {k : Nat} (hk : Own fr.rw g k) : (C.w0.heap.size ≤ k ∨ C.S k) ∧ k < w.heap.size := by
  obtain ⟨i, r, q, h1, h2, h3, h4⟩ := hk
  exact ⟨((h.rows i r h1).mine h2 h3).2 k h4, h.row_lt h1 h3 k h4⟩
theorem Own.notR (hC : CxOK C) {fr : FF} (h : Sim C fr g a w) {k : Nat} (hk : Own fr.rw g k) : ¬ C.R k := fun hr => by
  obtain ⟨h1, h2⟩ := hC.R_lt k hr
  exact (Own.zone h hk).1.elim (fun h => absurd h1 (Nat.not_lt.2 h)) h2
theorem Own.notBox {fr : FF} (h : Sim C fr g a w) {k : Nat} (hk : Own fr.rw g k) {j : Nat} {b : BoxE} (hb : fr.bx j = some b) (ho : b.own = true) : g.β j ≠ some k := fun e => by
  obtain ⟨i, r, q, h1, h2, h3, h4⟩ := hk
  exact h.rbox i r q j b k h1 h2 h3 hb ho e h4
/-- a new row takes over what others held -/
theorem Sim.handOver (hC : CxOK C) (h : Sim C big g a w) {n : Nat} (hn : g.ρ n = none) {rw' : Nat → Option RowE} (hT : Took (some n) big.rw rw') {r : RowE} {q : RowC} (hown : r.m = .own) {D : FP} (hm : Moves D w w')
    (hD : ∀ k, D k → Own big.rw g k ∧ ¬ Own rw' g k) (hO : OwnL r.e r.s w' q.F q.v r.xs) (hqv : ∃ A m c, q.v = .slice A m c) (hsz : q.sz = r.s.n)
    (hF : ∀ k, q.F k → (w.heap.size ≤ k ∨ (Own big.rw g k ∧ ¬ Own rw' g k)) ∧ k < w'.heap.size)
    (hkeep : ∀ j r0 pa, rw' j = some r0 → r0.m = .bor n pa → ∀ qj, g.ρ j = some qj → ∀ k, qj.F k → q.F k ∧ ¬ D k) :
    Sim C { big with rw := fun j => if j = n then some r else rw' j } (g.row n q) a w' := by
  have hg := Sg.le_row hn q
  have nobig : ∀ r0, big.rw n ≠ some r0 := fun r0 hr => by
    obtain ⟨q', _, _, _, hq', _⟩ := h.rows n r0 hr
    rw [hn] at hq'
    cases hq'
  have hDz : ∀ k, D k → C.w0.heap.size ≤ k ∨ C.S k := fun k hk => (Own.zone h (hD k hk).1).1
  have old : ∀ j r', rw' j = some r' → j ≠ n := fun j r' hj e => by
    subst e
    rcases hT.row j r' hj with h1 | ⟨_, r0, _, h1, _⟩
    · exact nobig _ h1
    · exact nobig _ h1
  refine { h with slots := h.mono_slots hg, kept := hm.kept h.kept hDz, boxes := ?_, rows := ?_, rdisj := ?_, rbox := ?_ }
  · intro i b hb
    refine ((h.boxes i b hb).moves hm fun k hk hd => ?_).mono hg
    cases ho : b.own with
    | true => exact Own.notBox h (hD k hd).1 hb ho hk
    | false =>
      obtain ⟨k', cs, t, hk', _, _, _, hr⟩ := h.boxes i b hb
      rw [hk] at hk'
      cases hk'
      exact Own.notR hC h (hD k hd).1 (hr ho)
  · intro j r' hj
    change (if j = n then some r else rw' j) = some r' at hj
    split at hj
    · rename_i e
      subst e
      cases hj
      obtain ⟨A, m, c, hv⟩ := hqv
      refine ⟨q, A, m, c, Sg.row_at _ _ _, hv, hsz, fun k hk => (hF k hk).2, ?_⟩
      rw [Zone, hown]
      refine ⟨hO, fun k hk => ?_⟩
      rcases (hF k hk).1 with h1 | h1
      · exact .inl (Nat.le_trans h.kept.size h1)
      · exact (Own.zone h h1.1).1
    · rename_i hjn
      rcases hT.row j r' hj with h1 | ⟨q0, r0, e0, h1, hm0, e1, _⟩
      · -- a row that stays
        obtain ⟨qj, A, m, c, hq, hv, hz, hl, hZ⟩ := h.rows j r' h1
        have nD : ∀ k, qj.F k → ¬ D k := by
          intro k hk hd
          cases hmm : r'.m with
          | own => exact (hD k hd).2 ⟨j, r', qj, hj, by rw [hmm]; rfl, hq, hk⟩
          | io => exact (hD k hd).2 ⟨j, r', qj, hj, by rw [hmm]; rfl, hq, hk⟩
          | ro => rw [Zone, hmm] at hZ; exact Own.notR hC h (hD k hd).1 (hZ.2 k hk)
          | bor p pa =>
            rw [Zone, hmm] at hZ
            obtain ⟨_, rp, qp, hrp, hmp, hqp, hFp, _⟩ := hZ
            rcases hT.par j r' p pa hj hmm with ⟨_, h2⟩ | h2
            · exact (hD k hd).2 ⟨p, rp, qp, h2 rp hrp hmp, hmp, hqp, hFp k hk⟩
            · cases h2
              exact nobig _ hrp
        refine RowOK.mono hg (fun _ _ h => h) ((h.rows j r' h1).moves (rw' := fun j => if j = n then some r else rw' j) hm (fun q' hq' k hk => nD k (by rw [hq] at hq'; cases hq'; exact hk)) (fun p pa e rp hrp hmp => ?_) (fun p pa rp qp e hrp hmp hqp A n c hv hn => ?_))
        · rcases hT.par j r' p pa hj e with ⟨_, h2⟩ | h2
          · have hp := h2 rp hrp hmp
            refine ⟨⟨rp, ?_, hmp, rfl⟩, fun qp hqp k hk hd => (hD k hd).2 ⟨p, rp, qp, hp, hmp, hqp, hk⟩⟩
            simp only [if_neg (old p rp hp)]
            exact hp
          · cases h2
            exact absurd hrp (nobig _)
        · exact ((h.rows p rp hrp).mine hmp hqp).1.block hv
      · -- a row that lies in the new one
        cases e0
        subst e1
        obtain ⟨qj, A, m, c, hq, hv, hz, hl, hZ⟩ := h.rows j r0 h1
        have hk := hkeep j _ none hj rfl qj hq
        refine ⟨qj, A, m, c, hg.ρ _ _ hq, hv, hz, fun k hk' => Nat.lt_of_lt_of_le (hl k hk') hm.size, ?_⟩
        refine ⟨ReadL.same (hm.same fun k hk' => ⟨hl k hk', (hk k hk').2⟩) (hZ.mine hm0).1.read, r, q, by simp, by rw [hown]; rfl, Sg.row_at _ _ _, fun k hk' => (hk k hk').1, fun _ _ e => by cases e⟩
  · intro i j r1 r2 q1 q2 k h1 h2 m1 m2 hq1 hq2 hk1 hk2
    change (if i = n then some r else rw' i) = some r1 at h1
    change (if j = n then some r else rw' j) = some r2 at h2
    have cross : ∀ j r2 q2, rw' j = some r2 → r2.m.mine = true → (g.row n q).ρ j = some q2 → q2.F k → q.F k → False := by
      intro j r2 q2 h2 m2 hq2 hk2 hk
      rw [Sg.row_ne _ _ (old j r2 h2)] at hq2
      rcases (hF k hk).1 with h3 | h3
      · exact absurd (h.row_lt (hT.mine h2 m2) hq2 k hk2) (Nat.not_lt.2 h3)
      · exact h3.2 ⟨j, r2, q2, h2, m2, hq2, hk2⟩
    split at h1
    · rename_i e1
      subst e1
      cases h1
      rw [Sg.row_at] at hq1
      cases hq1
      split at h2
      · rename_i e2; exact e2.symm
      · exact (cross j r2 q2 h2 m2 hq2 hk2 hk1).elim
    · rename_i e1
      split at h2
      · rename_i e2
        subst e2
        cases h2
        rw [Sg.row_at] at hq2
        cases hq2
        exact (cross i r1 q1 h1 m1 hq1 hk1 hk2).elim
      · rename_i e2
        rw [Sg.row_ne _ _ e1] at hq1
        rw [Sg.row_ne _ _ e2] at hq2
        exact h.rdisj i j r1 r2 q1 q2 k (hT.mine h1 m1) (hT.mine h2 m2) m1 m2 hq1 hq2 hk1 hk2
  · intro i r1 q1 j b k h1 m1 hq1 hb ho hk hF'
    change (if i = n then some r else rw' i) = some r1 at h1
    split at h1
    · rename_i e1
      subst e1
      cases h1
      rw [Sg.row_at] at hq1
      cases hq1
      rcases (hF k hF').1 with h3 | h3
      · exact absurd (h.box_lt hb hk) (Nat.not_lt.2 h3)
      · exact Own.notBox h h3.1 hb ho hk
    · rename_i e1
      rw [Sg.row_ne _ _ e1] at hq1
      exact h.rbox i r1 q1 j b k (hT.mine h1 m1) m1 hq1 hb ho hk hF'
/-- flat elements' cells, in a row -/
theorem flat_cells {P : Program} {s : Sh} (hf : s.flat = true) {w : World} {F : FP} {xs : List s.T} {ad : Addr} : (h : ∀ j x, xs[j]? = some x → ∃ cs, RC P s w F x cs ∧ cs.length = s.n ∧ ∀ i u, cs[i]? = some u → w.cell? (ad.add (j * s.n + i)) = some u) →
    ∃ css : List (List Value), css.length = xs.length ∧ (∀ c ∈ css, c.length = s.n ∧ ∀ u ∈ c, u.oneCell' = true) ∧ (∀ (j : Nat) x c, xs[j]? = some x → css[j]? = some c → ∀ w', OC s w' (fun _ => False) x c) ∧
      ∀ j u, css.flatten[j]? = some u → w.cell? (ad.add j) = some u := by
  induction xs generalizing ad with
  | nil => intro _; exact ⟨[], rfl, by simp, by simp, by simp⟩
  | cons x xs ih =>
    intro h
    obtain ⟨c, hr, hl, hc⟩ := h 0 x rfl
    obtain ⟨css, h1, h2, h3, h4⟩ := ih (ad := ad.add s.n) fun j y hy => by
      obtain ⟨cs, hr, hl, hc⟩ := h (j + 1) y (by simpa using hy)
      refine ⟨cs, hr, hl, fun i u hu => ?_⟩
      rw [Addr.add_add, ← hc i u hu]
      congr 2
      rw [Nat.add_mul]; omega
    refine ⟨c :: css, by simp [h1], ?_, ?_, ?_⟩
    · intro d hd
      rcases List.mem_cons.1 hd with rfl | hd
      · exact ⟨hl, RC.one s hr⟩
      · exact h2 d hd
    · intro j y d hy hd w'
      cases j with
      | zero => simp at hy hd; subst hy; subst hd; exact RC.flatOC s hf hr
      | succ j => exact h3 j y d (by simpa using hy) (by simpa using hd) w'
    · intro j u hu
      rw [List.flatten_cons] at hu
      by_cases hj : j < c.length
      · rw [List.getElem?_append_left hj] at hu
        have := hc j u hu
        simpa using this
      · rw [List.getElem?_append_right (by omega)] at hu
        have := h4 _ u hu
        rw [Addr.add_add] at this
        rw [← this]
        congr 2
        omega
theorem lim_ok {b n : Nat} (h : n ≤ lim b) : n ≤ maxLen ∧ n * b ≤ 140737488355328 := by
  unfold lim at h
  refine ⟨?_, ?_⟩
  · have : 140737488355328 / b ≤ 140737488355328 := Nat.div_le_self _ _
    simp only [maxLen]; omega
  · exact Nat.le_trans (Nat.mul_le_mul_right b h) (Nat.div_mul_le_self _ _)
theorem run_append_none (w : World) (e0 : Nat) (t ty e : TypeId) (i : TypeInfo) (size : Nat) (ht : C.P.underlying t = some (.slice e)) (hi : C.P.info? e = some i)
    (v : Value) (n : Nat) (xs : List Value) (c : Nat) (hown : w.ownsRow 0 e0 size v n xs) : (Builtin.append_ #[t, t] ty #[v, .slice none 0 c]).run C.P w = .ok v w := by
  rcases hown.2 with ⟨rfl, rfl⟩ | ⟨g, cap, cur, rfl, _, _, hnc, _⟩
  · simp [Builtin.append_, run_underlying ht, sizeOf, typeInfo, hi, Builtin.lenOf, Builtin.firstCells]
  · simp [Builtin.append_, run_underlying ht, sizeOf, typeInfo, hi, Builtin.lenOf, Builtin.firstCells, hnc, storeCells]
/-- an own row with more elements behind -/
theorem run_append_rows {t ty e : TypeId} {s : Sh} {b : Nat} (ht : C.P.underlying t = some (.slice e)) (hT : TyOK C.P e s) (hb : ∀ i, C.P.info? e = some i → i.bytes = b) {F : FP} {v : Value} {xs ys : List s.T} (hO : OwnL e s w F v xs)
    {A : Option Addr} {c : Nat} {css : List (List Value)} (hl : css.length = ys.length) (hc1 : ∀ d ∈ css, d.length = s.n ∧ ∀ u ∈ d, u.oneCell' = true) (hA : 0 < ys.length → ∃ ad, A = some ad ∧ ∀ j u, css.flatten[j]? = some u → w.cell? (ad.add j) = some u)
    (hlim : xs.length + ys.length ≤ lim b) (FF : FP) (G2 : Nat → FP) (hG2 : ∀ j k, G2 j k → FF k ∧ k < w.heap.size ∧ ¬ F k) (hd2 : ∀ i j k, i ≠ j → G2 i k → ¬ G2 j k) (hM2 : ∀ (j : Nat) y d, ys[j]? = some y → css[j]? = some d → OC s w (G2 j) y d) (hFlt : ∀ k, F k → k < w.heap.size) :
    ∃ v' w', (Builtin.append_ #[t, t] ty #[v, .slice A ys.length c]).run C.P w = .ok v' w' ∧ Moves (fun k => some k = v.ownBlock) w w' ∧ (∃ A m c, v' = .slice A m c) ∧
      OwnL e s w' (fun k => F k ∨ FF k ∨ (w.heap.size ≤ k ∧ k < w'.heap.size)) v' (xs ++ ys) := by
  obtain ⟨cs0, ho, hl0, hc0, hb0, G, hG, hd, hM⟩ := hO
  obtain ⟨i, z, hi, hsz, hz, zs, hzs, hzz⟩ := hT.info
  have hflat : css.flatten.length = ys.length * s.n := by rw [← hl]; exact flat_len (fun d hd => (hc1 d hd).1)
  have hzc : z.cells.size = s.n := by rw [hzz, ← Array.length_toList, zeros_cells hzs, zerosV_len s hzs]
  obtain ⟨l1, l2⟩ := lim_ok hlim
  -- the elements' relation behind the move
  have fin : ∀ v' w', w'.ownsRow 0 e s.n v' (xs.length + ys.length) (cs0.flatten ++ css.flatten) → Moves (fun k => some k = v.ownBlock) w w' → (v'.ownBlock = v.ownBlock ∨ v'.ownBlock = some w.heap.size) → (∃ A m c, v' = .slice A m c) ∧
      OwnL e s w' (fun k => F k ∨ FF k ∨ (w.heap.size ≤ k ∧ k < w'.heap.size)) v' (xs ++ ys) := by
    intro v' w' ho' hm hbk
    refine ⟨?_, cs0 ++ css, ?_, by simp [hl0, hl], ?_, ?_, fun j => if j < xs.length then G j else G2 (j - xs.length), ?_, ?_, ?_⟩
    · obtain ⟨A, c, e, _⟩ := ownsRow_form ho'
      exact ⟨A, _, c, e⟩
    · rw [List.length_append, List.flatten_append]; exact ho'
    · intro d hd
      rcases List.mem_append.1 hd with hd | hd
      · exact hc0 d hd
      · exact hc1 d hd
    · intro k hk
      have hlt := (ho'.lt k hk).2
      rcases hbk with h | h
      · exact .inl (hb0 k (h ▸ hk))
      · rw [h] at hk
        cases hk
        exact .inr (.inr ⟨Nat.le_refl _, hlt⟩)
    · intro j k hk
      have nb : ∀ k, k < w.heap.size → v.ownBlock ≠ some k → v'.ownBlock ≠ some k := fun k h1 h2 e => by
        rcases hbk with h | h
        · exact h2 (h ▸ e)
        · rw [h] at e; cases e; exact Nat.lt_irrefl _ h1
      split at hk
      · obtain ⟨h1, h2⟩ := hG j k hk
        exact ⟨.inl h1, nb k (hFlt k h1) h2⟩
      · obtain ⟨h1, h2, h3⟩ := hG2 _ k hk
        exact ⟨.inr (.inl h1), nb k h2 fun e => h3 (hb0 k e)⟩
    · intro i j k hij hi hj
      split at hi <;> split at hj
      · exact hd i j k hij hi hj
      · exact (hG2 _ k hj).2.2 (hG i k hi).1
      · exact (hG2 _ k hi).2.2 (hG j k hj).1
      · exact hd2 _ _ k (by omega) hi hj
    · intro j x d hx hdj
      by_cases hj : j < xs.length
      · rw [List.getElem?_append_left hj] at hx
        rw [List.getElem?_append_left (by omega)] at hdj
        simp only [if_pos hj]
        refine OC.same s (fun k hk => hm.block k (hFlt k (hG j k hk).1) fun e => (hG j k hk).2 e.symm) (hM j x d hx hdj)
      · rw [List.getElem?_append_right (by omega)] at hx
        rw [List.getElem?_append_right (by omega)] at hdj
        simp only [if_neg hj]
        refine OC.same s (fun k hk => hm.block k (hG2 _ k hk).2.1 fun e => (hG2 _ k hk).2.2 (hb0 k e.symm)) (hM2 _ x d hx (by rw [hl0] at hdj; exact hdj))
  cases hy : A with
  | none =>
    have hy0 : ys.length = 0 := by
      rcases Nat.eq_zero_or_pos ys.length with h | h
      · exact h
      · obtain ⟨ad, e, _⟩ := hA h
        rw [hy] at e
        cases e
    have hcs : css = [] := List.eq_nil_of_length_eq_zero (hl.trans hy0)
    subst hcs
    have hr := run_append_none (C := C) w e t ty e i s.n ht hi v xs.length cs0.flatten c ho
    rw [hy0]
    have := fin v w (by simpa [hy0] using ho) (Moves.refl _ _) (.inl rfl)
    exact ⟨v, w, hr, Moves.refl _ _, this⟩
  | some ad =>
    have hnews : ∀ j u, css.flatten[j]? = some u → w.cell? (ad.add j) = some u := by
      intro j u hu
      rcases Nat.eq_zero_or_pos ys.length with h | h
      · have hcs : css = [] := List.eq_nil_of_length_eq_zero (hl.trans h)
        subst hcs
        simp at hu
      · obtain ⟨ad', e, h'⟩ := hA h
        rw [hy] at e
        cases e
        exact h' j u hu
    have h1 : ∀ u ∈ css.flatten, u.oneCell' = true := fun u hu => by
      obtain ⟨d, hd, hu⟩ := List.mem_flatten.1 hu
      exact (hc1 d hd).2 u hu
    obtain ⟨v', w', hr, ho', hgb, _, hbk⟩ := run_append_own_at (P := C.P) w 0 t ty e i z s.n b ht hi hz hsz (hb i hi) hzc (Sh.n_pos s) v xs.length cs0.flatten ho ad ys.length c css.flatten hflat hnews h1 l1 l2 (Nat.zero_le _)
    exact ⟨v', w', hr, Moves.grown hgb, fin v' w' ho' (Moves.grown hgb) hbk⟩
  where
  flat_len {sz : Nat} : ∀ {css : List (List Value)}, (∀ d ∈ css, d.length = sz) → css.flatten.length = css.length * sz
    | [], _ => by simp
    | d :: r, h => by
      rw [List.flatten_cons, List.length_append, h d (by simp), flat_len fun d hd => h d (by simp [hd]), List.length_cons, Nat.succ_mul]
      omega
end Go.Proofs.Ytbgdojniimdihaa.X
