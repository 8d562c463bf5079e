/- A stretch of a row's elements is exchanged. -/
import Derived.Test.YtbgdojniimdihaaXSt
namespace Go.Proofs.Ytbgdojniimdihaa.X
open Go Go.RowKit
variable {C : Cx} {fr : Fr} {big : FF} {g : Sg} {a : Act} {w : World} {ch : List (Nat × Bool)} {E : Env}
theorem flatten_append3 {sz : Nat} {css dss : List (List Value)} {lo : Nat} (hc : ∀ c ∈ css, c.length = sz) (hd : ∀ c ∈ dss, c.length = sz) (hle : lo + dss.length ≤ css.length) :
    (css.take lo ++ dss ++ css.drop (lo + dss.length)).flatten = setAt css.flatten (lo * sz) dss.flatten := by
  have tk : ∀ (css : List (List Value)) (n : Nat), (∀ c ∈ css, c.length = sz) → n ≤ css.length → (css.take n).flatten = css.flatten.take (n * sz) ∧ (css.drop n).flatten = css.flatten.drop (n * sz) := by
    intro css
    induction css with
    | nil => intro n _ hn; simp at hn; subst hn; simp
    | cons c r ih =>
      intro n h hn
      cases n with
      | zero => simp
      | succ n =>
        obtain ⟨h1, h2⟩ := ih n (fun d hd => h d (by simp [hd])) (by simpa using hn)
        have hcl := h c (by simp)
        rw [List.take_succ_cons, List.flatten_cons, List.flatten_cons, List.drop_succ_cons, h1, h2, Nat.succ_mul]
        constructor
        · rw [List.take_append, List.take_of_length_le (l := c) (by omega), hcl, Nat.add_sub_cancel]
        · rw [List.drop_append, List.drop_eq_nil_of_le (as := c) (by omega), hcl, Nat.add_sub_cancel, List.nil_append]
  rw [List.flatten_append, List.flatten_append, (tk css lo hc (by omega)).1, (tk css (lo + dss.length) hc hle).2]
  unfold setAt
  rw [flat_len hd, Nat.add_mul]
theorem storeRange (hC : CxOK C) (hs : Sim C fr.f g a w) {i : Nat} {r : RowE} (hr : at? fr.rw i = some r) (hm : r.m.mine = true) {q : RowC} {A : Addr} {n c : Nat} (hq : g.ρ i = some q) (hv : q.v = .slice (some A) n c) {ys : List r.s.T} {dss : List (List Value)} (hl : dss.length = ys.length)
    (hd1 : ∀ d ∈ dss, d.length = r.s.n ∧ ∀ u ∈ d, u.oneCell' = true) (hOy : ∀ (j : Nat) y d, ys[j]? = some y → dss[j]? = some d → ∀ w', OC r.s w' (fun _ => False) y d) {lo : Nat} (hle : lo + ys.length ≤ r.xs.length) (hn0 : 0 < r.xs.length) :
    ∃ w', (storeCells (A.add (lo * r.s.n)) dss.flatten).run C.P w = .ok () w' ∧ Sim C { fr.f with rw := at? (dropBor i (put? fr.rw i (some { r with xs := r.xs.take lo ++ ys ++ r.xs.drop (lo + ys.length) }))) } g a w' := by
  have hO := ((hs.rows i r hr).mine hm hq).1
  obtain ⟨css, how, hlen, hcell, hblk, G, hG, hd, hMm⟩ := hO
  have hxl : r.xs.length = n := by
    obtain ⟨A', c', e', _⟩ := ownsRow_form how
    rw [hv] at e'
    injection e' with _ e' _
    exact e'.symm
  rcases how.2 with ⟨e1, e2⟩ | ⟨gb, cap, cur, e1, hb0, hh, hnc, hcm, hcs, htake⟩
  · omega
  · rw [hv] at e1
    injection e1 with e1 e3 e4
    injection e1 with e1
    subst e1
    subst e4
    have hcsl : css.flatten.length = r.xs.length * r.s.n := by rw [flat_len (fun d hd => (hcell d hd).1), hlen]
    have hdl : dss.flatten.length = ys.length * r.s.n := by rw [flat_len (fun d hd => (hd1 d hd).1), hl]
    have hjn : (lo + ys.length) * r.s.n ≤ r.xs.length * r.s.n := Nat.mul_le_mul_right _ hle
    have hcn : r.xs.length * r.s.n ≤ c * r.s.n := Nat.mul_le_mul_right _ (by omega)
    rw [Nat.add_mul] at hjn
    have hone : ∀ u ∈ dss.flatten, u.oneCell' = true := fun u hu => by
      obtain ⟨d, hd, hu⟩ := List.mem_flatten.1 hu
      exact (hd1 d hd).2 u hu
    have hrun := run_storeCells_at C.P gb (lo * r.s.n) r.e dss.flatten 0 cur w hh (by omega) hone
    have hM := Moves.setRow w gb (setAt cur.toList (lo * r.s.n) dss.flatten).toArray
    have hgbF : q.F gb := hblk gb (by rw [hv]; rfl)
    have hset := flatten_append3 (lo := lo) (fun d hd => (hcell d hd).1) (fun d hd => (hd1 d hd).1) (show lo + dss.length ≤ css.length by omega)
    have hnl : (r.xs.take lo ++ ys ++ r.xs.drop (lo + ys.length)).length = r.xs.length := by simp; omega
    have hcl2 : (css.take lo ++ dss ++ css.drop (lo + dss.length)).length = r.xs.length := by simp; omega
    refine ⟨_, by rw [add_plain]; exact hrun, ?_⟩
    have hcells : ∀ d ∈ css.take lo ++ dss ++ css.drop (lo + dss.length), d.length = r.s.n ∧ ∀ u ∈ d, u.oneCell' = true := by
      intro d hd'
      rcases List.mem_append.1 hd' with hd' | hd'
      · rcases List.mem_append.1 hd' with hd' | hd'
        · exact hcell d (List.mem_of_mem_take hd')
        · exact hd1 d hd'
      · exact hcell d (List.mem_of_mem_drop hd')
    have hnew : OwnL r.e r.s (w.setRow gb (setAt cur.toList (lo * r.s.n) dss.flatten).toArray) q.F q.v (r.xs.take lo ++ ys ++ r.xs.drop (lo + ys.length)) := by
      refine ⟨css.take lo ++ dss ++ css.drop (lo + dss.length), ⟨?_, .inr ⟨gb, c, (setAt cur.toList (lo * r.s.n) dss.flatten).toArray, ?_, Nat.zero_le _, setRow_heap w gb cur _ r.e (0, 0) hh, ?_, hcm, ?_, ?_⟩⟩, by rw [hcl2, hnl], hcells, hblk, G, hG, hd, ?_⟩
      · rw [flat_len (fun d hd => (hcells d hd).1), hcl2, hnl]
      · rw [hv, hnl, hxl]
      · rw [hnl]; omega
      · have : (setAt cur.toList (lo * r.s.n) dss.flatten).length = cur.toList.length := setAt_len (by have e1 : cur.toList.length = cur.size := Array.length_toList; omega)
        simpa [hcs] using this
      · rw [hnl, hset]
        show (setAt cur.toList (lo * r.s.n) dss.flatten).take _ = _
        rw [← htake]
        exact stStoreElem_ok.take_setAt _ _ _ _ (by omega) (by simp; omega)
      · intro j' x' d hx' hd'
        have hkeep : ∀ k, G j' k → (w.setRow gb (setAt cur.toList (lo * r.s.n) dss.flatten).toArray).heap[k]? = w.heap[k]? := fun k hk => by
          refine setRow_other w gb k _ fun e => ?_
          subst e
          exact (hG j' k hk).2 (by rw [hv]; rfl)
        have l1 : (r.xs.take lo).length = lo := by simp; omega
        have l2 : (css.take lo).length = lo := by simp; omega
        by_cases c1 : j' < lo
        · rw [List.append_assoc, List.getElem?_append_left (by omega), List.getElem?_take, if_pos c1] at hx' hd'
          exact OC.same r.s hkeep (hMm j' x' d hx' hd')
        · by_cases c2 : j' < lo + ys.length
          · rw [List.getElem?_append_left (by rw [List.length_append]; omega), List.getElem?_append_right (by omega)] at hx' hd'
            rw [l1] at hx'
            rw [l2] at hd'
            exact OC.mono r.s (fun _ h => h.elim) (hOy _ x' d hx' hd' _)
          · rw [List.getElem?_append_right (by rw [List.length_append]; omega), List.getElem?_drop, List.length_append, l1] at hx'
            rw [List.getElem?_append_right (by rw [List.length_append]; omega), List.getElem?_drop, List.length_append, l2, hl] at hd'
            have e1 : lo + ys.length + (j' - (lo + ys.length)) = j' := by omega
            rw [e1] at hx' hd'
            exact OC.same r.s hkeep (hMm j' x' d hx' hd')
    have hM' : w.setRow gb (List.take (lo * r.s.n + 0) cur.toList ++ dss.flatten ++ List.drop (lo * r.s.n + 0 + dss.flatten.length) cur.toList).toArray = w.setRow gb (setAt cur.toList (lo * r.s.n) dss.flatten).toArray := by
      unfold setAt; rw [Nat.add_zero]
    rw [hM']
    refine hs.setRow hC hr hm hq (r' := { r with xs := r.xs.take lo ++ ys ++ r.xs.drop (lo + ys.length) }) rfl rfl hM (fun k hk => hk ▸ hgbF) hnew (fun j' r0 hj' => ?_) (fun j' r0 hj' hm0 hne => ?_)
    · rw [at?_dropBor, at?_put] at hj'
      obtain ⟨h1, h2⟩ := hj'
      split at h1
      · rename_i hij
        cases h1
        exact .inl ⟨hij.1.symm, rfl⟩
      · rename_i hij
        exact .inr ⟨fun e => hij ⟨e.symm, at?_lt hr⟩, h1, h2⟩
    · rw [at?_dropBor, at?_put, if_neg (fun h => hne h.1.symm)]
      exact ⟨hj', fun p pa e => by rw [e] at hm0; cases hm0⟩
theorem zeroCells_eq (zs : List Value) (n : Nat) (hz : 0 < zs.length) : (Builtin.zeroCells zs.toArray n).toList = (List.replicate n zs).flatten := by
  rw [← flatten_replicate zs n hz]
  apply List.ext_getElem?
  intro k
  by_cases hk : k < n * zs.length
  · have hm : k % zs.length < zs.length := Nat.mod_lt _ hz
    simp [Builtin.zeroCells, madeCells, hk, hm]
  · simp [Builtin.zeroCells, madeCells, hk]
theorem fitsT {t : Nat} {r : RowE} (hE : EnvOK C.P E) (h : fits E t r = true) : C.P.underlying t = some (.slice r.e) ∧ TyOK C.P r.e r.s := by
  unfold fits slT at h
  split at h
  · rename_i e s b hl
    split at hl
    · rename_i e' s' b' hl'
      cases hl
      simp only [Bool.and_eq_true, decide_eq_true_eq] at h
      obtain ⟨h1, h2, _⟩ := (hE.ty _ _ hl').desc
      have e1 := Nat.eq_of_beq_eq_true h.1
      rw [e1] at h1 h2
      rw [h.2] at h2
      exact ⟨h1, h2⟩
    · cases hl
  · cases h
theorem stClear_ok (hE : EnvOK C.P E) (hC : CxOK C) (hs : Sim C big g a w) (hsub : Sub fr big) (hc : Holds a ch) (o : Oper) (c : Call) (ho : o.op = .call c) (hb : c.callee = .builtin .clear) : Good C g a fr big ((execOp a.eval o).run C.P w) (stClear E fr ch c.args.toList c.argTypes.toList) := by
  unfold stClear
  split
  · rename_i x t hx ht
    have ha : c.args = #[x] := by rw [← Array.toArray_toList (xs := c.args), hx]
    have hat : c.argTypes = #[t] := by rw [← Array.toArray_toList (xs := c.argTypes), ht]
    split
    · rename_i v hop
      split
      · rename_i i r lo len hri
        cases hcond : (r.m.mine && r.s.flat && fits E t r)
        · trivial
        · rw [cond_true]
          simp only [Bool.and_eq_true] at hcond
          obtain ⟨⟨hm, hf⟩, hfit⟩ := hcond
          intro _ hfull _
          have hfb := hfull rfl
          subst hfb
          obtain ⟨hu, hT⟩ := fitsT hE hfit
          have hl := op1_rel (hs.sub hsub) hc hop
          obtain ⟨hat', q, A, n, c0, A', n', c', hq, hv, hz, hn, _, hue, hlen, h0, hle, hc', hA0, hA⟩ := rowInfo_ok hs hsub hl hri
          obtain ⟨_, z, _, _, _, cs, hzs, _⟩ := hT.info
          have run : ∀ {w'}, (Builtin.clear_ #[t] o.type #[a.eval x]).run C.P w = .ok (.tuple #[]) w' → (execOp a.eval o).run C.P w = .ok (.value (.tuple #[])) w' := fun h => by
            simp [execOp, ho, resolve, hb, ha, hat, invoke, builtin, h]
          have hlt : (lo + len).toNat - lo.toNat = n' := by omega
          have hcl : clr r.xs lo.toNat (lo + len).toNat r.s.dfl = r.xs.take lo.toNat ++ List.replicate n' r.s.dfl ++ r.xs.drop (lo.toNat + (List.replicate n' r.s.dfl).length) := by
            unfold clr
            rw [hlt, List.length_replicate]
            have : (lo + len).toNat = lo.toNat + n' := by omega
            rw [this]
          rcases Nat.eq_zero_or_pos n' with e0 | hpos
          · subst e0
            have hcl0 : clr r.xs lo.toNat (lo + len).toNat r.s.dfl = r.xs := by rw [hcl]; simp
            refine ⟨_, .tuple #[], w, run ?_, .inl rfl, g, ⟨Sg.Le.refl g, fun _ _ => rfl, fun _ _ => rfl⟩, ?_, fun _ e => by cases e⟩
            · rw [hue]
              cases A' <;> simp [Builtin.clear_, run_underlying hu]
            · simp only [grow, more_nil, effB, effR, hcl0]
              have hrr : at? fr.rw i = some r := hat'
              refine hs.setRow hC (r := r) (r' := { r with xs := r.xs }) hrr hm hq rfl rfl (Moves.refl _ w) (fun k (hk : False) => hk.elim) ((hs.rows i r hrr).mine hm hq).1 (fun j' r0 hj' => ?_) (fun j' r0 hj' hm0 hne => ?_)
              · rw [at?_dropBor, at?_put] at hj'
                obtain ⟨h1, h2⟩ := hj'
                split at h1
                · rename_i hij
                  cases h1
                  exact .inl ⟨hij.1.symm, rfl⟩
                · rename_i hij
                  exact .inr ⟨fun e => hij ⟨e.symm, at?_lt hrr⟩, h1, h2⟩
              · rw [at?_dropBor, at?_put, if_neg (fun h => hne h.1.symm)]
                exact ⟨hj', fun p pa e => by rw [e] at hm0; cases hm0⟩
          · have hA' := hA hpos
            cases A with
            | none =>
              exfalso
              have hO := ((hs.rows i r hat').mine hm hq).1
              obtain ⟨css, how, hlen', _⟩ := hO
              rcases how.2 with ⟨e1, e2⟩ | ⟨gb, cap, cur, e1, _⟩
              · omega
              · rw [hv] at e1; cases e1
            | some A =>
              obtain ⟨w', hst, hsim⟩ := storeRange hC hs hat' hm hq hv (ys := List.replicate n' r.s.dfl) (dss := List.replicate n' cs) (by simp) (fun d hd => by
                rw [List.eq_of_mem_replicate hd]
                exact ⟨zerosV_len r.s hzs, zerosV_one r.s hzs⟩) (fun j y d hy hd w' => by
                rw [List.getElem?_replicate] at hy hd
                split at hy
                · rename_i hj
                  rw [if_pos hj] at hd
                  cases hy
                  cases hd
                  exact dfl_OC r.s hzs w' _
                · cases hy) (lo := lo.toNat) (by rw [List.length_replicate]; omega) (by omega)
              refine ⟨_, .tuple #[], w', run ?_, .inl rfl, g, ⟨Sg.Le.refl g, fun _ _ => rfl, fun _ _ => rfl⟩, ?_, fun _ e => by cases e⟩
              · rw [hue, hA', Option.map_some, hz]
                obtain ⟨m, rfl⟩ : ∃ m, n' = m + 1 := ⟨n' - 1, by omega⟩
                have hzc : (packB r.s.agg cs).cells = cs.toArray := by rw [← Array.toArray_toList (xs := (packB r.s.agg cs).cells), zeros_cells hzs]
                have hzl : 0 < cs.length := by rw [zerosV_len r.s hzs]; exact r.s.n_pos
                have h1 := zeroCells_eq cs (m + 1) hzl
                simp only [Builtin.clear_, Sem.run_bind, run_underlying hu, Result.andThen_ok, hT.zero hzs, hzc, h1, hst, Sem.run_pure, List.getElem?_toArray, List.getElem?_cons_zero]
              · simp only [grow, more_nil, effB, effR, hcl]
                exact hsim
      · trivial
    · trivial
  · trivial
end Go.Proofs.Ytbgdojniimdihaa.X
