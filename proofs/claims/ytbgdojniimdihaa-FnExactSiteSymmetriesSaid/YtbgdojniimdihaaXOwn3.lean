/- Slice literals, append, stores. -/
import Derived.Test.YtbgdojniimdihaaXOwn2
namespace Go.Proofs.Ytbgdojniimdihaa.X
open Go Go.RowKit
variable {C : Cx} {fr : Fr} {big : FF} {g : Sg} {a : Act} {w w' : World} {ch : List (Nat × Bool)} {E : Env}
theorem run_buildSlice' {P : Program} (w : World) (t e : TypeId) (len : Nat) (parts : List (Nat × Value)) (cells : Array Value) {s : Sh} {zs : List Value} (hu : P.underlying t = some (.slice e)) (hT : TyOK P e s) (hz : zerosV s = some zs) (hle : len * s.n ≤ 16777216)
    (h : Instr.fill (fun i => some (i * s.n, s.n)) ((List.replicate len zs).flatten).toArray parts = some cells) :
    (Instr.buildSlice t len parts.toArray).run P w = .ok (.slice (some ⟨w.heap.size, 0, none⟩) len len) (w.alloc (.cells cells e)) := by
  have hzl := zerosV_len s hz
  have hzc : (packB s.agg zs).cells = zs.toArray := by rw [← Array.toArray_toList (xs := (packB s.agg zs).cells), zeros_cells hz]
  have hp := s.n_pos
  have e1 : (madeCells zs.toArray (len * s.n)) = ((List.replicate len zs).flatten).toArray := by
    rw [← flatten_replicate zs len (by omega), Array.toArray_toList, hzl]
  by_cases h0 : len * s.n = 0
  · have hl : len = 0 := by
      rcases Nat.mul_eq_zero.1 h0 with h | h
      · exact h
      · omega
    subst hl
    have h' : Instr.fill (fun i => some (i * s.n, s.n)) #[] parts = some cells := by simpa using h
    simp [Instr.buildSlice, run_underlying hu, hT.sizeOf, Array.range_zero', h', newRow]
  · have hng : ¬ len * s.n > 2 ^ 24 := by omega
    have h' : Instr.fill (fun i => some (i * s.n, s.n)) ((Array.range (len * s.n)).map (zs.toArray[· % zs.toArray.size]!)) parts = some cells := by
      have : ((Array.range (len * s.n)).map (zs.toArray[· % zs.toArray.size]!)) = madeCells zs.toArray (len * s.n) := rfl
      rw [this, e1]
      exact h
    simp only [Instr.buildSlice, Sem.run_bind, run_underlying hu, Result.andThen_ok, hT.sizeOf]
    rw [if_neg hng]
    simp only [Sem.run_bind, Sem.run_pure, Result.andThen_ok, h0, if_false, hT.zero hz, hzc, h', newRow]
    rfl
theorem stBuildSlice_ok (hE : EnvOK C.P E) (hC : CxOK C) (hs : Sim C big g a w) (hsub : Sub fr big) (hc : Holds a ch) (o : Oper) (t : TypeId) (n : Nat) (parts : Array (Nat × Operand)) (ho : o.op = .buildSlice t n parts) : Good C g a fr big ((execOp a.eval o).run C.P w) (stBuildSlice E fr ch t n parts.toList) := by
  unfold stBuildSlice
  split
  · rename_i e s b hsl
    split
    · rename_i xs rw' hbs
      cases hle : Nat.ble (n * s.n) 16777216
      · trivial
      · rw [cond_true]
        intro _ hfull hfree
        have hle' := ble_le hle
        obtain ⟨hund, hT, _⟩ := slT_ok hE hsl
        obtain ⟨i, z, hi, hsz, hz, zs, hzs, hzz⟩ := hT.info
        have hzl := zerosV_len s hzs
        have hn : g.ρ fr.rw.length = none := hfree.ρ _ (Nat.le_refl _) (by simp)
        have hlit0 : Lit s w g (at? fr.rw) (at? fr.rw) (List.replicate n s.dfl) (List.replicate n zs) := by
          refine ⟨by simp, fun d hd => ?_, fun _ _ => False, fun _ _ h => h.elim, fun _ _ _ _ h => h.elim, fun j x' d hx' hd' => ?_⟩
          · rw [List.eq_of_mem_replicate hd]
            exact ⟨hzl, zerosV_one s hzs⟩
          · rw [List.getElem?_replicate] at hx' hd'
            split at hx'
            · rename_i hj
              rw [if_pos hj] at hd'
              cases hx'
              cases hd'
              exact dfl_OC s hzs _ _
            · cases hx'
        obtain ⟨hlen, hTk, css, hf, hL⟩ := buildS_ok (g := g) (hs.sub hsub) hc hbs (Took.refl _ _) hlit0
        have hxl : xs.length = n := by
          have := hL.len
          have h2 := buildS_len hbs
          simpa using h2
        have hrun : (execOp a.eval o).run C.P w = .ok (.value (.slice (some ⟨w.heap.size, 0, none⟩) n n)) (w.alloc (.cells css.flatten.toArray e)) := by
          have := run_buildSlice' (P := C.P) w t e n (parts.toList.map fun p => (p.1, a.eval p.2)) _ hund hT hzs hle' hf
          have e2 : (parts.map fun (i, x) => (i, a.eval x)) = (parts.toList.map fun p => (p.1, a.eval p.2)).toArray := by
            rw [← Array.toList_map, Array.toArray_toList]
          simp only [execOp, ho, Sem.run_bind]
          rw [e2, this]
          rfl
        have hfl : css.flatten.length = n * s.n := by rw [flat_len (fun d hd => (hL.cell d hd).1), hL.len, hxl]
        have hmax : n ≤ maxLen := by
          have := Nat.le_mul_of_pos_right n s.n_pos
          simp only [maxLen]; omega
        have hown := World.ownsRow_lit (base := 0) (e := e) (size := s.n) w css.flatten.toArray n (Nat.zero_le _) hmax (by simpa using hfl)
        have hM := Moves.alloc w (.cells css.flatten.toArray e) (fun _ => False)
        have hwl : w.heap.size < (w.alloc (.cells css.flatten.toArray e)).heap.size := by simp
        cases hsf : s.flat with
        | true =>
          have hrw := buildS_flat hsf hbs
          subst hrw
          let q : RowC := ⟨.slice (some ⟨w.heap.size, 0, none⟩) n n, fun k => k = w.heap.size, s.n⟩
          have hO : OwnL e s (w.alloc (.cells css.flatten.toArray e)) q.F q.v xs := by
            obtain ⟨G, _, _, hG⟩ := hL.G
            refine ⟨css, by rw [hxl]; simpa using hown, hL.len, hL.cell, ?_, fun _ _ => False, by simp, by simp, fun j x' d hx' hd' => ?_⟩
            · intro k hk; simp [q, Value.ownBlock] at hk; exact hk.symm
            · exact RC.flatOC s hsf (OC.read (P := C.P) s (hG j x' d hx' hd'))
          refine ⟨_, _, _, hrun, .inl rfl, g.row fr.rw.length q, fresh_row fr hn rfl, ?_, fun av hav => ?_⟩
          · rw [cond_true, grow_row]
            exact hs.freshRow hC hn (q := q) rfl hM hO ⟨_, _, _, rfl⟩ rfl fun k hk => by cases hk; exact ⟨Nat.le_refl _, hwl⟩
          · cases hav
            exact VR.of1 ⟨q, _, _, _, Sg.row_at _ _ _, rfl, rfl⟩
        | false =>
          rw [hsf, cond_false] at hfull
          have hfb := hfull rfl
          subst hfb
          let q : RowC := ⟨.slice (some ⟨w.heap.size, 0, none⟩) n n, fun k => k = w.heap.size ∨ (Own (at? fr.rw) g k ∧ ¬ Own (at? rw') g k), s.n⟩
          have hO : OwnL e s (w.alloc (.cells css.flatten.toArray e)) q.F q.v xs := by
            obtain ⟨G, hG1, hG2, hG⟩ := hL.G
            refine ⟨css, by rw [hxl]; simpa using hown, hL.len, hL.cell, ?_, G, fun j k hk => ⟨.inr (hG1 j k hk), ?_⟩, hG2, fun j x' d hx' hd' => ?_⟩
            · intro k hk; simp [q, Value.ownBlock] at hk; exact .inl hk.symm
            · have := (Own.zone hs (hG1 j k hk).1).2
              simp [q, Value.ownBlock]
              omega
            · exact OC.same s (fun k hk => hM.block k (Own.zone hs (hG1 j k hk).1).2 (fun h => h)) (hG j x' d hx' hd')
          refine ⟨_, _, _, hrun, .inl rfl, g.row fr.rw.length q, fresh_row fr hn rfl, ?_, fun av hav => ?_⟩
          · rw [cond_false, grow_tab]
            refine hs.handOver hC hn hTk (q := q) rfl hM (fun _ h => h.elim) hO ⟨_, _, _, rfl⟩ rfl (fun k hk => ?_) (fun j r0 pa hj e0 qj hqj k hk => ⟨.inr ?_, fun h => h⟩)
            · rcases hk with rfl | hk
              · exact ⟨.inl (Nat.le_refl _), hwl⟩
              · exact ⟨.inr hk, Nat.lt_of_lt_of_le (Own.zone hs hk.1).2 hM.size⟩
            · rcases hTk.row j r0 hj with h1 | ⟨q0, r1, h1, h2, h3, h4, _⟩
              · obtain ⟨_, _, _, _, _, _, _, _, hZ⟩ := hs.rows j r0 h1
                rw [Zone, e0] at hZ
                obtain ⟨_, _, _, _, _, h3, _⟩ := hZ
                rw [hn] at h3
                cases h3
              · exact Own.gone hs.tab hTk h2 h3 hqj (fun r' hr' => by rw [hj] at hr'; cases hr'; rw [h4]; rfl) hk
          · cases hav
            exact VR.of1 ⟨q, _, _, _, Sg.row_at _ _ _, rfl, rfl⟩
    · trivial
  · trivial
  where
  buildS_len {q : Nat} {s : Sh} : ∀ {parts : List (Nat × Operand)} {xs xs' : List s.T} {rw rw' : List (Option RowE)}, buildS fr ch q s parts xs rw = some (xs', rw') → xs'.length = xs.length
    | [], _, _, _, _, h => by cases h; rfl
    | (i, x) :: r, xs, xs', rw, rw', h => by
      simp only [buildS] at h
      split at h
      · split at h
        · cases hb : (Nat.blt i xs.length && (s.agg == _))
          · rw [hb] at h; cases h
          · rw [hb, cond_true] at h
            rw [buildS_len h]; simp
        · cases h
      · cases h

/-! ### append -/
/-- what a slice's leaf reads: its elements' cells, where they are flat -/
theorem flat_read (hs : Sim C big g a w) (hsub : Sub fr big) {l : Lf} {u : Value} {j : Nat} {p : RowE} {lo len : Int} (hl : LfR C g l u) (hi : rowInfo fr l = some (j, p, lo, len)) (hf : p.s.flat = true) :
    ∃ A c, u = .slice A ((p.xs.take (lo + len).toNat).drop lo.toNat).length c ∧ ∃ css : List (List Value), css.length = ((p.xs.take (lo + len).toNat).drop lo.toNat).length ∧ (∀ d ∈ css, d.length = p.s.n ∧ ∀ v ∈ d, v.oneCell' = true) ∧
      (0 < ((p.xs.take (lo + len).toNat).drop lo.toNat).length → ∃ ad, A = some ad ∧ ∀ j v, css.flatten[j]? = some v → w.cell? (ad.add j) = some v) ∧
      ∀ (j : Nat) y d, ((p.xs.take (lo + len).toNat).drop lo.toNat)[j]? = some y → css[j]? = some d → ∀ w', OC p.s w' (fun _ => False) y d := by
  obtain ⟨hat, q, A, n, c, A', n', c', hq, hv, hz, hn, hrd, hu, hlen, h0, hle, hc', hA0, hA⟩ := rowInfo_ok hs hsub hl hi
  subst hlen
  have hyl : ((p.xs.take (lo + (n' : Int)).toNat).drop lo.toNat).length = n' := by
    simp; omega
  rw [hyl]
  refine ⟨A', c', hu, ?_⟩
  rcases Nat.eq_zero_or_pos n' with h | hpos
  · subst h
    have hnil : (p.xs.take (lo + ((0 : Nat) : Int)).toNat).drop lo.toNat = [] := List.eq_nil_of_length_eq_zero hyl
    rw [hnil]
    exact ⟨[], rfl, by simp, fun h => absurd h (Nat.lt_irrefl _), by simp⟩
  · obtain ⟨A1, n1, c1, e, hn1, hx⟩ := id hrd
    injection e with e
    rw [hv] at e
    cases e
    obtain ⟨ad, rfl, _, hcell⟩ := hx.2 (by omega)
    have hAe := hA hpos
    simp only [Option.map_some] at hAe
    obtain ⟨css, h1, h2, h3, h4⟩ := flat_cells (P := C.P) hf (w := w) (F := q.F) (xs := (p.xs.take (lo + (n' : Int)).toNat).drop lo.toNat) (ad := ad.add (lo.toNat * p.s.n)) (fun j y hy => by
      rw [List.getElem?_drop, List.getElem?_take] at hy
      split at hy
      · obtain ⟨cs, r1, r2, r3⟩ := hcell _ y hy
        refine ⟨cs, r1, r2, fun i v hv => ?_⟩
        rw [Addr.add_add, ← r3 i v hv]
        congr 2
        rw [Nat.add_mul]; omega
      · cases hy)
    refine ⟨css, by rw [h1, hyl], h2, fun _ => ⟨_, hAe, ?_⟩, h3⟩
    rw [hz]
    exact h4
theorem castL_eq {s t : Sh} (h : s = t) (xs : List s.T) : ∃ ys : List t.T, castL h xs = ys ∧ HEq ys xs := by subst h; exact ⟨xs, rfl, HEq.rfl⟩
/-- onto row i, elements are appended; other rows that are gone are D2 -/
theorem append_fin (hC : CxOK C) (hs : Sim C fr.f g a w) {rw' : List (Option RowE)} {i e : Nat} {s : Sh} {xs ys : List s.T} {m : Md} (hi : at? fr.rw i = some ⟨e, s, xs, m⟩) (hm : m.mine = true) (hn : g.ρ fr.rw.length = none) (hT : Took none (at? fr.rw) (at? rw')) (hig : at? rw' i = none)
    {q : RowC} (hq : g.ρ i = some q) {v' : Value} {w' : World} (hmv : Moves (fun k => some k = q.v.ownBlock) w w') (hsl : ∃ A m c, v' = .slice A m c) {FF : FP} (hFF : ∀ k, FF k → Own (at? fr.rw) g k ∧ ¬ Own (at? rw') g k)
    (hO : OwnL e s w' (fun k => q.F k ∨ FF k ∨ (w.heap.size ≤ k ∧ k < w'.heap.size)) v' (xs ++ ys)) :
    Sim C { fr.f with rw := fun j => if j = fr.rw.length then some ⟨e, s, xs ++ ys, .own⟩ else at? rw' j } (g.row fr.rw.length ⟨v', fun k => q.F k ∨ FF k ∨ (w.heap.size ≤ k ∧ k < w'.heap.size), s.n⟩) a w' := by
  have hiO : ∀ k, q.F k → Own (at? fr.rw) g k ∧ ¬ Own (at? rw') g k := fun k hk => Own.gone hs.tab hT hi hm hq (fun r' hr' => by rw [hig] at hr'; cases hr') hk
  have hOi := ((hs.rows i _ hi).mine hm hq).1
  refine hs.handOver hC hn hT.any rfl hmv (fun k hk => hiO k ?_) hO hsl rfl (fun k hk => ?_) (fun j r0 pa hj e0 qj hqj k hk => ?_)
  · obtain ⟨_, _, _, _, hb, _⟩ := hOi
    exact hb k hk.symm
  · rcases hk with hk | hk | hk
    · exact ⟨.inr (hiO k hk), Nat.lt_of_lt_of_le (Own.zone hs (hiO k hk).1).2 hmv.size⟩
    · exact ⟨.inr (hFF k hk), Nat.lt_of_lt_of_le (Own.zone hs (hFF k hk).1).2 hmv.size⟩
    · exact ⟨.inl hk.1, hk.2⟩
  · rcases hT.row j r0 hj with h1 | ⟨_, _, h1, _⟩
    · obtain ⟨_, _, _, _, _, _, _, _, hZ⟩ := hs.rows j r0 h1
      rw [Zone, e0] at hZ
      obtain ⟨_, _, _, _, _, h3, _⟩ := hZ
      rw [hn] at h3
      cases h3
    · cases h1
theorem appendTo_ok (hE : EnvOK C.P E) (hC : CxOK C) (hs : Sim C big g a w) (hsub : Sub fr big) (o : Oper) (c : Call) (ho : o.op = .call c) (hb : c.callee = .builtin .append) (t : TypeId) (x y : Operand) (ha : c.args = #[x, y]) (hat : c.argTypes = #[t, t]) {lx ly : Lf} (hx : LfR C g lx (a.eval x)) (hy : LfR C g ly (a.eval y)) :
    Good C g a fr big ((execOp a.eval o).run C.P w) (appendTo E fr t lx ly) := by
  have run : ∀ {v' w'}, (Builtin.append_ #[t, t] o.type #[a.eval x, a.eval y]).run C.P w = .ok v' w' → (execOp a.eval o).run C.P w = .ok (.value v') w' := fun h => by
    simp [execOp, ho, resolve, hb, ha, hat, invoke, builtin, h]
  unfold appendTo
  split
  · rename_i e s b i hsl
    obtain ⟨hund, hT, hbb⟩ := slT_ok hE hsl
    split
    · rename_i qi hqi
      cases hc1 : (qi.m == .own && Nat.beq e qi.e)
      · trivial
      · rw [cond_true]
        simp only [Bool.and_eq_true, beq_iff_eq] at hc1
        obtain ⟨ei, si, xs, mi⟩ := qi
        obtain ⟨hmi, he⟩ := hc1
        simp only at hmi
        subst hmi
        have he := Nat.eq_of_beq_eq_true he
        simp only at he
        subst he
        split
        · rename_i hsi
          simp only at hsi
          subst hsi
          obtain ⟨q, A, n, cc, hq, hv, hu⟩ := hx
          have hux : a.eval x = q.v := by rw [hu, hv]
          have hlim : ∀ {m : Nat}, Nat.ble (xs.length + m) (lim b) = true → xs.length + m ≤ lim b := fun h => ble_le h
          -- what comes in is flat
          have flat : ∀ {j : Nat} {p : RowE} {lo len : Int} {ys : List si.T} (hsf : si.flat = true) (hri : rowInfo fr ly = some (j, p, lo, len)) (hps : p.s = si), HEq ys ((p.xs.take (lo + len).toNat).drop lo.toNat) → Good C g a fr big ((execOp a.eval o).run C.P w)
              (.done (Nat.ble (xs.length + ys.length) (lim b)) (some (.l (.row fr.rw.length))) [⟨e, si, xs ++ ys, .own⟩] [] (.tab (dropBor i (put? fr.rw i none)))) := by
            intro j p lo len ys hsf hri hps hys
            obtain ⟨pe, ps, pxs, pm⟩ := p
            simp only at hps
            subst hps
            have hys := eq_of_heq hys
            subst hys
            intro hreq hfull hfree
            have hfb := hfull rfl
            subst hfb
            have hn : g.ρ fr.rw.length = none := hfree.ρ _ (Nat.le_refl _) (by simp)
            obtain ⟨A2, c2, hu2, css, h1, h2, h3, h4⟩ := flat_read hs hsub hy hri hsf
            have hOi := ((hs.rows i _ hqi).mine rfl hq).1
            obtain ⟨v', w', hr, hmv, hsl', hO⟩ := run_append_rows (C := C) (ty := o.type) hund hT hbb hOi h1 h2 h3 (hlim hreq) (fun _ => False) (fun _ _ => False) (fun _ _ h => h.elim) (fun _ _ _ _ h => h.elim) (fun j y d hy hd => h4 j y d hy hd w) (hs.row_lt hqi hq) (c := c2)
            rw [← hux, ← hu2] at hr
            refine ⟨_, _, _, run hr, .inl rfl, g.row fr.rw.length ⟨v', fun k => q.F k ∨ False ∨ (w.heap.size ≤ k ∧ k < w'.heap.size), ps.n⟩, fresh_row fr hn rfl, ?_, fun av hav => ?_⟩
            · rw [grow_tab]
              exact append_fin (FF := fun _ => False) hC hs hqi rfl hn (dropBor_took hqi rfl _ (.inl rfl)) (by
                cases h : at? (dropBor i (put? fr.rw i none)) i with
                | none => rfl
                | some r => rw [at?_dropBor, at?_put, if_pos ⟨rfl, at?_lt hqi⟩] at h; cases h.1) hq hmv hsl' (fun _ h => h.elim) hO
            · cases hav
              obtain ⟨A3, m3, c3, e3⟩ := hsl'
              exact VR.of1 ⟨_, _, _, _, Sg.row_at _ _ _, e3, e3⟩
          split
          · rename_i j
            split
            · rename_i p hp
              cases hc2 : (Nat.beq p.e e)
              · trivial
              · rw [cond_true]
                split
                · rename_i hps
                  obtain ⟨pe, ps, pxs, pm⟩ := p
                  simp only at hps
                  subst hps
                  cases hsf : ps.flat with
                  | true =>
                    rw [cond_true]
                    refine flat (j := j) hsf (p := ⟨pe, ps, pxs, pm⟩) (lo := 0) (len := (pxs.length : Int)) (by simp [rowInfo, hp]) rfl ?_
                    have e1 : ((0 : Int) + (pxs.length : Int)).toNat = pxs.length := by omega
                    rw [e1]
                    simp [castL_rfl]
                  | false =>
                    rw [cond_false]
                    cases hc3 : (pm == .own && !Nat.beq i j)
                    · simp only [hc3]; trivial
                    · simp only [hc3, cond_true]
                      simp only [Bool.and_eq_true, beq_iff_eq, Bool.not_eq_true'] at hc3
                      obtain ⟨hpm, hij⟩ := hc3
                      subst hpm
                      have hne : i ≠ j := fun h => by subst h; rw [Nat.beq_refl] at hij; cases hij
                      have hpe : pe = e := Nat.eq_of_beq_eq_true hc2
                      subst hpe
                      intro hreq hfull hfree
                      have hfb := hfull rfl
                      subst hfb
                      have hn : g.ρ fr.rw.length = none := hfree.ρ _ (Nat.le_refl _) (by simp)
                      have hOi := ((hs.rows i _ hqi).mine rfl hq).1
                      obtain ⟨q2, A2, n2, c2, hq2, hv2, hu2⟩ := hy
                      have hOj := ((hs.rows j _ hp).mine rfl hq2).1
                      obtain ⟨A', c', ev, hle', hrd⟩ := OwnsL.reads (R := RC C.P ps w q2.F) hOj (fun G x c hG h => RC.mono ps hG (OC.read ps h))
                      obtain ⟨css, hoj, hlj, hcj, hbj, Gj, hGj, hdj, hMj⟩ := id hOj
                      have hdij : ∀ k, q2.F k → ¬ q.F k := fun k h1 h2 => hne (hs.rdisj i j _ _ q q2 k hqi hp rfl rfl hq hq2 h2 h1)
                      have hA : 0 < pxs.length → ∃ ad, A' = some ad ∧ ∀ j u, css.flatten[j]? = some u → w.cell? (ad.add j) = some u := by
                        intro hpos
                        obtain ⟨ad, hA, _⟩ := hrd.2 hpos
                        subst hA
                        rcases hoj.2 with ⟨e1, _⟩ | ⟨gb, cap, cur, e1, _⟩
                        · rw [ev] at e1; cases e1
                        · rw [ev] at e1
                          injection e1 with e1 _ _
                          injection e1 with e1
                          subst e1
                          exact ⟨_, rfl, fun j u hu => hoj.cells (g := gb) (by rw [ev]; rfl) j u hu⟩
                      obtain ⟨v', w', hr, hmv, hsl', hO⟩ := run_append_rows (C := C) (ty := o.type) hund hT hbb hOi (ys := pxs) hlj hcj hA (hlim hreq) q2.F Gj (fun j k hk => ⟨(hGj j k hk).1, hs.row_lt hp hq2 k (hGj j k hk).1, hdij k (hGj j k hk).1⟩) hdj hMj (hs.row_lt hqi hq) (c := c')
                      have hu2' : a.eval y = .slice A' pxs.length c' := by rw [hu2, ← ev, hv2]
                      rw [← hux, ← hu2'] at hr
                      have hT1 : Took none (at? fr.rw) (at? (dropBor i (put? fr.rw i none))) := dropBor_took hqi rfl _ (.inl rfl)
                      have hp1 : at? (dropBor i (put? fr.rw i none)) j = some ⟨pe, ps, pxs, .own⟩ := by
                        rw [at?_dropBor, at?_put, if_neg (fun h => hne h.1)]
                        exact ⟨hp, fun _ _ e => by cases e⟩
                      have hT2 := hT1.trans (dropBor_took hp1 rfl _ (.inl rfl) : Took none _ (at? (dropBor j (put? (dropBor i (put? fr.rw i none)) j none))))
                      have gone1 : at? (dropBor j (put? (dropBor i (put? fr.rw i none)) j none)) i = none := by
                        cases h : at? (dropBor j (put? (dropBor i (put? fr.rw i none)) j none)) i with
                        | none => rfl
                        | some r =>
                          rw [at?_dropBor, at?_put, if_neg (fun h => hne h.1.symm), at?_dropBor, at?_put, if_pos ⟨rfl, at?_lt hqi⟩] at h
                          cases h.1.1
                      have gone2 : ∀ r', at? (dropBor j (put? (dropBor i (put? fr.rw i none)) j none)) j = some r' → r'.m.mine = false := by
                        intro r' h
                        rw [at?_dropBor, at?_put, if_pos ⟨rfl, at?_lt hp1⟩] at h
                        cases h.1
                      refine ⟨_, _, _, run hr, .inl rfl, g.row fr.rw.length ⟨v', fun k => q.F k ∨ q2.F k ∨ (w.heap.size ≤ k ∧ k < w'.heap.size), ps.n⟩, fresh_row fr hn rfl, ?_, fun av hav => ?_⟩
                      · rw [grow_tab]
                        exact append_fin hC hs hqi rfl hn hT2 gone1 hq hmv hsl' (fun k hk => Own.gone hs.tab hT2 hp rfl hq2 gone2 hk) hO
                      · cases hav
                        obtain ⟨A3, m3, c3, e3⟩ := hsl'
                        exact VR.of1 ⟨_, _, _, _, Sg.row_at _ _ _, e3, e3⟩
                · trivial
            · trivial
          · rename_i j lo hi
            split
            · rename_i p hp
              cases hc2 : (Nat.beq p.e e && si.flat)
              · trivial
              · rw [cond_true]
                simp only [Bool.and_eq_true] at hc2
                split
                · rename_i hps
                  obtain ⟨pe, ps, pxs, pm⟩ := p
                  simp only at hps
                  subst hps
                  refine flat (j := j) hc2.2 (p := ⟨pe, ps, pxs, pm⟩) (lo := lo) (len := hi - lo) (by simp [rowInfo, hp]) rfl ?_
                  have e1 : (lo + (hi - lo)).toNat = hi.toNat := by omega
                  rw [e1]
                  exact HEq.rfl
                · trivial
            · trivial
          · trivial
        · trivial
    · trivial
  · trivial
theorem stAppend_ok (hE : EnvOK C.P E) (hC : CxOK C) (hs : Sim C big g a w) (hsub : Sub fr big) (hc : Holds a ch) (o : Oper) (c : Call) (ho : o.op = .call c) (hb : c.callee = .builtin .append) : Good C g a fr big ((execOp a.eval o).run C.P w) (stAppend E fr ch c.args.toList c.argTypes.toList) := by
  unfold stAppend
  split
  · rename_i x y t t' hx ht
    have ha : c.args = #[x, y] := by rw [← Array.toArray_toList (xs := c.args), hx]
    have hat : c.argTypes = #[t, t'] := by rw [← Array.toArray_toList (xs := c.argTypes), ht]
    split
    · rename_i v u h1 h2
      cases htt : Nat.beq t t'
      · trivial
      · have e := Nat.eq_of_beq_eq_true htt
        subst e
        exact appendTo_ok hE hC hs hsub o c ho hb t x y ha hat (op1_rel (hs.sub hsub) hc h1) (op1_rel (hs.sub hsub) hc h2)
    · trivial
  · trivial
end Go.Proofs.Ytbgdojniimdihaa.X
