/- Stores: into variables, into rows. -/
import Derived.Test.YtbgdojniimdihaaXOwn3
namespace Go.Proofs.Ytbgdojniimdihaa.X
open Go Go.RowKit
variable {C : Cx} {fr : Fr} {big : FF} {g : Sg} {a : Act} {w w' : World} {ch : List (Nat × Bool)} {E : Env}
theorem Moves.setRow (w : World) (k : Nat) (cs : Array Value) : Moves (fun j => j = k) w (w.setRow k cs) :=
  ⟨rfl, rfl, rfl, by simp [World.setRow], fun j _ hj => setRow_other w k j cs hj⟩
theorem stStoreBox_ok (hC : CxOK C) (hs : Sim C big g a w) (hsub : Sub fr big) (o : Oper) (t : TypeId) (x y : Operand) (ho : o.op = .store t x y) {s : Sh} (hT : TyOK C.P t s) {i off : Nat} {ag : Bool} {vs : List Lf} (hx : LfR C g (.box i off) (a.eval x)) (hy : VR C g ag vs (a.eval y)) :
    Good C g a fr big ((execOp a.eval o).run C.P w) (stStoreBox fr i off s.n vs) := by
  unfold stStoreBox
  split
  · rename_i b hb
    cases hc : (b.own && Nat.ble (off + s.n) b.cs.length && Nat.beq vs.length s.n)
    · trivial
    · rw [cond_true]
      simp only [Bool.and_eq_true] at hc
      obtain ⟨⟨hown, hle⟩, hvl⟩ := hc
      have hle := ble_le hle
      have hvl : vs.length = s.n := Nat.eq_of_beq_eq_true hvl
      intro _ _ _
      obtain ⟨us, e, hr, hag⟩ := hy
      obtain ⟨k, hk, ep⟩ := hx
      have hbig := hsub.bx i b hb
      obtain ⟨k', cur, t', hk', hh, hcr, hfr, _⟩ := hs.boxes i b hbig
      rw [hk] at hk'
      cases hk'
      have hcl : (a.eval y).cells.toList = us := by rw [e]; exact packB_cells (fun hb' => by rw [hr.len, hag hb']) hr.one
      have hul := hr.len
      have hcu := hcr.len
      have hrun := run_storeVar_at (P := C.P) hT w k off cur t' hh (a.eval y) us hcl (by omega) hr.one (by simp at hcu; omega)
      have hrun' : (execOp a.eval o).run C.P w = .ok .skip (w.setRow k (cur.toList.take off ++ us ++ cur.toList.drop (off + us.length)).toArray) := by
        simp only [execOp, ho, ep, Instr.storeAt, Instr.sureAddr, Sem.run_bind, Sem.run_pure, Result.andThen_ok, hrun]
      have hM := Moves.setRow w k (cur.toList.take off ++ us ++ cur.toList.drop (off + us.length)).toArray
      refine ⟨_, undef, _, hrun', .inr ⟨rfl, rfl⟩, g, ⟨Sg.Le.refl g, fun _ _ => rfl, fun _ _ => rfl⟩, ?_, fun _ e => by cases e⟩
      have hz : C.w0.heap.size ≤ k := hfr hown
      have hrows := hs.rows_moves hC hM (fun j hj => .inl (hj ▸ hz)) (fun i' r q j hr' hm hq hF hj => by
        subst hj
        exact hs.rbox i' r q i b j hr' hm hq hbig hown hk hF)
      simp only [grow, more_nil, effB, effR]
      refine { hs with kept := hM.kept hs.kept (fun j hj => .inl (hj ▸ hz)), rows := hrows, boxes := ?_, bdisj := ?_, rbox := ?_ }
      · intro i' b' hb'
        change (if i' = i then some { b with cs := fillAt b.cs off vs } else big.bx i') = some b' at hb'
        split at hb'
        · rename_i ei
          subst ei
          cases hb'
          refine ⟨k, _, t', hk, setRow_heap w k cur _ t' (0, 0) hh, ?_, fun _ => hz, fun e => by rw [hown] at e; cases e⟩
          have := hcr.setAt hr off
          simpa [setAt] using this
        · rename_i ei
          refine (hs.boxes i' b' hb').moves hM fun k' hk' hd => ?_
          subst hd
          exact ei (hs.bdisj i i' b b' k' hbig hb' hown hk hk').symm
      · intro i1 j1 b1 b2 k1 h1 h2 ho1 hk1 hk2
        change (if i1 = i then some { b with cs := fillAt b.cs off vs } else big.bx i1) = some b1 at h1
        change (if j1 = i then some { b with cs := fillAt b.cs off vs } else big.bx j1) = some b2 at h2
        have f1 : ∃ b1', big.bx i1 = some b1' ∧ b1'.own = true := by
          split at h1
          · rename_i e1; subst e1; exact ⟨b, hbig, hown⟩
          · exact ⟨b1, h1, ho1⟩
        have f2 : ∃ b2', big.bx j1 = some b2' := by
          split at h2
          · rename_i e1; subst e1; exact ⟨b, hbig⟩
          · exact ⟨b2, h2⟩
        obtain ⟨b1', f1, f1'⟩ := f1
        obtain ⟨b2', f2⟩ := f2
        exact hs.bdisj i1 j1 b1' b2' k1 f1 f2 f1' hk1 hk2
      · intro i1 r1 q1 j b1 k1 h1 m1 hq1 hb1 ho1 hk1
        change (if j = i then some { b with cs := fillAt b.cs off vs } else big.bx j) = some b1 at hb1
        split at hb1
        · rename_i e1; subst e1; exact hs.rbox i1 r1 q1 j b k1 h1 m1 hq1 hbig hown hk1
        · exact hs.rbox i1 r1 q1 j b1 k1 h1 m1 hq1 hb1 ho1 hk1
  · trivial
/-- a row's elements are written, its slice stays -/
theorem Sim.setRow (hC : CxOK C) (h : Sim C big g a w) {i : Nat} {r r' : RowE} {q : RowC} (hr : big.rw i = some r) (hm : r.m.mine = true) (hq : g.ρ i = some q) (hrm : r'.m = r.m) (hrn : r'.s.n = r.s.n) {w' : World} {D : FP} (hM : Moves D w w') (hD : ∀ k, D k → q.F k)
    (hO : OwnL r'.e r'.s w' q.F q.v r'.xs) {rw' : Nat → Option RowE} (hrw : ∀ j r0, rw' j = some r0 → (j = i ∧ r0 = r') ∨ (j ≠ i ∧ big.rw j = some r0 ∧ ∀ p pa, r0.m = .bor p pa → p ≠ i)) (hrw2 : ∀ j r0, big.rw j = some r0 → r0.m.mine = true → j ≠ i → rw' j = some r0) :
    Sim C { big with rw := rw' } g a w' := by
  have hz := ((h.rows i r hr).mine hm hq).2
  have hDz : ∀ k, D k → C.w0.heap.size ≤ k ∨ C.S k := fun k hk => hz k (hD k hk)
  have hR : ∀ k, D k → ¬ C.R k := fun k hk => Own.notR hC h ⟨i, r, q, hr, hm, hq, hD k hk⟩
  have mineOf : ∀ j r0, rw' j = some r0 → r0.m.mine = true → ∃ r1, big.rw j = some r1 ∧ r1.m.mine = true := by
    intro j r0 hj hm0
    rcases hrw j r0 hj with ⟨rfl, rfl⟩ | ⟨_, h1, _⟩
    · exact ⟨r, hr, hm⟩
    · exact ⟨r0, h1, hm0⟩
  refine { h with kept := hM.kept h.kept hDz, boxes := ?_, rows := ?_, rdisj := ?_, rbox := ?_ }
  · intro j b hb
    refine (h.boxes j b hb).moves hM fun k hk hd => ?_
    cases ho : b.own with
    | true => exact Own.notBox h ⟨i, r, q, hr, hm, hq, hD k hd⟩ hb ho hk
    | false =>
      obtain ⟨k', cs, t, hk', _, _, _, hr'⟩ := h.boxes j b hb
      rw [hk] at hk'
      cases hk'
      exact hR k hd (hr' ho)
  · intro j r0 hj
    change rw' j = some r0 at hj
    rcases hrw j r0 hj with ⟨rfl, rfl⟩ | ⟨hji, h1, h2⟩
    · obtain ⟨q', A, n, c, hq', hv, hsz, hl, hZ⟩ := h.rows j r hr
      rw [hq] at hq'
      cases hq'
      refine ⟨q, A, n, c, hq, hv, by rw [hsz, hrn], fun k hk => Nat.lt_of_lt_of_le (hl k hk) hM.size, ?_⟩
      cases hmm : r.m with
      | own => rw [Zone, hmm] at hZ; rw [Zone, hrm, hmm]; exact ⟨hO, hZ.2⟩
      | io => rw [Zone, hmm] at hZ; rw [Zone, hrm, hmm]; exact ⟨hO, hZ.2⟩
      | ro => rw [hmm] at hm; cases hm
      | bor p pa => rw [hmm] at hm; cases hm
    · refine (h.rows j r0 h1).moves hM (fun qj hqj k hk hd => ?_) (fun p pa e rp hrp hmp => ⟨⟨rp, hrw2 p rp hrp hmp (h2 p pa e), hmp, rfl⟩, fun qp hqp k hk hd => ?_⟩) (fun p pa rp qp e hrp hmp hqp A n c hv hn => ((h.rows p rp hrp).mine hmp hqp).1.block hv)
      · obtain ⟨q', A, n, c, hq', hv, hsz, hl, hZ⟩ := h.rows j r0 h1
        rw [hqj] at hq'
        cases hq'
        cases hmm : r0.m with
        | own => exact hji (h.rdisj i j r r0 q qj k hr h1 hm (by rw [hmm]; rfl) hq hqj (hD k hd) hk).symm
        | io => exact hji (h.rdisj i j r r0 q qj k hr h1 hm (by rw [hmm]; rfl) hq hqj (hD k hd) hk).symm
        | ro => rw [Zone, hmm] at hZ; exact hR k hd (hZ.2 k hk)
        | bor p pa =>
          rw [Zone, hmm] at hZ
          obtain ⟨_, rp, qp, hrp, hmp, hqp, hFp, _⟩ := hZ
          exact h2 p pa hmm (h.rdisj i p r rp q qp k hr hrp hm hmp hq hqp (hD k hd) (hFp k hk)).symm
      · exact h2 p pa e (h.rdisj i p r rp q qp k hr hrp hm hmp hq hqp (hD k hd) hk).symm
  · intro i1 j1 r1 r2 q1 q2 k h1 h2 m1 m2
    obtain ⟨r1', f1, f1'⟩ := mineOf i1 r1 h1 m1
    obtain ⟨r2', f2, f2'⟩ := mineOf j1 r2 h2 m2
    exact h.rdisj i1 j1 r1' r2' q1 q2 k f1 f2 f1' f2'
  · intro i1 r1 q1 j b k h1 m1
    obtain ⟨r1', f1, f1'⟩ := mineOf i1 r1 h1 m1
    exact h.rbox i1 r1' q1 j b k f1 f1'
/-- a part of a value of the call's own is exchanged, by a flat one -/
theorem shSub_set {s : Sh} : ∀ {off n : Nat} {u : Sh} {f : s.T → u.T} {gg : s.T → u.T → s.T}, shSub s off n = some ⟨u, f, gg⟩ → u.flat = true →
    ∀ {w w' : World} {F F' : FP} {x y cs us}, OC s w F x cs → OC u w' F' y us → OC s w F (gg x y) (setAt cs off us) := by
  have flatOC : ∀ (u : Sh), u.flat = true → ∀ {w w' : World} {F F' : FP} {y us}, OC u w' F' y us → OC u w F y us := by
    intro u hu w w' F F' y us h
    induction u generalizing F F' us with
    | int k => exact h
    | bool => exact h
    | str => exact h
    | cons a b iha ihb =>
      simp only [Sh.flat, Bool.and_eq_true] at hu
      obtain ⟨c1, c2, rfl, _, _, _, _, _, h1, h2⟩ := h
      exact ⟨c1, c2, rfl, fun _ => False, fun _ => False, fun _ h => h.elim, fun _ h => h.elim, fun _ h => h.elim, iha hu.1 h1, ihb hu.2 h2⟩
    | list _ _ _ => cases hu
    | fn1 _ _ _ _ => cases hu
    | fn2 _ _ _ _ _ _ => cases hu
  induction s with
  | cons a b iha ihb =>
    intro off n u f gg h hu w w' F F' x y cs us hO hy
    simp only [shSub] at h
    cases h1 : (Nat.beq off 0 && Nat.beq n (a.n + b.n))
    · rw [h1, cond_false] at h
      cases h2 : (Nat.beq off 0 && Nat.beq n a.n)
      · rw [h2, cond_false] at h
        cases h3 : Nat.ble a.n off
        · rw [h3, cond_false] at h
          have hlt : off < a.n := by
            rcases Nat.lt_or_ge off a.n with hh | hh
            · exact hh
            · rw [Nat.ble_eq_true_of_le hh] at h3; cases h3
          split at h
          · rename_i t f' g' hb
            cases h
            obtain ⟨hun, hle, _⟩ := shSub_ok hb
            obtain ⟨c1, c2, rfl, G, H, hG, hH, hd, o1, o2⟩ := hO
            have l1 : c1.length = a.n := OC.len a o1
            have l2 := OC.len _ hy
            have e : setAt (c1 ++ c2) off us = setAt c1 off us ++ c2 := by
              simp only [setAt]
              rw [List.take_append_of_le_length (by omega), List.drop_append_of_le_length (by omega)]
              simp only [List.append_assoc]
            rw [e]
            exact ⟨_, c2, rfl, G, H, hG, hH, hd, iha hb hu o1 hy, o2⟩
          · cases h
        · rw [h3, cond_true] at h
          have hge : a.n ≤ off := Nat.le_of_ble_eq_true h3
          split at h
          · rename_i t f' g' hb
            cases h
            obtain ⟨c1, c2, rfl, G, H, hG, hH, hd, o1, o2⟩ := hO
            have l1 : c1.length = a.n := OC.len a o1
            have e : setAt (c1 ++ c2) off us = c1 ++ setAt c2 (off - a.n) us := by
              simp only [setAt]
              rw [List.take_append, List.take_of_length_le (by omega), List.drop_append, List.drop_eq_nil_of_le (by omega), List.nil_append, l1]
              have : off + us.length - a.n = off - a.n + us.length := by omega
              rw [this]
              simp only [List.append_assoc]
            rw [e]
            exact ⟨c1, _, rfl, G, H, hG, hH, hd, o1, ihb hb hu o2 hy⟩
          · cases h
      · rw [h2] at h
        cases h
        simp only [Bool.and_eq_true] at h2
        have e0 : off = 0 := Nat.eq_of_beq_eq_true h2.1
        subst e0
        obtain ⟨c1, c2, rfl, G, H, hG, hH, hd, o1, o2⟩ := hO
        have e : setAt (c1 ++ c2) 0 us = us ++ c2 := by
          have l1 := OC.len a o1
          have l2 := OC.len a hy
          simp only [setAt, List.take_zero, List.nil_append, Nat.zero_add]
          rw [List.drop_append, List.drop_eq_nil_of_le (by omega), List.nil_append, show us.length - c1.length = 0 by omega, List.drop_zero]
        rw [e]
        exact ⟨us, c2, rfl, G, H, hG, hH, hd, flatOC a hu hy, o2⟩
    · rw [h1] at h
      cases h
      simp only [Bool.and_eq_true] at h1
      have e0 : off = 0 := Nat.eq_of_beq_eq_true h1.1
      subst e0
      have e : setAt cs 0 us = us := by
        have l1 := OC.len _ hO
        have l2 := OC.len _ hy
        simp only [setAt, List.take_zero, List.nil_append, Nat.zero_add]
        rw [List.drop_eq_nil_of_le (by omega), List.append_nil]
      rw [e]
      exact flatOC _ hu hy
  | _ =>
    intro off n u f gg h hu w w' F F' x y cs us hO hy
    simp only [shSub] at h
    cases h1 : (Nat.beq off 0 && Nat.beq n 1)
    · rw [h1] at h; cases h
    · rw [h1] at h
      cases h
      simp only [Bool.and_eq_true] at h1
      have e0 : off = 0 := Nat.eq_of_beq_eq_true h1.1
      subst e0
      have e : setAt cs 0 us = us := by
        have l1 := OC.len _ hO
        have l2 := OC.len _ hy
        simp only [setAt, List.take_zero, List.nil_append, Nat.zero_add]
        rw [List.drop_eq_nil_of_le (by omega), List.append_nil]
      rw [e]
      exact flatOC _ hu hy
theorem setAt_setAt (cs c us : List Value) (p off : Nat) (h1 : p + c.length ≤ cs.length) (h2 : off + us.length ≤ c.length) (hc : (cs.drop p).take c.length = c) : setAt cs (p + off) us = setAt cs p (setAt c off us) := by
  have hl := setAt_len h2
  have hcp : cs = cs.take p ++ c ++ cs.drop (p + c.length) := by
    rw [List.append_assoc]
    conv => lhs; rw [← List.take_append_drop p cs, ← List.take_append_drop c.length (cs.drop p), hc, List.drop_drop]
  have hpl : (cs.take p).length = p := by simp; omega
  simp only [setAt] at hl ⊢
  rw [hl]
  have e1 : cs.take (p + off) = cs.take p ++ c.take off := by
    conv => lhs; rw [hcp]
    rw [List.append_assoc, List.take_append, List.take_of_length_le (by omega), hpl, Nat.add_sub_cancel_left, List.take_append, show off - c.length = 0 by omega, List.take_zero, List.append_nil]
  have e2 : cs.drop (p + off + us.length) = c.drop (off + us.length) ++ cs.drop (p + c.length) := by
    conv => lhs; rw [hcp]
    rw [List.append_assoc, List.drop_append, List.drop_eq_nil_of_le (by omega), List.nil_append, hpl, List.drop_append, show p + off + us.length - p = off + us.length by omega, show off + us.length - c.length = 0 by omega, List.drop_zero]
  rw [e1, e2]
  simp only [List.append_assoc]
theorem stStoreElem_ok (hC : CxOK C) (hs : Sim C big g a w) (hsub : Sub fr big) (o : Oper) (t : TypeId) (x y : Operand) (ho : o.op = .store t x y) {s : Sh} (hT : TyOK C.P t s) {i off : Nat} {j : Int} {ag : Bool} {vs : List Lf} (hx : LfR C g (.elem i j off) (a.eval x)) (hy : VR C g ag vs (a.eval y)) :
    Good C g a fr big ((execOp a.eval o).run C.P w) (stStoreElem fr i j off s.n vs) := by
  unfold stStoreElem
  split
  · rename_i r hr
    cases hc : (r.m.mine && Nat.beq vs.length s.n)
    · trivial
    · rw [cond_true]
      simp only [Bool.and_eq_true] at hc
      obtain ⟨hm, hvl⟩ := hc
      have hvl : vs.length = s.n := Nat.eq_of_beq_eq_true hvl
      split
      · rename_i u f gg hsb
        split
        · rename_i yv rw1 htk
          cases hf : u.flat
          · trivial
          · rw [cond_true]
            intro _ hfull _
            have hfb := hfull rfl
            subst hfb
            obtain ⟨us, e, hrl, hag⟩ := hy
            obtain ⟨_, _, c1, c2, e12, h2, hOy⟩ := take_ok (g := g) (w := w) (C := C) (m := some i) (fun m hm => by
              have : m = .own := by simpa using hm
              subst this
              exact ⟨rfl, fun _ => rfl⟩) u htk hrl hs.tab
            cases h2
            have e12' : us = c1 := by rw [e12, List.append_nil]
            subst e12'
            obtain ⟨q, A, n, c, hq, hv, h0, hj, ep⟩ := hx
            have hO := ((hs.rows i r hr).mine hm hq).1
            have hz : q.sz = r.s.n := by
              obtain ⟨q', _, _, _, hq', _, hz, _⟩ := hs.rows i r hr
              rw [hq] at hq'
              cases hq'
              exact hz
            obtain ⟨hun, hle, _⟩ := shSub_ok hsb
            obtain ⟨css, how, hlen, hcell, hblk, G, hG, hd, hMm⟩ := hO
            have hxl : r.xs.length = n := by
              obtain ⟨A', c', e', _⟩ := ownsRow_form how
              rw [hv] at e'
              injection e' with _ e' _
              exact e'.symm
            rcases how.2 with ⟨e1, e2⟩ | ⟨gb, cap, cur, e1, hb0, hh, hnc, hcm, hcs, htake⟩
            · omega
            · rw [hv] at e1
              injection e1 with e1 e3 e4
              injection e1 with e1
              subst e1
              subst e4
              have hjl : j.toNat < r.xs.length := by omega
              have hcj : css[j.toNat]? = some css[j.toNat] := List.getElem?_eq_getElem (by omega)
              obtain ⟨hclen, _⟩ := hcell _ (List.getElem_mem (show j.toNat < css.length by omega))
              have hul := hrl.len
              have hOx := hMm j.toNat _ _ (getD_some r.xs j.toNat r.s.dfl hjl) hcj
              have hOn := shSub_set hsb hf hOx hOy
              have hcl : (a.eval y).cells.toList = us := by rw [e]; exact packB_cells (fun hb' => by rw [hrl.len, hag hb']) hrl.one
              have hjn : (j.toNat + 1) * r.s.n ≤ r.xs.length * r.s.n := Nat.mul_le_mul_right _ hjl
              have hcn : r.xs.length * r.s.n ≤ c * r.s.n := Nat.mul_le_mul_right _ (by omega)
              rw [Nat.succ_mul] at hjn
              have hrun := run_storeVar_at (P := C.P) hT w gb (j.toNat * r.s.n + off) cur r.e hh (a.eval y) us hcl (by omega) hrl.one (by omega)
              have ep' : a.eval x = .pointer (some ⟨gb, j.toNat * r.s.n + off, none⟩) := by rw [ep, hz, add_plain]
              have hrun' : (execOp a.eval o).run C.P w = .ok .skip (w.setRow gb (setAt cur.toList (j.toNat * r.s.n + off) us).toArray) := by
                simp only [execOp, ho, ep', Instr.storeAt, Instr.sureAddr, Sem.run_bind, Sem.run_pure, Result.andThen_ok, hrun]
                rfl
              have hM := Moves.setRow w gb (setAt cur.toList (j.toNat * r.s.n + off) us).toArray
              have hgbF : q.F gb := hblk gb (by rw [hv]; rfl)
              refine ⟨_, undef, _, hrun', .inr ⟨rfl, rfl⟩, g, ⟨Sg.Le.refl g, fun _ _ => rfl, fun _ _ => rfl⟩, ?_, fun _ e => by cases e⟩
              simp only [grow, more_nil, effB, effR]
              have hcsl : css.flatten.length = r.xs.length * r.s.n := by rw [flat_len (fun d hd => (hcell d hd).1), hlen]
              have hsa : (setAt css[j.toNat] off us).length = css[j.toNat].length := setAt_len (by omega)
              have hset : setAt css.flatten (j.toNat * r.s.n + off) us = (css.set j.toNat (setAt css[j.toNat] off us)).flatten := by
                rw [setAt_setAt css.flatten css[j.toNat] us (j.toNat * r.s.n) off (by omega) (by omega) (flat_drop (fun d hd => (hcell d hd).1) hcj), set_flatten _ _ (fun d hd => (hcell d hd).1) (by omega) (by omega)]
              have hnew : OwnL r.e r.s (w.setRow gb (setAt cur.toList (j.toNat * r.s.n + off) us).toArray) q.F q.v (r.xs.set j.toNat (gg (r.xs.getD j.toNat r.s.dfl) yv)) := by
                refine ⟨css.set j.toNat (setAt css[j.toNat] off us), ⟨?_, .inr ⟨gb, c, (setAt cur.toList (j.toNat * r.s.n + off) us).toArray, ?_, Nat.zero_le _, setRow_heap w gb cur _ r.e (0, 0) hh, ?_, hcm, ?_, ?_⟩⟩, by simp [hlen], ?_, hblk, G, hG, hd, ?_⟩
                · rw [flat_len (sz := r.s.n)]
                  · simp [hlen]
                  · intro d hd'
                    rcases List.mem_or_eq_of_mem_set hd' with hd' | hd'
                    · exact (hcell d hd').1
                    · rw [hd']; omega
                · rw [hv, List.length_set, hxl]
                · rw [List.length_set]; omega
                · have : (setAt cur.toList (j.toNat * r.s.n + off) us).length = cur.toList.length := setAt_len (by simp; omega)
                  simpa [hcs] using this
                · rw [List.length_set]
                  show (setAt cur.toList (j.toNat * r.s.n + off) us).take _ = _
                  rw [← hset, ← htake]
                  exact take_setAt _ _ _ _ (by omega) (by simp; omega)
                · intro d hd'
                  rcases List.mem_or_eq_of_mem_set hd' with hd' | hd'
                  · exact hcell d hd'
                  · subst hd'
                    exact ⟨by omega, OC.one C.P r.s hOn⟩
                · intro j' x' d hx' hd'
                  rw [List.getElem?_set] at hx' hd'
                  have hkeep : ∀ k, G j' k → (w.setRow gb (setAt cur.toList (j.toNat * r.s.n + off) us).toArray).heap[k]? = w.heap[k]? := fun k hk => by
                    refine setRow_other w gb k _ fun e => ?_
                    subst e
                    exact (hG j' k hk).2 (by rw [hv]; rfl)
                  by_cases hjj : j.toNat = j'
                  · subst hjj
                    rw [if_pos rfl, if_pos hjl] at hx'
                    rw [if_pos rfl, if_pos (by omega)] at hd'
                    cases hx'
                    cases hd'
                    exact OC.same r.s hkeep hOn
                  · rw [if_neg hjj] at hx' hd'
                    exact OC.same r.s hkeep (hMm j' x' d hx' hd')
              refine hs.setRow hC hr hm hq (r' := { r with xs := r.xs.set j.toNat (gg (r.xs.getD j.toNat r.s.dfl) yv) }) rfl rfl hM (fun k hk => hk ▸ hgbF) hnew (fun j' r0 hj' => ?_) (fun j' r0 hj' hm0 hne => ?_)
              · rw [at?_dropBor, at?_put] at hj'
                obtain ⟨h1, h2⟩ := hj'
                split at h1
                · rename_i hij
                  cases h1
                  exact .inl ⟨hij.1.symm, rfl⟩
                · rename_i hij
                  exact .inr ⟨fun e => hij ⟨e.symm, at?_lt hr⟩, h1, h2⟩
              · rw [at?_dropBor, at?_put, if_neg (fun h => hne h.1.symm)]
                exact ⟨hj', fun p pa e => by rw [e] at hm0; cases hm0⟩
        · trivial
      · trivial
  · trivial
  where
  take_setAt (cs us : List Value) (p m : Nat) (h : p + us.length ≤ m) (hm : m ≤ cs.length) : (setAt cs p us).take m = setAt (cs.take m) p us := by
    have e1 : (cs.take p ++ us).length = p + us.length := by rw [List.length_append, List.length_take]; omega
    simp only [setAt]
    rw [List.take_append, List.take_of_length_le (l := cs.take p ++ us) (by omega), e1, List.take_take, Nat.min_eq_left (by omega), List.drop_take]
  flat_drop {sz : Nat} : ∀ {css : List (List Value)} {j : Nat} {c : List Value}, (∀ d ∈ css, d.length = sz) → css[j]? = some c → (css.flatten.drop (j * sz)).take c.length = c
    | d :: r, 0, c, h, hc => by
      simp at hc
      subst hc
      simp
    | d :: r, j + 1, c, h, hc => by
      have hd := h d (by simp)
      rw [List.flatten_cons, List.drop_append, List.drop_eq_nil_of_le (by rw [Nat.succ_mul]; omega), List.nil_append, show (j + 1) * sz - d.length = j * sz by rw [Nat.succ_mul]; omega]
      exact flat_drop (fun d hd => h d (by simp [hd])) (by simpa using hc)
theorem stStore_ok (hE : EnvOK C.P E) (hC : CxOK C) (hs : Sim C big g a w) (hsub : Sub fr big) (hc : Holds a ch) (o : Oper) (t : TypeId) (x y : Operand) (ho : o.op = .store t x y) : Good C g a fr big ((execOp a.eval o).run C.P w) (stStore E fr ch t x y) := by
  have ty : ∀ n ag, tyN E t = some (n, ag) → ∃ s : Sh, TyOK C.P t s ∧ s.n = n := by
    intro n ag h
    unfold tyN at h
    split at h
    · rename_i ty hl
      cases h
      exact ⟨ty.sh, (hE.ty _ _ hl).ok, rfl⟩
    · cases h
  unfold stStore
  split
  · rename_i i off ag vs n ag' h1 h2 h3
    obtain ⟨s, hT, hn⟩ := ty _ _ h3
    subst hn
    exact stStoreBox_ok hC hs hsub o t x y ho hT (op1_rel (hs.sub hsub) hc h1) (opl_rel (hs.sub hsub) hc h2)
  · rename_i i j off ag vs n ag' h1 h2 h3
    obtain ⟨s, hT, hn⟩ := ty _ _ h3
    subst hn
    exact stStoreElem_ok hC hs hsub o t x y ho hT (op1_rel (hs.sub hsub) hc h1) (opl_rel (hs.sub hsub) hc h2)
  · trivial
end Go.Proofs.Ytbgdojniimdihaa.X
