/- What stands behind a call. -/
import Derived.Test.YtbgdojniimdihaaXCall
namespace Go.Proofs.Ytbgdojniimdihaa.X
open Go Go.RowKit
variable {C : Cx} {fr : Fr} {big : FF} {g : Sg} {a : Act} {w w' : World} {ch : List (Nat × Bool)} {E : Env}
/-- the table behind a call: what the call did not take, and rows that it has written -/
def Backs (V : FP) (big : FF) (g : Sg) (w' : World) (rw' rw2 : Nat → Option RowE) : Prop :=
  ∀ j r2, rw2 j = some r2 → rw' j = some r2 ∨ ∃ r0 q, big.rw j = some r0 ∧ r0.m.mine = true ∧ r2.m = r0.m ∧ r2.s.n = r0.s.n ∧ g.ρ j = some q ∧ OwnL r2.e r2.s w' q.F q.v r2.xs ∧ ∀ k, q.F k → V k
theorem Sim.afterCall {V : FP} (hC : CxOK C) (h : Sim C big g a w) {rw' rw2 : Nat → Option RowE} (hT : Took none big.rw rw') {D : FP} (hM : Moves D w w') (hD : ∀ k, D k → Own big.rw g k ∧ ¬ Own rw' g k) (h2 : Backs V big g w' rw' rw2) (h3 : ∀ j r0, rw' j = some r0 → rw2 j = some r0) : Sim C { big with rw := rw2 } g a w' := by
  have hDz : ∀ k, D k → C.w0.heap.size ≤ k ∨ C.S k := fun k hk => (Own.zone h (hD k hk).1).1
  have mineOf : ∀ j r0, rw2 j = some r0 → r0.m.mine = true → ∃ r1, big.rw j = some r1 ∧ r1.m.mine = true := by
    intro j r0 hj hm0
    rcases h2 j r0 hj with h1 | ⟨r1, q, h1, hm1, _⟩
    · exact ⟨r0, hT.mine h1 hm0, hm0⟩
    · exact ⟨r1, h1, hm1⟩
  refine { h with kept := hM.kept h.kept hDz, boxes := ?_, rows := ?_, rdisj := ?_, rbox := ?_ }
  · intro j b hb
    refine (h.boxes j b hb).moves hM fun k hk hd => ?_
    cases ho : b.own with
    | true => exact Own.notBox h (hD k hd).1 hb ho hk
    | false =>
      obtain ⟨k', cs, t, hk', _, _, _, hr'⟩ := h.boxes j b hb
      rw [hk] at hk'
      cases hk'
      exact Own.notR hC h (hD k hd).1 (hr' ho)
  · intro j r2 hj
    change rw2 j = some r2 at hj
    rcases h2 j r2 hj with h1 | ⟨r0, q, hb, hm, e1, e2, hq, hO, _⟩
    · have hbig : big.rw j = some r2 := by
        rcases hT.row j r2 h1 with h | ⟨_, _, h, _⟩
        · exact h
        · cases h
      obtain ⟨q, A, n, c, hq, hv, hn, hrd, hF⟩ := row_read h hT h1
      refine (h.rows j r2 hbig).moves hM (fun qj hqj k hk hd => ?_) (fun p pa e rp hrp hmp => ?_) (fun p pa rp qp e hrp hmp hqp A n c hv hn => ((h.rows p rp hrp).mine hmp hqp).1.block hv)
      · rw [hq] at hqj
        cases hqj
        rcases hF.2.1 k hk with hk' | hk'
        · exact Own.notR hC h (hD k hd).1 hk'
        · exact (hD k hd).2 hk'
      · rcases hT.par j r2 p pa h1 e with ⟨_, h4⟩ | h4
        · have hp := h4 rp hrp hmp
          exact ⟨⟨rp, h3 p rp hp, hmp, rfl⟩, fun qp hqp k hk hd => (hD k hd).2 ⟨p, rp, qp, hp, hmp, hqp, hk⟩⟩
        · cases h4
    · obtain ⟨q', A, n, c, hq', hv, hsz, hl, hZ⟩ := h.rows j r0 hb
      rw [hq] at hq'
      cases hq'
      refine ⟨q, A, n, c, hq, hv, by rw [hsz, e2], fun k hk => Nat.lt_of_lt_of_le (hl k hk) hM.size, ?_⟩
      cases hmm : r0.m with
      | own => rw [Zone, hmm] at hZ; rw [Zone, e1, hmm]; exact ⟨hO, hZ.2⟩
      | io => rw [Zone, hmm] at hZ; rw [Zone, e1, hmm]; exact ⟨hO, hZ.2⟩
      | ro => rw [hmm] at hm; cases hm
      | bor p pa => rw [hmm] at hm; cases hm
  · intro i1 j1 r1 r2 q1 q2 k h1 h2' m1 m2
    obtain ⟨r1', f1, f1'⟩ := mineOf i1 r1 h1 m1
    obtain ⟨r2', f2, f2'⟩ := mineOf j1 r2 h2' m2
    exact h.rdisj i1 j1 r1' r2' q1 q2 k f1 f2 f1' f2'
  · intro i1 r1 q1 j b k h1 m1
    obtain ⟨r1', f1, f1'⟩ := mineOf i1 r1 h1 m1
    exact h.rbox i1 r1' q1 j b k f1 f1'
/-- a slice of flat elements needs its own block alone -/
theorem OwnL.flatF {e : Nat} {s : Sh} (hf : s.flat = true) {w : World} {F F' : FP} {v : Value} {xs : List s.T} (h : OwnL e s w F v xs) (hb : ∀ k, v.ownBlock = some k → F' k) : OwnL e s w F' v xs := by
  obtain ⟨css, ho, hl, hc, _, G, _, _, hm⟩ := h
  exact ⟨css, ho, hl, hc, hb, fun _ _ => False, fun _ _ h => h.elim, fun _ _ _ _ h => h.elim, fun j x c hx hcj => RC.flatOC s hf (OC.read (P := default) s (hm j x c hx hcj))⟩
/-- which rows a value that was handed over held -/
theorem takeL_row {m : Option Nat} {e : Nat} {s : Sh} {rc rc1 : List (Option RowE)} {i : Nat} {xs : List s.T} (h : takeL Md.mine m e s rc (.row i) = some (xs, rc1)) : ∃ r, at? rc i = some r ∧ r.m.mine = true ∧ r.e = e ∧ r.s = s ∧ (m = none → at? rc1 i = none) := by
  simp only [takeL] at h
  split at h
  · rename_i q hq
    split at h
    · rename_i he
      cases ho : q.m.mine
      · rw [ho] at h; cases h
      · rw [ho, cond_true] at h
        split at h
        · rename_i hs
          cases h
          refine ⟨q, hq, ho, he, hs, fun hm => ?_⟩
          subst hm
          cases hn : at? (dropBor i (put? rc i (Option.map (fun p => { q with m := Md.bor p none }) none))) i with
          | none => rfl
          | some r => rw [at?_dropBor, at?_put, if_pos ⟨rfl, at?_lt hq⟩] at hn; cases hn.1
        · cases h
    · cases h
  · cases h
theorem takeL_rw {e : Nat} {s : Sh} {rc rc1 : List (Option RowE)} {i : Nat} {xs : List s.T} (h : takeL Md.mine none e s rc (.row i) = some (xs, rc1)) : rc1 = dropBor i (put? rc i none) := by
  simp only [takeL] at h
  split at h
  · split at h
    · rename_i q _ _
      cases ho : q.m.mine
      · rw [ho] at h; cases h
      · rw [ho, cond_true] at h
        split at h
        · cases h; rfl
        · cases h
    · cases h
  · cases h
theorem takeL_took {e : Nat} {s : Sh} {rc rc1 : List (Option RowE)} {i : Nat} {xs : List s.T} (h : takeL Md.mine none e s rc (.row i) = some (xs, rc1)) : Took none (at? rc) (at? rc1) := by
  obtain ⟨r, hr, hm, _⟩ := takeL_row h
  rw [takeL_rw h]
  exact dropBor_took hr hm _ (.inl rfl)
/-- rows that are written and come back -/
def hio : List (PM × Sh) → List FP → FP
  | (m, _) :: ps, F :: Fs => fun k => (m = .io ∧ F k) ∨ hio ps Fs k
  | _, _ => fun _ => False
theorem hio_hands : ∀ {ps : List (PM × Sh)} {Fs : List FP} {k : Nat}, hio ps Fs k → hands ps Fs k
  | [], _, _, h => (show False from h).elim
  | (m, s) :: ps, [], k, h => (show False from h).elim
  | (m, s) :: ps, F :: Fs, k, h => by
    rcases h with ⟨h, hF⟩ | h
    · subst h; exact .inl ⟨rfl, hF⟩
    · exact .inr (hio_hands h)
theorem hio_not : ∀ {ps : List (PM × Sh)} {Fs : List FP} {k : Nat}, Apart ps Fs → hio ps Fs k → ¬ gives ps Fs k
  | [], _, _, _, h, _ => (show False from h).elim
  | (m, s) :: ps, [], k, _, h, _ => (show False from h).elim
  | (m, s) :: ps, F :: Fs, k, ha, h, h' => by
    rcases h with ⟨h, hF⟩ | h
    · subst h
      rcases h' with ⟨h', _⟩ | h'
      · cases h'
      · exact (ha.1 k hF).1 (gives_hands h')
    · rcases h' with ⟨h', hF⟩ | h'
      · exact (ha.1 k hF).1 (hio_hands h)
      · exact hio_not ha.2 h h'
/-- one row is put back -/
theorem Backs.put {V : FP} {rw' rw2 : List (Option RowE)} (h : Backs V big g w' (at? rw') (at? rw2)) (h3 : ∀ j r0, at? rw' j = some r0 → at? rw2 j = some r0) {i : Nat} {r0 r2 : RowE} {q : RowC} (hi : at? rw' i = none) (hb : big.rw i = some r0) (hm : r0.m.mine = true) (e1 : r2.m = r0.m) (e2 : r2.s.n = r0.s.n) (hq : g.ρ i = some q) (hO : OwnL r2.e r2.s w' q.F q.v r2.xs) (hVq : ∀ k, q.F k → V k) :
    Backs V big g w' (at? rw') (at? (put? rw2 i (some r2))) ∧ (∀ j r0, at? rw' j = some r0 → at? (put? rw2 i (some r2)) j = some r0) := by
  refine ⟨fun j r hj => ?_, fun j r hj => ?_⟩
  · rw [at?_put] at hj
    split at hj
    · rename_i e
      obtain ⟨rfl, _⟩ := e
      cases hj
      exact .inr ⟨r0, q, hb, hm, e1, e2, hq, hO, hVq⟩
    · exact h j r hj
  · rw [at?_put, if_neg (fun e => by rw [← e.1, hi] at hj; cases hj)]
    exact h3 j r hj
/-- what holds of the rows while they are put back -/
structure BackInv (V : FP) (big : FF) (g : Sg) (w' : World) (rw' rw2 : List (Option RowE)) : Prop where
  b : Backs V big g w' (at? rw') (at? rw2)
  k : ∀ j r0, at? rw' j = some r0 → at? rw2 j = some r0
  len : rw2.length = rw'.length
theorem row_header (h : Sim C big g a w) {rc : Nat → Option RowE} (hT : Took none big.rw rc) {i : Nat} {r : RowE} (hr : rc i = some r) (hm : r.m.mine = true) : big.rw i = some r := hT.mine hr hm
/-- putting back, where all elements are flat -/
theorem putBack_flat {V : FP} (hs : Sim C fr.f g a w) {rw' : List (Option RowE)} : (s : Sh) → s.flatL = true → ∀ {ls rest : List Lf} {rc rc1 rw2 : List (Option RowE)} {x0 x : s.T} {us cs us2 : List Value} {F : FP}, ls.any Lf.isView = false → Took none (at? fr.rw) (at? rc) → take Md.mine none s ls rc = some (x0, rest, rc1) → Took none (at? rc1) (at? rw') → LfsR C g ls us → us = cs ++ us2 → cs.length = s.n → OC s w' F x cs → (∀ k, Own (at? rc) g k ∧ ¬ Own (at? rc1) g k → V k) → BackInv V fr.f g w' rw' rw2 →
    (putBack fr.rw s ls x rw2).1 = rest ∧ LfsR C g rest us2 ∧ BackInv V fr.f g w' rw' (putBack fr.rw s ls x rw2).2
  | .int k, _, ls, rest, rc, rc1, rw2, x0, x, us, cs, us2, F, hv, hT, htk, hT', hl, e, hlen, hO, hVV, hB => by
    simp only [take] at htk
    split at htk
    · split at htk
      · cases htk
        obtain ⟨u, t, rfl, hu, ht⟩ := hl
        cases hO
        cases e
        exact ⟨rfl, ht, hB⟩
      · cases htk
    · cases htk
  | .bool, _, ls, rest, rc, rc1, rw2, x0, x, us, cs, us2, F, hv, hT, htk, hT', hl, e, hlen, hO, hVV, hB => by
    simp only [take] at htk
    split at htk
    · cases htk
      obtain ⟨u, t, rfl, hu, ht⟩ := hl
      cases hO
      cases e
      exact ⟨rfl, ht, hB⟩
    · cases htk
  | .str, _, ls, rest, rc, rc1, rw2, x0, x, us, cs, us2, F, hv, hT, htk, hT', hl, e, hlen, hO, hVV, hB => by
    simp only [take] at htk
    split at htk
    · cases htk
      obtain ⟨u, t, rfl, hu, ht⟩ := hl
      cases hO
      cases e
      exact ⟨rfl, ht, hB⟩
    · cases htk
  | .list ty s, hf, ls, rest, rc, rc1, rw2, x0, x, us, cs, us2, F, hv, hT, htk, hT', hl, e, hlen, hO, hVV, hB => by
    simp only [take] at htk
    split at htk
    · rename_i l r
      split at htk
      · rename_i xs rc' hL
        cases htk
        obtain ⟨u, t, rfl, hu, ht⟩ := hl
        obtain ⟨v, rfl, hO⟩ := hO
        injection e with e1 e2
        subst e1
        subst e2
        refine ⟨rfl, ht, ?_⟩
        cases l <;> try (first | (simp only [takeL] at hL; cases hL; done) | exact hB)
        · rename_i i
          obtain ⟨r0, hr0, hm0, he0, hs0, hgone⟩ := takeL_row hL
          have hgone := hgone rfl
          have hbig : at? fr.rw i = some r0 := hT.mine hr0 hm0
          have hi : at? rw' i = none := by
            cases hn : at? rw' i with
            | none => rfl
            | some r =>
              rcases hT'.row i r hn with h | ⟨_, _, h, _⟩
              · rw [hgone] at h; cases h
              · cases h
          obtain ⟨q, A, n, c, hq, hqv, hu'⟩ := hu
          have hOq := ((hs.rows i r0 hbig).mine hm0 hq).1
          have hput : (putBack fr.rw (.list ty s) (.row i :: rest) x rw2).2 = put? rw2 i (some ⟨ty, s, x, r0.m⟩) := by
            simp only [putBack, hbig]
          rw [hput]
          have hvq : u = q.v := by rw [hu', hqv]
          obtain ⟨b1, b2⟩ := hB.b.put hB.k (r0 := r0) (r2 := ⟨ty, s, x, r0.m⟩) hi hbig hm0 rfl (by simp [hs0]) hq (by
            rw [← hvq]
            refine OwnL.flatF hf hO fun k hk => ?_
            obtain ⟨_, _, _, _, hblk, _⟩ := hOq
            exact hblk k (by rw [← hvq]; exact hk)) (fun k hk => hVV k (Own.gone (hs.tab.took hT) (takeL_took hL) hr0 hm0 hq (fun r' hr' => by rw [hgone] at hr'; cases hr') hk))
          exact ⟨b1, b2, by rw [put?_length, hB.len]⟩
      · cases htk
    · cases htk
  | .cons s t, hf, ls, rest, rc, rc1, rw2, x0, x, us, cs, us2, F, hv, hT, htk, hT', hl, e, hlen, hO, hVV, hB => by
    simp only [Sh.flatL, Bool.and_eq_true] at hf
    simp only [take] at htk
    split at htk
    · rename_i y l1 rcm h1
      split at htk
      · rename_i z l2 rc2 h2
        cases htk
        obtain ⟨c1, c2, rfl, G, H, _, _, _, o1, o2⟩ := hO
        have hok : ∀ x, Md.mine x = true → x.mine = true ∧ ((none : Option Nat) ≠ none → x = .own) := fun m hm => ⟨hm, fun e => absurd rfl e⟩
        obtain ⟨_, t1, _, _, e1, r1, _⟩ := take_ok (g := g) (w := w) (C := C) hok s h1 hl (hs.tab.took hT)
        obtain ⟨_, t2, _⟩ := take_ok (g := g) (w := w) (C := C) hok t h2 r1 ((hs.tab.took hT).took t1)
        obtain ⟨p1, p2, p3⟩ := putBack_flat hs s hf.1 hv hT h1 (t2.trans hT') hl (by rw [e, List.append_assoc]) (OC.len s o1) o1 (fun k hk => hVV k ⟨hk.1, fun h => hk.2 (h.took t2)⟩) hB
        have hv1 : l1.any Lf.isView = false := by
          obtain ⟨pre, hpre⟩ := take_suffix s h1
          rw [hpre, List.any_append, Bool.or_eq_false_iff] at hv
          exact hv.2
        obtain ⟨p4, p5, p6⟩ := putBack_flat hs t hf.2 hv1 (hT.trans t1) h2 hT' p2 rfl (OC.len t o2) o2 (fun k hk => hVV k ⟨hk.1.took t1, hk.2⟩) p3
        simp only [putBack, p1]
        exact ⟨p4, p5, p6⟩
      · cases htk
    · cases htk
  | .fn1 _ _, hf, _, _, _, _, _, _, _, _, _, _, _, _, _, _, _, _, _, _, _, _, _ => by cases hf
  | .fn2 _ _ _, hf, _, _, _, _, _, _, _, _, _, _, _, _, _, _, _, _, _, _, _, _, _ => by cases hf
  where
  take_suffix {ok : Md → Bool} {m : Option Nat} : (s : Sh) → ∀ {ls rest rc rc1 x}, take ok m s ls rc = some (x, rest, rc1) → ∃ pre, ls = pre ++ rest
    | .int _, ls, rest, rc, rc1, x, h => by
      simp only [take] at h
      split at h
      · split at h
        · cases h; exact ⟨[_], rfl⟩
        · cases h
      · cases h
    | .bool, ls, rest, rc, rc1, x, h => by
      simp only [take] at h
      split at h
      · cases h; exact ⟨[_], rfl⟩
      · cases h
    | .str, ls, rest, rc, rc1, x, h => by
      simp only [take] at h
      split at h
      · cases h; exact ⟨[_], rfl⟩
      · cases h
    | .list _ _, ls, rest, rc, rc1, x, h => by
      simp only [take] at h
      split at h
      · split at h
        · cases h; exact ⟨[_], rfl⟩
        · cases h
      · cases h
    | .cons a b, ls, rest, rc, rc1, x, h => by
      simp only [take] at h
      split at h
      · rename_i h1
        split at h
        · rename_i h2
          cases h
          obtain ⟨p1, rfl⟩ := take_suffix a h1
          obtain ⟨p2, rfl⟩ := take_suffix b h2
          exact ⟨p1 ++ p2, by simp⟩
        · cases h
      · cases h
    | .fn1 _ _, ls, rest, rc, rc1, x, h => by simp [take] at h
    | .fn2 _ _ _, ls, rest, rc, rc1, x, h => by simp [take] at h
/-- rows of the frame's own are put down -/
theorem Sim.expandO : (s : Sh) → ∀ {x : s.T} {F : FP} {cs : List Value} {n : Nat} {fr : FF} {g : Sg}, Sim C fr g a w → s.data = true → OC s w F x cs → (∀ k, F k → k < w.heap.size ∧ (C.w0.heap.size ≤ k ∨ C.S k) ∧ ¬ Own fr.rw g k ∧ ∀ j b, fr.bx j = some b → b.own = true → g.β j ≠ some k) →
    (∀ j, n ≤ j → j < n + (expand .own s x n).2.length → g.ρ j = none) →
    ∃ g', g.Le g' ∧ (∀ j, ¬ (n ≤ j ∧ j < n + (expand .own s x n).2.length) → g'.ρ j = g.ρ j) ∧ g'.β = g.β ∧ Sim C { fr with rw := more n (expand .own s x n).2 fr.rw } g' a w ∧ LfsR C g' (expand .own s x n).1 cs ∧ (∀ k, Own (more n (expand .own s x n).2 fr.rw) g' k → Own fr.rw g k ∨ F k) ∧ (∀ j q, n ≤ j → j < n + (expand .own s x n).2.length → g'.ρ j = some q → ∀ k, q.F k → F k)
  | .int k, x, F, cs, n, fr, g, h, _, hr, _, _ => ⟨g, Sg.Le.refl g, fun _ _ => rfl, rfl, by simpa only [expand, more_nil] using h, by cases hr; exact ⟨_, _, rfl, rfl, rfl⟩, (fun k hk => by simp only [expand, more_nil] at hk; exact .inl hk), fun j q h1 h2 => absurd h2 (by simp [expand]; omega)⟩
  | .bool, x, F, cs, n, fr, g, h, _, hr, _, _ => ⟨g, Sg.Le.refl g, fun _ _ => rfl, rfl, by simpa only [expand, more_nil] using h, by cases hr; exact ⟨_, _, rfl, rfl, rfl⟩, (fun k hk => by simp only [expand, more_nil] at hk; exact .inl hk), fun j q h1 h2 => absurd h2 (by simp [expand]; omega)⟩
  | .str, x, F, cs, n, fr, g, h, _, hr, _, _ => ⟨g, Sg.Le.refl g, fun _ _ => rfl, rfl, by simpa only [expand, more_nil] using h, by cases hr; exact ⟨_, _, rfl, rfl, rfl⟩, (fun k hk => by simp only [expand, more_nil] at hk; exact .inl hk), fun j q h1 h2 => absurd h2 (by simp [expand]; omega)⟩
  | .list e t, x, F, cs, n, fr, g, h, _, hr, hF, hfree => by
    have hi : g.ρ n = none := hfree n (Nat.le_refl _) (by simp [expand])
    obtain ⟨v, rfl, hO⟩ := hr
    obtain ⟨A, c, ev, _⟩ := ownsRow_form (OwnL_owns hO)
    let q : RowC := ⟨v, F, t.n⟩
    refine ⟨g.row n q, Sg.le_row hi q, fun j hj => Sg.row_ne _ _ (fun e' => hj (by simp [expand, e'])), rfl, ?_, ⟨_, _, rfl, ⟨q, A, _, c, Sg.row_at _ _ _, ev, ev⟩, rfl⟩, ?_, fun j q' h1 h2 hq' k hk => by
      have : j = n := by simp only [expand, List.length_singleton] at h2; omega
      subst this
      rw [Sg.row_at] at hq'
      cases hq'
      exact hk⟩
    · simp only [expand, more_one]
      refine h.newRow hi (fun _ => rfl) ⟨q, A, _, c, Sg.row_at _ _ _, ev, rfl, fun k hk => (hF k hk).1, hO, fun k hk => (hF k hk).2.1⟩ (fun _ k hk => ⟨fun j r' q' hj hm hq hk' => (hF k hk).2.2.1 ⟨j, r', q', hj, hm, hq, hk'⟩, (hF k hk).2.2.2⟩)
    · rintro k ⟨j, r, q', hj, hm, hq, hk⟩
      simp only [expand, more_one] at hj
      split at hj
      · rename_i ej
        subst ej
        rw [Sg.row_at] at hq
        cases hq
        exact .inr hk
      · rename_i ej
        rw [Sg.row_ne _ _ ej] at hq
        exact .inl ⟨j, r, q', hj, hm, hq, hk⟩
  | .cons s t, x, F, cs, n, fr, g, h, hd, hr, hF, hfree => by
    simp only [Sh.data, Bool.and_eq_true] at hd
    obtain ⟨c1, c2, rfl, G, H, hG, hH, hGH, r1, r2⟩ := hr
    have hfree' : ∀ j, n ≤ j → j < n + ((expand .own s x.1 n).2.length + (expand .own t x.2 (n + (expand .own s x.1 n).2.length)).2.length) → g.ρ j = none := fun j h1 h2 => hfree j h1 (by simpa [expand] using h2)
    obtain ⟨g1, le1, out1, b1, s1, l1, o1, f1⟩ := Sim.expandO s (n := n) h hd.1 r1 (fun k hk => hF k (hG k hk)) (fun j h1 h2 => hfree' j h1 (by omega))
    obtain ⟨g2, le2, out2, b2, s2, l2, o2, f2⟩ := Sim.expandO t (n := n + (expand .own s x.1 n).2.length) s1 hd.2 r2 (fun k hk => by
      obtain ⟨h1, h2, h3, h4⟩ := hF k (hH k hk)
      refine ⟨h1, h2, fun ho => ?_, fun j b hb hbo => by rw [b1]; exact h4 j b hb hbo⟩
      rcases o1 k ho with h5 | h5
      · exact h3 h5
      · exact hGH k h5 hk) (fun j h1 h2 => by rw [out1 j (by omega)]; exact hfree' j (by omega) (by omega))
    have hmm : more n (expand .own (.cons s t) x n).2 fr.rw = more (n + (expand .own s x.1 n).2.length) (expand .own t x.2 (n + (expand .own s x.1 n).2.length)).2 (more n (expand .own s x.1 n).2 fr.rw) := by
      rw [more_append]
      rfl
    refine ⟨g2, le1.trans le2, fun j hj => ?_, b2.trans b1, ?_, ?_, ?_, fun j q h1 h2 hq k hk => ?_⟩
    rotate_left 4
    · simp only [expand, List.length_append] at h2
      by_cases hj : j < n + (expand .own s x.1 n).2.length
      · rw [out2 j (by omega)] at hq
        exact hG k (f1 j q h1 hj hq k hk)
      · exact hH k (f2 j q (by omega) (by omega) hq k hk)
    · simp only [expand, List.length_append] at hj
      rw [out2 j (by omega), out1 j (by omega)]
    · rw [hmm]
      exact s2
    · exact (l1.mono le2).append l2
    · intro k hk
      rw [hmm] at hk
      rcases o2 k hk with h1 | h1
      · rcases o1 k h1 with h2 | h2
        · exact .inl h2
        · exact .inr (hG k h2)
      · exact .inr (hH k h1)
  | .fn1 _ _, _, _, _, _, _, _, _, hd, _, _, _ => by cases hd
  | .fn2 _ _ _, _, _, _, _, _, _, _, hd, _, _, _ => by cases hd
  where
  OwnL_owns {e : Nat} {s : Sh} {w : World} {F : FP} {v : Value} {xs : List s.T} (h : OwnL e s w F v xs) : w.ownsRow 0 e s.n v xs.length (Classical.choose h).flatten := (Classical.choose_spec h).1
theorem packB_inj {b : Bool} {cs ds : List Value} (h : packB b cs = packB b ds) (h1 : b = false → cs.length = 1) (h2 : b = false → ds.length = 1) : cs = ds := by
  cases b with
  | true => simpa [packB] using h
  | false =>
    match cs, h1 rfl, ds, h2 rfl with
    | [x], _, [y], _ => simpa [packB] using h
theorem backs_ok {V : FP} (hs : Sim C fr.f g a w) {Z : FP} {rw' : List (Option RowE)} {rs : List Sh} : ∀ {ps : List (PM × Sh)} {vs : List (Bool × List Lf)} {us : List Value} {rc rw2 : List (Option RowE)} {y : RT (outs ps ++ rs)} {K : RT rs → Prop}, TupR C g vs us → Took none (at? fr.rw) (at? rc) → args1 ps vs rc = some rw' →
    Outs w' ps rs us (argFs g Z ps vs rc) y K → (∀ k, hio ps (argFs g Z ps vs rc) k → V k) → BackInv V fr.f g w' rw' rw2 → BackInv V fr.f g w' rw' (backs fr.rw ps vs y rw2).1 ∧ K (backs fr.rw ps vs y rw2).2
  | [], [], us, rc, rw2, y, K, ht, hT, h1, hO, hVV, hB => ⟨hB, hO⟩
  | [], _ :: _, us, rc, rw2, y, K, ht, hT, h1, hO, hVV, hB => by simp [args1] at h1
  | (m, s) :: ps, [], us, rc, rw2, y, K, ht, hT, h1, hO, hVV, hB => by simp [args1] at h1
  | (.ro, s) :: ps, (ag, cs) :: vs, us, rc, rw2, y, K, ⟨u, us', e, hu, ht⟩, hT, h1, hO, hVV, hB => by
    subst e
    exact backs_ok hs (ps := ps) ht hT h1 hO (fun k hk => hVV k (.inr hk)) hB
  | (.cap, s) :: ps, (ag, cs) :: vs, us, rc, rw2, y, K, ⟨u, us', e, hu, ht⟩, hT, h1, hO, hVV, hB => by
    subst e
    exact backs_ok hs (ps := ps) ht hT h1 hO (fun k hk => hVV k (.inr hk)) hB
  | (.mv, s) :: ps, (ag, cs) :: vs, us, rc, rw2, y, K, ⟨u, us', e, hu, ht⟩, hT, h1, hO, hVV, hB => by
    subst e
    simp only [args1] at h1
    split at h1
    · rename_i x rc1 htk
      obtain ⟨ls, hls, hlr, hag⟩ := hu
      obtain ⟨_, t1, _⟩ := take_ok (g := g) (w := w) (C := C) (fun m hm => by
        have : m = .own := by simpa using hm
        subst this
        exact ⟨rfl, fun _ => rfl⟩) s htk hlr (hs.tab.took hT)
      have e0 : argFs g Z ((.mv, s) :: ps) ((ag, cs) :: vs) rc = (fun k => Own (at? rc) g k ∧ ¬ Own (at? rc1) g k) :: argFs g Z ps vs rc1 := by simp only [argFs, htk]
      rw [e0] at hO hVV
      exact backs_ok hs (ps := ps) ht (hT.trans t1) h1 hO (fun k hk => hVV k (.inr hk)) hB
    · cases h1
  | (.io, s) :: ps, (ag, cs) :: vs, us, rc, rw2, y, K, ⟨u, us', e, hu, ht⟩, hT, h1, hO, hVV, hB => by
    subst e
    simp only [args1] at h1
    cases hv : (cs.any Lf.isView || !ioSh s || !(s.agg == ag))
    · rw [hv, cond_false] at h1
      simp only [Bool.or_eq_false_iff, Bool.not_eq_false'] at hv
      obtain ⟨⟨hv, hio⟩, hsa⟩ := hv
      have hsa := eq_of_beq hsa
      split at h1
      · rename_i x rc1 htk
        obtain ⟨ls, hls, hlr, hag⟩ := hu
        have hok : ∀ x, Md.mine x = true → x.mine = true ∧ ((none : Option Nat) ≠ none → x = .own) := fun m hm => ⟨hm, fun e => absurd rfl e⟩
        obtain ⟨_, t1, _⟩ := take_ok (g := g) (w := w) (C := C) hok s htk hlr (hs.tab.took hT)
        have e0 : argFs g Z ((.io, s) :: ps) ((ag, cs) :: vs) rc = (fun k => Own (at? rc) g k ∧ ¬ Own (at? rc1) g k) :: argFs g Z ps vs rc1 := by simp only [argFs, htk]
        rw [e0] at hO hVV
        have hVF : ∀ k, Own (at? rc) g k ∧ ¬ Own (at? rc1) g k → V k := fun k hk => hVV k (.inl ⟨rfl, hk⟩)
        obtain ⟨⟨cs', ecs, hOC⟩, hO⟩ := hO
        have elc : ls = cs' := packB_inj (b := s.agg) (by rw [← ecs, hls, hsa]) (fun hb => by rw [hlr.len, hag (hsa ▸ hb)]) (fun hb => by rw [OC.len s hOC, Sh.n_one hb])
        subst elc
        have hT' := (args1_took (g := g) (w := w) (C := C) ht ((hs.tab.took hT).took t1) h1).1
        refine backs_ok hs (ps := ps) ht (hT.trans t1) h1 hO (fun k hk => hVV k (.inr hk)) ?_
        simp only
        cases hfl : s.flatL with
        | true =>
          exact (putBack_flat hs s hfl hv hT htk hT' hlr (List.append_nil _).symm (OC.len s hOC) hOC hVF hB).2.2
        | false =>
          cases s with
          | list ty t =>
            obtain ⟨v, e1, hOv⟩ := hOC
            subst e1
            simp only [take] at htk
            split at htk
            · rename_i l r
              split at htk
              · rename_i xs rc' hL
                cases htk
                obtain ⟨v', t', ev, hl, ht'⟩ := hlr
                cases ev
                cases l <;> try (first | (simp only [takeL] at hL; cases hL; done) | exact hB)
                · rename_i i
                  obtain ⟨r0, hr0, hm0, he0, hs0, hgone⟩ := takeL_row hL
                  have hgone := hgone rfl
                  have hbig : at? fr.rw i = some r0 := hT.mine hr0 hm0
                  have hi : at? rw' i = none := by
                    cases hn : at? rw' i with
                    | none => rfl
                    | some r =>
                      rcases hT'.row i r hn with h | ⟨_, _, h, _⟩
                      · rw [hgone] at h; cases h
                      · cases h
                  obtain ⟨q, A, n, c, hq, hqv, hu'⟩ := hl
                  have hvq : v = q.v := by rw [hu', hqv]
                  have hput : (putBack fr.rw (.list ty t) [.row i] (RT.hd (l := outs ps ++ rs) y) rw2).2 = put? rw2 i (some ⟨ty, t, RT.hd (l := outs ps ++ rs) y, r0.m⟩) := by
                    simp only [putBack, hbig]
                  rw [hput]
                  have hFq : ∀ k, Own (at? rc) g k ∧ ¬ Own (at? rc1) g k → q.F k := by
                    rintro k ⟨⟨j, rj, qj, h1, h2, h3, h4⟩, hn⟩
                    by_cases hji : j = i
                    · subst hji
                      rw [hq] at h3
                      cases h3
                      exact h4
                    · refine absurd ⟨j, rj, qj, ?_, h2, h3, h4⟩ hn
                      rw [takeL_rw hL, at?_dropBor, at?_put, if_neg (fun e => hji e.1.symm)]
                      exact ⟨h1, fun p a e => by rw [e] at h2; cases h2⟩
                  obtain ⟨b1, b2⟩ := hB.b.put hB.k (r0 := r0) (r2 := ⟨ty, t, RT.hd (l := outs ps ++ rs) y, r0.m⟩) hi hbig hm0 rfl (by simp [hs0]) hq (by
                    rw [← hvq]
                    exact OwnL.mono hFq hOv) (fun k hk => hVF k (Own.gone (hs.tab.took hT) (takeL_took hL) hr0 hm0 hq (fun r' hr' => by rw [hgone] at hr'; cases hr') hk))
                  exact ⟨b1, b2, by rw [put?_length, hB.len]⟩
              · cases htk
            · cases htk
          | _ => simp_all [ioSh, Sh.flatL]
      · cases h1
    · rw [hv] at h1; cases h1
/-- a call's results -/
theorem expandRs_ok : ∀ {rs : List Sh} {z : RT rs} {vs : List Value} {Gs : List FP} {n : Nat} {fr : FF} {g : Sg}, Sim C fr g a w → (∀ s ∈ rs, s.data = true) → Vals w rs z vs Gs → (∀ G ∈ Gs, ∀ k, G k → k < w.heap.size ∧ (C.w0.heap.size ≤ k ∨ C.S k) ∧ ¬ Own fr.rw g k ∧ ∀ j b, fr.bx j = some b → b.own = true → g.β j ≠ some k) →
    (∀ j, n ≤ j → j < n + (expandRs rs z n).2.length → g.ρ j = none) →
    ∃ g', g.Le g' ∧ (∀ j, ¬ (n ≤ j ∧ j < n + (expandRs rs z n).2.length) → g'.ρ j = g.ρ j) ∧ g'.β = g.β ∧ Sim C { fr with rw := more n (expandRs rs z n).2 fr.rw } g' a w ∧ TupR C g' (expandRs rs z n).1 vs
  | [], z, vs, Gs, n, fr, g, h, _, hV, _, _ => by
    cases hV.1
    exact ⟨g, Sg.Le.refl g, fun _ _ => rfl, rfl, by simpa only [expandRs, more_nil] using h, rfl⟩
  | s :: rs, z, vs, Gs, n, fr, g, h, hd, ⟨u, us', F, Fs', cs, e1, e2, eu, hO, hdis, hV⟩, hF, hfree => by
    subst e1
    subst e2
    have hfree' : ∀ j, n ≤ j → j < n + ((expand .own s (RT.hd z) n).2.length + (expandRs rs (RT.tl z) (n + (expand .own s (RT.hd z) n).2.length)).2.length) → g.ρ j = none := fun j h1 h2 => hfree j h1 (by simpa [expandRs] using h2)
    obtain ⟨g1, le1, out1, b1, s1, l1, o1, _⟩ := Sim.expandO s (n := n) h (hd s (by simp)) hO (fun k hk => hF F (by simp) k hk) (fun j h1 h2 => hfree' j h1 (by omega))
    obtain ⟨g2, le2, out2, b2, s2, l2⟩ := expandRs_ok (rs := rs) (n := n + (expand .own s (RT.hd z) n).2.length) s1 (fun t ht => hd t (by simp [ht])) hV (fun G hG k hk => by
      obtain ⟨h1, h2, h3, h4⟩ := hF G (by simp [hG]) k hk
      refine ⟨h1, h2, fun ho => ?_, fun j b hb hbo => by rw [b1]; exact h4 j b hb hbo⟩
      rcases o1 k ho with h5 | h5
      · exact h3 h5
      · exact hdis k h5 G hG hk) (fun j h1 h2 => by rw [out1 j (by omega)]; exact hfree' j (by omega) (by omega))
    have hmm : more n (expandRs (s :: rs) z n).2 fr.rw = more (n + (expand .own s (RT.hd z) n).2.length) (expandRs rs (RT.tl z) (n + (expand .own s (RT.hd z) n).2.length)).2 (more n (expand .own s (RT.hd z) n).2 fr.rw) := by
      rw [more_append]
      rfl
    refine ⟨g2, le1.trans le2, fun j hj => ?_, b2.trans b1, ?_, ?_⟩
    · simp only [expandRs, List.length_append] at hj
      rw [out2 j (by omega), out1 j (by omega)]
    · rw [hmm]
      exact s2
    · refine ⟨u, us', rfl, ⟨cs, eu, l1.mono le2, fun hb => ?_⟩, l2⟩
      rw [← l1.len, OC.len s hO, Sh.n_one hb]
end Go.Proofs.Ytbgdojniimdihaa.X
