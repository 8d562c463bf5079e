/- Structs and slices that are built; rows that are handed on. -/
import Derived.Test.YtbgdojniimdihaaXNew
import Derived.Great.BuildSlice
namespace Go.Proofs.Ytbgdojniimdihaa.X
open Go Go.RowKit
variable {C : Cx} {fr : Fr} {big : FF} {g : Sg} {a : Act} {w : World} {ch : List (Nat × Bool)} {E : Env}
/-- cells written side by side -/
def setAt (cs : List Value) (off : Nat) (vs : List Value) : List Value := cs.take off ++ vs ++ cs.drop (off + vs.length)
theorem fold_setAt (vs : Array Value) (off : Nat) (cs : Array Value) (h : off + vs.size ≤ cs.size) :
    vs.zipIdx.foldl (fun cs (x : Value × Nat) => cs.setIfInBounds (off + x.2) x.1) cs = (setAt cs.toList off vs.toList).toArray := by
  obtain ⟨g1, g2⟩ := Go.Great.foldl_set off vs.toList 0 cs
  rw [← Array.foldl_toList, Array.toList_zipIdx]
  apply Array.ext_getElem?
  intro k
  rw [g2 k]
  simp only [setAt, Nat.add_zero, List.getElem?_toArray, Array.length_toList]
  by_cases h1 : off ≤ k ∧ k < off + vs.size
  · rw [if_pos ⟨h1.1, h1.2, by omega⟩, List.append_assoc, List.getElem?_append_right (by simp; omega), List.getElem?_append_left (by simp; omega)]
    congr 1
    simp; omega
  · rw [if_neg (by omega)]
    by_cases h2 : k < off
    · rw [List.append_assoc, List.getElem?_append_left (by simp; omega), List.getElem?_take, if_pos h2]
      simp
    · rw [List.append_assoc, List.getElem?_append_right (by simp; omega), List.getElem?_append_right (by simp; omega), List.getElem?_drop]
      simp only [List.length_take, Array.length_toList]
      rw [Array.getElem?_toList]
      congr 1
      omega
theorem setAt_len {cs : List Value} {off : Nat} {vs : List Value} (h : off + vs.length ≤ cs.length) : (setAt cs off vs).length = cs.length := by
  simp [setAt]; omega
theorem fill_cons (place : Nat → Option (Nat × Nat)) (cs : List Value) (i : Nat) (v : Value) (rest : List (Nat × Value)) (off n : Nat) (hp : place i = some (off, n)) (vs : List Value) (hv : v.cells.toList = vs) (hn : vs.length = n) (hle : off + n ≤ cs.length) :
    Instr.fill place cs.toArray ((i, v) :: rest) = Instr.fill place (setAt cs off vs).toArray rest := by
  have hsz : v.cells.size = n := by rw [← hn, ← hv]; simp
  rw [Instr.fill, hp]
  simp only
  rw [if_neg (by simp [hsz]; omega), fold_setAt _ _ _ (by simp [hsz]; omega), hv]
theorem LfsR.setAt {cs vs : List Lf} {us xs : List Value} (h : LfsR C g cs us) (h' : LfsR C g vs xs) (off : Nat) : LfsR C g (fillAt cs off vs) (setAt us off xs) := by
  unfold fillAt X.setAt
  rw [h'.len]
  exact ((h.take off).append h').append (h.drop _)
theorem buildP_ok (hs : Sim C fr.f g a w) (hc : Holds a ch) (fs : List (Nat × Nat)) : ∀ {parts : List (Nat × Operand)} {cs cs' : List Lf} {us : List Value}, LfsR C g cs us → buildP fr ch fs parts cs = some cs' →
    ∃ us', Instr.fill (fs.toArray[·]?) us.toArray (parts.map fun p => (p.1, a.eval p.2)) = some us'.toArray ∧ LfsR C g cs' us'
  | [], cs, cs', us, hr, h => by cases h; exact ⟨us, rfl, hr⟩
  | (i, x) :: r, cs, cs', us, hr, h => by
    unfold buildP at h
    split at h
    · rename_i off n ag vs h1 h2
      cases hb : (Nat.beq vs.length n && Nat.ble (off + n) cs.length)
      · rw [hb] at h; cases h
      · rw [hb, cond_true] at h
        simp only [Bool.and_eq_true] at hb
        have e1 : vs.length = n := Nat.eq_of_beq_eq_true hb.1
        have e2 := ble_le hb.2
        obtain ⟨xs, e, hx, hag⟩ := opl_rel hs hc h2
        obtain ⟨us', hf, hr'⟩ := buildP_ok hs hc fs (hr.setAt hx off) h
        have hl := hr.len
        have hl' := hx.len
        refine ⟨us', ?_, hr'⟩
        rw [List.map_cons, fill_cons _ us i (a.eval x) _ off n (by simpa using h1) xs (by rw [e]; exact packB_cells (fun hb => by rw [hl', hag hb]) hx.one) (by omega) (by omega)]
        exact hf
    · cases h
/-! ### rows handed on -/
/-- blocks of the rows that are the frame's own -/
def Own (rw : Nat → Option RowE) (g : Sg) : FP := fun k => ∃ i r q, rw i = some r ∧ r.m.mine = true ∧ g.ρ i = some q ∧ q.F k
structure Tab (rw : Nat → Option RowE) (g : Sg) (w : World) : Prop where
  mine : ∀ i r, rw i = some r → r.m.mine = true → ∃ q A n c, g.ρ i = some q ∧ q.v = .slice A n c ∧ OwnL r.e r.s w q.F q.v r.xs
  disj : ∀ i j r r' q q' k, rw i = some r → rw j = some r' → r.m.mine = true → r'.m.mine = true → g.ρ i = some q → g.ρ j = some q' → q.F k → q'.F k → i = j
theorem Sim.tab {fr : FF} (h : Sim C fr g a w) : Tab fr.rw g w :=
  ⟨fun i r hr hm => by
    obtain ⟨q, A, n, c, hq, hv, _, _, hZ⟩ := h.rows i r hr
    exact ⟨q, A, n, c, hq, hv, (hZ.mine hm).1⟩, h.rdisj⟩
/-- a table behind a handing on: the rest, and rows that lie in q0 now -/
structure Took (m : Option Nat) (rw rw' : Nat → Option RowE) : Prop where
  row : ∀ j r', rw' j = some r' → rw j = some r' ∨ ∃ q0 r, m = some q0 ∧ rw j = some r ∧ r.m.mine = true ∧ r' = { r with m := .bor q0 none } ∧ r.m = .own
  par : ∀ j r p pa, rw' j = some r → r.m = .bor p pa → (rw j = some r ∧ ∀ r0, rw p = some r0 → r0.m.mine = true → rw' p = some r0) ∨ (m = some p)
theorem Took.refl (m : Option Nat) (rw : Nat → Option RowE) : Took m rw rw := ⟨fun _ _ h => .inl h, fun j r p pa h e => .inl ⟨h, fun _ h _ => h⟩⟩
theorem Took.mine {m : Option Nat} {rw rw' : Nat → Option RowE} (h : Took m rw rw') {j : Nat} {r : RowE} (hr : rw' j = some r) (hm : r.m.mine = true) : rw j = some r := by
  rcases h.row j r hr with h | ⟨q0, r0, _, _, _, e, _⟩
  · exact h
  · subst e; cases hm
theorem Tab.took {m : Option Nat} {rw rw' : Nat → Option RowE} (h : Tab rw g w) (ht : Took m rw rw') : Tab rw' g w :=
  ⟨fun i r hr hm => h.mine i r (ht.mine hr hm) hm, fun i j r r' q q' k h1 h2 m1 m2 => h.disj i j r r' q q' k (ht.mine h1 m1) (ht.mine h2 m2) m1 m2⟩
theorem Own.took {m : Option Nat} {rw rw' : Nat → Option RowE} (ht : Took m rw rw') {k : Nat} (h : Own rw' g k) : Own rw g k := by
  obtain ⟨i, r, q, h1, h2, h3, h4⟩ := h
  exact ⟨i, r, q, ht.mine h1 h2, h2, h3, h4⟩
theorem OwnsL.front {α : Type} {M : FP → α → List Value → Prop} {e sz : Nat} {w : World} {F : FP} {A : Option Addr} {n c : Nat} {xs : List α} (h : OwnsL M e sz w F (.slice A n c) xs) (n' : Nat) (hn : n' ≤ n) : OwnsL M e sz w F (.slice A n' c) (xs.take n') := by
  obtain ⟨css, ho, hl, hc, hb, G, hG, hd, hm⟩ := h
  have hxn : xs.length = n := by
    rcases ho.2 with ⟨e1, e2⟩ | ⟨g, cap, cur, e1, _⟩
    · injection e1 with _ e3; omega
    · injection e1 with _ e3
      exact e3.symm
  have hlt : (xs.take n').length = n' := by simp; omega
  have hfl : (css.take n').flatten = css.flatten.take (n' * sz) := take_flatten hc n'
  refine ⟨css.take n', ⟨?_, ?_⟩, by simp; omega, fun c hc' => hc c (List.mem_of_mem_take hc'), ?_, G, ?_, hd, ?_⟩
  · rw [hlt, hfl, List.length_take, ho.1, hxn, Nat.min_eq_left (Nat.mul_le_mul_right _ hn)]
  · rcases ho.2 with ⟨e1, e2⟩ | ⟨g, cap, cur, e1, h1, h2, h3, h4, h5, h6⟩
    · injection e1 with e3 e4 e5
      subst e3
      subst e5
      have : n' = 0 := by omega
      subst this
      exact .inl ⟨rfl, by simp⟩
    · injection e1 with e3 e4 e5
      subst e3
      subst e5
      refine .inr ⟨g, c, cur, by rw [hlt], h1, h2, by rw [hlt]; omega, h4, h5, ?_⟩
      rw [hlt, hfl, ← h6, List.take_take, hxn, Nat.min_eq_left (Nat.mul_le_mul_right _ hn)]
  · intro g' hg'
    exact hb g' (by cases A <;> first | (simp [Value.ownBlock] at hg'; done) | simpa [Value.ownBlock] using hg')
  · intro j k hk
    obtain ⟨h1, h2⟩ := hG j k hk
    exact ⟨h1, by cases A <;> first | (simp [Value.ownBlock]; done) | simpa [Value.ownBlock] using h2⟩
  · intro j x c hx hcj
    rw [List.getElem?_take] at hx hcj
    split at hx
    · rename_i hj
      rw [if_pos hj] at hcj
      exact hm j x c hx hcj
    · cases hx
  where
  take_flatten {sz : Nat} : ∀ {css : List (List Value)}, (∀ c ∈ css, c.length = sz ∧ ∀ u ∈ c, u.oneCell' = true) → ∀ n, (css.take n).flatten = css.flatten.take (n * sz)
    | _, _, 0 => by simp
    | [], _, n + 1 => by simp
    | d :: r, h, n + 1 => by
      have hd := (h d (by simp)).1
      rw [List.take_succ_cons, List.flatten_cons, List.flatten_cons, take_flatten (fun c hc => h c (by simp [hc])) n, Nat.succ_mul, List.take_append, List.take_of_length_le (l := d) (by omega), hd, Nat.add_sub_cancel]
theorem dropBor_took {m : Option Nat} {rw : List (Option RowE)} {i : Nat} {r : RowE} (hr : at? rw i = some r) (hmi : r.m.mine = true) (x : Option RowE) (hx : x = none ∨ ∃ q0, m = some q0 ∧ r.m = .own ∧ x = some { r with m := .bor q0 none }) : Took m (at? rw) (at? (dropBor i (put? rw i x))) := by
  have hlt := at?_lt hr
  refine ⟨fun j r' hj => ?_, fun j r' p pa hj e => ?_⟩
  · rw [at?_dropBor, at?_put] at hj
    split at hj
    · rename_i hij
      obtain ⟨rfl, _⟩ := hij
      rcases hx with rfl | ⟨q0, hq0, ho, rfl⟩
      · cases hj.1
      · have e := hj.1
        cases e
        exact .inr ⟨q0, r, hq0, hr, hmi, rfl, ho⟩
    · exact .inl hj.1
  · rw [at?_dropBor, at?_put] at hj
    split at hj
    · rename_i hij
      obtain ⟨rfl, _⟩ := hij
      rcases hx with rfl | ⟨q0, hq0, ho, rfl⟩
      · cases hj.1
      · have e' := hj.1
        cases e'
        simp only [Md.bor.injEq] at e
        exact .inr (by rw [hq0, e.1])
    · refine .inl ⟨hj.1, fun r0 h0 hm0 => ?_⟩
      have hne := hj.2 p pa e
      rw [at?_dropBor, at?_put, if_neg (fun h => hne h.1.symm)]
      exact ⟨h0, fun p' a' e' => by rw [e'] at hm0; cases hm0⟩
theorem Took.trans {m : Option Nat} {a b c : Nat → Option RowE} (h : Took m a b) (k : Took m b c) : Took m a c := by
  refine ⟨fun j r' hj => ?_, fun j r p pa hj e => ?_⟩
  · rcases k.row j r' hj with h1 | ⟨q0, r, h1, h2, h3, h4, h5⟩
    · exact h.row j r' h1
    · exact .inr ⟨q0, r, h1, h.mine h2 h3, h3, h4, h5⟩
  · rcases k.par j r p pa hj e with ⟨h1, h2⟩ | h1
    · rcases h.par j r p pa h1 e with ⟨h3, h4⟩ | h3
      · exact .inl ⟨h3, fun r0 h0 hm => h2 r0 (h4 r0 h0 hm) hm⟩
      · exact .inr h3
    · exact .inr h1
theorem castL_rfl {s : Sh} (h : s = s) (xs : List s.T) : castL h xs = xs := rfl
theorem Own.gone {rw rw' : Nat → Option RowE} {m : Option Nat} (ht : Tab rw g w) (hk : Took m rw rw') {i : Nat} {r : RowE} {q : RowC} (hr : rw i = some r) (hm : r.m.mine = true) (hq : g.ρ i = some q) (hg : ∀ r', rw' i = some r' → r'.m.mine = false) {k : Nat} (hF : q.F k) : Own rw g k ∧ ¬ Own rw' g k := by
  refine ⟨⟨i, r, q, hr, hm, hq, hF⟩, ?_⟩
  rintro ⟨j, r', q', h1, h2, h3, h4⟩
  have := ht.disj i j r r' q q' k hr (hk.mine h1 h2) hm h2 hq h3 hF h4
  subst this
  rw [hg r' h1] at h2
  cases h2
theorem takeL_ok {ok : Md → Bool} {m : Option Nat} (hok : ∀ x, ok x = true → x.mine = true ∧ (m ≠ none → x = .own)) {e : Nat} {s : Sh} {rw rw' : List (Option RowE)} {l : Lf} {xs : List s.T} {u : Value} (h : takeL ok m e s rw l = some (xs, rw')) (hl : LfR C g l u) (ht : Tab (at? rw) g w) :
    rw'.length = rw.length ∧ Took m (at? rw) (at? rw') ∧ OwnL e s w (fun k => Own (at? rw) g k ∧ ¬ Own (at? rw') g k) u xs := by
  cases l <;> simp only [takeL] at h
  case row i =>
    split at h
    · rename_i q hq
      split at h
      · rename_i he
        cases ho : ok q.m
        · rw [ho] at h; cases h
        · rw [ho, cond_true] at h
          split at h
          · rename_i hs
            cases h
            obtain ⟨hmi, hown⟩ := hok _ ho
            have hT : Took m (at? rw) (at? (dropBor i (put? rw i (m.map fun p => { q with m := .bor p none })))) := dropBor_took hq hmi _ (by
              cases m with
              | none => exact .inl rfl
              | some q0 => exact .inr ⟨q0, rfl, hown (by simp), rfl⟩)
            refine ⟨by rw [dropBor_length, put?_length], hT, ?_⟩
            obtain ⟨c, A, n, cc, hc, hv, hO⟩ := ht.mine i q hq hmi
            obtain ⟨q', A', n', c', hq', hv', hu⟩ := hl
            rw [hc] at hq'
            cases hq'
            have hu' : u = c.v := by rw [hu, hv']
            obtain ⟨e0, s0, xs0, m0⟩ := q
            simp only at he hs hO
            subst he
            subst hs
            rw [hu']
            refine OwnL.mono (fun k hk => Own.gone ht hT hq hmi hc (fun r' hr' => ?_) hk) hO
            rw [at?_dropBor, at?_put, if_pos ⟨rfl, at?_lt hq⟩] at hr'
            cases m with
            | none => cases hr'.1
            | some q0 => cases hr'.1; rfl
          · cases h
      · cases h
    · cases h
  case view i lo hi =>
    split at h
    · rename_i hlo
      split at h
      · rename_i q hq
        split at h
        · rename_i he
          cases ho : ok q.m
          · rw [ho] at h; cases h
          · rw [ho, cond_true] at h
            split at h
            · rename_i hs
              cases h
              obtain ⟨hmi, hown⟩ := hok _ ho
              have hT : Took m (at? rw) (at? (dropBor i (put? rw i none))) := dropBor_took hq hmi _ (.inl rfl)
              refine ⟨by rw [dropBor_length, put?_length], hT, ?_⟩
              obtain ⟨c, A, n, cc, hc, hv, hO⟩ := ht.mine i q hq hmi
              obtain ⟨q', A1, n1, c1, A2, n2, c2, hq', hv', hu, h0, h1, h2, h3, h4, h5⟩ := hl
              rw [hc] at hq'
              cases hq'
              obtain ⟨e1, e2⟩ := h4 hlo
              subst e1
              subst e2
              obtain ⟨e0, s0, xs0, m0⟩ := q
              simp only at he hs hO
              subst he
              subst hs
              have hn2 : n2 = hi.toNat := by omega
              rw [hu, hn2, castL_rfl]
              rw [hv'] at hO
              refine OwnL.mono (fun k hk => Own.gone ht hT hq hmi hc (fun r' hr' => ?_) hk) (OwnsL.front hO _ (by omega))
              rw [at?_dropBor, at?_put, if_pos ⟨rfl, at?_lt hq⟩] at hr'
              cases hr'.1
            · cases h
        · cases h
      · cases h
    · cases h
  case nil =>
    cases h
    cases hl
    exact ⟨rfl, Took.refl _ _, [], World.ownsRow_nil w 0 e s.n, rfl, by simp, by simp [Value.ownBlock], fun _ _ => False, by simp, by simp, by simp⟩
  all_goals cases h
/-- a typed value is handed on: it is the new owner's alone -/
theorem take_ok {ok : Md → Bool} {m : Option Nat} (hok : ∀ x, ok x = true → x.mine = true ∧ (m ≠ none → x = .own)) : (s : Sh) → ∀ {ls rest : List Lf} {rw rw' : List (Option RowE)} {x : s.T} {us : List Value}, take ok m s ls rw = some (x, rest, rw') → LfsR C g ls us → Tab (at? rw) g w →
    rw'.length = rw.length ∧ Took m (at? rw) (at? rw') ∧ ∃ c1 c2, us = c1 ++ c2 ∧ LfsR C g rest c2 ∧ OC s w (fun k => Own (at? rw) g k ∧ ¬ Own (at? rw') g k) x c1
  | .int k, ls, rest, rw, rw', x, us, h, hl, ht => by
    simp only [take] at h
    split at h
    · split at h
      · rename_i e
        subst e
        cases h
        obtain ⟨u, t, rfl, hu, hr⟩ := hl
        exact ⟨rfl, Took.refl _ _, [u], t, rfl, hr, by cases hu; rfl⟩
      · cases h
    · cases h
  | .bool, ls, rest, rw, rw', x, us, h, hl, ht => by
    simp only [take] at h
    split at h
    · cases h
      obtain ⟨u, t, rfl, hu, hr⟩ := hl
      exact ⟨rfl, Took.refl _ _, [u], t, rfl, hr, by cases hu; rfl⟩
    · cases h
  | .str, ls, rest, rw, rw', x, us, h, hl, ht => by
    simp only [take] at h
    split at h
    · cases h
      obtain ⟨u, t, rfl, hu, hr⟩ := hl
      exact ⟨rfl, Took.refl _ _, [u], t, rfl, hr, by cases hu; rfl⟩
    · cases h
  | .list e s, ls, rest, rw, rw', x, us, h, hl, ht => by
    simp only [take] at h
    split at h
    · rename_i l r
      split at h
      · rename_i xs rw1 hL
        cases h
        obtain ⟨u, t, rfl, hu, hr⟩ := hl
        obtain ⟨h1, h2, h3⟩ := takeL_ok hok hL hu ht
        exact ⟨h1, h2, [u], t, rfl, hr, u, rfl, h3⟩
      · cases h
    · cases h
  | .cons a b, ls, rest, rw, rw', x, us, h, hl, ht => by
    simp only [take] at h
    split at h
    · rename_i y l1 rw1 h1
      split at h
      · rename_i z l2 rw2 h2
        cases h
        obtain ⟨n1, t1, c1, c2, rfl, r1, o1⟩ := take_ok hok a h1 hl ht
        obtain ⟨n2, t2, c3, c4, rfl, r2, o2⟩ := take_ok hok b h2 r1 (ht.took t1)
        refine ⟨n2.trans n1, t1.trans t2, c1 ++ c3, c4, by simp, r2, c1, c3, rfl, _, _, ?_, ?_, ?_, o1, o2⟩
        · rintro k ⟨k1, k2⟩
          exact ⟨k1, fun k3 => k2 (k3.took t2)⟩
        · rintro k ⟨k1, k2⟩
          exact ⟨k1.took t1, k2⟩
        · rintro k ⟨k1, k2⟩ ⟨k3, k4⟩
          exact k2 k3
      · cases h
    · cases h
  | .fn1 _ _, ls, rest, rw, rw', x, us, h, hl, ht => by simp [take] at h
  | .fn2 _ _ _, ls, rest, rw, rw', x, us, h, hl, ht => by simp [take] at h
end Go.Proofs.Ytbgdojniimdihaa.X
