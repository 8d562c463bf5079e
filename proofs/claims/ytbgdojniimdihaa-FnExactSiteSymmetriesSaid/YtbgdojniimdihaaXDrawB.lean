/- Regions that draw their order: any order comes to the same frame. -/
import Derived.Test.YtbgdojniimdihaaXDraw
namespace Go.Proofs.Ytbgdojniimdihaa.X
open Go Go.RowKit
variable {C : Cx} {fr s : Fr} {big : FF} {g : Sg} {a : Act} {w w' : World} {ch : List (Nat × Bool)} {E : Env}
/-! ### frames that answer the same -/
structure FEq (f f' : FF) : Prop where
  nt : f.nt = f'.nt
  bx : ∀ n, f.bx n = f'.bx n
  rw : ∀ n, f.rw n = f'.rw n
  sl : ∀ t, lkp f.sl t = lkp f'.sl t
theorem FEq.refl (f : FF) : FEq f f := ⟨rfl, fun _ => rfl, fun _ => rfl, fun _ => rfl⟩
theorem FEq.symm {f f' : FF} (h : FEq f f') : FEq f' f := ⟨h.nt.symm, fun n => (h.bx n).symm, fun n => (h.rw n).symm, fun t => (h.sl t).symm⟩
theorem FEq.trans {f f' f'' : FF} (h : FEq f f') (k : FEq f' f'') : FEq f f'' := ⟨h.nt.trans k.nt, fun n => (h.bx n).trans (k.bx n), fun n => (h.rw n).trans (k.rw n), fun t => (h.sl t).trans (k.sl t)⟩
theorem Sim.feq {f f' : FF} (h : Sim C f g a w) (he : FEq f f') (hu : Up f'.sl) : Sim C f' g a w := by
  have e1 : f.bx = f'.bx := funext he.bx
  have e2 : f.rw = f'.rw := funext he.rw
  refine ⟨h.nodef, h.size.trans he.nt, hu, h.kept, fun t v hv => h.slots t v (by rw [he.sl]; exact hv), fun i b hb => h.boxes i b (by rw [e1]; exact hb), ?_, ?_, ?_, ?_⟩
  · rw [← e1]; exact h.bdisj
  · rw [← e2]; exact h.rows
  · rw [← e2]; exact h.rdisj
  · rw [← e1, ← e2]; exact h.rbox
theorem lkp_slE {sl : List (Nat × AV)} {d : Option Nat} {v : Option AV} {t : Nat} : lkp (slE sl d v) t = (match d, v with | some d, some v => if d = t then some v else lkp sl t | _, _ => lkp sl t) := by
  cases d with
  | none => cases v <;> rfl
  | some d => cases v with
    | none => rfl
    | some v => exact lkp_ins _ _ _ _
theorem slE_up {sl : List (Nat × AV)} (h : Up sl) (d : Option Nat) (v : Option AV) : Up (slE sl d v) := by
  unfold slE
  split
  · exact h.ins _ _
  · exact h
/-- what an entry writes -/
def wB (e : Ent) (n : Nat) : Prop := (e.b0 ≤ n ∧ n < e.b0 + e.nb.length) ∨ ∃ b, e.ef = .box n b
def wR (e : Ent) (n : Nat) : Prop := e.r0 ≤ n ∧ n < e.r0 + e.nr.length
theorem appE_bx {e : Ent} {f f' : FF} {n : Nat} (h : f.bx n = f'.bx n) : (appE e f).bx n = (appE e f').bx n := by
  simp only [appE, more]
  split
  · rfl
  · cases e.ef <;> simp only [effB, h]
theorem appE_bx_no {e : Ent} {f : FF} {n : Nat} (h : ¬ wB e n) : (appE e f).bx n = f.bx n := by
  simp only [appE, more]
  rw [if_neg (fun h' => h (.inl h'))]
  cases he : e.ef with
  | box i b =>
    simp only [effB]
    rw [if_neg (fun e' => h (.inr ⟨b, by rw [he, e']⟩))]
  | _ => rfl
theorem appE_bx_yes {e : Ent} {f f' : FF} {n : Nat} (h : wB e n) : (appE e f).bx n = (appE e f').bx n := by
  simp only [appE, more]
  split
  · rfl
  · rcases h with h | ⟨b, h⟩
    · contradiction
    · simp only [h, effB, if_true]
theorem appE_rw {e : Ent} {f f' : FF} {n : Nat} (h : f.rw n = f'.rw n) : (appE e f).rw n = (appE e f').rw n := by
  simp only [appE, more]
  split
  · rfl
  · exact h
theorem appE_rw_no {e : Ent} {f : FF} {n : Nat} (h : ¬ wR e n) : (appE e f).rw n = f.rw n := if_neg h
theorem appE_rw_yes {e : Ent} {f f' : FF} {n : Nat} (h : wR e n) : (appE e f).rw n = (appE e f').rw n := by
  have h' : e.r0 ≤ n ∧ n < e.r0 + e.nr.length := h
  simp only [appE, more]
  rw [if_pos h', if_pos h']
theorem appE_sl {e : Ent} {f f' : FF} {t : Nat} (h : lkp f.sl t = lkp f'.sl t) : lkp (appE e f).sl t = lkp (appE e f').sl t := by
  simp only [appE, lkp_slE]
  split
  · split
    · rfl
    · exact h
  · exact h
theorem appE_sl_no {e : Ent} {f : FF} {t : Nat} (h : e.d ≠ some t) : lkp (appE e f).sl t = lkp f.sl t := by
  simp only [appE, lkp_slE]
  split
  · rename_i d v hd hv
    rw [if_neg (fun e' => h (by rw [hd, e']))]
  · rfl
theorem appE_congr {e : Ent} {f f' : FF} (h : FEq f f') : FEq (appE e f) (appE e f') := ⟨h.nt, fun n => appE_bx (h.bx n), fun n => appE_rw (h.rw n), fun t => appE_sl (h.sl t)⟩
/-- two entries write different things -/
structure Indep (e e' : Ent) : Prop where
  d : ∀ t, e.d = some t → e'.d ≠ some t
  b : ∀ n, wB e n → ¬ wB e' n
  r : ∀ n, wR e n → ¬ wR e' n
theorem appE_comm {e e' : Ent} (h : Indep e e') (f : FF) : FEq (appE e (appE e' f)) (appE e' (appE e f)) := by
  refine ⟨rfl, fun n => ?_, fun n => ?_, fun t => ?_⟩
  · by_cases h1 : wB e n
    · rw [appE_bx_no (e := e') (h.b n h1)]
      exact appE_bx_yes h1
    · rw [appE_bx_no h1]
      exact appE_bx (appE_bx_no h1).symm
  · by_cases h1 : wR e n
    · rw [appE_rw_no (e := e') (h.r n h1)]
      exact appE_rw_yes h1
    · rw [appE_rw_no h1]
      exact appE_rw (appE_rw_no h1).symm
  · by_cases h1 : e.d = some t
    · rw [appE_sl_no (e := e') (h.d t h1)]
      exact appE_sl (appE_sl_no (h.d t h1))
    · rw [appE_sl_no h1]
      exact appE_sl (appE_sl_no h1).symm
/-- those of the entries that have come up, in the text's order -/
def runL : List Ent → (Nat → Bool) → Nat → FF → FF
  | [], _, _, f => f
  | e :: es, L, p, f => runL es L (p + 1) (bif L p then appE e f else f)
theorem runL_congr : ∀ (es : List Ent) {L : Nat → Bool} {p : Nat} {f f' : FF}, FEq f f' → FEq (runL es L p f) (runL es L p f')
  | [], _, _, _, _, h => h
  | e :: es, L, p, f, f', h => by
    refine runL_congr es ?_
    cases L p
    · exact h
    · exact appE_congr h
theorem runL_up : ∀ (es : List Ent) {L : Nat → Bool} {p : Nat} {f : FF}, Up f.sl → Up (runL es L p f).sl
  | [], _, _, _, h => h
  | e :: es, L, p, f, h => by
    refine runL_up es ?_
    cases L p
    · exact h
    · exact slE_up h _ _
theorem runL_nt : ∀ (es : List Ent) {L : Nat → Bool} {p : Nat} {f : FF}, (runL es L p f).nt = f.nt
  | [], _, _, _ => rfl
  | e :: es, L, p, f => by
    unfold runL
    rw [runL_nt es]
    cases L p <;> rfl
theorem runL_out : ∀ (es : List Ent) {L : Nat → Bool} {p : Nat} {e : Ent} {f : FF}, (∀ q e', es[q]? = some e' → L (p + q) = true → Indep e e') → FEq (runL es L p (appE e f)) (appE e (runL es L p f))
  | [], _, _, _, _, _ => FEq.refl _
  | e1 :: es, L, p, e, f, h => by
    have h' : ∀ q e', es[q]? = some e' → L (p + 1 + q) = true → Indep e e' := fun q e' hq hl => h (q + 1) e' (by simpa using hq) (by rw [← hl]; congr 1; omega)
    unfold runL
    cases hp : L p
    · exact runL_out es h'
    · rw [cond_true, cond_true]
      exact (runL_congr es (appE_comm (h 0 e1 rfl hp) f).symm).trans (runL_out es h')
/-- one more comes up -/
theorem runL_add : ∀ (es : List Ent) {L L' : Nat → Bool} {p i : Nat} {e : Ent} {f : FF}, es[i]? = some e → L (p + i) = false → L' (p + i) = true → (∀ j, j ≠ p + i → L' j = L j) → (∀ q e', i < q → es[q]? = some e' → L (p + q) = true → Indep e e') → FEq (runL es L' p f) (appE e (runL es L p f))
  | [], _, _, _, _, _, _, h, _, _, _, _ => by simp at h
  | e1 :: es, L, L', p, 0, e, f, h, h0, h1, h2, h3 => by
    simp only [List.getElem?_cons_zero, Option.some.injEq] at h
    subst h
    rw [Nat.add_zero] at h0 h1
    unfold runL
    rw [h0, h1, cond_true, cond_false]
    have e1' : runL es L' (p + 1) (appE e1 f) = runL es L (p + 1) (appE e1 f) := runL_ext es fun q hq => h2 _ (by omega)
    rw [e1']
    exact runL_out es fun q e' hq hl => h3 (q + 1) e' (by omega) (by simpa using hq) (by rw [← hl]; congr 1; omega)
  | e1 :: es, L, L', p, i + 1, e, f, h, h0, h1, h2, h3 => by
    have hp : L' p = L p := h2 p (by omega)
    unfold runL
    rw [hp]
    refine runL_add es (i := i) (by simpa using h) (by rw [← h0]; congr 1; omega) (by rw [← h1]; congr 1; omega) (fun j hj => h2 j (by omega)) fun q e' hq he hl => h3 (q + 1) e' (by omega) (by simpa using he) (by rw [← hl]; congr 1; omega)
  where
  runL_ext : ∀ (es : List Ent) {L L' : Nat → Bool} {p : Nat} {f : FF}, (∀ q, p ≤ q → L' q = L q) → runL es L' p f = runL es L p f
    | [], _, _, _, _, _ => rfl
    | e :: es, L, L', p, f, h => by
      unfold runL
      rw [h p (Nat.le_refl _), runL_ext es fun q hq => h q (by omega)]
/-- a place that is written by none of those in which two sets differ -/
theorem runL_bx : ∀ (es : List Ent) {L L' : Nat → Bool} {p : Nat} {f f' : FF} {n : Nat}, f.bx n = f'.bx n → (∀ q e, es[q]? = some e → L (p + q) ≠ L' (p + q) → ¬ wB e n) → (runL es L p f).bx n = (runL es L' p f').bx n
  | [], _, _, _, _, _, _, h, _ => h
  | e :: es, L, L', p, f, f', n, h, hd => by
    unfold runL
    refine runL_bx es ?_ fun q e' hq hl => hd (q + 1) e' (by simpa using hq) (by rw [show p + (q + 1) = p + 1 + q by omega]; exact hl)
    by_cases hp : L p = L' p
    · rw [hp]
      cases L' p
      · exact h
      · exact appE_bx h
    · have := hd 0 e rfl hp
      cases h1 : L p <;> cases h2 : L' p <;> simp only [cond_true, cond_false, appE_bx_no this, h]
theorem runL_rw : ∀ (es : List Ent) {L L' : Nat → Bool} {p : Nat} {f f' : FF} {n : Nat}, f.rw n = f'.rw n → (∀ q e, es[q]? = some e → L (p + q) ≠ L' (p + q) → ¬ wR e n) → (runL es L p f).rw n = (runL es L' p f').rw n
  | [], _, _, _, _, _, _, h, _ => h
  | e :: es, L, L', p, f, f', n, h, hd => by
    unfold runL
    refine runL_rw es ?_ fun q e' hq hl => hd (q + 1) e' (by simpa using hq) (by rw [show p + (q + 1) = p + 1 + q by omega]; exact hl)
    by_cases hp : L p = L' p
    · rw [hp]
      cases L' p
      · exact h
      · exact appE_rw h
    · have := hd 0 e rfl hp
      cases h1 : L p <;> cases h2 : L' p <;> simp only [cond_true, cond_false, appE_rw_no this, h]
theorem runL_sl : ∀ (es : List Ent) {L L' : Nat → Bool} {p : Nat} {f f' : FF} {t : Nat}, lkp f.sl t = lkp f'.sl t → (∀ q e, es[q]? = some e → L (p + q) ≠ L' (p + q) → e.d ≠ some t) → lkp (runL es L p f).sl t = lkp (runL es L' p f').sl t
  | [], _, _, _, _, _, _, h, _ => h
  | e :: es, L, L', p, f, f', n, h, hd => by
    unfold runL
    refine runL_sl es ?_ fun q e' hq hl => hd (q + 1) e' (by simpa using hq) (by rw [show p + (q + 1) = p + 1 + q by omega]; exact hl)
    by_cases hp : L p = L' p
    · rw [hp]
      cases L' p
      · exact h
      · exact appE_sl h
    · have := hd 0 e rfl hp
      cases h1 : L p <;> cases h2 : L' p <;> simp only [cond_true, cond_false, appE_sl_no this, h]
/-- where a slot's value comes from -/
theorem runL_from : ∀ (es : List Ent) {L : Nat → Bool} {p : Nat} {f : FF} {t : Nat} {v : AV}, lkp (runL es L p f).sl t = some v → lkp f.sl t = some v ∨ ∃ q e, es[q]? = some e ∧ L (p + q) = true ∧ e.d = some t ∧ e.v = some v
  | [], _, _, _, _, _, h => .inl h
  | e :: es, L, p, f, t, v, h => by
    unfold runL at h
    rcases runL_from es h with h1 | ⟨q, e', h1, h2, h3, h4⟩
    · cases hp : L p
      · rw [hp] at h1; exact .inl h1
      · rw [hp, cond_true] at h1
        simp only [appE, lkp_slE] at h1
        split at h1
        · rename_i d v' hd hv
          split at h1
          · rename_i ht; subst ht; cases h1; exact .inr ⟨0, e, rfl, hp, hd, hv⟩
          · exact .inl h1
        · exact .inl h1
    · exact .inr ⟨q + 1, e', by simpa using h1, by rw [← h2]; congr 1; omega, h3, h4⟩
end Go.Proofs.Ytbgdojniimdihaa.X
