/- Regions that draw their order. -/
import Derived.Test.YtbgdojniimdihaaXRun
import Derived.Orders
namespace Go.Proofs.Ytbgdojniimdihaa.X
open Go Go.RowKit
variable {C : Cx} {fr s : Fr} {big : FF} {g : Sg} {a : Act} {w w' : World} {ch : List (Nat × Bool)} {E : Env}
/-- what an operation has done -/
structure Ent where
  d : Option Nat
  v : Option AV
  nr : List RowE
  nb : List BoxE
  ef : Eff
  r0 : Nat
  b0 : Nat
def slE (sl : List (Nat × AV)) : Option Nat → Option AV → List (Nat × AV)
  | some t, some v => ins sl t v
  | _, _ => sl
def appE (e : Ent) (f : FF) : FF := { nt := f.nt, sl := slE f.sl e.d e.v, bx := more e.b0 e.nb (effB f.bx e.ef), rw := more e.r0 e.nr f.rw }
structure FreeE (e : Ent) (g : Sg) : Prop where
  β : ∀ j, e.b0 ≤ j → j < e.b0 + e.nb.length → g.β j = none
  ρ : ∀ j, e.r0 ≤ j → j < e.r0 + e.nr.length → g.ρ j = none
structure FreshE (e : Ent) (g g' : Sg) : Prop where
  le : g.Le g'
  β : ∀ j, ¬ (e.b0 ≤ j ∧ j < e.b0 + e.nb.length) → g'.β j = g.β j
  ρ : ∀ j, ¬ (e.r0 ≤ j ∧ j < e.r0 + e.nr.length) → g'.ρ j = g.ρ j
def Quiet (f : FF) (d : Option Nat) : Prop := ∀ t v, lkp f.sl t = some v → waitsO v d = false
def EntOK (C : Cx) (ops : Array Oper) (o : Oper) (s : Fr) (e : Ent) : Prop :=
  ∀ {big : FF} {g : Sg} {a : Act} {w : World}, Sim C big g a w → Sub s big → FreeE e g → Quiet big o.dst → ∀ {K : Act → World → Prop} {Q : Exit → Act → World → Prop},
    (∀ g' a' w', FreshE e g g' → Sim C (appE e big) g' a' w' → K a' w') → if Region.wanted o (yielded ops a.tmps) then o.wp C.P a w K Q else K (a.put o.dst undef) w
theorem filter_all {α : Type} {p : α → Bool} : ∀ {l : List α}, (∀ x ∈ l, p x = true) → l.filter p = l
  | [], _ => rfl
  | x :: l, h => by rw [List.filter_cons, if_pos (h x (by simp)), filter_all fun y hy => h y (by simp [hy])]
theorem quiet_filter {f : FF} (hu : Up f.sl) {t : Nat} (h : Quiet f (some t)) : (f.sl.filter fun p => !p.2.waits t) = f.sl :=
  filter_all fun p hp => by
    have := h p.1 p.2 (hu.of_mem hp)
    simp only [waitsO] at this
    rw [this]
    rfl
theorem putS_quiet {f : FF} (hu : Up f.sl) {d : Option Nat} {v : Option AV} (hq : Quiet f d) (hd : ∀ t, d = some t → Nat.blt t f.nt = true ∧ ∃ x, v = some x ∧ x.waits t = false) : putS f.nt f.sl d v = some (slE f.sl d v) := by
  cases d with
  | none => rfl
  | some t =>
    obtain ⟨h1, x, rfl, h2⟩ := hd t rfl
    simp only [putS, h1, cond_true, h2, cond_false, quiet_filter hu hq, slE]
theorem Sim.putE (h : Sim C big g a w) {d : Option Nat} {v : Option AV} {u : Value} (hq : Quiet big d) (hd : ∀ t, d = some t → Nat.blt t big.nt = true ∧ ∃ x, v = some x ∧ x.waits t = false) (hv : ∀ av, v = some av → AVR C g a av u) : Sim C { big with sl := slE big.sl d v } g (a.put d u) w :=
  h.put (putS_quiet h.up hq hd) hv
/-- what holds of a place when its value is put down -/
theorem putD_char {fr fr' : Fr} {d : Option Nat} {v : Option AV} (h : putD fr d v = some fr') (hf : d = none ∨ ∃ x, v = some x) : (∀ t, d = some t → Nat.blt t fr.nt = true ∧ ∃ x, v = some x ∧ x.waits t = false) ∧ (Up fr.sl → Quiet fr.f d → fr' = { fr with sl := slE fr.sl d v }) := by
  obtain ⟨sl, hsl, rfl⟩ := putD_some h
  cases d with
  | none =>
    simp only [putS] at hsl
    cases hsl
    exact ⟨fun t e => (by cases e), fun _ _ => rfl⟩
  | some t =>
    rcases hf with hf | ⟨x, rfl⟩
    · cases hf
    · simp only [putS] at hsl
      cases hb : Nat.blt t fr.nt
      · rw [hb] at hsl; cases hsl
      · rw [hb, cond_true] at hsl
        cases hw : x.waits t
        · rw [hw, cond_false] at hsl
          cases hsl
          refine ⟨fun t' e => by cases e; exact ⟨hb, x, rfl, hw⟩, fun hu hq => ?_⟩
          have := quiet_filter (f := fr.f) hu hq
          show ({ fr with sl := ins (fr.sl.filter fun p => !p.2.waits t) t x } : Fr) = _
          rw [show (fr.sl.filter fun p => !p.2.waits t) = fr.sl from this]
          rfl
        · rw [hw] at hsl; cases hsl
structure OpD (C : Cx) (ops : Array Oper) (o : Oper) (tg : Option Nat) (ws : List (Option Nat)) (s fr fr' : Fr) (e : Ent) : Prop where
  ent : EntOK C ops o s e
  d : e.d = o.dst
  dv : ∀ t, e.d = some t → ∃ v, e.v = some v
  r0 : e.r0 = fr.rw.length
  b0 : e.b0 = fr.bx.length
  f : fr'.f = appE e fr.f
  rl : fr'.rw.length = fr.rw.length + e.nr.length
  bl : fr'.bx.length = fr.bx.length + e.nb.length
  ef : e.ef = .pure ∨ ∃ k b, e.ef = .box k b ∧ tg = some k ∧ e.nb = [] ∧ ∃ b', at? s.bx k = some b'
  ws : ∀ v, e.v = some v → ∀ x ∈ ws, waitsO v x = false
theorem fine_ok {req : Bool} {ws : List (Option Nat)} {d : Option Nat} {v : Option AV} (h : fine req ws d v = true) : req = true ∧ (d = none ∨ ∃ x, v = some x) ∧ ∀ x, v = some x → ∀ y ∈ ws, waitsO x y = false := by
  simp only [fine, Bool.and_eq_true] at h
  refine ⟨h.2, ?_, ?_⟩
  · cases v with
    | some x => exact .inr ⟨x, rfl⟩
    | none => cases d with
      | none => exact .inl rfl
      | some t => simp at h
  · rintro x rfl y hy
    have := List.all_eq_true.1 h.1 y hy
    simpa using this
theorem appE_grow {e0 r0 : Nat} (hb : s.bx.length = e0) (hr : s.rw.length = r0) {nr : List RowE} {nb : List BoxE} {ef : Eff} (ht : ∀ rw, ef ≠ .tab rw) (d : Option Nat) (v : Option AV) : ({ grow s big nr nb ef with sl := slE big.sl d v } : FF) = appE ⟨d, v, nr, nb, ef, r0, e0⟩ big := by
  subst hb
  subst hr
  cases ef with
  | tab rw => exact absurd rfl (ht rw)
  | _ => rfl
theorem opD_ok {R : Type} (hE : EnvOK C.P E) (hC : CxOK C) {ops : Array Oper} {o : Oper} {tg : Option Nat} {ws : List (Option Nat)} {k : Fr → Option R} {r : R} (hbl : s.bx.length = fr.bx.length) (hrl : s.rw.length = fr.rw.length) (hnt : s.nt = fr.nt) (hup : Up fr.sl) (hqt : Quiet fr.f o.dst)
    (h : opD E ops.toList o tg ws s fr k = some r) : ∃ e fr', OpD C ops o tg ws s fr fr' e ∧ Up fr'.sl ∧ fr'.nt = fr.nt ∧ k fr' = some r := by
  -- the frame behind
  have mk : ∀ {v : Option AV} {nr : List RowE} {nb : List BoxE} {ef : Eff} {fr' : Fr}, tabOK fr ef = true → (∀ rw, ef ≠ .tab rw) → (ef = .pure ∨ ∃ k b, ef = .box k b ∧ tg = some k ∧ nb = [] ∧ ∃ b', at? s.bx k = some b') → (o.dst = none ∨ ∃ x, v = some x) → (∀ x, v = some x → ∀ y ∈ ws, waitsO x y = false) → putD (upd fr nr nb ef) o.dst v = some fr' →
      ((∀ t, o.dst = some t → Nat.blt t fr.nt = true ∧ ∃ x, v = some x ∧ x.waits t = false) → EntOK C ops o s ⟨o.dst, v, nr, nb, ef, fr.rw.length, fr.bx.length⟩) → k fr' = some r → ∃ e fr', OpD C ops o tg ws s fr fr' e ∧ Up fr'.sl ∧ fr'.nt = fr.nt ∧ k fr' = some r := by
    intro v nr nb ef fr' ht hnt' hef hdv hws hp hent hk
    have e1 : (upd fr nr nb ef).nt = fr.nt ∧ (upd fr nr nb ef).sl = fr.sl := by cases ef <;> exact ⟨rfl, rfl⟩
    obtain ⟨h1, h2⟩ := putD_char hp hdv
    have h3 := h2 (by rw [e1.2]; exact hup) (fun t v hv => hqt t v (by change lkp (upd fr nr nb ef).sl t = some v at hv; rw [e1.2] at hv; exact hv))
    obtain ⟨l1, l2⟩ := upd_len (nr := nr) (nb := nb) ht
    refine ⟨_, fr', ⟨hent (fun t e => by rw [← e1.1]; exact h1 t e), rfl, fun t e => ?_, rfl, rfl, ?_, ?_, ?_, hef, hws⟩, ?_, ?_, hk⟩
    · rcases hdv with h | ⟨x, h⟩
      · rw [h] at e; cases e
      · exact ⟨x, h⟩
    · rw [h3, e1.2]
      have := upd_f (nr := nr) (nb := nb) ht
      rw [← appE_grow (big := fr.f) (s := fr) rfl rfl hnt', ← this]
      rfl
    · rw [h3]; exact l2
    · rw [h3]; exact l1
    · rw [h3, e1.2]
      show Up (slE fr.sl o.dst v)
      unfold slE
      split
      · exact hup.ins _ _
      · exact hup
    · rw [h3]; exact e1.1
  unfold opD at h
  split at h
  · rename_i hg
    split at h
    · cases h
    · rename_i req v nr nb ef hst
      cases hc : (effOK s fr.bx.length tg nb ef && fine req ws o.dst v)
      · rw [hc] at h; cases h
      · rw [hc, cond_true] at h
        simp only [Bool.and_eq_true] at hc
        obtain ⟨he, hfi⟩ := hc
        obtain ⟨hreq, hdv, hws⟩ := fine_ok hfi
        split at h
        · rename_i fr' hp
          have hnt' : ∀ rw, ef ≠ .tab rw := fun rw e => by subst e; cases he
          refine mk (by cases ef <;> simp_all [effOK, tabOK]) hnt' (by
            cases ef with
            | pure => exact .inl rfl
            | tab rw => cases he
            | box j b =>
              simp only [effOK, Bool.and_eq_true] at he
              refine .inr ⟨j, b, rfl, ?_, by simpa using he.1.1.1, ?_⟩
              · cases tg with
                | none => simp at he
                | some k => rw [Nat.eq_of_beq_eq_true he.1.2]
              · cases hx : at? s.bx j with
                | none => rw [hx] at he; simp at he
                | some b' => exact ⟨b', rfl⟩) hdv hws hp (fun hd => ?_) h
          intro big g a w hs hsub hfree hq K Q hK
          have hw : Region.wanted o (yielded ops a.tmps) = true := by simp [Region.wanted, hg]
          rw [if_pos hw]
          have hok := step_ok hE hC hs hsub (ch := []) (fun p hp => by cases hp) o (Q := Q)
          rw [hst] at hok
          refine hok hreq (fun e => by cases ef <;> first | (cases e; done) | exact absurd rfl (hnt' _)) ⟨fun j h1 h2 => hfree.β j (by rw [← hbl]; exact h1) (by rw [← hbl]; exact h2), fun j h1 h2 => hfree.ρ j (by rw [← hrl]; exact h1) (by rw [← hrl]; exact h2)⟩ K fun u w' ⟨g', hf, hs', hv⟩ => ?_
          refine hK g' _ w' ⟨hf.le, fun j hj => hf.β j (by rw [hbl]; exact hj), fun j hj => hf.ρ j (by rw [hrl]; exact hj)⟩ ?_
          rw [← appE_grow hbl hrl hnt']
          exact hs'.putE (d := o.dst) (v := v) hq (fun t e => by obtain ⟨a1, a2⟩ := hd t e; exact ⟨by rw [show (grow s big nr nb ef).nt = fr.nt from by rw [← hnt]; exact hsub.nt.symm]; exact a1, a2⟩) hv
        · cases h
    · rename_i m x vs rw quiet hst
      cases hqu : quiet
      · rw [hqu] at h; cases h
      · rw [hqu, cond_true] at h
        cases hx : x with
        | none => rw [hx] at h; cases h
        | some y =>
          rw [hx, Option.bind_some] at h
          cases hfi : fine true ws o.dst (some (callEnd s m vs rw true y).1)
          · simp only [hfi] at h; cases h
          · simp only [hfi, cond_true] at h
            obtain ⟨_, hdv, hws⟩ := fine_ok hfi
            split at h
            · rename_i fr' hp
              refine mk rfl (fun rw e => by cases e) (.inl rfl) hdv hws hp (fun hd => ?_) h
              intro big g a w hs hsub hfree hq K Q hK
              have hw : Region.wanted o (yielded ops a.tmps) = true := by simp [Region.wanted, hg]
              rw [if_pos hw]
              have hok := step_ok hE hC hs hsub (ch := []) (fun p hp => by cases hp) o (Q := Q)
              rw [hst, hqu] at hok
              refine hok y hx (fun e => by cases e) ⟨fun j h1 h2 => absurd h2 (by simp; omega), fun j h1 h2 => hfree.ρ j (by rw [← hrl]; exact h1) (by rw [← hrl]; exact h2)⟩ K fun u w' ⟨g', hf, hs', hv⟩ => ?_
              refine hK g' _ w' ⟨hf.le, fun j hj => hf.β j (by rw [hbl]; exact hj), fun j hj => hf.ρ j (by rw [hrl]; exact hj)⟩ ?_
              rw [← appE_grow hbl hrl (fun rw e => by cases e)]
              exact hs'.putE (d := o.dst) (v := some (callEnd s m vs rw true y).1) hq (fun t e => by obtain ⟨a1, a2⟩ := hd t e; exact ⟨by rw [show (grow s big (callEnd s m vs rw true y).2.1 [] (callEnd s m vs rw true y).2.2).nt = fr.nt from by rw [← hnt]; exact hsub.nt.symm]; exact a1, a2⟩) hv
            · cases h
  · rename_i i want hg
    split at h
    · cases h
    · rename_i ch g0 hgo
      -- a guarded operation, carried out or not
      have gd : ∀ {v0 v' : AV} {nr : List RowE} {fr' : Fr}, guardV ch g0 v0 = some v' → nr.all (parOK s) = true → (o.dst = none ∨ ∃ x, (some v' : Option AV) = some x) → (∀ x, (some v' : Option AV) = some x → ∀ y ∈ ws, waitsO x y = false) → putD (upd fr (nr.map (maybe g0)) [] .pure) o.dst (some v') = some fr' → k fr' = some r →
          (g0 = true → ∀ {big : FF} {g : Sg} {a : Act} {w : World}, Sim C big g a w → Sub s big → Holds a ch → (∀ j, s.rw.length ≤ j → j < s.rw.length + nr.length → g.ρ j = none) → ∀ {K : Act → World → Prop} {Q : Exit → Act → World → Prop}, (∀ u w', Out C g a s nr [] (grow s big nr [] .pure) (some v0) u w' → K (a.put o.dst u) w') → o.wp C.P a w K Q) →
          ∃ e fr', OpD C ops o tg ws s fr fr' e ∧ Up fr'.sl ∧ fr'.nt = fr.nt ∧ k fr' = some r := by
        intro v0 v' nr fr' hgv hpar hdv hws hp hk hrun
        refine mk rfl (fun rw e => by cases e) (.inl rfl) hdv hws hp (fun hd => ?_) hk
        intro big g a w hs hsub hfree hq K Q hK
        obtain ⟨hch, hy⟩ := guardOf_ok (hs.sub hsub) hgo
        have hw : Region.wanted o (yielded ops a.tmps) = g0 := by simp only [Region.wanted, hg]; exact hy
        rw [hw]
        have hfr : ∀ j, s.rw.length ≤ j → j < s.rw.length + nr.length → g.ρ j = none := fun j h1 h2 => hfree.ρ j (by rw [← hrl]; exact h1) (by rw [← hrl]; simpa using h2)
        have fin : ∀ {g' : Sg} {u : Value} {w' : World}, Fresh s (nr.map (maybe g0)) [] g g' → Sim C (grow s big (nr.map (maybe g0)) [] .pure) g' a w' → AVR C g' a v' u → K (a.put o.dst u) w' := by
          intro g' u w' hf hs' hv
          refine hK g' _ w' ⟨hf.le, fun j hj => hf.β j (by rw [hbl]; exact hj), fun j hj => hf.ρ j (by rw [hrl]; exact hj)⟩ ?_
          rw [← appE_grow hbl hrl (fun rw e => by cases e)]
          exact hs'.putE (d := o.dst) (v := some v') hq (fun t e => by obtain ⟨a1, a2⟩ := hd t e; exact ⟨by rw [show (grow s big (nr.map (maybe g0)) [] .pure).nt = fr.nt from by rw [← hnt]; exact hsub.nt.symm]; exact a1, a2⟩) (fun av e => by cases e; exact hv)
        cases hg0 : g0 with
        | true =>
          rw [if_pos rfl]
          refine hrun hg0 hs hsub (hch.2 hg0) hfr fun u w' ⟨g', hf, hs', hv⟩ => ?_
          have hs2 : Sim C (grow s big (nr.map (maybe g0)) [] .pure) g' a w' := by
            have := maybe_true (nr := nr) (nr' := nr.map (maybe true)) (n := s.rw.length) (big := big) (by simpa only [grow, more_nil, effB, effR] using hs') rfl
            rw [hg0]
            simpa only [grow, more_nil, effB, effR] using this
          exact fin ⟨hf.le, hf.β, fun j hj => hf.ρ j (by simpa using hj)⟩ hs2 (AVR.guard hgv hch (fun _ => hv _ rfl) (fun e => by rw [hg0] at e; cases e))
        | false =>
          rw [if_neg (by simp)]
          obtain ⟨g', hf, hs'⟩ := maybe_false hs hsub hfr hpar
          rw [hg0] at fin
          exact fin hf hs' (AVR.guard hgv hch (fun e => by rw [hg0] at e; cases e) (fun _ => rfl))
      split at h
      · cases h
      · rename_i req v nr nb ef hst
        cases hc : (nb.isEmpty && isPure ef && nr.all (parOK s))
        · rw [hc] at h; cases h
        · rw [hc, cond_true] at h
          simp only [Bool.and_eq_true] at hc
          obtain ⟨⟨hnb, hpu⟩, hpar⟩ := hc
          have hnb : nb = [] := by simpa using hnb
          subst hnb
          have hpu : ef = .pure := by cases ef <;> first | rfl | cases hpu
          subst hpu
          split at h
          · rename_i v' hv'
            obtain ⟨v0, rfl, hgv⟩ := Option.bind_eq_some_iff.1 hv'
            cases hfi : fine (!g0 || req) ws o.dst (some v')
            · rw [hfi] at h; cases h
            · rw [hfi, cond_true] at h
              obtain ⟨hrq, hdv, hws⟩ := fine_ok hfi
              split at h
              · rename_i fr' hp
                refine gd hgv hpar hdv hws hp h fun hg0 {big g a w} hs hsub hh hfr {K Q} hK => ?_
                have hreq : req = true := by rw [hg0] at hrq; simpa using hrq
                have hok := step_ok hE hC hs hsub hh o (Q := Q)
                rw [hst] at hok
                exact hok hreq (fun e => by cases e) ⟨fun j h1 h2 => absurd h2 (by simp; omega), hfr⟩ K hK
              · cases h
          · cases h
      · rename_i m x vs rw quiet hst
        cases hq : quiet
        · rw [hq] at h; cases h
        · rw [hq, cond_true] at h
          obtain ⟨y, hy, h⟩ := Option.bind_eq_some_iff.1 h
          simp only at h
          cases hpar : (callEnd s m vs rw true y).2.1.all (parOK s)
          · simp only [hpar] at h; cases h
          · simp only [hpar, cond_true] at h
            split at h
            · rename_i v' hgv
              cases hfi : fine true ws o.dst (some v')
              · rw [hfi] at h; cases h
              · rw [hfi, cond_true] at h
                obtain ⟨_, hdv, hws⟩ := fine_ok hfi
                split at h
                · rename_i fr' hp
                  refine gd hgv hpar hdv hws hp h fun hg0 {big g a w} hs hsub hh hfr {K Q} hK => ?_
                  have hok := step_ok hE hC hs hsub hh o (Q := Q)
                  rw [hst, hq] at hok
                  rw [hg0, cond_true] at hy
                  exact hok y hy (fun e => by cases e) ⟨fun j h1 h2 => absurd h2 (by simp; omega), hfr⟩ K hK
                · cases h
            · cases h
end Go.Proofs.Ytbgdojniimdihaa.X
