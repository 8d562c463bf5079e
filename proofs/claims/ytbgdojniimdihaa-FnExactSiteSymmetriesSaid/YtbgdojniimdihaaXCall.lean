/- Calls: what is handed over, and what stands behind. -/
import Derived.Test.YtbgdojniimdihaaXSt
namespace Go.Proofs.Ytbgdojniimdihaa.X
open Go Go.RowKit
variable {C : Cx} {fr : Fr} {big : FF} {g : Sg} {a : Act} {w w' : World} {ch : List (Nat × Bool)} {E : Env}
theorem row_read (h : Sim C big g a w) {rw' : Nat → Option RowE} (hT : Took none big.rw rw') {i : Nat} {r : RowE} (hr : rw' i = some r) :
    ∃ q A n c, g.ρ i = some q ∧ q.v = .slice A n c ∧ q.sz = r.s.n ∧ n = r.xs.length ∧ ReadL C.P r.e r.s w q.F q.v r.xs ∧ (∀ k, q.F k → C.R k ∨ Own rw' g k) ∧ ∀ k, q.F k → k < w.heap.size := by
  have hb : big.rw i = some r := by
    rcases hT.row i r hr with h | ⟨_, _, h, _⟩
    · exact h
    · cases h
  obtain ⟨q, A, n, c, hq, hv, hz, hl, hZ⟩ := h.rows i r hb
  have hrd := RowOK.read (h.rows i r hb) hq
  obtain ⟨A1, n1, c1, e, hn, hx⟩ := id hrd
  injection e with e
  have e2 := hx.1
  refine ⟨q, A1, _, c1, hq, e, hz, e2.symm, hrd, fun k hk => ?_, hl⟩
  cases hm : r.m with
  | own => exact .inr ⟨i, r, q, hr, by rw [hm]; rfl, hq, hk⟩
  | io => exact .inr ⟨i, r, q, hr, by rw [hm]; rfl, hq, hk⟩
  | ro => rw [Zone, hm] at hZ; exact .inl (hZ.2 k hk)
  | bor p pa =>
    rw [Zone, hm] at hZ
    obtain ⟨_, rp, qp, hrp, hmp, hqp, hFp, _⟩ := hZ
    rcases hT.par i r p pa hr hm with ⟨_, h2⟩ | h2
    · exact .inr ⟨p, rp, qp, h2 rp hrp hmp, hmp, hqp, hFp k hk⟩
    · cases h2
theorem listOf_ok (h : Sim C big g a w) {rw' : List (Option RowE)} (hT : Took none big.rw (at? rw')) {e : Nat} {s : Sh} {l : Lf} {u : Value} {xs : List s.T} (hl : LfR C g l u) (hx : listOf rw' e s l = some xs) {Z : FP} (hZ : ∀ k, C.R k ∨ Own (at? rw') g k → Z k) : RC C.P (.list e s) w Z xs [u] := by
  cases l <;> simp only [listOf] at hx
  case row i =>
    split at hx
    · rename_i r hr
      split at hx
      · rename_i he
        split at hx
        · rename_i hs
          cases hx
          obtain ⟨q, A, n, c, hq, hv, hz, hn, hrd, hF, _⟩ := row_read h hT hr
          obtain ⟨q', A', n', c', hq', hv', hu⟩ := hl
          rw [hq] at hq'
          cases hq'
          obtain ⟨e0, s0, xs0, m0⟩ := r
          simp only at he hs hrd
          subst he
          subst hs
          rw [hu, ← hv']
          exact ReadL.mono (fun k hk => hZ k (hF k hk)) hrd
        · cases hx
      · cases hx
    · cases hx
  case view i lo hi =>
    split at hx
    · rename_i r hr
      split at hx
      · rename_i he
        split at hx
        · rename_i hs
          cases hx
          obtain ⟨q, A, n, c, hq, hv, hz, hn, hrd, hF, _⟩ := row_read h hT hr
          obtain ⟨q', A1, n1, c1, A2, n2, c2, hq', hv', hu, h0, h1, h2, h3, h4, h5⟩ := hl
          rw [hq] at hq'
          cases hq'
          rw [hv] at hv'
          cases hv'
          obtain ⟨e0, s0, xs0, m0⟩ := r
          simp only at he hs hrd hn hz
          subst he
          subst hs
          have hyl : ((xs0.take hi.toNat).drop lo.toNat).length = n2 := by
            simp; omega
          refine ⟨A2, n2, c2, by rw [hu], h3, hyl, fun hpos => ?_⟩
          obtain ⟨A3, n3, c3, e3, hn3, hx3⟩ := id hrd
          injection e3 with e3
          rw [hv] at e3
          cases e3
          obtain ⟨ad, rfl, hFa, hcell⟩ := hx3.2 (by omega)
          have hAe := h5 hpos
          simp only [Option.map_some] at hAe
          refine ⟨_, hAe, ?_, fun j x hx => ?_⟩
          · have : (ad.add (lo.toNat * q.sz)).block = ad.block := by unfold Addr.add; split <;> rfl
            rw [this]
            exact hZ _ (hF _ hFa)
          · change ((xs0.take hi.toNat).drop lo.toNat)[j]? = some x at hx
            rw [List.getElem?_drop, List.getElem?_take] at hx
            split at hx
            · obtain ⟨cs, r1, r2, r3⟩ := hcell _ x hx
              refine ⟨cs, RC.mono s0 (fun k hk => hZ k (hF k hk)) r1, r2, fun i v hv => ?_⟩
              rw [Addr.add_add, hz, ← r3 i v hv]
              congr 2
              rw [Nat.add_mul]; omega
            · cases hx
        · cases hx
      · cases hx
    · cases hx
  case nil =>
    cases hx
    cases hl
    exact ⟨none, 0, 0, rfl, Nat.le_refl _, rfl, fun h => absurd h (Nat.lt_irrefl _)⟩
  all_goals cases hx
theorem compress_ok (h : Sim C big g a w) {rw' : List (Option RowE)} (hT : Took none big.rw (at? rw')) {Z : FP} (hZ : ∀ k, C.R k ∨ Own (at? rw') g k → Z k) : (s : Sh) → ∀ {ls rest : List Lf} {x : s.T} {us : List Value}, compress rw' s ls = some (x, rest) → LfsR C g ls us →
    ∃ c1 c2, us = c1 ++ c2 ∧ LfsR C g rest c2 ∧ RC C.P s w Z x c1
  | .int k, ls, rest, x, us, hx, hl => by
    simp only [compress] at hx
    split at hx
    · split at hx
      · rename_i e
        subst e
        cases hx
        obtain ⟨u, t, rfl, hu, hr⟩ := hl
        exact ⟨[u], t, rfl, hr, by cases hu; rfl⟩
      · cases hx
    · cases hx
  | .bool, ls, rest, x, us, hx, hl => by
    simp only [compress] at hx
    split at hx
    · cases hx
      obtain ⟨u, t, rfl, hu, hr⟩ := hl
      exact ⟨[u], t, rfl, hr, by cases hu; rfl⟩
    · cases hx
  | .str, ls, rest, x, us, hx, hl => by
    simp only [compress] at hx
    split at hx
    · cases hx
      obtain ⟨u, t, rfl, hu, hr⟩ := hl
      exact ⟨[u], t, rfl, hr, by cases hu; rfl⟩
    · cases hx
  | .list e s, ls, rest, x, us, hx, hl => by
    simp only [compress] at hx
    split at hx
    · split at hx
      · rename_i hL
        cases hx
        obtain ⟨u, t, rfl, hu, hr⟩ := hl
        exact ⟨[u], t, rfl, hr, listOf_ok h hT hu hL hZ⟩
      · cases hx
    · cases hx
  | .cons s t, ls, rest, x, us, hx, hl => by
    simp only [compress] at hx
    split at hx
    · rename_i h1
      split at hx
      · rename_i h2
        cases hx
        obtain ⟨c1, c2, rfl, r1, o1⟩ := compress_ok h hT hZ s h1 hl
        obtain ⟨c3, c4, rfl, r2, o2⟩ := compress_ok h hT hZ t h2 r1
        exact ⟨c1 ++ c3, c4, by simp, r2, c1, c3, rfl, o1, o2⟩
      · cases hx
    · cases hx
  | .fn1 _ _, ls, rest, x, us, hx, hl => by simp [compress] at hx
  | .fn2 _ _ _, ls, rest, x, us, hx, hl => by simp [compress] at hx
theorem whole_ok (h : Sim C big g a w) {rw' : List (Option RowE)} (hT : Took none big.rw (at? rw')) {Z : FP} (hZ : ∀ k, C.R k ∨ Own (at? rw') g k → Z k) {s : Sh} {ls : List Lf} {x : s.T} {us : List Value} (hx : whole (compress rw' s ls) = some x) (hl : LfsR C g ls us) : RC C.P s w Z x us := by
  cases hc : compress rw' s ls with
  | none => rw [hc] at hx; cases hx
  | some p =>
    obtain ⟨y, rest⟩ := p
    rw [hc] at hx
    cases rest with
    | cons _ _ => cases hx
    | nil =>
      cases hx
      obtain ⟨c1, c2, e, r, o⟩ := compress_ok h hT hZ s hc hl
      cases r
      rw [e, List.append_nil]
      exact o
/-- what may be read while a call runs -/
def Rd (C : Cx) (big : FF) (rw' : Nat → Option RowE) (g : Sg) : FP := fun k => C.R k ∨ Own rw' g k ∨ ∃ j b, big.bx j = some b ∧ b.own = true ∧ g.β j = some k
theorem Rd.lt (hC : CxOK C) (h : Sim C big g a w) {rw' : Nat → Option RowE} (hT : Took none big.rw rw') {k : Nat} (hk : Rd C big rw' g k) : k < w.heap.size := by
  rcases hk with hk | hk | ⟨j, b, hb, _, hβ⟩
  · exact Nat.lt_of_lt_of_le (hC.R_lt k hk).1 h.kept.size
  · exact (Own.zone h (hk.took hT)).2
  · exact h.box_lt hb hβ
theorem Rd.not (hC : CxOK C) (h : Sim C big g a w) {rw' : Nat → Option RowE} {k : Nat} (hk : Rd C big rw' g k) (ho : Own big.rw g k) : Own rw' g k := by
  rcases hk with hk | hk | ⟨j, b, hb, hbo, hβ⟩
  · exact absurd hk (Own.notR hC h ho)
  · exact hk
  · exact absurd hβ (Own.notBox h ho hb hbo)
theorem capsOf_ok (hC : CxOK C) (h : Sim C big g a w) (hsub : Sub fr big) {rw' : List (Option RowE)} (hT : Took none big.rw (at? rw')) : ∀ {ps : List (PM × Sh)} {bs : List Nat} {us : List Value} {c : AT ps}, capsOf fr rw' ps bs = some c → capsR g.β bs us →
    (∀ p ∈ ps, p.1 = .cap) ∧ ∀ {w' : World}, Same (Rd C big (at? rw') g) w w' → Args C.P w' ps c us (ps.map fun _ => Rd C big (at? rw') g)
  | [], [], us, c, hc, hu => by cases hu; exact ⟨by simp, fun _ => ⟨rfl, rfl⟩⟩
  | [], _ :: _, us, c, hc, hu => by simp [capsOf] at hc
  | (m, s) :: ps, [], us, c, hc, hu => by cases m <;> simp [capsOf] at hc
  | (m, s) :: ps, b :: bs, us, c, hc, ⟨k, r, e, hk, hu⟩ => by
    cases m <;> simp only [capsOf] at hc
    case cap =>
      split at hc
      · rename_i bb hb
        split at hc
        · rename_i x xs h1 h2
          cases hc
          obtain ⟨i1, i2⟩ := capsOf_ok hC h hsub hT h2 hu
          refine ⟨fun p hp => ?_, fun {w'} hs => ?_⟩
          · rcases List.mem_cons.1 hp with rfl | hp
            · rfl
            · exact i1 p hp
          · obtain ⟨k', cs, t, hk', hh, hr, ho, hnr⟩ := h.boxes b bb (hsub.bx b bb hb)
            rw [hk] at hk'
            cases hk'
            have hRk : Rd C big (at? rw') g k := by
              cases hbo : bb.own with
              | true => exact .inr (.inr ⟨b, bb, hsub.bx b bb hb, hbo, hk⟩)
              | false => exact .inl (hnr hbo)
            refine ⟨_, r, _, _, e, rfl, fun j hj => Nat.lt_of_lt_of_le (Rd.lt hC h hT hj) hs.size, ⟨k, cs, t, rfl, hRk, (hs.blk k hRk).trans hh, ?_⟩, i2 hs⟩
            exact RC.same s hs (whole_ok h hT (fun k hk => hk.elim .inl fun h => .inr (.inl h)) h1 hr)
        · cases hc
      · cases hc
    all_goals cases hc
theorem hands_cap : ∀ {ps : List (PM × Sh)}, (∀ p ∈ ps, p.1 = .cap) → ∀ Fs k, ¬ hands ps Fs k
  | [], _, _, _, h => by cases h
  | (m, s) :: ps, hp, [], k, h => by cases h
  | (m, s) :: ps, hp, F :: Fs, k, h => by
    have hm : m = .cap := hp (m, s) (by simp)
    subst hm
    rcases h with ⟨h, _⟩ | h
    · cases h
    · exact hands_cap (fun p hq => hp p (by simp [hq])) Fs k h
theorem apart_cap : ∀ {ps : List (PM × Sh)}, (∀ p ∈ ps, p.1 = .cap) → ∀ Fs, Apart ps Fs
  | [], _, _ => trivial
  | (m, s) :: ps, hp, [] => trivial
  | (m, s) :: ps, hp, F :: Fs => by
    have hm : m = .cap := hp (m, s) (by simp)
    subst hm
    exact ⟨fun k _ => ⟨hands_cap (fun p hq => hp p (by simp [hq])) Fs k, fun e => by cases e⟩, apart_cap (fun p hq => hp p (by simp [hq])) Fs⟩
theorem outs_ro : ∀ {ps : List (PM × Sh)}, (∀ p ∈ ps, p.1 = .cap ∨ p.1 = .ro) → outs ps = []
  | [], _ => rfl
  | (.cap, _) :: ps, h => outs_ro (ps := ps) fun p hp => h p (by simp [hp])
  | (.ro, _) :: ps, h => outs_ro (ps := ps) fun p hp => h p (by simp [hp])
  | (.mv, s) :: ps, h => by have := h (.mv, s) (by simp); simp at this
  | (.io, s) :: ps, h => by have := h (.io, s) (by simp); simp at this
theorem Outs_ro {w' : World} : ∀ {ps : List (PM × Sh)}, (∀ p ∈ ps, p.1 = .cap ∨ p.1 = .ro) → ∀ {rs : List Sh} {us : List Value} {Fs : List FP} (h : outs ps ++ rs = rs) {y : RT (outs ps ++ rs)} {K : RT rs → Prop}, Outs w' ps rs us Fs y K → K (cast (congrArg RT h) y)
  | [], _, rs, us, Fs, h, y, K, hK => hK
  | (.cap, _) :: ps, hp, rs, [], Fs, h, y, K, hK => hK.elim
  | (.cap, _) :: ps, hp, rs, _ :: _, [], h, y, K, hK => hK.elim
  | (.cap, _) :: ps, hp, rs, _ :: us, _ :: Fs, h, y, K, hK => Outs_ro (ps := ps) (fun p hq => hp p (by simp [hq])) h hK
  | (.ro, _) :: ps, hp, rs, [], Fs, h, y, K, hK => hK.elim
  | (.ro, _) :: ps, hp, rs, _ :: _, [], h, y, K, hK => hK.elim
  | (.ro, _) :: ps, hp, rs, _ :: us, _ :: Fs, h, y, K, hK => Outs_ro (ps := ps) (fun p hq => hp p (by simp [hq])) h hK
  | (.mv, s) :: ps, hp, rs, us, Fs, h, y, K, hK => by have := hp (.mv, s) (by simp); simp at this
  | (.io, s) :: ps, hp, rs, us, Fs, h, y, K, hK => by have := hp (.io, s) (by simp); simp at this
theorem cast_some {L L' : List Sh} (h : L = L') (o : Option (RT L)) (y : RT L') (e : cast (congrArg (fun l => Option (RT l)) h) o = some y) : ∃ y0, o = some y0 ∧ cast (congrArg RT h) y0 = y := by
  subst h
  exact ⟨y, e, rfl⟩
theorem hands_ro : ∀ {ps : List (PM × Sh)}, (∀ p ∈ ps, p.1 = .cap ∨ p.1 = .ro) → ∀ Fs k, ¬ hands ps Fs k
  | [], _, _, _, h => by cases h
  | (m, s) :: ps, hp, [], k, h => by cases h
  | (m, s) :: ps, hp, F :: Fs, k, h => by
    rcases h with ⟨h, _⟩ | h
    · rcases hp (m, s) (by simp) with e | e <;> (simp only at e; subst e; cases h)
    · exact hands_ro (fun p hq => hp p (by simp [hq])) Fs k h
theorem gives_hands : ∀ {ps : List (PM × Sh)} {Fs : List FP} {k : Nat}, gives ps Fs k → hands ps Fs k
  | [], _, _, h => by cases h
  | (m, s) :: ps, [], k, h => by cases h
  | (m, s) :: ps, F :: Fs, k, h => by
    rcases h with ⟨h, hF⟩ | h
    · subst h; exact .inl ⟨rfl, hF⟩
    · exact .inr (gives_hands h)
theorem apart_ro : ∀ {ps : List (PM × Sh)}, (∀ p ∈ ps, p.1 = .cap ∨ p.1 = .ro) → ∀ Fs, Apart ps Fs
  | [], _, _ => trivial
  | (m, s) :: ps, hp, [] => trivial
  | (m, s) :: ps, hp, F :: Fs => ⟨fun k _ => ⟨hands_ro (fun p hq => hp p (by simp [hq])) Fs k, fun e => by rcases hp (m, s) (by simp) with e' | e' <;> (simp only at e'; subst e'; cases e)⟩, apart_ro (fun p hq => hp p (by simp [hq])) Fs⟩
/-- a call that hands nothing over and returns one flat value -/
theorem sound_ro {P : Program} {f : Nat} {ps : List (PM × Sh)} {r : Sh} {F : AT ps → Option (RT (outs ps ++ [r]))} (hS : Sound P f ⟨ps, [r], F⟩) (hp : ∀ p ∈ ps, p.1 = .cap ∨ p.1 = .ro) (hf : r.flat = true) (h2 : outs ps ++ [r] = [r]) {w : World} {x : AT ps} {us : List Value} {Fs : List FP} (hA : Args P w ps x us Fs)
    {y : RT [r]} (hy : cast (congrArg (fun l => Option (RT l)) h2) (F x) = some y) : Calls P f us.toArray w fun e w'' => ∃ cr, e = .returned (pack r cr) ∧ RC P r w'' (fun _ => False) y cr ∧ Below w.heap.size w w'' := by
  obtain ⟨y0, e0, e1⟩ := cast_some h2 _ _ hy
  refine (hS w x us Fs hA (apart_ro hp Fs) y0 e0).mono fun e w'' ⟨u, eu, vs, Gs, er, hM, hO⟩ => ?_
  have hv := Outs_ro hp h2 hO
  rw [e1] at hv
  obtain ⟨v, vs', G, Gs', cs, rfl, rfl, ev, hoc, _, hrest⟩ := hv.1
  obtain ⟨rfl, rfl⟩ := hrest
  refine ⟨cs, by rw [eu, er, ev]; rfl, RC.flat r hf (OC.read r hoc), hM.os, hM.tape, hM.output, hM.size, fun k hk => hM.block k hk (hands_ro hp Fs k)⟩
theorem fn1_core {P : Program} {s r : Sh} {f : Nat} {ps cps : List (PM × Sh)} {rs : List Sh} {F : AT ps → Option (RT (outs ps ++ rs))} (h1 : ps = (.ro, s) :: cps) (h2 : outs ps ++ rs = [r]) (hS : Sound P f ⟨ps, rs, F⟩) (hR : Runs P f) (hf : r.flat = true) {c : AT cps} {w : World} {Z : FP} {us : List Value} (hcp : ∀ p ∈ cps, p.1 = .cap)
    (hA : ∀ {w' : World}, Same Z w w' → Args P w' cps c us (cps.map fun _ => Z)) : RC P (.fn1 s r) w Z (fun x => cast (congrArg (fun l => Option (RT l)) h2) (F (cast (congrArg AT h1.symm) (x, c)))) [.func (.func f) #[] us.toArray] := by
  subst h1
  have hp : ∀ p ∈ (PM.ro, s) :: cps, p.1 = .cap ∨ p.1 = .ro := fun p hp => by
    rcases List.mem_cons.1 hp with rfl | hp
    · exact .inr rfl
    · exact .inl (hcp p hp)
  have hrs : rs = [r] := by
    have := outs_ro hp
    rw [this] at h2
    exact h2
  subst hrs
  refine ⟨hf, f, us.toArray, rfl, hR, fun w1 hs1 x ca Fa hFa hra y hy => ?_⟩
  have := sound_ro hS hp hf h2 (w := w1) (x := (x, c)) (us := packB s.agg ca :: us) (Fs := Fa :: cps.map fun _ => Z) ⟨_, _, _, _, rfl, rfl, hFa, ⟨ca, rfl, hra⟩, hA hs1⟩ hy
  simpa [pack] using this
theorem fn2_core {P : Program} {s t r : Sh} {f : Nat} {ps cps : List (PM × Sh)} {rs : List Sh} {F : AT ps → Option (RT (outs ps ++ rs))} (h1 : ps = (.ro, s) :: (.ro, t) :: cps) (h2 : outs ps ++ rs = [r]) (hS : Sound P f ⟨ps, rs, F⟩) (hR : Runs P f) (hf : r.flat = true) {c : AT cps} {w : World} {Z : FP} {us : List Value} (hcp : ∀ p ∈ cps, p.1 = .cap)
    (hA : ∀ {w' : World}, Same Z w w' → Args P w' cps c us (cps.map fun _ => Z)) : RC P (.fn2 s t r) w Z (fun x y => cast (congrArg (fun l => Option (RT l)) h2) (F (cast (congrArg AT h1.symm) (x, y, c)))) [.func (.func f) #[] us.toArray] := by
  subst h1
  have hp : ∀ p ∈ (PM.ro, s) :: (PM.ro, t) :: cps, p.1 = .cap ∨ p.1 = .ro := fun p hp => by
    rcases List.mem_cons.1 hp with rfl | hp
    · exact .inr rfl
    · rcases List.mem_cons.1 hp with rfl | hp
      · exact .inr rfl
      · exact .inl (hcp p hp)
  have hrs : rs = [r] := by
    have := outs_ro hp
    rw [this] at h2
    exact h2
  subst hrs
  refine ⟨hf, f, us.toArray, rfl, hR, fun w1 hs1 x ca Fa hFa hra y cb Fb hFb hrb z hz => ?_⟩
  have := sound_ro hS hp hf h2 (w := w1) (x := (x, y, c)) (us := packB s.agg ca :: packB t.agg cb :: us) (Fs := Fa :: Fb :: cps.map fun _ => Z) ⟨_, _, _, _, rfl, rfl, hFa, ⟨ca, rfl, hra⟩, _, _, _, _, rfl, rfl, hFb, ⟨cb, rfl, hrb⟩, hA hs1⟩ hz
  simpa [pack] using this
/-- an argument that is read -/
theorem roArg_ok (hE : EnvOK C.P E) (hC : CxOK C) (h : Sim C big g a w) (hsub : Sub fr big) {rw' : List (Option RowE)} (hT : Took none big.rw (at? rw')) {s : Sh} {cs : List Lf} {x : s.T} {us : List Value} (hx : roArg E fr rw' s cs = some x) (hl : LfsR C g cs us) : RC C.P s w (Rd C big (at? rw') g) x us := by
  have hRC : ∀ {s : Sh} {φ : s.T} {u : Value}, RC C.P s C.w0 C.R φ [u] → RC C.P s w (Rd C big (at? rw') g) φ [u] := fun {s φ u} hr =>
    RC.mono s (fun k hk => .inl hk) (RC.same s ⟨h.kept.size, fun k hk => h.kept.block k (hC.R_lt k hk).1 (hC.R_lt k hk).2⟩ hr)
  unfold roArg at hx
  split at hx
  · rename_i s' r f caps
    obtain ⟨u, t, rfl, hu, ht⟩ := hl
    cases ht
    split at hx
    · rename_i m hm
      split at hx
      · rename_i c hc
        cases hf : r.flat
        · rw [hf] at hx; cases hx
        · rw [hf, cond_true] at hx
          obtain ⟨hS, hR⟩ := hE.fs f m hm
          obtain ⟨us, rfl, hcap⟩ := hu
          obtain ⟨hcp, hA⟩ := capsOf_ok hC h hsub hT hc hcap
          unfold fnOf1 at hx
          split at hx
          · rename_i h1
            split at hx
            · rename_i h2
              cases hx
              exact fn1_core h1 h2 hS hR hf hcp hA
            · cases hx
          · cases hx
      · cases hx
    · cases hx
  · rename_i s' t' r f caps
    obtain ⟨u, t, rfl, hu, ht⟩ := hl
    cases ht
    split at hx
    · rename_i m hm
      split at hx
      · rename_i c hc
        cases hf : r.flat
        · rw [hf] at hx; cases hx
        · rw [hf, cond_true] at hx
          obtain ⟨hS, hR⟩ := hE.fs f m hm
          obtain ⟨us, rfl, hcap⟩ := hu
          obtain ⟨hcp, hA⟩ := capsOf_ok hC h hsub hT hc hcap
          unfold fnOf2 at hx
          split at hx
          · rename_i h1
            split at hx
            · rename_i h2
              cases hx
              exact fn2_core h1 h2 hS hR hf hcp hA
            · cases hx
          · cases hx
      · cases hx
    · cases hx
  · obtain ⟨u, t, rfl, hu, ht⟩ := hl
    cases ht
    split at hx
    · rename_i e
      obtain ⟨rfl, rfl⟩ := e
      cases hx
      exact hRC hu
    · cases hx
  · obtain ⟨u, t, rfl, hu, ht⟩ := hl
    cases ht
    split at hx
    · rename_i e
      obtain ⟨rfl, rfl, rfl⟩ := e
      cases hx
      exact hRC hu
    · cases hx
  · exact whole_ok h hT (fun k hk => hk.elim .inl fun h => .inr (.inl h)) hx hl
theorem args1_took : ∀ {ps : List (PM × Sh)} {vs : List (Bool × List Lf)} {us : List Value} {rc rw' : List (Option RowE)}, TupR C g vs us → Tab (at? rc) g w → args1 ps vs rc = some rw' → Took none (at? rc) (at? rw') ∧ rw'.length = rc.length
  | [], [], us, rc, rw', ht, hT, h => by cases h; exact ⟨Took.refl _ _, rfl⟩
  | [], _ :: _, us, rc, rw', ht, hT, h => by simp [args1] at h
  | (m, s) :: ps, [], us, rc, rw', ht, hT, h => by simp [args1] at h
  | (m, s) :: ps, (ag, cs) :: vs, us, rc, rw', ⟨u, us', e, hu, ht⟩, hT, h => by
    obtain ⟨ls, hls, hlr, hag⟩ := hu
    have hand : ∀ (ok : Md → Bool), (∀ x, ok x = true → x.mine = true ∧ ((none : Option Nat) ≠ none → x = .own)) → ∀ {x rc1}, take ok none s cs rc = some (x, [], rc1) → args1 ps vs rc1 = some rw' → Took none (at? rc) (at? rw') ∧ rw'.length = rc.length := by
      intro ok hok x rc1 htk h1
      obtain ⟨n1, t1, _⟩ := take_ok (g := g) (w := w) (C := C) hok s htk hlr hT
      obtain ⟨t2, n2⟩ := args1_took ht (hT.took t1) h1
      exact ⟨t1.trans t2, n2.trans n1⟩
    cases m with
    | ro => exact args1_took ht hT h
    | cap => exact args1_took ht hT h
    | mv =>
      simp only [args1] at h
      split at h
      · rename_i htk
        exact hand _ (fun m hm => by
          have : m = .own := by simpa using hm
          subst this
          exact ⟨rfl, fun _ => rfl⟩) htk h
      · cases h
    | io =>
      simp only [args1] at h
      cases hv : (cs.any Lf.isView || !ioSh s || !(s.agg == ag))
      · rw [hv, cond_false] at h
        split at h
        · rename_i htk
          exact hand _ (fun m hm => ⟨hm, fun e => absurd rfl e⟩) htk h
        · cases h
      · rw [hv] at h; cases h
/-- the arguments' footprints -/
def argFs (g : Sg) (Z : FP) : List (PM × Sh) → List (Bool × List Lf) → List (Option RowE) → List FP
  | (.ro, _) :: ps, _ :: vs, rc => Z :: argFs g Z ps vs rc
  | (.cap, _) :: ps, _ :: vs, rc => Z :: argFs g Z ps vs rc
  | (.mv, s) :: ps, (_, cs) :: vs, rc => match take (fun m => m == .own) none s cs rc with
    | some (_, _, rc1) => (fun k => Own (at? rc) g k ∧ ¬ Own (at? rc1) g k) :: argFs g Z ps vs rc1
    | none => []
  | (.io, s) :: ps, (_, cs) :: vs, rc => match take Md.mine none s cs rc with
    | some (_, _, rc1) => (fun k => Own (at? rc) g k ∧ ¬ Own (at? rc1) g k) :: argFs g Z ps vs rc1
    | none => []
  | _, _, _ => []
/-- the arguments -/
theorem args_ok (hE : EnvOK C.P E) (hC : CxOK C) (h : Sim C big g a w) (hsub : Sub fr big) {rw' : List (Option RowE)} : ∀ {ps : List (PM × Sh)} {vs : List (Bool × List Lf)} {us : List Value} {rc : List (Option RowE)} {xs : AT ps}, TupR C g vs us → Took none big.rw (at? rc) → args1 ps vs rc = some rw' → Took none big.rw (at? rw') → args2 E fr rw' ps vs rc = some xs →
    ∃ Fs, Fs = argFs g (Rd C big (at? rw') g) ps vs rc ∧ Args C.P w ps xs us Fs ∧ Apart ps Fs ∧ (∀ k, hands ps Fs k → Own (at? rc) g k ∧ ¬ Own (at? rw') g k) ∧ (∀ k, reads ps Fs k → Rd C big (at? rw') g k)
  | [], [], us, rc, xs, ht, hT, h1, hT', h2 => by cases ht; exact ⟨[], rfl, ⟨rfl, rfl⟩, trivial, fun k (h : hands [] [] k) => (show False from h).elim, fun k (h : reads [] [] k) => (show False from h).elim⟩
  | [], _ :: _, us, rc, xs, ht, hT, h1, hT', h2 => by simp [args1] at h1
  | (m, s) :: ps, [], us, rc, xs, ht, hT, h1, hT', h2 => by simp [args1] at h1
  | (m, s) :: ps, (ag, cs) :: vs, us, rc, xs, ⟨u, us', e, hu, ht⟩, hT, h1, hT', h2 => by
    subst e
    obtain ⟨ls, hls, hlr, hag⟩ := hu
    -- a value that is handed over
    have hand : ∀ (ok : Md → Bool), (∀ x, ok x = true → x.mine = true ∧ ((none : Option Nat) ≠ none → x = .own)) → m.hands = true → s.agg = ag → ∀ {x rc1 xs'}, take ok none s cs rc = some (x, [], rc1) → args1 ps vs rc1 = some rw' → args2 E fr rw' ps vs rc1 = some xs' →
        (∀ F, OC s w F x ls → Arg C.P w s x u F m) → argFs g (Rd C big (at? rw') g) ((m, s) :: ps) ((ag, cs) :: vs) rc = (fun k => Own (at? rc) g k ∧ ¬ Own (at? rc1) g k) :: argFs g (Rd C big (at? rw') g) ps vs rc1 → ∃ Fs, Fs = argFs g (Rd C big (at? rw') g) ((m, s) :: ps) ((ag, cs) :: vs) rc ∧ Args C.P w ((m, s) :: ps) (x, xs') (u :: us') Fs ∧ Apart ((m, s) :: ps) Fs ∧ (∀ k, hands ((m, s) :: ps) Fs k → Own (at? rc) g k ∧ ¬ Own (at? rw') g k) ∧ (∀ k, reads ((m, s) :: ps) Fs k → Rd C big (at? rw') g k) := by
      intro ok hok hm hsa x rc1 xs' htk h1' h2' hArg hFs
      obtain ⟨_, t1, c1, c2, e12, hr2, hO⟩ := take_ok (g := g) (w := w) (C := C) hok s htk hlr (h.tab.took hT)
      cases hr2
      have e12' : ls = c1 := by rw [e12, List.append_nil]
      subst e12'
      obtain ⟨Fs, eF, hA, hap, hh, hr⟩ := args_ok hE hC h hsub ht (hT.trans t1) h1' hT' h2'
      have hmono : ∀ k, Own (at? rw') g k → Own (at? rc1) g k := fun k hk => hk.took (args1_took ht (h.tab.took (hT.trans t1)) h1').1
      refine ⟨(fun k => Own (at? rc) g k ∧ ¬ Own (at? rc1) g k) :: Fs, by rw [hFs, eF], ⟨u, us', _, Fs, rfl, rfl, fun k hk => (Own.zone h (hk.1.took hT)).2, hArg _ hO, hA⟩, ⟨fun k hk => ⟨fun hk' => hk.2 (hh k hk').1, fun _ hk' => hk.2 (hmono k (Rd.not hC h (hr k hk') (hk.1.took hT)))⟩, hap⟩, ?_, ?_⟩
      · intro k hk
        rcases hk with ⟨_, hk⟩ | hk
        · exact ⟨hk.1, fun hk' => hk.2 (hmono k hk')⟩
        · exact ⟨(hh k hk).1.took t1, (hh k hk).2⟩
      · intro k hk
        rcases hk with ⟨hk, _⟩ | hk
        · rw [hm] at hk; cases hk
        · exact hr k hk
    -- a value that is read
    have rd : m.hands = false → ∀ {x xs'}, args1 ps vs rc = some rw' → args2 E fr rw' ps vs rc = some xs' → Arg C.P w s x u (Rd C big (at? rw') g) m → argFs g (Rd C big (at? rw') g) ((m, s) :: ps) ((ag, cs) :: vs) rc = (Rd C big (at? rw') g) :: argFs g (Rd C big (at? rw') g) ps vs rc →
        ∃ Fs, Fs = argFs g (Rd C big (at? rw') g) ((m, s) :: ps) ((ag, cs) :: vs) rc ∧ Args C.P w ((m, s) :: ps) (x, xs') (u :: us') Fs ∧ Apart ((m, s) :: ps) Fs ∧ (∀ k, hands ((m, s) :: ps) Fs k → Own (at? rc) g k ∧ ¬ Own (at? rw') g k) ∧ (∀ k, reads ((m, s) :: ps) Fs k → Rd C big (at? rw') g k) := by
      intro hm x xs' h1' h2' hArg hFs
      obtain ⟨Fs, eF, hA, hap, hh, hr⟩ := args_ok hE hC h hsub ht hT h1' hT' h2'
      refine ⟨Rd C big (at? rw') g :: Fs, by rw [hFs, eF], ⟨u, us', _, Fs, rfl, rfl, fun k hk => Rd.lt hC h hT' hk, hArg, hA⟩, ⟨fun k hk => ⟨fun hk' => (hh k hk').2 (Rd.not hC h hk ((hh k hk').1.took hT)), fun e => by rw [hm] at e; cases e⟩, hap⟩, ?_, ?_⟩
      · intro k hk
        rcases hk with ⟨hk, _⟩ | hk
        · rw [hm] at hk; cases hk
        · exact hh k hk
      · intro k hk
        rcases hk with ⟨_, hk⟩ | hk
        · exact hk
        · exact hr k hk
    cases m with
    | ro =>
      simp only [args1] at h1
      simp only [args2] at h2
      cases hsa : (s.agg == ag)
      · rw [hsa] at h2; cases h2
      · rw [hsa, cond_true] at h2
        split at h2
        · rename_i x xs' e1 e2
          cases h2
          have hsa := eq_of_beq hsa
          exact rd rfl h1 e2 ⟨ls, by rw [hls, hsa], roArg_ok hE hC h hsub hT' e1 hlr⟩ rfl
        · cases h2
    | mv =>
      simp only [args1] at h1
      simp only [args2] at h2
      cases hsa : (s.agg == ag)
      · rw [hsa] at h2; cases h2
      · rw [hsa, cond_true] at h2
        split at h2
        · rename_i x rc1 htk
          rw [htk] at h1
          split at h2
          · rename_i xs' e2
            cases h2
            have hsa := eq_of_beq hsa
            exact hand _ (fun m hm => by
              have : m = .own := by simpa using hm
              subst this
              exact ⟨rfl, fun _ => rfl⟩) rfl hsa htk h1 e2 (fun F hO => ⟨ls, by rw [hls, hsa], hO⟩) (by simp only [argFs, htk])
          · cases h2
        · cases h2
    | io =>
      simp only [args1] at h1
      simp only [args2] at h2
      cases hv : (cs.any Lf.isView || !ioSh s || !(s.agg == ag))
      · rw [hv, cond_false] at h1
        cases hsa : (s.agg == ag)
        · rw [hsa] at h2; cases h2
        · rw [hsa, cond_true] at h2
          split at h2
          · rename_i x rc1 htk
            rw [htk] at h1
            split at h2
            · rename_i xs' e2
              cases h2
              have hsa := eq_of_beq hsa
              exact hand _ (fun m hm => ⟨hm, fun e => absurd rfl e⟩) rfl hsa htk h1 e2 (fun F hO => ⟨ls, by rw [hls, hsa], hO⟩) (by simp only [argFs, htk])
            · cases h2
          · cases h2
      · rw [hv] at h1; cases h1
    | cap =>
      simp only [args1] at h1
      simp only [args2] at h2
      split at h2
      · rename_i b
        split at h2
        · rename_i bb hb
          split at h2
          · rename_i x xs' e1 e2
            cases h2
            obtain ⟨u1, t1, rfl, hu1, ht1⟩ := hlr
            cases ht1
            obtain ⟨k, hk, ek⟩ := hu1
            obtain ⟨k', c, t, hk', hh, hr, ho, hnr⟩ := h.boxes b bb (hsub.bx b bb hb)
            rw [hk] at hk'
            cases hk'
            refine rd rfl h1 e2 ⟨k, c, t, by rw [hls, ek]; rfl, ?_, hh, whole_ok h hT' (fun k hk => hk.elim .inl fun h => .inr (.inl h)) e1 hr⟩ rfl
            cases hbo : bb.own with
            | true => exact .inr (.inr ⟨b, bb, hsub.bx b bb hb, hbo, hk⟩)
            | false => exact .inl (hnr hbo)
          · cases h2
        · cases h2
      · cases h2
end Go.Proofs.Ytbgdojniimdihaa.X
