/- What it means that a function of the program does what its Lean function says; operands; the shape of an operation's lemma. -/
import Derived.Test.YtbgdojniimdihaaXEnv
namespace Go.Proofs.Ytbgdojniimdihaa.X
open Go Go.RowKit
/-! ### functions -/
def PM.hands : PM → Bool | .mv | .io => true | .ro | .cap => false
def hands : List (PM × Sh) → List FP → FP
  | (m, _) :: ps, F :: Fs => fun k => (m.hands = true ∧ F k) ∨ hands ps Fs k
  | _, _ => fun _ => False
def reads : List (PM × Sh) → List FP → FP
  | (m, _) :: ps, F :: Fs => fun k => (m.hands = false ∧ F k) ∨ reads ps Fs k
  | _, _ => fun _ => False
def gives : List (PM × Sh) → List FP → FP
  | (m, _) :: ps, F :: Fs => fun k => (m = .mv ∧ F k) ∨ gives ps Fs k
  | _, _ => fun _ => False
def Apart : List (PM × Sh) → List FP → Prop
  | (m, _) :: ps, F :: Fs => (∀ k, F k → ¬ hands ps Fs k ∧ (m.hands = true → ¬ reads ps Fs k)) ∧ Apart ps Fs
  | _, _ => True
def Arg (P : Program) (w : World) (s : Sh) (x : s.T) (u : Value) (F : FP) : PM → Prop
  | .ro => ∃ cs, u = packB s.agg cs ∧ RC P s w F x cs
  | .mv | .io => ∃ cs, u = packB s.agg cs ∧ OC s w F x cs
  | .cap => ∃ k c t, u = .pointer (some ⟨k, 0, none⟩) ∧ F k ∧ w.heap[k]? = some (.cells c t (0, 0)) ∧ RC P s w F x c.toList
def Args (P : Program) (w : World) : (ps : List (PM × Sh)) → AT ps → List Value → List FP → Prop
  | [], _, us, Fs => us = [] ∧ Fs = []
  | (m, s) :: ps, x, us, Fs => ∃ u us' F Fs', us = u :: us' ∧ Fs = F :: Fs' ∧ (∀ k, F k → k < w.heap.size) ∧ Arg P w s x.1 u F m ∧ Args P w ps x.2 us' Fs'
def Outs (w' : World) : (ps : List (PM × Sh)) → (rs : List Sh) → List Value → List FP → RT (outs ps ++ rs) → (RT rs → Prop) → Prop
  | [], _, _, _, y, K => K y
  | (.io, s) :: ps, rs, u :: us, F :: Fs, y, K => (∃ cs, u = packB s.agg cs ∧ OC s w' F (RT.hd (l := outs ps ++ rs) y) cs) ∧ Outs w' ps rs us Fs (RT.tl (l := outs ps ++ rs) y) K
  | (.ro, _) :: ps, rs, _ :: us, _ :: Fs, y, K | (.mv, _) :: ps, rs, _ :: us, _ :: Fs, y, K | (.cap, _) :: ps, rs, _ :: us, _ :: Fs, y, K => Outs w' ps rs us Fs y K
  | _ :: _, _, _, _, _, _ => False
def Vals (w' : World) : (rs : List Sh) → RT rs → List Value → List FP → Prop
  | [], _, us, Fs => us = [] ∧ Fs = []
  | s :: rs, y, us, Fs => ∃ u us' F Fs' cs, us = u :: us' ∧ Fs = F :: Fs' ∧ u = packB s.agg cs ∧ OC s w' F (RT.hd y) cs ∧ (∀ k, F k → ∀ G ∈ Fs', ¬ G k) ∧ Vals w' rs (RT.tl y) us' Fs'
def retV : List Value → Value
  | [u] => u
  | us => .tuple us.toArray
def Post (w : World) (m : Mdl) (us : List Value) (Fs : List FP) (y : RT (outs m.ps ++ m.rs)) (u : Value) (w' : World) : Prop :=
  ∃ vs Gs, u = retV vs ∧ Moves (hands m.ps Fs) w w' ∧ Outs w' m.ps m.rs us Fs y fun z => Vals w' m.rs z vs Gs ∧ ∀ G ∈ Gs, ∀ k, G k → (w.heap.size ≤ k ∨ gives m.ps Fs k) ∧ k < w'.heap.size
def Sound (P : Program) (f : Nat) (m : Mdl) : Prop :=
  ∀ w x us Fs, Args P w m.ps x us Fs → Apart m.ps Fs → ∀ y, m.F x = some y → Calls P f us.toArray w fun e w' => ∃ u, e = .returned u ∧ Post w m us Fs y u w'
structure EnvOK (P : Program) (E : Env) : Prop where
  ty : ∀ t ty, lkp E.ty t = some ty → TypeOK P t ty
  eq : ∀ t ks, lkp E.eq t = some ks → ∃ m n, eqT P m t = some n ∧ m ≤ 10000 ∧ kdShs ks = some (kds P m t) ∧ aggOf P t = some true ∧ P.eqGuardType P.depth t = false
  fs : ∀ f m, lkp E.fs f = some m → Sound P f m ∧ Runs P f
  mixed : P.follows .mixedOrders = true

/-! ### operands -/
variable {C : Cx} {fr : Fr} {big : FF} {g : Sg} {a : Act} {w : World}
theorem opd_rel {C : Cx} {fr : Fr} {g : Sg} {a : Act} {w : World} (h : Sim C fr.f g a w) {ch : List (Nat × Bool)} (hc : Holds a ch) {x : Operand} {v : AV} (hx : opd fr ch x = some v) : AVR C g a v (a.eval x) := by
  unfold opd at hx
  split at hx
  · rename_i t
    split at hx
    · rename_i c b ag cs hl
      cases hall : (c.all fun p => ch.any fun q => Nat.beq p.1 q.1 && (p.2 == q.2))
      · rw [hall] at hx; cases hx
      · rw [hall] at hx
        cases hx
        have := h.slots t _ hl
        refine this.1 (this.2.2.1 fun p hp => ?_)
        have h1 := List.all_eq_true.1 hall p hp
        obtain ⟨q, hq, he⟩ := List.any_eq_true.1 h1
        simp only [Bool.and_eq_true, beq_iff_eq] at he
        have e1 : p.1 = q.1 := Nat.eq_of_beq_eq_true he.1
        rw [e1, he.2]
        exact hc q hq
    · rename_i hng
      exact h.slots t v hx
  · cases hx; exact VR.of1 rfl
  · cases hx; exact VR.of1 rfl
  · cases hx; exact VR.of1 rfl
  · cases hx; exact VR.of1 rfl
  · cases hx; exact VR.of1 ⟨[], rfl, rfl⟩
  · cases hx
theorem opl_rel (h : Sim C fr.f g a w) {ch : List (Nat × Bool)} (hc : Holds a ch) {x : Operand} {ag : Bool} {cs : List Lf} (hx : opl fr ch x = some (ag, cs)) : VR C g ag cs (a.eval x) := by
  unfold opl at hx
  split at hx
  · rename_i ho
    cases hx
    exact opd_rel h hc ho
  · cases hx
theorem op1_rel (h : Sim C fr.f g a w) {ch : List (Nat × Bool)} (hc : Holds a ch) {x : Operand} {l : Lf} (hx : op1 fr ch x = some l) : LfR C g l (a.eval x) := by
  unfold op1 at hx
  split at hx
  · rename_i ho
    cases hx
    exact (opd_rel h hc ho).to1
  · cases hx

/-! ### an operation's lemma -/
/-- new entries from number n on -/
def more {α : Type} (n : Nat) (l : List α) (f : Nat → Option α) : Nat → Option α := fun j => if n ≤ j ∧ j < n + l.length then l[j - n]? else f j
def effB (f : Nat → Option BoxE) : Eff → Nat → Option BoxE
  | .box i b => fun j => if j = i then some b else f j
  | _ => f
def effR (f : Nat → Option RowE) : Eff → Nat → Option RowE
  | .tab rw => at? rw
  | _ => f
/-- the big frame behind an operation that was looked at in a part of it, the new numbers beginning where the part's end -/
def grow (fr : Fr) (big : FF) (nr : List RowE) (nb : List BoxE) (ef : Eff) : FF :=
  { big with bx := more fr.bx.length nb (effB big.bx ef), rw := more fr.rw.length nr (effR big.rw ef) }
/-- the part of a frame -/
structure Sub (fr : Fr) (big : FF) : Prop where
  nt : fr.nt = big.nt
  up : Up fr.sl
  sl : ∀ t v, lkp fr.sl t = some v → lkp big.sl t = some v
  bx : ∀ i b, at? fr.bx i = some b → big.bx i = some b
  rw : ∀ i r, at? fr.rw i = some r → big.rw i = some r
  par : ∀ i r p pa, at? fr.rw i = some r → r.m = .bor p pa → ∀ r', big.rw p = some r' → at? fr.rw p = some r'
theorem Sub.refl (h : Up fr.sl) : Sub fr fr.f := ⟨rfl, h, fun _ _ h => h, fun _ _ h => h, fun _ _ h => h, fun _ _ _ _ _ _ _ h => h⟩
/-- what is outside the new numbers is as it was -/
structure Fresh (fr : Fr) (nr : List RowE) (nb : List BoxE) (g g' : Sg) : Prop where
  le : g.Le g'
  β : ∀ j, ¬ (fr.bx.length ≤ j ∧ j < fr.bx.length + nb.length) → g'.β j = g.β j
  ρ : ∀ j, ¬ (fr.rw.length ≤ j ∧ j < fr.rw.length + nr.length) → g'.ρ j = g.ρ j
structure Free (fr : Fr) (nr : List RowE) (nb : List BoxE) (g : Sg) : Prop where
  β : ∀ j, fr.bx.length ≤ j → j < fr.bx.length + nb.length → g.β j = none
  ρ : ∀ j, fr.rw.length ≤ j → j < fr.rw.length + nr.length → g.ρ j = none
def Out (C : Cx) (g : Sg) (a : Act) (fr : Fr) (nr : List RowE) (nb : List BoxE) (big' : FF) (v : Option AV) (u : Value) (w' : World) : Prop :=
  ∃ g', Fresh fr nr nb g g' ∧ Sim C big' g' a w' ∧ ∀ av, v = some av → AVR C g' a av u
/-- a part agrees where the whole does -/
theorem Sim.sub {big : FF} (h : Sim C big g a w) (hs : Sub fr big) : Sim C fr.f g a w where
  nodef := h.nodef
  size := by rw [h.size]; exact hs.nt.symm
  up := hs.up
  kept := h.kept
  slots := fun t v hv => h.slots t v (hs.sl t v hv)
  boxes := fun i b hi => h.boxes i b (hs.bx i b hi)
  bdisj := fun i j b b' k h1 h2 => h.bdisj i j b b' k (hs.bx i b h1) (hs.bx j b' h2)
  rows := fun i r hi => by
    obtain ⟨q, A, n, c, hq, hv, hz, hl, hZ⟩ := h.rows i r (hs.rw i r hi)
    refine ⟨q, A, n, c, hq, hv, hz, hl, ?_⟩
    unfold Zone at hZ ⊢
    split at hZ
    · exact hZ
    · exact hZ
    · exact hZ
    · rename_i p pa hm
      obtain ⟨h1, r', q', h2, h3⟩ := hZ
      exact ⟨h1, r', q', hs.par i r p pa hi hm r' h2, h3⟩
  rdisj := fun i j r r' q q' k h1 h2 => h.rdisj i j r r' q q' k (hs.rw i r h1) (hs.rw j r' h2)
  rbox := fun i r q j b k h1 h2 h3 h4 => h.rbox i r q j b k (hs.rw i r h1) h2 h3 (hs.bx j b h4)
theorem more_nil {α : Type} (n : Nat) (f : Nat → Option α) : more n [] f = f := by
  funext j
  unfold more
  rw [if_neg (by simp)]
theorem more_one {α : Type} (n : Nat) (x : α) (f : Nat → Option α) : more n [x] f = fun j => if j = n then some x else f j := by
  funext j
  unfold more
  by_cases h : j = n
  · subst h; simp
  · rw [if_neg h, if_neg (by simp; omega)]
theorem grow_nil (fr : Fr) (big : FF) : grow fr big [] [] .pure = big := by
  simp only [grow, more_nil, effB, effR]
/-- nothing new: the frame is as it was -/
theorem Out.same {big : FF} (h : Sim C big g a w) {v : Option AV} {u : Value} (hv : ∀ av, v = some av → AVR C g a av u) : Out C g a fr [] [] (grow fr big [] [] .pure) v u w :=
  ⟨g, ⟨Sg.Le.refl g, fun _ _ => rfl, fun _ _ => rfl⟩, by rw [grow_nil]; exact h, hv⟩
end Go.Proofs.Ytbgdojniimdihaa.X
