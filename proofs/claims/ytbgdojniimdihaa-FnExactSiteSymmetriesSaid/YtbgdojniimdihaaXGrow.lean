/- The frame grows: new rows, new variables in memory, places written; and it is cut. -/
import Derived.Test.YtbgdojniimdihaaXSim
namespace Go.Proofs.Ytbgdojniimdihaa.X
open Go Go.RowKit
def Sg.row (g : Sg) (i : Nat) (q : RowC) : Sg := { g with ρ := fun j => if j = i then some q else g.ρ j }
def Sg.box (g : Sg) (i : Nat) (k : Nat) : Sg := { g with β := fun j => if j = i then some k else g.β j }
theorem Sg.le_row {g : Sg} {i : Nat} (h : g.ρ i = none) (q : RowC) : g.Le (g.row i q) := ⟨fun _ _ h => h, fun j q' hj => by
  show (if j = i then _ else _) = _
  rw [if_neg (fun e => by subst e; rw [h] at hj; cases hj)]; exact hj⟩
theorem Sg.le_box {g : Sg} {i : Nat} (h : g.β i = none) (k : Nat) : g.Le (g.box i k) := ⟨fun j q' hj => by
  show (if j = i then _ else _) = _
  rw [if_neg (fun e => by subst e; rw [h] at hj; cases hj)]; exact hj, fun _ _ h => h⟩
theorem Sg.row_at (g : Sg) (i : Nat) (q : RowC) : (g.row i q).ρ i = some q := if_pos rfl
theorem Sg.row_ne (g : Sg) {i j : Nat} (q : RowC) (h : j ≠ i) : (g.row i q).ρ j = g.ρ j := if_neg h
theorem Sg.box_at (g : Sg) (i : Nat) (q : Nat) : (g.box i q).β i = some q := if_pos rfl
theorem Sg.box_ne (g : Sg) {i j : Nat} (q : Nat) (h : j ≠ i) : (g.box i q).β j = g.β j := if_neg h
variable {C : Cx} {fr : FF} {g : Sg} {a : Act} {w : World}
theorem RowOK.mono {rw rw' : Nat → Option RowE} {g g' : Sg} {i : Nat} {r : RowE} (hg : g.Le g') (hrw : ∀ j r, rw j = some r → rw' j = some r) (h : RowOK C rw g w i r) : RowOK C rw' g' w i r := by
  obtain ⟨q, A, n, c, hq, hv, hz, hl, hZ⟩ := h
  refine ⟨q, A, n, c, hg.ρ _ _ hq, hv, hz, hl, ?_⟩
  unfold Zone at hZ ⊢
  split at hZ
  · exact hZ
  · exact hZ
  · exact hZ
  · obtain ⟨h1, r', q', h2, h3, h4, h5⟩ := hZ
    exact ⟨h1, r', q', hrw _ _ h2, h3, hg.ρ _ _ h4, h5⟩
theorem RowOK.old {rw : Nat → Option RowE} {i : Nat} {r : RowE} (h : RowOK C rw g w i r) {g' : Sg} (hg : g.Le g') {q : RowC} (hq : g'.ρ i = some q) : g.ρ i = some q := by
  obtain ⟨q', A, n, c, hq', _⟩ := h
  rw [hg.ρ _ _ hq'] at hq
  cases hq
  exact hq'
theorem RowOK.old_lt {rw : Nat → Option RowE} {i : Nat} {r : RowE} (h : RowOK C rw g w i r) {q : RowC} (hq : g.ρ i = some q) : ∀ k, q.F k → k < w.heap.size := by
  obtain ⟨q', A, n, c, hq', _, _, hl, _⟩ := h
  rw [hq] at hq'
  cases hq'
  exact hl
theorem BoxOK.old {b : BoxE} {i : Nat} (h : BoxOK C g w b i) {g' : Sg} (hg : g.Le g') {q : Nat} (hq : g'.β i = some q) : g.β i = some q := by
  obtain ⟨q', cs, t, hq', _⟩ := h
  rw [hg.β _ _ hq'] at hq
  cases hq
  exact hq'
theorem BoxOK.lt {b : BoxE} {i : Nat} (h : BoxOK C g w b i) {k : Nat} (hk : g.β i = some k) : k < w.heap.size := by
  obtain ⟨q', cs, t, hq', hb, _⟩ := h
  rw [hk] at hq'
  cases hq'
  exact (Array.getElem?_eq_some_iff.1 hb).1
theorem Sim.mono_slots {g' : Sg} (h : Sim C fr g a w) (hg : g.Le g') : ∀ t v, lkp fr.sl t = some v → AVR C g' a v (a.tmps.getD t undef) := fun t v hv => (h.slots t v hv).mono hg
/-- a row more -/
theorem Sim.newRow (h : Sim C fr g a w) {rw' : Nat → Option RowE} {i : Nat} {r : RowE} {q : RowC} (hi : g.ρ i = none) (hrw : ∀ j, rw' j = if j = i then some r else fr.rw j)
    (hr : RowOK C rw' (g.row i q) w i r)
    (hd : r.m.mine = true → ∀ k, q.F k → (∀ j r' q', fr.rw j = some r' → r'.m.mine = true → g.ρ j = some q' → ¬ q'.F k) ∧ ∀ j b, fr.bx j = some b → b.own = true → g.β j ≠ some k) :
    Sim C { fr with rw := rw' } (g.row i q) a w := by
  have hg := Sg.le_row hi q
  have none : fr.rw i = none := by
    cases hn : fr.rw i with
    | none => rfl
    | some r0 => obtain ⟨q', _, _, _, hq', _⟩ := h.rows i r0 hn; rw [hi] at hq'; cases hq'
  have hold : ∀ j r', fr.rw j = some r' → rw' j = some r' := fun j r' hj => by
    rw [hrw, if_neg (fun e => by subst e; rw [none] at hj; cases hj)]; exact hj
  refine { h with slots := h.mono_slots hg, boxes := fun j b hb => (h.boxes j b hb).mono hg, bdisj := fun i' j b b' k hb hb' ho hk hk' => h.bdisj i' j b b' k hb hb' ho hk hk', rows := ?_, rdisj := ?_, rbox := ?_ }
  · intro j r' hj
    change rw' j = some r' at hj
    rw [hrw] at hj
    split at hj
    · rename_i e
      subst e
      cases hj
      exact hr
    · exact (h.rows j r' hj).mono hg hold
  · intro i1 j1 r1 r2 q1 q2 k h1 h2 m1 m2 hq1 hq2 hk1 hk2
    change rw' i1 = some r1 at h1
    change rw' j1 = some r2 at h2
    rw [hrw] at h1 h2
    split at h1
    · rename_i e1
      subst e1
      cases h1
      rw [Sg.row_at] at hq1
      cases hq1
      split at h2
      · rename_i e2; exact e2.symm
      · rename_i e2
        rw [Sg.row_ne _ _ e2] at hq2
        exact absurd hk2 ((hd m1 k hk1).1 j1 r2 q2 h2 m2 hq2)
    · rename_i e1
      rw [Sg.row_ne _ _ e1] at hq1
      split at h2
      · rename_i e2
        subst e2
        cases h2
        rw [Sg.row_at] at hq2
        cases hq2
        exact absurd hk1 ((hd m2 k hk2).1 i1 r1 q1 h1 m1 hq1)
      · rename_i e2
        rw [Sg.row_ne _ _ e2] at hq2
        exact h.rdisj i1 j1 r1 r2 q1 q2 k h1 h2 m1 m2 hq1 hq2 hk1 hk2
  · intro i1 r1 q1 j b k h1 m1 hq1 hb ho hk hF
    change rw' i1 = some r1 at h1
    rw [hrw] at h1
    split at h1
    · rename_i e1
      subst e1
      cases h1
      rw [Sg.row_at] at hq1
      cases hq1
      exact (hd m1 k hF).2 j b hb ho hk
    · rename_i e1
      rw [Sg.row_ne _ _ e1] at hq1
      exact h.rbox i1 r1 q1 j b k h1 m1 hq1 hb ho hk hF
/-- a variable in memory more -/
theorem Sim.newBox (h : Sim C fr g a w) {bx' : Nat → Option BoxE} {i : Nat} {b : BoxE} {k : Nat} (hi : g.β i = none) (hbx : ∀ j, bx' j = if j = i then some b else fr.bx j)
    (hb : BoxOK C (g.box i k) w b i) (hd : (∀ j b', fr.bx j = some b' → g.β j ≠ some k) ∧ (b.own = true → ∀ j r q, fr.rw j = some r → r.m.mine = true → g.ρ j = some q → ¬ q.F k)) :
    Sim C { fr with bx := bx' } (g.box i k) a w := by
  have hg := Sg.le_box hi k
  have none : fr.bx i = none := by
    cases hn : fr.bx i with
    | none => rfl
    | some r0 => obtain ⟨q', _, _, hq', _⟩ := h.boxes i r0 hn; rw [hi] at hq'; cases hq'
  refine { h with slots := h.mono_slots hg, rows := fun j r hj => (h.rows j r hj).mono hg fun _ _ h => h, rdisj := h.rdisj, boxes := ?_, bdisj := ?_, rbox := ?_ }
  · intro j b' hj
    change bx' j = some b' at hj
    rw [hbx] at hj
    split at hj
    · rename_i e
      subst e
      cases hj
      exact hb
    · exact (h.boxes j b' hj).mono hg
  · intro i1 j1 b1 b2 k1 h1 h2 ho hk1 hk2
    change bx' i1 = some b1 at h1
    change bx' j1 = some b2 at h2
    rw [hbx] at h1 h2
    split at h1
    · rename_i e1
      subst e1
      rw [Sg.box_at] at hk1
      cases hk1
      split at h2
      · rename_i e2; exact e2.symm
      · rename_i e2
        rw [Sg.box_ne _ _ e2] at hk2
        exact absurd hk2 (hd.1 j1 b2 h2)
    · rename_i e1
      rw [Sg.box_ne _ _ e1] at hk1
      split at h2
      · rename_i e2
        subst e2
        rw [Sg.box_at] at hk2
        cases hk2
        exact absurd hk1 (hd.1 i1 b1 h1)
      · rename_i e2
        rw [Sg.box_ne _ _ e2] at hk2
        exact h.bdisj i1 j1 b1 b2 k1 h1 h2 ho hk1 hk2
  · intro i1 r1 q1 j b' k' h1 m1 hq1 hb' ho hk hF
    change bx' j = some b' at hb'
    rw [hbx] at hb'
    split at hb'
    · rename_i e1
      subst e1
      cases hb'
      rw [Sg.box_at] at hk
      cases hk
      exact hd.2 ho i1 r1 q1 h1 m1 hq1 hF
    · rename_i e1
      rw [Sg.box_ne _ _ e1] at hk
      exact h.rbox i1 r1 q1 j b' k' h1 m1 hq1 hb' ho hk hF
theorem getD_put (a : Act) (t u : Nat) (v : Value) (h : t < a.tmps.size) : (a.put (some t) v).tmps.getD u undef = if u = t then v else a.tmps.getD u undef := by
  simp only [Act.put, Array.getD_eq_getD_getElem?, Array.getElem?_setIfInBounds]
  by_cases hu : t = u
  · subst hu; simp [h]
  · have : u ≠ t := fun e => hu e.symm
    simp [hu, this]
/-- a place written -/
theorem AVR.put {v : AV} {u x : Value} {t : Nat} (ht : t < a.tmps.size) (h : AVR C g a v u) (hw : v.waits t = false) : AVR C g (a.put (some t) x) v u := by
  cases v with
  | v ag cs => exact h
  | tup vs => exact h
  | grd c b ag cs =>
    have e : ∀ p ∈ c, (a.put (some t) x).tmps.getD p.1 undef = a.tmps.getD p.1 undef := fun p hp => by
      rw [getD_put a t p.1 x ht, if_neg]
      intro e
      simp only [AV.waits, List.any_eq_false] at hw
      exact hw p hp (by rw [e]; exact beq_same t)
    refine ⟨h.1, h.2.1, fun hc => h.2.2.1 fun p hp => (e p hp).symm.trans (hc p hp), fun hb p hp => (e p hp).trans (h.2.2.2 hb p hp)⟩
theorem Sim.put (h : Sim C fr g a w) {d : Option Nat} {v : Option AV} {u : Value} {sl' : List (Nat × AV)} (hp : putS fr.nt fr.sl d v = some sl')
    (hv : ∀ av, v = some av → AVR C g a av u) : Sim C { fr with sl := sl' } g (a.put d u) w := by
  cases d with
  | none => simp only [putS] at hp; cases hp; exact h
  | some t =>
    simp only [putS] at hp
    cases hb : Nat.blt t fr.nt
    · rw [hb] at hp; cases hp
    · rw [hb, cond_true] at hp
      have hlt : t < a.tmps.size := by rw [h.size]; simp only [Nat.blt, Nat.ble_eq] at hb; omega
      have hsz : (a.put (some t) u).tmps.size = fr.nt := by simp [Act.put, h.size]
      have hupf : ∀ f : Nat × AV → Bool, Up (fr.sl.filter f) := fun f => h.up.filter f
      have main : ∀ (sl : List (Nat × AV)), Up sl → (∀ t' v', lkp sl t' = some v' → AVR C g (a.put (some t) u) v' ((a.put (some t) u).tmps.getD t' undef)) → Sim C { fr with sl := sl } g (a.put (some t) u) w := fun sl hu hs =>
        { h with nodef := h.nodef, size := hsz, up := hu, slots := hs }
      have old : ∀ t' v', t' ≠ t → lkp (fr.sl.filter fun p => !p.2.waits t) t' = some v' → AVR C g (a.put (some t) u) v' ((a.put (some t) u).tmps.getD t' undef) := by
        intro t' v' hne hl
        obtain ⟨h1, h2⟩ := lkp_filter h.up hl
        rw [getD_put a t t' u hlt, if_neg hne]
        exact (h.slots t' v' h1).put hlt (by simpa using h2)
      cases v with
      | some v =>
        simp only at hp
        have hwt : v.waits t = false := by
          cases hwt : v.waits t
          · rfl
          · rw [hwt] at hp; cases hp
        rw [hwt, cond_false] at hp
        cases hp
        refine main _ ((hupf _).ins _ _) fun t' v' hl => ?_
        rw [lkp_ins] at hl
        split at hl
        · rename_i e
          subst e
          cases hl
          rw [getD_put a t t u hlt, if_pos rfl]
          exact (hv _ rfl).put hlt hwt
        · rename_i e
          exact old t' v' (fun e' => e e'.symm) hl
      | none =>
        cases hp
        refine main _ ((hupf _).filter _) fun t' v' hl => ?_
        obtain ⟨h1, h2⟩ := lkp_filter (hupf _) hl
        refine old t' v' (fun e => ?_) h1
        subst e
        simp at h2
end Go.Proofs.Ytbgdojniimdihaa.X
