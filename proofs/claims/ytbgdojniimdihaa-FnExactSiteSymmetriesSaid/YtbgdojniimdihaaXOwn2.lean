/- New rows of the frame's own, operation by operation; stores. -/
import Derived.Test.YtbgdojniimdihaaXOwn
namespace Go.Proofs.Ytbgdojniimdihaa.X
open Go Go.RowKit
variable {C : Cx} {fr : Fr} {big : FF} {g : Sg} {a : Act} {w w' : World} {ch : List (Nat × Bool)} {E : Env}
theorem OwnsL.nil {α : Type} (M : FP → α → List Value → Prop) (e sz : Nat) (w : World) (F : FP) : OwnsL M e sz w F (.slice none 0 0) [] :=
  ⟨[], World.ownsRow_nil w 0 e sz, rfl, by simp, by simp [Value.ownBlock], fun _ _ => False, by simp, by simp, by simp⟩
theorem dfl_OC : (s : Sh) → ∀ {zs}, zerosV s = some zs → ∀ w F, OC s w F s.dfl zs
  | .int _, _, h, _, _ | .bool, _, h, _, _ | .str, _, h, _, _ => by cases h; rfl
  | .list e s, _, h, w, F => by cases h; exact ⟨_, rfl, OwnsL.nil _ _ _ _ _⟩
  | .cons a b, _, h, w, F => by
    simp only [zerosV] at h
    split at h
    · rename_i x y hx hy
      cases h
      exact ⟨x, y, rfl, fun _ => False, fun _ => False, fun _ h => h.elim, fun _ h => h.elim, fun _ h => h.elim, dfl_OC a hx w _, dfl_OC b hy w _⟩
    · cases h
theorem flatten_replicate (zs : List Value) : ∀ (n : Nat), 0 < zs.length → (madeCells zs.toArray (n * zs.length)).toList = (List.replicate n zs).flatten := by
  intro n hz
  have key : ∀ n k, (List.replicate n zs).flatten[k]? = if k < n * zs.length then zs[k % zs.length]? else none := by
    intro n
    induction n with
    | zero => intro k; simp
    | succ n ih =>
      intro k
      rw [List.replicate_succ, List.flatten_cons]
      by_cases hk : k < zs.length
      · rw [List.getElem?_append_left hk, if_pos (by rw [Nat.succ_mul]; omega), Nat.mod_eq_of_lt hk]
      · rw [List.getElem?_append_right (by omega), ih]
        have e : (k - zs.length) % zs.length = k % zs.length := by
          rw [← Nat.sub_add_cancel (show zs.length ≤ k by omega), Nat.add_mod_right, Nat.add_sub_cancel]
        by_cases h2 : k < (n + 1) * zs.length
        · rw [if_pos h2, if_pos (by rw [Nat.succ_mul] at h2; omega), e]
        · rw [if_neg h2, if_neg (by rw [Nat.succ_mul] at h2; omega)]
  apply List.ext_getElem?
  intro k
  rw [key n k]
  by_cases hk : k < n * zs.length
  · rw [if_pos hk]
    have hm : k % zs.length < zs.length := Nat.mod_lt _ hz
    simp [madeCells, hk, hm]
  · rw [if_neg hk]
    simp [madeCells, hk]
/-- a row in a new block -/
theorem Sim.freshRow (hC : CxOK C) (h : Sim C big g a w) {n : Nat} (hn : g.ρ n = none) {r : RowE} {q : RowC} (hown : r.m = .own) (hm : Moves (fun _ => False) w w')
    (hO : OwnL r.e r.s w' q.F q.v r.xs) (hqv : ∃ A m c, q.v = .slice A m c) (hsz : q.sz = r.s.n) (hF : ∀ k, q.F k → w.heap.size ≤ k ∧ k < w'.heap.size) :
    Sim C { big with rw := fun j => if j = n then some r else big.rw j } (g.row n q) a w' :=
  h.handOver hC hn (Took.refl _ _) hown hm (fun _ h => h.elim) hO hqv hsz (fun k hk => ⟨.inl (hF k hk).1, (hF k hk).2⟩) (fun j r0 pa hj e => by
    obtain ⟨q', _, _, _, _, _, _, _, hZ⟩ := h.rows j r0 hj
    rw [Zone, e] at hZ
    obtain ⟨_, r', q'', _, _, h3, _⟩ := hZ
    rw [hn] at h3
    cases h3)
theorem grow_row (fr : Fr) (big : FF) (r : RowE) : grow fr big [r] [] .pure = { big with rw := fun j => if j = fr.rw.length then some r else big.rw j } := by
  simp only [grow, more_nil, more_one, effB, effR]
theorem grow_tab (fr : Fr) (big : FF) (r : RowE) (rw : List (Option RowE)) : grow fr big [r] [] (.tab rw) = { big with rw := fun j => if j = fr.rw.length then some r else at? rw j } := by
  simp only [grow, more_nil, more_one, effB, effR]
theorem stMake_ok (hE : EnvOK C.P E) (hC : CxOK C) (hs : Sim C big g a w) (hsub : Sub fr big) (hc : Holds a ch) (o : Oper) (t : TypeId) (x y : Operand) (ho : o.op = .makeSlice t x y) : Good C g a fr big ((execOp a.eval o).run C.P w) (stMake E fr ch t x y) := by
  unfold stMake
  split
  · rename_i e s b n c hsl h1 h2
    intro hreq _ hfree
    simp only [Bool.and_eq_true, decide_eq_true_eq, beq_iff_eq] at hreq
    obtain ⟨⟨h0, hle⟩, hnc⟩ := hreq
    subst hnc
    have e1 : a.eval x = .int .i64 n := op1_rel (hs.sub hsub) hc h1
    have e2 : a.eval y = .int .i64 n := op1_rel (hs.sub hsub) hc h2
    obtain ⟨hund, hT, hb⟩ := slT_ok hE hsl
    obtain ⟨i, z, hi, hsz, hz, zs, hzs, hzz⟩ := hT.info
    obtain ⟨l1, l2⟩ := lim_ok (ble_le hle)
    have hn : g.ρ fr.rw.length = none := hfree.ρ _ (Nat.le_refl _) (by simp)
    obtain ⟨w', hr, hown, hgb⟩ := run_make_full (P := C.P) w 0 t e i z s.n hund hi hz hsz .i64 .i64 n.toNat (by rw [hb i hi, Nat.mul_comm]; omega) l1 (Nat.zero_le _)
    have en : ((n.toNat : Nat) : Int) = n := Int.toNat_of_nonneg h0
    rw [en] at hr
    have hzl := zerosV_len s hzs
    have hzc : z.cells = zs.toArray := by rw [hzz, ← Array.toArray_toList (xs := (packB s.agg zs).cells), zeros_cells hzs]
    rw [hzc, ← hzl, flatten_replicate zs _ (by rw [hzl]; exact s.n_pos), hzl] at hown
    let q : RowC := ⟨.slice (some ⟨w.heap.size, 0, none⟩) n.toNat n.toNat, fun k => k = w.heap.size, s.n⟩
    have hlt : w.heap.size < w'.heap.size := (hown.lt w.heap.size rfl).2
    have hO : OwnL e s w' q.F q.v (List.replicate n.toNat s.dfl) := by
      refine ⟨List.replicate n.toNat zs, by simpa using hown, by simp, ?_, ?_, fun _ _ => False, by simp, by simp, ?_⟩
      · intro d hd
        rw [List.eq_of_mem_replicate hd]
        exact ⟨hzl, zerosV_one s hzs⟩
      · intro k hk; simp [q, Value.ownBlock] at hk; exact hk.symm
      · intro j x' d hx' hd'
        rw [List.getElem?_replicate] at hx' hd'
        split at hx'
        · rename_i hj
          rw [if_pos hj] at hd'
          cases hx'
          cases hd'
          exact dfl_OC s hzs _ _
        · cases hx'
    have hrun : (execOp a.eval o).run C.P w = .ok (.value q.v) w' := by
      simp only [execOp, ho, e1, e2, Sem.run_bind, hr, Result.andThen_ok]
      rfl
    refine ⟨_, _, _, hrun, .inl rfl, g.row fr.rw.length q, fresh_row fr hn rfl, ?_, fun av hav => ?_⟩
    · rw [grow_row]
      exact hs.freshRow hC hn (q := q) rfl (Moves.none hgb _) hO ⟨_, _, _, rfl⟩ rfl fun k hk => by cases hk; exact ⟨Nat.le_refl _, hlt⟩
    · cases hav
      exact VR.of1 ⟨q, _, _, _, Sg.row_at _ _ _, rfl, rfl⟩
  · trivial

/-! ### slice literals -/
theorem set_flatten {sz : Nat} : ∀ {css : List (List Value)} (i : Nat) (c : List Value), (∀ d ∈ css, d.length = sz) → c.length = sz → i < css.length → setAt css.flatten (i * sz) c = (css.set i c).flatten
  | d :: r, 0, c, h, hc, _ => by
    have hd := h d (by simp)
    simp only [setAt, Nat.zero_mul, List.take_zero, List.nil_append, Nat.zero_add, List.set_cons_zero, List.flatten_cons]
    rw [List.drop_append, List.drop_eq_nil_of_le (by omega), List.nil_append, hc, hd, Nat.sub_self, List.drop_zero]
  | d :: r, i + 1, c, h, hc, hi => by
    have hd := h d (by simp)
    have ih := set_flatten (css := r) i c (fun d hd => h d (by simp [hd])) hc (by simpa using hi)
    simp only [List.set_cons_succ, List.flatten_cons]
    rw [← ih]
    simp only [setAt, Nat.succ_mul]
    have e3 : i * sz + sz + c.length - d.length = i * sz + c.length := by omega
    have e4 : i * sz + sz - d.length = i * sz := by omega
    rw [List.take_append, List.take_of_length_le (l := d) (by omega), e4, List.drop_append, List.drop_eq_nil_of_le (by omega), List.nil_append, e3]
    simp only [List.append_assoc]
theorem take_flat {ok : Md → Bool} {m : Option Nat} : (s : Sh) → s.flat = true → ∀ {ls rest rw rw' x}, take ok m s ls rw = some (x, rest, rw') → rw' = rw
  | .int _, _, ls, rest, rw, rw', x, h => by
    simp only [take] at h
    split at h
    · split at h
      · cases h; rfl
      · cases h
    · cases h
  | .bool, _, ls, rest, rw, rw', x, h => by
    simp only [take] at h
    split at h
    · cases h; rfl
    · cases h
  | .str, _, ls, rest, rw, rw', x, h => by
    simp only [take] at h
    split at h
    · cases h; rfl
    · cases h
  | .cons a b, hf, ls, rest, rw, rw', x, h => by
    simp only [Sh.flat, Bool.and_eq_true] at hf
    simp only [take] at h
    split at h
    · rename_i h1
      split at h
      · rename_i h2
        cases h
        rw [take_flat b hf.2 h2, take_flat a hf.1 h1]
      · cases h
    · cases h
theorem buildS_flat {q : Nat} {s : Sh} (hf : s.flat = true) : ∀ {parts : List (Nat × Operand)} {xs xs' : List s.T} {rw rw' : List (Option RowE)}, buildS fr ch q s parts xs rw = some (xs', rw') → rw' = rw
  | [], _, _, _, _, h => by cases h; rfl
  | (i, x) :: r, xs, xs', rw, rw', h => by
    simp only [buildS] at h
    split at h
    · split at h
      · rename_i h1
        cases hb : (Nat.blt i xs.length && (s.agg == _))
        · rw [hb] at h; cases h
        · rw [hb, cond_true] at h
          rw [buildS_flat hf h, take_flat s hf h1]
      · cases h
    · cases h
/-- the state of a slice literal that is built -/
structure Lit (s : Sh) (w : World) (g : Sg) (rw0 rw : Nat → Option RowE) (xs : List s.T) (css : List (List Value)) : Prop where
  len : css.length = xs.length
  cell : ∀ c ∈ css, c.length = s.n ∧ ∀ u ∈ c, u.oneCell' = true
  G : ∃ G : Nat → FP, (∀ j k, G j k → Own rw0 g k ∧ ¬ Own rw g k) ∧ (∀ i j k, i ≠ j → G i k → ¬ G j k) ∧ ∀ j x c, xs[j]? = some x → css[j]? = some c → OC s w (G j) x c
theorem flat_len {sz : Nat} : ∀ {css : List (List Value)}, (∀ d ∈ css, d.length = sz) → css.flatten.length = css.length * sz
  | [], _ => by simp
  | d :: r, h => by
    rw [List.flatten_cons, List.length_append, h d (by simp), flat_len fun d hd => h d (by simp [hd]), List.length_cons, Nat.succ_mul]
    omega
theorem buildS_ok (hs : Sim C fr.f g a w) (hc : Holds a ch) {q : Nat} {s : Sh} : ∀ {parts : List (Nat × Operand)} {xs xs' : List s.T} {rw rw' : List (Option RowE)} {css : List (List Value)}, buildS fr ch q s parts xs rw = some (xs', rw') →
    Took (some q) (at? fr.rw) (at? rw) → Lit s w g (at? fr.rw) (at? rw) xs css →
    rw'.length = rw.length ∧ Took (some q) (at? fr.rw) (at? rw') ∧ ∃ css', Instr.fill (fun i => some (i * s.n, s.n)) css.flatten.toArray (parts.map fun p => (p.1, a.eval p.2)) = some css'.flatten.toArray ∧ Lit s w g (at? fr.rw) (at? rw') xs' css'
  | [], xs, xs', rw, rw', css, h, hT, hL => by cases h; exact ⟨rfl, hT, css, rfl, hL⟩
  | (i, x) :: r, xs, xs', rw, rw', css, h, hT, hL => by
    simp only [buildS] at h
    split at h
    · rename_i ag vs hx
      split at h
      · rename_i y rw1 h1
        cases hb : (Nat.blt i xs.length && (s.agg == ag))
        · rw [hb] at h; cases h
        · rw [hb, cond_true] at h
          simp only [Bool.and_eq_true, beq_iff_eq] at hb
          have hi : i < xs.length := by have := hb.1; simp only [Nat.blt, Nat.ble_eq] at this; omega
          obtain ⟨us, e, hr, hag⟩ := opl_rel hs hc hx
          obtain ⟨n1, t1, c1, c2, e12, hr2, hO⟩ := take_ok (g := g) (w := w) (C := C) (fun m hm => by
            have : m = .own := by simpa using hm
            subst this
            exact ⟨rfl, fun _ => rfl⟩) s h1 hr (hs.tab.took hT)
          cases hr2
          have e12' : us = c1 := by rw [e12, List.append_nil]
          subst e12'
          have hul := OC.len s hO
          have hcl : (a.eval x).cells.toList = us := by rw [e]; exact packB_cells (fun hb' => by rw [hr.len, hag hb']) hr.one
          obtain ⟨G, hG1, hG2, hG3⟩ := hL.G
          have hL' : Lit s w g (at? fr.rw) (at? rw1) (xs.set i y) (css.set i us) := by
            refine ⟨by simp [hL.len], ?_, fun j => if j = i then (fun k => Own (at? rw) g k ∧ ¬ Own (at? rw1) g k) else G j, ?_, ?_, ?_⟩
            · intro d hd
              rcases List.mem_or_eq_of_mem_set hd with hd | hd
              · exact hL.cell d hd
              · rw [hd]; exact ⟨hul, hr.one⟩
            · intro j k hk
              split at hk
              · exact ⟨hk.1.took hT, hk.2⟩
              · exact ⟨(hG1 j k hk).1, fun h => (hG1 j k hk).2 (h.took t1)⟩
            · intro j j' k hjj h1 h2
              split at h1 <;> split at h2
              · omega
              · exact (hG1 _ k h2).2 h1.1
              · exact (hG1 _ k h1).2 h2.1
              · exact hG2 j j' k hjj h1 h2
            · intro j x' d hx' hd'
              rw [List.getElem?_set] at hx' hd'
              by_cases hij : i = j
              · subst hij
                rw [if_pos rfl, if_pos hi] at hx'
                rw [if_pos rfl, if_pos (by rw [hL.len]; exact hi)] at hd'
                cases hx'
                cases hd'
                simp only [if_true]
                exact hO
              · rw [if_neg hij] at hx' hd'
                have e2 : (if j = i then (fun k => Own (at? rw) g k ∧ ¬ Own (at? rw1) g k) else G j) = G j := if_neg (fun e => hij e.symm)
                show OC s w (if j = i then (fun k => Own (at? rw) g k ∧ ¬ Own (at? rw1) g k) else G j) x' d
                rw [e2]
                exact hG3 j x' d hx' hd'
          obtain ⟨n2, t2, css', hf, hL2⟩ := buildS_ok hs hc h (hT.trans t1) hL'
          refine ⟨n2.trans n1, t2, css', ?_, hL2⟩
          rw [List.map_cons, fill_cons _ css.flatten i (a.eval x) _ (i * s.n) s.n rfl us hcl hul]
          · rw [set_flatten i us (fun d hd => (hL.cell d hd).1) hul (by rw [hL.len]; exact hi)]
            exact hf
          · rw [flat_len (fun d hd => (hL.cell d hd).1), hL.len]
            have := Nat.mul_le_mul_right s.n (show i + 1 ≤ xs.length from hi)
            rw [Nat.succ_mul] at this
            exact this
      · cases h
    · cases h
end Go.Proofs.Ytbgdojniimdihaa.X
