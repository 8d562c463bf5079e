/- The plain law of FnPainted: painting orbits and reading their colours undo one another. -/
import Derived.Test.YtniidcalfhhciaaGreatQcMZ
import Derived.Test.YtniidcalfhhciaaGreatQcPPaintOrbits
import Derived.Test.YtniidcalfhhciaaGreatQcPOrbitColours
namespace Go.Proofs.YtniidcalfhhciaaGreat.X
open Go
set_option linter.unusedSimpArgs false
set_option linter.unusedVariables false
theorem specIK_eq (p : Pt) {g : List Mo} (hn : g.length ≤ 1048576) : f82G KK p g = some (resIK p g) := by
  unfold f82G resIK
  rw [l13Code_eq p hn, Option.bind_some]
  cases hc : codeK p g != 0
  · have h0 : codeK p g = 0 := by simpa using hc
    obtain ⟨hp, hO⟩ := codeK_0 h0
    rw [cond_false, cond_false, l13Kept_eq hp hO]
    rfl
  · rfl
theorem ix_of {f : Int} {l : Lt} {g : List Mo} (h : OrbG f l g) {j : Nat} (hj : j < (orbsS l g).length) {u : Vc} (hu : u ∈ (orbsS l g)[j]) : ixS l g u = (j : Int) := by
  have hc := (orbs_cell h (List.getElem_mem hj)).1 u hu
  obtain ⟨k, hk, e, hin⟩ := ix_at h hc
  have no : ∀ (a b : Nat) (ha : a < (orbsS l g).length) (hb : b < (orbsS l g).length), a < b → u ∈ (orbsS l g)[a] → u ∈ (orbsS l g)[b] → False := fun a b ha hb hab h1 h2 => by
    have := orbs_apart h hb h2
    have h3 : ((orbsS l g).take b).any (fun o => o.contains u) = true := List.any_eq_true.2 ⟨(orbsS l g)[a], List.mem_take_iff_getElem.2 ⟨a, by omega, rfl⟩, List.contains_iff_mem.2 h1⟩
    rw [this] at h3
    cases h3
  by_cases h1 : j < k
  · exact absurd hin fun h2 => no j k hj hk h1 hu h2
  · by_cases h2 : k < j
    · exact absurd hu fun h3 => no k j hk hj h2 hin h3
    · have : k = j := by omega
      rw [e, this]
/-! ### colours of a kept pattern, painted again -/
theorem oc_inv {p : Pt} {g : List Mo} (h : (resOC p g).2 = 0) : codeK p g = 0 ∧ keptS p g = true ∧ resOC p g = (colS p g, 0) := by
  unfold resOC at h ⊢
  cases hc : codeK p g != 0
  · have h0 : codeK p g = 0 := by simpa using hc
    rw [hc, cond_false] at h
    cases hk : keptS p g
    · rw [hk, cond_false] at h; exact absurd h (by decide)
    · exact ⟨h0, rfl, rfl⟩
  · rw [hc, cond_true] at h
    have h : codeK p g = 0 := h
    rw [h] at hc
    exact absurd hc (by decide)
theorem oc_kept (p : Pt) (g : List Mo) : (bif (resIK p g).2 == 0 then ((resOC p g).2 == 0) != (resIK p g).1 else false) = false := by
  unfold resIK resOC
  cases hc : codeK p g != 0
  · simp only [cond_false]
    cases keptS p g <;> rfl
  · simp only [cond_true]
    have : (codeK p g == 0) = false := by simpa using hc
    rw [this, cond_false]
theorem okP_codeC {p : Pt} {g : List Mo} (h : codeK p g = 0) : okP p = true ∧ codeC p.1 p.2.1 g true = 0 := by
  unfold codeK at h
  cases hp : okP p
  · rw [hp, cond_false] at h; exact absurd h (by decide)
  · rw [hp, cond_true] at h
    obtain ⟨h1, h2⟩ := okP_parts hp
    by_cases hG : grpB p.1 p.2.1 g = true
    · refine ⟨rfl, ?_⟩
      unfold codeC
      rw [h1, h2, hG]
      rfl
    · rw [if_neg hG] at h; exact absurd h (by decide)
theorem at_ok {p : Pt} (h : okP p = true) (v : Vc) : okC (atS p v) = true := by
  unfold okP at h
  simp only [Bool.and_eq_true] at h
  have ha := List.all_eq_true.1 h.2
  unfold atS
  rw [List.getD_eq_getElem?_getD]
  cases he : p.2.2[numS p.2.1 v]? with
  | none => rfl
  | some x => exact ha x (List.mem_of_getElem? he)
theorem kept_orb {p : Pt} {g : List Mo} (hO : OrbG p.1 p.2.1 g) (hk : keptS p g = true) {v u : Vc} (hv : cellB p.2.1 v = true) (hu : u ∈ orbS p.2.1 g v) : atS p u = atS p v := by
  obtain ⟨m, hm, rfl⟩ := orbS_mem.1 hu
  exact keep_mv hO.la (List.all_eq_true.1 hk m hm) hv
theorem kept_same {p : Pt} {g : List Mo} (hO : OrbG p.1 p.2.1 g) (hk : keptS p g = true) {o : List Vc} (ho : o ∈ orbsS p.2.1 g) {u w : Vc} (hu : u ∈ o) (hw : w ∈ o) : atS p u = atS p w := by
  unfold orbsS at ho
  obtain ⟨r, hr, rfl⟩ := List.mem_map.1 ho
  have hc := (reps_mem hr).1
  rw [kept_orb hO hk hc hu, kept_orb hO hk hc hw]
theorem paint_back {p : Pt} {g : List Mo} (hP : okP p = true) (hO : OrbG p.1 p.2.1 g) (hk : keptS p g = true) : paintS p.2.1 g (colS p g) = p.2.2 := by
  have hp := okP_P hP
  have hlen : p.2.2.length = (cellsS p.2.1).length := by
    unfold okP at hP
    simp only [Bool.and_eq_true, decide_eq_true_eq] at hP
    have e := hP.1.2
    rw [cellsS_len hO.la]
    have := hO.la.a1
    have := hO.la.c1
    have e2 : ((p.2.1.1.toNat * p.2.1.2.2.toNat : Nat) : Int) = p.2.1.1 * p.2.1.2.2 := by rw [Int.natCast_mul, Int.toNat_of_nonneg (by omega), Int.toNat_of_nonneg (by omega)]
    omega
  refine List.ext_getElem? fun i => ?_
  unfold paintS numsF
  rw [List.map_map, List.getElem?_map]
  by_cases hi : i < (cellsS p.2.1).length
  · have hc : cellB p.2.1 (cellsS p.2.1)[i] = true := cellsS_cell (List.getElem_mem hi)
    obtain ⟨k, hkl, e, hin⟩ := ix_at hO hc
    rw [List.getElem?_eq_getElem hi]
    show some ((colS p g).getD (ixS p.2.1 g (cellsS p.2.1)[i]).toNat 0) = _
    rw [e]
    have e1 : ((k : Nat) : Int).toNat = k := by omega
    obtain ⟨x, t, ex, _⟩ := orbs_ne hO (List.getElem_mem hkl)
    have e2 : (colS p g).getD k 0 = atS p x := by
      unfold colS
      rw [List.getD_eq_getElem?_getD, List.getElem?_map, List.getElem?_eq_getElem hkl, ex]
      rfl
    have hx : x ∈ (orbsS p.2.1 g)[k] := by rw [ex]; simp
    rw [e1, e2, kept_same hO hk (List.getElem_mem hkl) hx hin]
    unfold atS
    rw [cellsS_num hO.la hi, List.getD_eq_getElem?_getD, List.getElem?_eq_getElem (by omega)]
    rfl
  · rw [List.getElem?_eq_none (by omega), List.getElem?_eq_none (by omega)]
    rfl
theorem again_eq {p : Pt} {g : List Mo} (h : (resOC p g).2 = 0) : resPO p.1 p.2.1 g (resOC p g).1 = (p, 0) := by
  obtain ⟨h0, hk, e⟩ := oc_inv h
  obtain ⟨hP, hC⟩ := okP_codeC h0
  have hO := (codeC_0 hC).1
  rw [e]
  have hb := paint_back hP hO hk
  have h1 : ((colS p g).length == (orbsS p.2.1 g).length) = true := by unfold colS; simp
  have h2 : (colS p g).all okC = true := by
    refine List.all_eq_true.2 fun c hc => ?_
    unfold colS at hc
    obtain ⟨o, _, rfl⟩ := List.mem_map.1 hc
    exact at_ok hP _
  unfold resPO
  simp only
  rw [hC, h1, h2, hb]
  rfl
/-! ### a painted pattern's colours -/
theorem po_inv {f : Int} {l : Lt} {g : List Mo} {c : List Int} (h : (resPO f l g c).2 = 0) : codeC f l g true = 0 ∧ c.length = (orbsS l g).length ∧ c.all okC = true ∧ resPO f l g c = ((f, l, paintS l g c), 0) := by
  unfold resPO at h ⊢
  cases hc : codeC f l g true != 0
  · have h0 : codeC f l g true = 0 := by simpa using hc
    rw [hc, cond_false] at h
    cases hx : (c.length == (orbsS l g).length) && c.all okC
    · rw [hx, cond_false] at h; exact absurd h (by decide)
    · rw [Bool.and_eq_true, beq_iff_eq] at hx
      exact ⟨h0, hx.1, hx.2, rfl⟩
  · rw [hc, cond_true] at h
    have h : codeC f l g true = 0 := h
    rw [h] at hc
    exact absurd hc (by decide)
theorem paint_map (f : Int) (l : Lt) (g : List Mo) (c : List Int) : ((f, l, paintS l g c) : Pt) = mapP f l fun v => c.getD (ixS l g v).toNat 0 := by
  unfold paintS numsF
  rw [List.map_map]
  rfl
theorem paint_ok {f : Int} {l : Lt} {g : List Mo} {c : List Int} (h : (resPO f l g c).2 = 0) : resIK (f, l, paintS l g c) g = (true, 0) ∧ resOC (f, l, paintS l g c) g = (c, 0) := by
  obtain ⟨h0, hl, hc, _⟩ := po_inv h
  obtain ⟨p1, p2, p3, _⟩ := codeC_parts h0
  have hO := (codeC_0 h0).1
  have k1 : codeK (f, l, paintS l g c) g = 0 := by
    rw [paint_map]
    exact codeK_map p1 p2 p3 fun v _ => by
      rw [List.getD_eq_getElem?_getD]
      cases he : c[(ixS l g v).toNat]? with
      | none => rfl
      | some x => exact List.all_eq_true.1 hc x (List.mem_of_getElem? he)
  have k2 : keptS (f, l, paintS l g c) g = true := by
    rw [paint_map]
    refine kept_map hO fun m hm v hv => ?_
    have hm' : cellB l (mvS l m v) = true := redS_isCell hO.la _
    have := ix_same hO hm' hv
    rw [List.contains_iff_mem.2 (orbS_mem.2 ⟨m, hm, rfl⟩), beq_iff_eq] at this
    rw [this]
  have k3 : colS (f, l, paintS l g c) g = c := by
    refine List.ext_getElem? fun j => ?_
    unfold colS
    rw [List.getElem?_map]
    show ((orbsS l g)[j]?).map _ = _
    by_cases hj : j < (orbsS l g).length
    · obtain ⟨x, t, ex, hx⟩ := orbs_ne hO (List.getElem_mem hj)
      have hin : x ∈ (orbsS l g)[j] := by rw [ex]; simp
      rw [List.getElem?_eq_getElem hj, ex]
      show some (atS (f, l, paintS l g c) x) = _
      rw [paint_map, atS_map hO.la hx, ix_of hO hj hin]
      have e1 : ((j : Nat) : Int).toNat = j := by omega
      rw [e1, List.getD_eq_getElem?_getD, List.getElem?_eq_getElem (by omega)]
      rfl
    · rw [List.getElem?_eq_none (by omega), List.getElem?_eq_none (by omega)]
      rfl
  refine ⟨?_, ?_⟩
  · unfold resIK
    rw [k1, k2]
    rfl
  · unfold resOC
    rw [k1, k2, k3]
    rfl
/-! ### what the code draws -/
theorem dpo_loop {c : List Int} {t0 : Int × Int} {f : Int} {l : Lt} {g : List Mo} {y3 : Bool} : ∀ (n k : Nat) (t : Int × Int) (cs : List Int), Src c t → cs.length + k ≤ 1000 → k < n →
    ∃ r, f76_l7 KK c (t0, f, l, g) y3 n (k : Int) t.1 t.2 cs = some (f, l, g, r) ∧ r.length ≤ 2000
  | 0, k, _, _, _, _, h => by omega
  | n + 1, k, t, cs, h, hk, hn => by
    show ∃ r, f76_b7 KK c (t0, f, l, g) y3 (fun v0 v1 v2 v3 => f76_l7 KK c (t0, f, l, g) y3 n v0 v1 v2 v3) (k : Int) t.1 t.2 cs = some (f, l, g, r) ∧ r.length ≤ 2000
    unfold f76_b7
    have et : ((t.1, t.2) : Int × Int) = t := rfl
    rw [et]
    cases k with
    | zero =>
      rw [decide_eq_false (show ¬ ((0 : Nat) : Int) > 0 by omega), cond_false]
      obtain ⟨t1, r1, e1, h1, _⟩ := next_ok h 24
      rw [e1, Option.bind_some]
      simp only
      cases r1 == 0
      · rw [cond_false]
        cases r1 == 1
        · exact ⟨cs, rfl, by omega⟩
        · rw [cond_true]
          by_cases h0 : 0 < cs.length
          · obtain ⟨t2, r2, e2, h2, _⟩ := pick_ok h1 (l := [(-1 : Int), 9, 10]) (by simp)
            rw [decide_eq_true (show (cs.length : Int) > 0 by omega), cond_true, e2, Option.bind_some]
            exact ⟨_, rfl, by rw [List.length_set]; omega⟩
          · rw [decide_eq_false (show ¬ (cs.length : Int) > 0 by omega)]
            exact ⟨cs, rfl, by omega⟩
      · rw [cond_true, blim8 (by simp; omega)]
        exact ⟨_, rfl, by simp; omega⟩
    | succ k =>
      rw [decide_eq_true (show ((k + 1 : Nat) : Int) > 0 by omega), cond_true]
      obtain ⟨t1, r1, e1, h1, _⟩ := next_ok h 4
      rw [e1, Option.bind_some, blim8 (by simp; omega), cond_true, w_id (n := ((k + 1 : Nat) : Int) - 1) (by omega) (by omega)]
      have ek : ((k + 1 : Nat) : Int) - 1 = (k : Int) := by omega
      rw [ek]
      exact dpo_loop n k t1 (cs ++ [r1]) h1 (by simp; omega) (by omega)
theorem dpo_ok {c : List Int} (hb : ∀ i (h : i < c.length), 0 ≤ c[i] ∧ c[i] ≤ 255) (hl : c.length ≤ 4096) : ∃ f l g r, f76G KK c = some (f, l, g, r) ∧ g.length ≤ 2000 ∧ r.length ≤ 2000 := by
  obtain ⟨t0, s0, e0⟩ := from_ok hb hl
  obtain ⟨t1, f, l, g, e1, s1, hg⟩ := draw_ok s0
  unfold f76G f76_g
  rw [e0, Option.bind_some, e1, Option.bind_some]
  simp only
  rw [specIsGroup_eq f l (by omega), Option.bind_some]
  cases hG : okF f && okL l && grpB f l g
  · rw [cond_false]
    obtain ⟨t2, r2, e2, s2, _⟩ := next_ok s1 24
    rw [e2, Option.bind_some]
    simp only
    cases r2 == 0
    · cases r2 == 1
      · exact ⟨f, l, g, [], rfl, hg, by simp⟩
      · exact ⟨f, l, g, [], rfl, hg, by simp⟩
    · exact ⟨f, l, g, [0], rfl, hg, by simp⟩
  · simp only [Bool.and_eq_true] at hG
    have hc : codeC f l g true = 0 := by
      unfold codeC
      rw [hG.1.1, hG.1.2, hG.2]
      rfl
    have hO := (codeC_0 hc).1
    have hOl := orbs_len hO.la g
    rw [cond_true, l07Orbits_eq hO, Option.bind_some]
    obtain ⟨r, e, hr⟩ := dpo_loop (c := c) (t0 := t1) (f := f) (l := l) (g := g) (y3 := true) KK (orbsS l g).length t1 [] s1 (by simp; omega) (by simp only [KK]; omega)
    exact ⟨f, l, g, r, e, hg, hr⟩
theorem dgr_loop {c : List Int} {t0 : (Int × Int) × Int × Int} {f : Int} {l : Lt} {g : List Mo} (hO : OrbG f l g) {y2 : Bool} : ∀ (n k : Nat) (t : Int × Int) (cs : List Int), Src c t → cs.length + k = (orbsS l g).length → k < n →
    ∃ t' p, f202_l6 KK (c, t0.2) (t0.1, f, l, g) y2 n (k : Int) t.1 t.2 cs = some (t', p, g) ∧ Src c t' ∧ p.2.2.length ≤ 2000
  | 0, k, _, _, _, _, h => by omega
  | n + 1, k, t, cs, h, hk, hn => by
    have hOl := orbs_len hO.la g
    have hN := cellsS_le hO.la
    show ∃ t' p, f202_b6 KK (c, t0.2) (t0.1, f, l, g) y2 (fun v0 v1 v2 v3 => f202_l6 KK (c, t0.2) (t0.1, f, l, g) y2 n v0 v1 v2 v3) (k : Int) t.1 t.2 cs = some (t', p, g) ∧ Src c t' ∧ p.2.2.length ≤ 2000
    unfold f202_b6
    have et : ((t.1, t.2) : Int × Int) = t := rfl
    simp only
    cases k with
    | zero =>
      rw [decide_eq_false (show ¬ ((0 : Nat) : Int) > 0 by omega), cond_false, spaint_eq hO (by omega), Option.bind_some]
      have hpl : (paintS l g cs).length = (cellsS l).length := by unfold paintS; rw [List.length_map, numsF_len']
      have hpos : 0 < (cellsS l).length := List.length_pos_of_mem (cellB_mem hO.la (cellB_iff (l := l) (v := (0, 0)) |>.2 (by have := hO.la.a1; have := hO.la.c1; show (0 ≤ (0 : Int) ∧ (0 : Int) ≤ l.1 - 1) ∧ (0 ≤ (0 : Int) ∧ (0 : Int) ≤ l.2.2 - 1); omega)))
      obtain ⟨t1, r1, e1, h1, _⟩ := next_ok h 4
      rw [et, e1, Option.bind_some]
      simp only
      cases r1 == 0
      · exact ⟨t1, _, rfl, h1, by simp only; omega⟩
      · rw [cond_true]
        obtain ⟨t2, r2, e2, h2, a2, b2⟩ := next_pos h1 (n := ((paintS l g cs).length : Int)) (by omega)
        obtain ⟨j, rfl⟩ : ∃ j : Nat, r2 = (j : Int) := ⟨r2.toNat, by omega⟩
        have hj : j < (paintS l g cs).length := by omega
        rw [e2, Option.bind_some]
        simp only
        rw [in0, in1 hj]
        exact ⟨t2, _, rfl, h2, by simp only; rw [List.length_set]; omega⟩
    | succ k =>
      rw [decide_eq_true (show ((k + 1 : Nat) : Int) > 0 by omega), cond_true]
      obtain ⟨t1, r1, e1, h1, _⟩ := next_ok h 3
      rw [et, e1, Option.bind_some, blim8 (by simp; omega), cond_true, w_id (n := ((k + 1 : Nat) : Int) - 1) (by omega) (by omega)]
      have ek : ((k + 1 : Nat) : Int) - 1 = (k : Int) := by omega
      rw [ek]
      exact dgr_loop hO n k t1 (cs ++ [r1]) h1 (by simp; omega) (by omega)
theorem dgr_ok {c : List Int} {t : Int × Int} (h : Src c t) : ∃ t' p g, f202G KK (c, t) = some (t', p, g) ∧ Src c t' ∧ p.2.2.length ≤ 2000 ∧ g.length ≤ 2000 := by
  obtain ⟨t1, f, l, g, e1, s1, hg⟩ := draw_ok h
  unfold f202G f202_g
  rw [e1, Option.bind_some]
  simp only
  rw [specIsGroup_eq f l (by omega), Option.bind_some]
  cases hG : okF f && okL l && grpB f l g
  · exact ⟨t1, (f, l, []), g, rfl, s1, by simp, hg⟩
  · simp only [Bool.and_eq_true] at hG
    have hc : codeC f l g true = 0 := by
      unfold codeC
      rw [hG.1.1, hG.1.2, hG.2]
      rfl
    have hO := (codeC_0 hc).1
    rw [Bool.not_true, cond_false, l07Orbits_eq hO, Option.bind_some]
    obtain ⟨t2, p, e, h1, h2⟩ := dgr_loop (c := c) (t0 := (t1, t)) (f := f) (l := l) (g := g) hO (y2 := true) KK (orbsS l g).length t1 [] s1 (by simp) (by have := orbs_len hO.la g; simp only [KK]; omega)
    exact ⟨t2, p, g, e, h1, h2, hg⟩
theorem FnPainted_pure (a0 : List Int) (h : WfA [(.list 5 (.int .u8))] (a0, ())) : ∃ K, f9G K a0 = some true := by
  refine ⟨KK, ?_⟩
  have hw : Wf (.list 5 (.int .u8)) a0 := h.1
  unfold f9G
  rw [big_eq, Option.bind_some]
  by_cases hb : (a0.length : Int) > 4096
  · rw [decide_eq_true hb]; rfl
  · rw [decide_eq_false hb, cond_false]
    obtain ⟨f, l, g, cs, eP, hg, hcs⟩ := dpo_ok (code_ok hw) (by omega)
    obtain ⟨t0, s0, e0⟩ := from_ok (code_ok hw) (by omega)
    obtain ⟨t1, q, k, e1, s1, hq, hk⟩ := dgr_ok s0
    have eD : f79G KK a0 = some (q, k) := by
      unfold f79G
      rw [e0, Option.bind_some, e1]
      rfl
    have hn : g.length ≤ 1048576 := by omega
    have hn2 : k.length ≤ 1048576 := by omega
    rw [eP, Option.bind_some]
    simp only
    rw [implPO_eq f l hn (by omega), Option.bind_some, specPO_eq f l hn (by omega), Option.bind_some, eD, Option.bind_some]
    simp only
    rw [implOC_eq q hn2, Option.bind_some, specOC_eq q hn2, Option.bind_some, implIK_eq q hn2, Option.bind_some, specIK_eq q hn2, Option.bind_some]
    have r1 := resPO_len (f := f) (l := l) (g := g) (c := cs)
    have r2 := resOC_len (p := q) (g := k)
    simp only [bne_self_eq_false, Bool.not_false, Bool.not_true, Bool.or_true, cond_true, cond_false]
    rw [likePatterns_eq (by omega), Option.bind_some]
    simp only [bne_self_eq_false, Bool.not_false, Bool.not_true, Bool.or_true, cond_true, cond_false]
    rw [likeInts_eq (by omega), Option.bind_some]
    simp only [bne_self_eq_false, Bool.not_false, Bool.not_true, Bool.or_true, cond_true, cond_false, oc_kept]
    cases ho : (resOC q k).2 == 0
    · rw [cond_false]
      cases hs : (resPO f l g cs).2 != 0
      · have hs0 : (resPO f l g cs).2 = 0 := by simpa using hs
        obtain ⟨_, _, _, e⟩ := po_inv hs0
        obtain ⟨x1, x2⟩ := paint_ok hs0
        rw [e, cond_false]
        simp only
        rw [implIK_eq _ hn, x1, Option.bind_some, implOC_eq _ hn, x2, Option.bind_some]
        simp only [beq_self_eq_true, cond_true]
        rw [likeInts_eq (by omega), Option.bind_some]
      · rfl
    · have ho0 : (resOC q k).2 = 0 := by simpa using ho
      rw [cond_true, implPO_eq _ _ hn2 (by omega), Option.bind_some, again_eq ho0]
      simp only [bne_self_eq_false, Bool.not_false, Bool.not_true, Bool.or_true, cond_true, cond_false]
      rw [likePatterns_eq (by omega), Option.bind_some]
      simp only [bne_self_eq_false, Bool.not_false, Bool.not_true, Bool.or_true, cond_true, cond_false]
      cases hs : (resPO f l g cs).2 != 0
      · have hs0 : (resPO f l g cs).2 = 0 := by simpa using hs
        obtain ⟨_, _, _, e⟩ := po_inv hs0
        obtain ⟨x1, x2⟩ := paint_ok hs0
        rw [e, cond_false]
        simp only
        rw [implIK_eq _ hn, x1, Option.bind_some, implOC_eq _ hn, x2, Option.bind_some]
        simp only [beq_self_eq_true, cond_true]
        rw [likeInts_eq (by omega), Option.bind_some]
      · rfl
end Go.Proofs.YtniidcalfhhciaaGreat.X
