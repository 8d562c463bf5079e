/- The plain law of FnOrbits: orbits part the cells; fixed cells are counted as orbits. -/
import Derived.Test.YtniidcalfhhciaaGreatQaMW
import Derived.Test.YtniidcalfhhciaaGreatQaMU
import Derived.Test.YtniidcalfhhciaaGreatQaPOrbitsOf
import Derived.Test.YtniidcalfhhciaaGreatQaPCountOrbits
namespace Go.Proofs.YtniidcalfhhciaaGreat.X
open Go
set_option linter.unusedSimpArgs false
set_option linter.unusedVariables false
theorem fold_sumN {α : Type} (f : α → Nat) : ∀ (l : List α) (s : Nat), l.foldl (fun s a => s + f a) s = s + (l.map f).sum
  | [], s => rfl
  | a :: l, s => by rw [List.foldl_cons, fold_sumN f l, List.map_cons, List.sum_cons]; omega
theorem grp_suit {f : Int} {l : Lt} {g : List Mo} (h : OrbG f l g) {m : Mo} (hm : m ∈ g) : suitB f l m = true := by
  obtain ⟨a, b⟩ := h.pr.mem m hm
  unfold suitB
  rw [Bool.and_eq_true, List.contains_iff_mem]
  exact ⟨a, cellB_vec h.la b⟩
theorem fix_grp {f : Int} {l : Lt} {g : List Mo} (h : OrbG f l g) (hc : okF f = true ∧ okL l = true) {m : Mo} (hm : m ∈ g) : fixS f l m = (((((cellsS l).filter fun v => mvS l m v == v).length : Nat) : Int), (0 : Int)) := by
  unfold fixS
  rw [hc.1, hc.2, grp_suit h hm]
  rfl
theorem codeC_fl {f : Int} {l : Lt} {g : List Mo} {b : Bool} (h : codeC f l g b = 0) : okF f = true ∧ okL l = true := by
  unfold codeC at h
  by_cases h1 : (okF f && okL l) = true
  · rw [Bool.and_eq_true] at h1; exact h1
  · rw [if_neg h1] at h; cases h
section
variable {c : List Int} {f : Int} {l : Lt} {g : List Mo} {q15 q19 : Int}
theorem ob_fix (h : OrbG f l g) (hc : okF f = true ∧ okL l = true) {k : Nat} (hk : k = (cellsS l).length) :
    f6_l23 KK c (k : Int) q15 q19 false (f, l, g) (orbsS l g, 0) (orbsS l g, 0) (numsF l g, 0) (numsF l g, 0) (((orbsS l g).length : Nat), 0) (((orbsS l g).length : Nat), 0) true true (cellsS l, 0) KK 0 0 = some true := by
  have hN := cellsS_le h.la
  have hG := h.pr.len h.la
  have hO := orbs_len h.la g
  have hb := burnside h
  have hh := iter_fold (R := Bool) (body := fun L x => f6_b23 KK c (k : Int) q15 q19 false (f, l, g) (orbsS l g, 0) (orbsS l g, 0) (numsF l g, 0) (numsF l g, 0) (((orbsS l g).length : Nat), 0) (((orbsS l g).length : Nat), 0) true true (cellsS l, 0) (fun v0 v1 => L (v0, v1)) x.1 x.2) g (fun q s => ((s : Nat), (q : Int))) (fun s m => s + ((cellsS l).filter fun v => mvS l m v == v).length) (fun s => some ((s : Int) == (((orbsS l g).length * g.length : Nat) : Int))) (fun q s => s ≤ 64 * q)
    (fun L q s hq hi => by
      have hf : ((cellsS l).filter fun v => mvS l g[q] v == v).length ≤ 64 := Nat.le_trans (List.length_filter_le _ _) hN
      refine ⟨by omega, ?_⟩
      show f6_b23 KK c (k : Int) q15 q19 false (f, l, g) (orbsS l g, 0) (orbsS l g, 0) (numsF l g, 0) (numsF l g, 0) (((orbsS l g).length : Nat), 0) (((orbsS l g).length : Nat), 0) true true (cellsS l, 0) (fun v0 v1 => L (v0, v1)) (s : Int) (q : Int) = _
      unfold f6_b23
      simp only
      rw [in1 hq, in0, gd hq]
      simp only [Bool.and_self, cond_true]
      rw [show f58G KK f l ((g[q].1.1, g[q].1.2.1, g[q].1.2.2), g[q].2) = some (fixS f l g[q]) from implCF_eq f l g[q], Option.bind_some, fix_grp h hc (List.getElem_mem hq), w_succ (by omega)]
      rw [show ((0 : Int) != 0) = false by decide, cond_false, w_id (by omega) (by omega)]
      rw [Int.natCast_add s])
    (fun L s hi => by
      have hi : s ≤ 64 * g.length := hi
      show f6_b23 KK c (k : Int) q15 q19 false (f, l, g) (orbsS l g, 0) (orbsS l g, 0) (numsF l g, 0) (numsF l g, 0) (((orbsS l g).length : Nat), 0) (((orbsS l g).length : Nat), 0) true true (cellsS l, 0) (fun v0 v1 => L (v0, v1)) (s : Int) (g.length : Int) = _
      unfold f6_b23
      simp only
      have hm : (orbsS l g).length * g.length ≤ 64 * 768 := Nat.mul_le_mul hO hG
      rw [out1, cond_false, hk, ← Int.natCast_mul, w_id (by omega) (by omega)]
      simp only [beq_self_eq_true, Bool.or_true, cond_true]) KK 0 0 (by omega) (by simp only [KK]; omega) (by omega)
  rw [List.drop_zero, fold_sumN, Nat.zero_add, hb, beq_self_eq_true] at hh
  unfold f6_l23
  exact hh
theorem ob_has (h : OrbG f l g) (hc : okF f = true ∧ okL l = true) {k : Nat} (hk : k = (cellsS l).length) :
    f6_l18 KK c (k : Int) q15 false (f, l, g) (orbsS l g, 0) (orbsS l g, 0) (numsF l g, 0) (numsF l g, 0) (((orbsS l g).length : Nat), 0) (((orbsS l g).length : Nat), 0) true true (cellsS l, 0) KK 0 = some true := by
  have hN := cellsS_le h.la
  have hL := numsF_len' l g
  have hh := iter_all (X := Int) (body := fun L x => f6_b18 KK c (k : Int) q15 false (f, l, g) (orbsS l g, 0) (orbsS l g, 0) (numsF l g, 0) (numsF l g, 0) (((orbsS l g).length : Nat), 0) (((orbsS l g).length : Nat), 0) true true (cellsS l, 0) (fun c0 c1 c2 c3 c4 c5 c6 c7 c8 c9 c10 c11 c12 c13 d0 d1 => f6_l23 KK c c0 c1 c2 c3 c4 c5 c6 c7 c8 c9 c10 c11 c12 c13 KK d0 d1) (fun v0 => L v0) x) (cellsS l) (fun q => (q : Int)) (fun _ => true) (some false) (some true)
    (fun L q hq => by
      have hcell := cellsS_cell (List.getElem_mem hq)
      have hqn : q < (numsF l g).length := by omega
      have gi : (numsF l g).getD ((0 : Int) + (q : Int)).toNat 0 = ixS l g (cellsS l)[q] := by
        have := numsF_get h.la g hcell
        rw [cellsS_num h.la hq] at this
        rw [getZ, List.getD_eq_getElem?_getD, this]
        rfl
      obtain ⟨j, hj, ej, hin⟩ : ∃ j, ∃ hj : j < (orbsS l g).length, ixS l g (cellsS l)[q] = (j : Int) ∧ ((orbsS l g)[j]).contains (cellsS l)[q] = true := by
        rcases idxS_spec (fun o => o.contains (cellsS l)[q]) (orbsS l g) 0 with ⟨e, ha⟩ | ⟨j, hj, e, _, o, ho1, ho2⟩
        · obtain ⟨o, ho, hx⟩ := List.any_eq_true.1 (orbs_all h hcell)
          rw [ha o ho] at hx
          cases hx
        · refine ⟨j, hj, by unfold ixS; rw [e, Nat.zero_add], ?_⟩
          rw [List.getElem?_eq_getElem hj, Option.some.injEq] at ho1
          rw [ho1]
          exact ho2
      have hol := (orbs_cell h (List.getElem_mem hj)).2
      unfold f6_b18
      simp only
      rw [in1 hq, in0, gi, in1 hqn, ej, in0, in1 hj, gd hj, gd hq, hL, w_succ (by omega)]
      simp only [bne_self_eq_false, Bool.not_false, Bool.not_true, Bool.or_true, cond_true, Bool.and_self, Bool.false_or]
      rw [hasVec_eq (by omega), hin, Option.bind_some]
      rfl)
    (fun L => by
      unfold f6_b18
      simp only
      rw [out1, cond_false]
      exact ob_fix h hc hk) KK 0 (by omega) (by simp only [KK]; omega)
  rw [List.drop_zero, show ((cellsS l).all fun _ => true) = true from List.all_eq_true.mpr (by simp), cond_true] at hh
  unfold f6_l18
  exact hh
theorem ob_total (h : OrbG f l g) (hc : okF f = true ∧ okL l = true) :
    f6_l13 KK c false (f, l, g) (orbsS l g, 0) (orbsS l g, 0) (numsF l g, 0) (numsF l g, 0) (((orbsS l g).length : Nat), 0) (((orbsS l g).length : Nat), 0) true true (cellsS l, 0) KK 0 0 = some true := by
  have hO := orbs_len h.la g
  have hh := iter_fold (R := Bool) (body := fun L x => f6_b13 KK c false (f, l, g) (orbsS l g, 0) (orbsS l g, 0) (numsF l g, 0) (numsF l g, 0) (((orbsS l g).length : Nat), 0) (((orbsS l g).length : Nat), 0) true true (cellsS l, 0) (fun c0 c1 c2 c3 c4 c5 c6 c7 c8 c9 c10 c11 c12 d0 => f6_l18 KK c c0 c1 c2 c3 c4 c5 c6 c7 c8 c9 c10 c11 c12 KK d0) (fun v0 v1 => L (v0, v1)) x.1 x.2) (orbsS l g) (fun q s => ((s : Nat), (q : Int))) (fun s o => s + o.length) (fun s => f6_l18 KK c (s : Int) ((orbsS l g).length : Int) false (f, l, g) (orbsS l g, 0) (orbsS l g, 0) (numsF l g, 0) (numsF l g, 0) (((orbsS l g).length : Nat), 0) (((orbsS l g).length : Nat), 0) true true (cellsS l, 0) KK 0) (fun q s => s ≤ 768 * q)
    (fun L q s hq hi => by
      have hol := (orbs_cell h (List.getElem_mem hq)).2
      refine ⟨by omega, ?_⟩
      show f6_b13 KK c false (f, l, g) (orbsS l g, 0) (orbsS l g, 0) (numsF l g, 0) (numsF l g, 0) (((orbsS l g).length : Nat), 0) (((orbsS l g).length : Nat), 0) true true (cellsS l, 0) _ (fun v0 v1 => L (v0, v1)) (s : Int) (q : Int) = _
      unfold f6_b13
      simp only
      rw [in1 hq, in0, gd hq, w_succ (by omega), w_id (by omega) (by omega)]
      simp only [Bool.and_self, cond_true]
      rw [Int.natCast_add s])
    (fun L s hi => by
      show f6_b13 KK c false (f, l, g) (orbsS l g, 0) (orbsS l g, 0) (numsF l g, 0) (numsF l g, 0) (((orbsS l g).length : Nat), 0) (((orbsS l g).length : Nat), 0) true true (cellsS l, 0) _ (fun v0 v1 => L (v0, v1)) (s : Int) ((orbsS l g).length : Int) = _
      unfold f6_b13
      simp only
      rw [out1, cond_false]) KK 0 0 (by omega) (by simp only [KK]; omega) (by omega)
  rw [List.drop_zero, fold_sumN, Nat.zero_add, orbs_total h] at hh
  unfold f6_l13
  exact hh.trans (ob_has h hc rfl)
end
theorem FnOrbits_pure (a0 : List Int) (h : WfA [(.list 5 (.int .u8))] (a0, ())) : ∃ K, f6G K a0 = some true := by
  refine ⟨KK, ?_⟩
  have hw : Wf (.list 5 (.int .u8)) a0 := h.1
  unfold f6G f6_g
  rw [big_eq, Option.bind_some]
  by_cases hb : (a0.length : Int) > 4096
  · rw [decide_eq_true hb]; rfl
  · rw [decide_eq_false hb, cond_false]
    obtain ⟨t0, s0, e0⟩ := from_ok (code_ok hw) (by omega)
    obtain ⟨t1, f, l, g, e1, s1, hg⟩ := draw_ok s0
    have eD : f49G KK a0 = some (f, l, g) := by
      unfold f49G
      rw [e0, Option.bind_some, e1]
      rfl
    rw [eD, Option.bind_some]
    simp only
    have hn : g.length ≤ 1048576 := by omega
    rw [implOO_eq f l hn, Option.bind_some, specOO_eq f l hn, Option.bind_some, implON_eq f l hn, Option.bind_some, specON_eq f l hn, Option.bind_some, implCO_eq f l hn, Option.bind_some, specCO_eq f l hn, Option.bind_some]
    obtain ⟨r1, r2⟩ := resOO_len (f := f) (l := l) (g := g)
    have r3 := resON_len (f := f) (l := l) (g := g)
    simp only [bne_self_eq_false, Bool.not_false, Bool.not_true, Bool.or_true, cond_true, cond_false]
    rw [likeOrbits_eq (by omega) (fun o ho => by have := r2 o ho; omega), Option.bind_some]
    simp only [bne_self_eq_false, Bool.not_false, Bool.not_true, Bool.or_true, cond_true, cond_false]
    rw [likeInts_eq (by omega), Option.bind_some]
    simp only [bne_self_eq_false, Bool.not_false, Bool.not_true, Bool.or_true, cond_true, cond_false]
    unfold resOO resON resCO
    cases hc : codeC f l g true != 0
    · have h0 : codeC f l g true = 0 := by simpa using hc
      have hO := (codeC_0 h0).1
      simp only [cond_false]
      rw [show ((0 : Int) != 0) = false by decide, cond_false]
      have hcell : f57G KK l = some (cellsS l, 0) := by
        unfold f57G
        rw [isLattice_eq, (codeC_fl h0).2, Option.bind_some, Bool.not_true, cond_false, cells_eq hO.la]
        rfl
      rw [hcell, Option.bind_some]
      exact ob_total hO (codeC_fl h0)
    · simp only [cond_true, hc]
end Go.Proofs.YtniidcalfhhciaaGreat.X
