/- The plain law of OrbitColours: both sides give the colour of the first cell of each orbit. -/
import Derived.Test.YtmnciknpeefkfaaGreatQcPOrbitNumbers
import Derived.Test.YtmnciknpeefkfaaGreatQcMR
namespace Go.Proofs.YtmnciknpeefkfaaGreat.X
open Go
set_option linter.unusedVariables false
def colS (p : Pt) (g : List Mo) : List Int := (orbsS p.2.1 g).map fun o => atS p (o.headD (0, 0))
theorem col_fold {p : Pt} (l : List (List Vc)) (s : List Int) : l.foldl (fun s o => s ++ [atS p (o.headD (0, 0))]) s = s ++ l.map fun o => atS p (o.headD (0, 0)) := foldl_push (fun o : List Vc => atS p (o.headD (0, 0))) l s
theorem scol_loop {p : Pt} (hp : IsP p) {g : List Mo} (h : OrbG p.1 p.2.1 g) {y1 : Int} {y2 : Bool} : f53_l11 KK p g y1 y2 (orbsS p.2.1 g) KK 0 [] = some (colS p g, 0) := by
  have hO := orbs_len h.la g
  have hh := iter_fold (R := List Int × Int) (body := fun L x => f53_b11 KK p g y1 y2 (orbsS p.2.1 g) (fun v0 v1 => L (v0, v1)) x.1 x.2) (orbsS p.2.1 g) (fun q s => ((q : Int), s)) (fun s o => s ++ [atS p (o.headD (0, 0))]) (fun s => some (s, 0)) (fun q s => s.length = q)
    (fun L q s hq hi => by
      refine ⟨by simp [hi], ?_⟩
      obtain ⟨x, t, e, hx⟩ := orbs_ne h (List.getElem_mem hq)
      show f53_b11 KK p g y1 y2 (orbsS p.2.1 g) (fun v0 v1 => L (v0, v1)) (q : Int) s = _
      unfold f53_b11
      have hg : (orbsS p.2.1 g).getD ((0 : Int) + (q : Int)).toNat [] = x :: t := (gd hq).trans e
      have e1 : (decide (0 ≤ (0 : Int)) && decide ((0 : Int) < (((x :: t : List Vc).length : Nat) : Int))) = true := by simp
      have e2 : ((x :: t : List Vc).getD ((0 : Int) + (0 : Int)).toNat (0, 0)) = x := rfl
      rw [in1 hq, in0, hg, e1, e2]
      simp only [Bool.and_self, cond_true]
      rw [l09At_eq hp (Sv_Sm (cellB_Sv h.la hx)), Option.bind_some, blim8 (by simp; omega), cond_true, w_succ (by omega), e]
      rfl)
    (fun L s hi => by
      show f53_b11 KK p g y1 y2 (orbsS p.2.1 g) (fun v0 v1 => L (v0, v1)) ((orbsS p.2.1 g).length : Int) s = _
      unfold f53_b11
      rw [out1, cond_false]) KK 0 [] (by omega) (by simp only [KK]; omega) rfl
  rw [List.drop_zero, col_fold, List.nil_append] at hh
  exact hh
theorem icol_loop {p : Pt} (hp : IsP p) {g : List Mo} (h : OrbG p.1 p.2.1 g) {y1 : Int} {y2 : Bool} {n : List Int} : f54_l6 KK p g y1 y2 (orbsS p.2.1 g, n) KK 0 [] = some (colS p g, 0) := by
  have hO := orbs_len h.la g
  have hh := iter_fold (R := List Int × Int) (body := fun L x => f54_b6 KK p g y1 y2 (orbsS p.2.1 g, n) (fun v0 v1 => L (v0, v1)) x.1 x.2) (orbsS p.2.1 g) (fun q s => ((q : Int), s)) (fun s o => s ++ [atS p (o.headD (0, 0))]) (fun s => some (s, 0)) (fun q s => s.length = q)
    (fun L q s hq hi => by
      refine ⟨by simp [hi], ?_⟩
      obtain ⟨x, t, e, hx⟩ := orbs_ne h (List.getElem_mem hq)
      show f54_b6 KK p g y1 y2 (orbsS p.2.1 g, n) (fun v0 v1 => L (v0, v1)) (q : Int) s = _
      unfold f54_b6
      have hg : (orbsS p.2.1 g).getD ((0 : Int) + (q : Int)).toNat [] = x :: t := (gd hq).trans e
      have e1 : (decide (0 ≤ (0 : Int)) && decide ((0 : Int) < (((x :: t : List Vc).length : Nat) : Int))) = true := by simp
      have e2 : ((x :: t : List Vc).getD ((0 : Int) + (0 : Int)).toNat (0, 0)) = x := rfl
      simp only
      rw [in1 hq, in0, hg, e1, e2]
      simp only [Bool.and_self, cond_true]
      rw [at_eq hp (Sv_Sm (cellB_Sv h.la hx)), Option.bind_some, blim8 (by simp; omega), cond_true, w_succ (by omega), e]
      rfl)
    (fun L s hi => by
      show f54_b6 KK p g y1 y2 (orbsS p.2.1 g, n) (fun v0 v1 => L (v0, v1)) ((orbsS p.2.1 g).length : Int) s = _
      unfold f54_b6
      rw [out1, cond_false]) KK 0 [] (by omega) (by simp only [KK]; omega) rfl
  rw [List.drop_zero, col_fold, List.nil_append] at hh
  exact hh
def resOC (p : Pt) (g : List Mo) : List Int × Int := bif codeK p g != 0 then ([], codeK p g) else bif keptS p g then (colS p g, 0) else ([], 5)
theorem specOC_eq (p : Pt) {g : List Mo} (hn : g.length ≤ 1048576) : f53G KK p g = some (resOC p g) := by
  unfold f53G f53_g resOC
  rw [l13Code_eq p hn, Option.bind_some]
  cases h : codeK p g != 0
  · have h0 : codeK p g = 0 := by simpa using h
    obtain ⟨hp, hG⟩ := codeK_0 h0
    have e : (codeK p g == 0) = true := by simpa using h0
    simp only [e, Bool.or_true, cond_true, cond_false]
    rw [l13Kept_eq hp hG, Option.bind_some]
    cases hk : keptS p g
    · rfl
    · simp only [Bool.not_true, cond_false, cond_true]
      rw [l07Orbits_eq hG, Option.bind_some]
      exact scol_loop hp hG
  · have e : (codeK p g == 0) = false := by simpa using h
    simp only [e, Bool.or_true, cond_true, cond_false, Option.bind_some]
theorem implOC_eq (p : Pt) {g : List Mo} (hn : g.length ≤ 1048576) : f54G KK p g = some (resOC p g) := by
  unfold f54G f54_g resOC
  rw [keptCode_eq p hn, Option.bind_some]
  cases h : codeK p g != 0
  · have h0 : codeK p g = 0 := by simpa using h
    obtain ⟨hp, hG⟩ := codeK_0 h0
    simp only [cond_false]
    rw [isKept_eq hp hG, Option.bind_some]
    cases hk : keptS p g
    · rfl
    · simp only [Bool.not_true, cond_false, cond_true]
      rw [orbitsOf_eq hG, Option.bind_some]
      exact icol_loop hp hG
  · simp only [cond_true]
theorem resOC_len {p : Pt} {g : List Mo} : (resOC p g).1.length ≤ 1000 := by
  unfold resOC
  cases h : codeK p g != 0
  · have h0 : codeK p g = 0 := by simpa using h
    obtain ⟨hp, hG⟩ := codeK_0 h0
    have hO := orbs_len hG.la g
    rw [cond_false]
    cases keptS p g
    · simp
    · simp only [cond_true, colS, List.length_map]; omega
  · simp
theorem szPat_eq {p : Pt} (h : (p.2.2.length : Int) ≤ 1048576) : f19G KK p 1048576 = some (1048576 - (p.2.2.length : Int)) := by
  obtain ⟨e1, e2⟩ := sz_small (left := 1048576) (by omega) (by omega) h
  unfold f19G f66G
  rw [e1, cond_false, e2, Option.bind_some, decide_eq_false (by omega), cond_false]
theorem szPat_big {p : Pt} (hm : p.2.2.length ≤ maxLen) (h : ¬ (p.2.2.length : Int) ≤ 1048576) : f19G KK p 1048576 = some (-1) := by
  unfold f19G f66G
  rw [sz_large (left := 1048576) (by omega) (by omega) hm h]
  rfl
theorem markPat_gen (p : Pt) {k : Int} (hk : 0 ≤ k) (hk2 : k ≤ 1000000000) (h : p.2.2.length ≤ 1048576) : ∃ r : Pt × Int, (r.2 = k + (p.2.2.length : Int)) ∧ f25G KK p k = some r := by
  obtain ⟨r, ⟨m1, _⟩, hm⟩ := markInt64S_gen p.2.2 hk hk2 h
  unfold f25G
  rw [hm]
  exact ⟨((p.1, p.2.1, r.1), r.2), m1, rfl⟩
theorem FnExactOrbitColours_pure (a0 : Int × (Int × Int × Int) × List Int) (a1 : List ((Int × Int × Int × Int) × Int × Int)) (h : WfA [(.cons (.int .i64) (.cons (.cons (.int .i64) (.cons (.int .i64) (.int .i64))) (.list 2 (.int .i64)))), (.list 95 (.cons (.cons (.int .i64) (.cons (.int .i64) (.cons (.int .i64) (.int .i64)))) (.cons (.int .i64) (.int .i64))))] (a0, a1, ())) : ∃ K, f11G K a0 a1 = some true := by
  refine ⟨KK, ?_⟩
  have hlen1 : a0.2.2.length ≤ maxLen ∧ a1.length ≤ maxLen := by
    simp only [WfA, Wf] at h
    exact ⟨h.1.2.2.1, h.2.1.1⟩
  unfold f11G f13G
  by_cases h0 : (a0.2.2.length : Int) ≤ 1048576
  · rw [szPat_eq h0, Option.bind_some, decide_eq_false (by omega), cond_false]
    by_cases hb : (a1.length : Int) ≤ 1048576 - (a0.2.2.length : Int)
    · obtain ⟨e1, e2⟩ := sz_small (left := 1048576 - (a0.2.2.length : Int)) (by omega) (by omega) hb
      rw [e1, cond_false, e2, Option.bind_some, decide_eq_false (by omega), cond_false]
      have h1 : a1.length ≤ 1048576 := by omega
      have h0' : a0.2.2.length ≤ 1048576 := by omega
      rw [toMotionS_eq h1, toPattern_eq h0']
      simp only [Option.bind_some]
      rw [specOC_eq a0 h1, implOC_eq a0 h1]
      have hr := resOC_len (p := a0) (g := a1)
      obtain ⟨r1, m1, hm1⟩ := markPat_gen a0 (k := 1) (by omega) (by omega) h0'
      obtain ⟨r2, ⟨m2, _⟩, hm2⟩ := markMotionS_gen a1 (k := r1.2) (by omega) (by omega) h1
      obtain ⟨r3, ⟨m3, m4, m5⟩, hm3⟩ := markInt64S_gen (resOC a0 a1).1 (k := 1) (by omega) (by omega) (by omega)
      have hh := heldInt64S_gen r3.1 (k := 1) (by omega) (by omega) (by omega) (by rw [m4]; exact m5)
      rw [m4, ← m3] at hh
      simp only [Option.bind_some]
      rw [eqInt64S_eq (by omega)]
      simp only [Option.bind_some, Bool.or_true, cond_true, Bool.not_true, bne_self_eq_false, cond_false]
      rw [eqPattern_eq h0', eqMotionS_eq h1]
      simp only [Option.bind_some, Bool.or_true, cond_true, Bool.not_true, bne_self_eq_false, cond_false]
      rw [hm1, Option.bind_some, hm2, Option.bind_some, decide_eq_false (show ¬ r2.2 < 0 by omega), hm3]
      simp only [Option.bind_some, Bool.or_true, cond_true, Bool.not_true, Bool.not_false, bne_self_eq_false, cond_false]
      rw [hh, Option.bind_some, decide_eq_false (show ¬ r3.2 < 0 by omega)]
      simp only [bne_self_eq_false, cond_false]
      rw [Option.bind_some, decide_eq_false (show ¬ r3.2 < 0 by omega)]
      simp only [bne_self_eq_false, cond_false]
    · rw [sz_large (left := 1048576 - (a0.2.2.length : Int)) (by omega) (by omega) hlen1.2 hb]
      rfl
  · rw [szPat_big hlen1.1 h0]
    rfl
end Go.Proofs.YtmnciknpeefkfaaGreat.X
