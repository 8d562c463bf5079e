/- The plain law of CopiesOf: both sides give the images of the tile. -/
import Derived.Test.YthlldmfkdcmcfaaGreatMO
import Derived.Test.YthlldmfkdcmcfaaGreatXRow
namespace Go.Proofs.YthlldmfkdcmcfaaGreat.X
open Go
set_option linter.unusedVariables false
def resCp (f : Int) (l : Lt) (g : List Mo) (t : List Vc) : List (List Vc) × Int := bif codeT f l g t != 0 then ([], codeT f l g t) else (cpsS l g t, 0)
theorem specCp_eq (f : Int) (l : Lt) {g : List Mo} (hn : g.length ≤ 1048576) {t : List Vc} (ht : t.length ≤ 1048576) : f25G KK f l g t = some (resCp f l g t) := by
  unfold f25G resCp
  rw [l23Code_eq f l hn ht, Option.bind_some]
  cases hc : codeT f l g t != 0
  · have h0 : codeT f l g t = 0 := by simpa using hc
    rw [cond_false, cond_false, l23Copies_eq (codeT_0 h0), Option.bind_some]
  · rfl
theorem implCp_eq (f : Int) (l : Lt) {g : List Mo} (hn : g.length ≤ 1048576) {t : List Vc} (ht : t.length ≤ 1048576) : f26G KK f l g t = some (resCp f l g t) := by
  unfold f26G resCp
  rw [tileCode_eq f l hn ht, Option.bind_some]
  cases hc : codeT f l g t != 0
  · have h0 : codeT f l g t = 0 := by simpa using hc
    rw [cond_false, cond_false, copiesOf_eq (codeT_0 h0), Option.bind_some]
  · rfl
theorem resCp_len {f : Int} {l : Lt} {g : List Mo} {t : List Vc} : (resCp f l g t).1.length ≤ 1000 ∧ ∀ o ∈ (resCp f l g t).1, o.length ≤ 1000 := by
  unfold resCp
  cases hc : codeT f l g t != 0
  · have h0 : codeT f l g t = 0 := by simpa using hc
    have hT := codeT_0 h0
    have h1 := hT.pr.len hT.la
    have h2 := hT.t2
    rw [cond_false]
    refine ⟨by simp only [cpsS_length]; omega, fun o ho => ?_⟩
    obtain ⟨m, _, rfl⟩ := List.mem_map.1 ho
    simp only [List.length_map]
    omega
  · simp
theorem FnExactCopiesOf_pure (a0 : Int) (a1 : Int × Int × Int) (a2 : List ((Int × Int × Int × Int) × Int × Int)) (a3 : List (Int × Int)) (h : WfA [(.int .i64), (.cons (.int .i64) (.cons (.int .i64) (.int .i64))), (.list 96 (.cons (.cons (.int .i64) (.cons (.int .i64) (.cons (.int .i64) (.int .i64)))) (.cons (.int .i64) (.int .i64)))), (.list 27 (.cons (.int .i64) (.int .i64)))] (a0, a1, a2, a3, ())) : ∃ K, f4G K a0 a1 a2 a3 = some true := by
  refine ⟨KK, ?_⟩
  have hlen2 : a2.length ≤ maxLen := by
    simp only [WfA, Wf] at h
    exact h.2.2.1.1
  have hlen3 : a3.length ≤ maxLen := by
    simp only [WfA, Wf] at h
    exact h.2.2.2.1.1
  unfold f4G f13G f14G f16G
  by_cases hb : (a2.length : Int) ≤ 1048576
  · obtain ⟨e1, e2⟩ := sz_small (left := 1048576) (by omega) (by omega) hb
    rw [e1, cond_false, e2, Option.bind_some, decide_eq_false (by omega), cond_false]
    by_cases hb3 : (a3.length : Int) ≤ 1048576 - (a2.length : Int)
    · obtain ⟨e3, e4⟩ := sz_small (left := 1048576 - (a2.length : Int)) (by omega) (by omega) hb3
      rw [e3, cond_false, e4, Option.bind_some, decide_eq_false (by omega), cond_false]
      simp only [Option.bind_some]
      have h2 : a2.length ≤ 1048576 := by omega
      have h3 : a3.length ≤ 1048576 := by omega
      rw [toMotionS_eq h2, toVecS_eq h3]
      simp only [Option.bind_some]
      rw [specCp_eq a0 a1 h2 h3, implCp_eq a0 a1 h2 h3]
      obtain ⟨hr1, hr2⟩ := resCp_len (f := a0) (l := a1) (g := a2) (t := a3)
      obtain ⟨r1, ⟨m1, _⟩, hm1⟩ := markMotionS_gen a2 (k := 1) (by omega) (by omega) h2
      obtain ⟨r2, ⟨m2, _, _⟩, hm2⟩ := markVecS_gen a3 (k := r1.2) (by omega) (by omega) h3
      obtain ⟨r3, ⟨m3, hh⟩, hm3⟩ := markVecSS_gen (resCp a0 a1 a2 a3).1 hr1 hr2
      simp only [Option.bind_some]
      rw [eqVecSS_eq hr1 hr2]
      simp only [Option.bind_some, Bool.or_true, cond_true, Bool.not_true, bne_self_eq_false, cond_false]
      rw [eqMotionS_eq h2, eqVecS_eq2 h3]
      simp only [Option.bind_some, Bool.or_true, cond_true, Bool.not_true, bne_self_eq_false, cond_false]
      rw [hm1, Option.bind_some, hm2, Option.bind_some, decide_eq_false (show ¬ r2.2 < 0 by omega), hm3]
      simp only [Option.bind_some, Bool.or_true, cond_true, Bool.not_true, Bool.not_false, bne_self_eq_false, cond_false]
      rw [hh, Option.bind_some, decide_eq_false (show ¬ r3.2 < 0 by omega)]
      simp only [bne_self_eq_false, cond_false]
      rw [Option.bind_some, decide_eq_false (show ¬ r3.2 < 0 by omega)]
      simp only [bne_self_eq_false, cond_false]
    · rw [sz_large (left := 1048576 - (a2.length : Int)) (by omega) (by omega) hlen3 hb3]
      rfl
  · rw [sz_large (left := 1048576) (by omega) (by omega) hlen2 hb]
    rfl
end Go.Proofs.YthlldmfkdcmcfaaGreat.X
