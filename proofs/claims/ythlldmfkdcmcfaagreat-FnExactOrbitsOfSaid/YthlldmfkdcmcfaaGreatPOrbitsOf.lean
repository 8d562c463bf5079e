/- The plain law of OrbitsOf: both sides give the orbits in the order of their first cells. -/
import Derived.Test.YthlldmfkdcmcfaaGreatPOrbitNumbers
import Derived.Test.YthlldmfkdcmcfaaGreatMO
namespace Go.Proofs.YthlldmfkdcmcfaaGreat.X
open Go
set_option linter.unusedVariables false
def resOO (f : Int) (l : Lt) (g : List Mo) : List (List Vc) × Int := bif codeC f l g true != 0 then ([], codeC f l g true) else (orbsS l g, 0)
theorem specOO_eq (f : Int) (l : Lt) {g : List Mo} (hn : g.length ≤ 1048576) : f47G KK f l g = some (resOO f l g) := by
  unfold f47G resOO
  rw [specCode_eq f l hn, Option.bind_some]
  cases h : codeC f l g true != 0
  · have h0 : codeC f l g true = 0 := by simpa using h
    rw [cond_false, cond_false, l07Orbits_eq (codeC_0 h0).1, Option.bind_some]
  · rfl
theorem implOO_eq (f : Int) (l : Lt) {g : List Mo} (hn : g.length ≤ 1048576) : f48G KK f l g = some (resOO f l g) := by
  unfold f48G resOO
  rw [cellCode_eq f l hn (by simp), Option.bind_some, show ([] : List Vc).all (cellB l) = true from rfl]
  cases h : codeC f l g true != 0
  · have h0 : codeC f l g true = 0 := by simpa using h
    rw [cond_false, cond_false, orbitsOf_eq (codeC_0 h0).1, Option.bind_some]
  · rfl
theorem resOO_len {f : Int} {l : Lt} {g : List Mo} : (resOO f l g).1.length ≤ 1000 ∧ ∀ o ∈ (resOO f l g).1, o.length ≤ 1000 := by
  unfold resOO
  cases h : codeC f l g true != 0
  · have h0 : codeC f l g true = 0 := by simpa using h
    have hG := (codeC_0 h0).1
    have := orbs_len hG.la g
    rw [cond_false]
    refine ⟨by simp only; omega, fun o ho => ?_⟩
    have := (orbs_cell hG ho).2
    omega
  · simp
theorem FnExactOrbitsOf_pure (a0 : Int) (a1 : Int × Int × Int) (a2 : List ((Int × Int × Int × Int) × Int × Int)) (h : WfA [(.int .i64), (.cons (.int .i64) (.cons (.int .i64) (.int .i64))), (.list 96 (.cons (.cons (.int .i64) (.cons (.int .i64) (.cons (.int .i64) (.int .i64)))) (.cons (.int .i64) (.int .i64))))] (a0, a1, a2, ())) : ∃ K, f9G K a0 a1 a2 = some true := by
  refine ⟨KK, ?_⟩
  have hlen2 : a2.length ≤ maxLen := by
    simp only [WfA, Wf] at h
    exact h.2.2.1.1
  unfold f9G f13G f16G
  by_cases hb : (a2.length : Int) ≤ 1048576
  · obtain ⟨e1, e2⟩ := sz_small (left := 1048576) (by omega) (by omega) hb
    rw [e1, cond_false, e2, Option.bind_some, decide_eq_false (by omega), cond_false]
    simp only [Option.bind_some]
    have h2 : a2.length ≤ 1048576 := by omega
    rw [toMotionS_eq h2]
    simp only [Option.bind_some]
    rw [specOO_eq a0 a1 h2, implOO_eq a0 a1 h2]
    obtain ⟨hr1, hr2⟩ := resOO_len (f := a0) (l := a1) (g := a2)
    obtain ⟨r1, ⟨m1, _⟩, hm1⟩ := markMotionS_gen a2 (k := 1) (by omega) (by omega) h2
    obtain ⟨r2, ⟨m2, hh⟩, hm2⟩ := markVecSS_gen (resOO a0 a1 a2).1 hr1 hr2
    simp only [Option.bind_some]
    rw [eqVecSS_eq hr1 hr2]
    simp only [Option.bind_some, Bool.or_true, cond_true, Bool.not_true, bne_self_eq_false, cond_false]
    rw [eqMotionS_eq h2]
    simp only [Option.bind_some, Bool.or_true, cond_true, Bool.not_true, bne_self_eq_false, cond_false]
    rw [hm1, Option.bind_some, decide_eq_false (show ¬ r1.2 < 0 by omega), hm2]
    simp only [Option.bind_some, Bool.or_true, cond_true, Bool.not_true, Bool.not_false, bne_self_eq_false, cond_false]
    rw [hh, Option.bind_some, decide_eq_false (show ¬ r2.2 < 0 by omega)]
    simp only [bne_self_eq_false, cond_false]
    rw [Option.bind_some, decide_eq_false (show ¬ r2.2 < 0 by omega)]
    simp only [bne_self_eq_false, cond_false]
  · rw [sz_large (left := 1048576) (by omega) (by omega) hlen2 hb]
    rfl
end Go.Proofs.YthlldmfkdcmcfaaGreat.X
