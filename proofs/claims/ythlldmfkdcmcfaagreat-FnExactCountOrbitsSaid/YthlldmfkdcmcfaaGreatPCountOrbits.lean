/- The plain law of CountOrbits: both sides count the cells that are the first of their orbit. -/
import Derived.Test.YthlldmfkdcmcfaaGreatMN
import Derived.Test.YthlldmfkdcmcfaaGreatXRow
namespace Go.Proofs.YthlldmfkdcmcfaaGreat.X
open Go
set_option linter.unusedVariables false
def resCO (f : Int) (l : Lt) (g : List Mo) : Int × Int := bif codeC f l g true != 0 then (0, codeC f l g true) else ((((orbsS l g).length : Nat) : Int), 0)
theorem specCO_eq (f : Int) (l : Lt) {g : List Mo} (hn : g.length ≤ 1048576) : f40G KK f l g = some (resCO f l g) := by
  unfold f40G resCO
  rw [specCode_eq f l hn, Option.bind_some]
  cases h : codeC f l g true != 0
  · have h0 : codeC f l g true = 0 := by simpa using h
    rw [cond_false, cond_false, l07Orbits_eq (codeC_0 h0).1, Option.bind_some]
  · rfl
theorem implCO_eq (f : Int) (l : Lt) {g : List Mo} (hn : g.length ≤ 1048576) : f41G KK f l g = some (resCO f l g) := by
  unfold f41G f48G resCO
  rw [cellCode_eq f l hn (by simp), Option.bind_some, show ([] : List Vc).all (cellB l) = true from rfl]
  cases h : codeC f l g true != 0
  · have h0 : codeC f l g true = 0 := by simpa using h
    rw [cond_false, cond_false, orbitsOf_eq (codeC_0 h0).1, Option.bind_some, Option.bind_some]
  · rfl
theorem FnExactCountOrbits_pure (a0 : Int) (a1 : Int × Int × Int) (a2 : List ((Int × Int × Int × Int) × Int × Int)) (h : WfA [(.int .i64), (.cons (.int .i64) (.cons (.int .i64) (.int .i64))), (.list 96 (.cons (.cons (.int .i64) (.cons (.int .i64) (.cons (.int .i64) (.int .i64)))) (.cons (.int .i64) (.int .i64))))] (a0, a1, a2, ())) : ∃ K, f7G K a0 a1 a2 = some true := by
  refine ⟨KK, ?_⟩
  have hlen2 : a2.length ≤ maxLen := by
    simp only [WfA, Wf] at h
    exact h.2.2.1.1
  unfold f7G f13G f16G
  by_cases hb : (a2.length : Int) ≤ 1048576
  · obtain ⟨e1, e2⟩ := sz_small (left := 1048576) (by omega) (by omega) hb
    rw [e1, cond_false, e2, Option.bind_some, decide_eq_false (by omega), cond_false]
    simp only [Option.bind_some]
    have h2 : a2.length ≤ 1048576 := by omega
    rw [toMotionS_eq h2]
    simp only [Option.bind_some]
    rw [specCO_eq a0 a1 h2, implCO_eq a0 a1 h2]
    simp only [Option.bind_some, Bool.or_true, cond_true, Bool.not_true, bne_self_eq_false, cond_false]
    rw [eqMotionS_eq h2]
    rfl
  · rw [sz_large (left := 1048576) (by omega) (by omega) hlen2 hb]
    rfl
end Go.Proofs.YthlldmfkdcmcfaaGreat.X
