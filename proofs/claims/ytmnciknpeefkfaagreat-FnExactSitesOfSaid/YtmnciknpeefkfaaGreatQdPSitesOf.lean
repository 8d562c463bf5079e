/- The plain law of SitesOf: both sides give the orbits of the lean pattern's group. -/
import Derived.Test.YtmnciknpeefkfaaGreatQdPOrbitNumbers
import Derived.Test.YtmnciknpeefkfaaGreatQdMR
import Derived.Test.YtmnciknpeefkfaaGreatQdMO
namespace Go.Proofs.YtmnciknpeefkfaaGreat.X
open Go
set_option linter.unusedVariables false
def resSO (p : Pt) : List (List Vc) × Int := bif okP p then (orbsS (leanS p).2.1 (groupS (leanS p)), 0) else ([], 1)
theorem specSO_eq (p : Pt) : f20G KK p = some (resSO p) := by
  unfold f20G resSO
  rw [specIsPattern_eq, Option.bind_some]
  cases ho : okP p
  · rfl
  · have hp := okP_P ho
    have hq := leanS_P hp
    simp only [Bool.not_true, cond_false, cond_true]
    rw [l09Lean_eq hp, Option.bind_some, l10Group_eq hq, Option.bind_some, l07Orbits_eq (groupS_orb hq), Option.bind_some]
theorem implSO_eq (p : Pt) : f22G KK p = some (resSO p) := by
  unfold f22G resSO
  rw [isPattern_eq, Option.bind_some]
  cases ho : okP p
  · rfl
  · have hp := okP_P ho
    have hq := leanS_P hp
    simp only [Bool.not_true, cond_false, cond_true]
    rw [lean_eq hp, Option.bind_some, groupOf_eq hq, Option.bind_some, orbitsOf_eq (groupS_orb hq), Option.bind_some]
theorem resSO_len {p : Pt} : (resSO p).1.length ≤ 1000 ∧ ∀ o ∈ (resSO p).1, o.length ≤ 1000 := by
  unfold resSO
  cases ho : okP p
  · simp
  · have hG := groupS_orb (leanS_P (okP_P ho))
    have := orbs_len hG.la (groupS (leanS p))
    rw [cond_true]
    refine ⟨by simp only; omega, fun o ho => ?_⟩
    have := (orbs_cell hG ho).2
    omega
theorem FnExactSitesOf_pure (a0 : Int × (Int × Int × Int) × List Int) (h : WfA [(.cons (.int .i64) (.cons (.cons (.int .i64) (.cons (.int .i64) (.int .i64))) (.list 2 (.int .i64))))] (a0, ())) : ∃ K, f4G K a0 = some true := by
  refine ⟨KK, ?_⟩
  have hlen : a0.2.2.length ≤ maxLen := by
    simp only [WfA, Wf] at h
    exact h.1.2.2.1
  unfold f4G
  by_cases h0 : (a0.2.2.length : Int) ≤ 1048576
  · have h0' : a0.2.2.length ≤ 1048576 := by omega
    obtain ⟨y, hy, hy0⟩ := szPattern_eq h0'
    rw [hy, Option.bind_some, decide_eq_false (by omega), cond_false, toPattern_eq h0']
    simp only [Option.bind_some]
    rw [specSO_eq a0, implSO_eq a0]
    obtain ⟨hr1, hr2⟩ := resSO_len (p := a0)
    obtain ⟨r1, ⟨m1, _⟩, hm1⟩ := markInt64S_gen a0.2.2 (k := 1) (by omega) (by omega) h0'
    have hmp : f25G KK a0 1 = some ((a0.1, a0.2.1, r1.1), r1.2) := by
      unfold f25G
      rw [hm1]
      rfl
    obtain ⟨r2, ⟨m2, hh⟩, hm2⟩ := markVecSS_gen (resSO a0).1 hr1 hr2
    simp only [Option.bind_some]
    rw [eqVecSS_eq hr1 hr2]
    simp only [Option.bind_some, Bool.or_true, cond_true, Bool.not_true, bne_self_eq_false, cond_false]
    rw [eqPattern_eq h0']
    simp only [Option.bind_some, Bool.or_true, cond_true, Bool.not_true, bne_self_eq_false, cond_false]
    rw [hmp, Option.bind_some, decide_eq_false (show ¬ r1.2 < 0 by omega), hm2]
    simp only [Option.bind_some, Bool.or_true, cond_true, Bool.not_true, Bool.not_false, bne_self_eq_false, cond_false]
    rw [hh, Option.bind_some, decide_eq_false (show ¬ r2.2 < 0 by omega)]
    simp only [bne_self_eq_false, cond_false]
    rw [Option.bind_some, decide_eq_false (show ¬ r2.2 < 0 by omega)]
    simp only [bne_self_eq_false, cond_false]
  · by_cases hm : a0.2.2.length ≤ 4611686018427387904
    · rw [szPattern_big (by omega) hm, Option.bind_some]
      rfl
    · have : w (1048576 - (a0.2.2.length : Int)) = 1048576 - (a0.2.2.length : Int) := by
        simp only [maxLen] at hlen
        exact w_id (by omega) (by omega)
      unfold f19G f66G
      rw [this, decide_eq_true (by omega), cond_true, Option.bind_some]
      rfl
end Go.Proofs.YtmnciknpeefkfaaGreat.X
