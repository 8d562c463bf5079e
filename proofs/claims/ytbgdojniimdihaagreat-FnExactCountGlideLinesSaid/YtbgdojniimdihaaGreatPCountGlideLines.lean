/- The plain law of CountGlideLines: both sides count the same lines. -/
import Derived.Test.YtbgdojniimdihaaGreatM14
import Derived.Test.YtbgdojniimdihaaGreatXRow
namespace Go.Proofs.YtbgdojniimdihaaGreat.X
open Go
set_option linter.unusedVariables false
theorem FnExactCountGlideLines_pure (a0 : Int × (Int × Int × Int) × List Int) (h : WfA [(.cons (.int .i64) (.cons (.cons (.int .i64) (.cons (.int .i64) (.int .i64))) (.list 2 (.int .i64))))] (a0, ())) : ∃ K, f5G K a0 = some true := by
  refine ⟨KK, ?_⟩
  unfold f5G
  have hlen : a0.2.2.length ≤ maxLen := by
    simp only [WfA, Wf] at h
    exact h.1.2.2.1
  rcases Nat.lt_or_ge 1048576 a0.2.2.length with hb | hb
  · by_cases hm : a0.2.2.length ≤ 4611686018427387904
    · rw [szPattern_big hb hm, Option.bind_some]
      rfl
    · have : w (1048576 - (a0.2.2.length : Int)) = 1048576 - (a0.2.2.length : Int) := by
        simp only [maxLen] at hlen
        exact w_id (by omega) (by omega)
      unfold f27G f52G
      rw [this, decide_eq_true (by omega), cond_true, Option.bind_some]
      rfl
  · obtain ⟨y, hy, hy0⟩ := szPattern_eq hb
    rw [hy, Option.bind_some, decide_eq_false (by omega), cond_false, toPattern_eq hb]
    simp only [Option.bind_some]
    unfold f28G f30G
    rw [specIsPattern_eq, isPattern_eq]
    simp only [Option.bind_some]
    cases ho : okP a0
    · simp only [Bool.not_false, cond_true, Option.bind_some]
      rw [eqPattern_eq hb]
      simp
    · have hp := okP_P ho
      have hq := leanS_P hp
      simp only [Bool.not_true, cond_false]
      rw [l09Lean_eq hp, lean_eq hp, Option.bind_some, Option.bind_some, l14Lines_eq hq, lines_eq hq]
      simp only [Option.bind_some]
      rw [eqPattern_eq hb]
      simp
end Go.Proofs.YtbgdojniimdihaaGreat.X
