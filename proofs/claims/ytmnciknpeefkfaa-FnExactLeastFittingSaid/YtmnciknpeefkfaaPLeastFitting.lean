/- The plain law of LeastFitting: both sides give the first lattice that fits, by its index. -/
import Derived.Test.YtmnciknpeefkfaaMV
namespace Go.Proofs.Ytmnciknpeefkfaa.X
open Go
set_option linter.unusedVariables false
theorem lf_loop {ms : List Ma} (hm : ∀ x ∈ ms, vecB x.1 = true) (hn : ms.length ≤ 1000) {y y' : Bool} : ∀ (k n : Nat), 1 ≤ n → 65 - n < k → ∃ r : Lt × Int, f6_l4 KK ms y k (n : Int) = some r ∧ f8_l4 KK ms y' k (n : Int) = some r
  | 0, n, _, h => by omega
  | k + 1, n, h1, h => by
    have es : f6_l4 KK ms y (k + 1) (n : Int) = f6_b4 KK ms y (fun v0 => f6_l4 KK ms y k v0) (n : Int) := rfl
    have ei : f8_l4 KK ms y' (k + 1) (n : Int) = f8_b4 KK ms y' (fun v0 => f8_l4 KK ms y' k v0) (n : Int) := rfl
    rw [es, ei]
    unfold f6_b4 f8_b4
    by_cases h64 : n ≤ 64
    · rw [decide_eq_true (show (n : Int) ≤ 64 by omega), cond_true, cond_true, l19Lattices_eq hm hn h1 h64, fittingLattices_eq hm hn h1 h64, Option.bind_some, Option.bind_some]
      cases hf : fitS ms n with
      | nil =>
        have e : decide (((([] : List Lt).length : Nat) : Int) > 0) = false := by decide
        rw [e, cond_false, cond_false, w_succ (by omega)]
        exact lf_loop hm hn k (n + 1) (by omega) (by omega)
      | cons x t =>
        have e : decide ((((x :: t : List Lt).length : Nat) : Int) > 0) = true := by simp
        rw [e]
        exact ⟨_, rfl, rfl⟩
    · rw [decide_eq_false (show ¬ (n : Int) ≤ 64 by omega)]
      exact ⟨_, rfl, rfl⟩
theorem least_run {ms : List Ma} (h : ms.length ≤ 1048576) : ∃ r : Lt × Int, f6G KK ms = some r ∧ f8G KK ms = some r := by
  unfold f6G f8G f6_g f8_g
  rw [specAreMarks_eq h, areMarks_eq, Option.bind_some, Option.bind_some]
  cases hb : marksB ms
  · exact ⟨_, rfl, rfl⟩
  · obtain ⟨hv, hl⟩ := marks_of hb
    exact lf_loop hv (by omega) KK 1 (by omega) (by simp only [KK]; omega)
theorem FnExactLeastFitting_pure (a0 : List ((Int × Int) × Int)) (h : WfA [(.list 49 (.cons (.cons (.int .i64) (.int .i64)) (.int .i64)))] (a0, ())) : ∃ K, f3G K a0 = some true := by
  refine ⟨KK, ?_⟩
  have hlen : a0.length ≤ maxLen := by
    simp only [WfA, Wf] at h
    exact h.1.1
  unfold f3G f5G
  by_cases hb : (a0.length : Int) ≤ 1048576
  · obtain ⟨e1, e2⟩ := sz_small (left := 1048576) (by omega) (by omega) hb
    rw [e1, cond_false, e2, Option.bind_some, decide_eq_false (by omega), cond_false]
    have h0 : a0.length ≤ 1048576 := by omega
    obtain ⟨r, hS, hI⟩ := least_run h0
    rw [toMarkS_eq h0]
    simp only [Option.bind_some]
    rw [hS, hI]
    simp only [Option.bind_some]
    rw [eqLattice_eq]
    simp only [Option.bind_some, Bool.or_true, cond_true, Bool.not_true, bne_self_eq_false, cond_false]
    rw [eqMarkS_eq h0]
    rfl
  · rw [sz_large (left := 1048576) (by omega) (by omega) hlen hb]
    rfl
end Go.Proofs.Ytmnciknpeefkfaa.X
