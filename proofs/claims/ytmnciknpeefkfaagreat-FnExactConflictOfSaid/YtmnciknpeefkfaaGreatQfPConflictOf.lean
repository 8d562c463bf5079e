/- The plain law of ConflictOf: both sides give the first two marks that are in conflict. -/
import Derived.Test.YtmnciknpeefkfaaGreatQfMS
namespace Go.Proofs.YtmnciknpeefkfaaGreat.X
open Go
set_option linter.unusedVariables false
def resCf (f : Int) (l : Lt) (g : List Mo) (ms : List Ma) : Int × Int × Int := bif codeC f l g (marksB ms) != 0 then (0, 0, codeC f l g (marksB ms)) else bif (cfO l (numsF l g) ms 0 ms).2.2 then ((cfO l (numsF l g) ms 0 ms).1, (cfO l (numsF l g) ms 0 ms).2.1, 0) else (0, 0, 4)
theorem specCf_eq (f : Int) (l : Lt) {g : List Mo} (hn : g.length ≤ 1048576) {ms : List Ma} (hm : ms.length ≤ 1048576) : f34G KK f l g ms = some (resCf f l g ms) := by
  unfold f34G resCf
  rw [l19Code_eq f l hn hm, Option.bind_some]
  cases h : codeC f l g (marksB ms) != 0
  · have h0 : codeC f l g (marksB ms) = 0 := by simpa using h
    obtain ⟨hG, hb⟩ := codeC_0 h0
    obtain ⟨hv, hl⟩ := marks_of hb
    rw [cond_false, cond_false, l07Numbers_eq hG, Option.bind_some, l19Conflict_eq hG.la (numsF_len' l g) hv (by omega), Option.bind_some]
    cases (cfO l (numsF l g) ms 0 ms).2.2 <;> rfl
  · rfl
theorem implCf_eq (f : Int) (l : Lt) {g : List Mo} (hn : g.length ≤ 1048576) (ms : List Ma) : f36G KK f l g ms = some (resCf f l g ms) := by
  unfold f36G resCf
  rw [marksCode_eq f l hn, Option.bind_some]
  cases h : codeC f l g (marksB ms) != 0
  · have h0 : codeC f l g (marksB ms) = 0 := by simpa using h
    obtain ⟨hG, hb⟩ := codeC_0 h0
    obtain ⟨hv, hl⟩ := marks_of hb
    rw [cond_false, cond_false, conflictOf_eq hG hv (by omega), Option.bind_some]
    cases (cfO l (numsF l g) ms 0 ms).2.2 <;> rfl
  · rfl
theorem FnExactConflictOf_pure (a0 : Int) (a1 : Int × Int × Int) (a2 : List ((Int × Int × Int × Int) × Int × Int)) (a3 : List ((Int × Int) × Int)) (h : WfA [(.int .i64), (.cons (.int .i64) (.cons (.int .i64) (.int .i64))), (.list 95 (.cons (.cons (.int .i64) (.cons (.int .i64) (.cons (.int .i64) (.int .i64)))) (.cons (.int .i64) (.int .i64)))), (.list 122 (.cons (.cons (.int .i64) (.int .i64)) (.int .i64)))] (a0, a1, a2, a3, ())) : ∃ K, f6G K a0 a1 a2 a3 = some true := by
  refine ⟨KK, ?_⟩
  have hlen2 : a2.length ≤ maxLen ∧ a3.length ≤ maxLen := by
    simp only [WfA, Wf] at h
    exact ⟨h.2.2.1.1, h.2.2.2.1.1⟩
  unfold f6G f13G f33G f15G
  by_cases hb : (a2.length : Int) ≤ 1048576
  · obtain ⟨e1, e2⟩ := sz_small (left := 1048576) (by omega) (by omega) hb
    rw [e1, cond_false, e2, Option.bind_some, decide_eq_false (by omega), cond_false]
    by_cases hb2 : (a3.length : Int) ≤ 1048576 - (a2.length : Int)
    · obtain ⟨e3, e4⟩ := sz_small (left := 1048576 - (a2.length : Int)) (by omega) (by omega) hb2
      rw [e3, cond_false, e4, Option.bind_some, decide_eq_false (by omega), cond_false]
      simp only [Option.bind_some]
      have h2 : a2.length ≤ 1048576 := by omega
      have h3 : a3.length ≤ 1048576 := by omega
      rw [toMotionS_eq h2, toMarkS_eq h3]
      simp only [Option.bind_some]
      rw [specCf_eq a0 a1 h2 h3, implCf_eq a0 a1 h2]
      simp only [Option.bind_some, Bool.or_true, cond_true, Bool.not_true, bne_self_eq_false, cond_false]
      rw [eqMotionS_eq h2]
      simp only [Option.bind_some, Bool.not_true, cond_false]
      rw [eqMarkS_eq h3]
      rfl
    · rw [sz_large (left := 1048576 - (a2.length : Int)) (by omega) (by omega) hlen2.2 hb2]
      rfl
  · rw [sz_large (left := 1048576) (by omega) (by omega) hlen2.1 hb]
    rfl
end Go.Proofs.YtmnciknpeefkfaaGreat.X
