/- The plain law of FittingLattices: both sides give the sublattices in which no two marks of different colours meet. -/
import Derived.Test.YtmnciknpeefkfaaMV
namespace Go.Proofs.Ytmnciknpeefkfaa.X
open Go
set_option linter.unusedVariables false
def resFL (ms : List Ma) (n : Int) : List Lt × Int := bif marksB ms && decide (1 ≤ n ∧ n ≤ 64) then (fitS ms n.toNat, 0) else ([], 2)
theorem specFL_eq {ms : List Ma} (h : ms.length ≤ 1048576) (n : Int) : f11G KK ms n = some (resFL ms n) := by
  unfold f11G resFL
  rw [specAreMarks_eq h, Option.bind_some]
  cases hb : marksB ms
  · rfl
  · obtain ⟨hv, hl⟩ := marks_of hb
    simp only [Bool.not_true, Bool.not_false, Bool.or_true, cond_true, cond_false, Bool.true_and]
    rw [in_eq, Option.bind_some]
    by_cases hn : 1 ≤ n ∧ n ≤ 64
    · rw [decide_eq_true hn]
      simp only [Bool.not_true, cond_false, cond_true]
      have e : n = ((n.toNat : Nat) : Int) := by omega
      have h3 := l19Lattices_eq hv (by omega) (n := n.toNat) (by omega) (by omega)
      rw [← e] at h3
      rw [h3, Option.bind_some]
    · rw [decide_eq_false hn]
      rfl
theorem implFL_eq (ms : List Ma) (n : Int) : f12G KK ms n = some (resFL ms n) := by
  unfold f12G resFL
  rw [areMarks_eq, Option.bind_some]
  cases hb : marksB ms
  · rfl
  · obtain ⟨hv, hl⟩ := marks_of hb
    simp only [Bool.not_true, Bool.not_false, Bool.or_true, cond_true, cond_false, Bool.true_and]
    rw [within_eq, Option.bind_some]
    by_cases hn : 1 ≤ n ∧ n ≤ 64
    · rw [decide_eq_true hn]
      simp only [Bool.not_true, cond_false, cond_true]
      have e : n = ((n.toNat : Nat) : Int) := by omega
      have h3 := fittingLattices_eq hv (by omega) (n := n.toNat) (by omega) (by omega)
      rw [← e] at h3
      rw [h3, Option.bind_some]
    · rw [decide_eq_false hn]
      rfl
theorem resFL_len {ms : List Ma} {n : Int} : (resFL ms n).1.length ≤ 5000 := by
  unfold resFL
  by_cases hn : 1 ≤ n ∧ n ≤ 64
  · rw [decide_eq_true hn]
    cases marksB ms
    · simp
    · have := fitS_len ms (n := n.toNat) (by omega)
      simpa using this
  · rw [decide_eq_false hn]
    cases marksB ms <;> simp
theorem FnExactFittingLattices_pure (a0 : List ((Int × Int) × Int)) (a1 : Int) (h : WfA [(.list 49 (.cons (.cons (.int .i64) (.int .i64)) (.int .i64))), (.int .i64)] (a0, a1, ())) : ∃ K, f4G K a0 a1 = some true := by
  refine ⟨KK, ?_⟩
  have hlen : a0.length ≤ maxLen := by
    simp only [WfA, Wf] at h
    exact h.1.1
  unfold f4G f5G
  by_cases hb : (a0.length : Int) ≤ 1048576
  · obtain ⟨e1, e2⟩ := sz_small (left := 1048576) (by omega) (by omega) hb
    rw [e1, cond_false, e2, Option.bind_some, decide_eq_false (by omega), cond_false]
    have h0 : a0.length ≤ 1048576 := by omega
    rw [toMarkS_eq h0]
    simp only [Option.bind_some]
    rw [specFL_eq h0 a1, implFL_eq a0 a1]
    have hr := resFL_len (ms := a0) (n := a1)
    obtain ⟨r1, ⟨m1, _⟩, hm1⟩ := markMarkS_gen a0 (k := 1) (by omega) (by omega) h0
    obtain ⟨r2, ⟨m2, m3, m4⟩, hm2⟩ := markLatticeS_gen (resFL a0 a1).1 (k := 1) (by omega) (by omega) (by omega)
    have hh := heldLatticeS_gen r2.1 (k := 1) (by omega) (by omega) (by omega) (by rw [m3]; exact m4)
    rw [m3, ← m2] at hh
    simp only [Option.bind_some]
    rw [eqLatticeS_eq (by omega)]
    simp only [Option.bind_some, Bool.or_true, cond_true, Bool.not_true, bne_self_eq_false, cond_false]
    rw [eqMarkS_eq h0]
    simp only [Option.bind_some, Bool.or_true, cond_true, Bool.not_true, bne_self_eq_false, cond_false]
    rw [hm1, Option.bind_some, decide_eq_false (show ¬ r1.2 < 0 by omega), hm2]
    simp only [Option.bind_some, Bool.or_true, cond_true, Bool.not_true, Bool.not_false, bne_self_eq_false, cond_false]
    rw [hh, Option.bind_some, decide_eq_false (show ¬ r2.2 < 0 by omega)]
    simp only [bne_self_eq_false, cond_false]
    rw [Option.bind_some, decide_eq_false (show ¬ r2.2 < 0 by omega)]
    simp only [bne_self_eq_false, cond_false]
  · rw [sz_large (left := 1048576) (by omega) (by omega) hlen hb]
    rfl
end Go.Proofs.Ytmnciknpeefkfaa.X
