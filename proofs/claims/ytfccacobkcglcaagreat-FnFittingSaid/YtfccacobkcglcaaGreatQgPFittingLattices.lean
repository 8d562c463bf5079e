/- The plain law of FittingLattices: both sides give the sublattices in which no two marks of different colours meet. -/
import Derived.Test.YtfccacobkcglcaaGreatQgMV
namespace Go.Proofs.YtfccacobkcglcaaGreat.X
open Go
set_option linter.unusedSimpArgs false
set_option linter.unusedVariables false
def resFL (ms : List Ma) (n : Int) : List Lt × Int := bif marksB ms && decide (1 ≤ n ∧ n ≤ 64) then (fitS ms n.toNat, 0) else ([], 2)
theorem specFL_eq {ms : List Ma} (h : ms.length ≤ 1048576) (n : Int) : f80G KK ms n = some (resFL ms n) := by
 unfold f80G resFL
 rw [specAreMarks_eq h, oB]
 cases hb : marksB ms
 ·rfl
 ·obtain ⟨hv, hl⟩ := marks_of hb
  simp only [nT, Bool.not_false, oT, cT, cF, Bool.true_and]
  rw [in_eq, oB]
  by_cases hn : 1 ≤ n ∧ n ≤ 64
  ·rw [dT hn]
   simp only [nT, cF, cT]
   have e : n = ((n.toNat : Nat) : Int) := by omega
   have h3 := l19Lattices_eq hv (by omega) (n := n.toNat) (by omega) (by omega)
   rw [← e] at h3
   rw [h3, oB]
  ·rw [dF hn]
   rfl
theorem implFL_eq (ms : List Ma) (n : Int) : f79G KK ms n = some (resFL ms n) := by
 unfold f79G resFL
 rw [areMarks_eq, oB]
 cases hb : marksB ms
 ·rfl
 ·obtain ⟨hv, hl⟩ := marks_of hb
  simp only [nT, Bool.not_false, oT, cT, cF, Bool.true_and]
  rw [within_eq, oB]
  by_cases hn : 1 ≤ n ∧ n ≤ 64
  ·rw [dT hn]
   simp only [nT, cF, cT]
   have e : n = ((n.toNat : Nat) : Int) := by omega
   have h3 := fittingLattices_eq hv (by omega) (n := n.toNat) (by omega) (by omega)
   rw [← e] at h3
   rw [h3, oB]
  ·rw [dF hn]
   rfl
theorem resFL_len {ms : List Ma} {n : Int} : (resFL ms n).1.length ≤ 5000 := by
 unfold resFL
 by_cases hn : 1 ≤ n ∧ n ≤ 64
 ·rw [dT hn]
  cases marksB ms
  ·simp
  ·have := fitS_len ms (n := n.toNat) (by omega)
   simpa using this
 ·rw [dF hn]
  cases marksB ms <;> simp
end Go.Proofs.YtfccacobkcglcaaGreat.X
