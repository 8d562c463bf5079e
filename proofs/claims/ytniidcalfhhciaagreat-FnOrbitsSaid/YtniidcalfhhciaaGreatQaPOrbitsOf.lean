/- The plain law of OrbitsOf: both sides give the orbits in the order of their first cells. -/
import Derived.Test.YtniidcalfhhciaaGreatQaPOrbitNumbers
import Derived.Test.YtniidcalfhhciaaGreatQaMO
namespace Go.Proofs.YtniidcalfhhciaaGreat.X
open Go
set_option linter.unusedSimpArgs false
set_option linter.unusedVariables false
def resOO (f : Int) (l : Lt) (g : List Mo) : List (List Vc) × Int := bif codeC f l g true != 0 then ([], codeC f l g true) else (orbsS l g, 0)
theorem specOO_eq (f : Int) (l : Lt) {g : List Mo} (hn : g.length ≤ 1048576) : f51G KK f l g = some (resOO f l g) := by
  unfold f51G resOO
  rw [specCode_eq f l hn, Option.bind_some]
  cases h : codeC f l g true != 0
  · have h0 : codeC f l g true = 0 := by simpa using h
    rw [cond_false, cond_false, l07Orbits_eq (codeC_0 h0).1, Option.bind_some]
  · rfl
theorem implOO_eq (f : Int) (l : Lt) {g : List Mo} (hn : g.length ≤ 1048576) : f50G KK f l g = some (resOO f l g) := by
  unfold f50G resOO
  rw [cellCode_eq f l hn (by simp), Option.bind_some, show ([] : List Vc).all (cellB l) = true from rfl]
  cases h : codeC f l g true != 0
  · have h0 : codeC f l g true = 0 := by simpa using h
    rw [cond_false, cond_false, orbitsOf_eq (codeC_0 h0).1, Option.bind_some]
  · rfl
theorem resOO_len {f : Int} {l : Lt} {g : List Mo} : (resOO f l g).1.length ≤ 1000 ∧ ∀ o ∈ (resOO f l g).1, o.length ≤ 1000 := by
  unfold resOO
  cases h : codeC f l g true != 0
  · have h0 : codeC f l g true = 0 := by simpa using h
    have hG := (codeC_0 h0).1
    have := orbs_len hG.la g
    rw [cond_false]
    refine ⟨by simp only; omega, fun o ho => ?_⟩
    have := (orbs_cell hG ho).2
    omega
  · simp
end Go.Proofs.YtniidcalfhhciaaGreat.X
