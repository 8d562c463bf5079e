/- The plain law of SitesOf: both sides give the orbits of the lean pattern's group. -/
import Derived.Test.YtniidcalfhhciaaGreatQePOrbitNumbers
import Derived.Test.YtniidcalfhhciaaGreatQeMR
import Derived.Test.YtniidcalfhhciaaGreatQeMO
namespace Go.Proofs.YtniidcalfhhciaaGreat.X
open Go
set_option linter.unusedSimpArgs false
set_option linter.unusedVariables false
def resSO (p : Pt) : List (List Vc) × Int := bif okP p then (orbsS (leanS p).2.1 (groupS (leanS p)), 0) else ([], 1)
theorem specSO_eq (p : Pt) : f61G KK p = some (resSO p) := by
  unfold f61G resSO
  rw [specIsPattern_eq, Option.bind_some]
  cases ho : okP p
  · rfl
  · have hp := okP_P ho
    have hq := leanS_P hp
    simp only [Bool.not_true, cond_false, cond_true]
    rw [l09Lean_eq hp, Option.bind_some, l10Group_eq hq, Option.bind_some, l07Orbits_eq (groupS_orb hq), Option.bind_some]
theorem implSO_eq (p : Pt) : f60G KK p = some (resSO p) := by
  unfold f60G resSO
  rw [isPattern_eq, Option.bind_some]
  cases ho : okP p
  · rfl
  · have hp := okP_P ho
    have hq := leanS_P hp
    simp only [Bool.not_true, cond_false, cond_true]
    rw [lean_eq hp, Option.bind_some, groupOf_eq hq, Option.bind_some, orbitsOf_eq (groupS_orb hq), Option.bind_some]
theorem resSO_len {p : Pt} : (resSO p).1.length ≤ 1000 ∧ ∀ o ∈ (resSO p).1, o.length ≤ 1000 := by
  unfold resSO
  cases ho : okP p
  · simp
  · have hG := groupS_orb (leanS_P (okP_P ho))
    have := orbs_len hG.la (groupS (leanS p))
    rw [cond_true]
    refine ⟨by simp only; omega, fun o ho => ?_⟩
    have := (orbs_cell hG ho).2
    omega
end Go.Proofs.YtniidcalfhhciaaGreat.X
