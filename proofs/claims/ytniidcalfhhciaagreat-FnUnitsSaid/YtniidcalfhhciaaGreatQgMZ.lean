/- Plain facts: patterns that a function on the cells makes. -/
import Derived.Test.YtniidcalfhhciaaGreatQgMW
import Derived.Test.YtniidcalfhhciaaGreatQgPSeedPattern
namespace Go.Proofs.YtniidcalfhhciaaGreat.X
open Go
set_option linter.unusedSimpArgs false
set_option linter.unusedVariables false
theorem codeC_parts {f : Int} {l : Lt} {g : List Mo} {b : Bool} (h : codeC f l g b = 0) : okF f = true ∧ okL l = true ∧ grpB f l g = true ∧ b = true := by
 unfold codeC at h
 by_cases h1 : (okF f && okL l) = true
 ·rw [if_pos h1] at h
  by_cases h2 : (b && grpB f l g) = true
  ·rw [Bool.and_eq_true] at h1 h2
   exact ⟨h1.1, h1.2, h2.2, h2.1⟩
  ·rw [if_neg h2] at h; cases h
 ·rw [if_neg h1] at h; cases h
abbrev mapP (f : Int) (l : Lt) (φ : Vc → Int) : Pt := (f, l, (cellsS l).map φ)
def resIK (p : Pt) (g : List Mo) : Bool × Int := bif codeK p g != 0 then (false, codeK p g) else (keptS p g, 0)
end Go.Proofs.YtniidcalfhhciaaGreat.X
