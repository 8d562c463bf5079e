/- The plain law of CountOrbits: both sides count the cells that are the first of their orbit. -/
import Derived.Test.YtfccacobkcglcaaGreatQmMJ
import Derived.Test.YtfccacobkcglcaaGreatQzXRow
namespace Go.Proofs.YtfccacobkcglcaaGreat.X
open Go
set_option linter.unusedSimpArgs false
set_option linter.unusedVariables false
def resCO (f : Int) (l : Lt) (g : List Mo) : Int × Int := bif codeC f l g true != 0 then (0, codeC f l g true) else ((((orbsS l g).length : Nat) : Int), 0)
theorem implCO_eq (f : Int) (l : Lt) {g : List Mo} (hn : g.length ≤ 1048576) : f111G KK f l g = some (resCO f l g) := by
 unfold f111G f236G resCO
 rw [cellCode_eq f l hn (by simp), Option.bind_some, show ([] : List Vc).all (cellB l) = true from rfl]
 cases h : codeC f l g true != 0
 ·have h0 : codeC f l g true = 0 := by simpa using h
  rw [cond_false, cond_false, orbitsOf_eq (codeC_0 h0).1, Option.bind_some, Option.bind_some]
 ·rfl
end Go.Proofs.YtfccacobkcglcaaGreat.X
