/- Plain facts: what the laws over codes ask: lists alike, lists that hold something, fixed cells. -/
import Derived.Test.YtfccacobkcglcaaGreatQeMY
import Derived.Test.YtfccacobkcglcaaGreatQePTwoColourPattern
namespace Go.Proofs.YtfccacobkcglcaaGreat.X
open Go
set_option linter.unusedSimpArgs false
set_option linter.unusedVariables false
/-! ### cells that a motion fixes -/
def fixS (f : Int) (l : Lt) (m : Mo) : Int × Int := if okF f && okL l then (if suitB f l m then ((((cellsS l).filter fun v => mvS l m v == v).length : Nat), 0) else (0, 2)) else (0, 1)
end Go.Proofs.YtfccacobkcglcaaGreat.X
