/- Plain facts: patterns that a function on the cells makes. -/
import Derived.Test.YtfccacobkcglcaaGreatQeMW
import Derived.Test.YtfccacobkcglcaaGreatQePSeedPattern
namespace Go.Proofs.YtfccacobkcglcaaGreat.X
open Go
set_option linter.unusedSimpArgs false
set_option linter.unusedVariables false
abbrev mapP (f : Int) (l : Lt) (φ : Vc → Int) : Pt := (f, l, (cellsS l).map φ)
def resIK (p : Pt) (g : List Mo) : Bool × Int := bif codeK p g != 0 then (false, codeK p g) else (keptS p g, 0)
end Go.Proofs.YtfccacobkcglcaaGreat.X
