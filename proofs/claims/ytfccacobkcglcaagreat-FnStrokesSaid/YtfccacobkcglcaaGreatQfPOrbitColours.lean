/- The plain law of OrbitColours: both sides give the colour of the first cell of each orbit. -/
import Derived.Test.YtfccacobkcglcaaGreatQfPOrbitNumbers
namespace Go.Proofs.YtfccacobkcglcaaGreat.X
open Go
set_option linter.unusedSimpArgs false
set_option linter.unusedVariables false
def colS (p : Pt) (g : List Mo) : List Int := (orbsS p.2.1 g).map fun o => atS p (o.headD (0, 0))
def resOC (p : Pt) (g : List Mo) : List Int × Int := bif codeK p g != 0 then ([], codeK p g) else bif keptS p g then (colS p g, 0) else ([], 5)
end Go.Proofs.YtfccacobkcglcaaGreat.X
