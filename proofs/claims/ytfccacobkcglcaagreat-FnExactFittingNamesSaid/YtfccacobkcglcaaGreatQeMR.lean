/- Plain facts: codes of groups and patterns, which groups keep a pattern, the first cells of orbits. -/
import Derived.Test.YtfccacobkcglcaaGreatQeMQ
import Derived.Test.YtfccacobkcglcaaGreatQeMN
namespace Go.Proofs.YtfccacobkcglcaaGreat.X
open Go
set_option linter.unusedSimpArgs false
set_option linter.unusedVariables false
def dP : Pt := (0, (0, 0, 0), [])
def codeK (p : Pt) (g : List Mo) : Int := bif okP p then (if grpB p.1 p.2.1 g then 0 else 2) else 1
def keptS (p : Pt) (g : List Mo) : Bool := g.all (keepsS p)
end Go.Proofs.YtfccacobkcglcaaGreat.X
