/- The plain law of PaintOrbits: both sides give each cell the colour of its orbit. -/
import Derived.Test.YtfccacobkcglcaaGreatQfPOrbitNumbers
namespace Go.Proofs.YtfccacobkcglcaaGreat.X
open Go
set_option linter.unusedSimpArgs false
set_option linter.unusedVariables false
def paintS (l : Lt) (g : List Mo) (c : List Int) : List Int := (numsF l g).map fun k => c.getD k.toNat 0
def resPO (f : Int) (l : Lt) (g : List Mo) (c : List Int) : Pt × Int := bif codeC f l g true != 0 then (dP, codeC f l g true) else bif (c.length == (orbsS l g).length) && c.all okC then ((f, l, paintS l g c), 0) else (dP, 2)
end Go.Proofs.YtfccacobkcglcaaGreat.X
