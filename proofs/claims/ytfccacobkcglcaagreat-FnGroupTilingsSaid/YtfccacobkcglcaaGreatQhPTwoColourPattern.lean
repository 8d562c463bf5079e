/- The plain law of TwoColourPattern: both sides mark the group's orbit with 2, and then the half's with 1. -/
import Derived.Test.YtfccacobkcglcaaGreatQhPOrbitNumbers
namespace Go.Proofs.YtfccacobkcglcaaGreat.X
open Go
set_option linter.unusedSimpArgs false
set_option linter.unusedVariables false
def halfB (f : Int) (l : Lt) (g s : List Mo) (v : Vc) : Bool := cellB l v && (grpB f l s && ((2 * s.length == g.length) && s.all g.contains))
def codeH (f : Int) (l : Lt) (g s : List Mo) (v : Vc) : Int := bif codeC f l g true != 0 then codeC f l g true else bif halfB f l g s v then (bif decide (48 < g.length) then 3 else 0) else 2
def twoS (l : Lt) (g s : List Mo) (v : Vc) : List Int := setAll l 1 (orbS l s v) (setAll l 2 (orbS l g v) (List.replicate (cellsS l).length 0))
def resTC (f : Int) (l : Lt) (g s : List Mo) (v : Vc) : Pt × Int := bif codeH f l g s v != 0 then (dP, codeH f l g s v) else bif decide ((orbS l s v).length < (orbS l g v).length) then ((f, l, twoS l g s v), 0) else (dP, 5)
end Go.Proofs.YtfccacobkcglcaaGreat.X
