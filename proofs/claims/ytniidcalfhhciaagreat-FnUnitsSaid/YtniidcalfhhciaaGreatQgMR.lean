/- Plain facts: codes of groups and patterns, which groups keep a pattern, the first cells of orbits. -/
import Derived.Test.YtniidcalfhhciaaGreatQgMQ
import Derived.Test.YtniidcalfhhciaaGreatQgMN
namespace Go.Proofs.YtniidcalfhhciaaGreat.X
open Go
set_option linter.unusedSimpArgs false
set_option linter.unusedVariables false
def dP : Pt := (0, (0, 0, 0), [])
theorem codeG_C (f : Int) (l : Lt) (g : List Mo) : codeG f l g = codeC f l g true := by
 unfold codeG codeC
 rw [Bool.true_and]
def codeK (p : Pt) (g : List Mo) : Int := bif okP p then (if grpB p.1 p.2.1 g then 0 else 2) else 1
def keptS (p : Pt) (g : List Mo) : Bool := g.all (keepsS p)
end Go.Proofs.YtniidcalfhhciaaGreat.X
