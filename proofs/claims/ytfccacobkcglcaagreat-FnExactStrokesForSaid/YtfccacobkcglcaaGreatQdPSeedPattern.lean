/- The plain law of SeedPattern: both sides mark the cells of the orbit. -/
import Derived.Test.YtfccacobkcglcaaGreatQdPOrbitOf
import Derived.Test.YtfccacobkcglcaaGreatQdMN
namespace Go.Proofs.YtfccacobkcglcaaGreat.X
open Go
set_option linter.unusedSimpArgs false
set_option linter.unusedVariables false
def seedS (l : Lt) (o : List Vc) : List Int := setAll l 1 o (List.replicate (cellsS l).length 0)
def resSP (f : Int) (l : Lt) (g : List Mo) (v : Vc) : Pt × Int := bif codeC f l g (cellB l v) != 0 then ((0, (0, 0, 0), []), codeC f l g (cellB l v)) else ((f, l, seedS l (orbS l g v)), 0)
end Go.Proofs.YtfccacobkcglcaaGreat.X
