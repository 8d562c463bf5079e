/- The plain law of OrbitOf: both sides give the images of the cell in order, each once. -/
import Derived.Test.YtfccacobkcglcaaGreatQeMK
import Derived.Test.YtfccacobkcglcaaGreatXRow
namespace Go.Proofs.YtfccacobkcglcaaGreat.X
open Go
set_option linter.unusedSimpArgs false
set_option linter.unusedVariables false
def resOrb (f : Int) (l : Lt) (g : List Mo) (v : Vc) : List Vc × Int := bif codeC f l g (cellB l v) != 0 then ([], codeC f l g (cellB l v)) else (orbS l g v, 0)
end Go.Proofs.YtfccacobkcglcaaGreat.X
