/- The plain law of OrbitNumbers: both sides number the cells by their orbit. -/
import Derived.Test.YtniidcalfhhciaaGreatQfPSeedPattern
namespace Go.Proofs.YtniidcalfhhciaaGreat.X
open Go
set_option linter.unusedSimpArgs false
set_option linter.unusedVariables false
def resON (f : Int) (l : Lt) (g : List Mo) : List Int × Int := bif codeC f l g true != 0 then ([], codeC f l g true) else (numsF l g, 0)
end Go.Proofs.YtniidcalfhhciaaGreat.X
