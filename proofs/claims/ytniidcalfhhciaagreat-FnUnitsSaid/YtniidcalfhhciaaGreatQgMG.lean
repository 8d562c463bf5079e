/- Plain facts: copies and comparisons of lists of motions and of vectors. -/
import Derived.Test.YtniidcalfhhciaaGreatQgMF
namespace Go.Proofs.YtniidcalfhhciaaGreat.X
open Go
set_option linter.unusedSimpArgs false
set_option linter.unusedVariables false
end Go.Proofs.YtniidcalfhhciaaGreat.X
