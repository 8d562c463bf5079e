/- The plain law of OrbitsOf: both sides give the orbits in the order of their first cells. -/
import Derived.Test.YteheolldcpjkcaaGreatQuPOrbitNumbers
namespace Go.Proofs.YteheolldcpjkcaaGreat.X
open Go
set_option linter.unusedSimpArgs false
set_option linter.unusedVariables false
def Ap7 (f:Int) (l:Lt) (g:List Mo):List (List Vc)×Int:=bif AB f l g true != 0 then ([],AB f l g true) else (Ao l g,0)
end Go.Proofs.YteheolldcpjkcaaGreat.X
