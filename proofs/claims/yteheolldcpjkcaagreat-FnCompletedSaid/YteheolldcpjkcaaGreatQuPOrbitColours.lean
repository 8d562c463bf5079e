/- The plain law of OrbitColours: both sides give the colour of the first cell of each orbit. -/
import Derived.Test.YteheolldcpjkcaaGreatQuPOrbitNumbers
namespace Go.Proofs.YteheolldcpjkcaaGreat.X
open Go
set_option linter.unusedSimpArgs false
set_option linter.unusedVariables false
def ApW (p:Pt) (g:List Mo):List Int:=(Ao p.2.1 g).map fun o=>atS p (o.headD (0,0))
def Ap4 (p:Pt) (g:List Mo):List Int×Int:=bif FE p g != 0 then ([],FE p g) else bif MX p g then (ApW p g,0) else ([],5)
end Go.Proofs.YteheolldcpjkcaaGreat.X
