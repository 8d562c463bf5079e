/- Plain facts: an orbit times the motions that fix one of its cells is the group; fixed cells are counted as orbits. -/
import Derived.Test.YteheolldcpjkcaaGreatDoorQtPOrbitNumbers
namespace Go.Proofs.YteheolldcpjkcaaGreatDoor.X
open Go
set_option linter.unusedSimpArgs false
set_option linter.unusedVariables false
def AqC (l:Lt) (g:List Mo) (v:Vc):List Mo:=g.filter fun m=>mvS l m v==v
def AqD (l:Lt) (g:List Mo) (v u:Vc):List Mo:=g.filter fun m=>mvS l m v==u
end Go.Proofs.YteheolldcpjkcaaGreatDoor.X
