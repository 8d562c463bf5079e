/- Plain facts: an orbit times the motions that fix one of its cells is the group; fixed cells are counted as orbits. -/
import Derived.Test.YtphhbdjjfacpiaaGreatDoorQsPOrbitNumbers
namespace Go.Proofs.YtphhbdjjfacpiaaGreatDoor.X
open Go
set_option linter.unusedSimpArgs false
set_option linter.unusedVariables false
def stbS (l : Lt) (g : List Mo) (v : Vc) : List Mo := g.filter fun m => mvS l m v == v
def fibS (l : Lt) (g : List Mo) (v u : Vc) : List Mo := g.filter fun m => mvS l m v == u
end Go.Proofs.YtphhbdjjfacpiaaGreatDoor.X
