/- Plain facts: marks on cells, and marks that are in conflict. -/
import Derived.Test.YthlpehmnjanmnaaGreatDoorQsPOrbitNumbers
namespace Go.Proofs.YthlpehmnjanmnaaGreatDoor.X
open Go
set_option linter.unusedSimpArgs false
set_option linter.unusedVariables false
abbrev Ma := Vc × Int
def markB (x : Ma) : Bool := vecB x.1 && okC x.2
def marksB (ms : List Ma) : Bool := ms.all markB && decide (ms.length ≤ 40)
def nmS (l : Lt) (ns : List Int) (x : Ma) : Int := ns.getD (numS l x.1) 0
def cfB (l : Lt) (ns : List Int) (y x : Ma) : Bool := (nmS l ns x == nmS l ns y) && (x.2 != y.2)
def cfO (l : Lt) (ns : List Int) (ms : List Ma) : Nat → List Ma → Int × Int × Bool
 | _, [] => (0, 0, false)
 | j, y :: r => bif (ms.take j).any (cfB l ns y) then (idxS (cfB l ns y) 0 (ms.take j), (j : Int), true) else cfO l ns ms (j + 1) r
def ixS (l : Lt) (g : List Mo) (u : Vc) : Int := idxS (fun o => o.contains u) 0 (orbsS l g)
end Go.Proofs.YthlpehmnjanmnaaGreatDoor.X
