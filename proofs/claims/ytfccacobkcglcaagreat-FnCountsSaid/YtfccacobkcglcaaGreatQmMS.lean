/- Plain facts: marks on cells, and marks that are in conflict. -/
import Derived.Test.YtfccacobkcglcaaGreatQmPOrbitNumbers
namespace Go.Proofs.YtfccacobkcglcaaGreat.X
open Go
set_option linter.unusedSimpArgs false
set_option linter.unusedVariables false
abbrev Ma := Vc × Int
def markB (x : Ma) : Bool := vecB x.1 && okC x.2
def marksB (ms : List Ma) : Bool := ms.all markB && decide (ms.length ≤ 40)
theorem l03Number_gen {l : Lt} (hl : IsL l) {v : Vc} (hv : Sm v) : f127G KK l v = some ((numS l v : Nat) : Int) := by
 unfold f127G
 rw [l03Reduce_eq hl hv, Option.bind_some, (num_calc hl v).1]
def nmS (l : Lt) (ns : List Int) (x : Ma) : Int := ns.getD (numS l x.1) 0
def cfB (l : Lt) (ns : List Int) (y x : Ma) : Bool := (nmS l ns x == nmS l ns y) && (x.2 != y.2)
def cfO (l : Lt) (ns : List Int) (ms : List Ma) : Nat → List Ma → Int × Int × Bool
 | _, [] => (0, 0, false)
 | j, y :: r => bif (ms.take j).any (cfB l ns y) then (idxS (cfB l ns y) 0 (ms.take j), (j : Int), true) else cfO l ns ms (j + 1) r
def ixS (l : Lt) (g : List Mo) (u : Vc) : Int := idxS (fun o => o.contains u) 0 (orbsS l g)
end Go.Proofs.YtfccacobkcglcaaGreat.X
