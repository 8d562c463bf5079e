/- Plain facts: marks on cells, and marks that are in conflict. -/
import Derived.Test.YtfccacobkcglcaaGreatQhPOrbitNumbers
namespace Go.Proofs.YtfccacobkcglcaaGreat.X
open Go
set_option linter.unusedSimpArgs false
set_option linter.unusedVariables false
abbrev Ma := Vc × Int
def markB (x : Ma) : Bool := vecB x.1 && okC x.2
def marksB (ms : List Ma) : Bool := ms.all markB && decide (ms.length ≤ 40)
def nmS (l : Lt) (ns : List Int) (x : Ma) : Int := ns.getD (numS l x.1) 0
def cfB (l : Lt) (ns : List Int) (y x : Ma) : Bool := (nmS l ns x == nmS l ns y) && (x.2 != y.2)
def cfO (l : Lt) (ns : List Int) (ms : List Ma) : Nat → List Ma → Int × Int × Bool
 | _, [] => (0, 0, false)
 | j, y :: r => bif (ms.take j).any (cfB l ns y) then (idxS (cfB l ns y) 0 (ms.take j), (j : Int), true) else cfO l ns ms (j + 1) r
theorem vec_Sm {v : Vc} (h : vecB v = true) : Sm v := Sv_Sm (vecB_Sv h)
theorem getZ {ns : List Int} {k : Nat} : ns.getD ((0 : Int) + (k : Int)).toNat (0 : Int) = ns.getD k 0 := by
 have e : ((0 : Int) + (k : Int)).toNat = k := by omega
 rw [e]
theorem numsF_len' (l : Lt) (g : List Mo) : (numsF l g).length = (cellsS l).length := by simp [numsF]
def ixS (l : Lt) (g : List Mo) (u : Vc) : Int := idxS (fun o => o.contains u) 0 (orbsS l g)
theorem numsF_get {l : Lt} (hl : IsL l) (g : List Mo) {u : Vc} (hu : cellB l u = true) : (numsF l g)[numS l u]? = some (ixS l g u) := by
 unfold numsF
 rw [List.getElem?_map, cell_at hl hu]
 rfl
end Go.Proofs.YtfccacobkcglcaaGreat.X
