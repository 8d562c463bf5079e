/- What package variables hold, as far as it is asked for: their blocks lie below gN. -/
import Derived.Test.YteheolldcpjkcaaGreatDoorQzXAbs
import Derived.Lib.ItoaNum
import Derived.Calls
import Derived.Below
set_option linter.unusedSimpArgs false
set_option linter.unusedVariables false
namespace Go.Proofs.YteheolldcpjkcaaGreatDoor.X
open Go
def gN:Nat:=3
def gp (w:World):Prop:=(∃ t z,w.heap[0]? = some (.cells (Go.Lib.pow10Tab.map fun z=>Value.int .u64 z).toArray t z))
theorem Ai1 {w w':World} (h:gp w) (hb:∀ k,k<gN→w'.heap[k]? = w.heap[k]?):gp w':=by
 have h0:=h;exact (by obtain⟨t,z,e⟩:=h0;exact⟨t,z,(hb 0 (by decide)).trans e⟩)
def D8 (w:World):Prop:=gN≤w.heap.size∧gp w
theorem D8.keep {w w':World} (h:D8 w) (hs:w.heap.size≤w'.heap.size) (hb:∀ k,k<gN→w'.heap[k]? = w.heap[k]?):D8 w' :=
 ⟨Aq0 h.1 hs,Ai1 h.2 hb⟩
end Go.Proofs.YteheolldcpjkcaaGreatDoor.X
