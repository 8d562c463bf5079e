/- What package variables hold, as far as it is asked for: their blocks lie below gN. -/
import Derived.Test.YteheolldcpjkcaaGreatQvXAbs
import Derived.Lib.ItoaNum
import Derived.Calls
import Derived.Below
set_option linter.unusedSimpArgs false
set_option linter.unusedVariables false
namespace Go.Proofs.YteheolldcpjkcaaGreat.X
open Go
def gN:Nat:=0
def gp (w:World):Prop:=True
theorem Aj0 {w w':World} (h:gp w) (hb:∀ k,k<gN→w'.heap[k]? = w.heap[k]?):gp w':=h
def Hv (w:World):Prop:=gN≤w.heap.size∧gp w
theorem Hv.keep {w w':World} (h:Hv w) (hs:w.heap.size≤w'.heap.size) (hb:∀ k,k<gN→w'.heap[k]? = w.heap[k]?):Hv w' :=
 ⟨AqE h.1 hs,Aj0 h.2 hb⟩
end Go.Proofs.YteheolldcpjkcaaGreat.X
