/- What package variables hold, as far as it is asked for: their blocks lie below gN. -/
import Derived.Test.YteheolldcpjkcaaGreatQzXAbs
import Derived.Lib.ItoaNum
import Derived.Calls
import Derived.Below
set_option linter.unusedSimpArgs false
set_option linter.unusedVariables false
namespace Go.Proofs.YteheolldcpjkcaaGreat.X
open Go
def gN:Nat:=0
def gp (w:World):Prop:=True
theorem Acx {w w':World} (h:gp w) (hb:∀ k,k<gN→w'.heap[k]? = w.heap[k]?):gp w':=h
def FJ (w:World):Prop:=gN≤w.heap.size∧gp w
theorem FJ.keep {w w':World} (h:FJ w) (hs:w.heap.size≤w'.heap.size) (hb:∀ k,k<gN→w'.heap[k]? = w.heap[k]?):FJ w' :=
 ⟨AiX h.1 hs,Acx h.2 hb⟩
end Go.Proofs.YteheolldcpjkcaaGreat.X
