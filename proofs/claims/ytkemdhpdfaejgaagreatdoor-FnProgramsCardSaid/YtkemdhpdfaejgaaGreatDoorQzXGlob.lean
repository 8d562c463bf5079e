/- What package variables hold, as far as it is asked for: their blocks lie below gN. -/
import Derived.Test.YtkemdhpdfaejgaaGreatDoorQzXAbs
import Derived.Lib.ItoaNum
import Derived.Calls
import Derived.Below
set_option linter.unusedSimpArgs false
set_option linter.unusedVariables false
namespace Go.Proofs.YtkemdhpdfaejgaaGreatDoor.X
open Go
def gN:Nat:=8
def gp (w:World):Prop:=(∃ t z,w.heap[1]? = some (.cells (Go.Lib.pow10Tab.map fun z=>Value.int .u64 z).toArray t z))∧(∃ m,w.cell? ⟨0,0,none⟩=some (.int .i64 m))∧(∃ te pe,w.cell? ⟨6,0,none⟩=some (.iface te pe))∧(∃ te pe,w.cell? ⟨7,0,none⟩=some (.iface te pe))
theorem Asa {w w':World} (h:gp w) (hb:∀ k,k<gN→w'.heap[k]? = w.heap[k]?):gp w':=by
 obtain⟨h0,h1,h2,h3⟩:=h;exact⟨(by obtain⟨t,z,e⟩:=h0;exact⟨t,z,(hb 1 (by decide)).trans e⟩),(by obtain⟨m,e⟩:=h1;exact⟨m,(World.cell?_of_block (hb 0 (by decide))).trans e⟩),(by obtain⟨te,pe,e⟩:=h2;exact⟨te,pe,(World.cell?_of_block (hb 6 (by decide))).trans e⟩),(by obtain⟨te,pe,e⟩:=h3;exact⟨te,pe,(World.cell?_of_block (hb 7 (by decide))).trans e⟩)⟩
def Dq (w:World):Prop:=gN≤w.heap.size∧gp w
theorem Dq.keep {w w':World} (h:Dq w) (hs:w.heap.size≤w'.heap.size) (hb:∀ k,k<gN→w'.heap[k]? = w.heap[k]?):Dq w' :=
 ⟨ABo h.1 hs,Asa h.2 hb⟩
end Go.Proofs.YtkemdhpdfaejgaaGreatDoor.X
