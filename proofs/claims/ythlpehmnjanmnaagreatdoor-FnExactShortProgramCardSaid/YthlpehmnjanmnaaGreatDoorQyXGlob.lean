/- What package variables hold, as far as it is asked for: their blocks lie below gN. -/
import Derived.Test.YthlpehmnjanmnaaGreatDoorQyXAbs
import Derived.Lib.ItoaNum
import Derived.Calls
import Derived.Below
set_option linter.unusedSimpArgs false
set_option linter.unusedVariables false
namespace Go.Proofs.YthlpehmnjanmnaaGreatDoor.X
open Go
def gN : Nat := 4
def gp (w : World) : Prop := (∃ t z, w.heap[0]? = some (.cells (Go.Lib.pow10Tab.map fun z => Value.int .u64 z).toArray t z))
theorem gp_keep {w w' : World} (h : gp w) (hb : ∀ k, k < gN → w'.heap[k]? = w.heap[k]?) : gp w' := by
 have h0 := h
 exact (by obtain ⟨t, z, e⟩ := h0; exact ⟨t, z, (hb 0 (by decide)).trans e⟩)
def Tabs (w : World) : Prop := gN ≤ w.heap.size ∧ gp w
theorem Tabs.keep {w w' : World} (h : Tabs w) (hs : w.heap.size ≤ w'.heap.size) (hb : ∀ k, k < gN → w'.heap[k]? = w.heap[k]?) : Tabs w' :=
 ⟨Nat.le_trans h.1 hs, gp_keep h.2 hb⟩
end Go.Proofs.YthlpehmnjanmnaaGreatDoor.X
