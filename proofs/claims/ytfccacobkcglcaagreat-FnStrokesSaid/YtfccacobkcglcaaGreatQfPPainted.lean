/- The plain law of FnPainted: painting orbits and reading their colours undo one another. -/
import Derived.Test.YtfccacobkcglcaaGreatQfMT
import Derived.Test.YtfccacobkcglcaaGreatQfPPaintOrbits
import Derived.Test.YtfccacobkcglcaaGreatQfPOrbitColours
namespace Go.Proofs.YtfccacobkcglcaaGreat.X
open Go
set_option linter.unusedSimpArgs false
set_option linter.unusedVariables false
theorem ix_of {f : Int} {l : Lt} {g : List Mo} (h : OrbG f l g) {j : Nat} (hj : j < (orbsS l g).length) {u : Vc} (hu : u ∈ (orbsS l g)[j]) : ixS l g u = (j : Int) := by
 have hc := (orbs_cell h (List.getElem_mem hj)).1 u hu
 obtain ⟨k, hk, e, hin⟩ := ix_at h hc
 have no : ∀ (a b : Nat) (ha : a < (orbsS l g).length) (hb : b < (orbsS l g).length), a < b → u ∈ (orbsS l g)[a] → u ∈ (orbsS l g)[b] → False := fun a b ha hb hab h1 h2 => by
  have := orbs_apart h hb h2
  have h3 : ((orbsS l g).take b).any (fun o => o.contains u) = true := List.any_eq_true.2 ⟨(orbsS l g)[a], List.mem_take_iff_getElem.2 ⟨a, by omega, rfl⟩, List.contains_iff_mem.2 h1⟩
  rw [this] at h3
  cases h3
 by_cases h1 : j < k
 ·exact absurd hin fun h2 => no j k hj hk h1 hu h2
 ·by_cases h2 : k < j
  ·exact absurd hu fun h3 => no k j hk hj h2 hin h3
  ·have : k = j := by omega
   rw [e, this]
theorem at_ok {p : Pt} (h : okP p = true) (v : Vc) : okC (atS p v) = true := by
 unfold okP at h
 simp only [Bool.and_eq_true] at h
 have ha := List.all_eq_true.1 h.2
 unfold atS
 rw [List.getD_eq_getElem?_getD]
 cases he : p.2.2[numS p.2.1 v]? with
 | none => rfl
 | some x => exact ha x (List.mem_of_getElem? he)
theorem kept_orb {p : Pt} {g : List Mo} (hO : OrbG p.1 p.2.1 g) (hk : keptS p g = true) {v u : Vc} (hv : cellB p.2.1 v = true) (hu : u ∈ orbS p.2.1 g v) : atS p u = atS p v := by
 obtain ⟨m, hm, rfl⟩ := orbS_mem.1 hu
 exact keep_mv hO.la (List.all_eq_true.1 hk m hm) hv
theorem kept_same {p : Pt} {g : List Mo} (hO : OrbG p.1 p.2.1 g) (hk : keptS p g = true) {o : List Vc} (ho : o ∈ orbsS p.2.1 g) {u w : Vc} (hu : u ∈ o) (hw : w ∈ o) : atS p u = atS p w := by
 unfold orbsS at ho
 obtain ⟨r, hr, rfl⟩ := List.mem_map.1 ho
 have hc := (reps_mem hr).1
 rw [kept_orb hO hk hc hu, kept_orb hO hk hc hw]
end Go.Proofs.YtfccacobkcglcaaGreat.X
