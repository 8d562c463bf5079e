/- Plain facts: all orbits, and for each cell the number of its orbit. -/
import Derived.Test.YtniidcalfhhciaaGreatQfML
namespace Go.Proofs.YtniidcalfhhciaaGreat.X
open Go
set_option linter.unusedSimpArgs false
set_option linter.unusedVariables false
/-! ### numbers of cells -/
theorem cellsS_cell {l : Lt} {v : Vc} (h : v ∈ cellsS l) : cellB l v = true := by
  have := mem_cellsS h
  exact cellB_iff.2 (by omega)
/-! ### where an orbit stands -/
def setAll (l : Lt) (i : Int) (o : List Vc) (s : List Int) : List Int := o.foldl (fun s u => s.set (numS l u) i) s
/-- the orbits of the first q cells -/
def orbT (l : Lt) (g : List Mo) (q : Nat) : List (List Vc) := (((cellsS l).take q).filter (repB l g)).map (orbS l g)
def numsF (l : Lt) (g : List Mo) : List Int := (cellsS l).map fun v => idxS (fun o => o.contains v) 0 (orbsS l g)
theorem orbT_all (l : Lt) (g : List Mo) : orbT l g (cellsS l).length = orbsS l g := by
  unfold orbT orbsS repsS
  rw [List.take_length]
/-- the numbers, while orbits are found -/
structure Num (l : Lt) (g : List Mo) (q : Nat) (s : List Int) : Prop where
  len : s.length = (cellsS l).length
  get : ∀ u, cellB l u = true → s[numS l u]? = some (idxS (fun o => o.contains u) 0 (orbT l g q))
theorem Num.all {l : Lt} (hl : IsL l) {g : List Mo} {s : List Int} (h : Num l g (cellsS l).length s) : s = numsF l g := by
  apply List.ext_getElem?
  intro k
  unfold numsF
  rw [List.getElem?_map]
  by_cases hk : k < (cellsS l).length
  · have hc : cellB l (cellsS l)[k] = true := cellsS_cell (List.getElem_mem hk)
    have := h.get _ hc
    rw [cellsS_num hl hk, orbT_all] at this
    rw [this, List.getElem?_eq_getElem hk]
    rfl
  · rw [List.getElem?_eq_none (by rw [h.len]; omega), List.getElem?_eq_none (by omega)]
    rfl
end Go.Proofs.YtniidcalfhhciaaGreat.X
