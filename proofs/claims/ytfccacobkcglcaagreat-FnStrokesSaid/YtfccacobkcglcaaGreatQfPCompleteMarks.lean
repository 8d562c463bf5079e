/- The plain law of CompleteMarks: both sides give each cell the colour of the last mark in its orbit. -/
import Derived.Test.YtfccacobkcglcaaGreatQfMS
import Derived.Test.YtfccacobkcglcaaGreatQfPTwoColourPattern
namespace Go.Proofs.YtfccacobkcglcaaGreat.X
open Go
set_option linter.unusedSimpArgs false
set_option linter.unusedVariables false
def lastS (l : Lt) (ns : List Int) (ms : List Ma) (rest k : Int) : Int := ms.foldl (fun c x => bif nmS l ns x == k then x.2 else c) rest
def compS (l : Lt) (g : List Mo) (ms : List Ma) (rest : Int) : List Int := (numsF l g).map (lastS l (numsF l g) ms rest)
def icompS (l : Lt) (g : List Mo) (ms : List Ma) (s : List Int) : List Int := ms.foldl (fun s x => setAll l x.2 (orbS l g (redS l x.1)) s) s
theorem icomp_get {f : Int} {l : Lt} {g : List Mo} (h : OrbG f l g) {u : Vc} (hu : cellB l u = true) : ∀ (ms : List Ma) (s : List Int) (c : Int), s.length = (cellsS l).length → s[numS l u]? = some c → (icompS l g ms s)[numS l u]? = some (lastS l (numsF l g) ms c (ixS l g u))
 | [], s, c, _, hc => hc
 | x :: ms, s, c, hs, hc => by
  show (icompS l g ms (setAll l x.2 (orbS l g (redS l x.1)) s))[numS l u]? = some (lastS l (numsF l g) ms (bif nmS l (numsF l g) x == ixS l g u then x.2 else c) (ixS l g u))
  refine icomp_get h hu ms _ _ (by rw [setAll_len]; exact hs) ?_
  rw [setAll_get h.la _ hu _ _ (fun y hy => orb_cell h hy) (by rw [hs]; exact numS_lt h.la u), nm_ix h.la, ix_same h hu (redS_isCell h.la _), hc]
  by_cases hm : u ∈ orbS l g (redS l x.1)
  ·rw [if_pos hm, List.contains_iff_mem.2 hm]; rfl
  ·rw [if_neg hm]
   have : (orbS l g (redS l x.1)).contains u = false := by
    cases hx : (orbS l g (redS l x.1)).contains u
    ·rfl
    ·exact absurd (List.contains_iff_mem.1 hx) hm
   rw [this]; rfl
theorem icompS_len (l : Lt) (g : List Mo) : ∀ (ms : List Ma) (s : List Int), (icompS l g ms s).length = s.length
 | [], _ => rfl
 | x :: ms, s => by
  show (icompS l g ms (setAll l x.2 (orbS l g (redS l x.1)) s)).length = _
  rw [icompS_len l g ms, setAll_len]
theorem comp_same {f : Int} {l : Lt} {g : List Mo} (h : OrbG f l g) (ms : List Ma) (rest : Int) : icompS l g ms (List.replicate (cellsS l).length rest) = compS l g ms rest := by
 apply List.ext_getElem?
 intro k
 by_cases hk : k < (cellsS l).length
 ·have hc : cellB l (cellsS l)[k] = true := cellsS_cell (List.getElem_mem hk)
  have e := cellsS_num h.la hk
  have h1 := icomp_get h hc ms (List.replicate (cellsS l).length rest) rest (by simp) (by rw [List.getElem?_replicate, if_pos (numS_lt h.la _)])
  rw [e] at h1
  rw [h1]
  unfold compS
  have h2 := numsF_get h.la g hc
  rw [e] at h2
  rw [List.getElem?_map, h2]
  rfl
 ·rw [List.getElem?_eq_none (by rw [icompS_len]; simp; omega), List.getElem?_eq_none (by unfold compS; rw [List.length_map, numsF_len']; omega)]
def resCM (f : Int) (l : Lt) (g : List Mo) (ms : List Ma) (rest : Int) : Pt × Int := bif codeC f l g (marksB ms) != 0 then (dP, codeC f l g (marksB ms)) else bif okC rest then (bif (cfO l (numsF l g) ms 0 ms).2.2 then (dP, 5) else ((f, l, compS l g ms rest), 0)) else (dP, 2)
end Go.Proofs.YtfccacobkcglcaaGreat.X
