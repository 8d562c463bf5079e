/- The plain law of PaintStrokes: both sides give each cell the colour of the last stroke in its orbit. -/
import Derived.Test.YtfccacobkcglcaaGreatQfNT
namespace Go.Proofs.YtfccacobkcglcaaGreat.X
open Go
set_option linter.unusedSimpArgs false
set_option linter.unusedVariables false
def resPS (r : Sgr) (ms : List Ma) : Pt × Int := bif r.2.2.2 != 0 then (dP, r.2.2.2) else bif strB r.2.1 ms then ((r.1, r.2.1, paintG r.2.1 r.2.2.1 ms), 0) else (dP, 2)
theorem specPS_eq {a : ByteArray} {n : Int} {r : Sgr} (hr : Std a n r) {ms : List Ma} (hm : ms.length ≤ 1048576) : f20G KK a n ms = some (resPS r ms) := by
 unfold f20G resPS
 rw [l27Canvas_eq hr, Option.bind_some]
 cases hc : r.2.2.2 != 0
 ·have h0 : r.2.2.2 = 0 := by simpa using hc
  have hG := hr.orb h0
  have e : (r.2.2.2 == 0) = true := by simpa using h0
  simp only [e, Bool.not_true, Bool.or_true, cond_true, cond_false]
  rw [l27Strokes_eq hG.la hm, Option.bind_some]
  cases hb : strB r.2.1 ms
  ·rfl
  ·obtain ⟨hv, hl, _⟩ := str_in hb
   simp only [Bool.not_true, cond_true, cond_false]
   rw [l27Paint_eq hG hv (by omega), Option.bind_some]
   try rfl
 ·have e : (r.2.2.2 == 0) = false := by simpa using hc
  simp only [e, Bool.not_false, Bool.or_true, cond_true, cond_false, Option.bind_some]
  first | done | rfl
theorem implPS_eq {a : ByteArray} {n : Int} {r : Sgr} (hr : Std a n r) (ms : List Ma) : f21G KK a n ms = some (resPS r ms) := by
 unfold f21G resPS
 rw [canvas_eq hr.im hr.ok (by simp), Option.bind_some, cvB_code]
 cases hc : r.2.2.2 != 0
 ·have h0 : r.2.2.2 = 0 := by simpa using hc
  have hG := hr.orb h0
  simp only [cond_false, List.all_cons, List.all_nil, Bool.and_true]
  cases hb : strB r.2.1 ms
  ·rfl
  ·obtain ⟨hv, hl, _⟩ := str_in hb
   have e : cvB r [ms] = r := cvB_ok h0 (by simp [hb])
   rw [e]
   show (f120G KK r.1 r.2.1 r.2.2.1 ms).bind _ = _
   rw [paint_eq hG hv (by omega), Option.bind_some]
   rfl
 ·simp only [cond_true, hc]
  rfl
theorem resPS_len {a : ByteArray} {n : Int} {r : Sgr} (hr : Std a n r) {ms : List Ma} : (resPS r ms).1.2.2.length ≤ 1000 := by
 unfold resPS
 cases hc : r.2.2.2 != 0
 ·have h0 : r.2.2.2 = 0 := by simpa using hc
  have := cellsS_le (hr.orb h0).la
  have := paintG_len r.2.1 r.2.2.1 ms
  rw [cond_false]
  cases strB r.2.1 ms
  ·simp [dP]
  ·simp only [cond_true]
   omega
 ·simp [dP]
end Go.Proofs.YtfccacobkcglcaaGreat.X
