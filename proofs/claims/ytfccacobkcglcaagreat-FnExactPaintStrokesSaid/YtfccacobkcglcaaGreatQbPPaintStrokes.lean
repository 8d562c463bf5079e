/- The plain law of PaintStrokes: both sides give each cell the colour of the last stroke in its orbit. -/
import Derived.Test.YtfccacobkcglcaaGreatQbNT
namespace Go.Proofs.YtfccacobkcglcaaGreat.X
open Go
set_option linter.unusedSimpArgs false
set_option linter.unusedVariables false
def resPS (r : Sgr) (ms : List Ma) : Pt × Int := bif r.2.2.2 != 0 then (dP, r.2.2.2) else bif strB r.2.1 ms then ((r.1, r.2.1, paintG r.2.1 r.2.2.1 ms), 0) else (dP, 2)
theorem specPS_eq {a : ByteArray} {n : Int} {r : Sgr} (hr : Std a n r) {ms : List Ma} (hm : ms.length ≤ 1048576) : f20G KK a n ms = some (resPS r ms) := by
  unfold f20G resPS
  rw [l27Canvas_eq hr, Option.bind_some]
  cases hc : r.2.2.2 != 0
  · have h0 : r.2.2.2 = 0 := by simpa using hc
    have hG := hr.orb h0
    have e : (r.2.2.2 == 0) = true := by simpa using h0
    simp only [e, Bool.not_true, Bool.or_true, cond_true, cond_false]
    rw [l27Strokes_eq hG.la hm, Option.bind_some]
    cases hb : strB r.2.1 ms
    · rfl
    · obtain ⟨hv, hl, _⟩ := str_in hb
      simp only [Bool.not_true, cond_true, cond_false]
      rw [l27Paint_eq hG hv (by omega), Option.bind_some]
      try rfl
  · have e : (r.2.2.2 == 0) = false := by simpa using hc
    simp only [e, Bool.not_false, Bool.or_true, cond_true, cond_false, Option.bind_some]
    first | done | rfl
theorem implPS_eq {a : ByteArray} {n : Int} {r : Sgr} (hr : Std a n r) (ms : List Ma) : f21G KK a n ms = some (resPS r ms) := by
  unfold f21G resPS
  rw [canvas_eq hr.im hr.ok (by simp), Option.bind_some, cvB_code]
  cases hc : r.2.2.2 != 0
  · have h0 : r.2.2.2 = 0 := by simpa using hc
    have hG := hr.orb h0
    simp only [cond_false, List.all_cons, List.all_nil, Bool.and_true]
    cases hb : strB r.2.1 ms
    · rfl
    · obtain ⟨hv, hl, _⟩ := str_in hb
      have e : cvB r [ms] = r := cvB_ok h0 (by simp [hb])
      rw [e]
      show (f120G KK r.1 r.2.1 r.2.2.1 ms).bind _ = _
      rw [paint_eq hG hv (by omega), Option.bind_some]
      rfl
  · simp only [cond_true, hc]
    rfl
theorem resPS_len {a : ByteArray} {n : Int} {r : Sgr} (hr : Std a n r) {ms : List Ma} : (resPS r ms).1.2.2.length ≤ 1000 := by
  unfold resPS
  cases hc : r.2.2.2 != 0
  · have h0 : r.2.2.2 = 0 := by simpa using hc
    have := cellsS_le (hr.orb h0).la
    have := paintG_len r.2.1 r.2.2.1 ms
    rw [cond_false]
    cases strB r.2.1 ms
    · simp [dP]
    · simp only [cond_true]
      omega
  · simp [dP]
theorem FnExactPaintStrokes_pure (a0 : ByteArray) (a1 : Int) (a2 : List ((Int × Int) × Int)) (h : WfA [.str, (.int .i64), (.list 152 (.cons (.cons (.int .i64) (.int .i64)) (.int .i64)))] (a0, a1, a2, ())) : ∃ K, f4G K a0 a1 a2 = some true := by
  refine ⟨KK, ?_⟩
  have hlen2 : a2.length ≤ maxLen := by
    simp only [WfA, Wf] at h
    exact h.2.2.1.1
  obtain ⟨r, hr⟩ := std_get a0 a1
  unfold f4G f15G
  by_cases h0 : (a0.size : Int) > 1048576
  · rw [decide_eq_true h0, cond_true]
  · rw [decide_eq_false h0, cond_false]
    by_cases hb : (a2.length : Int) ≤ 1048576
    · obtain ⟨e1, e2⟩ := sz_small (left := 1048576) (by omega) (by omega) hb
      rw [e1, cond_false, e2, Option.bind_some, decide_eq_false (by omega), cond_false]
      have h2 : a2.length ≤ 1048576 := by omega
      rw [toStrokeS_eq h2]
      simp only [Option.bind_some]
      rw [specPS_eq hr h2, implPS_eq hr a2]
      have hl := resPS_len hr (ms := a2)
      obtain ⟨r1, ⟨m1, _⟩, hm1⟩ := markStrokeS_gen a2 (k := 1) (by omega) (by omega) h2
      obtain ⟨r3, ⟨m3, m4, m5⟩, hm3⟩ := markInt64S_gen (resPS r a2).1.2.2 (k := 1) (by omega) (by omega) (by omega)
      have hh := heldInt64S_gen r3.1 (k := 1) (by omega) (by omega) (by omega) (by rw [m4]; exact m5)
      have hmp : f24G KK (resPS r a2).1 1 = some (((resPS r a2).1.1, (resPS r a2).1.2.1, r3.1), r3.2) := by
        unfold f24G
        rw [hm3]
        rfl
      have hhp : f25G KK ((resPS r a2).1.1, (resPS r a2).1.2.1, r3.1) 1 = some r3.2 := by
        unfold f25G
        simp only
        rw [hh, Option.bind_some, decide_eq_false (by omega), cond_false, m3, m4]
      simp only [Option.bind_some]
      rw [eqPattern_eq (by omega)]
      simp only [Option.bind_some, Bool.or_true, cond_true, Bool.not_true, bne_self_eq_false, cond_false]
      rw [eqStrokeS_eq h2]
      simp only [Option.bind_some, Bool.or_true, cond_true, Bool.not_true, bne_self_eq_false, cond_false]
      rw [hm1, Option.bind_some, decide_eq_false (show ¬ r1.2 < 0 by omega), hmp]
      simp only [Option.bind_some, Bool.or_true, cond_true, Bool.not_true, Bool.not_false, bne_self_eq_false, cond_false]
      rw [hhp, Option.bind_some, decide_eq_false (show ¬ r3.2 < 0 by omega)]
      simp only [bne_self_eq_false, cond_false]
      rw [Option.bind_some, decide_eq_false (show ¬ r3.2 < 0 by omega)]
      simp only [bne_self_eq_false, cond_false]
    · rw [sz_large (left := 1048576) (by omega) (by omega) hlen2 hb]
      rfl
end Go.Proofs.YtfccacobkcglcaaGreat.X
