/- The plain law of OrbitOf: both sides give the images of the cell in order, each once. -/
import Derived.Test.YthlldmfkdcmcfaaGreatMK
import Derived.Test.YthlldmfkdcmcfaaGreatXRow
namespace Go.Proofs.YthlldmfkdcmcfaaGreat.X
open Go
set_option linter.unusedVariables false
theorem codeC_cell (l : Lt) (v : Vc) : ∃ b, f66G KK l v = some b ∧ ∀ f g, codeC f l g b = codeC f l g (cellB l v) := by
  by_cases h : okL l = true
  · exact ⟨_, l07Cell_eq (IsL_of h) v, fun _ _ => rfl⟩
  · obtain ⟨b, hb⟩ := l07Cell_some l v
    refine ⟨b, hb, fun f g => ?_⟩
    have : okL l = false := by simpa using h
    unfold codeC
    rw [this, Bool.and_false]
    rfl
def resOrb (f : Int) (l : Lt) (g : List Mo) (v : Vc) : List Vc × Int := bif codeC f l g (cellB l v) != 0 then ([], codeC f l g (cellB l v)) else (orbS l g v, 0)
theorem specOrb_eq (f : Int) (l : Lt) {g : List Mo} (hn : g.length ≤ 1048576) (v : Vc) : f37G KK f l g v = some (resOrb f l g v) := by
  obtain ⟨b, hb, hc⟩ := codeC_cell l v
  unfold f37G resOrb
  rw [hb, Option.bind_some, specCode_eq f l hn, Option.bind_some, hc]
  cases h : codeC f l g (cellB l v) != 0
  · have h0 : codeC f l g (cellB l v) = 0 := by simpa using h
    obtain ⟨hG, hv⟩ := codeC_0 h0
    rw [cond_false, cond_false, l07Orbit_eq hG.la (by have := hG.len; omega) hG.good (cellB_Sv hG.la hv), Option.bind_some]
  · rfl
theorem implOrb_eq (f : Int) (l : Lt) {g : List Mo} (hn : g.length ≤ 1048576) (v : Vc) : f38G KK f l g v = some (resOrb f l g v) := by
  unfold f38G resOrb
  rw [cellCode_eq f l hn (by simp), Option.bind_some, show [v].all (cellB l) = cellB l v by simp]
  cases h : codeC f l g (cellB l v) != 0
  · have h0 : codeC f l g (cellB l v) = 0 := by simpa using h
    obtain ⟨hG, hv⟩ := codeC_0 h0
    rw [cond_false, cond_false, orbitOf_eq hG.la (by have := hG.len; omega) hG.good (cellB_Sv hG.la hv), Option.bind_some]
  · rfl
theorem resOrb_len {f : Int} {l : Lt} {g : List Mo} {v : Vc} : (resOrb f l g v).1.length ≤ 1000 := by
  unfold resOrb
  cases h : codeC f l g (cellB l v) != 0
  · have h0 : codeC f l g (cellB l v) = 0 := by simpa using h
    have := (codeC_0 h0).1.len
    have := orbS_len l g v
    rw [cond_false]
    simp only
    omega
  · simp
theorem FnExactOrbitOf_pure (a0 : Int) (a1 : Int × Int × Int) (a2 : List ((Int × Int × Int × Int) × Int × Int)) (a3 : Int × Int) (h : WfA [(.int .i64), (.cons (.int .i64) (.cons (.int .i64) (.int .i64))), (.list 96 (.cons (.cons (.int .i64) (.cons (.int .i64) (.cons (.int .i64) (.int .i64)))) (.cons (.int .i64) (.int .i64)))), (.cons (.int .i64) (.int .i64))] (a0, a1, a2, a3, ())) : ∃ K, f6G K a0 a1 a2 a3 = some true := by
  refine ⟨KK, ?_⟩
  have hlen2 : a2.length ≤ maxLen := by
    simp only [WfA, Wf] at h
    exact h.2.2.1.1
  unfold f6G f13G f16G f19G
  by_cases hb : (a2.length : Int) ≤ 1048576
  · obtain ⟨e1, e2⟩ := sz_small (left := 1048576) (by omega) (by omega) hb
    rw [e1, cond_false, e2, Option.bind_some, decide_eq_false (by omega), cond_false]
    simp only [Option.bind_some]
    have h2 : a2.length ≤ 1048576 := by omega
    rw [toMotionS_eq h2]
    simp only [Option.bind_some]
    rw [specOrb_eq a0 a1 h2 a3, implOrb_eq a0 a1 h2 a3]
    have hr := resOrb_len (f := a0) (l := a1) (g := a2) (v := a3)
    obtain ⟨r1, ⟨m1, _⟩, hm1⟩ := markMotionS_gen a2 (k := 1) (by omega) (by omega) h2
    obtain ⟨r2, ⟨m2, m3, m4⟩, hm2⟩ := markVecS_gen (resOrb a0 a1 a2 a3).1 (k := 1) (by omega) (by omega) (by omega)
    have hh := heldVecS_gen r2.1 (k := 1) (by omega) (by omega) (by omega) (by rw [m3]; exact m4)
    rw [m3, ← m2] at hh
    simp only [Option.bind_some]
    rw [eqVecS_eq2 (by omega)]
    simp only [Option.bind_some, Bool.or_true, cond_true, Bool.not_true, bne_self_eq_false, cond_false]
    rw [eqMotionS_eq h2]
    simp only [Option.bind_some, Bool.or_true, cond_true, Bool.not_true, bne_self_eq_false, cond_false]
    rw [hm1, Option.bind_some, decide_eq_false (show ¬ r1.2 < 0 by omega), hm2]
    simp only [Option.bind_some, Bool.or_true, cond_true, Bool.not_true, Bool.not_false, bne_self_eq_false, cond_false]
    rw [hh, Option.bind_some, decide_eq_false (show ¬ r2.2 < 0 by omega)]
    simp only [bne_self_eq_false, cond_false]
    rw [Option.bind_some, decide_eq_false (show ¬ r2.2 < 0 by omega)]
    simp only [bne_self_eq_false, cond_false]
  · rw [sz_large (left := 1048576) (by omega) (by omega) hlen2 hb]
    rfl
end Go.Proofs.YthlldmfkdcmcfaaGreat.X
