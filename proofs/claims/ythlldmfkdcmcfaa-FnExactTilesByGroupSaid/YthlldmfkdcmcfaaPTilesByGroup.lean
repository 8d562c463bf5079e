/- The plain law of TilesByGroup: both sides say whether each cell is in one copy. -/
import Derived.Test.YthlldmfkdcmcfaaMG
import Derived.Test.YthlldmfkdcmcfaaXRow
namespace Go.Proofs.Ythlldmfkdcmcfaa.X
open Go
set_option linter.unusedVariables false
def resTi (f : Int) (l : Lt) (g : List Mo) (t : List Vc) : Bool × Int := bif codeT f l g t != 0 then (false, codeT f l g t) else (decide (tilesP l g t), 0)
theorem implTiles_eq (f : Int) (l : Lt) {g : List Mo} (hn : g.length ≤ 1048576) {t : List Vc} (ht : t.length ≤ 1048576) : f11G KK f l g t = some (resTi f l g t) := by
  unfold f11G resTi
  rw [tileCode_eq f l hn ht, Option.bind_some]
  cases hc : codeT f l g t != 0
  · have h0 : codeT f l g t = 0 := by simpa using hc
    rw [cond_false, cond_false, tilesByGroup_eq (codeT_0 h0), Option.bind_some]
  · rfl
theorem specTiles_eq (f : Int) (l : Lt) {g : List Mo} (hn : g.length ≤ 1048576) {t : List Vc} (ht : t.length ≤ 1048576) : f7G KK f l g t = some (resTi f l g t) := by
  unfold f7G resTi
  rw [l23Code_eq f l hn ht, Option.bind_some]
  cases hc : codeT f l g t != 0
  · have h0 : codeT f l g t = 0 := by simpa using hc
    obtain ⟨o, ho, _⟩ := owners_eq (codeT_0 h0)
    rw [cond_false, cond_false, ho, Option.bind_some]
  · rfl
theorem FnExactTilesByGroup_pure (a0 : Int) (a1 : Int × Int × Int) (a2 : List ((Int × Int × Int × Int) × Int × Int)) (a3 : List (Int × Int)) (h : WfA [(.int .i64), (.cons (.int .i64) (.cons (.int .i64) (.int .i64))), (.list 62 (.cons (.cons (.int .i64) (.cons (.int .i64) (.cons (.int .i64) (.int .i64)))) (.cons (.int .i64) (.int .i64)))), (.list 60 (.cons (.int .i64) (.int .i64)))] (a0, a1, a2, a3, ())) : ∃ K, f3G K a0 a1 a2 a3 = some true := by
  refine ⟨KK, ?_⟩
  have hlen2 : a2.length ≤ maxLen := by
    simp only [WfA, Wf] at h
    exact h.2.2.1.1
  have hlen3 : a3.length ≤ maxLen := by
    simp only [WfA, Wf] at h
    exact h.2.2.2.1.1
  unfold f3G f5G f6G f8G
  by_cases hb : (a2.length : Int) ≤ 1048576
  · obtain ⟨e1, e2⟩ := sz_small (left := 1048576) (by omega) (by omega) hb
    rw [e1, cond_false, e2, Option.bind_some, decide_eq_false (by omega), cond_false]
    by_cases hb3 : (a3.length : Int) ≤ 1048576 - (a2.length : Int)
    · obtain ⟨e3, e4⟩ := sz_small (left := 1048576 - (a2.length : Int)) (by omega) (by omega) hb3
      rw [e3, cond_false, e4, Option.bind_some, decide_eq_false (by omega), cond_false]
      simp only [Option.bind_some]
      have h2 : a2.length ≤ 1048576 := by omega
      have h3 : a3.length ≤ 1048576 := by omega
      rw [toMotionS_eq h2, toVecS_eq h3]
      simp only [Option.bind_some]
      rw [specTiles_eq a0 a1 h2 h3, implTiles_eq a0 a1 h2 h3]
      simp only [Option.bind_some, Bool.or_true, cond_true, bne_self_eq_false, cond_false]
      rw [eqMotionS_eq h2, eqVecS_eq2 h3]
      rfl
    · rw [sz_large (left := 1048576 - (a2.length : Int)) (by omega) (by omega) hlen3 hb3]
      rfl
  · rw [sz_large (left := 1048576) (by omega) (by omega) hlen2 hb]
    rfl
end Go.Proofs.Ythlldmfkdcmcfaa.X
