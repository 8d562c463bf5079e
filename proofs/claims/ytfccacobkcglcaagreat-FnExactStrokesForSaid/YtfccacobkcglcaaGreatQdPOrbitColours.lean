/- The plain law of OrbitColours: both sides give the colour of the first cell of each orbit. -/
import Derived.Test.YtfccacobkcglcaaGreatQdPOrbitNumbers
import Derived.Test.YtfccacobkcglcaaGreatQdMR
namespace Go.Proofs.YtfccacobkcglcaaGreat.X
open Go
set_option linter.unusedSimpArgs false
set_option linter.unusedVariables false
def colS (p : Pt) (g : List Mo) : List Int := (orbsS p.2.1 g).map fun o => atS p (o.headD (0, 0))
def resOC (p : Pt) (g : List Mo) : List Int × Int := bif codeK p g != 0 then ([], codeK p g) else bif keptS p g then (colS p g, 0) else ([], 5)
theorem szPat_eq {p : Pt} (h : (p.2.2.length : Int) ≤ 1048576) : f29G KK p 1048576 = some (1048576 - (p.2.2.length : Int)) := by
  obtain ⟨e1, e2⟩ := sz_small (left := 1048576) (by omega) (by omega) h
  unfold f29G f132G
  rw [e1, cond_false, e2, Option.bind_some, decide_eq_false (by omega), cond_false]
theorem szPat_big {p : Pt} (hm : p.2.2.length ≤ maxLen) (h : ¬ (p.2.2.length : Int) ≤ 1048576) : f29G KK p 1048576 = some (-1) := by
  unfold f29G f132G
  rw [sz_large (left := 1048576) (by omega) (by omega) hm h]
  rfl
theorem markPat_gen (p : Pt) {k : Int} (hk : 0 ≤ k) (hk2 : k ≤ 1000000000) (h : p.2.2.length ≤ 1048576) : ∃ r : Pt × Int, (r.2 = k + (p.2.2.length : Int)) ∧ f24G KK p k = some r := by
  obtain ⟨r, ⟨m1, _⟩, hm⟩ := markInt64S_gen p.2.2 hk hk2 h
  unfold f24G
  rw [hm]
  exact ⟨((p.1, p.2.1, r.1), r.2), m1, rfl⟩
end Go.Proofs.YtfccacobkcglcaaGreat.X
