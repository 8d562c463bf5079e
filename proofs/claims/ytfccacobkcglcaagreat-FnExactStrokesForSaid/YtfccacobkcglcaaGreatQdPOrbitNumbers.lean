/- The plain law of OrbitNumbers: both sides number the cells by their orbit. -/
import Derived.Test.YtfccacobkcglcaaGreatQdPSeedPattern
namespace Go.Proofs.YtfccacobkcglcaaGreat.X
open Go
set_option linter.unusedSimpArgs false
set_option linter.unusedVariables false
theorem orbs_len {l : Lt} (hl : IsL l) (g : List Mo) : (orbsS l g).length ≤ 64 := by
  unfold orbsS repsS
  rw [List.length_map]
  exact Nat.le_trans (List.length_filter_le _ _) (cellsS_le hl)
def resON (f : Int) (l : Lt) (g : List Mo) : List Int × Int := bif codeC f l g true != 0 then ([], codeC f l g true) else (numsF l g, 0)
end Go.Proofs.YtfccacobkcglcaaGreat.X
