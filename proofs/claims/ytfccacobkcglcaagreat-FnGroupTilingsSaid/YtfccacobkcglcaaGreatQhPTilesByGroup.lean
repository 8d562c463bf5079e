/- The plain law of TilesByGroup: both sides say whether each cell is in one copy. -/
import Derived.Test.YtfccacobkcglcaaGreatQhME
import Derived.Test.YtfccacobkcglcaaGreatQzXRow
namespace Go.Proofs.YtfccacobkcglcaaGreat.X
open Go
set_option linter.unusedSimpArgs false
set_option linter.unusedVariables false
def resTi (f : Int) (l : Lt) (g : List Mo) (t : List Vc) : Bool × Int := bif codeT f l g t != 0 then (false, codeT f l g t) else (decide (tilesP l g t), 0)
theorem implTiles_eq (f : Int) (l : Lt) {g : List Mo} (hn : g.length ≤ 1048576) {t : List Vc} (ht : t.length ≤ 1048576) : f61G KK f l g t = some (resTi f l g t) := by
 unfold f61G resTi
 rw [tileCode_eq f l hn ht, oB]
 cases hc : codeT f l g t != 0
 ·have h0 : codeT f l g t = 0 := by simpa using hc
  rw [cF, cF, tilesByGroup_eq (codeT_0 h0), oB]
 ·rfl
theorem specTiles_eq (f : Int) (l : Lt) {g : List Mo} (hn : g.length ≤ 1048576) {t : List Vc} (ht : t.length ≤ 1048576) : f62G KK f l g t = some (resTi f l g t) := by
 unfold f62G resTi
 rw [l23Code_eq f l hn ht, oB]
 cases hc : codeT f l g t != 0
 ·have h0 : codeT f l g t = 0 := by simpa using hc
  obtain ⟨o, ho, _⟩ := owners_eq (codeT_0 h0)
  rw [cF, cF, ho, oB]
 ·rfl
end Go.Proofs.YtfccacobkcglcaaGreat.X
