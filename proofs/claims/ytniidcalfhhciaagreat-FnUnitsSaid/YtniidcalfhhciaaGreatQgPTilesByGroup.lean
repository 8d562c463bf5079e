/- The plain law of TilesByGroup: both sides say whether each cell is in one copy. -/
import Derived.Test.YtniidcalfhhciaaGreatQgMG
import Derived.Test.YtniidcalfhhciaaGreatQzXRow
namespace Go.Proofs.YtniidcalfhhciaaGreat.X
open Go
set_option linter.unusedSimpArgs false
set_option linter.unusedVariables false
def resTi (f : Int) (l : Lt) (g : List Mo) (t : List Vc) : Bool × Int := bif codeT f l g t != 0 then (false, codeT f l g t) else (decide (tilesP l g t), 0)
theorem implTiles_eq (f : Int) (l : Lt) {g : List Mo} (hn : g.length ≤ 1048576) {t : List Vc} (ht : t.length ≤ 1048576) : f39G KK f l g t = some (resTi f l g t) := by
 unfold f39G resTi
 rw [tileCode_eq f l hn ht, Option.bind_some]
 cases hc : codeT f l g t != 0
 ·have h0 : codeT f l g t = 0 := by simpa using hc
  rw [cond_false, cond_false, tilesByGroup_eq (codeT_0 h0), Option.bind_some]
 ·rfl
end Go.Proofs.YtniidcalfhhciaaGreat.X
