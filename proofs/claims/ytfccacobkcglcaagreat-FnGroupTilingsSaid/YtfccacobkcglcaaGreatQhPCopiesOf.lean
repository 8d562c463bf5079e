/- The plain law of CopiesOf: both sides give the images of the tile. -/
import Derived.Test.YtfccacobkcglcaaGreatQhPOrbitNumbers
import Derived.Test.YtfccacobkcglcaaGreatQzXRow
namespace Go.Proofs.YtfccacobkcglcaaGreat.X
open Go
set_option linter.unusedSimpArgs false
set_option linter.unusedVariables false
def resCp (f : Int) (l : Lt) (g : List Mo) (t : List Vc) : List (List Vc) × Int := bif codeT f l g t != 0 then ([], codeT f l g t) else (cpsS l g t, 0)
theorem specCp_eq (f : Int) (l : Lt) {g : List Mo} (hn : g.length ≤ 1048576) {t : List Vc} (ht : t.length ≤ 1048576) : f60G KK f l g t = some (resCp f l g t) := by
 unfold f60G resCp
 rw [l23Code_eq f l hn ht, oB]
 cases hc : codeT f l g t != 0
 ·have h0 : codeT f l g t = 0 := by simpa using hc
  rw [cF, cF, l23Copies_eq (codeT_0 h0), oB]
 ·rfl
theorem implCp_eq (f : Int) (l : Lt) {g : List Mo} (hn : g.length ≤ 1048576) {t : List Vc} (ht : t.length ≤ 1048576) : f59G KK f l g t = some (resCp f l g t) := by
 unfold f59G resCp
 rw [tileCode_eq f l hn ht, oB]
 cases hc : codeT f l g t != 0
 ·have h0 : codeT f l g t = 0 := by simpa using hc
  rw [cF, cF, copiesOf_eq (codeT_0 h0), oB]
 ·rfl
theorem resCp_len {f : Int} {l : Lt} {g : List Mo} {t : List Vc} : (resCp f l g t).1.length ≤ 1000 ∧ ∀ o ∈ (resCp f l g t).1, o.length ≤ 1000 := by
 unfold resCp
 cases hc : codeT f l g t != 0
 ·have h0 : codeT f l g t = 0 := by simpa using hc
  have hT := codeT_0 h0
  have h1 := hT.pr.len hT.la
  have h2 := hT.t2
  rw [cF]
  refine ⟨by simp only [cpsS_length]; omega, fun o ho => ?_⟩
  obtain ⟨m, _, rfl⟩ := List.mem_map.1 ho
  simp only [List.length_map]
  omega
 ·simp
end Go.Proofs.YtfccacobkcglcaaGreat.X
