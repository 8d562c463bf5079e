/- Plain facts: what motions generate is a group; patterns that a code draws. -/
import Derived.Test.YtniidcalfhhciaaGreatQfMZ
namespace Go.Proofs.YtniidcalfhhciaaGreat.X
open Go
set_option linter.unusedSimpArgs false
set_option linter.unusedVariables false
/-- a product of given motions -/
inductive Gn (l : Lt) (gs : List Mo) : Mo → Prop where
  | one : Gn l gs uMo
  | mul (m x : Mo) : m ∈ gs → Gn l gs x → Gn l gs (mulG l m x)
theorem Gn.ok {f : Int} {l : Lt} (hl : IsL l) {gs : List Mo} (hg : ∀ m ∈ gs, OkM f l m) {x : Mo} (h : Gn l gs x) : OkM f l x := by
  induction h with
  | one => exact uMo_ok hl
  | mul m x hm _ ih => exact mul_ok hl (hg m hm) ih
structure Cg (f : Int) (l : Lt) (gs out queue : List Mo) : Prop where
  cl : Cl f l out queue
  gen : ∀ x ∈ queue, Gn l gs x
/-! ### patterns -/
section
variable {c : List Int} {t0 : Int × Int} {f : Int} {l : Lt}
end
end Go.Proofs.YtniidcalfhhciaaGreat.X
