/- Plain facts: numbers, lattices, motions and cells that a code draws. -/
import Derived.Test.YtfccacobkcglcaaGreatQeMR
namespace Go.Proofs.YtfccacobkcglcaaGreat.X
open Go
set_option linter.unusedSimpArgs false
set_option linter.unusedVariables false
/-- a source of numbers: the code, how far it is read, the seed -/
structure Src (c : List Int) (t : Int × Int) : Prop where
  by0 : ∀ i (h : i < c.length), 0 ≤ c[i] ∧ c[i] ≤ 255
  len : c.length ≤ 4096
  a0 : 0 ≤ t.1
  a1 : t.1 ≤ (c.length : Int)
  s0 : 0 ≤ t.2
  s1 : t.2 < 2147483647
end Go.Proofs.YtfccacobkcglcaaGreat.X
