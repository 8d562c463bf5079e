/- The plain law of SeedPattern: both sides mark the cells of the orbit. -/
import Derived.Test.YtfccacobkcglcaaGreatQePOrbitOf
import Derived.Test.YtfccacobkcglcaaGreatQeMN
namespace Go.Proofs.YtfccacobkcglcaaGreat.X
open Go
set_option linter.unusedSimpArgs false
set_option linter.unusedVariables false
def seedS (l : Lt) (o : List Vc) : List Int := setAll l 1 o (List.replicate (cellsS l).length 0)
theorem make_ok {l : Lt} (hl : IsL l) : (decide (0 ≤ w (l.1 * l.2.2)) && Nat.ble (w (l.1 * l.2.2)).toNat (lim 8) && (w (l.1 * l.2.2) == w (l.1 * l.2.2))) = true ∧ (w (l.1 * l.2.2)).toNat = (cellsS l).length := by
  have hN := cellsS_le hl
  rw [len_eq hl]
  have e5 : (((cellsS l).length : Nat) : Int).toNat = (cellsS l).length := by omega
  rw [e5, in0, blim8 (by omega)]
  simp
def resSP (f : Int) (l : Lt) (g : List Mo) (v : Vc) : Pt × Int := bif codeC f l g (cellB l v) != 0 then ((0, (0, 0, 0), []), codeC f l g (cellB l v)) else ((f, l, seedS l (orbS l g v)), 0)
end Go.Proofs.YtfccacobkcglcaaGreat.X
