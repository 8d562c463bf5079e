/- The plain law of SeedPattern: both sides mark the cells of the orbit. -/
import Derived.Test.YtniidcalfhhciaaGreatQePOrbitOf
import Derived.Test.YtniidcalfhhciaaGreatQeMN
namespace Go.Proofs.YtniidcalfhhciaaGreat.X
open Go
set_option linter.unusedSimpArgs false
set_option linter.unusedVariables false
def seedS (l : Lt) (o : List Vc) : List Int := setAll l 1 o (List.replicate (cellsS l).length 0)
theorem seedS_len (l : Lt) (o : List Vc) : (seedS l o).length = (cellsS l).length := by unfold seedS; rw [setAll_len]; simp
theorem make_ok {l : Lt} (hl : IsL l) : (decide (0 ≤ w (l.1 * l.2.2)) && Nat.ble (w (l.1 * l.2.2)).toNat (lim 8) && (w (l.1 * l.2.2) == w (l.1 * l.2.2))) = true ∧ (w (l.1 * l.2.2)).toNat = (cellsS l).length := by
  have hN := cellsS_le hl
  rw [len_eq hl]
  have e5 : (((cellsS l).length : Nat) : Int).toNat = (cellsS l).length := by omega
  rw [e5, in0, blim8 (by omega)]
  simp
def resSP (f : Int) (l : Lt) (g : List Mo) (v : Vc) : Pt × Int := bif codeC f l g (cellB l v) != 0 then ((0, (0, 0, 0), []), codeC f l g (cellB l v)) else ((f, l, seedS l (orbS l g v)), 0)
theorem resSP_len {f : Int} {l : Lt} {g : List Mo} {v : Vc} : (resSP f l g v).1.2.2.length ≤ 1000 := by
  unfold resSP
  cases h : codeC f l g (cellB l v) != 0
  · have h0 : codeC f l g (cellB l v) = 0 := by simpa using h
    have := cellsS_le (codeC_0 h0).1.la
    have := seedS_len l (orbS l g v)
    rw [cond_false]
    simp only
    omega
  · simp
end Go.Proofs.YtniidcalfhhciaaGreat.X
