/- The plain law of TwoColourPattern: both sides mark the group's orbit with 2, and then the half's with 1. -/
import Derived.Test.YthlpehmnjanmnaaGreatDoorQsPOrbitNumbers
namespace Go.Proofs.YthlpehmnjanmnaaGreatDoor.X
open Go
set_option linter.unusedSimpArgs false
set_option linter.unusedVariables false
theorem containsMo_eq {l : List Mo} (hn : l.length ≤ 1000) (m : Mo) : f28G KK l m = some (l.contains m) := by
 have hidx : f68G KK l m = some (idxS (fun a => m == a) 0 l) := by
  have h := iter_idx (R := Int) (body := fun L x => f68_b2 KK l m (fun v0 => L v0) x) l (fun a => m == a) some
   (fun L q hq => by
    unfold f68_b2
    rw [in1 hq, in0, gd hq]
    simp only [aS, cT]
    rw [eqMo, w_succ (by omega)])
   (fun L => by
    unfold f68_b2
    rw [out1, cF]) KK 0 (by omega) (by have := KKlt (n := l.length) (by omega); omega)
  unfold f68G f68_g f68_l2
  exact h
 unfold f28G
 rw [hidx, oB, idxS_any]
 congr 1
 rw [List.contains_eq_any_beq]
def halfB (f : Int) (l : Lt) (g s : List Mo) (v : Vc) : Bool := cellB l v && (grpB f l s && ((2 * s.length == g.length) && s.all g.contains))
def codeH (f : Int) (l : Lt) (g s : List Mo) (v : Vc) : Int := bif codeC f l g true != 0 then codeC f l g true else bif halfB f l g s v then (bif decide (48 < g.length) then 3 else 0) else 2
def twoS (l : Lt) (g s : List Mo) (v : Vc) : List Int := setAll l 1 (orbS l s v) (setAll l 2 (orbS l g v) (List.replicate (cellsS l).length 0))
def resTC (f : Int) (l : Lt) (g s : List Mo) (v : Vc) : Pt × Int := bif codeH f l g s v != 0 then (dP, codeH f l g s v) else bif decide ((orbS l s v).length < (orbS l g v).length) then ((f, l, twoS l g s v), 0) else (dP, 5)
end Go.Proofs.YthlpehmnjanmnaaGreatDoor.X
