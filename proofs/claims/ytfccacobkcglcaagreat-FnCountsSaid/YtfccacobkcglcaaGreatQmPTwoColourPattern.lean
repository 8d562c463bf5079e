/- The plain law of TwoColourPattern: both sides mark the group's orbit with 2, and then the half's with 1. -/
import Derived.Test.YtfccacobkcglcaaGreatQmPOrbitNumbers
namespace Go.Proofs.YtfccacobkcglcaaGreat.X
open Go
set_option linter.unusedSimpArgs false
set_option linter.unusedVariables false
theorem containsFuncMo_eq {s : List Mo} (hs : s.length ≤ 1000) (φ : Mo → Option Bool) (p : Mo → Bool) (hp : ∀ v ∈ s, φ v = some (p v)) : f234G KK s φ = some (s.any p) := by
 have h := iter_idx (R := Int) (body := fun L x => f319_b3 KK s φ (fun v0 => L v0) x) s p some
  (fun L q hq => by
   unfold f319_b3
   rw [in1 hq, in0, gd hq]
   simp only [Bool.and_self, cond_true]
   rw [show φ ((s[q].1.1, s[q].1.2.1, s[q].1.2.2), s[q].2) = some (p s[q]) from hp _ (List.getElem_mem hq), Option.bind_some, w_succ (by omega)])
  (fun L => by
   unfold f319_b3
   rw [out1, cond_false]) KK 0 (by omega) (by have := KKlt (n := s.length) (by omega); omega)
 unfold f234G f319G f319_g f319_l3
 have h2 := congrArg (fun x => x.bind fun y1 => some (decide (y1 ≥ (0 : Int)))) h
 refine Eq.trans h2 ?_
 simp only [Option.bind_some]
 rw [List.drop_zero, idxS_any]
def halfB (f : Int) (l : Lt) (g s : List Mo) (v : Vc) : Bool := cellB l v && (grpB f l s && ((2 * s.length == g.length) && s.all g.contains))
def codeH (f : Int) (l : Lt) (g s : List Mo) (v : Vc) : Int := bif codeC f l g true != 0 then codeC f l g true else bif halfB f l g s v then (bif decide (48 < g.length) then 3 else 0) else 2
theorem l06Code_C (f : Int) (l : Lt) (b : Bool) : f225G KK f l b = some (if okF f && okL l then (if b then 0 else 2) else 1) := by
 unfold f225G
 rw [l04Code_eq, Option.bind_some]
 cases okF f && okL l <;> cases b <;> rfl
def twoS (l : Lt) (g s : List Mo) (v : Vc) : List Int := setAll l 1 (orbS l s v) (setAll l 2 (orbS l g v) (List.replicate (cellsS l).length 0))
def resTC (f : Int) (l : Lt) (g s : List Mo) (v : Vc) : Pt × Int := bif codeH f l g s v != 0 then (dP, codeH f l g s v) else bif decide ((orbS l s v).length < (orbS l g v).length) then ((f, l, twoS l g s v), 0) else (dP, 5)
end Go.Proofs.YtfccacobkcglcaaGreat.X
