/- The plain law of LeastUnit: both sides give the first cell of each orbit. -/
import Derived.Test.YtfccacobkcglcaaGreatQhPOrbitNumbers
namespace Go.Proofs.YtfccacobkcglcaaGreat.X
open Go
set_option linter.unusedSimpArgs false
set_option linter.unusedVariables false
def unitS (f : Int) (l : Lt) (g : List Mo) : List (List Vc) × Int :=
 bif codeC f l g true != 0 then ([], codeC f l g true) else bif (orbsS l g).any (fun o => decide (o.length < g.length)) then ([], 5) else bif decide ((orbsS l g).length > 16) then ([], 4) else (orbsS l g, 0)
theorem len16 (n : Nat) : decide ((n : Int) > 16) = decide (n > 16) := by
 by_cases h : n > 16
 ·rw [dT h, dT (by omega)]
 ·rw [dF h, dF (by omega)]
theorem lenlt (n m : Nat) : decide ((n : Int) < (m : Int)) = decide (n < m) := by
 by_cases h : n < m
 ·rw [dT h, dT (by omega)]
 ·rw [dF h, dF (by omega)]
theorem l23Free_eq (f : Int) (l : Lt) {g : List Mo} (hn : g.length ≤ 1048576) : f336G KK f l g = some (unitS f l g) := by
 unfold f336G f336_g unitS
 rw [specCode_eq f l hn, oB]
 cases h : codeC f l g true != 0
 ·have h0 : codeC f l g true = 0 := by simpa using h
  have hG := (codeC_0 h0).1
  have hO := orbs_len hG.la g
  rw [cF, cF, l07Orbits_eq hG, oB]
  have hh := iter_all (R := List (List Vc) × Int) (body := fun L x => f336_b4 KK f l g (codeC f l g true) (orbsS l g) (fun v0 => L v0) x) (orbsS l g) (fun q => (q : Int)) (fun o => !decide (o.length < g.length)) (some ([], 5)) (bif decide ((orbsS l g).length > 16) then some ([], 4) else some (orbsS l g, 0))
   (fun L q hq => by
    have hg : (orbsS l g).getD ((0 : Int) + (q : Int)).toNat [] = (orbsS l g)[q] := gd hq
    unfold f336_b4
    rw [in1 hq, in0, hg, lenlt, w_succ (by omega)]
    simp only [Bool.and_self, cT]
    cases decide (((orbsS l g)[q]).length < g.length) <;> rfl)
   (fun L => by
    unfold f336_b4
    rw [out1, cF, len16]) KK 0 (by omega) (by simp only [KK]; omega)
  refine Eq.trans hh ?_
  rw [List.drop_zero]
  have e : (orbsS l g).all (fun o => !decide (o.length < g.length)) = !(orbsS l g).any (fun o => decide (o.length < g.length)) := by
   rw [List.not_any_eq_all_not]
  rw [e]
  cases (orbsS l g).any (fun o => decide (o.length < g.length))
  ·rw [Bool.not_false, cT, cF]
   cases decide ((orbsS l g).length > 16) <;> rfl
  ·rfl
 ·rfl
def leastS (f : Int) (l : Lt) (g : List Mo) : List Vc × Int := bif (unitS f l g).2 != 0 then ([], (unitS f l g).2) else ((unitS f l g).1.map fun o => o.headD (0, 0), 0)
theorem unitS_0 {f : Int} {l : Lt} {g : List Mo} (h : (unitS f l g).2 = 0) : OrbG f l g ∧ (unitS f l g).1 = orbsS l g := by
 unfold unitS at h ⊢
 cases h1 : codeC f l g true != 0
 ·have h0 : codeC f l g true = 0 := by simpa using h1
  rw [h1, cF] at h
  rw [cF]
  refine ⟨(codeC_0 h0).1, ?_⟩
  cases h2 : (orbsS l g).any (fun o => decide (o.length < g.length))
  ·rw [h2, cF] at h
   rw [cF]
   cases h3 : decide ((orbsS l g).length > 16)
   ·rfl
   ·rw [h3, cT] at h; cases h
  ·rw [h2, cT] at h; cases h
 ·rw [h1, cT] at h
  have h : codeC f l g true = 0 := h
  rw [h] at h1
  cases h1
end Go.Proofs.YtfccacobkcglcaaGreat.X
