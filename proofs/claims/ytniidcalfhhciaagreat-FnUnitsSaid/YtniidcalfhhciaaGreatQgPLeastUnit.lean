/- The plain law of LeastUnit: both sides give the first cell of each orbit. -/
import Derived.Test.YtniidcalfhhciaaGreatQgPOrbitNumbers
import Derived.Test.YtniidcalfhhciaaGreatQgMR
namespace Go.Proofs.YtniidcalfhhciaaGreat.X
open Go
set_option linter.unusedSimpArgs false
set_option linter.unusedVariables false
def unitS (f : Int) (l : Lt) (g : List Mo) : List (List Vc) × Int :=
 bif codeC f l g true != 0 then ([], codeC f l g true) else bif (orbsS l g).any (fun o => decide (o.length < g.length)) then ([], 5) else bif decide ((orbsS l g).length > 16) then ([], 4) else (orbsS l g, 0)
theorem len16 (n : Nat) : decide ((n : Int) > 16) = decide (n > 16) := by
 by_cases h : n > 16
 ·rw [decide_eq_true h, decide_eq_true (by omega)]
 ·rw [decide_eq_false h, decide_eq_false (by omega)]
theorem lenlt (n m : Nat) : decide ((n : Int) < (m : Int)) = decide (n < m) := by
 by_cases h : n < m
 ·rw [decide_eq_true h, decide_eq_true (by omega)]
 ·rw [decide_eq_false h, decide_eq_false (by omega)]
theorem containsOrb_eq {s : List (List Vc)} (hs : s.length ≤ 1000) (φ : List Vc → Option Bool) (p : List Vc → Bool) (hp : ∀ v ∈ s, φ v = some (p v)) : f313G KK s φ = some (s.any p) := by
 have h := iter_idx (R := Int) (body := fun L x => f322_b3 KK s φ (fun v0 => L v0) x) s p some
  (fun L q hq => by
   have hg : s.getD ((0 : Int) + (q : Int)).toNat [] = s[q] := gd hq
   unfold f322_b3
   rw [in1 hq, in0, hg]
   simp only [Bool.and_self, cond_true]
   rw [hp _ (List.getElem_mem hq), Option.bind_some, w_succ (by omega)])
  (fun L => by
   unfold f322_b3
   rw [out1, cond_false]) KK 0 (by omega) (by have := KKlt (n := s.length) (by omega); omega)
 unfold f313G f322G f322_g f322_l3
 have h2 := congrArg (fun x => x.bind fun y1 => some (decide (y1 ≥ (0 : Int)))) h
 refine Eq.trans h2 ?_
 simp only [Option.bind_some]
 rw [List.drop_zero, idxS_any]
theorem unitCode_eq (f : Int) (l : Lt) {g : List Mo} (hn : g.length ≤ 1048576) : f224G KK f l g = some (unitS f l g) := by
 unfold f224G unitS
 rw [groupCode_eq f l hn, Option.bind_some, codeG_C]
 cases h : codeC f l g true != 0
 ·have h0 : codeC f l g true = 0 := by simpa using h
  have hG := (codeC_0 h0).1
  have hO := orbs_len hG.la g
  rw [cond_false, cond_false, orbitsOf_eq hG, Option.bind_some]
  simp only
  rw [containsOrb_eq (by omega) _ (fun o => decide (o.length < g.length)) (fun o _ => by unfold f314G; rw [lenlt]), Option.bind_some, len16]
  cases (orbsS l g).any (fun o => decide (o.length < g.length))
  ·rw [cond_false, cond_false]
   cases decide ((orbsS l g).length > 16) <;> rfl
  ·rfl
 ·rfl
theorem l23Free_eq (f : Int) (l : Lt) {g : List Mo} (hn : g.length ≤ 1048576) : f234G KK f l g = some (unitS f l g) := by
 unfold f234G f234_g unitS
 rw [specCode_eq f l hn, Option.bind_some]
 cases h : codeC f l g true != 0
 ·have h0 : codeC f l g true = 0 := by simpa using h
  have hG := (codeC_0 h0).1
  have hO := orbs_len hG.la g
  rw [cond_false, cond_false, l07Orbits_eq hG, Option.bind_some]
  have hh := iter_all (R := List (List Vc) × Int) (body := fun L x => f234_b4 KK f l g (codeC f l g true) (orbsS l g) (fun v0 => L v0) x) (orbsS l g) (fun q => (q : Int)) (fun o => !decide (o.length < g.length)) (some ([], 5)) (bif decide ((orbsS l g).length > 16) then some ([], 4) else some (orbsS l g, 0))
   (fun L q hq => by
    have hg : (orbsS l g).getD ((0 : Int) + (q : Int)).toNat [] = (orbsS l g)[q] := gd hq
    unfold f234_b4
    rw [in1 hq, in0, hg, lenlt, w_succ (by omega)]
    simp only [Bool.and_self, cond_true]
    cases decide (((orbsS l g)[q]).length < g.length) <;> rfl)
   (fun L => by
    unfold f234_b4
    rw [out1, cond_false, len16]) KK 0 (by omega) (by simp only [KK]; omega)
  refine Eq.trans hh ?_
  rw [List.drop_zero]
  have e : (orbsS l g).all (fun o => !decide (o.length < g.length)) = !(orbsS l g).any (fun o => decide (o.length < g.length)) := by
   rw [List.not_any_eq_all_not]
  rw [e]
  cases (orbsS l g).any (fun o => decide (o.length < g.length))
  ·rw [Bool.not_false, cond_true, cond_false]
   cases decide ((orbsS l g).length > 16) <;> rfl
  ·rfl
 ·rfl
def leastS (f : Int) (l : Lt) (g : List Mo) : List Vc × Int := bif (unitS f l g).2 != 0 then ([], (unitS f l g).2) else ((unitS f l g).1.map fun o => o.headD (0, 0), 0)
theorem unitS_0 {f : Int} {l : Lt} {g : List Mo} (h : (unitS f l g).2 = 0) : OrbG f l g ∧ (unitS f l g).1 = orbsS l g := by
 unfold unitS at h ⊢
 cases h1 : codeC f l g true != 0
 ·have h0 : codeC f l g true = 0 := by simpa using h1
  rw [h1, cond_false] at h
  rw [cond_false]
  refine ⟨(codeC_0 h0).1, ?_⟩
  cases h2 : (orbsS l g).any (fun o => decide (o.length < g.length))
  ·rw [h2, cond_false] at h
   rw [cond_false]
   cases h3 : decide ((orbsS l g).length > 16)
   ·rfl
   ·rw [h3, cond_true] at h; cases h
  ·rw [h2, cond_true] at h; cases h
 ·rw [h1, cond_true] at h
  have h : codeC f l g true = 0 := h
  rw [h] at h1
  cases h1
theorem first_loop {f : Int} {l : Lt} {g : List Mo} (h : OrbG f l g) {a : Int} {b : Lt} {c : List Mo} {k : Int} : f108_l3 KK a b c (orbsS l g, k) KK 0 [] = some ((orbsS l g).map (fun o => o.headD (0, 0)), 0) := by
 have hO := orbs_len h.la g
 have hh := iter_fold (R := List Vc × Int) (body := fun L x => f108_b3 KK a b c (orbsS l g, k) (fun v0 v1 => L (v0, v1)) x.1 x.2) (orbsS l g) (fun q s => ((q : Int), s)) (fun s o => s ++ [o.headD (0, 0)]) (fun s => some (s, 0)) (fun q s => s.length = q)
  (fun L q s hq hi => by
   refine ⟨by simp [hi], ?_⟩
   show f108_b3 KK a b c (orbsS l g, k) (fun v0 v1 => L (v0, v1)) (q : Int) s = _
   have hg : (orbsS l g).getD ((0 : Int) + (q : Int)).toNat [] = (orbsS l g)[q] := gd hq
   obtain ⟨x, t, ho⟩ : ∃ x t, (orbsS l g)[q] = x :: t := by
    obtain ⟨r, hr, e⟩ := List.mem_map.1 (List.getElem_mem hq)
    obtain ⟨x, t, ho, _⟩ := orb_cons h (reps_mem hr).1
    exact ⟨x, t, by rw [← e]; exact ho⟩
   have e1 : (decide (0 ≤ (0 : Int)) && decide ((0 : Int) < (((x :: t : List Vc).length : Nat) : Int))) = true := by
    have : (0 : Int) < (((x :: t : List Vc).length : Nat) : Int) := by simp only [List.length_cons]; omega
    rw [decide_eq_true this]
    rfl
   have e2 : ((x :: t : List Vc).getD ((0 : Int) + (0 : Int)).toNat (0, 0)) = x := rfl
   unfold f108_b3
   simp only
   rw [in1 hq, in0, hg, ho, e1, e2, blim16 (by simp; omega), w_succ (by omega)]
   rfl)
  (fun L s hi => by
   show f108_b3 KK a b c (orbsS l g, k) (fun v0 v1 => L (v0, v1)) ((orbsS l g).length : Int) s = _
   unfold f108_b3
   simp only
   rw [out1, cond_false]) KK 0 [] (by omega) (by simp only [KK]; omega) (by simp)
 rw [List.drop_zero] at hh
 refine Eq.trans hh ?_
 rw [foldl_push, List.nil_append]
theorem implLU_eq (f : Int) (l : Lt) {g : List Mo} (hn : g.length ≤ 1048576) : f108G KK f l g = some (leastS f l g) := by
 unfold f108G f108_g leastS
 rw [unitCode_eq f l hn, Option.bind_some]
 cases h : (unitS f l g).2 != 0
 ·have h0 : (unitS f l g).2 = 0 := by simpa using h
  obtain ⟨hG, e⟩ := unitS_0 h0
  rw [cond_false, cond_false]
  have e2 : unitS f l g = (orbsS l g, 0) := Prod.ext e h0
  rw [e2]
  exact first_loop hG
 ·rfl
theorem specLU_eq (f : Int) (l : Lt) {g : List Mo} (hn : g.length ≤ 1048576) : f109G KK f l g = some (leastS f l g) := by
 unfold f109G f109_g leastS
 rw [l23Free_eq f l hn, Option.bind_some]
 cases h : (unitS f l g).2 != 0
 ·have h0 : (unitS f l g).2 = 0 := by simpa using h
  obtain ⟨hG, e⟩ := unitS_0 h0
  rw [cond_false, cond_false]
  have e2 : unitS f l g = (orbsS l g, 0) := Prod.ext e h0
  rw [e2]
  exact first_loop (a := f) (b := l) (c := g) (k := 0) hG
 ·rfl
theorem leastS_len {f : Int} {l : Lt} {g : List Mo} : (leastS f l g).1.length ≤ 1000 := by
 unfold leastS
 cases h : (unitS f l g).2 != 0
 ·have h0 : (unitS f l g).2 = 0 := by simpa using h
  obtain ⟨hG, e⟩ := unitS_0 h0
  have := orbs_len hG.la g
  rw [cond_false]
  simp only [List.length_map, e]
  omega
 ·simp
end Go.Proofs.YtniidcalfhhciaaGreat.X
