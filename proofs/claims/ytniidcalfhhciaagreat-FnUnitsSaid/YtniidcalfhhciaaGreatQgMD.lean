/- Plain facts: the group of a pattern, as the program and the reference compute it. -/
import Derived.Test.YtniidcalfhhciaaGreatQgMC
namespace Go.Proofs.YtniidcalfhhciaaGreat.X
open Go
set_option linter.unusedSimpArgs false
set_option linter.unusedVariables false
abbrev Mo := Mt × Vc
def rowG (p : Pt) (m : Mt) : List Mo := ((cellsS p.2.1).filter fun t => keepsS p (m, t)).map fun t => (m, t)
def groupS (p : Pt) : List Mo := (stabS p.1 p.2.1).flatMap (rowG p)
theorem stab_mem {f : Int} {l : Lt} {m : Mt} (h : m ∈ stabS f l) : m ∈ pmQ ++ pmH := pmS_mem (List.mem_filter.mp h).1
theorem stab_len (f : Int) (l : Lt) : (stabS f l).length ≤ 12 := Nat.le_trans (List.length_filter_le _ _) (pmS_len f)
theorem flatMap_len {α β : Type} (f : α → List β) (B : Nat) (hf : ∀ a, (f a).length ≤ B) : ∀ l : List α, (l.flatMap f).length ≤ l.length * B
 | [] => by simp
 | a :: l => by
  rw [List.flatMap_cons, List.length_append, List.length_cons, Nat.add_mul]
  have := flatMap_len f B hf l
  have := hf a
  omega
end Go.Proofs.YtniidcalfhhciaaGreat.X
/-! Plain facts: the lines of a pattern: each motion that turns the plane over adds two. -/
namespace Go.Proofs.YtniidcalfhhciaaGreat.X
open Go
set_option linter.unusedVariables false
def dv (a b : Int) : Int := if b = 0 then 0 else a / b
def negS (m : Mt) : Mt := (-m.1, -m.2.1, -m.2.2.1, -m.2.2.2)
def le3 (x : Int) : Bool := decide (-3 ≤ x) && decide (x ≤ 3)
/-- the first multiple of a vector that lies in the lattice -/
def mulV (k : Nat) (v : Vc) : Vc := ((k : Int) * v.1, (k : Int) * v.2)
end Go.Proofs.YtniidcalfhhciaaGreat.X
/-! Plain facts: which patterns are valid; copies and comparisons of patterns. -/
namespace Go.Proofs.YtniidcalfhhciaaGreat.X
open Go
set_option linter.unusedVariables false
theorem in_eq (a b c : Int) : f195G KK a b c = some (decide (b ≤ a ∧ a ≤ c)) := by
 unfold f195G
 simp only [Bool.or_true, cond_true]
 by_cases h : b ≤ a <;> simp [h]
theorem within_eq (a b c : Int) : f194G KK a b c = some (decide (b ≤ a ∧ a ≤ c)) := by
 unfold f194G
 simp only [Bool.or_true, cond_true]
 by_cases h : b ≤ a <;> simp [h]
def okL (l : Lt) : Bool := decide (1 ≤ l.1 ∧ l.1 ≤ 64) && decide (1 ≤ l.2.2 ∧ l.2.2 ≤ 64) && decide (0 ≤ l.2.1 ∧ l.2.1 ≤ l.1 - 1) && decide (l.1 * l.2.2 ≤ 64)
theorem okL_iff {l : Lt} : okL l = true ↔ IsL l := by
 unfold okL
 simp only [Bool.and_eq_true, decide_eq_true_eq]
 constructor
 ·rintro ⟨⟨⟨⟨a1, a2⟩, c1, c2⟩, b1, b2⟩, ix⟩
  exact ⟨a1, a2, c1, c2, b1, by omega, ix⟩
 ·rintro ⟨a1, a2, c1, c2, b1, b2, ix⟩
  exact ⟨⟨⟨⟨a1, a2⟩, c1, c2⟩, b1, by omega⟩, ix⟩
theorem mul64 {a c : Int} (h1 : 1 ≤ a) (h2 : a ≤ 64) (h3 : 1 ≤ c) (h4 : c ≤ 64) : 0 ≤ a * c ∧ a * c ≤ 4096 := by
 have e1 : 0 ≤ a * c := Int.mul_nonneg (by omega) (by omega)
 have e2 : a * c ≤ 64 * c := Int.mul_le_mul_of_nonneg_right h2 (by omega)
 omega
theorem specIsLattice_eq (l : Lt) : f307G KK l = some (okL l) := by
 unfold f307G okL
 simp only [in_eq, Option.bind_some, Bool.or_true, cond_true]
 by_cases h1 : 1 ≤ l.1 ∧ l.1 ≤ 64
 ·by_cases h2 : 1 ≤ l.2.2 ∧ l.2.2 ≤ 64
  ·have := mul64 h1.1 h1.2 h2.1 h2.2
   rw [w_id (n := l.1 - 1) (by omega) (by omega), w_id (n := l.1 * l.2.2) (by omega) (by omega)]
   by_cases h3 : 0 ≤ l.2.1 ∧ l.2.1 ≤ l.1 - 1 <;> simp [h1, h2, h3]
  ·simp [h1, h2]
 ·simp [h1]
theorem isLattice_eq (l : Lt) : f184G KK l = some (okL l) := by
 unfold f184G f133G okL
 simp only [within_eq, Option.bind_some, Bool.or_true, cond_true]
 by_cases h1 : 1 ≤ l.1 ∧ l.1 ≤ 64
 ·by_cases h2 : 1 ≤ l.2.2 ∧ l.2.2 ≤ 64
  ·have := mul64 h1.1 h1.2 h2.1 h2.2
   rw [w_id (n := l.1 - 1) (by omega) (by omega), w_id (n := l.1 * l.2.2) (by omega) (by omega)]
   by_cases h3 : 0 ≤ l.2.1 ∧ l.2.1 ≤ l.1 - 1 <;> simp [h1, h2, h3]
  ·simp [h1, h2]
 ·simp [h1]
def okF (f : Int) : Bool := decide (0 ≤ f ∧ f ≤ 1)
theorem specIsFrame_eq (f : Int) : f306G KK f = some (okF f) := by
 unfold f306G okF
 simp only [Bool.or_true, cond_true]
 by_cases h : f = 0
 ·subst h; rfl
 ·by_cases h1 : f = 1
  ·subst h1; rfl
  ·have h2 : (f == 0) = false := by simp [h]
   have h3 : (f == 1) = false := by simp [h1]
   rw [h2, h3]
   have : ¬ (0 ≤ f ∧ f ≤ 1) := by omega
   simp [this]
theorem isFrame_eq (f : Int) : f256G KK f = some (okF f) := by
 unfold f256G
 rw [within_eq]
 rfl
theorem l04Code_eq (f : Int) (l : Lt) : f215G KK f l = some (if okF f && okL l then 0 else 1) := by
 unfold f215G
 rw [specIsFrame_eq, specIsLattice_eq]
 cases okF f <;> cases h : okL l <;> rfl
def okC (c : Int) : Bool := decide (0 ≤ c ∧ c ≤ 9)
def okP (p : Pt) : Bool := okF p.1 && okL p.2.1 && decide ((p.2.2.length : Int) = p.2.1.1 * p.2.1.2.2) && p.2.2.all okC
structure Cp (l : List Int) (q : Nat) (s : Nat × List Int) : Prop where
 i : s.1 = q
 n : s.2.length = l.length
 t : s.2.take q = l.take q
end Go.Proofs.YtniidcalfhhciaaGreat.X
