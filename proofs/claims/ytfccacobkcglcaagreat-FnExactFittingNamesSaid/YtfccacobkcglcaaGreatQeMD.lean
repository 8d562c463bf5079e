/- Plain facts: the group of a pattern, as the program and the reference compute it. -/
import Derived.Test.YtfccacobkcglcaaGreatQeMC
namespace Go.Proofs.YtfccacobkcglcaaGreat.X
open Go
set_option linter.unusedSimpArgs false
set_option linter.unusedVariables false
abbrev Mo := Mt × Vc
def rowG (p : Pt) (m : Mt) : List Mo := ((cellsS p.2.1).filter fun t => keepsS p (m, t)).map fun t => (m, t)
def groupS (p : Pt) : List Mo := (stabS p.1 p.2.1).flatMap (rowG p)
theorem stab_mem {f : Int} {l : Lt} {m : Mt} (h : m ∈ stabS f l) : m ∈ pmQ ++ pmH := pmS_mem (List.mem_filter.mp h).1
theorem stab_len (f : Int) (l : Lt) : (stabS f l).length ≤ 12 := Nat.le_trans (List.length_filter_le _ _) (pmS_len f)
theorem flatMap_len {α β : Type} (f : α → List β) (B : Nat) (hf : ∀ a, (f a).length ≤ B) : ∀ l : List α, (l.flatMap f).length ≤ l.length * B
  | [] => by simp
  | a :: l => by
    rw [List.flatMap_cons, List.length_append, List.length_cons, Nat.add_mul]
    have := flatMap_len f B hf l
    have := hf a
    omega
end Go.Proofs.YtfccacobkcglcaaGreat.X
/-! Plain facts: the lines of a pattern: each motion that turns the plane over adds two. -/
namespace Go.Proofs.YtfccacobkcglcaaGreat.X
open Go
set_option linter.unusedVariables false
def dv (a b : Int) : Int := if b = 0 then 0 else a / b
def negS (m : Mt) : Mt := (-m.1, -m.2.1, -m.2.2.1, -m.2.2.2)
def le3 (x : Int) : Bool := decide (-3 ≤ x) && decide (x ≤ 3)
/-- the first multiple of a vector that lies in the lattice -/
def mulV (k : Nat) (v : Vc) : Vc := ((k : Int) * v.1, (k : Int) * v.2)
end Go.Proofs.YtfccacobkcglcaaGreat.X
/-! Plain facts: which patterns are valid; copies and comparisons of patterns. -/
namespace Go.Proofs.YtfccacobkcglcaaGreat.X
open Go
set_option linter.unusedVariables false
theorem in_eq (a b c : Int) : f141G KK a b c = some (decide (b ≤ a ∧ a ≤ c)) := by
  unfold f141G
  simp only [Bool.or_true, cond_true]
  by_cases h : b ≤ a <;> simp [h]
theorem within_eq (a b c : Int) : f146G KK a b c = some (decide (b ≤ a ∧ a ≤ c)) := by
  unfold f146G
  simp only [Bool.or_true, cond_true]
  by_cases h : b ≤ a <;> simp [h]
def okL (l : Lt) : Bool := decide (1 ≤ l.1 ∧ l.1 ≤ 64) && decide (1 ≤ l.2.2 ∧ l.2.2 ≤ 64) && decide (0 ≤ l.2.1 ∧ l.2.1 ≤ l.1 - 1) && decide (l.1 * l.2.2 ≤ 64)
theorem okL_iff {l : Lt} : okL l = true ↔ IsL l := by
  unfold okL
  simp only [Bool.and_eq_true, decide_eq_true_eq]
  constructor
  · rintro ⟨⟨⟨⟨a1, a2⟩, c1, c2⟩, b1, b2⟩, ix⟩
    exact ⟨a1, a2, c1, c2, b1, by omega, ix⟩
  · rintro ⟨a1, a2, c1, c2, b1, b2, ix⟩
    exact ⟨⟨⟨⟨a1, a2⟩, c1, c2⟩, b1, by omega⟩, ix⟩
def okF (f : Int) : Bool := decide (0 ≤ f ∧ f ≤ 1)
def okC (c : Int) : Bool := decide (0 ≤ c ∧ c ≤ 9)
def okP (p : Pt) : Bool := okF p.1 && okL p.2.1 && decide ((p.2.2.length : Int) = p.2.1.1 * p.2.1.2.2) && p.2.2.all okC
structure Cp (l : List Int) (q : Nat) (s : Nat × List Int) : Prop where
  i : s.1 = q
  n : s.2.length = l.length
  t : s.2.take q = l.take q
end Go.Proofs.YtfccacobkcglcaaGreat.X
