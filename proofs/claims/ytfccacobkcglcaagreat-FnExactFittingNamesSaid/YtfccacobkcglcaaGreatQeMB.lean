/- Plain facts: the lattice of a list of vectors, as the program and the reference compute it. -/
import Derived.Test.YtfccacobkcglcaaGreatQeMA
namespace Go.Proofs.YtfccacobkcglcaaGreat.X
open Go
set_option linter.unusedSimpArgs false
set_option linter.unusedVariables false
abbrev Hs := Int × Vc
def gI (a x : Int) : Int := ((Int.gcd a x : Nat) : Int)
def stI (s : Hs) (t : Vc) : Hs := (gI s.1 (euS KK s.2 t).2, (euS KK s.2 t).1)
def stR (s : Hs) (t : Vc) : Hs := (gI s.1 (euS KK s.2 t).2, ((if gI s.1 (euS KK s.2 t).2 > 0 then (euS KK s.2 t).1.1 % gI s.1 (euS KK s.2 t).2 else (euS KK s.2 t).1.1), (euS KK s.2 t).1.2))
structure Oks (s : Hs) (t : Vc) : Prop where
  bd : Bd 36028797018963968 s.2 t
  y : s.2.2.natAbs ≤ 1000000
  ty : t.2.natAbs ≤ 1000000
  a : s.1.natAbs ≤ 1000000
  g : gI s.1 (euS KK s.2 t).2 ≤ 1000000
def finR (s : Hs) : Lt := (s.1, (if s.1 > 0 then (if s.2.2 < 0 then -s.2.1 else s.2.1) % s.1 else (if s.2.2 < 0 then -s.2.1 else s.2.1)), (if s.2.2 < 0 then -s.2.2 else s.2.2))
theorem KKlt {n : Nat} (h : n ≤ 1000000) : n < KK := by simp only [KK]; omega
end Go.Proofs.YtfccacobkcglcaaGreat.X
/-! Plain facts: the full lattice is found alike; bounds of the numbers. -/
namespace Go.Proofs.YtfccacobkcglcaaGreat.X
open Go
set_option linter.unusedVariables false
theorem emod_cong {a x y : Int} (h : a ∣ x - y) : x % a = y % a :=
  Int.emod_eq_emod_iff_emod_sub_eq_zero.mpr (Int.emod_eq_zero_of_dvd h)
structure Rl (s r : Hs) : Prop where
  a : s.1 = r.1
  p : 0 ≤ s.1
  y : s.2.2 = r.2.2
  x : s.1 ∣ s.2.1 - r.2.1
def Gd (Y X : Nat) : Prop := (Y ≤ 64 ∧ X ≤ 64) ∨ (Y ≤ 32 ∧ X ≤ 8192) ∨ (Y ≤ 16 ∧ X ≤ 1048576) ∨ (Y ≤ 8 ∧ X ≤ 134217728) ∨ (Y ≤ 4 ∧ X ≤ 17179869184) ∨ (Y ≤ 2 ∧ X ≤ 2199023255552) ∨ (Y ≤ 1 ∧ X ≤ 281474976710656)
structure Bx (t : Vc) : Prop where
  x1 : 0 ≤ t.1
  x2 : t.1 ≤ 64
  y1 : 0 ≤ t.2
  y2 : t.2 ≤ 64
structure Pp (p : Vc) : Prop where
  y : 0 ≤ p.2
  z : p.2 = 0 → p = (0, 0)
  g : 1 ≤ p.2 → Gd p.2.natAbs p.1.natAbs
theorem euS_z (n : Nat) {p v : Vc} (h : v.2 = 0) : euS (n + 1) p v = (p, v.1) := by
  simp only [euS, h, if_true]
theorem euS_zero {p v : Vc} (h : v.2 = 0) : euS KK p v = (p, v.1) := euS_z 2097151 h
/-- what holds of the state behind q vectors, the first (A, 0) and the second (B, C) -/
structure Iv (l : Lt) (q : Nat) (s : Hs) : Prop where
  z : q = 0 → s = (0, 0, 0)
  a : 1 ≤ q → 1 ≤ s.1 ∧ s.1 ≤ l.1
  o : q = 1 → s.2.2 = 0
  y : 2 ≤ q → 1 ≤ s.2.2 ∧ s.2.2 ≤ l.2.2
  p : Pp s.2
/-- the lattice of a list that begins with a lattice's basis -/
def latS (l : List Vc) : Lt := finR (l.foldl stI (0, 0, 0))
end Go.Proofs.YtfccacobkcglcaaGreat.X
/-! Plain facts: the lean pattern, as the program and the reference compute it. -/
namespace Go.Proofs.YtfccacobkcglcaaGreat.X
open Go
set_option linter.unusedVariables false
abbrev Un : Mt := (1, 0, 0, 1)
def fullL (p : Pt) : List Vc := (cellsS p.2.1).filter fun t => keepsS p (Un, t)
def fullS (p : Pt) : Lt := latS ((p.2.1.1, 0) :: (p.2.1.2.1, p.2.1.2.2) :: fullL p)
def onS (p : Pt) (l : Lt) : Pt := (p.1, l, (cellsS l).map (atS p))
def leanS (p : Pt) : Pt := onS p (fullS p)
end Go.Proofs.YtfccacobkcglcaaGreat.X
