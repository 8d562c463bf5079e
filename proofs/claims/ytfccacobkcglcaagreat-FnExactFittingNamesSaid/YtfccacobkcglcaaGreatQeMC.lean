/- Plain facts: the image of a lattice under a matrix is the lattice itself if its basis stays in it. -/
import Derived.Test.YtfccacobkcglcaaGreatQeMB
import Derived.KernelRfl
namespace Go.Proofs.YtfccacobkcglcaaGreat.X
open Go
set_option linter.unusedSimpArgs false
set_option linter.unusedVariables false
def InL (l : Lt) (v : Vc) : Prop := ∃ i j : Int, v = (i * l.1 + j * l.2.1, j * l.2.2)
theorem InL_clo (l : Lt) : Clo (InL l) := by
  rintro u v k ⟨i, j, rfl⟩ ⟨i', j', rfl⟩
  refine ⟨i + k * i', j + k * j', ?_⟩
  simp only [Int.add_mul, Int.mul_add, Int.mul_assoc]
  congr 1
  omega
theorem redS_InL {l : Lt} (hl : IsL l) (v : Vc) : redS l v = (0, 0) ↔ InL l v := by
  obtain ⟨a1, a2, c1, c2, b1, b2, ix⟩ := hl
  unfold redS
  constructor
  · intro h
    simp only [Prod.mk.injEq] at h
    obtain ⟨h1, h2⟩ := h
    obtain ⟨i, hi⟩ := Int.dvd_of_emod_eq_zero h1
    refine ⟨i, v.2 / l.2.2, ?_⟩
    have h3 := Int.ediv_mul_cancel (Int.dvd_of_emod_eq_zero h2)
    have h4 : i * l.1 = l.1 * i := Int.mul_comm _ _
    refine Prod.ext ?_ h3.symm
    simp only
    omega
  · rintro ⟨i, j, rfl⟩
    simp only
    have h1 : j * l.2.2 / l.2.2 = j := Int.mul_ediv_cancel _ (by omega)
    rw [h1, show i * l.1 + j * l.2.1 - j * l.2.1 = i * l.1 by omega, Int.mul_emod_left, Int.mul_emod_left]
theorem euS_z2 (n : Nat) {a : Vc} (h : a.2 ≠ 0) : euS (n + 2) (0, 0) a = (a, 0) := by
  have h1 : nx (0, 0) a = (0, 0) := by simp [nx]
  simp only [euS, h, if_false, h1, if_true]
theorem Clo_neg {S : Vc → Prop} (hS : Clo S) {v : Vc} (h : S v) : S (-v.1, -v.2) := by
  have := hS v v (-2) h h
  have e1 : v.1 + -2 * v.1 = -v.1 := by omega
  have e2 : v.2 + -2 * v.2 = -v.2 := by omega
  rwa [e1, e2] at this
theorem Clo_abs {S : Vc → Prop} (hS : Clo S) (x : Int) : S ((x.natAbs : Int), 0) ↔ S (x, 0) := by
  rcases Int.natAbs_eq x with h | h
  · rw [← h]
  · constructor
    · intro h1
      have := Clo_neg hS h1
      simp only [Int.neg_zero] at this
      rwa [← h] at this
    · intro h1
      have := Clo_neg hS h1
      simp only [Int.neg_zero] at this
      rw [show (x.natAbs : Int) = -x by omega]
      exact this
/-- the state behind two vectors that span the plane -/
theorem two {a b : Vc} (ha : a.2.natAbs < 1000000) (hb : b.2.natAbs < 1000000) (hd : a.1 * b.2 - b.1 * a.2 ≠ 0) :
    let s := stI (stI (0, 0, 0) a) b
    0 < s.1 ∧ s.1 * (s.2.2.natAbs : Int) = ((a.1 * b.2 - b.1 * a.2).natAbs : Int) ∧ ∀ S : Vc → Prop, Clo S → ((S a ∧ S b) ↔ (S (s.1, 0) ∧ S s.2)) := by
  intro s
  have hs : s = stI (stI (0, 0, 0) a) b := rfl
  by_cases h0 : a.2 = 0
  · have e1 : stI (0, 0, 0) a = ((a.1.natAbs : Int), (0, 0)) := by
      simp only [stI, euS_zero h0, gI, Int.gcd_zero_left]
    have hb0 : b.2 ≠ 0 := by
      intro h; apply hd; rw [h0, h]; simp
    have e2 : euS KK (0, 0) b = (b, 0) := euS_z2 2097150 hb0
    have e3 : s = ((a.1.natAbs : Int), b) := by
      rw [hs, e1]
      simp only [stI, e2, gI]
      congr 1
      simp
    rw [e3]
    have ea : a = (a.1, 0) := by rw [← h0]
    rw [h0] at hd ⊢
    simp only [Int.mul_zero, Int.sub_zero] at hd ⊢
    refine ⟨?_, ?_, ?_⟩
    · have : a.1 ≠ 0 := by rintro h; apply hd; rw [h]; simp
      omega
    · rw [Int.natAbs_mul, Int.natCast_mul]
    · intro S hS
      rw [Clo_abs hS a.1, ← ea]
  · have e1 : stI (0, 0, 0) a = (0, a) := by
      have e2 : euS KK (0, 0) a = (a, 0) := euS_z2 2097150 h0
      simp only [stI, e2, gI]
      rfl
    have e3 : s = (((euS KK a b).2.natAbs : Int), (euS KK a b).1) := by
      rw [hs, e1]
      simp only [stI, gI, Int.gcd_zero_left]
    have hlt := KKlt (n := b.2.natAbs) (by omega)
    have hdet := euS_det KK a b hlt
    rw [e3]
    simp only
    rw [Int.natAbs_mul] at hdet
    refine ⟨?_, ?_, ?_⟩
    · rcases Nat.eq_zero_or_pos (euS KK a b).2.natAbs with h | h
      · rw [h, Nat.zero_mul] at hdet; omega
      · omega
    · rw [← hdet, Int.natCast_mul]
    · intro S hS
      rw [Clo_abs hS]
      constructor
      · rintro ⟨h1, h2⟩
        exact (euS_in hS KK a b hlt h1 h2).symm
      · rintro ⟨h1, h2⟩
        exact euS_out hS KK a b hlt h2 h1
def det2 (a b : Vc) : Int := a.1 * b.2 - b.1 * a.2
structure Bw (v : Vc) : Prop where
  x : v.1.natAbs ≤ 200
  y : v.2.natAbs ≤ 200
end Go.Proofs.YtfccacobkcglcaaGreat.X
/-! Plain facts: the matrices that keep a lattice, and the group of a pattern. -/
namespace Go.Proofs.YtfccacobkcglcaaGreat.X
open Go
set_option linter.unusedVariables false
def pmQ : List Mt := [(-1, 0, 0, -1), (-1, 0, 0, 1), (0, -1, -1, 0), (0, -1, 1, 0), (0, 1, -1, 0), (0, 1, 1, 0), (1, 0, 0, -1), (1, 0, 0, 1)]
def pmH : List Mt := [(-1, -1, 0, 1), (-1, -1, 1, 0), (-1, 0, 0, -1), (-1, 0, 1, 1), (0, -1, -1, 0), (0, -1, 1, 1), (0, 1, -1, -1), (0, 1, 1, 0), (1, 0, -1, -1), (1, 0, 0, 1), (1, 1, -1, 0), (1, 1, 0, -1)]
def pmS (f : Int) : List Mt := if f = 0 then pmQ else pmH
def detS (m : Mt) : Int := m.1 * m.2.2.2 - m.2.1 * m.2.2.1
theorem pm_all : ∀ m ∈ pmQ ++ pmH, (-1 ≤ m.1 ∧ m.1 ≤ 1) ∧ (-1 ≤ m.2.1 ∧ m.2.1 ≤ 1) ∧ (-1 ≤ m.2.2.1 ∧ m.2.2.1 ≤ 1) ∧ (-1 ≤ m.2.2.2 ∧ m.2.2.2 ≤ 1) ∧ (detS m = 1 ∨ detS m = -1) := by decide +kernel
theorem pmS_mem {f : Int} {m : Mt} (h : m ∈ pmS f) : m ∈ pmQ ++ pmH := by
  unfold pmS at h
  split at h
  · exact List.mem_append_left _ h
  · exact List.mem_append_right _ h
theorem pm_sm {m : Mt} (h : m ∈ pmQ ++ pmH) : SmM m := by
  obtain ⟨h1, h2, h3, h4, _⟩ := pm_all m h
  exact ⟨h1, h2, h3, h4⟩
theorem pmS_len (f : Int) : (pmS f).length ≤ 12 := by
  unfold pmS; split <;> decide
/-- a basis vector stays in the lattice -/
def stayS (l : Lt) (m : Mt) : Bool := (redS l (mulS m (l.1, 0)) == (0, 0)) && (redS l (mulS m l.2) == (0, 0))
def stabS (f : Int) (l : Lt) : List Mt := (pmS f).filter (stayS l)
end Go.Proofs.YtfccacobkcglcaaGreat.X
/-! Plain facts: deleting from a list by a test. -/
namespace Go.Proofs.YtfccacobkcglcaaGreat.X
open Go
set_option linter.unusedVariables false
/-- the first place, from q on, where the test holds; -1 if there is none -/
def idxS {α : Type} (p : α → Bool) : Nat → List α → Int
  | _, [] => -1
  | q, a :: l => bif p a then (q : Int) else idxS p (q + 1) l
theorem iter_idx {R α : Type} {body : (Int → Option R) → Int → Option R} (l : List α) (p : α → Bool) (fin : Int → Option R)
    (h1 : ∀ L q (hq : q < l.length), body L (q : Int) = bif p l[q] then fin (q : Int) else L ((q + 1 : Nat) : Int))
    (h2 : ∀ L, body L (l.length : Int) = fin (-1)) : ∀ n q, q ≤ l.length → l.length - q < n → iter body n (q : Int) = fin (idxS p q (l.drop q))
  | 0, q, _, hn => by omega
  | n + 1, q, hq, hn => by
    show body (iter body n) (q : Int) = _
    by_cases hlt : q < l.length
    · rw [h1 _ q hlt, iter_idx l p fin h1 h2 n (q + 1) hlt (by omega), List.drop_eq_getElem_cons hlt]
      simp only [idxS]
      cases p l[q] <;> simp
    · have : q = l.length := by omega
      subst this
      rw [h2, List.drop_length]
      rfl
theorem idxS_spec {α : Type} (p : α → Bool) : ∀ (l : List α) (q : Nat), (idxS p q l = -1 ∧ ∀ a ∈ l, p a = false) ∨ (∃ k, k < l.length ∧ idxS p q l = ((q + k : Nat) : Int) ∧ (∀ a ∈ l.take k, p a = false) ∧ ∃ a, l[k]? = some a ∧ p a = true)
  | [], q => Or.inl ⟨rfl, by simp⟩
  | a :: l, q => by
    simp only [idxS]
    cases h : p a
    · rcases idxS_spec p l (q + 1) with ⟨h1, h2⟩ | ⟨k, h1, h2, h3, b, h4, h5⟩
      · left
        refine ⟨by simpa using h1, ?_⟩
        intro b hb
        rcases List.mem_cons.mp hb with rfl | hb
        · exact h
        · exact h2 b hb
      · right
        refine ⟨k + 1, by simp; omega, by simp [h2]; omega, ?_, b, by simpa using h4, h5⟩
        intro c hc
        rw [List.take_succ_cons] at hc
        rcases List.mem_cons.mp hc with rfl | hc
        · exact h
        · exact h3 c hc
    · right
      exact ⟨0, by simp, by simp, by simp, a, by simp, h⟩
abbrev Ds := Nat × List Mt
def delI (p : Mt → Bool) (s : Ds) (a : Mt) : Ds := bif p a then s else (s.1 + 1, s.2.set s.1 a)
structure Dv2 (p : Mt → Bool) (l : List Mt) (q : Nat) (s : Ds) : Prop where
  n : s.2.length = l.length
  i : s.1 < q
  le : q ≤ l.length
  t : s.2.take s.1 = (l.take q).filter fun a => !p a
  d : s.2.drop q = l.drop q
end Go.Proofs.YtfccacobkcglcaaGreat.X
