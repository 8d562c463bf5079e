/- Plain facts: the lines of a pattern, as the reference counts them; the facts about the lattices of an index up to 64 and the eight reflections are found by trying all. -/
import Derived.Test.YtbgdojniimdihaaGreatM12
namespace Go.Proofs.YtbgdojniimdihaaGreat.X
open Go
set_option linter.unusedVariables false
abbrev Et := Mt × Vc × Vc × Int × Int
def rtab : List Et := [((-1, 0, 0, 1), (0, 1), (1, 0), 0, 2), ((0, -1, -1, 0), (1, -1), (1, 1), 1, -1), ((0, 1, 1, 0), (1, 1), (1, -1), 1, 1), ((1, 0, 0, -1), (1, 0), (0, 1), 2, 0), ((-1, -1, 0, 1), (1, -2), (1, 0), 0, -1), ((-1, 0, 1, 1), (0, 1), (2, -1), 1, 2), ((1, 0, -1, -1), (2, -1), (0, 1), 1, 0), ((1, 1, 0, -1), (1, 0), (1, -2), 2, 1)]
noncomputable def rchk (e : Et) : Bool := (axS e.1 == e.2.1) && (axS (negS e.1) == e.2.2.1) && (alS e.1 == e.2.2.2.1) && (beS e.1 == e.2.2.2.2) && (f155G KK e.1 == some e.2.1) && (f155G KK (negS e.1) == some e.2.2.1) && (Int.gcd e.2.1.1 e.2.1.2 == 1)
theorem rtab_ok : rtab.all rchk = true := by kernel_rfl
theorem rtab_all : ((pmQ ++ pmH).all fun m => (detS m != -1) || rtab.any fun e => e.1 == m) = true := by decide +kernel
/-- the first multiple in the lattice, from k on -/
def kS (l : Lt) (v : Vc) : Nat → Nat → Nat
  | 0, k => k
  | n + 1, k => bif redS l (mulV k v) == (0, 0) then k else kS l v n (k + 1)
def cenT (l : Lt) (a b : Vc) : Bool := ((det2 (mulV (kS l a 64 1) a) (mulV (kS l b 64 1) b)).natAbs : Int) != l.1 * l.2.2
def stepT (l : Lt) (a b : Vc) : Nat := bif cenT l a b then kS l a 64 1 else 2 * kS l a 64 1
def lchk (l : Lt) (e : Et) : Bool := !stayS l e.1 || (gI (e.2.2.2.1 * l.1 + e.2.2.2.2 * 0) (e.2.2.2.1 * l.2.1 + e.2.2.2.2 * l.2.2) == (stepT l e.2.1 e.2.2.1 : Int))
def lats (a : Nat) : List Lt := (List.range (64 / a)).flatMap fun c => (List.range a).map fun (b : Nat) => ((a : Int), (b : Int), ((c + 1 : Nat) : Int))
def latsOk (a : Nat) : Bool := (lats a).all fun l => rtab.all (lchk l)
theorem lats_ok : ((List.range 64).all fun a => latsOk (a + 1)) = true := by decide +kernel
theorem lats_mem {l : Lt} (hl : IsL l) : l ∈ lats l.1.toNat := by
  obtain ⟨a1, a2, c1, c2, b1, b2, ix⟩ := hl
  unfold lats
  simp only [List.mem_flatMap, List.mem_map, List.mem_range]
  refine ⟨l.2.2.toNat - 1, ?_, l.2.1.toNat, by omega, ?_⟩
  · rw [Nat.lt_div_iff_mul_lt (by omega)]
    have h1 : ((l.1.toNat * l.2.2.toNat : Nat) : Int) = l.1 * l.2.2 := idx_nat ⟨a1, a2, c1, c2, b1, b2, ix⟩
    have h2 : (l.2.2.toNat - 1) * l.1.toNat = l.1.toNat * l.2.2.toNat - l.1.toNat := by
      rw [Nat.sub_mul, Nat.one_mul, Nat.mul_comm]
    have h3 : l.1.toNat * 1 ≤ l.1.toNat * l.2.2.toNat := Nat.mul_le_mul_left _ (by omega)
    omega
  · refine Prod.ext (by simp; omega) (Prod.ext (by simp; omega) (by simp only; omega))
theorem lat_fact {l : Lt} (hl : IsL l) {e : Et} (he : e ∈ rtab) (hs : stayS l e.1 = true) : gI (e.2.2.2.1 * l.1 + e.2.2.2.2 * 0) (e.2.2.2.1 * l.2.1 + e.2.2.2.2 * l.2.2) = (stepT l e.2.1 e.2.2.1 : Int) := by
  have h1 := List.all_eq_true.mp lats_ok (l.1.toNat - 1) (by rw [List.mem_range]; have := hl.a2; have := hl.a1; omega)
  rw [show l.1.toNat - 1 + 1 = l.1.toNat by have := hl.a1; omega] at h1
  have h2 := List.all_eq_true.mp (List.all_eq_true.mp h1 l (lats_mem hl)) e he
  unfold lchk at h2
  rw [hs] at h2
  simpa using h2
theorem kS_ge (l : Lt) (v : Vc) : ∀ n k, k ≤ kS l v n k ∧ kS l v n k ≤ k + n
  | 0, k => by simp [kS]
  | n + 1, k => by
    simp only [kS]
    have := kS_ge l v n (k + 1)
    cases redS l (mulV k v) == (0, 0) <;> simp <;> omega
end Go.Proofs.YtbgdojniimdihaaGreat.X
