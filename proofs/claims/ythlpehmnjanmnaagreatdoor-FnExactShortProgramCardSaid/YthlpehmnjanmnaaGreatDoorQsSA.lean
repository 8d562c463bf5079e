/- Bytes, words and numbers: splitting a text, reading a number as it is written. -/
import Derived.Test.YthlpehmnjanmnaaGreatDoorQsMA
import Derived.Test.YthlpehmnjanmnaaGreatDoorQyXStr
namespace Go.Proofs.YthlpehmnjanmnaaGreatDoor.X
open Go
set_option linter.unusedSimpArgs false
set_option linter.unusedVariables false
def mk (l : List UInt8) : ByteArray := ⟨l.toArray⟩
theorem mk_list (a : List UInt8) : (mk a).data.toList = a := by
 unfold mk
 simp
theorem mk_size (a : List UInt8) : (mk a).size = a.length := by
 unfold mk ByteArray.size
 simp
theorem mk_app (a b : List UInt8) : mk a ++ mk b = mk (a ++ b) := by
 unfold mk
 apply ByteArray.ext
 simp
def spa (c : UInt8) : List UInt8 → List UInt8 → List (List UInt8)
 | acc, [] => [acc]
 | acc, b :: l => if b = c then acc :: spa c [] l else spa c (acc ++ [b]) l
def isD (b : UInt8) : Bool := decide (48 ≤ b.toNat) && decide (b.toNat ≤ 57)
def addD (n : Nat) (b : UInt8) : Nat := 10 * n + (b.toNat - 48)
def valD (l : List UInt8) : Nat := l.foldl addD 0
theorem dec_step {n : Nat} (h : ¬ n < 10) : Lib.decDigits n = Lib.decDigits (n / 10) ++ [UInt8.ofNat (48 + n % 10)] := by rw [Lib.decDigits, dif_neg h]
theorem dec_one {n : Nat} (h : n < 10) : Lib.decDigits n = [UInt8.ofNat (48 + n)] := by rw [Lib.decDigits, dif_pos h]
theorem dec_lt : ∀ (k n : Nat), n < 10 ^ (k + 1) → (Lib.decDigits n).length ≤ k + 1
 | 0, n, h => by
  rw [dec_one (by simpa using h)]
  simp
 | k + 1, n, h => by
  by_cases h1 : n < 10
  ·rw [dec_one h1]
   simp
  ·rw [dec_step h1, lA]
   have := dec_lt k (n / 10) (by
    rw [Nat.pow_succ] at h
    omega)
   simp only [List.length_singleton]
   omega
def digs (l : List UInt8) : Option Nat := if 1 ≤ l.length ∧ l.length ≤ 10 ∧ l.all isD = true ∧ Lib.decDigits (valD l) = l then some (valD l) else none
def rd (l : List UInt8) : Option Int := match l with
 | [] => none
 | b :: r => if b = 45 then (match digs r with | some n => if 0 < n then some (-(n : Int)) else none | none => none) else (digs l).map fun (n : Nat) => (n : Int)
def unm (l : List UInt8) : List UInt8 := match l with
 | [] => []
 | b :: r => if b = 45 then r else l
end Go.Proofs.YthlpehmnjanmnaaGreatDoor.X
