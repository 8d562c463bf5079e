/- Plain facts: numbers that do not run over, and loops that step through a list. -/
import Derived.Test.YtbgdojniimdihaaXLoop
namespace Go.Proofs.Ytbgdojniimdihaa.X
open Go
def KK : Nat := 2097152
theorem w_id {n : Int} (h1 : -9223372036854775808 ≤ n) (h2 : n ≤ 9223372036854775807) : w n = n := by
  simp only [w, IntKind.wrap]
  simp [IntKind.signed, IntKind.bits]
  omega
theorem w_succ {q : Nat} (h : q < 4611686018427387904) : w ((q : Int) + 1) = ((q + 1 : Nat) : Int) := by
  rw [w_id] <;> omega
theorem gd {α : Type} {l : List α} {q : Nat} {d : α} (h : q < l.length) : l.getD ((0 : Int) + (q : Int)).toNat d = l[q] := by
  have : ((0 : Int) + (q : Int)).toNat = q := by omega
  rw [this]
  simp [List.getD, h]
theorem in1 {q n : Nat} (h : q < n) : decide ((q : Int) < (n : Int)) = true := by
  simp; omega
theorem in0 {q : Nat} : decide (0 ≤ (q : Int)) = true := by simp
theorem out1 {n : Nat} : decide ((n : Int) < (n : Int)) = false := by simp
theorem blim16 {n : Nat} (h : n ≤ 4000000) : Nat.ble n (lim 16) = true := by
  simp only [lim, Nat.ble_eq]; omega
theorem blim8 {n : Nat} (h : n ≤ 4000000) : Nat.ble n (lim 8) = true := by
  simp only [lim, Nat.ble_eq]; omega
theorem blim32 {n : Nat} (h : n ≤ 4000000) : Nat.ble n (lim 32) = true := by
  simp only [lim, Nat.ble_eq]; omega
theorem blim48 {n : Nat} (h : n ≤ 1000000) : Nat.ble n (lim 48) = true := by
  simp only [lim, Nat.ble_eq]; omega
theorem iter_fold {X R S α : Type} {body : (X → Option R) → X → Option R} (l : List α) (fr : Nat → S → X) (step : S → α → S) (fin : S → Option R) (inv : Nat → S → Prop)
    (h1 : ∀ L q s (hq : q < l.length), inv q s → inv (q + 1) (step s l[q]) ∧ body L (fr q s) = L (fr (q + 1) (step s l[q])))
    (h2 : ∀ L s, inv l.length s → body L (fr l.length s) = fin s) : ∀ n q s, q ≤ l.length → l.length - q < n → inv q s → iter body n (fr q s) = fin ((l.drop q).foldl step s)
  | 0, q, s, _, hn, _ => by omega
  | n + 1, q, s, hq, hn, hi => by
    show body (iter body n) (fr q s) = _
    by_cases hlt : q < l.length
    · obtain ⟨h3, h4⟩ := h1 (iter body n) q s hlt hi
      rw [h4, iter_fold l fr step fin inv h1 h2 n (q + 1) _ hlt (by omega) h3, List.drop_eq_getElem_cons hlt]
      rfl
    · have : q = l.length := by omega
      subst this
      rw [h2 _ _ hi]
      simp
theorem iter_all {X R α : Type} {body : (X → Option R) → X → Option R} (l : List α) (fr : Nat → X) (p : α → Bool) (no fin : Option R)
    (h1 : ∀ L q (hq : q < l.length), body L (fr q) = bif p l[q] then L (fr (q + 1)) else no)
    (h2 : ∀ L, body L (fr l.length) = fin) : ∀ n q, q ≤ l.length → l.length - q < n → iter body n (fr q) = bif (l.drop q).all p then fin else no
  | 0, q, _, hn => by omega
  | n + 1, q, hq, hn => by
    show body (iter body n) (fr q) = _
    by_cases hlt : q < l.length
    · rw [h1 _ q hlt, iter_all l fr p no fin h1 h2 n (q + 1) hlt (by omega), List.drop_eq_getElem_cons hlt]
      simp only [List.all_cons]
      cases p l[q] <;> simp
    · have : q = l.length := by omega
      subst this
      rw [h2]
      simp
theorem foldl_filter {α β : Type} (p : α → Bool) (g : α → β) : ∀ (l : List α) (s : List β), l.foldl (fun s a => bif p a then s ++ [g a] else s) s = s ++ (l.filter p).map g
  | [], s => by simp
  | a :: l, s => by
    rw [List.foldl_cons, foldl_filter p g l]
    cases h : p a <;> simp [h]
theorem foldl_push {α β : Type} (g : α → β) : ∀ (l : List α) (s : List β), l.foldl (fun s a => s ++ [g a]) s = s ++ l.map g
  | [], s => by simp
  | a :: l, s => by
    rw [List.foldl_cons, foldl_push g l]
    simp
theorem foldl_flat {α β : Type} (g : α → List β) : ∀ (l : List α) (s : List β), l.foldl (fun s a => s ++ g a) s = s ++ l.flatMap g
  | [], s => by simp
  | a :: l, s => by
    rw [List.foldl_cons, foldl_flat g l]
    simp
end Go.Proofs.Ytbgdojniimdihaa.X
