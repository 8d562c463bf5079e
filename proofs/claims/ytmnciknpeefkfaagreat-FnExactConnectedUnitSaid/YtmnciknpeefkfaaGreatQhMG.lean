/- Plain facts: copies and comparisons of lists of motions and of vectors. -/
import Derived.Test.YtmnciknpeefkfaaGreatQhMF
namespace Go.Proofs.YtmnciknpeefkfaaGreat.X
open Go
set_option linter.unusedVariables false
theorem iter_copy {α : Type} {body : (Int × List α → Option (List α)) → Int × List α → Option (List α)} (l : List α)
    (h1 : ∀ L q s (hq : q < l.length), s.length = l.length → body L ((q : Int), s) = L (((q + 1 : Nat) : Int), s.set q l[q])) (h2 : ∀ L s, body L ((l.length : Int), s) = some s) : ∀ n q s, q ≤ l.length → l.length - q < n → s.length = l.length → s.take q = l.take q → iter body n ((q : Int), s) = some l
  | 0, q, s, _, h, _, _ => by omega
  | n + 1, q, s, hq, h, hs, ht => by
    show body (iter body n) ((q : Int), s) = _
    by_cases hlt : q < l.length
    · rw [h1 _ q s hlt hs]
      refine iter_copy l h1 h2 n (q + 1) _ hlt (by omega) (by rw [List.length_set, hs]) ?_
      rw [List.take_add_one, List.take_add_one, List.take_set_of_le (Nat.le_refl _), ht, List.getElem?_set_self (by omega), List.getElem?_eq_getElem hlt]
    · have e : q = l.length := by omega
      subst e
      rw [h2]
      rw [List.take_length, ← hs, List.take_length] at ht
      rw [ht]
theorem blimB {n b : Nat} (h : n ≤ 1048576) (hb : 0 < b) (hb2 : b ≤ 1000) : Nat.ble n (lim b) = true := by
  simp only [lim, Nat.ble_eq]
  rw [Nat.le_div_iff_mul_le hb]
  have : n * b ≤ 1048576 * 1000 := Nat.mul_le_mul h hb2
  omega
theorem toMotion_eq (m : Mo) : f61G KK m = some m := by
  unfold f61G f130G f29G
  rfl
theorem toMotionS_eq {l : List Mo} (hl : l.length ≤ 1048576) : f16G KK l = some l := by
  unfold f16G f16_g
  have h0 : (decide (0 ≤ (l.length : Int)) && Nat.ble (l.length : Int).toNat (lim 48) && ((l.length : Int) == (l.length : Int))) = true := by
    rw [show (l.length : Int).toNat = l.length by omega, blimB hl (by omega) (by omega)]; simp
  rw [h0, cond_true]
  have h := iter_copy (body := fun L x => f16_b3 KK l (fun v0 v1 => L (v0, v1)) x.1 x.2) l
    (fun L q s hq hs => by
      unfold f16_b3
      simp only
      have hz : ((0 : Int) + (q : Int)).toNat = q := by omega
      rw [in1 hq, in1 (show q < s.length by omega), in0, gd hq, w_succ (by omega), hz]
      simp only [Bool.and_self, cond_true]
      rw [toMotion_eq, Option.bind_some])
    (fun L s => by
      unfold f16_b3
      simp only
      rw [out1, cond_false]) KK 0 (List.replicate (l.length : Int).toNat dMo) (by omega) (by simp only [KK]; omega) (by simp) (by simp)
  unfold f16_l3
  exact h
theorem eqMotion_eq (m : Mo) : f65G KK m m = some true := by
  unfold f65G f132G f112G
  simp
theorem eqVec_eq (v : Vc) : f112G KK v v = some true := by
  unfold f112G
  simp
theorem eqMotionS_eq {l : List Mo} (hl : l.length ≤ 1048576) : f18G KK l l = some true := by
  unfold f18G f18_g f18_l3
  rw [show ((l.length : Int) != (l.length : Int)) = false by simp, cond_false]
  have h := iter_all (X := Int) (body := fun L x => f18_b3 KK l l (fun v0 => L v0) x) l (fun q => (q : Int)) (fun _ => true) (some false) (some true)
    (fun L q hq => by
      unfold f18_b3
      rw [in1 hq, in0, gd hq, w_succ (by omega), eqMotion_eq]
      simp)
    (fun L => by
      unfold f18_b3
      rw [out1, cond_false]) KK 0 (by omega) (by simp only [KK]; omega)
  refine h.trans ?_
  rw [List.drop_zero, show (l.all fun _ => true) = true from List.all_eq_true.mpr (by simp)]
  rfl
theorem eqVecS_eq2 {l : List Vc} (hl : l.length ≤ 1048576) : f47G KK l l = some true := by
  unfold f47G f47_g f47_l3
  rw [show ((l.length : Int) != (l.length : Int)) = false by simp, cond_false]
  have h := iter_all (X := Int) (body := fun L x => f47_b3 KK l l (fun v0 => L v0) x) l (fun q => (q : Int)) (fun _ => true) (some false) (some true)
    (fun L q hq => by
      unfold f47_b3
      rw [in1 hq, in0, gd hq, w_succ (by omega), eqVec_eq]
      simp)
    (fun L => by
      unfold f47_b3
      rw [out1, cond_false]) KK 0 (by omega) (by simp only [KK]; omega)
  refine h.trans ?_
  rw [List.drop_zero, show (l.all fun _ => true) = true from List.all_eq_true.mpr (by simp)]
  rfl
/-- what is left of a bound on all lists together -/
theorem sz_small {n : Nat} {left : Int} (h0 : 0 ≤ left) (h1 : left ≤ 1048576) (h : (n : Int) ≤ left) : decide ((w (left - (n : Int))) < (0 : Int)) = false ∧ w (left - (n : Int)) = left - n := by
  have e : w (left - (n : Int)) = left - n := w_id (by omega) (by omega)
  rw [e]
  exact ⟨decide_eq_false (by omega), rfl⟩
theorem sz_large {n : Nat} {left : Int} (h0 : 0 ≤ left) (h1 : left ≤ 1048576) (hm : n ≤ maxLen) (h : ¬ (n : Int) ≤ left) : decide ((w (left - (n : Int))) < (0 : Int)) = true := by
  simp only [maxLen] at hm
  rw [w_id (by omega) (by omega)]
  exact decide_eq_true (by omega)
end Go.Proofs.YtmnciknpeefkfaaGreat.X
