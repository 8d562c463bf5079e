/- Plain facts: marks written into lists, and marks found again. -/
import Derived.Test.YtmnciknpeefkfaaGreatQhMG
namespace Go.Proofs.YtmnciknpeefkfaaGreat.X
open Go
set_option linter.unusedVariables false
theorem iter_ex {X R : Type} {body : (X → Option R) → X → Option R} (n : Nat) (P : Nat → X → Prop) (Q : R → Prop) (h1 : ∀ L q x, q < n → P q x → ∃ x', P (q + 1) x' ∧ body L x = L x') (h2 : ∀ L x, P n x → ∃ r, Q r ∧ body L x = some r) : ∀ fuel q x, q ≤ n → n - q < fuel → P q x → ∃ r, Q r ∧ iter body fuel x = some r
  | 0, q, x, _, h, _ => by omega
  | fuel + 1, q, x, hq, h, hp => by
    by_cases hlt : q < n
    · obtain ⟨x', hp', e⟩ := h1 (iter body fuel) q x hlt hp
      obtain ⟨r, hr, e2⟩ := iter_ex n P Q h1 h2 fuel (q + 1) x' hlt (by omega) hp'
      exact ⟨r, hr, by show body (iter body fuel) x = _; rw [e, e2]⟩
    · have e : q = n := by omega
      subst e
      exact h2 (iter body fuel) x hp
def MkI (k : Int) (s : List Int) (n : Nat) : Prop := ∀ i, i < n → s[i]? = some (k + (i : Int))
def MkV2 (k : Int) (s : List Vc) (n : Nat) : Prop := ∀ i, i < n → s[i]? = some (k + 2 * (i : Int), k + 1 + 2 * (i : Int))
theorem markVecS_gen (l : List Vc) {k : Int} (hk : 0 ≤ k) (hk2 : k ≤ 1000000000) (hl : l.length ≤ 1048576) : ∃ r : List Vc × Int, (r.2 = k + 2 * (l.length : Int) ∧ r.1.length = l.length ∧ MkV2 k r.1 l.length) ∧ f48G KK l k = some r := by
  unfold f48G f48_g f48_l2
  refine iter_ex (X := Int × Int × List Vc) (R := List Vc × Int) l.length (fun q x => x.1 = k + 2 * (q : Int) ∧ x.2.1 = (q : Int) ∧ x.2.2.length = l.length ∧ MkV2 k x.2.2 q) _ ?_ ?_ KK 0 (k, 0, l) (by omega) (by simp only [KK]; omega) ⟨by simp, by simp, rfl, fun i hi => by omega⟩
  · rintro L q ⟨x1, x2, s⟩ hq ⟨e1, e2, e3, e4⟩
    simp only at e1 e2 e3 e4
    subst e2
    have hq2 : q < s.length := by omega
    refine ⟨(x1 + 2, ((q + 1 : Nat) : Int), s.set q (x1, x1 + 1)), ⟨by simp only; omega, rfl, by simp [e3], fun i hi => ?_⟩, ?_⟩
    · simp only
      by_cases h : i = q
      · subst h
        rw [List.getElem?_set_self (by omega), e1]
        congr 2
        omega
      · rw [List.getElem?_set_ne (by omega)]; exact e4 i (by omega)
    · unfold f48_b2
      have hz : ((0 : Int) + (q : Int)).toNat = q := by omega
      rw [in1 hq2, in0, w_succ (by omega), w_id (n := x1 + 1) (by omega) (by omega), w_id (n := x1 + 1 + 1) (by omega) (by omega), hz, List.length_set, in1 hq2, List.set_set]
      simp only [Bool.and_self, cond_true]
      have e2 : ∀ d : Vc, ((s.set q (x1, (s.getD q d).2)).getD q d).1 = x1 := by
        intro d
        simp [List.getD, hq2]
      rw [e2]
      have e5 : x1 + 1 + 1 = x1 + 2 := by omega
      rw [e5]
  · rintro L ⟨x1, x2, s⟩ ⟨e1, e2, e3, e4⟩
    simp only at e1 e2 e3 e4
    subst e2
    refine ⟨(s, x1), ⟨e1, e3, e4⟩, ?_⟩
    show f48_b2 KK (fun v0 v1 v2 => L (v0, v1, v2)) x1 (l.length : Int) s = _
    unfold f48_b2
    rw [show decide ((l.length : Int) < (s.length : Int)) = false by simp; omega, cond_false]
theorem markMotionS_gen (l : List Mo) {k : Int} (hk : 0 ≤ k) (hk2 : k ≤ 1000000000) (hl : l.length ≤ 1048576) : ∃ r : List Mo × Int, (r.2 = k + 6 * (l.length : Int) ∧ r.1.length = l.length) ∧ f31G KK l k = some r := by
  unfold f31G f31_g f31_l2
  refine iter_ex (X := Int × Int × List Mo) (R := List Mo × Int) l.length (fun q x => x.1 = k + 6 * (q : Int) ∧ x.2.1 = (q : Int) ∧ x.2.2.length = l.length) _ ?_ ?_ KK 0 (k, 0, l) (by omega) (by simp only [KK]; omega) ⟨by simp, by simp, rfl⟩
  · rintro L q ⟨x1, x2, s⟩ hq ⟨e1, e2, e3⟩
    simp only at e1 e2 e3
    subst e2
    have hq2 : q < s.length := by omega
    suffices h : ∃ y : List Mo, y.length = s.length ∧ f31_b2 KK (fun v0 v1 v2 => L (v0, v1, v2)) x1 (q : Int) s = L (x1 + 6, ((q + 1 : Nat) : Int), y) by
      obtain ⟨y, hy, e⟩ := h
      exact ⟨(x1 + 6, ((q + 1 : Nat) : Int), y), ⟨by simp only; omega, rfl, by simp only; omega⟩, e⟩
    unfold f31_b2
    rw [in1 hq2, in0, w_succ (by omega), w_id (n := x1 + 1) (by omega) (by omega), w_id (n := x1 + 1 + 1) (by omega) (by omega), w_id (n := x1 + 1 + 1 + 1) (by omega) (by omega), w_id (n := x1 + 1 + 1 + 1 + 1) (by omega) (by omega), w_id (n := x1 + 1 + 1 + 1 + 1 + 1) (by omega) (by omega), w_id (n := x1 + 1 + 1 + 1 + 1 + 1 + 1) (by omega) (by omega)]
    simp (config := { zeta := false }) only [List.length_set, in1 hq2, Bool.and_self, cond_true]
    extract_lets s4 s5 s6
    have l4 : s4.length = s.length := by simp only [s4, List.length_set]
    have l5 : s5.length = s.length := by simp only [s5, List.length_set, l4]
    have l6 : s6.length = s.length := by simp only [s6, List.length_set, l5]
    refine ⟨s6, l6, ?_⟩
    rw [in1 (show q < s4.length by omega), in1 (show q < s5.length by omega)]
    simp only [Bool.and_self, cond_true]
    have e5 : x1 + 1 + 1 + 1 + 1 + 1 + 1 = x1 + 6 := by omega
    rw [e5]
  · rintro L ⟨x1, x2, s⟩ ⟨e1, e2, e3⟩
    simp only at e1 e2 e3
    subst e2
    refine ⟨(s, x1), ⟨e1, e3⟩, ?_⟩
    show f31_b2 KK (fun v0 v1 v2 => L (v0, v1, v2)) x1 (l.length : Int) s = _
    unfold f31_b2
    rw [show decide ((l.length : Int) < (s.length : Int)) = false by simp; omega, cond_false]
theorem heldVecS_gen (s : List Vc) {k : Int} (hk : 0 ≤ k) (hk2 : k ≤ 1000000000) (hl : s.length ≤ 1048576) (hm : MkV2 k s s.length) : f49G KK s k = some (k + 2 * (s.length : Int)) := by
  have h := iter_fold (X := Int × Int) (body := fun L x => f49_b2 KK s (fun v0 v1 => L (v0, v1)) x.1 x.2) s (fun q k => (k, (q : Int))) (fun k _ => k + 2) (fun k => some k) (fun q k' => k' = k + 2 * (q : Int))
    (fun L q k' hq hi => by
      refine ⟨by omega, ?_⟩
      have h1 := hm q hq
      rw [List.getElem?_eq_getElem hq, Option.some.injEq] at h1
      unfold f49_b2
      simp only
      rw [in1 hq, in0, gd hq, w_succ (by omega), w_id (n := k' + 1) (by omega) (by omega), w_id (n := k' + 1 + 1) (by omega) (by omega), h1]
      have e1 : ((k + 2 * (q : Int)) != k') = false := by simp; omega
      have e2 : ((k + 1 + 2 * (q : Int)) != k' + 1) = false := by simp; omega
      simp only [Bool.and_self, cond_true, e1, e2, cond_false]
      have e3 : k' + 1 + 1 = k' + 2 := by omega
      rw [e3])
    (fun L k' hi => by
      unfold f49_b2
      simp only
      rw [out1, cond_false]) KK 0 k (by omega) (by simp only [KK]; omega) (by simp)
  have hf := foldl_inv (fun (k : Int) (_ : Vc) => k + 2) (fun q k' => k' = k + 2 * (q : Int)) s 0 k (by simp) (fun i k hi hP => by omega)
  rw [List.drop_zero] at h
  simp only [Nat.zero_add] at hf
  unfold f49G f49_g f49_l2
  rw [← hf]
  exact h
end Go.Proofs.YtmnciknpeefkfaaGreat.X
