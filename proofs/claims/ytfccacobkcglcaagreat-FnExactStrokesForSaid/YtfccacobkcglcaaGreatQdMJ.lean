/- Plain facts: marks written into lists, and marks found again. -/
import Derived.Test.YtfccacobkcglcaaGreatQdMG
namespace Go.Proofs.YtfccacobkcglcaaGreat.X
open Go
set_option linter.unusedSimpArgs false
set_option linter.unusedVariables false
theorem iter_ex {X R : Type} {body : (X → Option R) → X → Option R} (n : Nat) (P : Nat → X → Prop) (Q : R → Prop) (h1 : ∀ L q x, q < n → P q x → ∃ x', P (q + 1) x' ∧ body L x = L x') (h2 : ∀ L x, P n x → ∃ r, Q r ∧ body L x = some r) : ∀ fuel q x, q ≤ n → n - q < fuel → P q x → ∃ r, Q r ∧ iter body fuel x = some r
  | 0, q, x, _, h, _ => by omega
  | fuel + 1, q, x, hq, h, hp => by
    by_cases hlt : q < n
    · obtain ⟨x', hp', e⟩ := h1 (iter body fuel) q x hlt hp
      obtain ⟨r, hr, e2⟩ := iter_ex n P Q h1 h2 fuel (q + 1) x' hlt (by omega) hp'
      exact ⟨r, hr, by show body (iter body fuel) x = _; rw [e, e2]⟩
    · have e : q = n := by omega
      subst e
      exact h2 (iter body fuel) x hp
def MkI (k : Int) (s : List Int) (n : Nat) : Prop := ∀ i, i < n → s[i]? = some (k + (i : Int))
theorem markInt64S_gen (l : List Int) {k : Int} (hk : 0 ≤ k) (hk2 : k ≤ 1000000000) (hl : l.length ≤ 1048576) : ∃ r : List Int × Int, (r.2 = k + (l.length : Int) ∧ r.1.length = l.length ∧ MkI k r.1 l.length) ∧ f124G KK l k = some r := by
  unfold f124G f124_g f124_l2
  refine iter_ex (X := Int × Int × List Int) (R := List Int × Int) l.length (fun q x => x.1 = k + (q : Int) ∧ x.2.1 = (q : Int) ∧ x.2.2.length = l.length ∧ MkI k x.2.2 q) _ ?_ ?_ KK 0 (k, 0, l) (by omega) (by simp only [KK]; omega) ⟨by simp, by simp, rfl, fun i hi => by omega⟩
  · rintro L q ⟨x1, x2, s⟩ hq ⟨e1, e2, e3, e4⟩
    simp only at e1 e2 e3 e4
    subst e2
    refine ⟨(x1 + 1, ((q + 1 : Nat) : Int), s.set q x1), ⟨by simp only; omega, rfl, by simp [e3], fun i hi => ?_⟩, ?_⟩
    · simp only
      by_cases h : i = q
      · subst h; rw [List.getElem?_set_self (by omega), e1]
      · rw [List.getElem?_set_ne (by omega)]; exact e4 i (by omega)
    · unfold f124_b2
      have hz : ((0 : Int) + (q : Int)).toNat = q := by omega
      rw [in1 (show q < s.length by omega), in0, w_succ (by omega), w_id (n := x1 + 1) (by omega) (by omega), hz]
      rfl
  · rintro L ⟨x1, x2, s⟩ ⟨e1, e2, e3, e4⟩
    simp only at e1 e2 e3 e4
    subst e2
    refine ⟨(s, x1), ⟨e1, e3, e4⟩, ?_⟩
    show f124_b2 KK (fun v0 v1 v2 => L (v0, v1, v2)) x1 (l.length : Int) s = _
    unfold f124_b2
    rw [show decide ((l.length : Int) < (s.length : Int)) = false by simp; omega, cond_false]
def MkV2 (k : Int) (s : List Vc) (n : Nat) : Prop := ∀ i, i < n → s[i]? = some (k + 2 * (i : Int), k + 1 + 2 * (i : Int))
end Go.Proofs.YtfccacobkcglcaaGreat.X
