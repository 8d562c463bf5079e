/- Plain facts: marks written into lists, and marks found again. -/
import Derived.Test.YtfccacobkcglcaaGreatQeMG
namespace Go.Proofs.YtfccacobkcglcaaGreat.X
open Go
set_option linter.unusedSimpArgs false
set_option linter.unusedVariables false
theorem iter_ex {X R : Type} {body : (X → Option R) → X → Option R} (n : Nat) (P : Nat → X → Prop) (Q : R → Prop) (h1 : ∀ L q x, q < n → P q x → ∃ x', P (q + 1) x' ∧ body L x = L x') (h2 : ∀ L x, P n x → ∃ r, Q r ∧ body L x = some r) : ∀ fuel q x, q ≤ n → n - q < fuel → P q x → ∃ r, Q r ∧ iter body fuel x = some r
  | 0, q, x, _, h, _ => by omega
  | fuel + 1, q, x, hq, h, hp => by
    by_cases hlt : q < n
    · obtain ⟨x', hp', e⟩ := h1 (iter body fuel) q x hlt hp
      obtain ⟨r, hr, e2⟩ := iter_ex n P Q h1 h2 fuel (q + 1) x' hlt (by omega) hp'
      exact ⟨r, hr, by show body (iter body fuel) x = _; rw [e, e2]⟩
    · have e : q = n := by omega
      subst e
      exact h2 (iter body fuel) x hp
def MkI (k : Int) (s : List Int) (n : Nat) : Prop := ∀ i, i < n → s[i]? = some (k + (i : Int))
def MkV2 (k : Int) (s : List Vc) (n : Nat) : Prop := ∀ i, i < n → s[i]? = some (k + 2 * (i : Int), k + 1 + 2 * (i : Int))
end Go.Proofs.YtfccacobkcglcaaGreat.X
