/- The plain law of OrbitOf: both sides give the images of the cell in order, each once. -/
import Derived.Test.YtniidcalfhhciaaGreatQfMK
import Derived.Test.YtniidcalfhhciaaGreatXRow
namespace Go.Proofs.YtniidcalfhhciaaGreat.X
open Go
set_option linter.unusedSimpArgs false
set_option linter.unusedVariables false
theorem codeC_cell (l : Lt) (v : Vc) : ∃ b, f170G KK l v = some b ∧ ∀ f g, codeC f l g b = codeC f l g (cellB l v) := by
  by_cases h : okL l = true
  · exact ⟨_, l07Cell_eq (IsL_of h) v, fun _ _ => rfl⟩
  · obtain ⟨b, hb⟩ := l07Cell_some l v
    refine ⟨b, hb, fun f g => ?_⟩
    have : okL l = false := by simpa using h
    unfold codeC
    rw [this, Bool.and_false]
    rfl
def resOrb (f : Int) (l : Lt) (g : List Mo) (v : Vc) : List Vc × Int := bif codeC f l g (cellB l v) != 0 then ([], codeC f l g (cellB l v)) else (orbS l g v, 0)
theorem specOrb_eq (f : Int) (l : Lt) {g : List Mo} (hn : g.length ≤ 1048576) (v : Vc) : f86G KK f l g v = some (resOrb f l g v) := by
  obtain ⟨b, hb, hc⟩ := codeC_cell l v
  unfold f86G resOrb
  rw [hb, Option.bind_some, specCode_eq f l hn, Option.bind_some, hc]
  cases h : codeC f l g (cellB l v) != 0
  · have h0 : codeC f l g (cellB l v) = 0 := by simpa using h
    obtain ⟨hG, hv⟩ := codeC_0 h0
    rw [cond_false, cond_false, l07Orbit_eq hG.la (by have := hG.len; omega) hG.good (cellB_Sv hG.la hv), Option.bind_some]
  · rfl
theorem implOrb_eq (f : Int) (l : Lt) {g : List Mo} (hn : g.length ≤ 1048576) (v : Vc) : f73G KK f l g v = some (resOrb f l g v) := by
  unfold f73G resOrb
  rw [cellCode_eq f l hn (by simp), Option.bind_some, show [v].all (cellB l) = cellB l v by simp]
  cases h : codeC f l g (cellB l v) != 0
  · have h0 : codeC f l g (cellB l v) = 0 := by simpa using h
    obtain ⟨hG, hv⟩ := codeC_0 h0
    rw [cond_false, cond_false, orbitOf_eq hG.la (by have := hG.len; omega) hG.good (cellB_Sv hG.la hv), Option.bind_some]
  · rfl
theorem resOrb_len {f : Int} {l : Lt} {g : List Mo} {v : Vc} : (resOrb f l g v).1.length ≤ 1000 := by
  unfold resOrb
  cases h : codeC f l g (cellB l v) != 0
  · have h0 : codeC f l g (cellB l v) = 0 := by simpa using h
    have := (codeC_0 h0).1.len
    have := orbS_len l g v
    rw [cond_false]
    simp only
    omega
  · simp
end Go.Proofs.YtniidcalfhhciaaGreat.X
