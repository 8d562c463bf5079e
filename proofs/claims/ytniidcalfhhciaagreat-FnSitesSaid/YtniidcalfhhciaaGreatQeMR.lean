/- Plain facts: codes of groups and patterns, which groups keep a pattern, the first cells of orbits. -/
import Derived.Test.YtniidcalfhhciaaGreatQeMQ
import Derived.Test.YtniidcalfhhciaaGreatQeMN
namespace Go.Proofs.YtniidcalfhhciaaGreat.X
open Go
set_option linter.unusedSimpArgs false
set_option linter.unusedVariables false
def dP : Pt := (0, (0, 0, 0), [])
theorem codeC_in (f : Int) (l : Lt) (g : List Mo) (b : Bool) : codeC f l g b = bif codeC f l g true != 0 then codeC f l g true else bif b then 0 else 2 := by
  unfold codeC
  cases okF f && okL l <;> cases grpB f l g <;> cases b <;> rfl
theorem codeG_C (f : Int) (l : Lt) (g : List Mo) : codeG f l g = codeC f l g true := by
  unfold codeG codeC
  rw [Bool.true_and]
theorem okP_parts {p : Pt} (h : okP p = true) : okF p.1 = true ∧ okL p.2.1 = true := by
  unfold okP at h
  simp only [Bool.and_eq_true] at h
  exact h.1.1
def codeK (p : Pt) (g : List Mo) : Int := bif okP p then (if grpB p.1 p.2.1 g then 0 else 2) else 1
theorem codeK_0 {p : Pt} {g : List Mo} (h : codeK p g = 0) : IsP p ∧ OrbG p.1 p.2.1 g := by
  unfold codeK at h
  cases ho : okP p
  · rw [ho] at h; cases h
  · rw [ho, cond_true] at h
    obtain ⟨h1, h2⟩ := okP_parts ho
    refine ⟨okP_P ho, (codeC_0 (b := true) ?_).1⟩
    unfold codeC
    rw [h1, h2]
    simpa using h
def keptS (p : Pt) (g : List Mo) : Bool := g.all (keepsS p)
theorem orbs_ne {f : Int} {l : Lt} {g : List Mo} (h : OrbG f l g) {o : List Vc} (ho : o ∈ orbsS l g) : ∃ x t, o = x :: t ∧ cellB l x = true := by
  obtain ⟨r, hr, rfl⟩ := List.mem_map.1 ho
  have hc : cellB l r = true := cellsS_cell (List.mem_filter.1 hr).1
  obtain ⟨x, t, e, _⟩ := orb_cons h hc
  exact ⟨x, t, e, orb_cell h (v := r) (by rw [e]; simp)⟩
end Go.Proofs.YtniidcalfhhciaaGreat.X
