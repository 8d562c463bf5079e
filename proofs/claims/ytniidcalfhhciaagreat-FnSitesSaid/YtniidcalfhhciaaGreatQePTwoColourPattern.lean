/- The plain law of TwoColourPattern: both sides mark the group's orbit with 2, and then the half's with 1. -/
import Derived.Test.YtniidcalfhhciaaGreatQePSeedPattern
import Derived.Test.YtniidcalfhhciaaGreatQeMR
namespace Go.Proofs.YtniidcalfhhciaaGreat.X
open Go
set_option linter.unusedSimpArgs false
set_option linter.unusedVariables false
/-- half of a group, and a cell -/
def halfB (f : Int) (l : Lt) (g s : List Mo) (v : Vc) : Bool := cellB l v && (grpB f l s && ((2 * s.length == g.length) && s.all g.contains))
def codeH (f : Int) (l : Lt) (g s : List Mo) (v : Vc) : Int := bif codeC f l g true != 0 then codeC f l g true else bif halfB f l g s v then (bif decide (48 < g.length) then 3 else 0) else 2
theorem grpB_orb {f : Int} {l : Lt} {g : List Mo} (hl : IsL l) (h : grpB f l g = true) : OrbG f l g := by
  refine ⟨hl, pre_of ?_, h⟩
  unfold grpB at h
  rw [Bool.and_eq_true] at h
  exact h.1
theorem codeC_ok {f : Int} {l : Lt} {g : List Mo} (h : codeC f l g true = 0) : okF f = true ∧ okL l = true ∧ grpB f l g = true := by
  unfold codeC at h
  by_cases h1 : (okF f && okL l) = true
  · rw [if_pos h1] at h
    by_cases h2 : (true && grpB f l g) = true
    · simp only [Bool.and_eq_true] at h1 h2
      exact ⟨h1.1, h1.2, h2.2⟩
    · rw [if_neg h2] at h; omega
  · rw [if_neg h1] at h; omega
theorem twoI {a b : Nat} (ha : a ≤ 1048576) (hb : b ≤ 1048576) : ((w ((2 : Int) * (a : Int))) == (b : Int)) = (2 * a == b) := by
  rw [w_id (by omega) (by omega), Bool.eq_iff_iff, beq_iff_eq, beq_iff_eq]
  omega
theorem g48 (n : Nat) : decide ((n : Int) > (48 : Int)) = decide (48 < n) := by
  rw [decide_eq_decide]; omega
theorem codeH_0 {f : Int} {l : Lt} {g s : List Mo} {v : Vc} (h : codeH f l g s v = 0) : OrbG f l g ∧ OrbG f l s ∧ cellB l v = true ∧ s.all g.contains = true := by
  unfold codeH at h
  cases h1 : codeC f l g true != 0
  · have h0 : codeC f l g true = 0 := by simpa using h1
    have hG := (codeC_0 h0).1
    rw [h1, cond_false] at h
    cases h2 : halfB f l g s v
    · rw [h2] at h; cases h
    · unfold halfB at h2
      simp only [Bool.and_eq_true] at h2
      exact ⟨hG, grpB_orb hG.la h2.2.1, h2.1, h2.2.2.2⟩
  · rw [h1, cond_true] at h
    rw [h] at h1
    cases h1
def twoS (l : Lt) (g s : List Mo) (v : Vc) : List Int := setAll l 1 (orbS l s v) (setAll l 2 (orbS l g v) (List.replicate (cellsS l).length 0))
theorem twoS_len (l : Lt) (g s : List Mo) (v : Vc) : (twoS l g s v).length = (cellsS l).length := by unfold twoS; rw [setAll_len, setAll_len]; simp
theorem orb_sub {l : Lt} {g s : List Mo} (h : s.all g.contains = true) {u v : Vc} (hu : u ∈ orbS l s v) : u ∈ orbS l g v := by
  obtain ⟨m, hm, e⟩ := orbS_mem.1 hu
  exact orbS_mem.2 ⟨m, List.contains_iff_mem.1 (List.all_eq_true.1 h m hm), e⟩
theorem orb_le {l : Lt} {g s : List Mo} (h : s.all g.contains = true) (v : Vc) : (orbS l s v).length ≤ (orbS l g v).length :=
  nodup_len _ _ (SI_nodup (orbS_SI l s v)) fun x hx => orb_sub h hx
def resTC (f : Int) (l : Lt) (g s : List Mo) (v : Vc) : Pt × Int := bif codeH f l g s v != 0 then (dP, codeH f l g s v) else bif decide ((orbS l s v).length < (orbS l g v).length) then ((f, l, twoS l g s v), 0) else (dP, 5)
theorem resTC_len {f : Int} {l : Lt} {g s : List Mo} {v : Vc} : (resTC f l g s v).1.2.2.length ≤ 1000 := by
  unfold resTC
  cases h : codeH f l g s v != 0
  · have h0 : codeH f l g s v = 0 := by simpa using h
    have := cellsS_le (codeH_0 h0).1.la
    have := twoS_len l g s v
    rw [cond_false]
    cases decide ((orbS l s v).length < (orbS l g v).length)
    · simp [dP]
    · simp only [cond_true]
      omega
  · simp [dP]
end Go.Proofs.YtniidcalfhhciaaGreat.X
