/- Plain facts: codes of groups and patterns, which groups keep a pattern, the first cells of orbits. -/
import Derived.Test.YtniidcalfhhciaaGreatQcMQ
import Derived.Test.YtniidcalfhhciaaGreatQcMN
namespace Go.Proofs.YtniidcalfhhciaaGreat.X
open Go
set_option linter.unusedSimpArgs false
set_option linter.unusedVariables false
def dP : Pt := (0, (0, 0, 0), [])
theorem codeC_in (f : Int) (l : Lt) (g : List Mo) (b : Bool) : codeC f l g b = bif codeC f l g true != 0 then codeC f l g true else bif b then 0 else 2 := by
  unfold codeC
  cases okF f && okL l <;> cases grpB f l g <;> cases b <;> rfl
theorem codeG_C (f : Int) (l : Lt) (g : List Mo) : codeG f l g = codeC f l g true := by
  unfold codeG codeC
  rw [Bool.true_and]
theorem groupCode_C (f : Int) (l : Lt) {g : List Mo} (hn : g.length ≤ 1048576) : f198G KK f l [g] = some (codeC f l g true) := by
  rw [groupCode_eq f l hn, codeG_C]
theorem okP_parts {p : Pt} (h : okP p = true) : okF p.1 = true ∧ okL p.2.1 = true := by
  unfold okP at h
  simp only [Bool.and_eq_true] at h
  exact h.1.1
def codeK (p : Pt) (g : List Mo) : Int := bif okP p then (if grpB p.1 p.2.1 g then 0 else 2) else 1
theorem codeK_0 {p : Pt} {g : List Mo} (h : codeK p g = 0) : IsP p ∧ OrbG p.1 p.2.1 g := by
  unfold codeK at h
  cases ho : okP p
  · rw [ho] at h; cases h
  · rw [ho, cond_true] at h
    obtain ⟨h1, h2⟩ := okP_parts ho
    refine ⟨okP_P ho, (codeC_0 (b := true) ?_).1⟩
    unfold codeC
    rw [h1, h2]
    simpa using h
theorem l13Code_eq (p : Pt) {g : List Mo} (hn : g.length ≤ 1048576) : f203G KK p g = some (codeK p g) := by
  unfold f203G codeK
  rw [specIsPattern_eq, Option.bind_some]
  cases ho : okP p
  · rfl
  · obtain ⟨h1, h2⟩ := okP_parts ho
    rw [specIsGroup_eq p.1 p.2.1 hn, h1, h2]
    cases grpB p.1 p.2.1 g <;> rfl
theorem keptCode_eq (p : Pt) {g : List Mo} (hn : g.length ≤ 1048576) : f196G KK p g = some (codeK p g) := by
  unfold f196G codeK
  rw [isPattern_eq, Option.bind_some]
  cases ho : okP p
  · rfl
  · obtain ⟨h1, h2⟩ := okP_parts ho
    rw [groupCode_eq p.1 p.2.1 hn]
    unfold codeG
    rw [h1, h2]
    cases grpB p.1 p.2.1 g <;> rfl
def keptS (p : Pt) (g : List Mo) : Bool := g.all (keepsS p)
theorem l13Kept_eq {p : Pt} (hp : IsP p) {g : List Mo} (h : OrbG p.1 p.2.1 g) : f204G KK p g = some (keptS p g) := by
  have hl := h.len
  have hh := iter_all (R := Bool) (body := fun L x => f204_b3 KK p g (fun v0 => L v0) x) g (fun q => (q : Int)) (keepsS p) (some false) (some true)
    (fun L q hq => by
      have hg := h.good _ (List.getElem_mem hq)
      unfold f204_b3
      rw [in1 hq, in0, gd hq]
      simp only [Bool.and_self, cond_true]
      rw [show f265G KK p ((g[q].1.1, g[q].1.2.1, g[q].1.2.2), g[q].2) = some (keepsS p g[q]) from l09Keeps_eq hp (pm_sm hg.1) hg.2, Option.bind_some, w_succ (by omega)]
      cases keepsS p g[q] <;> rfl)
    (fun L => by
      unfold f204_b3
      rw [out1, cond_false]) KK 0 (by omega) (by simp only [KK]; omega)
  unfold f204G f204_g f204_l3
  refine hh.trans ?_
  rw [List.drop_zero]
  unfold keptS
  cases g.all (keepsS p) <;> rfl
theorem isKept_eq {p : Pt} (hp : IsP p) {g : List Mo} (h : OrbG p.1 p.2.1 g) : f197G KK p g = some (keptS p g) := by
  have hl := h.len
  have hh := iter_all (R := Bool) (body := fun L x => f197_b3 KK p g (fun v0 => L v0) x) g (fun q => (q : Int)) (keepsS p) (some false) (some true)
    (fun L q hq => by
      have hg := h.good _ (List.getElem_mem hq)
      unfold f197_b3
      rw [in1 hq, in0, gd hq]
      simp only [Bool.and_self, cond_true]
      rw [show f267G KK p ((g[q].1.1, g[q].1.2.1, g[q].1.2.2), g[q].2) = some (keepsS p g[q]) from keeps_eq hp (pm_sm hg.1) hg.2, Option.bind_some, w_succ (by omega)]
      cases keepsS p g[q] <;> rfl)
    (fun L => by
      unfold f197_b3
      rw [out1, cond_false]) KK 0 (by omega) (by simp only [KK]; omega)
  unfold f197G f197_g f197_l3
  refine hh.trans ?_
  rw [List.drop_zero]
  unfold keptS
  cases g.all (keepsS p) <;> rfl
theorem orbs_ne {f : Int} {l : Lt} {g : List Mo} (h : OrbG f l g) {o : List Vc} (ho : o ∈ orbsS l g) : ∃ x t, o = x :: t ∧ cellB l x = true := by
  obtain ⟨r, hr, rfl⟩ := List.mem_map.1 ho
  have hc : cellB l r = true := cellsS_cell (List.mem_filter.1 hr).1
  obtain ⟨x, t, e, _⟩ := orb_cons h hc
  exact ⟨x, t, e, orb_cell h (v := r) (by rw [e]; simp)⟩
end Go.Proofs.YtniidcalfhhciaaGreat.X
