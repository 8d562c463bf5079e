/- The plain law of OrbitNumbers: both sides number the cells by their orbit. -/
import Derived.Test.YtniidcalfhhciaaGreatQbPSeedPattern
namespace Go.Proofs.YtniidcalfhhciaaGreat.X
open Go
set_option linter.unusedSimpArgs false
set_option linter.unusedVariables false
theorem reps_nodup {l : Lt} (hl : IsL l) (g : List Mo) : (repsS l g).Nodup := List.Pairwise.sublist List.filter_sublist (cellsS_nodup hl)
theorem reps_mem {l : Lt} {g : List Mo} {r : Vc} (h : r ∈ repsS l g) : cellB l r = true ∧ repB l g r = true := by
  obtain ⟨h1, h2⟩ := List.mem_filter.1 h
  exact ⟨cellsS_cell h1, h2⟩
/-- no other orbit has a cell of this one -/
theorem orbs_apart {f : Int} {l : Lt} {g : List Mo} (h : OrbG f l g) {q : Nat} (hq : q < (orbsS l g).length) {u : Vc} (hu : u ∈ (orbsS l g)[q]) : ((orbsS l g).take q).any (fun o => o.contains u) = false := by
  cases hx : ((orbsS l g).take q).any (fun o => o.contains u)
  · rfl
  · exfalso
    obtain ⟨o, ho, hc⟩ := List.any_eq_true.1 hx
    obtain ⟨i, hi, rfl⟩ := List.getElem_of_mem ho
    rw [List.length_take] at hi
    rw [List.getElem_take] at hc
    have hc := List.contains_iff_mem.1 hc
    have hql : q < (repsS l g).length := by simpa [orbsS] using hq
    have hil : i < (repsS l g).length := by omega
    have e1 : (orbsS l g)[q] = orbS l g (repsS l g)[q] := by simp [orbsS]
    have e2 : (orbsS l g)[i]'(by omega) = orbS l g (repsS l g)[i] := by simp [orbsS]
    rw [e1] at hu
    rw [e2] at hc
    obtain ⟨c1, c2⟩ := reps_mem (List.getElem_mem hql)
    obtain ⟨d1, d2⟩ := reps_mem (List.getElem_mem hil)
    have h5 : (repsS l g)[q] ∈ orbS l g (repsS l g)[i] := orb_trans h hc (orb_symm h c1 hu)
    have h6 := rep_one h d1 c1 d2 c2 h5
    have := (List.getElem_inj (reps_nodup h.la g)).1 h6
    omega
theorem orbs_cell {f : Int} {l : Lt} {g : List Mo} (h : OrbG f l g) {o : List Vc} (ho : o ∈ orbsS l g) : (∀ u ∈ o, cellB l u = true) ∧ o.length ≤ 768 := by
  obtain ⟨r, _, rfl⟩ := List.mem_map.1 ho
  refine ⟨fun u hu => orb_cell h hu, ?_⟩
  have := orbS_len l g r
  have := h.len
  omega
theorem orbs_all {f : Int} {l : Lt} {g : List Mo} (h : OrbG f l g) {u : Vc} (hu : cellB l u = true) : (orbsS l g).any (fun o => o.contains u) = true := by
  obtain ⟨w, h1, h2, h3, _⟩ := rep_of h hu
  refine List.any_eq_true.2 ⟨orbS l g w, List.mem_map.2 ⟨w, List.mem_filter.2 ⟨?_, h1⟩, rfl⟩, List.contains_iff_mem.2 h3⟩
  exact cellB_mem h.la h2
theorem orbs_len {l : Lt} (hl : IsL l) (g : List Mo) : (orbsS l g).length ≤ 64 := by
  unfold orbsS repsS
  rw [List.length_map]
  exact Nat.le_trans (List.length_filter_le _ _) (cellsS_le hl)
def resON (f : Int) (l : Lt) (g : List Mo) : List Int × Int := bif codeC f l g true != 0 then ([], codeC f l g true) else (numsF l g, 0)
theorem resON_len {f : Int} {l : Lt} {g : List Mo} : (resON f l g).1.length ≤ 1000 := by
  unfold resON
  cases h : codeC f l g true != 0
  · have h0 : codeC f l g true = 0 := by simpa using h
    have := cellsS_le (codeC_0 h0).1.la
    rw [cond_false]
    simp only [numsF, List.length_map]
    omega
  · simp
end Go.Proofs.YtniidcalfhhciaaGreat.X
