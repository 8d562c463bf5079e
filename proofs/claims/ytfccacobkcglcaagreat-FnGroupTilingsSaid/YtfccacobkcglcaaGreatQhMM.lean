/- Plain facts: free groups and tiles that a code draws. -/
import Derived.Test.YtfccacobkcglcaaGreatQhMT
namespace Go.Proofs.YtfccacobkcglcaaGreat.X
open Go
set_option linter.unusedSimpArgs false
set_option linter.unusedVariables false
noncomputable def stdK (n : Int) : Bool := match f143G KK (bs [112, 103]) n with | some r => decide (r.2.2.1.length ≤ 2000) | none => false
theorem std_1 : stdK 1 = true := by kernel_rfl
theorem std_2 : stdK 2 = true := by kernel_rfl
theorem std_ok {n : Int} (h : stdK n = true) : ∃ f l g e, f143G KK (bs [112, 103]) n = some (f, l, g, e) ∧ g.length ≤ 2000 := by
 unfold stdK at h
 split at h
 ·rename_i r hr
  exact ⟨r.1, r.2.1, r.2.2.1, r.2.2.2, hr, of_decide_eq_true h⟩
 ·cases h
theorem four_L : IsL (4, 0, 4) := okL_iff.1 (by decide)
theorem four_close (m : Mo) (h : ((stabS 0 (4, 0, 4)).contains m.1 && cellB (4, 0, 4) m.2) = true) : ∃ g, f253G KK (4, 0, 4) [m] = some g ∧ g.length ≤ 2000 := by
 rw [Bool.and_eq_true, List.contains_iff_mem] at h
 obtain ⟨g, e, hp, _⟩ := close_ok (f := 0) four_L (gs := [m]) (fun x hx => by rw [List.mem_singleton] at hx; rw [hx]; exact h) (by simp)
 exact ⟨g, e, by have := hp.len four_L; omega⟩
theorem dfree_ok {c : List Int} {t : Int × Int} (h : Src c t) : ∃ t' f l g, f277G KK (c, t) = some (t', f, l, g) ∧ Src c t' ∧ g.length ≤ 2000 := by
 unfold f277G
 obtain ⟨t1, r1, e1, h1, _⟩ := next_ok h 6
 rw [e1, oB]
 simp only
 cases r1 == 0
 ·rw [cF]
  cases r1 == 1
  ·rw [cF]
   cases r1 == 2
   ·rw [cF]
    cases r1 == 3
    ·rw [cF]
     obtain ⟨t2, f, l, g, e2, h2, hg⟩ := draw_ok h1
     rw [e2]
     exact ⟨t2, f, l, g, rfl, h2, hg⟩
    ·rw [cT]
     obtain ⟨g, e, hg⟩ := four_close ((1, 0, 0, -1), (0, 1)) (by decide +kernel)
     rw [e]
     exact ⟨t1, _, _, g, rfl, h1, hg⟩
   ·rw [cT]
    obtain ⟨g, e, hg⟩ := four_close ((0, -1, 1, 0), (1, 0)) (by decide +kernel)
    rw [e]
    exact ⟨t1, _, _, g, rfl, h1, hg⟩
  ·rw [cT]
   obtain ⟨g, e, hg⟩ := four_close ((-1, 0, 0, -1), (1, 0)) (by decide +kernel)
   rw [e]
   exact ⟨t1, _, _, g, rfl, h1, hg⟩
 ·rw [cT]
  obtain ⟨t2, r2, e2, h2, a2, b2⟩ := next_pos h1 (n := 2) (by omega)
  rw [e2, oB]
  simp only
  have hr : stdK (w (1 + r2)) = true := by
   have : r2 = 0 ∨ r2 = 1 := by omega
   rcases this with rfl | rfl
   ·exact std_1
   ·exact std_2
  obtain ⟨f, l, g, e, e3, hg⟩ := std_ok hr
  rw [e3]
  exact ⟨t2, f, l, g, rfl, h2, hg⟩
end Go.Proofs.YtfccacobkcglcaaGreat.X
