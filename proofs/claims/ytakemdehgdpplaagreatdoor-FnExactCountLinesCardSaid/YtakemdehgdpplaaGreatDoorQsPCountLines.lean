/- The plain law of CountLines: both sides count the lines of a program that they take. -/
import Derived.Test.YtakemdehgdpplaaGreatDoorQsSI
namespace Go.Proofs.YtakemdehgdpplaaGreatDoor.X
open Go
set_option linter.unusedSimpArgs false
set_option linter.unusedVariables false
noncomputable def resCL (l : List UInt8) : Int × Int := match cmpS l with
 | .inl (_, c) => (0, c)
 | .inr s => ((s.1 : Int), 0)
theorem specCL_eq {l : List UInt8} (hl : l.length ≤ 1048576) : f4G KK (mk l) = some (resCL l) := by
 obtain ⟨r, e, h⟩ := specC_eq l hl
 unfold f4G resCL
 rw [e, oB]
 cases hc : cmpS l with
 | inl x =>
  rw [hc] at h
  obtain ⟨h1, h2⟩ := h
  have hb : (r.2.2 != (0 : Int)) = true := by rw [h1, bne_iff_ne]; exact h2
  rw [hb, h1]
  cases r.1 <;> rfl
 | inr s =>
  rw [hc] at h
  rw [h.1]
  rfl
theorem implCL_eq {l : List UInt8} (hl : l.length ≤ 1048576) : f5G KK (mk l) = some (resCL l) := by
 unfold f5G resCL
 obtain ⟨r, e, h⟩ := specC_eq l hl
 rw [implC_eq l hl, oB]
 cases hc : cmpS l with
 | inl x =>
  rw [hc] at h
  have hb : (x.2 != (0 : Int)) = true := by rw [bne_iff_ne]; exact h.2
  simp only
  rw [hb]
  rfl
 | inr s => rfl
theorem FnExactCountLines_pure (a0 : ByteArray) (h : WfA [.str] (a0, ())) : ∃ K, f3G K a0 = some true := by
 refine ⟨KK, ?_⟩
 obtain ⟨l, rfl⟩ := ex_mk a0
 unfold f3G
 rw [sz_mk]
 by_cases hl : 1048576 < l.length
 ·rw [dT (show (l.length : Int) > 1048576 by omega)]
  rfl
 ·rw [dF (show ¬ (l.length : Int) > 1048576 by omega), cF, specCL_eq (by omega), implCL_eq (by omega)]
  simp only [oB, bne_self_eq_false, oT, tO, cT, cF]
end Go.Proofs.YtakemdehgdpplaaGreatDoor.X
