/- The plain law of IsHanded: both sides look for a motion that turns the plane over. -/
import Derived.Test.YtniidcalfhhciaaGreatQdMD
import Derived.Test.YtniidcalfhhciaaGreatXRow
namespace Go.Proofs.YtniidcalfhhciaaGreat.X
open Go
set_option linter.unusedSimpArgs false
set_option linter.unusedVariables false
def handS (p : Pt) : Bool := (groupS p).all fun g => !(detS g.1 == -1)
theorem specIsHanded_eq (p : Pt) : f21G KK p = some (bif okP p then (handS (leanS p), 0) else (false, 1)) := by
  unfold f21G f21_g
  rw [specIsPattern_eq]
  simp only [Option.bind_some]
  cases h : okP p
  · rfl
  have hp := okP_P h
  have hq := leanS_P hp
  simp only [Bool.not_true, cond_false, cond_true]
  rw [l09Lean_eq hp, Option.bind_some, l10Group_eq hq, Option.bind_some]
  have hc := groupS_len hq
  have h := iter_all (X := Int) (body := fun L x => f21_b6 KK p true (groupS (leanS p)) (fun v0 => L v0) x) (groupS (leanS p)) (fun q => (q : Int)) (fun g => !(detS g.1 == -1)) (some (false, 0)) (some (true, 0))
    (fun L q hq2 => by
      have hg := groupS_mem (List.getElem_mem hq2)
      have hm := pm_sm (stab_mem hg.1)
      unfold f21_b6
      rw [in1 hq2, in0, gd hq2, w_succ (by omega)]
      simp only [Bool.and_self, cond_true]
      rw [show f132G KK ((groupS (leanS p))[q].1.1, (groupS (leanS p))[q].1.2.1, (groupS (leanS p))[q].1.2.2) = some (detS (groupS (leanS p))[q].1) from (det_eq hm).2, Option.bind_some]
      cases detS (groupS (leanS p))[q].1 == -1 <;> rfl)
    (fun L => by
      unfold f21_b6
      rw [out1, cond_false]) KK 0 (by omega) (by have := KKlt (n := (groupS (leanS p)).length) (by omega); omega)
  unfold f21_l6
  refine h.trans ?_
  rw [List.drop_zero]
  unfold handS
  cases (groupS (leanS p)).all fun g => !(detS g.1 == -1) <;> rfl
theorem hand_lin {p : Pt} (hp : IsP p) : (((groupS p).filter fun g => !(detS g.1 == 1)).length = 0) ↔ handS p = true := by
  unfold handS
  rw [List.length_eq_zero_iff, List.filter_eq_nil_iff, List.all_eq_true]
  have hd : ∀ g ∈ groupS p, detS g.1 = 1 ∨ detS g.1 = -1 := fun g hg => pm_det (stab_mem (groupS_mem hg).1)
  constructor
  · intro h g hg
    rcases hd g hg with h1 | h1
    · rw [h1]; rfl
    · have := h g hg
      rw [h1] at this
      simp at this
  · intro h g hg
    rcases hd g hg with h1 | h1
    · rw [h1]; simp
    · have := h g hg
      rw [h1] at this
      simp at this
theorem isHanded_eq (p : Pt) : f20G KK p = some (bif okP p then (handS (leanS p), 0) else (false, 1)) := by
  unfold f20G
  rw [isPattern_eq]
  simp only [Option.bind_some]
  cases h : okP p
  · rfl
  have hp := okP_P h
  have hq := leanS_P hp
  simp only [Bool.not_true, cond_false, cond_true]
  rw [lean_eq hp, Option.bind_some, lines_eq hq, Option.bind_some]
  have hs := lin_sum (leanS p).2.1 (groupS (leanS p)) (0, 0)
  have hc := groupS_len hq
  have hf : ((groupS (leanS p)).filter fun g => !(detS g.1 == 1)).length ≤ 768 := Nat.le_trans (List.length_filter_le _ _) hc
  have hw := hand_lin hq
  generalize ((groupS (leanS p)).foldl (linI (leanS p).2.1) (0, 0)) = r at *
  generalize ((groupS (leanS p)).filter fun g => !(detS g.1 == 1)).length = n at *
  simp only at hs ⊢
  rw [w_id (by omega) (by omega)]
  congr 2
  rw [Bool.eq_iff_iff, beq_iff_eq, ← hw]
  omega
end Go.Proofs.YtniidcalfhhciaaGreat.X
