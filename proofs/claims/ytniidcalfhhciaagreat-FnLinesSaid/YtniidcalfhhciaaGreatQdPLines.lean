/- The plain law of FnLines: handed patterns have no lines; the unit's area is a fraction in lowest terms. -/
import Derived.Test.YtniidcalfhhciaaGreatQdMT
import Derived.Test.YtniidcalfhhciaaGreatQdMH
import Derived.Test.YtniidcalfhhciaaGreatQdPIsHanded
namespace Go.Proofs.YtniidcalfhhciaaGreat.X
open Go
set_option linter.unusedSimpArgs false
set_option linter.unusedVariables false
noncomputable def lnS (p : Pt) : Int × Int := (groupS (leanS p)).foldl (linI (leanS p).2.1) (0, 0)
theorem implML_eq (p : Pt) : f16G KK p = some (bif okP p then ((lnS p).2, 0) else (0, 1)) := by
  unfold f16G
  rw [isPattern_eq, Option.bind_some]
  cases ho : okP p
  · rfl
  · have hp := okP_P ho
    rw [Bool.not_true, cond_false, lean_eq hp, Option.bind_some, lines_eq (leanS_P hp)]
    rfl
theorem specML_eq (p : Pt) : f17G KK p = some (bif okP p then ((lnS p).2, 0) else (0, 1)) := by
  unfold f17G
  rw [specIsPattern_eq, Option.bind_some]
  cases ho : okP p
  · rfl
  · have hp := okP_P ho
    rw [Bool.not_true, cond_false, l09Lean_eq hp, Option.bind_some, l14Lines_eq (leanS_P hp)]
    rfl
theorem implGL_eq (p : Pt) : f18G KK p = some (bif okP p then ((lnS p).1, 0) else (0, 1)) := by
  unfold f18G
  rw [isPattern_eq, Option.bind_some]
  cases ho : okP p
  · rfl
  · have hp := okP_P ho
    rw [Bool.not_true, cond_false, lean_eq hp, Option.bind_some, lines_eq (leanS_P hp)]
    rfl
theorem specGL_eq (p : Pt) : f19G KK p = some (bif okP p then ((lnS p).1, 0) else (0, 1)) := by
  unfold f19G
  rw [specIsPattern_eq, Option.bind_some]
  cases ho : okP p
  · rfl
  · have hp := okP_P ho
    rw [Bool.not_true, cond_false, l09Lean_eq hp, Option.bind_some, l14Lines_eq (leanS_P hp)]
    rfl
theorem hand_sum {p : Pt} (hp : IsP p) : handS (leanS p) = (w ((lnS p).2 + (lnS p).1) == 0) := by
  have hq := leanS_P hp
  have hs := lin_sum (leanS p).2.1 (groupS (leanS p)) (0, 0)
  have hc := groupS_len hq
  have hf : ((groupS (leanS p)).filter fun g => !(detS g.1 == 1)).length ≤ 768 := Nat.le_trans (List.length_filter_le _ _) hc
  have hw := hand_lin hq
  unfold lnS
  generalize ((groupS (leanS p)).foldl (linI (leanS p).2.1) (0, 0)) = r at *
  generalize ((groupS (leanS p)).filter fun g => !(detS g.1 == 1)).length = n at *
  simp only at hs ⊢
  rw [w_id (by omega) (by omega), Bool.eq_iff_iff, beq_iff_eq, ← hw]
  omega
def ixP (p : Pt) : Int := (fullS p).1 * (fullS p).2.2
def cnP (p : Pt) : Int := ((groupS (leanS p)).length : Int)
def gdP (p : Pt) : Int := ((Int.gcd (ixP p) (cnP p) : Nat) : Int)
def unS (p : Pt) : Int × Int × Int := bif okP p then ((ixP p).tdiv (gdP p), (cnP p).tdiv (gdP p), 0) else (0, 0, 1)
structure UnB (p : Pt) : Prop where
  i0 : 1 ≤ ixP p
  i1 : ixP p ≤ 64
  c0 : 1 ≤ cnP p
  c1 : cnP p ≤ 768
  g0 : 1 ≤ gdP p
theorem unB {p : Pt} (hp : IsP p) : UnB p := by
  have hl := (full_all hp).2.2
  have hq := leanS_P hp
  have h1 := groupS_len hq
  have h2 : 0 < (groupS (leanS p)).length := List.length_pos_of_mem (groupS_one hq.l)
  have i0 : 1 ≤ ixP p := by
    unfold ixP
    have := Int.mul_le_mul hl.a1 hl.c1 (by omega) (by have := hl.a1; omega)
    omega
  refine ⟨i0, hl.ix, by unfold cnP; omega, by unfold cnP; omega, ?_⟩
  unfold gdP
  have : 0 < Int.gcd (ixP p) (cnP p) := Int.gcd_pos_of_ne_zero_left _ (by omega)
  omega
theorem div_b {a d : Int} (ha : 0 ≤ a) (hd : 1 ≤ d) : 0 ≤ a.tdiv d ∧ a.tdiv d ≤ a := by
  rw [Int.tdiv_eq_ediv_of_nonneg ha]
  exact ⟨Int.ediv_nonneg ha (by omega), Int.ediv_le_self _ ha⟩
theorem un_b {p : Pt} (h : UnB p) : (0 ≤ (ixP p).tdiv (gdP p) ∧ (ixP p).tdiv (gdP p) ≤ 64) ∧ 0 ≤ (cnP p).tdiv (gdP p) ∧ (cnP p).tdiv (gdP p) ≤ 768 := by
  have := h.i0
  have := h.i1
  have := h.c0
  have := h.c1
  have x := div_b (a := ixP p) (by omega) h.g0
  have y := div_b (a := cnP p) (by omega) h.g0
  omega
theorem implUn_eq (p : Pt) : f22G KK p = some (unS p) := by
  unfold f22G unS
  rw [isPattern_eq, Option.bind_some]
  cases ho : okP p
  · rfl
  · have hp := okP_P ho
    have hb := unB hp
    obtain ⟨b1, b2⟩ := un_b hb
    have := hb.i0
    have := hb.i1
    have := hb.c0
    have := hb.c1
    have hg : (gdP p != 0) = true := by have := hb.g0; simp; omega
    have hi : f133G KK (leanS p).2.1 = some (ixP p) := by
      unfold f133G
      show some (w (ixP p)) = _
      rw [w_id (by omega) (by omega)]
    rw [Bool.not_true, cond_false, lean_eq hp, Option.bind_some]
    rw [show f133G KK ((leanS p).2.1) = some (ixP p) from hi, Option.bind_some, groupOf_eq (leanS_P hp), Option.bind_some]
    rw [show f135G KK (ixP p) ((groupS (leanS p)).length : Int) = some (gdP p) from gcd_eq (by omega) (by unfold cnP at *; omega), Option.bind_some, hg, cond_true, cond_true, cond_true]
    rw [w_id (by omega) (by omega), show ((groupS (leanS p)).length : Int) = cnP p from rfl, w_id (by omega) (by omega)]
theorem specUn_eq (p : Pt) : f23G KK p = some (unS p) := by
  unfold f23G unS
  rw [specIsPattern_eq, Option.bind_some]
  cases ho : okP p
  · rfl
  · have hp := okP_P ho
    have hb := unB hp
    obtain ⟨b1, b2⟩ := un_b hb
    have := hb.i0
    have := hb.i1
    have := hb.c0
    have := hb.c1
    have hg : (gdP p != 0) = true := by have := hb.g0; simp; omega
    have hi : w ((leanS p).2.1.1 * (leanS p).2.1.2.2) = ixP p := by
      show w (ixP p) = _
      rw [w_id (by omega) (by omega)]
    rw [Bool.not_true, cond_false, l09Lean_eq hp, Option.bind_some, l10Group_eq (leanS_P hp), Option.bind_some, hi]
    rw [show f136G KK (ixP p) ((groupS (leanS p)).length : Int) = some (gdP p) from divisor_eq (by omega) (by unfold cnP at *; omega), Option.bind_some, hg, cond_true, cond_true, cond_true]
    rw [w_id (by omega) (by omega), show ((groupS (leanS p)).length : Int) = cnP p from rfl, w_id (by omega) (by omega)]
theorem implFL_eq' (p : Pt) : f24G KK p = some (bif okP p then (fullS p, 0) else ((0, 0, 0), 1)) := by
  unfold f24G
  rw [isPattern_eq, Option.bind_some]
  cases ho : okP p
  · rfl
  · rw [Bool.not_true, cond_false, fullLattice_eq (okP_P ho)]
    rfl
theorem implCS_eq (p : Pt) : f25G KK p = some (bif okP p then (cnP p, 0) else (0, 1)) := by
  unfold f25G f138G
  rw [isPattern_eq, Option.bind_some]
  cases ho : okP p
  · rfl
  · have hp := okP_P ho
    rw [Bool.not_true, cond_false, lean_eq hp, Option.bind_some, groupOf_eq (leanS_P hp)]
    rfl
theorem frac {a b d : Int} (hd : d ≠ 0) (ha : d ∣ a) (hb : d ∣ b) : a.tdiv d * b = b.tdiv d * a := by
  obtain ⟨i, rfl⟩ := ha
  obtain ⟨m, rfl⟩ := hb
  rw [Int.mul_tdiv_cancel_left _ hd, Int.mul_tdiv_cancel_left _ hd]
  ac_rfl
theorem un_frac {p : Pt} (hp : IsP p) : (w ((ixP p).tdiv (gdP p) * cnP p) == w (w ((cnP p).tdiv (gdP p) * (fullS p).1) * (fullS p).2.2)) = true := by
  have hb := unB hp
  have hl := (full_all hp).2.2
  obtain ⟨⟨a1, a2⟩, b1, b2⟩ := un_b hb
  have e := frac (d := gdP p) (by have := hb.g0; omega) (Int.gcd_dvd_left (ixP p) (cnP p)) (Int.gcd_dvd_right (ixP p) (cnP p))
  have h1 : 0 ≤ (ixP p).tdiv (gdP p) * cnP p ∧ (ixP p).tdiv (gdP p) * cnP p ≤ 64 * 768 := ⟨Int.mul_nonneg a1 (by have := hb.c0; omega), Int.mul_le_mul a2 hb.c1 (by have := hb.c0; omega) (by omega)⟩
  have h2 : 0 ≤ (cnP p).tdiv (gdP p) * (fullS p).1 ∧ (cnP p).tdiv (gdP p) * (fullS p).1 ≤ 768 * 64 := ⟨Int.mul_nonneg b1 (by have := hl.a1; omega), Int.mul_le_mul b2 hl.a2 (by have := hl.a1; omega) (by omega)⟩
  have h3 : (cnP p).tdiv (gdP p) * (fullS p).1 * (fullS p).2.2 = (cnP p).tdiv (gdP p) * ixP p := by rw [Int.mul_assoc]; rfl
  rw [w_id (n := (ixP p).tdiv (gdP p) * cnP p) (by omega) (by omega), w_id (n := (cnP p).tdiv (gdP p) * (fullS p).1) (by omega) (by omega), h3, ← e, w_id (by omega) (by omega)]
  exact beq_self_eq_true _
theorem FnLines_pure (a0 : List Int) (h : WfA [(.list 5 (.int .u8))] (a0, ())) : ∃ K, f3G K a0 = some true := by
  refine ⟨KK, ?_⟩
  have hw : Wf (.list 5 (.int .u8)) a0 := h.1
  unfold f3G
  rw [big_eq, Option.bind_some]
  by_cases hb : (a0.length : Int) > 4096
  · rw [decide_eq_true hb]; rfl
  · rw [decide_eq_false hb, cond_false]
    obtain ⟨t0, s0, e0⟩ := from_ok (code_ok hw) (by omega)
    obtain ⟨t1, p, e1, s1, hpl⟩ := dpat_ok s0
    have eD : f15G KK a0 = some p := by
      unfold f15G
      rw [e0, Option.bind_some, e1]
      rfl
    rw [eD, Option.bind_some, implML_eq, Option.bind_some, specML_eq, Option.bind_some, implGL_eq, Option.bind_some, specGL_eq, Option.bind_some, isHanded_eq, Option.bind_some, specIsHanded_eq, Option.bind_some, implUn_eq, Option.bind_some, specUn_eq, Option.bind_some]
    simp only [bne_self_eq_false, Bool.not_false, Bool.not_true, Bool.or_true, cond_true, cond_false]
    rw [implFL_eq', implCS_eq]
    unfold unS
    cases ho : okP p
    · rfl
    · have hp := okP_P ho
      have hf := un_frac hp
      simp only [cond_true, Option.bind_some, bne_self_eq_false, cond_false]
      rw [hand_sum hp]
      simp only [beq_self_eq_true, cond_true]
      rw [hf]
end Go.Proofs.YtniidcalfhhciaaGreat.X
