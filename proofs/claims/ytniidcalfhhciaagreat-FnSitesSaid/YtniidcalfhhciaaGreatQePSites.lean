/- The plain law of FnSites: a site's cells times its symmetries are the symmetries of the pattern. -/
import Derived.Test.YtniidcalfhhciaaGreatQeMP
import Derived.Test.YtniidcalfhhciaaGreatQePSitesOf
namespace Go.Proofs.YtniidcalfhhciaaGreat.X
open Go
set_option linter.unusedSimpArgs false
set_option linter.unusedVariables false
theorem fold_sumN {α : Type} (f : α → Nat) : ∀ (l : List α) (s : Nat), l.foldl (fun s a => s + f a) s = s + (l.map f).sum
  | [], s => rfl
  | a :: l, s => by rw [List.foldl_cons, fold_sumN f l, List.map_cons, List.sum_cons]; omega
theorem implFull_eq (p : Pt) : f24G KK p = some (bif okP p then (fullS p, 0) else ((0, 0, 0), 1)) := by
  unfold f24G
  rw [isPattern_eq, Option.bind_some]
  cases ho : okP p
  · rfl
  · rw [Bool.not_true, cond_false, fullLattice_eq (okP_P ho)]
    rfl
def cntS (p : Pt) : Int × Int := bif okP p then (((groupS (leanS p)).length : Int), 0) else (0, 1)
theorem implCnt_eq (p : Pt) : f25G KK p = some (cntS p) := by
  unfold f25G f138G cntS
  rw [isPattern_eq, Option.bind_some]
  cases ho : okP p
  · rfl
  · have hp := okP_P ho
    rw [Bool.not_true, cond_false, lean_eq hp, Option.bind_some, groupOf_eq (leanS_P hp)]
    rfl
theorem specCnt_eq (p : Pt) : f62G KK p = some (cntS p) := by
  unfold f62G cntS
  rw [specIsPattern_eq, Option.bind_some]
  cases ho : okP p
  · rfl
  · have hp := okP_P ho
    rw [Bool.not_true, cond_false, l09Lean_eq hp, Option.bind_some, l10Group_eq (leanS_P hp)]
    rfl
theorem sites_loop {c : List Int} {p : Pt} (ho : okP p = true) {y1 y10 y11 : Bool} {y4 : List (List Vc) × Int} {y6 : Int × Int} {y7 : Pt × Vc} {y8 y9 : List Mo × Int} :
    f7_l15 KK c y1 p (orbsS (leanS p).2.1 (groupS (leanS p)), 0) y4 (((groupS (leanS p)).length : Int), 0) y6 y7 y8 y9 y10 y11 (fullS p, 0) KK 0 0 = some true := by
  have hp := okP_P ho
  have hq := leanS_P hp
  have hO := groupS_orb hq
  have hG := groupS_len hq
  have hOl := orbs_len hO.la (groupS (leanS p))
  have hN := cellsS_le hO.la
  have hh := iter_fold (R := Bool) (body := fun L x => f7_b15 KK c y1 p (orbsS (leanS p).2.1 (groupS (leanS p)), 0) y4 (((groupS (leanS p)).length : Int), 0) y6 y7 y8 y9 y10 y11 (fullS p, 0) (fun v0 v1 => L (v0, v1)) x.1 x.2) (orbsS (leanS p).2.1 (groupS (leanS p))) (fun q s => ((s : Nat), (q : Int))) (fun s o => s + o.length) (fun s => some ((s : Int) == (((cellsS (leanS p).2.1).length : Nat) : Int))) (fun q s => s ≤ 768 * q)
    (fun L q s hqq hi => by
      have hmem := List.getElem_mem hqq
      have hol := (orbs_cell hO hmem).2
      obtain ⟨x, t, ex, hx⟩ := orbs_ne hO hmem
      have hxm : x ∈ (orbsS (leanS p).2.1 (groupS (leanS p)))[q] := by rw [ex]; simp
      have hpos : 0 < ((orbsS (leanS p).2.1 (groupS (leanS p)))[q]).length := by rw [ex]; simp
      have h0 : ((orbsS (leanS p).2.1 (groupS (leanS p)))[q]).getD ((0 : Int) + (0 : Int)).toNat (0, 0) = x := by rw [ex]; rfl
      have hstb : ((stbS (leanS p).2.1 (groupS (leanS p)) x).length : Int) * (((orbsS (leanS p).2.1 (groupS (leanS p)))[q]).length : Int) = ((groupS (leanS p)).length : Int) := by
        have e := orb_stb hO hx
        have e2 : orbS (leanS p).2.1 (groupS (leanS p)) x = (orbsS (leanS p).2.1 (groupS (leanS p)))[q] := by
          have hm2 := hmem
          unfold orbsS at hm2
          obtain ⟨r, hr, er⟩ := List.mem_map.1 hm2
          have hxr : x ∈ orbS (leanS p).2.1 (groupS (leanS p)) r := by rw [er]; exact hxm
          exact (orb_eq hO (reps_mem hr).1 hxr).trans er
        rw [e2] at e
        rw [← Int.natCast_mul, Nat.mul_comm, e]
      refine ⟨by omega, ?_⟩
      show f7_b15 KK c y1 p (orbsS (leanS p).2.1 (groupS (leanS p)), 0) y4 (((groupS (leanS p)).length : Int), 0) y6 y7 y8 y9 y10 y11 (fullS p, 0) (fun v0 v1 => L (v0, v1)) (s : Int) (q : Int) = _
      unfold f7_b15
      simp only
      rw [in1 hqq, in0, gd hqq, h0, decide_eq_true (show (0 : Int) < (((orbsS (leanS p).2.1 (groupS (leanS p)))[q]).length : Int) by omega)]
      simp only [Bool.and_self, cond_true]
      rw [implSite_eq, Option.bind_some]
      have er : resY p x = (stbS (leanS p).2.1 (groupS (leanS p)) x, 0) := by
        unfold resY
        rw [ho, hx]
        rfl
      rw [er]
      simp only [bne_self_eq_false, Bool.not_false, Bool.not_true, Bool.or_true, Bool.true_or, cond_true, cond_false, Bool.false_or]
      rw [hstb, w_id (n := ((groupS (leanS p)).length : Int)) (by omega) (by omega), w_succ (by omega), w_id (n := (s : Int) + (((orbsS (leanS p).2.1 (groupS (leanS p)))[q]).length : Int)) (by omega) (by omega)]
      simp only [bne_self_eq_false, cond_false, decide_true, Bool.and_self, cond_true, Int.le_refl]
      rw [Int.natCast_add s])
    (fun L s hi => by
      have hi : s ≤ 768 * (orbsS (leanS p).2.1 (groupS (leanS p))).length := hi
      show f7_b15 KK c y1 p (orbsS (leanS p).2.1 (groupS (leanS p)), 0) y4 (((groupS (leanS p)).length : Int), 0) y6 y7 y8 y9 y10 y11 (fullS p, 0) (fun v0 v1 => L (v0, v1)) (s : Int) ((orbsS (leanS p).2.1 (groupS (leanS p))).length : Int) = _
      unfold f7_b15
      simp only
      have e5 : w ((fullS p).1 * (fullS p).2.2) = ((cellsS (leanS p).2.1).length : Int) := len_eq hO.la
      rw [out1, cond_false, e5]
      simp only [beq_self_eq_true, Bool.or_true, cond_true]) KK 0 0 (by omega) (by simp only [KK]; omega) (by omega)
  rw [List.drop_zero, fold_sumN, Nat.zero_add, orbs_total hO, beq_self_eq_true] at hh
  unfold f7_l15
  exact hh
theorem sites_draw {c : List Int} (hb : ∀ i (h : i < c.length), 0 ≤ c[i] ∧ c[i] ≤ 255) (hl : c.length ≤ 4096) : ∃ p v, f59G KK c = some p ∧ f63G KK c = some (p, v) := by
  obtain ⟨t0, s0, e0⟩ := from_ok hb hl
  obtain ⟨t1, p, e1, s1, hpl⟩ := dpat_ok s0
  have eD : f59G KK c = some p := by
    unfold f59G
    rw [e0, Option.bind_some, e1]
    rfl
  cases ho : okP p
  · refine ⟨p, (0, 0), eD, ?_⟩
    unfold f63G
    rw [e0, Option.bind_some, e1, Option.bind_some]
    simp only
    rw [specIsPattern_eq, ho]
    rfl
  · obtain ⟨t2, v, e2, s2⟩ := cell_ok s1 (fullS p)
    refine ⟨p, v, eD, ?_⟩
    unfold f63G
    rw [e0, Option.bind_some, e1, Option.bind_some]
    simp only
    rw [specIsPattern_eq, ho, Option.bind_some, Bool.not_true, cond_false, l09Full_eq (okP_P ho), Option.bind_some, e2]
    rfl
theorem FnSites_pure (a0 : List Int) (h : WfA [(.list 5 (.int .u8))] (a0, ())) : ∃ K, f7G K a0 = some true := by
  refine ⟨KK, ?_⟩
  have hw : Wf (.list 5 (.int .u8)) a0 := h.1
  unfold f7G f7_g
  rw [big_eq, Option.bind_some]
  by_cases hb : (a0.length : Int) > 4096
  · rw [decide_eq_true hb]; rfl
  · rw [decide_eq_false hb, cond_false]
    obtain ⟨p, v, eD, eS⟩ := sites_draw (code_ok hw) (by omega)
    obtain ⟨r1, r2⟩ := resSO_len (p := p)
    have r3 := resY_len p v
    rw [eD, Option.bind_some, implSO_eq, Option.bind_some, specSO_eq, Option.bind_some, implCnt_eq, Option.bind_some, specCnt_eq, Option.bind_some, eS, Option.bind_some]
    simp only
    rw [implSite_eq, Option.bind_some, specSite_eq, Option.bind_some]
    simp only [bne_self_eq_false, Bool.not_false, Bool.not_true, Bool.or_true, cond_true, cond_false]
    rw [likeOrbits_eq (by omega) (fun o ho => by have := r2 o ho; omega), Option.bind_some]
    simp only [bne_self_eq_false, Bool.not_false, Bool.not_true, Bool.or_true, cond_true, cond_false]
    rw [likeMotions_eq (by omega), Option.bind_some]
    simp only [bne_self_eq_false, Bool.not_false, Bool.not_true, Bool.or_true, cond_true, cond_false]
    cases ho : okP p
    · have e1 : ((resSO p).2 != 0) = true := by
        unfold resSO
        rw [ho]
        rfl
      rw [e1, cond_true]
    · have e3 : resSO p = (orbsS (leanS p).2.1 (groupS (leanS p)), 0) := by
        unfold resSO
        rw [ho, cond_true]
      have e5 : cntS p = (((groupS (leanS p)).length : Int), 0) := by
        unfold cntS
        rw [ho, cond_true]
      have e1 : ((resSO p).2 != 0) = false := by
        rw [e3]
        rfl
      have hl := sites_loop (c := a0) (p := p) ho (y1 := false) (y10 := true) (y11 := true) (y4 := resSO p) (y6 := cntS p) (y7 := (p, v)) (y8 := resY p v) (y9 := resY p v)
      rw [← e3, ← e5] at hl
      rw [e1, cond_false, implFull_eq, ho, cond_true, Option.bind_some]
      exact hl
end Go.Proofs.YtniidcalfhhciaaGreat.X
