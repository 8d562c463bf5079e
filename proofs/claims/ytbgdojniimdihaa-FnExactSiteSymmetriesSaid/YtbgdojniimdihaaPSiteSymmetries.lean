/- The plain law of SiteSymmetries: both sides list the motions of the group that fix a cell. -/
import Derived.Test.YtbgdojniimdihaaM20
import Derived.Test.YtbgdojniimdihaaXRow
namespace Go.Proofs.Ytbgdojniimdihaa.X
open Go
set_option linter.unusedVariables false
def isC (l : Lt) (v : Vc) : Bool := decide (0 ≤ v.1 ∧ v.1 ≤ l.1 - 1) && decide (0 ≤ v.2 ∧ v.2 ≤ l.2.2 - 1)
theorem l07Cell_eq {l : Lt} (hl : IsL l) (v : Vc) : f65G KK l v = some (isC l v) := by
  obtain ⟨a1, a2, c1, c2, b1, b2, ix⟩ := hl
  unfold f65G isC
  simp only [in_eq, Option.bind_some, Bool.or_true, cond_true]
  rw [w_id (n := l.1 - 1) (by omega) (by omega), w_id (n := l.2.2 - 1) (by omega) (by omega)]
  by_cases h1 : 0 ≤ v.1 ∧ v.1 ≤ l.1 - 1 <;> simp [h1]
theorem isCell_eq {l : Lt} (hl : IsL l) (v : Vc) : f67G KK l v = some (isC l v) := by
  obtain ⟨a1, a2, c1, c2, b1, b2, ix⟩ := hl
  unfold f67G isC
  simp only [within_eq, Option.bind_some, Bool.or_true, cond_true]
  rw [w_id (n := l.1 - 1) (by omega) (by omega), w_id (n := l.2.2 - 1) (by omega) (by omega)]
  by_cases h1 : 0 ≤ v.1 ∧ v.1 ≤ l.1 - 1 <;> simp [h1]
theorem isC_Sv {l : Lt} (hl : IsL l) {v : Vc} (h : isC l v = true) : Sv v := by
  obtain ⟨a1, a2, c1, c2, b1, b2, ix⟩ := hl
  unfold isC at h
  simp only [Bool.and_eq_true, decide_eq_true_eq] at h
  simp only [Sv]; omega
def resY (p : Pt) (v : Vc) : List Mo × Int := bif okP p then (bif isC (leanS p).2.1 v then ((groupS (leanS p)).filter (fixS (leanS p).2.1 v), 0) else ([], 2)) else ([], 1)
theorem specSite_eq (p : Pt) (v : Vc) : f28G KK p v = some (resY p v) := by
  unfold f28G f28_g resY
  rw [specIsPattern_eq]
  simp only [Option.bind_some]
  cases ho : okP p
  · rfl
  have hp := okP_P ho
  have hq := leanS_P hp
  simp only [Bool.not_true, cond_false, cond_true]
  rw [l09Lean_eq hp, Option.bind_some, l07Cell_eq hq.l, Option.bind_some]
  cases hc : isC (leanS p).2.1 v
  · rfl
  have hv := isC_Sv hq.l hc
  have hn := groupS_len hq
  simp only [Bool.not_true, cond_false, cond_true]
  rw [l10Group_eq hq, Option.bind_some]
  have h := iter_fold (X := Int × List Mo) (body := fun L x => f28_b7 KK p v true (leanS p) true (groupS (leanS p)) (fun v0 v1 => L (v0, v1)) x.1 x.2) (groupS (leanS p)) (fun q s => ((q : Int), s)) (fun s g => bif fixS (leanS p).2.1 v g then s ++ [g] else s) (fun s => some (s, 0)) (fun q s => s.length ≤ q)
    (fun L q s hq2 hi => by
      refine ⟨?_, ?_⟩
      · cases fixS (leanS p).2.1 v (groupS (leanS p))[q] <;> simp <;> omega
      have hg := group_good hq (List.getElem_mem hq2)
      unfold f28_b7
      simp only
      rw [in1 hq2, in0, gd hq2, w_succ (by omega)]
      simp only [Bool.and_self, cond_true]
      rw [show f66G KK (leanS p).2.1 (((groupS (leanS p))[q].1.1, (groupS (leanS p))[q].1.2.1, (groupS (leanS p))[q].1.2.2), (groupS (leanS p))[q].2) v = some (redS (leanS p).2.1 (appS (groupS (leanS p))[q] v)) from l07Move_eq hq.l hg hv, Option.bind_some]
      rw [show (((redS (leanS p).2.1 (appS (groupS (leanS p))[q] v)).1 == v.1) && ((redS (leanS p).2.1 (appS (groupS (leanS p))[q] v)).2 == v.2)) = fixS (leanS p).2.1 v (groupS (leanS p))[q] from rfl, blim48 (by simp; omega)]
      cases fixS (leanS p).2.1 v (groupS (leanS p))[q] <;> rfl)
    (fun L s hi => by
      unfold f28_b7
      simp only
      rw [out1, cond_false]) KK 0 [] (by omega) (by have := KKlt (n := (groupS (leanS p)).length) (by omega); omega) (by simp)
  unfold f28_l7
  refine h.trans ?_
  simp only [List.drop_zero]
  have := foldl_filter (fixS (leanS p).2.1 v) (fun g : Mo => g) (groupS (leanS p)) []
  rw [List.map_id', List.nil_append] at this
  exact congrArg (fun l => some (l, (0 : Int))) this
theorem implSite_eq (p : Pt) (v : Vc) : f30G KK p v = some (resY p v) := by
  unfold f30G resY
  rw [isPattern_eq]
  simp only [Option.bind_some]
  cases ho : okP p
  · rfl
  have hp := okP_P ho
  have hq := leanS_P hp
  simp only [Bool.not_true, cond_false, cond_true]
  rw [lean_eq hp, Option.bind_some, isCell_eq hq.l, Option.bind_some]
  cases hc : isC (leanS p).2.1 v
  · rfl
  have hv := isC_Sv hq.l hc
  have hn := groupS_len hq
  simp only [Bool.not_true, cond_false, cond_true]
  rw [groupOf_eq hq, Option.bind_some, stabiliserOf_eq hq.l (by omega) (fun g hg => group_good hq hg) hv]
  rfl
theorem resY_len (p : Pt) (v : Vc) : (resY p v).1.length ≤ 1000 := by
  unfold resY
  cases ho : okP p
  · simp
  cases isC (leanS p).2.1 v
  · simp
  · simp only [cond_true]
    have h1 := groupS_len (leanS_P (okP_P ho))
    exact Nat.le_trans (List.length_filter_le _ _) (by omega)
theorem eqMotionS_eq {l : List Mo} (hl : l.length ≤ 1000000) : f26G KK l l = some true := by
  unfold f26G f26_g f26_l3
  rw [show ((l.length : Int) != (l.length : Int)) = false by simp, cond_false]
  have h := iter_all (X := Int) (body := fun L x => f26_b3 KK l l (fun v0 => L v0) x) l (fun q => (q : Int)) (fun _ => true) (some false) (some true)
    (fun L q hq => by
      unfold f26_b3 f63G f110G f64G
      rw [in1 hq, in0, gd hq, w_succ (by omega)]
      simp)
    (fun L => by
      unfold f26_b3
      rw [out1, cond_false]) KK 0 (by omega) (by have := KKlt hl; omega)
  refine h.trans ?_
  rw [List.drop_zero, show (l.all fun _ => true) = true from List.all_eq_true.mpr (by simp)]
  rfl
def mk6 (k : Int) : Mo := ((k, k + 1, k + 2, k + 3), (k + 4, k + 5))
/-- the motions are marked one after the other -/
def MkM (s : List Mo) (n : Nat) : Prop := ∀ i, i < n → s[i]? = some (mk6 (1 + 6 * (i : Int)))
theorem getD_set {α : Type} {s : List α} {q : Nat} (h : q < s.length) (v d : α) : (s.set q v).getD q d = v := by
  simp [List.getD, h]
theorem markMotionS_some (l : List Mo) (hl : l.length ≤ 1000000) : ∃ s, f32G KK l 1 = some (s, 1 + 6 * (l.length : Int)) ∧ s.length = l.length ∧ MkM s l.length := by
  have hst : ∀ q (s : Int × List Mo), q < l.length → (s.1 = 1 + 6 * (q : Int) ∧ s.2.length = l.length ∧ MkM s.2 q) → (s.1 + 6 = 1 + 6 * ((q + 1 : Nat) : Int) ∧ (s.2.set q (mk6 s.1)).length = l.length ∧ MkM (s.2.set q (mk6 s.1)) (q + 1)) := by
    rintro q s hq ⟨i1, i2, i3⟩
    refine ⟨by omega, by simp [i2], ?_⟩
    intro i hi
    by_cases h : i = q
    · subst h
      rw [List.getElem?_set_self (by omega), i1]
    · rw [List.getElem?_set_ne (by omega)]
      exact i3 i (by omega)
  have h := iter_fold (X := Int × Int × List Mo) (body := fun L x => f32_b2 KK (fun v0 v1 v2 => L (v0, v1, v2)) x.1 x.2.1 x.2.2) (List.range l.length) (fun q (s : Int × List Mo) => (s.1, (q : Int), s.2)) (fun s q => (s.1 + 6, s.2.set q (mk6 s.1))) (fun s => some (s.2, s.1)) (fun q s => s.1 = 1 + 6 * (q : Int) ∧ s.2.length = l.length ∧ MkM s.2 q)
    (fun L q s hq hi => by
      rw [List.length_range] at hq
      simp only [List.getElem_range]
      refine ⟨hst q s hq hi, ?_⟩
      obtain ⟨i1, i2, i3⟩ := hi
      unfold f32_b2
      have hz : ((0 : Int) + (q : Int)).toNat = q := by omega
      have hq2 : q < s.2.length := by omega
      simp only [hz, List.length_set, List.set_set, getD_set hq2]
      rw [in1 hq2, in0, w_succ (by omega), w_id (n := s.1 + 1) (by omega) (by omega), w_id (n := s.1 + 1 + 1) (by omega) (by omega), w_id (n := s.1 + 1 + 1 + 1) (by omega) (by omega), w_id (n := s.1 + 1 + 1 + 1 + 1) (by omega) (by omega), w_id (n := s.1 + 1 + 1 + 1 + 1 + 1) (by omega) (by omega), w_id (n := s.1 + 1 + 1 + 1 + 1 + 1 + 1) (by omega) (by omega)]
      simp only [Bool.and_self, cond_true, Int.add_assoc]
      rfl)
    (fun L s hi => by
      obtain ⟨i1, i2, i3⟩ := hi
      unfold f32_b2
      simp only [List.length_range] at i1 ⊢
      rw [show decide ((l.length : Int) < (s.2.length : Int)) = false by simp; omega, cond_false]) KK 0 (1, l) (by omega) (by simp only [List.length_range, KK]; omega) ⟨by simp, rfl, fun i hi => by omega⟩
  have hf := foldl_inv (fun (s : Int × List Mo) (q : Nat) => (s.1 + 6, s.2.set q (mk6 s.1))) (fun q s => s.1 = 1 + 6 * (q : Int) ∧ s.2.length = l.length ∧ MkM s.2 q) (List.range l.length) 0 (1, l) ⟨by simp, rfl, fun i hi => by omega⟩ (fun i s hi hP => by
    rw [List.length_range] at hi
    rw [Nat.zero_add] at hP ⊢
    simp only [List.getElem_range]
    exact hst i s hi hP)
  rw [List.drop_zero] at h
  simp only [Nat.zero_add, List.length_range] at hf
  generalize (List.range l.length).foldl (fun (s : Int × List Mo) (q : Nat) => (s.1 + 6, s.2.set q (mk6 s.1))) (1, l) = r at *
  refine ⟨r.2, ?_, hf.2.1, hf.2.2⟩
  unfold f32G f32_g f32_l2
  rw [← hf.1]
  exact h
theorem heldMotionS_eq (s : List Mo) (hl : s.length ≤ 1000000) (hm : MkM s s.length) : f33G KK s 1 = some (1 + 6 * (s.length : Int)) := by
  have h := iter_fold (X := Int × Int) (body := fun L x => f33_b2 KK s (fun v0 v1 => L (v0, v1)) x.1 x.2) s (fun q k => (k, (q : Int))) (fun k _ => k + 6) (fun k => some k) (fun q k => k = 1 + 6 * (q : Int))
    (fun L q k hq hi => by
      refine ⟨by omega, ?_⟩
      have h1 := hm q hq
      rw [List.getElem?_eq_getElem hq, Option.some.injEq, ← hi] at h1
      unfold f33_b2
      simp only
      rw [in1 hq, in0, gd hq, w_succ (by omega), w_id (n := k + 1) (by omega) (by omega), w_id (n := k + 1 + 1) (by omega) (by omega), w_id (n := k + 1 + 1 + 1) (by omega) (by omega), w_id (n := k + 1 + 1 + 1 + 1) (by omega) (by omega), w_id (n := k + 1 + 1 + 1 + 1 + 1) (by omega) (by omega), w_id (n := k + 1 + 1 + 1 + 1 + 1 + 1) (by omega) (by omega), h1]
      simp only [Bool.and_self, cond_true, mk6, Int.add_assoc]
      simp only [Int.reduceAdd, bne_self_eq_false, cond_false])
    (fun L k hi => by
      unfold f33_b2
      simp only
      rw [out1, cond_false]) KK 0 1 (by omega) (by have := KKlt hl; omega) (by simp)
  have hf := foldl_inv (fun (k : Int) (_ : Mo) => k + 6) (fun q k => k = 1 + 6 * (q : Int)) s 0 1 (by simp) (fun i k hi hP => by omega)
  rw [List.drop_zero] at h
  simp only [Nat.zero_add] at hf
  unfold f33G f33_g f33_l2
  rw [← hf]
  exact h
theorem FnExactSiteSymmetries_pure (a0 : Int × (Int × Int × Int) × List Int) (a1 : Int × Int) (h : WfA [(.cons (.int .i64) (.cons (.cons (.int .i64) (.cons (.int .i64) (.int .i64))) (.list 2 (.int .i64)))), (.cons (.int .i64) (.int .i64))] (a0, a1, ())) : ∃ K, f6G K a0 a1 = some true := by
  refine ⟨KK, ?_⟩
  unfold f6G
  have hlen : a0.2.2.length ≤ maxLen := by
    simp only [WfA, Wf] at h
    exact h.1.2.2.1
  rcases Nat.lt_or_ge 1048576 a0.2.2.length with hb | hb
  · by_cases hm : a0.2.2.length ≤ 4611686018427387904
    · rw [szPattern_big hb hm, Option.bind_some]
      rfl
    · have : w (1048576 - (a0.2.2.length : Int)) = 1048576 - (a0.2.2.length : Int) := by
        simp only [maxLen] at hlen
        exact w_id (by omega) (by omega)
      unfold f14G f48G
      rw [this, decide_eq_true (by omega), cond_true, Option.bind_some]
      rfl
  · obtain ⟨y, hy, hy0⟩ := szPattern_eq hb
    have hr := resY_len a0 a1
    obtain ⟨s, hs1, hs2, hs3⟩ := markMotionS_some (resY a0 a1).1 (by omega)
    have hh := heldMotionS_eq s (by omega) (by rw [hs2]; exact hs3)
    have hv : f29G KK a1 = some a1 := rfl
    rw [hy, Option.bind_some, decide_eq_false (by omega), cond_false, toPattern_eq hb, hv]
    simp only [Option.bind_some]
    rw [specSite_eq, implSite_eq]
    simp only [Option.bind_some, Bool.or_true, cond_true]
    rw [eqMotionS_eq (by omega), eqPattern_eq hb, markPattern_some a0 hb, hs1]
    simp only [Option.bind_some]
    rw [hh, decide_eq_false (show ¬ ((1 : Int) + (a0.2.2.length : Int) < 0) by omega), hs2]
    have hd : decide ((1 : Int) + 6 * ((resY a0 a1).1.length : Int) < 0) = false := decide_eq_false (by omega)
    simp only [bne_self_eq_false, Bool.not_true, Bool.not_false, cond_true, cond_false, Option.bind_some, hd]
end Go.Proofs.Ytbgdojniimdihaa.X
