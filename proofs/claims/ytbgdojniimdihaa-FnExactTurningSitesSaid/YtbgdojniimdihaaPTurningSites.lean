/- The plain law of TurningSites: both sides list the cells that a turn of the order fixes. -/
import Derived.Test.YtbgdojniimdihaaM20
import Derived.Test.YtbgdojniimdihaaXRow
namespace Go.Proofs.Ytbgdojniimdihaa.X
open Go
set_option linter.unusedVariables false
noncomputable def turnS (p : Pt) (n : Int) : List Vc := (cellsS p.2.1).filter fun v => (groupS p).any fun g => kindS g.1 == n && fixS p.2.1 v g
def okN (n : Int) : Bool := n == 2 || n == 3 || n == 4 || n == 6
noncomputable def resT (p : Pt) (n : Int) : List Vc × Int := bif okP p then (bif okN n then (turnS (leanS p) n, 0) else ([], 2)) else ([], 1)
theorem l01Has_eq (n : Int) : f71G KK [(2 : Int), (3 : Int), (4 : Int), (6 : Int)] n = some (okN n) := by
  have h := iter_all (X := Int) (body := fun L x => f71_b2 KK [(2 : Int), (3 : Int), (4 : Int), (6 : Int)] n (fun v0 => L v0) x) [(2 : Int), (3 : Int), (4 : Int), (6 : Int)] (fun q => (q : Int)) (fun a => !(a == n)) (some true) (some false)
    (fun L q hq => by
      have : q < 4 := hq
      unfold f71_b2
      rw [in1 hq, in0, gd hq, w_succ (by omega)]
      simp only [Bool.and_self, cond_true]
      cases [(2 : Int), (3 : Int), (4 : Int), (6 : Int)][q] == n <;> rfl)
    (fun L => by
      unfold f71_b2
      rw [out1, cond_false]) KK 0 (by omega) (by simp [KK])
  unfold f71G f71_g f71_l2
  refine h.trans ?_
  simp only [List.drop_zero, List.all_cons, List.all_nil, okN, BEq.comm (a := n)]
  cases ((2 : Int) == n) <;> cases ((3 : Int) == n) <;> cases ((4 : Int) == n) <;> cases ((6 : Int) == n) <;> rfl
theorem any_filter {α : Type} (p q : α → Bool) : ∀ l : List α, (l.filter p).any q = l.any fun a => p a && q a
  | [] => rfl
  | a :: l => by
    have h := any_filter p q l
    cases hp : p a
    · rw [List.filter_cons_of_neg (by simp [hp]), List.any_cons, hp, h]; simp
    · rw [List.filter_cons_of_pos hp, List.any_cons, List.any_cons, hp, h]; simp
theorem spec_cells {p q : Pt} (hq : IsP q) (n q9 : Int) (ts : List Mo) (hn : ts.length ≤ 1000) (hg : ∀ g ∈ ts, GoodM g) (y1 y2 : Bool) (y4 : List Mo) :
    f34_l14 KK p n q9 ts y1 y2 q y4 (cellsS q.2.1) KK 0 [] = some ((cellsS q.2.1).filter (fun v => ts.any (fixS q.2.1 v)), 0) := by
  have hc := cellsS_le hq.l
  have h := iter_fold (X := Int × List Vc) (body := fun L x => f34_b14 KK p n q9 ts y1 y2 q y4 (cellsS q.2.1) (fun v0 v1 => L (v0, v1)) x.1 x.2) (cellsS q.2.1) (fun i s => ((i : Int), s)) (fun s v => bif ts.any (fixS q.2.1 v) then s ++ [v] else s) (fun s => some (s, 0)) (fun i s => s.length ≤ i)
    (fun L i s hi hs => by
      refine ⟨?_, ?_⟩
      · cases ts.any (fixS q.2.1 (cellsS q.2.1)[i]) <;> simp <;> omega
      have hv := cell_Sv hq.l (List.getElem_mem hi)
      unfold f34_b14
      simp only
      rw [in1 hi, in0, gd hi, w_succ (by omega), l14Fixing_eq hq.l (by omega) hg hv, blim16 (by simp; omega)]
      simp only [Bool.and_self, cond_true, Option.bind_some]
      have h1 := fold_pos (fixS q.2.1 (cellsS q.2.1)[i]) ts 0 (by omega)
      have h2 : decide (ts.foldl (fun s g => bif fixS q.2.1 (cellsS q.2.1)[i] g then s + 1 else s) (0 : Int) > 0) = ts.any (fixS q.2.1 (cellsS q.2.1)[i]) := by
        rw [Bool.eq_iff_iff, decide_eq_true_eq]
        exact h1.trans (by simp)
      rw [h2]
      cases ts.any (fixS q.2.1 (cellsS q.2.1)[i]) <;> rfl)
    (fun L s hs => by
      unfold f34_b14
      simp only
      rw [out1, cond_false]) KK 0 [] (by omega) (by have := KKlt (n := (cellsS q.2.1).length) (by omega); omega) (by simp)
  unfold f34_l14
  refine h.trans ?_
  simp only [List.drop_zero]
  have := foldl_filter (fun v => ts.any (fixS q.2.1 v)) (fun v : Vc => v) (cellsS q.2.1) []
  rw [List.map_id', List.nil_append] at this
  exact congrArg (fun l => some (l, (0 : Int))) this
theorem specTurning_eq (p : Pt) (n : Int) : f34G KK p n = some (resT p n) := by
  unfold f34G f34_g resT
  rw [specIsPattern_eq, l01Has_eq]
  simp only [Option.bind_some]
  cases ho : okP p
  · rfl
  have hp := okP_P ho
  have hq := leanS_P hp
  simp only [Bool.not_true, cond_false, cond_true]
  cases hn : okN n
  · rfl
  simp only [Bool.not_true, cond_false, cond_true]
  rw [l09Lean_eq hp, Option.bind_some, l10Group_eq hq, Option.bind_some, l03Cells_eq hq.l, Option.bind_some]
  have hc := groupS_len hq
  have h := iter_fold (X := Int × List Mo) (body := fun L x => f34_b8 KK p n true true (leanS p) (groupS (leanS p)) (cellsS (leanS p).2.1) (fun c0 c1 c2 c3 c4 c5 c6 d0 d1 => f34_l14 KK p n c0 c1 c2 c3 c4 c5 c6 KK d0 d1) (fun v0 v1 => L (v0, v1)) x.1 x.2) (groupS (leanS p)) (fun q s => ((q : Int), s)) (fun s g => bif kindS g.1 == n then s ++ [g] else s)
    (fun s => f34_l14 KK p n ((groupS (leanS p)).length : Int) s true true (leanS p) (groupS (leanS p)) (cellsS (leanS p).2.1) KK 0 []) (fun q s => s.length ≤ q)
    (fun L q s hq2 hi => by
      refine ⟨?_, ?_⟩
      · cases kindS (groupS (leanS p))[q].1 == n <;> simp <;> omega
      have hg := group_good hq (List.getElem_mem hq2)
      unfold f34_b8
      simp only
      rw [in1 hq2, in0, gd hq2, w_succ (by omega)]
      simp only [Bool.and_self, cond_true]
      rw [show f73G KK ((groupS (leanS p))[q].1.1, (groupS (leanS p))[q].1.2.1, (groupS (leanS p))[q].1.2.2) = some (kindS (groupS (leanS p))[q].1) from (kind_all hg.1).2.1, Option.bind_some, blim48 (by simp; omega)]
      cases kindS (groupS (leanS p))[q].1 == n <;> rfl)
    (fun L s hi => by
      unfold f34_b8
      simp only
      rw [out1, cond_false]) KK 0 [] (by omega) (by have := KKlt (n := (groupS (leanS p)).length) (by omega); omega) (by simp)
  unfold f34_l8
  refine h.trans ?_
  simp only [List.drop_zero]
  have hf := foldl_filter (fun g : Mo => kindS g.1 == n) (fun g : Mo => g) (groupS (leanS p)) []
  rw [List.map_id', List.nil_append] at hf
  rw [hf, spec_cells hq n _ _ (by have := List.length_filter_le (fun g : Mo => kindS g.1 == n) (groupS (leanS p)); omega) (fun g hg => group_good hq (List.mem_filter.mp hg).1)]
  unfold turnS
  congr 3
  funext v
  rw [any_filter]
theorem impl_row {p q : Pt} (n q11 : Int) (s : List Vc) (y1 : Bool) (y3 : List Mo) (y4 : List Vc) (fs : List Mo) (hn : fs.length ≤ 1000) (hg : ∀ g ∈ fs, GoodM g) (L : Int → List Vc → Option (List Vc × Int)) (hlen : s.length ≤ 1000) (h11 : 0 ≤ q11 ∧ q11 ≤ 1000) :
    f35_l17 KK p n q11 s y1 q y3 y4 fs L KK 0 = bif fs.any (fun g => detS g.1 == 1 && ordS g.1 == n) then L (q11 + 1) (s ++ [y4.getD ((0 : Int) + q11).toNat ((0 : Int), (0 : Int))]) else L (q11 + 1) s := by
  have h := iter_all (X := Int) (body := fun L17 x => f35_b17 KK p n q11 s y1 q y3 y4 fs L (fun v0 => L17 v0) x) fs (fun i => (i : Int)) (fun g => !(detS g.1 == 1 && ordS g.1 == n)) (L (q11 + 1) (s ++ [y4.getD ((0 : Int) + q11).toNat ((0 : Int), (0 : Int))])) (L (q11 + 1) s)
    (fun L17 i hi => by
      have hm := hg _ (List.getElem_mem hi)
      unfold f35_b17
      simp only [Bool.or_true, cond_true]
      rw [in1 hi, in0, gd hi, w_succ (by omega), w_id (n := q11 + 1) (by omega) (by omega)]
      simp only [Bool.and_self, cond_true]
      rw [show f76G KK (fs[i].1.1, fs[i].1.2.1, fs[i].1.2.2) = some (detS fs[i].1) from (det_eq (pm_sm hm.1)).1, Option.bind_some,
        show f77G KK (fs[i].1.1, fs[i].1.2.1, fs[i].1.2.2) = some (ordS fs[i].1) from (kind_all hm.1).1, blim16 (by simp; omega)]
      cases detS fs[i].1 == 1
      · rfl
      · simp only [cond_true, Option.bind_some, Bool.true_and]
        cases ordS fs[i].1 == n <;> rfl)
    (fun L17 => by
      unfold f35_b17
      simp only
      rw [out1, cond_false, w_id (n := q11 + 1) (by omega) (by omega)]) KK 0 (by omega) (by have := KKlt (n := fs.length) (by omega); omega)
  unfold f35_l17
  refine h.trans ?_
  simp only [List.drop_zero]
  have e : (fs.all fun g => !(detS g.1 == 1 && ordS g.1 == n)) = !(fs.any fun g => detS g.1 == 1 && ordS g.1 == n) := by
    rw [List.not_any_eq_all_not]
  rw [e]
  cases fs.any fun g => detS g.1 == 1 && ordS g.1 == n <;> rfl
theorem turn_same {p : Pt} (hp : IsP p) {n : Int} (hn : okN n = true) (v : Vc) : ((groupS p).filter (fixS p.2.1 v)).any (fun g => detS g.1 == 1 && ordS g.1 == n) = (groupS p).any fun g => kindS g.1 == n && fixS p.2.1 v g := by
  rw [any_filter, Bool.eq_iff_iff, List.any_eq_true, List.any_eq_true]
  have hk : ∀ g ∈ groupS p, (detS g.1 == 1 && ordS g.1 == n) = (kindS g.1 == n) := by
    intro g hg
    obtain ⟨_, _, k1, k2⟩ := kind_all (group_good hp hg).1
    by_cases hd : detS g.1 = 1
    · rw [k1 hd, hd]; simp
    · rw [k2 hd]
      have h1 : (detS g.1 == 1) = false := by simp [hd]
      have h2 : ((-2 : Int) == n) = false := by
        unfold okN at hn
        rw [beq_eq_false_iff_ne]
        rintro rfl
        simp at hn
      rw [h1, h2]; rfl
  constructor
  · rintro ⟨g, hg, h⟩
    refine ⟨g, hg, ?_⟩
    rw [hk g hg] at h
    rw [Bool.and_comm]; exact h
  · rintro ⟨g, hg, h⟩
    refine ⟨g, hg, ?_⟩
    rw [hk g hg, Bool.and_comm]; exact h
theorem implTurning_eq (p : Pt) (n : Int) : f35G KK p n = some (resT p n) := by
  unfold f35G f35_g resT
  rw [isPattern_eq]
  simp only [Option.bind_some, Bool.or_true, cond_true]
  cases ho : okP p
  · rfl
  have hp := okP_P ho
  have hq := leanS_P hp
  simp only [Bool.not_true, cond_false, cond_true]
  have hN : (bif (bif (bif (n != (2 : Int)) then (n != (3 : Int)) else false) then (n != (4 : Int)) else false) then (n != (6 : Int)) else false) = !okN n := by
    unfold okN
    simp only [bne]
    cases n == 2 <;> cases n == 3 <;> cases n == 4 <;> cases n == 6 <;> rfl
  rw [hN]
  cases hn : okN n
  · rfl
  simp only [Bool.not_true, cond_false, cond_true]
  rw [lean_eq hp, Option.bind_some, groupOf_eq hq, Option.bind_some, cells_eq hq.l, Option.bind_some]
  have hc := cellsS_le hq.l
  have hgl := groupS_len hq
  have h := iter_fold (X := Int × List Vc) (body := fun L x => f35_b10 KK p n true (leanS p) (groupS (leanS p)) (cellsS (leanS p).2.1) (fun c0 c1 c2 d0 => f35_l17 KK p n c0 c1 true (leanS p) (groupS (leanS p)) (cellsS (leanS p).2.1) c2 (fun v0 v1 => L (v0, v1)) KK d0) (fun v0 v1 => L (v0, v1)) x.1 x.2) (cellsS (leanS p).2.1) (fun q s => ((q : Int), s))
    (fun s v => bif (groupS (leanS p)).any (fun g => kindS g.1 == n && fixS (leanS p).2.1 v g) then s ++ [v] else s) (fun s => some (s, 0)) (fun q s => s.length ≤ q)
    (fun L q s hq2 hi => by
      refine ⟨?_, ?_⟩
      · cases (groupS (leanS p)).any (fun g => kindS g.1 == n && fixS (leanS p).2.1 (cellsS (leanS p).2.1)[q] g) <;> simp <;> omega
      have hv := cell_Sv hq.l (List.getElem_mem hq2)
      unfold f35_b10
      simp only
      rw [in1 hq2, in0, gd hq2, stabiliserOf_eq hq.l (by omega) (fun g hg => group_good hq hg) hv]
      simp only [Bool.and_self, cond_true, Option.bind_some]
      rw [impl_row n q s true _ _ _ (by have := List.length_filter_le (fixS (leanS p).2.1 (cellsS (leanS p).2.1)[q]) (groupS (leanS p)); omega) (fun g hg => group_good hq (List.mem_filter.mp hg).1) _ (by omega) (by omega), gd hq2, turn_same hq hn]
      have e : (q : Int) + 1 = ((q + 1 : Nat) : Int) := by omega
      rw [e]
      cases (groupS (leanS p)).any (fun g => kindS g.1 == n && fixS (leanS p).2.1 (cellsS (leanS p).2.1)[q] g) <;> rfl)
    (fun L s hi => by
      unfold f35_b10
      simp only
      rw [out1, cond_false]) KK 0 [] (by omega) (by have := KKlt (n := (cellsS (leanS p).2.1).length) (by omega); omega) (by simp)
  unfold f35_l10
  refine h.trans ?_
  simp only [List.drop_zero]
  have hf := foldl_filter (fun v => (groupS (leanS p)).any (fun g => kindS g.1 == n && fixS (leanS p).2.1 v g)) (fun v : Vc => v) (cellsS (leanS p).2.1) []
  rw [List.map_id', List.nil_append] at hf
  rw [hf]
  rfl
theorem resT_len (p : Pt) (n : Int) : (resT p n).1.length ≤ 1000 := by
  unfold resT
  cases ho : okP p
  · simp
  cases okN n
  · simp
  · simp only [cond_true]
    have h1 := cellsS_le (leanS_P (okP_P ho)).l
    unfold turnS
    exact Nat.le_trans (List.length_filter_le _ _) (by omega)
theorem FnExactTurningSites_pure (a0 : Int × (Int × Int × Int) × List Int) (a1 : Int) (h : WfA [(.cons (.int .i64) (.cons (.cons (.int .i64) (.cons (.int .i64) (.int .i64))) (.list 2 (.int .i64)))), (.int .i64)] (a0, a1, ())) : ∃ K, f7G K a0 a1 = some true := by
  refine ⟨KK, ?_⟩
  unfold f7G
  have hlen : a0.2.2.length ≤ maxLen := by
    simp only [WfA, Wf] at h
    exact h.1.2.2.1
  rcases Nat.lt_or_ge 1048576 a0.2.2.length with hb | hb
  · by_cases hm : a0.2.2.length ≤ 4611686018427387904
    · rw [szPattern_big hb hm, Option.bind_some]
      rfl
    · have : w (1048576 - (a0.2.2.length : Int)) = 1048576 - (a0.2.2.length : Int) := by
        simp only [maxLen] at hlen
        exact w_id (by omega) (by omega)
      unfold f14G f48G
      rw [this, decide_eq_true (by omega), cond_true, Option.bind_some]
      rfl
  · obtain ⟨y, hy, hy0⟩ := szPattern_eq hb
    have hr := resT_len a0 a1
    obtain ⟨s, hs1, hs2, hs3⟩ := markVecS_some (resT a0 a1).1 (by omega)
    have hh := heldVecS_eq s (by omega) (by rw [hs2]; exact hs3)
    rw [hy, Option.bind_some, decide_eq_false (by omega), cond_false, toPattern_eq hb]
    simp only [Option.bind_some]
    rw [specTurning_eq, implTurning_eq]
    simp only [Option.bind_some, Bool.or_true, cond_true]
    rw [eqVecS_eq (by omega), eqPattern_eq hb, markPattern_some a0 hb, hs1]
    simp only [Option.bind_some]
    rw [hh, decide_eq_false (show ¬ ((1 : Int) + (a0.2.2.length : Int) < 0) by omega), hs2]
    have hd : decide ((1 : Int) + 2 * ((resT a0 a1).1.length : Int) < 0) = false := decide_eq_false (by omega)
    simp only [bne_self_eq_false, Bool.not_true, Bool.not_false, cond_true, cond_false, Option.bind_some, hd]
end Go.Proofs.Ytbgdojniimdihaa.X
