/- Plain facts: what the laws over codes ask: lists alike, lists that hold something, fixed cells. -/
import Derived.Test.YtniidcalfhhciaaGreatQfMY
import Derived.Test.YtniidcalfhhciaaGreatQfPTwoColourPattern
namespace Go.Proofs.YtniidcalfhhciaaGreat.X
open Go
set_option linter.unusedSimpArgs false
set_option linter.unusedVariables false
theorem big_eq (c : List Int) : f14G KK c = some (decide ((c.length : Int) > 4096)) := rfl
theorem likeVecs_eq {l : List Vc} (hl : l.length ≤ 1048576) : f92G KK l l = some true := by
  unfold f92G f92_g f92_l2
  rw [show ((l.length : Int) != (l.length : Int)) = false by simp, cond_false]
  have h := iter_all (X := Int) (body := fun L x => f92_b2 KK l l (fun v0 => L v0) x) l (fun q => (q : Int)) (fun _ => true) (some false) (some true)
    (fun L q hq => by
      unfold f92_b2
      rw [in1 hq, in0, w_succ (by omega)]
      simp)
    (fun L => by
      unfold f92_b2
      rw [out1, cond_false]) KK 0 (by omega) (by simp only [KK]; omega)
  refine h.trans ?_
  rw [List.drop_zero, show (l.all fun _ => true) = true from List.all_eq_true.mpr (by simp)]
  rfl
theorem likeMotions_eq {l : List Mo} (hl : l.length ≤ 1048576) : f66G KK l l = some true := by
  unfold f66G f66_g f66_l2
  rw [show ((l.length : Int) != (l.length : Int)) = false by simp, cond_false]
  have h := iter_all (X := Int) (body := fun L x => f66_b2 KK l l (fun v0 => L v0) x) l (fun q => (q : Int)) (fun _ => true) (some false) (some true)
    (fun L q hq => by
      unfold f66_b2
      rw [in1 hq, in0, w_succ (by omega)]
      simp)
    (fun L => by
      unfold f66_b2
      rw [out1, cond_false]) KK 0 (by omega) (by simp only [KK]; omega)
  refine h.trans ?_
  rw [List.drop_zero, show (l.all fun _ => true) = true from List.all_eq_true.mpr (by simp)]
  rfl
theorem hasVec_eq {l : List Vc} (hl : l.length ≤ 1048576) (v : Vc) : f47G KK l v = some (l.contains v) := by
  unfold f47G f47_g f47_l2
  have h := iter_idx (R := Bool) (body := fun L x => f47_b2 KK l v (fun v0 => L v0) x) l (fun a => a == v) (fun i => some (decide (i ≥ 0)))
    (fun L q hq => by
      unfold f47_b2
      rw [in1 hq, in0, gd hq, w_succ (by omega)]
      simp only [Bool.and_self, cond_true]
      rw [eqV2])
    (fun L => by
      unfold f47_b2
      rw [out1, cond_false]
      rfl) KK 0 (by omega) (by simp only [KK]; omega)
  rw [List.drop_zero, idxS_any] at h
  refine h.trans ?_
  congr 1
  rw [Bool.eq_iff_iff, List.any_eq_true, List.contains_iff_mem]
  exact ⟨fun ⟨a, ha, e⟩ => by rw [beq_iff_eq] at e; rw [← e]; exact ha, fun hm => ⟨v, hm, by simp⟩⟩
/-! ### cells that a motion fixes -/
def fixS (f : Int) (l : Lt) (m : Mo) : Int × Int := if okF f && okL l then (if suitB f l m then ((((cellsS l).filter fun v => mvS l m v == v).length : Nat), 0) else (0, 2)) else (0, 1)
theorem suit_good {f : Int} {l : Lt} {m : Mo} (h : suitB f l m = true) : GoodG m := by
  unfold suitB at h
  rw [Bool.and_eq_true, List.contains_iff_mem] at h
  have := vecB_iff.1 h.2
  exact ⟨stab_mem h.1, by unfold Sv; omega⟩
theorem fold_count {α : Type} (p : α → Bool) : ∀ (l : List α) (s : Nat), l.foldl (fun s a => bif p a then s + 1 else s) s = s + (l.filter p).length
  | [], s => rfl
  | a :: l, s => by
    rw [List.foldl_cons, fold_count p l]
    cases h : p a
    · rw [List.filter_cons_of_neg (by rw [h]; simp)]; rfl
    · rw [List.filter_cons_of_pos h, List.length_cons]; simp only [cond_true]; omega
theorem implSuit_eq {f : Int} {l : Lt} (hf : okF f = true) (hl : IsL l) (m : Mo) : f187G KK f l m = some (suitB f l m) := by
  have hf' : 0 ≤ f ∧ f ≤ 1 := by simpa [okF] using hf
  unfold f187G suitB
  rw [isVec_eq, Option.bind_some]
  cases vecB m.2
  · simp
  · simp only [Bool.not_true, Bool.or_true, cond_true]
    rw [latticeMats_eq hf'.1 hf'.2 hl, Option.bind_some, containsMat_eq (by have := stab_len f l; omega), Option.bind_some, Bool.and_true]
theorem specCF_eq (f : Int) (l : Lt) (m : Mo) : f91G KK f l m = some (fixS f l m) := by
  unfold f91G f91_g fixS
  rw [isSuitable_eq, Option.bind_some, l06Code_C, Option.bind_some]
  cases hc : okF f && okL l
  · rfl
  · cases hs : suitB f l m
    · rfl
    · have hl := okL_iff.1 (Bool.and_eq_true _ _ |>.mp hc).2
      have hN := cellsS_le hl
      have hg := suit_good hs
      rw [show ((if (true : Bool) = true then (if (true && true : Bool) = true then (0 : Int) else 2) else 1) != 0) = false by decide, cond_false, l03Cells_eq hl, Option.bind_some]
      have hh := iter_fold (R := Int × Int) (body := fun L x => f91_b6 KK f l m (if (true : Bool) = true then (if (true && true : Bool) = true then (0 : Int) else 2) else 1) (cellsS l) (fun v0 v1 => L (v0, v1)) x.1 x.2) (cellsS l) (fun q s => ((s : Nat), (q : Int))) (fun s v => bif mvS l m v == v then s + 1 else s) (fun s => some ((s : Nat), 0)) (fun q s => s ≤ q)
        (fun L q s hq hi => by
          have hb := cellB_Sv hl (cellsS_cell (List.getElem_mem hq))
          refine ⟨by cases mvS l m (cellsS l)[q] == (cellsS l)[q] <;> simp <;> omega, ?_⟩
          show f91_b6 KK f l m _ (cellsS l) (fun v0 v1 => L (v0, v1)) (s : Int) (q : Int) = _
          unfold f91_b6
          rw [in1 hq, in0, gd hq]
          simp only [Bool.and_self, cond_true]
          rw [l07Move_gen hl hg hb, Option.bind_some, eqV2, w_succ (by omega), w_succ (by omega)]
          cases mvS l m (cellsS l)[q] == (cellsS l)[q] <;> rfl)
        (fun L s _ => by
          show f91_b6 KK f l m _ (cellsS l) (fun v0 v1 => L (v0, v1)) (s : Int) ((cellsS l).length : Int) = _
          unfold f91_b6
          rw [out1, cond_false]) KK 0 0 (by omega) (by simp only [KK]; omega) (by omega)
      rw [List.drop_zero, fold_count, Nat.zero_add] at hh
      unfold f91_l6
      exact hh
theorem implCF_eq (f : Int) (l : Lt) (m : Mo) : f58G KK f l m = some (fixS f l m) := by
  unfold f58G f58_g fixS
  rw [frameCode_eq, Option.bind_some]
  cases hc : okF f && okL l
  · rfl
  · rw [Bool.and_eq_true] at hc
    have hl := okL_iff.1 hc.2
    have hN := cellsS_le hl
    rw [show ((if (true : Bool) = true then (0 : Int) else 1) != 0) = false by decide, cond_false, implSuit_eq hc.1 hl, Option.bind_some]
    cases hs : suitB f l m
    · rfl
    · have hg := suit_good hs
      rw [Bool.not_true, cond_false, cells_eq hl, Option.bind_some]
      have hh := iter_fold (R := Int × Int) (body := fun L x => f58_b6 KK f l m (if (true : Bool) = true then (0 : Int) else 1) true (cellsS l) (fun v0 v1 => L (v0, v1)) x.1 x.2) (cellsS l) (fun q s => ((s : Nat), (q : Int))) (fun s v => bif mvS l m v == v then s + 1 else s) (fun s => some ((s : Nat), 0)) (fun q s => s ≤ q)
        (fun L q s hq hi => by
          have hb := cellB_Sv hl (cellsS_cell (List.getElem_mem hq))
          refine ⟨by cases mvS l m (cellsS l)[q] == (cellsS l)[q] <;> simp <;> omega, ?_⟩
          show f58_b6 KK f l m _ true (cellsS l) (fun v0 v1 => L (v0, v1)) (s : Int) (q : Int) = _
          unfold f58_b6
          rw [in1 hq, in0, gd hq]
          simp only [Bool.and_self, cond_true]
          rw [take_gen hl hg hb, Option.bind_some, eqV2, w_succ (by omega), w_succ (by omega)]
          cases mvS l m (cellsS l)[q] == (cellsS l)[q] <;> rfl)
        (fun L s _ => by
          show f58_b6 KK f l m _ true (cellsS l) (fun v0 v1 => L (v0, v1)) (s : Int) ((cellsS l).length : Int) = _
          unfold f58_b6
          rw [out1, cond_false]) KK 0 0 (by omega) (by simp only [KK]; omega) (by omega)
      rw [List.drop_zero, fold_count, Nat.zero_add] at hh
      unfold f58_l6
      exact hh
/-- the code, as a law gets it -/
theorem code_ok {T : TypeId} {c : List Int} (h : Wf (.list T (.int .u8)) c) : ∀ i (h : i < c.length), 0 ≤ c[i] ∧ c[i] ≤ 255 := fun i hi => byte_wf (h.2 _ (List.getElem_mem hi))
end Go.Proofs.YtniidcalfhhciaaGreat.X
