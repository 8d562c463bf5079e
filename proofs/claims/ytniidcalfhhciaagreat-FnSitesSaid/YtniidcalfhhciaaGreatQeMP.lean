/- Plain facts: stabilisers, symmetries of a site. -/
import Derived.Test.YtniidcalfhhciaaGreatQeMT
import Derived.Test.YtniidcalfhhciaaGreatQeMU
namespace Go.Proofs.YtniidcalfhhciaaGreat.X
open Go
set_option linter.unusedSimpArgs false
set_option linter.unusedVariables false
def stabF (l : Lt) (v : Vc) (m : Mo) : Bool := mvS l m v == v
theorem stbS_F (l : Lt) (g : List Mo) (v : Vc) : stbS l g v = g.filter (stabF l v) := rfl
theorem group_good {p : Pt} (hp : IsP p) {m : Mo} (h : m ∈ groupS p) : GoodG m := ⟨stab_mem (groupS_mem h).1, cellB_Sv hp.l (cellsS_cell (groupS_mem h).2)⟩
theorem stabiliserOf_eq {l : Lt} (hl : IsL l) {gs : List Mo} (hn : gs.length ≤ 100000) (hg : ∀ g ∈ gs, GoodG g) {v : Vc} (hv : Sv v) : f190G KK l gs v = some (stbS l gs v) := by
  have h := iter_fold (X := Int × List Mo) (body := fun L x => f190_b3 KK l gs v (fun v0 v1 => L (v0, v1)) x.1 x.2) gs (fun q s => ((q : Int), s)) (fun s g => bif stabF l v g then s ++ [g] else s) (fun s => some s) (fun q s => s.length ≤ q)
    (fun L q s hq hi => by
      refine ⟨?_, ?_⟩
      · cases stabF l v gs[q] <;> simp <;> omega
      unfold f190_b3
      simp only
      rw [in1 hq, in0, gd hq, w_succ (by omega)]
      simp only [Bool.and_self, cond_true]
      rw [show f188G KK l ((gs[q].1.1, gs[q].1.2.1, gs[q].1.2.2), gs[q].2) v = some (mvS l gs[q] v) from take_gen hl (hg _ (List.getElem_mem hq)) hv, Option.bind_some, eqV2, blim48 (by simp; omega)]
      rw [show (mvS l gs[q] v == v) = stabF l v gs[q] from rfl]
      cases stabF l v gs[q] <;> rfl)
    (fun L s hi => by
      unfold f190_b3
      simp only
      rw [out1, cond_false]) KK 0 [] (by omega) (by have := KKlt (n := gs.length) (by omega); omega) (by simp)
  unfold f190G f190_g f190_l3
  refine h.trans ?_
  simp only [List.drop_zero]
  have := foldl_filter (stabF l v) (fun g : Mo => g) gs []
  rw [List.map_id', List.nil_append] at this
  exact congrArg some this
def resY (p : Pt) (v : Vc) : List Mo × Int := bif okP p then (bif cellB (leanS p).2.1 v then (stbS (leanS p).2.1 (groupS (leanS p)) v, 0) else ([], 2)) else ([], 1)
theorem specSite_eq (p : Pt) (v : Vc) : f65G KK p v = some (resY p v) := by
  unfold f65G f65_g resY
  rw [specIsPattern_eq]
  simp only [Option.bind_some]
  cases ho : okP p
  · rfl
  have hp := okP_P ho
  have hq := leanS_P hp
  simp only [Bool.not_true, cond_false, cond_true]
  rw [l09Lean_eq hp, Option.bind_some, l07Cell_eq hq.l, Option.bind_some]
  cases hc : cellB (leanS p).2.1 v
  · rfl
  have hv := cellB_Sv hq.l hc
  have hn := groupS_len hq
  simp only [Bool.not_true, cond_false, cond_true]
  rw [l10Group_eq hq, Option.bind_some]
  have h := iter_fold (X := Int × List Mo) (body := fun L x => f65_b7 KK p v true (leanS p) true (groupS (leanS p)) (fun v0 v1 => L (v0, v1)) x.1 x.2) (groupS (leanS p)) (fun q s => ((q : Int), s)) (fun s g => bif stabF (leanS p).2.1 v g then s ++ [g] else s) (fun s => some (s, 0)) (fun q s => s.length ≤ q)
    (fun L q s hq2 hi => by
      refine ⟨?_, ?_⟩
      · cases stabF (leanS p).2.1 v (groupS (leanS p))[q] <;> simp <;> omega
      have hg := group_good hq (List.getElem_mem hq2)
      unfold f65_b7
      simp only
      rw [in1 hq2, in0, gd hq2, w_succ (by omega)]
      simp only [Bool.and_self, cond_true]
      rw [show f171G KK (leanS p).2.1 (((groupS (leanS p))[q].1.1, (groupS (leanS p))[q].1.2.1, (groupS (leanS p))[q].1.2.2), (groupS (leanS p))[q].2) v = some (mvS (leanS p).2.1 (groupS (leanS p))[q] v) from l07Move_gen hq.l hg hv, Option.bind_some, eqV2, blim48 (by simp; omega)]
      rw [show (mvS (leanS p).2.1 (groupS (leanS p))[q] v == v) = stabF (leanS p).2.1 v (groupS (leanS p))[q] from rfl]
      cases stabF (leanS p).2.1 v (groupS (leanS p))[q] <;> rfl)
    (fun L s hi => by
      unfold f65_b7
      simp only
      rw [out1, cond_false]) KK 0 [] (by omega) (by have := KKlt (n := (groupS (leanS p)).length) (by omega); omega) (by simp)
  unfold f65_l7
  refine h.trans ?_
  simp only [List.drop_zero]
  have := foldl_filter (stabF (leanS p).2.1 v) (fun g : Mo => g) (groupS (leanS p)) []
  rw [List.map_id', List.nil_append] at this
  exact congrArg (fun l => some (l, (0 : Int))) this
theorem implSite_eq (p : Pt) (v : Vc) : f64G KK p v = some (resY p v) := by
  unfold f64G resY
  rw [isPattern_eq]
  simp only [Option.bind_some]
  cases ho : okP p
  · rfl
  have hp := okP_P ho
  have hq := leanS_P hp
  simp only [Bool.not_true, cond_false, cond_true]
  rw [lean_eq hp, Option.bind_some, isCell_eq hq.l, Option.bind_some]
  cases hc : cellB (leanS p).2.1 v
  · rfl
  have hv := cellB_Sv hq.l hc
  have hn := groupS_len hq
  simp only [Bool.not_true, cond_false, cond_true]
  rw [groupOf_eq hq, Option.bind_some, stabiliserOf_eq hq.l (by omega) (fun g hg => group_good hq hg) hv]
  rfl
theorem resY_len (p : Pt) (v : Vc) : (resY p v).1.length ≤ 1000 := by
  unfold resY
  cases ho : okP p
  · simp
  cases cellB (leanS p).2.1 v
  · simp
  · simp only [cond_true]
    have h1 := groupS_len (leanS_P (okP_P ho))
    exact Nat.le_trans (List.length_filter_le _ _) (by omega)
end Go.Proofs.YtniidcalfhhciaaGreat.X
