/- Plain facts: stabilisers, symmetries of a site. -/
import Derived.Test.YtniidcalfhhciaaGreatQfMT
import Derived.Test.YtniidcalfhhciaaGreatQfMU
namespace Go.Proofs.YtniidcalfhhciaaGreat.X
open Go
set_option linter.unusedSimpArgs false
set_option linter.unusedVariables false
def stabF (l : Lt) (v : Vc) (m : Mo) : Bool := mvS l m v == v
theorem stabiliserOf_eq {l : Lt} (hl : IsL l) {gs : List Mo} (hn : gs.length ≤ 100000) (hg : ∀ g ∈ gs, GoodG g) {v : Vc} (hv : Sv v) : f190G KK l gs v = some (stbS l gs v) := by
  have h := iter_fold (X := Int × List Mo) (body := fun L x => f190_b3 KK l gs v (fun v0 v1 => L (v0, v1)) x.1 x.2) gs (fun q s => ((q : Int), s)) (fun s g => bif stabF l v g then s ++ [g] else s) (fun s => some s) (fun q s => s.length ≤ q)
    (fun L q s hq hi => by
      refine ⟨?_, ?_⟩
      · cases stabF l v gs[q] <;> simp <;> omega
      unfold f190_b3
      simp only
      rw [in1 hq, in0, gd hq, w_succ (by omega)]
      simp only [Bool.and_self, cond_true]
      rw [show f188G KK l ((gs[q].1.1, gs[q].1.2.1, gs[q].1.2.2), gs[q].2) v = some (mvS l gs[q] v) from take_gen hl (hg _ (List.getElem_mem hq)) hv, Option.bind_some, eqV2, blim48 (by simp; omega)]
      rw [show (mvS l gs[q] v == v) = stabF l v gs[q] from rfl]
      cases stabF l v gs[q] <;> rfl)
    (fun L s hi => by
      unfold f190_b3
      simp only
      rw [out1, cond_false]) KK 0 [] (by omega) (by have := KKlt (n := gs.length) (by omega); omega) (by simp)
  unfold f190G f190_g f190_l3
  refine h.trans ?_
  simp only [List.drop_zero]
  have := foldl_filter (stabF l v) (fun g : Mo => g) gs []
  rw [List.map_id', List.nil_append] at this
  exact congrArg some this
def resY (p : Pt) (v : Vc) : List Mo × Int := bif okP p then (bif cellB (leanS p).2.1 v then (stbS (leanS p).2.1 (groupS (leanS p)) v, 0) else ([], 2)) else ([], 1)
end Go.Proofs.YtniidcalfhhciaaGreat.X
