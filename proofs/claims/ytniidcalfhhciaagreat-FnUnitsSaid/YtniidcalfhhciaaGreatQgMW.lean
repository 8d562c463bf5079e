/- Plain facts: what the laws over codes ask: lists alike, lists that hold something, fixed cells. -/
import Derived.Test.YtniidcalfhhciaaGreatQgMY
import Derived.Test.YtniidcalfhhciaaGreatQgPTwoColourPattern
namespace Go.Proofs.YtniidcalfhhciaaGreat.X
open Go
set_option linter.unusedSimpArgs false
set_option linter.unusedVariables false
theorem big_eq (c : List Int) : f14G KK c = some (decide ((c.length : Int) > 4096)) := rfl
theorem likeVecs_eq {l : List Vc} (hl : l.length ≤ 1048576) : f92G KK l l = some true := by
 unfold f92G f92_g f92_l2
 rw [show ((l.length : Int) != (l.length : Int)) = false by simp, cond_false]
 have h := iter_all (X := Int) (body := fun L x => f92_b2 KK l l (fun v0 => L v0) x) l (fun q => (q : Int)) (fun _ => true) (some false) (some true)
  (fun L q hq => by
   unfold f92_b2
   rw [in1 hq, in0, w_succ (by omega)]
   simp)
  (fun L => by
   unfold f92_b2
   rw [out1, cond_false]) KK 0 (by omega) (by simp only [KK]; omega)
 refine h.trans ?_
 rw [List.drop_zero, show (l.all fun _ => true) = true from List.all_eq_true.mpr (by simp)]
 rfl
/-! ### cells that a motion fixes -/
def fixS (f : Int) (l : Lt) (m : Mo) : Int × Int := if okF f && okL l then (if suitB f l m then ((((cellsS l).filter fun v => mvS l m v == v).length : Nat), 0) else (0, 2)) else (0, 1)
/-- the code, as a law gets it -/
theorem code_ok {T : TypeId} {c : List Int} (h : Wf (.list T (.int .u8)) c) : ∀ i (h : i < c.length), 0 ≤ c[i] ∧ c[i] ≤ 255 := fun i hi => byte_wf (h.2 _ (List.getElem_mem hi))
end Go.Proofs.YtniidcalfhhciaaGreat.X
