/- Plain facts: both sides close a list of motions alike. -/
import Derived.Test.YtfccacobkcglcaaGreatQmMT
namespace Go.Proofs.YtfccacobkcglcaaGreat.X
open Go
set_option linter.unusedSimpArgs false
set_option linter.unusedVariables false
theorem ltM_irrefl (a : Mo) : ltM a a = false := ltL_irrefl _
theorem ltM_trans {a b c : Mo} (h : ltM a b = true) (k : ltM b c = true) : ltM a c = true := ltL_trans h k
theorem ltM_asymm {a b : Mo} (h : ltM a b = true) : ltM b a = false := by
 cases hb : ltM b a
 ·rfl
 ·have := ltM_trans h hb
  rw [ltM_irrefl] at this
  cases this
def SM (s : List Mo) : Prop := s.Pairwise fun a b => ltM a b = true
theorem SM_unique : ∀ {a b : List Mo}, SM a → SM b → (∀ x, x ∈ a ↔ x ∈ b) → a = b
 | [], [], _, _, _ => rfl
 | [], y :: b, _, _, h => by have := (h y).2 (by simp); cases this
 | x :: a, [], _, _, h => by have := (h x).1 (by simp); cases this
 | x :: a, y :: b, ha, hb, h => by
  have ha' := List.pairwise_cons.1 ha
  have hb' := List.pairwise_cons.1 hb
  have e : x = y := by
   rcases List.mem_cons.1 ((h x).1 (by simp)) with e | e
   ·exact e
   ·rcases List.mem_cons.1 ((h y).2 (by simp)) with e2 | e2
    ·exact e2.symm
    ·have h1 := hb'.1 x e
     have h2 := ha'.1 y e2
     rw [ltM_asymm h1] at h2
     cases h2
  subst e
  refine congrArg (x :: ·) (SM_unique ha'.2 hb'.2 fun z => ⟨fun hz => ?_, fun hz => ?_⟩)
  ·rcases List.mem_cons.1 ((h z).1 (by simp [hz])) with e | e
   ·subst e; have := ha'.1 z hz; rw [ltM_irrefl] at this; cases this
   ·exact e
  ·rcases List.mem_cons.1 ((h z).2 (by simp [hz])) with e | e
   ·subst e; have := hb'.1 z hz; rw [ltM_irrefl] at this; cases this
   ·exact e
theorem cmpM_lt (a b : Mo) : decide (cmpL (numMo a) (numMo b) < 0) = ltM a b := by
 have h := cmpL_lt (numMo a) (numMo b)
 unfold ltM
 by_cases h0 : cmpL (numMo a) (numMo b) < 0
 ·have : decide (cmpL (numMo a) (numMo b) ≥ 0) = false := decide_eq_false (by omega)
  rw [this] at h
  rw [decide_eq_true h0]
  cases hx : ltL (numMo a) (numMo b)
  ·rw [hx] at h; cases h
  ·rfl
 ·have : decide (cmpL (numMo a) (numMo b) ≥ 0) = true := decide_eq_true (by omega)
  rw [this] at h
  rw [decide_eq_false h0]
  cases hx : ltL (numMo a) (numMo b)
  ·rfl
  ·rw [hx] at h; cases h
theorem cmpM_ltOf : (ltOf fun x y => ((fun z7 z8 => f300G KK z7 z8) x y : Option Int).getD 0) = ltM := by
 funext a b
 unfold ltOf
 simp only [compareMotions_eq, Option.getD_some, cmpM_lt]
theorem swo_M : Go.Sort.SWO ltM where
 irrefl := ltM_irrefl
 trans x y z h k := ltM_trans h k
 ntrans x y z h k := by
  cases hxz : ltM x z
  ·rfl
  ·cases hyx : ltM y x
   ·have := ltM_tri h hyx
    subst this
    rw [hxz] at k
    cases k
   ·rw [ltM_trans hyx hxz] at k
    cases k
theorem sortMo_eq {s : List Mo} (hs : s.length ≤ 1000000) : f299G KK s (fun z7 z8 => f300G KK z7 z8) = some (s.mergeSort fun x y => !ltM y x) := by
 unfold f299G sortF
 rw [if_pos]
 ·rw [cmpM_ltOf]
 ·refine ⟨⟨fun x y => by simp only; rw [compareMotions_eq]; rfl, ?_, ?_⟩, by omega⟩
  ·rw [cmpM_ltOf]; exact swo_M
  ·rw [cmpM_ltOf]; exact fun x y h k => ltM_tri h k
theorem mergeMo_SM {s : List Mo} (h : s.Nodup) : SM (s.mergeSort fun x y => !ltM y x) := by
 have h1 := List.pairwise_mergeSort (le := fun x y => !ltM y x) (fun a b c h k => by
   simp only [Bool.not_eq_true'] at h k ⊢
   exact swo_M.ntrans c b a k h) (fun a b => by
   cases h : ltM b a
   ·rfl
   ·rw [ltM_asymm h]; rfl) s
 have h2 : (s.mergeSort fun x y => !ltM y x).Nodup := (List.mergeSort_perm s _).nodup_iff.2 h
 refine List.Pairwise.imp₂ (fun a b ha hb => ?_) h1 h2
 cases hx : ltM a b
 ·simp only [Bool.not_eq_true'] at ha
  exact absurd (ltM_tri hx ha) hb
 ·rfl
structure Bo (f : Int) (l : Lt) (out queue : List Mo) (mp : List (Mo × Bool)) : Prop where
 cl : Cl f l out queue
 nd : queue.Nodup
 key : ∀ x, (mfind (eqSh shMo) mp x).getD false = queue.contains x
theorem closeI_g (l : Lt) (gs : List Mo) : f205G KK l gs = f205_l12 KK l gs KK 0 (mput (eqSh shMo) [] uMo true) [uMo] := by
 have h1 : f231G KK = some (1, 0, 0, 1) := rfl
 have h2 : (decide (0 ≤ (0 : Int)) && decide ((0 : Int) < ([(((1, 0, 0, 1), (0 : Int), (0 : Int)) : Mo)].length : Int))) = true := rfl
 have h3 : ([(((1, 0, 0, 1), (0 : Int), (0 : Int)) : Mo)].getD ((0 : Int) + (0 : Int)).toNat (((0 : Int), ((0 : Int), ((0 : Int), (0 : Int)))), ((0 : Int), (0 : Int)))) = uMo := rfl
 unfold f205G f205_g
 rw [h1, Option.bind_some, h2, cond_true, h3]
 rfl
end Go.Proofs.YtfccacobkcglcaaGreat.X
namespace Go.Proofs.YtfccacobkcglcaaGreat.X
open Go
set_option linter.unusedVariables false
def stdT (n : Int) : List (Int × List Mo) :=
 [(0, []), (0, [((-1, 0, 0, -1), 0, 0)]), (0, [((1, 0, 0, -1), 0, 0)]), (0, [((1, 0, 0, -1), n, 0)]), (0, [((0, 1, 1, 0), 0, 0)]),
 (0, [((1, 0, 0, -1), 0, 0), ((-1, 0, 0, -1), 0, 0)]), (0, [((1, 0, 0, -1), n, 0), ((-1, 0, 0, -1), 0, 0)]), (0, [((1, 0, 0, -1), n, n), ((-1, 0, 0, -1), 0, 0)]),
 (0, [((0, 1, 1, 0), 0, 0), ((-1, 0, 0, -1), 0, 0)]), (0, [((0, -1, 1, 0), 0, 0)]), (0, [((0, -1, 1, 0), 0, 0), ((1, 0, 0, -1), 0, 0)]), (0, [((0, -1, 1, 0), 0, 0), ((1, 0, 0, -1), n, n)]),
 (1, [((-1, -1, 1, 0), 0, 0)]), (1, [((-1, -1, 1, 0), 0, 0), ((0, 1, 1, 0), 0, 0)]), (1, [((-1, -1, 1, 0), 0, 0), ((1, 1, 0, -1), 0, 0)]), (1, [((0, -1, 1, 1), 0, 0)]), (1, [((0, -1, 1, 1), 0, 0), ((0, 1, 1, 0), 0, 0)])]
def stdL (n : Int) : Lt := (w ((2 : Int) * n), 0, w ((2 : Int) * n))
def stdOk (n : Int) (m : Int × List Mo) : Bool := (m.2.all fun x => (stabS m.1 (stdL n)).contains x.1 && cellB (stdL n) x.2) && (okF m.1 && okL (stdL n))
def stdP (n : Int) (o : Option (Int × List Mo × Bool)) : Prop := (∃ m ∈ stdT n, o = some (m.1, m.2, true)) ∨ o = some (0, [], false)
abbrev Sgr := Int × Lt × List Mo × Int
end Go.Proofs.YtfccacobkcglcaaGreat.X
