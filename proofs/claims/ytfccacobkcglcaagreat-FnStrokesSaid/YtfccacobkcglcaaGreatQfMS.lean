/- Plain facts: marks on cells, and marks that are in conflict. -/
import Derived.Test.YtfccacobkcglcaaGreatQfPOrbitNumbers
namespace Go.Proofs.YtfccacobkcglcaaGreat.X
open Go
set_option linter.unusedSimpArgs false
set_option linter.unusedVariables false
abbrev Ma := Vc × Int
def markB (x : Ma) : Bool := vecB x.1 && okC x.2
def marksB (ms : List Ma) : Bool := ms.all markB && decide (ms.length ≤ 40)
theorem l03Number_gen {l : Lt} (hl : IsL l) {v : Vc} (hv : Sm v) : f127G KK l v = some ((numS l v : Nat) : Int) := by
 unfold f127G
 rw [l03Reduce_eq hl hv, Option.bind_some, (num_calc hl v).1]
def nmS (l : Lt) (ns : List Int) (x : Ma) : Int := ns.getD (numS l x.1) 0
def cfB (l : Lt) (ns : List Int) (y x : Ma) : Bool := (nmS l ns x == nmS l ns y) && (x.2 != y.2)
def cfO (l : Lt) (ns : List Int) (ms : List Ma) : Nat → List Ma → Int × Int × Bool
 | _, [] => (0, 0, false)
 | j, y :: r => bif (ms.take j).any (cfB l ns y) then (idxS (cfB l ns y) 0 (ms.take j), (j : Int), true) else cfO l ns ms (j + 1) r
theorem getZ {ns : List Int} {k : Nat} : ns.getD ((0 : Int) + (k : Int)).toNat (0 : Int) = ns.getD k 0 := by
 have e : ((0 : Int) + (k : Int)).toNat = k := by omega
 rw [e]
theorem numsF_len' (l : Lt) (g : List Mo) : (numsF l g).length = (cellsS l).length := by simp [numsF]
def ixS (l : Lt) (g : List Mo) (u : Vc) : Int := idxS (fun o => o.contains u) 0 (orbsS l g)
theorem numsF_get {l : Lt} (hl : IsL l) (g : List Mo) {u : Vc} (hu : cellB l u = true) : (numsF l g)[numS l u]? = some (ixS l g u) := by
 unfold numsF
 rw [List.getElem?_map, cell_at hl hu]
 rfl
theorem ix_at {f : Int} {l : Lt} {g : List Mo} (h : OrbG f l g) {u : Vc} (hu : cellB l u = true) : ∃ k : Nat, ∃ hk : k < (orbsS l g).length, ixS l g u = (k : Int) ∧ u ∈ (orbsS l g)[k] := by
 rcases idxS_spec (fun o : List Vc => o.contains u) (orbsS l g) 0 with ⟨_, h2⟩ | ⟨k, h1, h2, _, o, h4, h5⟩
 ·have := orbs_all h hu
  obtain ⟨o, ho, hc⟩ := List.any_eq_true.1 this
  rw [h2 o ho] at hc
  cases hc
 ·refine ⟨k, h1, by unfold ixS; rw [h2, Nat.zero_add], ?_⟩
  rw [List.getElem?_eq_getElem h1, Option.some.injEq] at h4
  rw [h4]
  exact List.contains_iff_mem.1 h5
theorem idxS_congr {α : Type} {p p' : α → Bool} : ∀ (l : List α) (q : Nat), (∀ a ∈ l, p a = p' a) → idxS p q l = idxS p' q l
 | [], _, _ => rfl
 | a :: l, q, h => by
  simp only [idxS]
  rw [h a (by simp), idxS_congr l (q + 1) fun b hb => h b (by simp [hb])]
theorem ix_same {f : Int} {l : Lt} {g : List Mo} (h : OrbG f l g) {u v : Vc} (hu : cellB l u = true) (hv : cellB l v = true) : (ixS l g v == ixS l g u) = (orbS l g v).contains u := by
 rw [Bool.eq_iff_iff, beq_iff_eq, List.contains_iff_mem]
 constructor
 ·intro e
  obtain ⟨i, hi, e1, m1⟩ := ix_at h hv
  obtain ⟨j, hj, e2, m2⟩ := ix_at h hu
  have : i = j := by omega
  subst this
  obtain ⟨r, hr, er⟩ := List.mem_map.1 (List.getElem_mem hi)
  have hrc : cellB l r = true := cellsS_cell (List.mem_filter.1 hr).1
  rw [← er] at m1 m2
  exact orb_trans h (orb_symm h hrc m1) m2
 ·intro hm
  unfold ixS
  refine idxS_congr _ 0 fun o ho => ?_
  obtain ⟨r, hr, rfl⟩ := List.mem_map.1 ho
  have hrc : cellB l r = true := cellsS_cell (List.mem_filter.1 hr).1
  rw [Bool.eq_iff_iff, List.contains_iff_mem, List.contains_iff_mem]
  exact ⟨fun hx => orb_trans h hx hm, fun hx => orb_trans h hx (orb_symm h hv hm)⟩
theorem nm_ix {l : Lt} (hl : IsL l) (g : List Mo) (x : Ma) : nmS l (numsF l g) x = ixS l g (redS l x.1) := by
 unfold nmS
 have e : numS l x.1 = numS l (redS l x.1) := by unfold numS; rw [red_red hl]
 rw [e, List.getD_eq_getElem?_getD, numsF_get hl g (redS_isCell hl _)]
 rfl
end Go.Proofs.YtfccacobkcglcaaGreat.X
