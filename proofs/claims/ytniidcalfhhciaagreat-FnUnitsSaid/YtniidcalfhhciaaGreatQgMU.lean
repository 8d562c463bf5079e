/- Plain facts: an orbit times the motions that fix one of its cells is the group; fixed cells are counted as orbits. -/
import Derived.Test.YtniidcalfhhciaaGreatQgPOrbitNumbers
import Derived.Test.YtniidcalfhhciaaGreatQgMR
namespace Go.Proofs.YtniidcalfhhciaaGreat.X
open Go
set_option linter.unusedSimpArgs false
set_option linter.unusedVariables false
/-! ### sums -/
theorem sum_const {α : Type} {f : α → Nat} {c : Nat} : ∀ {l : List α}, (∀ a ∈ l, f a = c) → (l.map f).sum = l.length * c
 | [], _ => by simp
 | a :: l, h => by
  rw [List.map_cons, List.sum_cons, sum_const (l := l) fun b hb => h b (by simp [hb]), h a (by simp), List.length_cons, Nat.add_mul]
  omega
/-! ### motions that fix a cell -/
def stbS (l : Lt) (g : List Mo) (v : Vc) : List Mo := g.filter fun m => mvS l m v == v
def fibS (l : Lt) (g : List Mo) (v u : Vc) : List Mo := g.filter fun m => mvS l m v == u
/-! ### orbits divide the cells -/
theorem orbs_flat_mem {f : Int} {l : Lt} {g : List Mo} (h : OrbG f l g) {v : Vc} : v ∈ (orbsS l g).flatten ↔ v ∈ cellsS l := by
 rw [List.mem_flatten]
 constructor
 ·rintro ⟨o, ho, hv⟩
  exact cellB_mem h.la ((orbs_cell h ho).1 v hv)
 ·intro hv
  have := orbs_all h (cellsS_cell hv)
  obtain ⟨o, ho, hc⟩ := List.any_eq_true.1 this
  exact ⟨o, ho, List.contains_iff_mem.1 hc⟩
theorem orbs_flat_nodup {f : Int} {l : Lt} {g : List Mo} (h : OrbG f l g) : (orbsS l g).flatten.Nodup := by
 unfold List.Nodup
 rw [List.pairwise_flatten]
 constructor
 ·intro o ho
  obtain ⟨r, _, rfl⟩ := List.mem_map.1 ho
  exact SI_nodup (orbS_SI l g r)
 ·unfold orbsS
  refine List.pairwise_map.2 (List.Pairwise.imp_of_mem (fun {a b} ha hb hab x hx y hy e => hab ?_) (reps_nodup h.la g))
  subst e
  obtain ⟨c1, c2⟩ := reps_mem ha
  obtain ⟨d1, d2⟩ := reps_mem hb
  exact rep_one h c1 d1 c2 d2 (orb_trans h hx (orb_symm h d1 hy))
theorem orbs_perm {f : Int} {l : Lt} {g : List Mo} (h : OrbG f l g) : (orbsS l g).flatten.Perm (cellsS l) :=
 (List.perm_ext_iff_of_nodup (orbs_flat_nodup h) (cellsS_nodup h.la)).2 fun v => orbs_flat_mem h
theorem orbs_total {f : Int} {l : Lt} {g : List Mo} (h : OrbG f l g) : ((orbsS l g).map List.length).sum = (cellsS l).length := by
 rw [← (orbs_perm h).length_eq, List.length_flatten]
end Go.Proofs.YtniidcalfhhciaaGreat.X
