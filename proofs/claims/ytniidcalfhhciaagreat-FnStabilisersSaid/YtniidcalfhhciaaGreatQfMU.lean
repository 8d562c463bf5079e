/- Plain facts: an orbit times the motions that fix one of its cells is the group; fixed cells are counted as orbits. -/
import Derived.Test.YtniidcalfhhciaaGreatQfPOrbitNumbers
import Derived.Test.YtniidcalfhhciaaGreatQfMR
namespace Go.Proofs.YtniidcalfhhciaaGreat.X
open Go
set_option linter.unusedSimpArgs false
set_option linter.unusedVariables false
/-! ### sums -/
theorem sum_zero {α : Type} : ∀ (l : List α), (l.map fun _ => 0).sum = 0
  | [] => rfl
  | _ :: l => by simp [sum_zero l]
theorem sum_add {α : Type} (f g : α → Nat) : ∀ (l : List α), (l.map fun a => f a + g a).sum = (l.map f).sum + (l.map g).sum
  | [] => rfl
  | a :: l => by
    simp only [List.map_cons, List.sum_cons, sum_add f g l]
    omega
theorem sum_const {α : Type} {f : α → Nat} {c : Nat} : ∀ {l : List α}, (∀ a ∈ l, f a = c) → (l.map f).sum = l.length * c
  | [], _ => by simp
  | a :: l, h => by
    rw [List.map_cons, List.sum_cons, sum_const (l := l) fun b hb => h b (by simp [hb]), h a (by simp), List.length_cons, Nat.add_mul]
    omega
theorem count_one {β : Type} [BEq β] [LawfulBEq β] (a : β) : ∀ {O : List β}, O.Nodup → a ∈ O → (O.map fun u => if (a == u) = true then 1 else 0).sum = 1
  | [], _, h => by cases h
  | u :: O, hn, h => by
    obtain ⟨h1, h2⟩ := List.nodup_cons.1 hn
    rw [List.map_cons, List.sum_cons]
    by_cases e : a = u
    · subst e
      rw [if_pos (by simp)]
      have : (O.map fun u => if (a == u) = true then 1 else 0) = O.map fun _ => 0 := List.map_congr_left fun u hu => if_neg (by
        intro hb
        rw [beq_iff_eq] at hb
        subst hb
        exact h1 hu)
      rw [this, sum_zero]
    · rw [if_neg (by simpa using e), count_one a h2 ((List.mem_cons.1 h).resolve_left e)]
theorem filter_cons_len {α : Type} (p : α → Bool) (a : α) (l : List α) : ((a :: l).filter p).length = (if p a = true then 1 else 0) + (l.filter p).length := by
  rw [List.filter_cons]
  split
  · simp; omega
  · simp
theorem sum_fib {α β : Type} [BEq β] [LawfulBEq β] (φ : α → β) : ∀ (g : List α) {O : List β}, O.Nodup → (∀ m ∈ g, φ m ∈ O) → (O.map fun u => (g.filter fun m => φ m == u).length).sum = g.length
  | [], O, _, _ => by simp only [List.filter_nil, List.length_nil]; exact sum_zero O
  | m :: g, O, hn, h => by
    have ih := sum_fib φ g hn fun x hx => h x (by simp [hx])
    simp only [filter_cons_len]
    rw [sum_add, ih, count_one (φ m) hn (h m (by simp)), List.length_cons]
    omega
/-! ### motions that fix a cell -/
def stbS (l : Lt) (g : List Mo) (v : Vc) : List Mo := g.filter fun m => mvS l m v == v
def fibS (l : Lt) (g : List Mo) (v u : Vc) : List Mo := g.filter fun m => mvS l m v == u
theorem mm_cancel : ((pmQ ++ pmH).all fun a => (pmQ ++ pmH).all fun b => (pmQ ++ pmH).all fun c => !(mmS a b == mmS a c) || b == c) = true := by decide +kernel
theorem mulG_inj {f : Int} {l : Lt} {g : List Mo} (h : OrbG f l g) {m n n' : Mo} (hm : m ∈ g) (hn : n ∈ g) (hn' : n' ∈ g) (e : mulG l m n = mulG l m n') : n = n' := by
  have e1 : mmS m.1 n.1 = mmS m.1 n'.1 := congrArg Prod.fst e
  have e2 : mvS l m n.2 = mvS l m n'.2 := congrArg Prod.snd e
  have c := List.all_eq_true.1 (List.all_eq_true.1 (List.all_eq_true.1 mm_cancel m.1 (h.good m hm).1) n.1 (h.good n hn).1) n'.1 (h.good n' hn').1
  have e3 : (mmS m.1 n.1 == mmS m.1 n'.1) = true := beq_iff_eq.2 e1
  rw [e3] at c
  have c : n.1 = n'.1 := by simpa using c
  exact Prod.ext c (mv_inj h.la (h.stab hm) (h.pr.mem n hn).2 (h.pr.mem n' hn').2 e2)
theorem fib_le {f : Int} {l : Lt} {g : List Mo} (h : OrbG f l g) {v u w : Vc} {m0 : Mo} (hm0 : m0 ∈ g) (e : mvS l m0 u = w) : (fibS l g v u).length ≤ (fibS l g v w).length := by
  have hnd : (fibS l g v u).Nodup := List.Pairwise.sublist List.filter_sublist h.pr.nodup
  have hmem : ∀ m ∈ fibS l g v u, m ∈ g ∧ mvS l m v = u := fun m hm => by
    obtain ⟨h1, h2⟩ := List.mem_filter.1 hm
    exact ⟨h1, beq_iff_eq.1 h2⟩
  have hnm : ((fibS l g v u).map (mulG l m0)).Nodup := by
    refine List.pairwise_map.2 (List.Pairwise.imp_of_mem (fun {a b} ha hb hab e => hab ?_) hnd)
    exact mulG_inj h hm0 (hmem a ha).1 (hmem b hb).1 e
  have := nodup_len _ (fibS l g v w) hnm fun x hx => by
    obtain ⟨m, hm, rfl⟩ := List.mem_map.1 hx
    obtain ⟨h1, h2⟩ := hmem m hm
    refine List.mem_filter.2 ⟨h.mul hm0 h1, beq_iff_eq.2 ?_⟩
    rw [← mv_mul h.la (h.stab hm0) v, h2, e]
  rwa [List.length_map] at this
theorem fib_len {f : Int} {l : Lt} {g : List Mo} (h : OrbG f l g) {u v : Vc} (hv : cellB l v = true) (hu : u ∈ orbS l g v) : (fibS l g v u).length = (stbS l g v).length := by
  obtain ⟨m0, hm0, e0⟩ := orbS_mem.1 hu
  obtain ⟨m1, hm1, e1⟩ := orbS_mem.1 (orb_symm h hv hu)
  exact Nat.le_antisymm (fib_le h hm1 e1.symm) (fib_le h hm0 e0.symm)
/-- an orbit times the motions that fix one of its cells is the group -/
theorem orb_stb {f : Int} {l : Lt} {g : List Mo} (h : OrbG f l g) {v : Vc} (hv : cellB l v = true) : (orbS l g v).length * (stbS l g v).length = g.length := by
  rw [← sum_fib (fun m => mvS l m v) g (SI_nodup (orbS_SI l g v)) fun m hm => orbS_mem.2 ⟨m, hm, rfl⟩]
  exact (sum_const fun u hu => fib_len h hv hu).symm
/-! ### orbits divide the cells -/
end Go.Proofs.YtniidcalfhhciaaGreat.X
