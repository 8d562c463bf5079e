/- Plain facts: groups that a code draws. -/
import Derived.Test.YtfccacobkcglcaaGreatQeMX
import Derived.Test.YtfccacobkcglcaaGreatQeMS
namespace Go.Proofs.YtfccacobkcglcaaGreat.X
open Go
set_option linter.unusedSimpArgs false
set_option linter.unusedVariables false
theorem Pre.pw {f : Int} {l : Lt} {g : List Mo} (h : Pre f l g) : g.Pairwise fun a b => ltM a b = true := List.pairwise_iff_getElem.2 fun i j hi hj hij => h.lt j i hj hij
theorem pre_pw {f : Int} {l : Lt} {g : List Mo} (h1 : ∀ m ∈ g, m.1 ∈ stabS f l ∧ cellB l m.2 = true) (h2 : g.Pairwise fun a b => ltM a b = true) : Pre f l g := ⟨h1, fun i h => List.pairwise_iff_getElem.1 h2 i (i + 1) (by omega) h (by omega)⟩
theorem ltM_tri {a b : Mo} (h : ltM a b = false) (k : ltM b a = false) : a = b := numMo_inj (ltL_tri rfl h k)
theorem insert_ok {f : Int} {l : Lt} {g : List Mo} (hl : IsL l) (hp : Pre f l g) {m : Mo} (hm : m.1 ∈ stabS f l ∧ cellB l m.2 = true) (hn : g.contains m = false) : ∃ g', f324G KK g m = some g' ∧ Pre f l g' ∧ (∀ x, x ∈ g' ↔ x ∈ g ∨ x = m) ∧ g'.length = g.length + 1 := by
  have hlen := hp.len hl
  obtain ⟨p, h1, h2, h3, h4⟩ := place_loop hp (by omega) m KK 0 g.length (by omega) (by omega) (by simp only [KK]; omega) (fun i _ h => by omega) (fun i hi h => by omega)
  have hne : ∀ i (h : i < g.length), g[i] ≠ m := fun i h e => by
    have : g.contains m = true := List.contains_iff_mem.2 (by rw [← e]; exact List.getElem_mem h)
    rw [hn] at this; cases this
  have hgt : ∀ i (h : i < g.length), p ≤ i → ltM m g[i] = true := fun i h hi => by
    cases hx : ltM m g[i] with
    | true => rfl
    | false => exact absurd (ltM_tri (h4 i h hi) hx) (hne i h)
  have z1 : ((0 : Int) + (p : Int)).toNat = p := by omega
  have z2 : ((0 : Int) + (g.length : Int)).toNat = g.length := by omega
  have d1 : decide ((p : Int) ≤ (g.length : Int)) = true := decide_eq_true (by omega)
  have l1 : (g.take p).length = p := by rw [List.length_take]; omega
  have l2 : (g.drop p).length = g.length - p := List.length_drop
  refine ⟨g.take p ++ [m] ++ g.drop p, ?_, ?_, ?_, by simp only [List.length_append, l1, l2, List.length_singleton]; omega⟩
  · unfold f324G f328G f328_g
    simp only [show f328_l6 KK g m KK (0 : Int) (g.length : Int) = some (p : Int) from h1, Option.bind_some, Bool.or_true, cond_true, z1, z2, List.take_length, List.drop_zero, List.nil_append, in0, d1, Int.le_refl, decide_true, Bool.and_self]
    rw [blim48 (by rw [l1]; omega), blim48 (by rw [l1]; simp; omega), blim48 (by rw [List.length_append, l1, l2]; simp; omega)]
    by_cases hlt : p < g.length
    · have hx : (g.getD p dMo) = g[p] := by simp [List.getD, hlt]
      have e2 : (g[p] == m) = false := beq_eq_false_iff_ne.2 (hne p hlt)
      rw [← eqMo] at e2
      rw [in1 hlt]
      simp only [Bool.not_true, Bool.false_or, Bool.and_self, cond_true]
      rw [show g.getD p ((0, 0, 0, 0), 0, 0) = g[p] from hx, e2]
      rfl
    · have e : p = g.length := by omega
      rw [decide_eq_false (show ¬ (p : Int) < (g.length : Int) by omega)]
      rfl
  · refine pre_pw (fun x hx => ?_) ?_
    · simp only [List.mem_append, List.mem_singleton] at hx
      rcases hx with (hx | rfl) | hx
      · exact hp.mem _ (List.mem_of_mem_take hx)
      · exact hm
      · exact hp.mem _ (List.mem_of_mem_drop hx)
    · have hpw := hp.pw
      rw [List.append_assoc, List.pairwise_append, List.pairwise_append]
      have ht : ∀ a ∈ g.take p, ltM a m = true := fun a ha => by
        obtain ⟨i, hi, rfl⟩ := List.getElem_of_mem ha
        rw [l1] at hi
        rw [List.getElem_take]
        exact h3 i (by omega) hi
      have hd : ∀ b ∈ g.drop p, ltM m b = true := fun b hb => by
        obtain ⟨i, hi, rfl⟩ := List.getElem_of_mem hb
        rw [l2] at hi
        rw [List.getElem_drop]
        exact hgt (p + i) (by omega) (by omega)
      refine ⟨hpw.sublist (List.take_sublist _ _), ⟨by simp, hpw.sublist (List.drop_sublist _ _), fun a ha b hb => ?_⟩, fun a ha b hb => ?_⟩
      · rw [List.mem_singleton] at ha
        subst ha
        exact hd b hb
      · rcases List.mem_append.1 hb with hb | hb
        · rw [List.mem_singleton] at hb
          subst hb
          exact ht a ha
        · exact ltL_trans (ht a ha) (hd b hb)
  · intro x
    simp only [List.mem_append, List.mem_singleton]
    constructor
    · rintro ((h | h) | h)
      · exact .inl (List.mem_of_mem_take h)
      · exact .inr h
      · exact .inl (List.mem_of_mem_drop h)
    · rintro (h | h)
      · rw [← List.take_append_drop p g] at h
        rcases List.mem_append.1 h with h | h
        · exact .inl (.inl h)
        · exact .inr h
      · exact .inl (.inr h)
/-! ### a group out of motions -/
structure Cl (f : Int) (l : Lt) (out queue : List Mo) : Prop where
  pre : Pre f l out
  mem : ∀ x, x ∈ out ↔ x ∈ queue
  len : queue.length = out.length
abbrev OkM (f : Int) (l : Lt) (m : Mo) : Prop := m.1 ∈ stabS f l ∧ cellB l m.2 = true
theorem OkM.good {f : Int} {l : Lt} (hl : IsL l) {m : Mo} (h : OkM f l m) : GoodG m := ⟨stab_mem h.1, cellB_Sv hl h.2⟩
theorem mul_ok {f : Int} {l : Lt} (hl : IsL l) {m n : Mo} (hm : OkM f l m) (hn : OkM f l n) : OkM f l (mulG l m n) := ⟨stab_mul hl hm.1 hn.1, redS_isCell hl _⟩
theorem close_in {f : Int} {l : Lt} (hl : IsL l) {gs : List Mo} (hg : ∀ m ∈ gs, OkM f l m) (hgn : gs.length ≤ 1000) {a : Nat} {q0 : List Mo} {L : Int → List Mo → List Mo → Option (List Mo)} : ∀ (n i : Nat) (out queue : List Mo), Cl f l out queue → a < queue.length → i ≤ gs.length → gs.length - i < n →
    ∃ out' queue', Cl f l out' queue' ∧ queue.length ≤ queue'.length ∧ f253_l21 KK l gs (a : Int) q0 L n (i : Int) out queue = L ((a + 1 : Nat) : Int) out' queue'
  | 0, i, _, _, _, _, _, h => by omega
  | n + 1, i, out, queue, hC, ha, hi, hk => by
    have hlen := hC.pre.len hl
    have hql := hC.len
    show ∃ out' queue', Cl f l out' queue' ∧ queue.length ≤ queue'.length ∧ f253_b21 KK l gs (a : Int) q0 L (fun v0 v1 v2 => f253_l21 KK l gs (a : Int) q0 L n v0 v1 v2) (i : Int) out queue = _
    unfold f253_b21
    by_cases hlt : i < gs.length
    · have o1 := hg _ (List.getElem_mem hlt)
      have o2 : OkM f l queue[a] := hC.pre.mem _ ((hC.mem _).2 (List.getElem_mem ha))
      have o3 := mul_ok hl o1 o2
      have g1 := o1.good hl
      have g2 := o2.good hl
      rw [in1 hlt, in0, gd hlt, in0, in1 ha, gd ha]
      simp only [Bool.and_self, cond_true]
      rw [compose_eq g1 g2, Option.bind_some, l06Reduce_eq hl (m := (mmS gs[i].1 queue[a].1, appS gs[i] queue[a].2)) (appS_Sm (pm_sm g1.1) g2.2 g1.2), Option.bind_some, l06Has_eq hC.pre (by omega), Option.bind_some, w_succ (by omega)]
      rw [show (((mmS gs[i].1 queue[a].1, redS l (appS gs[i] queue[a].2)) : Mo)) = mulG l gs[i] queue[a] from rfl]
      cases hc : out.contains (mulG l gs[i] queue[a])
      · obtain ⟨g', e1, e2, e3, e4⟩ := insert_ok hl hC.pre o3 hc
        have hlen2 := e2.len hl
        simp only [Bool.not_false, cond_true]
        rw [e1, Option.bind_some, blim48 (by simp; omega), cond_true]
        obtain ⟨out', queue', c1, c2, c3⟩ := close_in hl hg hgn (a := a) (q0 := q0) (L := L) n (i + 1) g' (queue ++ [mulG l gs[i] queue[a]]) ⟨e2, fun x => by rw [e3, List.mem_append, List.mem_singleton, hC.mem], by rw [List.length_append, e4, hql]; rfl⟩ (by rw [List.length_append]; simp; omega) (by omega) (by omega)
        exact ⟨out', queue', c1, by rw [List.length_append] at c2; omega, c3⟩
      · simp only [Bool.not_true, cond_false]
        exact close_in hl hg hgn n (i + 1) out queue hC ha (by omega) (by omega)
    · have e : i = gs.length := by omega
      subst e
      rw [out1, cond_false, w_succ (by omega)]
      exact ⟨out, queue, hC, Nat.le_refl _, rfl⟩
theorem close_out {f : Int} {l : Lt} (hl : IsL l) {gs : List Mo} (hg : ∀ m ∈ gs, OkM f l m) (hgn : gs.length ≤ 1000) : ∀ (n a : Nat) (out queue : List Mo), Cl f l out queue → a ≤ queue.length → 768 - a < n →
    ∃ out' queue', Cl f l out' queue' ∧ queue.length ≤ queue'.length ∧ f253_l17 KK l gs n (a : Int) out queue = some out'
  | 0, a, _, _, _, _, h => by omega
  | n + 1, a, out, queue, hC, ha, hk => by
    have hlen := hC.pre.len hl
    have hql := hC.len
    show ∃ out' queue', Cl f l out' queue' ∧ queue.length ≤ queue'.length ∧ f253_b17 KK l gs (fun c0 c1 d0 d1 d2 => f253_l21 KK l gs c0 c1 (fun v0 v1 v2 => f253_l17 KK l gs n v0 v1 v2) KK d0 d1 d2) (fun v0 v1 v2 => f253_l17 KK l gs n v0 v1 v2) (a : Int) out queue = _
    unfold f253_b17
    by_cases hlt : a < queue.length
    · rw [in1 hlt, cond_true]
      obtain ⟨o1, q1, c1, c2, c3⟩ := close_in hl hg hgn (a := a) (q0 := queue) (L := fun v0 v1 v2 => f253_l17 KK l gs n v0 v1 v2) KK 0 out queue hC hlt (by omega) (by simp only [KK]; omega)
      obtain ⟨o2, q2, d1, d2, d3⟩ := close_out hl hg hgn n (a + 1) o1 q1 c1 (by omega) (by omega)
      exact ⟨o2, q2, d1, by omega, c3.trans d3⟩
    · have e : a = queue.length := by omega
      subst e
      rw [out1, cond_false]
      exact ⟨out, queue, hC, Nat.le_refl _, rfl⟩
theorem uMo_ok {f : Int} {l : Lt} (hl : IsL l) : OkM f l uMo := ⟨stab_one hl, cellB_iff.2 (by have := hl.a1; have := hl.c1; simp only [uMo]; omega)⟩
theorem close_g (l : Lt) (gs : List Mo) : f253G KK l gs = f253_l17 KK l gs KK 0 [uMo] [uMo] := by
  have h1 : f306G KK = some uMo := rfl
  unfold f253G f253_g
  rw [h1, Option.bind_some, Option.bind_some]
theorem close_ok {f : Int} {l : Lt} (hl : IsL l) {gs : List Mo} (hg : ∀ m ∈ gs, OkM f l m) (hgn : gs.length ≤ 1000) : ∃ g, f253G KK l gs = some g ∧ Pre f l g ∧ 0 < g.length := by
  have hu := uMo_ok (f := f) hl
  have hc : Cl f l [uMo] [uMo] := ⟨pre_pw (fun m hm => by rw [List.mem_singleton] at hm; rw [hm]; exact hu) (by simp), fun x => Iff.rfl, rfl⟩
  have hk : 768 - 0 < KK := by simp only [KK]; omega
  obtain ⟨o, q, c1, c2, c3⟩ := close_out hl hg hgn KK 0 [uMo] [uMo] hc (by omega) hk
  have c4 : f253_l17 KK l gs KK 0 [uMo] [uMo] = some o := c3
  exact ⟨o, (close_g l gs).trans c4, c1.pre, by have := c1.len; simp at c2; omega⟩
/-! ### what a code draws -/
end Go.Proofs.YtfccacobkcglcaaGreat.X
