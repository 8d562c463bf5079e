/- Plain facts: what motions generate is a group; patterns that a code draws. -/
import Derived.Test.YtfccacobkcglcaaGreatQeMZ
namespace Go.Proofs.YtfccacobkcglcaaGreat.X
open Go
set_option linter.unusedSimpArgs false
set_option linter.unusedVariables false
theorem mm_assoc (a b c : Mt) : mmS (mmS a b) c = mmS a (mmS b c) := by
  have h1 := mulS_mm a b (c.1, c.2.2.1)
  have h2 := mulS_mm a b (c.2.1, c.2.2.2)
  have e1 : mmS (mmS a b) c = ((mulS (mmS a b) (c.1, c.2.2.1)).1, (mulS (mmS a b) (c.2.1, c.2.2.2)).1, (mulS (mmS a b) (c.1, c.2.2.1)).2, (mulS (mmS a b) (c.2.1, c.2.2.2)).2) := rfl
  rw [e1, h1, h2]
  rfl
theorem mulG_assoc {f : Int} {l : Lt} (hl : IsL l) {m n : Mo} (hm : OkM f l m) (y : Mo) : mulG l (mulG l m n) y = mulG l m (mulG l n y) := by
  have h := mv_mul (f := f) hl (n := n) hm.1 y.2
  refine Prod.ext (mm_assoc _ _ _) ?_
  exact h.symm
theorem mulG_one {f : Int} {l : Lt} (hl : IsL l) {y : Mo} (hy : OkM f l y) : mulG l uMo y = y := by
  have h := mv_one hl hy.2
  refine Prod.ext ?_ h
  show mmS (1, 0, 0, 1) y.1 = y.1
  unfold mmS
  simp
/-- a product of given motions -/
inductive Gn (l : Lt) (gs : List Mo) : Mo → Prop where
  | one : Gn l gs uMo
  | mul (m x : Mo) : m ∈ gs → Gn l gs x → Gn l gs (mulG l m x)
theorem gen_mul {f : Int} {l : Lt} (hl : IsL l) {gs : List Mo} (hg : ∀ m ∈ gs, OkM f l m) {S : List Mo} (hS : ∀ x ∈ S, OkM f l x) (hc : ∀ x ∈ S, ∀ m ∈ gs, mulG l m x ∈ S) {x : Mo} (h : Gn l gs x) : ∀ y ∈ S, mulG l x y ∈ S := by
  induction h with
  | one => intro y hy; rw [mulG_one hl (hS y hy)]; exact hy
  | mul m x hm _ ih =>
    intro y hy
    rw [mulG_assoc hl (hg m hm)]
    exact hc _ (ih y hy) m hm
structure Cg (f : Int) (l : Lt) (gs out queue : List Mo) : Prop where
  cl : Cl f l out queue
  gen : ∀ x ∈ queue, Gn l gs x
theorem closeG_in {f : Int} {l : Lt} (hl : IsL l) {gs : List Mo} (hg : ∀ m ∈ gs, OkM f l m) (hgn : gs.length ≤ 1000) {a : Nat} {q0 : List Mo} {L : Int → List Mo → List Mo → Option (List Mo)} : ∀ (n i : Nat) (out queue : List Mo), Cg f l gs out queue → (ha : a < queue.length) → i ≤ gs.length → gs.length - i < n → (∀ m ∈ gs.take i, mulG l m queue[a] ∈ queue) →
    ∃ out' ext, Cg f l gs out' (queue ++ ext) ∧ (∀ m ∈ gs, mulG l m queue[a] ∈ queue ++ ext) ∧ f253_l21 KK l gs (a : Int) q0 L n (i : Int) out queue = L ((a + 1 : Nat) : Int) out' (queue ++ ext)
  | 0, i, _, _, _, _, _, h, _ => by omega
  | n + 1, i, out, queue, hC, ha, hi, hk, hd => by
    have hlen := hC.cl.pre.len hl
    have hql := hC.cl.len
    show ∃ out' ext, Cg f l gs out' (queue ++ ext) ∧ (∀ m ∈ gs, mulG l m queue[a] ∈ queue ++ ext) ∧ f253_b21 KK l gs (a : Int) q0 L (fun v0 v1 v2 => f253_l21 KK l gs (a : Int) q0 L n v0 v1 v2) (i : Int) out queue = _
    unfold f253_b21
    by_cases hlt : i < gs.length
    · have o1 := hg _ (List.getElem_mem hlt)
      have o2 : OkM f l queue[a] := hC.cl.pre.mem _ ((hC.cl.mem _).2 (List.getElem_mem ha))
      have o3 := mul_ok hl o1 o2
      have g1 := o1.good hl
      have g2 := o2.good hl
      rw [in1 hlt, in0, gd hlt, in0, in1 ha, gd ha]
      simp only [Bool.and_self, cond_true]
      rw [compose_eq g1 g2, Option.bind_some, l06Reduce_eq hl (m := (mmS gs[i].1 queue[a].1, appS gs[i] queue[a].2)) (appS_Sm (pm_sm g1.1) g2.2 g1.2), Option.bind_some, l06Has_eq hC.cl.pre (by omega), Option.bind_some, w_succ (by omega)]
      rw [show (((mmS gs[i].1 queue[a].1, redS l (appS gs[i] queue[a].2)) : Mo)) = mulG l gs[i] queue[a] from rfl]
      cases hc : out.contains (mulG l gs[i] queue[a])
      · obtain ⟨g', e1, e2, e3, e4⟩ := insert_ok hl hC.cl.pre o3 hc
        have hlen2 := e2.len hl
        simp only [Bool.not_false, cond_true]
        rw [e1, Option.bind_some, blim48 (by simp; omega), cond_true]
        have ha' : a < (queue ++ [mulG l gs[i] queue[a]]).length := by rw [List.length_append]; simp; omega
        have hge : (queue ++ [mulG l gs[i] queue[a]])[a] = queue[a] := List.getElem_append_left ha
        obtain ⟨out', ext, c1, c2, c3⟩ := closeG_in hl hg hgn (a := a) (q0 := q0) (L := L) n (i + 1) g' (queue ++ [mulG l gs[i] queue[a]]) ⟨⟨e2, fun x => by rw [e3, List.mem_append, List.mem_singleton, hC.cl.mem], by rw [List.length_append, e4, hql]; rfl⟩, fun x hx => by
            rcases List.mem_append.1 hx with hx | hx
            · exact hC.gen x hx
            · rw [List.mem_singleton] at hx
              rw [hx]
              exact .mul _ _ (List.getElem_mem hlt) (hC.gen _ (List.getElem_mem ha))⟩ ha' (by omega) (by omega) (fun m hm => by
            rw [hge]
            rw [List.take_succ_eq_append_getElem hlt] at hm
            rcases List.mem_append.1 hm with hm | hm
            · exact List.mem_append.2 (.inl (hd m hm))
            · rw [List.mem_singleton] at hm
              rw [hm]
              simp)
        rw [hge] at c2
        refine ⟨out', [mulG l gs[i] queue[a]] ++ ext, ?_, ?_, ?_⟩
        · rw [← List.append_assoc]; exact c1
        · rw [← List.append_assoc]; exact c2
        · rw [← List.append_assoc]; exact c3
      · simp only [Bool.not_true, cond_false]
        exact closeG_in hl hg hgn n (i + 1) out queue hC ha (by omega) (by omega) (fun m hm => by
            rw [List.take_succ_eq_append_getElem hlt] at hm
            rcases List.mem_append.1 hm with hm | hm
            · exact hd m hm
            · rw [List.mem_singleton] at hm
              rw [hm]
              exact (hC.cl.mem _).1 (List.contains_iff_mem.1 hc))
    · have e : i = gs.length := by omega
      subst e
      rw [out1, cond_false, w_succ (by omega)]
      rw [List.take_length] at hd
      exact ⟨out, [], by rw [List.append_nil]; exact hC, by rw [List.append_nil]; exact hd, by rw [List.append_nil]⟩
theorem closeG_out {f : Int} {l : Lt} (hl : IsL l) {gs : List Mo} (hg : ∀ m ∈ gs, OkM f l m) (hgn : gs.length ≤ 1000) : ∀ (n a : Nat) (out queue : List Mo), Cg f l gs out queue → a ≤ queue.length → 768 - a < n → (∀ x ∈ queue.take a, ∀ m ∈ gs, mulG l m x ∈ queue) → uMo ∈ queue →
    ∃ out' queue', Cg f l gs out' queue' ∧ (∀ x ∈ queue', ∀ m ∈ gs, mulG l m x ∈ queue') ∧ uMo ∈ queue' ∧ f253_l17 KK l gs n (a : Int) out queue = some out'
  | 0, a, _, _, _, _, h, _, _ => by omega
  | n + 1, a, out, queue, hC, ha, hk, hd, hu => by
    have hlen := hC.cl.pre.len hl
    have hql := hC.cl.len
    show ∃ out' queue', Cg f l gs out' queue' ∧ (∀ x ∈ queue', ∀ m ∈ gs, mulG l m x ∈ queue') ∧ uMo ∈ queue' ∧ f253_b17 KK l gs (fun c0 c1 d0 d1 d2 => f253_l21 KK l gs c0 c1 (fun v0 v1 v2 => f253_l17 KK l gs n v0 v1 v2) KK d0 d1 d2) (fun v0 v1 v2 => f253_l17 KK l gs n v0 v1 v2) (a : Int) out queue = _
    unfold f253_b17
    by_cases hlt : a < queue.length
    · rw [in1 hlt, cond_true]
      obtain ⟨o1, ext, c1, c2, c3⟩ := closeG_in hl hg hgn (a := a) (q0 := queue) (L := fun v0 v1 v2 => f253_l17 KK l gs n v0 v1 v2) KK 0 out queue hC hlt (by omega) (by simp only [KK]; omega) (by simp)
      obtain ⟨o2, q2, d1, d2, d3, d4⟩ := closeG_out hl hg hgn n (a + 1) o1 (queue ++ ext) c1 (by rw [List.length_append]; omega) (by omega) (fun x hx m hm => by
          rw [List.take_append_of_le_length (by omega), List.take_succ_eq_append_getElem hlt] at hx
          rcases List.mem_append.1 hx with hx | hx
          · exact List.mem_append.2 (.inl (hd x hx m hm))
          · rw [List.mem_singleton] at hx
            rw [hx]
            exact c2 m hm) (List.mem_append.2 (.inl hu))
      exact ⟨o2, q2, d1, d2, d3, c3.trans d4⟩
    · have e : a = queue.length := by omega
      subst e
      rw [out1, cond_false]
      rw [List.take_length] at hd
      exact ⟨out, queue, hC, hd, hu, rfl⟩
theorem closeG_ok {f : Int} {l : Lt} (hf : okF f = true) (hl : IsL l) {gs : List Mo} (hg : ∀ m ∈ gs, OkM f l m) (hgn : gs.length ≤ 1000) : ∃ g, f253G KK l gs = some g ∧ codeC f l g true = 0 ∧ g.length ≤ 768 := by
  have hu := uMo_ok (f := f) hl
  have hc : Cg f l gs [uMo] [uMo] := ⟨⟨pre_pw (fun m hm => by rw [List.mem_singleton] at hm; rw [hm]; exact hu) (by simp), fun x => Iff.rfl, rfl⟩, fun x hx => by rw [List.mem_singleton] at hx; rw [hx]; exact .one⟩
  have hk : 768 - 0 < KK := by simp only [KK]; omega
  obtain ⟨o, q, c1, c2, c3, c4⟩ := closeG_out hl hg hgn KK 0 [uMo] [uMo] hc (by omega) hk (by simp) (by simp)
  have c5 : f253_l17 KK l gs KK 0 [uMo] [uMo] = some o := c4
  have hmem := c1.cl.mem
  refine ⟨o, (close_g l gs).trans c5, ?_, c1.cl.pre.len hl⟩
  have hG : grpB f l o = true := grpB_of hl c1.cl.pre.mem c1.cl.pre.pw ((hmem _).2 c3) fun m hm n hn => (hmem _).2 (gen_mul hl hg (fun x hx => c1.cl.pre.mem x ((hmem x).2 hx)) c2 (c1.gen m ((hmem m).1 hm)) n ((hmem n).1 hn))
  unfold codeC
  rw [hf, okL_iff.2 hl, hG]
  rfl
/-! ### patterns -/
section
variable {c : List Int} {t0 : Int × Int} {f : Int} {l : Lt}
end
end Go.Proofs.YtfccacobkcglcaaGreat.X
