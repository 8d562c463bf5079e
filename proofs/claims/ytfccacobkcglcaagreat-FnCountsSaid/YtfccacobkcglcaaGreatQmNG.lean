/- Plain facts: motions that are not reduced are closed alike. -/
import Derived.Test.YtfccacobkcglcaaGreatQmNS
namespace Go.Proofs.YtfccacobkcglcaaGreat.X
open Go
set_option linter.unusedSimpArgs false
set_option linter.unusedVariables false
abbrev OkW (f : Int) (l : Lt) (m : Mo) : Prop := m.1 ∈ stabS f l ∧ GoodG m
theorem mul_okW {f : Int} {l : Lt} (hl : IsL l) {m n : Mo} (hm : OkW f l m) (hn : OkM f l n) : OkM f l (mulG l m n) := ⟨stab_mul hl hm.1 hn.1, redS_isCell hl _⟩
theorem mulG_assocW {f : Int} {l : Lt} (hl : IsL l) {m n : Mo} (hm : OkW f l m) (y : Mo) : mulG l (mulG l m n) y = mulG l m (mulG l n y) := by
 have h := mv_mul (f := f) hl (n := n) hm.1 y.2
 refine Prod.ext (mm_assoc _ _ _) ?_
 exact h.symm
theorem gen_mulW {f : Int} {l : Lt} (hl : IsL l) {gs : List Mo} (hg : ∀ m ∈ gs, OkW f l m) {S : List Mo} (hS : ∀ x ∈ S, OkM f l x) (hc : ∀ x ∈ S, ∀ m ∈ gs, mulG l m x ∈ S) {x : Mo} (h : Gn l gs x) : ∀ y ∈ S, mulG l x y ∈ S := by
 induction h with
 | one => intro y hy; rw [mulG_one hl (hS y hy)]; exact hy
 | mul m x hm _ ih =>
  intro y hy
  rw [mulG_assocW hl (hg m hm)]
  exact hc _ (ih y hy) m hm
theorem closeG_inW {f : Int} {l : Lt} (hl : IsL l) {gs : List Mo} (hg : ∀ m ∈ gs, OkW f l m) (hgn : gs.length ≤ 1000) {a : Nat} {q0 : List Mo} {L : Int → List Mo → List Mo → Option (List Mo)} : ∀ (n i : Nat) (out queue : List Mo), Cg f l gs out queue → (ha : a < queue.length) → i ≤ gs.length → gs.length - i < n → (∀ m ∈ gs.take i, mulG l m queue[a] ∈ queue) →
  ∃ out' ext, Cg f l gs out' (queue ++ ext) ∧ (∀ m ∈ gs, mulG l m queue[a] ∈ queue ++ ext) ∧ f253_l21 KK l gs (a : Int) q0 L n (i : Int) out queue = L ((a + 1 : Nat) : Int) out' (queue ++ ext)
 | 0, i, _, _, _, _, _, h, _ => by omega
 | n + 1, i, out, queue, hC, ha, hi, hk, hd => by
  have hlen := hC.cl.pre.len hl
  have hql := hC.cl.len
  show ∃ out' ext, Cg f l gs out' (queue ++ ext) ∧ (∀ m ∈ gs, mulG l m queue[a] ∈ queue ++ ext) ∧ f253_b21 KK l gs (a : Int) q0 L (fun v0 v1 v2 => f253_l21 KK l gs (a : Int) q0 L n v0 v1 v2) (i : Int) out queue = _
  unfold f253_b21
  by_cases hlt : i < gs.length
  ·have o1 := hg _ (List.getElem_mem hlt)
   have o2 : OkM f l queue[a] := hC.cl.pre.mem _ ((hC.cl.mem _).2 (List.getElem_mem ha))
   have o3 := mul_okW hl o1 o2
   have g1 := o1.2
   have g2 := o2.good hl
   rw [in1 hlt, in0, gd hlt, in0, in1 ha, gd ha]
   simp only [Bool.and_self, cond_true]
   rw [compose_eq g1 g2, Option.bind_some, l06Reduce_eq hl (m := (mmS gs[i].1 queue[a].1, appS gs[i] queue[a].2)) (appS_Sm (pm_sm g1.1) g2.2 g1.2), Option.bind_some, l06Has_eq hC.cl.pre (by omega), Option.bind_some, w_succ (by omega)]
   rw [show (((mmS gs[i].1 queue[a].1, redS l (appS gs[i] queue[a].2)) : Mo)) = mulG l gs[i] queue[a] from rfl]
   cases hc : out.contains (mulG l gs[i] queue[a])
   ·obtain ⟨g', e1, e2, e3, e4⟩ := insert_ok hl hC.cl.pre o3 hc
    have hlen2 := e2.len hl
    simp only [Bool.not_false, cond_true]
    rw [e1, Option.bind_some, blim48 (by simp; omega), cond_true]
    have ha' : a < (queue ++ [mulG l gs[i] queue[a]]).length := by rw [List.length_append]; simp; omega
    have hge : (queue ++ [mulG l gs[i] queue[a]])[a] = queue[a] := List.getElem_append_left ha
    obtain ⟨out', ext, c1, c2, c3⟩ := closeG_inW hl hg hgn (a := a) (q0 := q0) (L := L) n (i + 1) g' (queue ++ [mulG l gs[i] queue[a]]) ⟨⟨e2, fun x => by rw [e3, List.mem_append, List.mem_singleton, hC.cl.mem], by rw [List.length_append, e4, hql]; rfl⟩, fun x hx => by
      rcases List.mem_append.1 hx with hx | hx
      ·exact hC.gen x hx
      ·rw [List.mem_singleton] at hx
       rw [hx]
       exact .mul _ _ (List.getElem_mem hlt) (hC.gen _ (List.getElem_mem ha))⟩ ha' (by omega) (by omega) (fun m hm => by
      rw [hge]
      rw [List.take_succ_eq_append_getElem hlt] at hm
      rcases List.mem_append.1 hm with hm | hm
      ·exact List.mem_append.2 (.inl (hd m hm))
      ·rw [List.mem_singleton] at hm
       rw [hm]
       simp)
    rw [hge] at c2
    refine ⟨out', [mulG l gs[i] queue[a]] ++ ext, ?_, ?_, ?_⟩
    ·rw [← List.append_assoc]; exact c1
    ·rw [← List.append_assoc]; exact c2
    ·rw [← List.append_assoc]; exact c3
   ·simp only [Bool.not_true, cond_false]
    exact closeG_inW hl hg hgn n (i + 1) out queue hC ha (by omega) (by omega) (fun m hm => by
      rw [List.take_succ_eq_append_getElem hlt] at hm
      rcases List.mem_append.1 hm with hm | hm
      ·exact hd m hm
      ·rw [List.mem_singleton] at hm
       rw [hm]
       exact (hC.cl.mem _).1 (List.contains_iff_mem.1 hc))
  ·have e : i = gs.length := by omega
   subst e
   rw [out1, cond_false, w_succ (by omega)]
   rw [List.take_length] at hd
   exact ⟨out, [], by rw [List.append_nil]; exact hC, by rw [List.append_nil]; exact hd, by rw [List.append_nil]⟩
theorem closeG_outW {f : Int} {l : Lt} (hl : IsL l) {gs : List Mo} (hg : ∀ m ∈ gs, OkW f l m) (hgn : gs.length ≤ 1000) : ∀ (n a : Nat) (out queue : List Mo), Cg f l gs out queue → a ≤ queue.length → 768 - a < n → (∀ x ∈ queue.take a, ∀ m ∈ gs, mulG l m x ∈ queue) → uMo ∈ queue →
  ∃ out' queue', Cg f l gs out' queue' ∧ (∀ x ∈ queue', ∀ m ∈ gs, mulG l m x ∈ queue') ∧ uMo ∈ queue' ∧ f253_l17 KK l gs n (a : Int) out queue = some out'
 | 0, a, _, _, _, _, h, _, _ => by omega
 | n + 1, a, out, queue, hC, ha, hk, hd, hu => by
  have hlen := hC.cl.pre.len hl
  have hql := hC.cl.len
  show ∃ out' queue', Cg f l gs out' queue' ∧ (∀ x ∈ queue', ∀ m ∈ gs, mulG l m x ∈ queue') ∧ uMo ∈ queue' ∧ f253_b17 KK l gs (fun c0 c1 d0 d1 d2 => f253_l21 KK l gs c0 c1 (fun v0 v1 v2 => f253_l17 KK l gs n v0 v1 v2) KK d0 d1 d2) (fun v0 v1 v2 => f253_l17 KK l gs n v0 v1 v2) (a : Int) out queue = _
  unfold f253_b17
  by_cases hlt : a < queue.length
  ·rw [in1 hlt, cond_true]
   obtain ⟨o1, ext, c1, c2, c3⟩ := closeG_inW hl hg hgn (a := a) (q0 := queue) (L := fun v0 v1 v2 => f253_l17 KK l gs n v0 v1 v2) KK 0 out queue hC hlt (by omega) (by simp only [KK]; omega) (by simp)
   obtain ⟨o2, q2, d1, d2, d3, d4⟩ := closeG_outW hl hg hgn n (a + 1) o1 (queue ++ ext) c1 (by rw [List.length_append]; omega) (by omega) (fun x hx m hm => by
     rw [List.take_append_of_le_length (by omega), List.take_succ_eq_append_getElem hlt] at hx
     rcases List.mem_append.1 hx with hx | hx
     ·exact List.mem_append.2 (.inl (hd x hx m hm))
     ·rw [List.mem_singleton] at hx
      rw [hx]
      exact c2 m hm) (List.mem_append.2 (.inl hu))
   exact ⟨o2, q2, d1, d2, d3, c3.trans d4⟩
  ·have e : a = queue.length := by omega
   subst e
   rw [out1, cond_false]
   rw [List.take_length] at hd
   exact ⟨out, queue, hC, hd, hu, rfl⟩
theorem closeG_okW {f : Int} {l : Lt} (hf : okF f = true) (hl : IsL l) {gs : List Mo} (hg : ∀ m ∈ gs, OkW f l m) (hgn : gs.length ≤ 1000) : ∃ g, f253G KK l gs = some g ∧ codeC f l g true = 0 ∧ g.length ≤ 768 ∧ (∀ x ∈ g, Gn l gs x) ∧ ∀ x ∈ g, ∀ m ∈ gs, mulG l m x ∈ g := by
 have hu := uMo_ok (f := f) hl
 have hc : Cg f l gs [uMo] [uMo] := ⟨⟨pre_pw (fun m hm => by rw [List.mem_singleton] at hm; rw [hm]; exact hu) (by simp), fun x => Iff.rfl, rfl⟩, fun x hx => by rw [List.mem_singleton] at hx; rw [hx]; exact .one⟩
 have hk : 768 - 0 < KK := by simp only [KK]; omega
 obtain ⟨o, q, c1, c2, c3, c4⟩ := closeG_outW hl hg hgn KK 0 [uMo] [uMo] hc (by omega) hk (by simp) (by simp)
 have c5 : f253_l17 KK l gs KK 0 [uMo] [uMo] = some o := c4
 have hmem := c1.cl.mem
 refine ⟨o, (close_g l gs).trans c5, ?_, c1.cl.pre.len hl, fun x hx => c1.gen x ((hmem x).1 hx), fun x hx m hm => (hmem _).2 (c2 x ((hmem x).1 hx) m hm)⟩
 have hG : grpB f l o = true := grpB_of hl c1.cl.pre.mem c1.cl.pre.pw ((hmem _).2 c3) fun m hm n hn => (hmem _).2 (gen_mulW hl hg (fun x hx => c1.cl.pre.mem x ((hmem x).2 hx)) c2 (c1.gen m ((hmem m).1 hm)) n ((hmem n).1 hn))
 unfold codeC
 rw [hf, okL_iff.2 hl, hG]
 rfl
theorem both_inW {f : Int} {l : Lt} (hl : IsL l) {gs : List Mo} (hg : ∀ m ∈ gs, OkW f l m) (hgn : gs.length ≤ 1000) {a : Nat} {q0 q1 : List Mo} {L : Int → List Mo → List Mo → Option (List Mo)} {L' : Int → List (Mo × Bool) → List Mo → Option (List Mo)} {R : Option (List Mo)}
  (hk : ∀ out queue mp, Bo f l out queue mp → a < queue.length → L ((a + 1 : Nat) : Int) out queue = R → L' ((a + 1 : Nat) : Int) mp queue = R) :
  ∀ (n i : Nat) (out queue : List Mo) (mp : List (Mo × Bool)), Bo f l out queue mp → a < queue.length → i ≤ gs.length → gs.length - i < n →
   f253_l21 KK l gs (a : Int) q0 L n (i : Int) out queue = R → f205_l16 KK l gs (a : Int) q1 L' n (i : Int) mp queue = R
 | 0, i, _, _, _, _, _, _, h => by omega
 | n + 1, i, out, queue, mp, hC, ha, hi, hn => by
  have hlen := hC.cl.pre.len hl
  have hql := hC.cl.len
  show f253_b21 KK l gs (a : Int) q0 L (fun v0 v1 v2 => f253_l21 KK l gs (a : Int) q0 L n v0 v1 v2) (i : Int) out queue = R → f205_b16 KK l gs (a : Int) q1 L' (fun v0 v1 v2 => f205_l16 KK l gs (a : Int) q1 L' n v0 v1 v2) (i : Int) mp queue = R
  unfold f253_b21 f205_b16
  by_cases hlt : i < gs.length
  ·have o1 := hg _ (List.getElem_mem hlt)
   have o2 : OkM f l queue[a] := hC.cl.pre.mem _ ((hC.cl.mem _).2 (List.getElem_mem ha))
   have o3 := mul_okW hl o1 o2
   have g1 := o1.2
   have g2 := o2.good hl
   have hsm := appS_Sm (pm_sm g1.1) g2.2 g1.2
   rw [in1 hlt, in0, gd hlt, in0, in1 ha, gd ha]
   simp only [Bool.and_self, cond_true]
   rw [compose_eq g1 g2, Option.bind_some, l06Reduce_eq hl (m := (mmS gs[i].1 queue[a].1, appS gs[i] queue[a].2)) hsm, Option.bind_some, l06Has_eq hC.cl.pre (by omega), Option.bind_some, w_succ (by omega)]
   rw [times_eq g1 g2, Option.bind_some, reduceMotion_eq hl (m := (mmS gs[i].1 queue[a].1, appS gs[i] queue[a].2)) hsm, Option.bind_some]
   rw [show (((mmS gs[i].1 queue[a].1, redS l (appS gs[i] queue[a].2)) : Mo)) = mulG l gs[i] queue[a] from rfl]
   have hkey := hC.key (mulG l gs[i] queue[a])
   have hqc : queue.contains (mulG l gs[i] queue[a]) = out.contains (mulG l gs[i] queue[a]) := by
    rw [Bool.eq_iff_iff, List.contains_iff_mem, List.contains_iff_mem, hC.cl.mem]
   have hkey2 : (mfind (eqSh (.cons (.cons (.int .i64) (.cons (.int .i64) (.cons (.int .i64) (.int .i64)))) (.cons (.int .i64) (.int .i64)))) mp (mulG l gs[i] queue[a])).getD false = out.contains (mulG l gs[i] queue[a]) := hkey.trans hqc
   rw [hkey2]
   cases hc : out.contains (mulG l gs[i] queue[a])
   ·obtain ⟨g', e1, e2, e3, e4⟩ := insert_ok hl hC.cl.pre o3 hc
    have hlen2 := e2.len hl
    have hni : mulG l gs[i] queue[a] ∉ queue := fun h => by
     rw [hc] at hqc
     rw [List.contains_iff_mem.2 h] at hqc
     cases hqc
    simp only [Bool.not_false, cond_true]
    rw [e1, Option.bind_some, blim48 (by simp; omega), cond_true]
    exact both_inW hl hg hgn hk n (i + 1) g' (queue ++ [mulG l gs[i] queue[a]]) _ ⟨⟨e2, fun x => by rw [e3, List.mem_append, List.mem_singleton, hC.cl.mem], by rw [List.length_append, e4, hql]; rfl⟩, by
      rw [List.nodup_append]
      exact ⟨hC.nd, by simp, fun x hx y hy => by rw [List.mem_singleton] at hy; rw [hy]; exact fun e => hni (e ▸ hx)⟩, fun x => by
      refine (congrArg (fun z => Option.getD z false) (mfind_mput (K := shMo) rfl mp (mulG l gs[i] queue[a]) x true)).trans ?_
      cases hx : eqSh shMo x (mulG l gs[i] queue[a])
      ·rw [cond_false, hC.key]
       have hne : x ≠ mulG l gs[i] queue[a] := fun e => by rw [(eqSh_iff shMo rfl x (mulG l gs[i] queue[a])).2 e] at hx; cases hx
       rw [Bool.eq_iff_iff, List.contains_iff_mem, List.contains_iff_mem, List.mem_append, List.mem_singleton]
       exact ⟨.inl, fun h => h.resolve_right hne⟩
      ·have e := (eqSh_iff shMo rfl x (mulG l gs[i] queue[a])).1 hx
       rw [cond_true]
       refine (List.contains_iff_mem.2 (List.mem_append.2 (.inr ?_))).symm
       rw [List.mem_singleton]
       exact e⟩ (by rw [List.length_append]; simp; omega) (by omega) (by omega)
   ·simp only [Bool.not_true, cond_false]
    exact both_inW hl hg hgn hk n (i + 1) out queue mp hC ha (by omega) (by omega)
  ·have e : i = gs.length := by omega
   subst e
   rw [out1, cond_false, cond_false, w_succ (by omega)]
   exact hk out queue mp hC ha
theorem both_outW {f : Int} {l : Lt} (hl : IsL l) {gs : List Mo} (hg : ∀ m ∈ gs, OkW f l m) (hgn : gs.length ≤ 1000) {r : List Mo} : ∀ (n a : Nat) (out queue : List Mo) (mp : List (Mo × Bool)), Bo f l out queue mp → a ≤ queue.length →
   f253_l17 KK l gs n (a : Int) out queue = some r → f205_l12 KK l gs n (a : Int) mp queue = some r
 | 0, a, _, _, _, _, _ => fun h => by cases h
 | n + 1, a, out, queue, mp, hC, ha => by
  have hlen := hC.cl.pre.len hl
  have hql := hC.cl.len
  show f253_b17 KK l gs (fun c0 c1 d0 d1 d2 => f253_l21 KK l gs c0 c1 (fun v0 v1 v2 => f253_l17 KK l gs n v0 v1 v2) KK d0 d1 d2) (fun v0 v1 v2 => f253_l17 KK l gs n v0 v1 v2) (a : Int) out queue = some r → f205_b12 KK l gs (fun c0 c1 d0 d1 d2 => f205_l16 KK l gs c0 c1 (fun v0 v1 v2 => f205_l12 KK l gs n v0 v1 v2) KK d0 d1 d2) (fun v0 v1 v2 => f205_l12 KK l gs n v0 v1 v2) (a : Int) mp queue = some r
  unfold f253_b17 f205_b12
  by_cases hlt : a < queue.length
  ·rw [in1 hlt, cond_true, cond_true]
   exact both_inW hl hg hgn (L := fun v0 v1 v2 => f253_l17 KK l gs n v0 v1 v2) (L' := fun v0 v1 v2 => f205_l12 KK l gs n v0 v1 v2) (fun o q m hB hq h => both_outW hl hg hgn n (a + 1) o q m hB (by omega) h) KK 0 out queue mp hC hlt (by omega) (by simp only [KK]; omega)
  ·have e : a = queue.length := by omega
   subst e
   rw [out1, cond_false, cond_false, sortMo_eq (by omega), Option.bind_some]
   intro h
   rw [← h]
   refine congrArg some (SM_unique (mergeMo_SM hC.nd) hC.cl.pre.pw fun x => ?_)
   rw [List.mem_mergeSort, hC.cl.mem]
theorem close_sameW {f : Int} {l : Lt} (hf : okF f = true) (hl : IsL l) {gs : List Mo} (hg : ∀ m ∈ gs, OkW f l m) (hgn : gs.length ≤ 1000) : f205G KK l gs = f253G KK l gs := by
 obtain ⟨g, e, _⟩ := closeG_okW hf hl hg hgn
 rw [e]
 have hu := uMo_ok (f := f) hl
 have hB : Bo f l [uMo] [uMo] (mput (eqSh shMo) [] uMo true) := ⟨⟨pre_pw (fun m hm => by rw [List.mem_singleton] at hm; rw [hm]; exact hu) (by simp), fun x => Iff.rfl, rfl⟩, by simp, fun x => by
  refine (congrArg (fun z => Option.getD z false) (mfind_mput (K := shMo) rfl [] uMo x true)).trans ?_
  cases hx : eqSh shMo x uMo
  ·have hne : x ≠ uMo := fun e => by rw [(eqSh_iff shMo rfl x uMo).2 e] at hx; cases hx
   rw [cond_false]
   refine Eq.symm ?_
   show [uMo].contains x = false
   rw [Bool.eq_false_iff]
   intro h
   exact hne (List.mem_singleton.1 (List.contains_iff_mem.1 h))
  ·rw [cond_true]
   exact (List.contains_iff_mem.2 (List.mem_singleton.2 ((eqSh_iff shMo rfl x uMo).1 hx))).symm⟩
 have h := both_outW hl hg hgn (r := g) KK 0 [uMo] [uMo] _ hB (by omega)
 have z : ((0 : Nat) : Int) = 0 := rfl
 rw [z] at h
 exact (closeI_g l gs).trans (h ((close_g l gs).symm.trans e))
end Go.Proofs.YtfccacobkcglcaaGreat.X
