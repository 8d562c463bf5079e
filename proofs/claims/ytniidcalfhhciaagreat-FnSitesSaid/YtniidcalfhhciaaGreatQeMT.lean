/- Plain facts: what motions generate is a group; patterns that a code draws. -/
import Derived.Test.YtniidcalfhhciaaGreatQeMZ
namespace Go.Proofs.YtniidcalfhhciaaGreat.X
open Go
set_option linter.unusedSimpArgs false
set_option linter.unusedVariables false
theorem mm_assoc (a b c : Mt) : mmS (mmS a b) c = mmS a (mmS b c) := by
  have h1 := mulS_mm a b (c.1, c.2.2.1)
  have h2 := mulS_mm a b (c.2.1, c.2.2.2)
  have e1 : mmS (mmS a b) c = ((mulS (mmS a b) (c.1, c.2.2.1)).1, (mulS (mmS a b) (c.2.1, c.2.2.2)).1, (mulS (mmS a b) (c.1, c.2.2.1)).2, (mulS (mmS a b) (c.2.1, c.2.2.2)).2) := rfl
  rw [e1, h1, h2]
  rfl
theorem mulG_assoc {f : Int} {l : Lt} (hl : IsL l) {m n : Mo} (hm : OkM f l m) (y : Mo) : mulG l (mulG l m n) y = mulG l m (mulG l n y) := by
  have h := mv_mul (f := f) hl (n := n) hm.1 y.2
  refine Prod.ext (mm_assoc _ _ _) ?_
  exact h.symm
theorem mulG_one {f : Int} {l : Lt} (hl : IsL l) {y : Mo} (hy : OkM f l y) : mulG l uMo y = y := by
  have h := mv_one hl hy.2
  refine Prod.ext ?_ h
  show mmS (1, 0, 0, 1) y.1 = y.1
  unfold mmS
  simp
/-- a product of given motions -/
inductive Gn (l : Lt) (gs : List Mo) : Mo → Prop where
  | one : Gn l gs uMo
  | mul (m x : Mo) : m ∈ gs → Gn l gs x → Gn l gs (mulG l m x)
theorem Gn.ok {f : Int} {l : Lt} (hl : IsL l) {gs : List Mo} (hg : ∀ m ∈ gs, OkM f l m) {x : Mo} (h : Gn l gs x) : OkM f l x := by
  induction h with
  | one => exact uMo_ok hl
  | mul m x hm _ ih => exact mul_ok hl (hg m hm) ih
theorem gen_mul {f : Int} {l : Lt} (hl : IsL l) {gs : List Mo} (hg : ∀ m ∈ gs, OkM f l m) {S : List Mo} (hS : ∀ x ∈ S, OkM f l x) (hc : ∀ x ∈ S, ∀ m ∈ gs, mulG l m x ∈ S) {x : Mo} (h : Gn l gs x) : ∀ y ∈ S, mulG l x y ∈ S := by
  induction h with
  | one => intro y hy; rw [mulG_one hl (hS y hy)]; exact hy
  | mul m x hm _ ih =>
    intro y hy
    rw [mulG_assoc hl (hg m hm)]
    exact hc _ (ih y hy) m hm
structure Cg (f : Int) (l : Lt) (gs out queue : List Mo) : Prop where
  cl : Cl f l out queue
  gen : ∀ x ∈ queue, Gn l gs x
theorem closeG_in {f : Int} {l : Lt} (hl : IsL l) {gs : List Mo} (hg : ∀ m ∈ gs, OkM f l m) (hgn : gs.length ≤ 1000) {a : Nat} {q0 : List Mo} {L : Int → List Mo → List Mo → Option (List Mo)} : ∀ (n i : Nat) (out queue : List Mo), Cg f l gs out queue → (ha : a < queue.length) → i ≤ gs.length → gs.length - i < n → (∀ m ∈ gs.take i, mulG l m queue[a] ∈ queue) →
    ∃ out' ext, Cg f l gs out' (queue ++ ext) ∧ (∀ m ∈ gs, mulG l m queue[a] ∈ queue ++ ext) ∧ f292_l21 KK l gs (a : Int) q0 L n (i : Int) out queue = L ((a + 1 : Nat) : Int) out' (queue ++ ext)
  | 0, i, _, _, _, _, _, h, _ => by omega
  | n + 1, i, out, queue, hC, ha, hi, hk, hd => by
    have hlen := hC.cl.pre.len hl
    have hql := hC.cl.len
    show ∃ out' ext, Cg f l gs out' (queue ++ ext) ∧ (∀ m ∈ gs, mulG l m queue[a] ∈ queue ++ ext) ∧ f292_b21 KK l gs (a : Int) q0 L (fun v0 v1 v2 => f292_l21 KK l gs (a : Int) q0 L n v0 v1 v2) (i : Int) out queue = _
    unfold f292_b21
    by_cases hlt : i < gs.length
    · have o1 := hg _ (List.getElem_mem hlt)
      have o2 : OkM f l queue[a] := hC.cl.pre.mem _ ((hC.cl.mem _).2 (List.getElem_mem ha))
      have o3 := mul_ok hl o1 o2
      have g1 := o1.good hl
      have g2 := o2.good hl
      rw [in1 hlt, in0, gd hlt, in0, in1 ha, gd ha]
      simp only [Bool.and_self, cond_true]
      rw [compose_eq g1 g2, Option.bind_some, l06Reduce_eq hl (m := (mmS gs[i].1 queue[a].1, appS gs[i] queue[a].2)) (appS_Sm (pm_sm g1.1) g2.2 g1.2), Option.bind_some, l06Has_eq hC.cl.pre (by omega), Option.bind_some, w_succ (by omega)]
      rw [show (((mmS gs[i].1 queue[a].1, redS l (appS gs[i] queue[a].2)) : Mo)) = mulG l gs[i] queue[a] from rfl]
      cases hc : out.contains (mulG l gs[i] queue[a])
      · obtain ⟨g', e1, e2, e3, e4⟩ := insert_ok hl hC.cl.pre o3 hc
        have hlen2 := e2.len hl
        simp only [Bool.not_false, cond_true]
        rw [e1, Option.bind_some, blim48 (by simp; omega), cond_true]
        have ha' : a < (queue ++ [mulG l gs[i] queue[a]]).length := by rw [List.length_append]; simp; omega
        have hge : (queue ++ [mulG l gs[i] queue[a]])[a] = queue[a] := List.getElem_append_left ha
        obtain ⟨out', ext, c1, c2, c3⟩ := closeG_in hl hg hgn (a := a) (q0 := q0) (L := L) n (i + 1) g' (queue ++ [mulG l gs[i] queue[a]]) ⟨⟨e2, fun x => by rw [e3, List.mem_append, List.mem_singleton, hC.cl.mem], by rw [List.length_append, e4, hql]; rfl⟩, fun x hx => by
            rcases List.mem_append.1 hx with hx | hx
            · exact hC.gen x hx
            · rw [List.mem_singleton] at hx
              rw [hx]
              exact .mul _ _ (List.getElem_mem hlt) (hC.gen _ (List.getElem_mem ha))⟩ ha' (by omega) (by omega) (fun m hm => by
            rw [hge]
            rw [List.take_succ_eq_append_getElem hlt] at hm
            rcases List.mem_append.1 hm with hm | hm
            · exact List.mem_append.2 (.inl (hd m hm))
            · rw [List.mem_singleton] at hm
              rw [hm]
              simp)
        rw [hge] at c2
        refine ⟨out', [mulG l gs[i] queue[a]] ++ ext, ?_, ?_, ?_⟩
        · rw [← List.append_assoc]; exact c1
        · rw [← List.append_assoc]; exact c2
        · rw [← List.append_assoc]; exact c3
      · simp only [Bool.not_true, cond_false]
        exact closeG_in hl hg hgn n (i + 1) out queue hC ha (by omega) (by omega) (fun m hm => by
            rw [List.take_succ_eq_append_getElem hlt] at hm
            rcases List.mem_append.1 hm with hm | hm
            · exact hd m hm
            · rw [List.mem_singleton] at hm
              rw [hm]
              exact (hC.cl.mem _).1 (List.contains_iff_mem.1 hc))
    · have e : i = gs.length := by omega
      subst e
      rw [out1, cond_false, w_succ (by omega)]
      rw [List.take_length] at hd
      exact ⟨out, [], by rw [List.append_nil]; exact hC, by rw [List.append_nil]; exact hd, by rw [List.append_nil]⟩
theorem closeG_out {f : Int} {l : Lt} (hl : IsL l) {gs : List Mo} (hg : ∀ m ∈ gs, OkM f l m) (hgn : gs.length ≤ 1000) : ∀ (n a : Nat) (out queue : List Mo), Cg f l gs out queue → a ≤ queue.length → 768 - a < n → (∀ x ∈ queue.take a, ∀ m ∈ gs, mulG l m x ∈ queue) → uMo ∈ queue →
    ∃ out' queue', Cg f l gs out' queue' ∧ (∀ x ∈ queue', ∀ m ∈ gs, mulG l m x ∈ queue') ∧ uMo ∈ queue' ∧ f292_l17 KK l gs n (a : Int) out queue = some out'
  | 0, a, _, _, _, _, h, _, _ => by omega
  | n + 1, a, out, queue, hC, ha, hk, hd, hu => by
    have hlen := hC.cl.pre.len hl
    have hql := hC.cl.len
    show ∃ out' queue', Cg f l gs out' queue' ∧ (∀ x ∈ queue', ∀ m ∈ gs, mulG l m x ∈ queue') ∧ uMo ∈ queue' ∧ f292_b17 KK l gs (fun c0 c1 d0 d1 d2 => f292_l21 KK l gs c0 c1 (fun v0 v1 v2 => f292_l17 KK l gs n v0 v1 v2) KK d0 d1 d2) (fun v0 v1 v2 => f292_l17 KK l gs n v0 v1 v2) (a : Int) out queue = _
    unfold f292_b17
    by_cases hlt : a < queue.length
    · rw [in1 hlt, cond_true]
      obtain ⟨o1, ext, c1, c2, c3⟩ := closeG_in hl hg hgn (a := a) (q0 := queue) (L := fun v0 v1 v2 => f292_l17 KK l gs n v0 v1 v2) KK 0 out queue hC hlt (by omega) (by simp only [KK]; omega) (by simp)
      obtain ⟨o2, q2, d1, d2, d3, d4⟩ := closeG_out hl hg hgn n (a + 1) o1 (queue ++ ext) c1 (by rw [List.length_append]; omega) (by omega) (fun x hx m hm => by
          rw [List.take_append_of_le_length (by omega), List.take_succ_eq_append_getElem hlt] at hx
          rcases List.mem_append.1 hx with hx | hx
          · exact List.mem_append.2 (.inl (hd x hx m hm))
          · rw [List.mem_singleton] at hx
            rw [hx]
            exact c2 m hm) (List.mem_append.2 (.inl hu))
      exact ⟨o2, q2, d1, d2, d3, c3.trans d4⟩
    · have e : a = queue.length := by omega
      subst e
      rw [out1, cond_false]
      rw [List.take_length] at hd
      exact ⟨out, queue, hC, hd, hu, rfl⟩
theorem closeG_ok {f : Int} {l : Lt} (hf : okF f = true) (hl : IsL l) {gs : List Mo} (hg : ∀ m ∈ gs, OkM f l m) (hgn : gs.length ≤ 1000) : ∃ g, f292G KK l gs = some g ∧ codeC f l g true = 0 ∧ g.length ≤ 768 := by
  have hu := uMo_ok (f := f) hl
  have hc : Cg f l gs [uMo] [uMo] := ⟨⟨pre_pw (fun m hm => by rw [List.mem_singleton] at hm; rw [hm]; exact hu) (by simp), fun x => Iff.rfl, rfl⟩, fun x hx => by rw [List.mem_singleton] at hx; rw [hx]; exact .one⟩
  have hk : 768 - 0 < KK := by simp only [KK]; omega
  obtain ⟨o, q, c1, c2, c3, c4⟩ := closeG_out hl hg hgn KK 0 [uMo] [uMo] hc (by omega) hk (by simp) (by simp)
  have c5 : f292_l17 KK l gs KK 0 [uMo] [uMo] = some o := c4
  have hmem := c1.cl.mem
  refine ⟨o, (close_g l gs).trans c5, ?_, c1.cl.pre.len hl⟩
  have hG : grpB f l o = true := grpB_of hl c1.cl.pre.mem c1.cl.pre.pw ((hmem _).2 c3) fun m hm n hn => (hmem _).2 (gen_mul hl hg (fun x hx => c1.cl.pre.mem x ((hmem x).2 hx)) c2 (c1.gen m ((hmem m).1 hm)) n ((hmem n).1 hn))
  unfold codeC
  rw [hf, okL_iff.2 hl, hG]
  rfl
/-! ### patterns -/
theorem one_orb {f : Int} (hf : okF f = true) {l : Lt} (hl : IsL l) : OrbG f l [uMo] := by
  have hu := uMo_ok (f := f) hl
  have hG : grpB f l [uMo] = true := grpB_of hl (fun m hm => by rw [List.mem_singleton] at hm; rw [hm]; exact hu) (by simp) (by simp) (fun m hm n hn => by
    rw [List.mem_singleton] at hm hn
    rw [hm, hn, mulG_one hl hu]
    simp)
  have : codeC f l [uMo] true = 0 := by
    unfold codeC
    rw [hf, okL_iff.2 hl, hG]
    rfl
  exact (codeC_0 this).1
theorem nums_in {f : Int} {l : Lt} {g : List Mo} (h : OrbG f l g) : (numsF l g).length ≤ 64 ∧ ∀ i (hi : i < (numsF l g).length), ∃ k : Nat, (numsF l g)[i] = (k : Int) ∧ k < (numsF l g).length := by
  have hN := cellsS_le h.la
  have hL := numsF_len' l g
  refine ⟨by omega, fun i hi => ?_⟩
  have hi2 : i < (cellsS l).length := by omega
  have hc := cellsS_cell (List.getElem_mem hi2)
  obtain ⟨k, hk, e, _⟩ := ix_at h hc
  have hle : (orbsS l g).length ≤ (cellsS l).length := by
    unfold orbsS repsS
    rw [List.length_map]
    exact List.length_filter_le _ _
  refine ⟨k, ?_, by omega⟩
  have h5 := numsF_get h.la g hc
  rw [cellsS_num h.la hi2, List.getElem?_eq_getElem hi, Option.some.injEq] at h5
  exact h5.trans e
section
variable {c : List Int} {t0 : Int × Int} {f : Int} {l : Lt}
theorem don_27 {q9 q21 : Int} {q12 y15 : List Mo} {y1 : Int} {y3 y17 : (Int × Int) × Int} {t : Int × Int} {ns cs : List Int} (hn : ns.length ≤ 64) (hin : ∀ i (hi : i < ns.length), ∃ k : Nat, ns[i] = (k : Int) ∧ k < ns.length) (hcs : cs.length = ns.length) : ∀ (n i : Nat) (r : List Int), r.length = i → i ≤ ns.length → ns.length - i < n →
    ∃ r', f255_l27 KK (c, t0) f l q9 q12 q21 t.1 t.2 cs y1 y3 y15 ns y17 n (i : Int) r = some (t, f, l, r') ∧ r'.length ≤ 64
  | 0, i, _, _, _, h => by omega
  | n + 1, i, r, hr, hi, hk => by
    show ∃ r', f255_b27 KK (c, t0) f l q9 q12 q21 t.1 t.2 cs y1 y3 y15 ns y17 (fun v0 v1 => f255_l27 KK (c, t0) f l q9 q12 q21 t.1 t.2 cs y1 y3 y15 ns y17 n v0 v1) (i : Int) r = some (t, f, l, r') ∧ r'.length ≤ 64
    unfold f255_b27
    by_cases hlt : i < ns.length
    · obtain ⟨k, e, hkn⟩ := hin i hlt
      rw [in1 hlt, in0, gd hlt, e, in0, in1 (show k < cs.length by omega), blim8 (by simp; omega), w_succ (by omega)]
      simp only [Bool.and_self, cond_true]
      exact don_27 hn hin hcs n (i + 1) _ (by simp; omega) (by omega) (by omega)
    · have e : i = ns.length := by omega
      subst e
      rw [out1, cond_false]
      exact ⟨r, rfl, by omega⟩
theorem don_20 {q9 : Int} {q12 y15 : List Mo} {y1 : Int} {y3 y17 : (Int × Int) × Int} {ns : List Int} (hn : ns.length ≤ 64) (hin : ∀ i (hi : i < ns.length), ∃ k : Nat, ns[i] = (k : Int) ∧ k < ns.length) : ∀ (n i : Nat) (t : Int × Int) (cs : List Int), Src c t → cs.length = i → i ≤ ns.length → ns.length - i < n →
    ∃ t' r, f255_l20 KK (c, t0) f l q9 q12 y1 y3 y15 ns y17 n (i : Int) t.1 t.2 cs = some (t', f, l, r) ∧ Src c t' ∧ r.length ≤ 64
  | 0, i, _, _, _, _, _, h => by omega
  | n + 1, i, t, cs, hs, hc, hi, hk => by
    show ∃ t' r, f255_b20 KK (c, t0) f l q9 q12 y1 y3 y15 ns y17 (fun c0 c1 c2 c3 c4 c5 c6 c7 c8 c9 c10 d0 d1 => f255_l27 KK (c, t0) f l c0 c1 c2 c3 c4 c5 c6 c7 c8 c9 c10 KK d0 d1) (fun v0 v1 v2 v3 => f255_l20 KK (c, t0) f l q9 q12 y1 y3 y15 ns y17 n v0 v1 v2 v3) (i : Int) t.1 t.2 cs = some (t', f, l, r) ∧ Src c t' ∧ r.length ≤ 64
    unfold f255_b20
    have et : ((t.1, t.2) : Int × Int) = t := rfl
    by_cases hlt : i < ns.length
    · rw [in1 hlt, cond_true, et]
      obtain ⟨t1, r1, e1, h1, _⟩ := next_ok hs (w (2 + y17.2))
      rw [e1, Option.bind_some, blim8 (by simp; omega), cond_true, w_succ (by omega)]
      exact don_20 hn hin n (i + 1) t1 (cs ++ [r1]) h1 (by simp; omega) (by omega) (by omega)
    · have e : i = ns.length := by omega
      subst e
      rw [out1, cond_false]
      obtain ⟨r', e1, h1⟩ := don_27 (c := c) (t0 := t0) (f := f) (l := l) (q9 := q9) (q21 := (ns.length : Int)) (q12 := q12) (y15 := y15) (y1 := y1) (y3 := y3) (y17 := y17) (t := t) hn hin hc KK 0 [] rfl (by omega) (by simp only [KK]; omega)
      exact ⟨t, r', e1, hs, h1⟩
theorem don_46 {q39 : Int} {q42 : List Int} {y1 : Int} {y2 : Mo} {y3 y31 : (Int × Int) × Int} {t : Int × Int} {ns cs : List Int} (hn : ns.length ≤ 64) (hin : ∀ i (hi : i < ns.length), ∃ k : Nat, ns[i] = (k : Int) ∧ k < ns.length) (hcs : cs.length = ns.length) : ∀ (n i : Nat) (r : List Int), r.length = i → i ≤ ns.length → ns.length - i < n →
    ∃ r', f255_l46 KK (c, t0) f l q39 t.1 t.2 q42 cs y1 y2 y3 ns y31 n (i : Int) r = some (t, f, l, r') ∧ r'.length ≤ 64
  | 0, i, _, _, _, h => by omega
  | n + 1, i, r, hr, hi, hk => by
    show ∃ r', f255_b46 KK (c, t0) f l q39 t.1 t.2 q42 cs y1 y2 y3 ns y31 (fun v0 v1 => f255_l46 KK (c, t0) f l q39 t.1 t.2 q42 cs y1 y2 y3 ns y31 n v0 v1) (i : Int) r = some (t, f, l, r') ∧ r'.length ≤ 64
    unfold f255_b46
    by_cases hlt : i < ns.length
    · obtain ⟨k, e, hkn⟩ := hin i hlt
      rw [in1 hlt, in0, gd hlt, e, in0, in1 (show k < cs.length by omega), blim8 (by simp; omega), w_succ (by omega)]
      simp only [Bool.and_self, cond_true]
      exact don_46 hn hin hcs n (i + 1) _ (by simp; omega) (by omega) (by omega)
    · have e : i = ns.length := by omega
      subst e
      rw [out1, cond_false]
      exact ⟨r, rfl, by omega⟩
theorem don_38 {q42 : List Int} {y1 : Int} {y2 : Mo} {y3 y31 : (Int × Int) × Int} {ns : List Int} (hn : ns.length ≤ 64) (hin : ∀ i (hi : i < ns.length), ∃ k : Nat, ns[i] = (k : Int) ∧ k < ns.length) : ∀ (n i : Nat) (t : Int × Int) (cs : List Int), Src c t → cs.length = i → i ≤ ns.length → ns.length - i < n →
    ∃ t' r, f255_l38 KK (c, t0) f l y1 y2 y3 ns y31 n (i : Int) t.1 t.2 q42 cs = some (t', f, l, r) ∧ Src c t' ∧ r.length ≤ 64
  | 0, i, _, _, _, _, _, h => by omega
  | n + 1, i, t, cs, hs, hc, hi, hk => by
    show ∃ t' r, f255_b38 KK (c, t0) f l y1 y2 y3 ns y31 (fun c0 c1 c2 c3 c4 c5 c6 c7 c8 c9 d0 d1 => f255_l46 KK (c, t0) f l c0 c1 c2 c3 c4 c5 c6 c7 c8 c9 KK d0 d1) (fun v0 v1 v2 v3 v4 => f255_l38 KK (c, t0) f l y1 y2 y3 ns y31 n v0 v1 v2 v3 v4) (i : Int) t.1 t.2 q42 cs = some (t', f, l, r) ∧ Src c t' ∧ r.length ≤ 64
    unfold f255_b38
    have et : ((t.1, t.2) : Int × Int) = t := rfl
    by_cases hlt : i < ns.length
    · rw [in1 hlt, cond_true, et]
      obtain ⟨t1, r1, e1, h1, _⟩ := next_ok hs (w (2 + y31.2))
      rw [e1, Option.bind_some, blim8 (by simp; omega), cond_true, w_succ (by omega)]
      exact don_38 hn hin n (i + 1) t1 (cs ++ [r1]) h1 (by simp; omega) (by omega) (by omega)
    · have e : i = ns.length := by omega
      subst e
      rw [out1, cond_false]
      obtain ⟨r', e1, h1⟩ := don_46 (c := c) (t0 := t0) (f := f) (l := l) (q39 := (ns.length : Int)) (q42 := q42) (y1 := y1) (y2 := y2) (y3 := y3) (y31 := y31) (t := t) hn hin hc KK 0 [] rfl (by omega) (by simp only [KK]; omega)
      exact ⟨t, r', e1, hs, h1⟩
theorem don_8 (hf : okF f = true) (hl : IsL l) {y1 : Int} {y2 : Mo} {y3 : (Int × Int) × Int} : ∀ (n k : Nat) (t : Int × Int) (gs : List Mo), Src c t → (∀ m ∈ gs, OkM f l m) → gs.length + k ≤ 3 → k < n →
    ∃ t' r, f255_l8 KK (c, t0) f l y1 y2 y3 n (k : Int) t.1 t.2 gs = some (t', f, l, r) ∧ Src c t' ∧ r.length ≤ 64
  | 0, k, _, _, _, _, _, h => by omega
  | n + 1, k, t, gs, h, hg, hk, hn => by
    show ∃ t' r, f255_b8 KK (c, t0) f l y1 y2 y3 (fun c0 c1 c2 c3 c4 c5 c6 d0 d1 d2 d3 => f255_l20 KK (c, t0) f l c0 c1 c2 c3 c4 c5 c6 KK d0 d1 d2 d3) (fun v0 v1 v2 v3 => f255_l8 KK (c, t0) f l y1 y2 y3 n v0 v1 v2 v3) (k : Int) t.1 t.2 gs = some (t', f, l, r) ∧ Src c t' ∧ r.length ≤ 64
    unfold f255_b8
    have et : ((t.1, t.2) : Int × Int) = t := rfl
    cases k with
    | zero =>
      rw [decide_eq_false (show ¬ ((0 : Nat) : Int) > 0 by omega), cond_false]
      obtain ⟨g1, e1, c1, n1⟩ := closeG_ok hf hl hg (by omega)
      have hO := (codeC_0 c1).1
      obtain ⟨x1, x2⟩ := nums_in hO
      rw [e1, Option.bind_some, l07Numbers_eq hO, Option.bind_some, et]
      obtain ⟨t2, r2, e2, h2, _⟩ := next_ok h 3
      rw [e2, Option.bind_some]
      exact don_20 (c := c) (t0 := t0) x1 x2 KK 0 t2 [] h2 rfl (by omega) (by simp only [KK]; omega)
    | succ k =>
      rw [decide_eq_true (show ((k + 1 : Nat) : Int) > 0 by omega), cond_true, et]
      obtain ⟨t1, m, e1, h1, m1, m2⟩ := motion_ok h hf hl
      rw [e1, Option.bind_some]
      simp only
      rw [l06Reduce_eq hl m2, Option.bind_some, blim48 (by simp; omega), cond_true, w_id (n := ((k + 1 : Nat) : Int) - 1) (by omega) (by omega)]
      have ek : ((k + 1 : Nat) : Int) - 1 = (k : Int) := by omega
      rw [ek]
      exact don_8 hf hl n k t1 (gs ++ [(m.1, redS l m.2)]) h1 (fun x hx => by
        rcases List.mem_append.1 hx with hx | hx
        · exact hg x hx
        · rw [List.mem_singleton] at hx
          rw [hx]
          exact ⟨m1, redS_isCell hl _⟩) (by simp; omega) (by omega)
end
theorem don_ok {c : List Int} {t : Int × Int} (h : Src c t) (f : Int) (l : Lt) : ∃ t' r, f255G KK (c, t) f l = some (t', f, l, r) ∧ Src c t' ∧ r.length ≤ 64 := by
  unfold f255G f255_g
  rw [l04Code_eq, Option.bind_some]
  cases hc : okF f && okL l
  · exact ⟨t, [], rfl, h, by simp⟩
  · rw [Bool.and_eq_true] at hc
    have hl := okL_iff.1 hc.2
    have hu : f141G KK = some uMo := rfl
    rw [show ((if (true : Bool) = true then (0 : Int) else 1) != 0) = false by decide, cond_false, hu, Option.bind_some]
    obtain ⟨t1, r1, e1, h1, a1, _⟩ := next_ok h 4
    rw [e1, Option.bind_some]
    simp only
    cases hr : decide (r1 > 0)
    · have hO := one_orb hc.1 hl
      obtain ⟨x1, x2⟩ := nums_in hO
      rw [cond_false, l07Numbers_eq hO, Option.bind_some]
      obtain ⟨t2, r2, e2, h2, _⟩ := next_ok h1 3
      rw [e2, Option.bind_some]
      exact don_38 (c := c) (t0 := t) x1 x2 KK 0 t2 [] h2 rfl (by omega) (by simp only [KK]; omega)
    · rw [cond_true]
      obtain ⟨t2, r2, e2, h2, a2, b2⟩ := next_pos h1 (n := 2) (by omega)
      obtain ⟨k, rfl⟩ : ∃ k : Nat, r2 = (k : Int) := ⟨r2.toNat, by omega⟩
      rw [e2, Option.bind_some]
      simp only
      rw [w_id (n := 1 + (k : Int)) (by omega) (by omega)]
      have ek : 1 + (k : Int) = ((k + 1 : Nat) : Int) := by omega
      rw [ek]
      exact don_8 (c := c) (t0 := t) hc.1 hl KK (k + 1) t2 [] h2 (by simp) (by simp; omega) (by simp only [KK]; omega)
/-- a pattern, or nearly one: no more is known of it than its length -/
theorem dpat_ok {c : List Int} {t : Int × Int} (h : Src c t) : ∃ t' p, f123G KK (c, t) = some (t', p) ∧ Src c t' ∧ p.2.2.length ≤ 100 := by
  unfold f123G
  obtain ⟨t1, f, l, e1, h1⟩ := dlat_ok h
  rw [e1, Option.bind_some]
  simp only
  obtain ⟨t2, r, e2, h2, hr⟩ := don_ok h1 f l
  rw [e2, Option.bind_some]
  simp only
  obtain ⟨t3, r3, e3, h3, _⟩ := next_ok h2 60
  rw [e3, Option.bind_some]
  simp only
  cases r3 == 0
  · rw [cond_false]
    cases r3 == 1
    · exact ⟨t3, (f, l, r), rfl, h3, by simp only; omega⟩
    · rw [cond_true]
      by_cases h0 : 0 < r.length
      · obtain ⟨t4, r4, e4, h4, _⟩ := pick_ok h3 (l := [(-1 : Int), 9, 10]) (by simp)
        rw [decide_eq_true (show (r.length : Int) > 0 by omega), cond_true, e4, Option.bind_some]
        exact ⟨t4, _, rfl, h4, by simp only; rw [List.length_set]; omega⟩
      · rw [decide_eq_false (show ¬ (r.length : Int) > 0 by omega)]
        exact ⟨t3, (f, l, r), rfl, h3, by simp only; omega⟩
  · rw [cond_true, blim8 (by simp; omega)]
    exact ⟨t3, _, rfl, h3, by simp; omega⟩
end Go.Proofs.YtniidcalfhhciaaGreat.X
