/- Plain facts: numbers, lattices, motions and cells that a code draws. -/
import Derived.Test.YtphhbdjjfacpiaaGreatDoorQsPOrbitNumbers
import Derived.Test.YtphhbdjjfacpiaaGreatDoorQsMS
import Derived.Test.YtphhbdjjfacpiaaGreatDoorQsPTwoColourPattern
namespace Go.Proofs.YtphhbdjjfacpiaaGreatDoor.X
open Go
set_option linter.unusedSimpArgs false
set_option linter.unusedVariables false
structure Src (c : List Int) (t : Int × Int) : Prop where
 by0 : ∀ i (h : i < c.length), 0 ≤ c[i] ∧ c[i] ≤ 255
 len : c.length ≤ 4096
 a0 : 0 ≤ t.1
 a1 : t.1 ≤ (c.length : Int)
 s0 : 0 ≤ t.2
 s1 : t.2 < 2147483647
theorem Pre.pw {f : Int} {l : Lt} {g : List Mo} (h : Pre f l g) : g.Pairwise fun a b => ltM a b = true := List.pairwise_iff_getElem.2 fun i j hi hj hij => h.lt j i hj hij
theorem pre_pw {f : Int} {l : Lt} {g : List Mo} (h1 : ∀ m ∈ g, m.1 ∈ stabS f l ∧ cellB l m.2 = true) (h2 : g.Pairwise fun a b => ltM a b = true) : Pre f l g := ⟨h1, fun i h => List.pairwise_iff_getElem.1 h2 i (i + 1) (by omega) h (by omega)⟩
theorem ltM_tri {a b : Mo} (h : ltM a b = false) (k : ltM b a = false) : a = b := numMo_inj (ltL_tri rfl h k)
theorem insert_ok {f : Int} {l : Lt} {g : List Mo} (hl : IsL l) (hp : Pre f l g) {m : Mo} (hm : m.1 ∈ stabS f l ∧ cellB l m.2 = true) (hn : g.contains m = false) : ∃ g', f22G KK g m = some g' ∧ Pre f l g' ∧ (∀ x, x ∈ g' ↔ x ∈ g ∨ x = m) ∧ g'.length = g.length + 1 := by
 have hlen := hp.len hl
 obtain ⟨p, h1, h2, h3, h4⟩ := place_loop hp (by omega) m KK 0 g.length (by omega) (by omega) (by simp only [KK]; omega) (fun i _ h => by omega) (fun i hi h => by omega)
 have hne : ∀ i (h : i < g.length), g[i] ≠ m := fun i h e => by
  have : g.contains m = true := List.contains_iff_mem.2 (by rw [← e]; exact gM h)
  rw [hn] at this; cases this
 have hgt : ∀ i (h : i < g.length), p ≤ i → ltM m g[i] = true := fun i h hi => by
  cases hx : ltM m g[i] with
  | true => rfl
  | false => exact absurd (ltM_tri (h4 i h hi) hx) (hne i h)
 have z1 : ((0 : Int) + (p : Int)).toNat = p := by omega
 have z2 : ((0 : Int) + (g.length : Int)).toNat = g.length := by omega
 have d1 : decide ((p : Int) ≤ (g.length : Int)) = true := dT (by omega)
 have l1 : (g.take p).length = p := by rw [List.length_take]; omega
 have l2 : (g.drop p).length = g.length - p := List.length_drop
 refine ⟨g.take p ++ [m] ++ g.drop p, ?_, ?_, ?_, by simp only [lA, l1, l2, List.length_singleton]; omega⟩
 ·unfold f22G f42G f42_g
  simp only [show f42_l6 KK g m KK (0 : Int) (g.length : Int) = some (p : Int) from h1, oB, oT, tO, cT, z1, z2, List.take_length, List.drop_zero, List.nil_append, in0, d1, Int.le_refl, decide_true, aS]
  rw [blim48 (by rw [l1]; omega), blim48 (by rw [l1]; simp; omega), blim48 (by rw [lA, l1, l2]; simp; omega)]
  by_cases hlt : p < g.length
  ·have hx : (g.getD p dMo) = g[p] := by simp [List.getD, hlt]
   have e2 : (g[p] == m) = false := beq_eq_false_iff_ne.2 (hne p hlt)
   rw [← eqMo] at e2
   rw [in1 hlt]
   simp only [nT, Bool.false_or, Bool.or_false, aS, cT]
   rw [show g.getD p ((0, 0, 0, 0), 0, 0) = g[p] from hx, e2]
   rfl
  ·have e : p = g.length := by omega
   rw [dF (show ¬ (p : Int) < (g.length : Int) by omega)]
   rfl
 ·refine pre_pw (fun x hx => ?_) ?_
  ·simp only [List.mem_append, mS] at hx
   rcases hx with (hx | rfl) | hx
   ·exact hp.mem _ (List.mem_of_mem_take hx)
   ·exact hm
   ·exact hp.mem _ (List.mem_of_mem_drop hx)
  ·have hpw := hp.pw
   rw [List.append_assoc, List.pairwise_append, List.pairwise_append]
   have ht : ∀ a ∈ g.take p, ltM a m = true := fun a ha => by
    obtain ⟨i, hi, rfl⟩ := List.getElem_of_mem ha
    rw [l1] at hi
    rw [List.getElem_take]
    exact h3 i (by omega) hi
   have hd : ∀ b ∈ g.drop p, ltM m b = true := fun b hb => by
    obtain ⟨i, hi, rfl⟩ := List.getElem_of_mem hb
    rw [l2] at hi
    rw [List.getElem_drop]
    exact hgt (p + i) (by omega) (by omega)
   refine ⟨hpw.sublist (List.take_sublist _ _), ⟨by simp, hpw.sublist (List.drop_sublist _ _), fun a ha b hb => ?_⟩, fun a ha b hb => ?_⟩
   ·rw [mS] at ha
    subst ha
    exact hd b hb
   ·rcases List.mem_append.1 hb with hb | hb
    ·rw [mS] at hb
     subst hb
     exact ht a ha
    ·exact ltL_trans (ht a ha) (hd b hb)
 ·intro x
  simp only [List.mem_append, mS]
  constructor
  ·rintro ((h | h) | h)
   ·exact .inl (List.mem_of_mem_take h)
   ·exact .inr h
   ·exact .inl (List.mem_of_mem_drop h)
  ·rintro (h | h)
   ·rw [← List.take_append_drop p g] at h
    rcases List.mem_append.1 h with h | h
    ·exact .inl (.inl h)
    ·exact .inr h
   ·exact .inl (.inr h)
structure Cl (f : Int) (l : Lt) (out queue : List Mo) : Prop where
 pre : Pre f l out
 mem : ∀ x, x ∈ out ↔ x ∈ queue
 len : queue.length = out.length
abbrev OkM (f : Int) (l : Lt) (m : Mo) : Prop := m.1 ∈ stabS f l ∧ cellB l m.2 = true
theorem OkM.good {f : Int} {l : Lt} (hl : IsL l) {m : Mo} (h : OkM f l m) : GoodG m := ⟨stab_mem h.1, cellB_Sv hl h.2⟩
theorem mul_ok {f : Int} {l : Lt} (hl : IsL l) {m n : Mo} (hm : OkM f l m) (hn : OkM f l n) : OkM f l (mulG l m n) := ⟨stab_mul hl hm.1 hn.1, redS_isCell hl _⟩
theorem close_in {f : Int} {l : Lt} (hl : IsL l) {gs : List Mo} (hg : ∀ m ∈ gs, OkM f l m) (hgn : gs.length ≤ 1000) {a : Nat} {q0 : List Mo} {L : Int → List Mo → List Mo → Option (List Mo)} : ∀ (n i : Nat) (out queue : List Mo), Cl f l out queue → a < queue.length → i ≤ gs.length → gs.length - i < n →
  ∃ out' queue', Cl f l out' queue' ∧ queue.length ≤ queue'.length ∧ f10_l21 KK l gs (a : Int) q0 L n (i : Int) out queue = L ((a + 1 : Nat) : Int) out' queue'
 | 0, i, _, _, _, _, _, h => by omega
 | n + 1, i, out, queue, hC, ha, hi, hk => by
  have hlen := hC.pre.len hl
  have hql := hC.len
  show ∃ out' queue', Cl f l out' queue' ∧ queue.length ≤ queue'.length ∧ f10_b21 KK l gs (a : Int) q0 L (fun v0 v1 v2 => f10_l21 KK l gs (a : Int) q0 L n v0 v1 v2) (i : Int) out queue = _
  unfold f10_b21
  by_cases hlt : i < gs.length
  ·have o1 := hg _ (gM hlt)
   have o2 : OkM f l queue[a] := hC.pre.mem _ ((hC.mem _).2 (gM ha))
   have o3 := mul_ok hl o1 o2
   have g1 := o1.good hl
   have g2 := o2.good hl
   rw [in1 hlt, in0, gd hlt, in0, in1 ha, gd ha]
   simp only [aS, cT]
   rw [compose_eq g1 g2, oB, l06Reduce_eq hl (m := (mmS gs[i].1 queue[a].1, appS gs[i] queue[a].2)) (appS_Sm (pm_sm g1.1) g2.2 g1.2), oB, l06Has_eq hC.pre (by omega), oB, w_succ (by omega)]
   rw [show (((mmS gs[i].1 queue[a].1, redS l (appS gs[i] queue[a].2)) : Mo)) = mulG l gs[i] queue[a] from rfl]
   cases hc : out.contains (mulG l gs[i] queue[a])
   ·obtain ⟨g', e1, e2, e3, e4⟩ := insert_ok hl hC.pre o3 hc
    have hlen2 := e2.len hl
    simp only [nF, cT]
    rw [e1, oB, blim48 (by simp; omega), cT]
    obtain ⟨out', queue', c1, c2, c3⟩ := close_in hl hg hgn (a := a) (q0 := q0) (L := L) n (i + 1) g' (queue ++ [mulG l gs[i] queue[a]]) ⟨e2, fun x => by rw [e3, List.mem_append, mS, hC.mem], by rw [lA, e4, hql]; rfl⟩ (by rw [lA]; simp; omega) (by omega) (by omega)
    exact ⟨out', queue', c1, by rw [lA] at c2; omega, c3⟩
   ·simp only [nT, cF]
    exact close_in hl hg hgn n (i + 1) out queue hC ha (by omega) (by omega)
  ·have e : i = gs.length := by omega
   subst e
   rw [out1, cF, w_succ (by omega)]
   exact ⟨out, queue, hC, Nat.le_refl _, rfl⟩
theorem close_out {f : Int} {l : Lt} (hl : IsL l) {gs : List Mo} (hg : ∀ m ∈ gs, OkM f l m) (hgn : gs.length ≤ 1000) : ∀ (n a : Nat) (out queue : List Mo), Cl f l out queue → a ≤ queue.length → 768 - a < n →
  ∃ out' queue', Cl f l out' queue' ∧ queue.length ≤ queue'.length ∧ f10_l17 KK l gs n (a : Int) out queue = some out'
 | 0, a, _, _, _, _, h => by omega
 | n + 1, a, out, queue, hC, ha, hk => by
  have hlen := hC.pre.len hl
  have hql := hC.len
  show ∃ out' queue', Cl f l out' queue' ∧ queue.length ≤ queue'.length ∧ f10_b17 KK l gs (fun c0 c1 d0 d1 d2 => f10_l21 KK l gs c0 c1 (fun v0 v1 v2 => f10_l17 KK l gs n v0 v1 v2) KK d0 d1 d2) (fun v0 v1 v2 => f10_l17 KK l gs n v0 v1 v2) (a : Int) out queue = _
  unfold f10_b17
  by_cases hlt : a < queue.length
  ·rw [in1 hlt, cT]
   obtain ⟨o1, q1, c1, c2, c3⟩ := close_in hl hg hgn (a := a) (q0 := queue) (L := fun v0 v1 v2 => f10_l17 KK l gs n v0 v1 v2) KK 0 out queue hC hlt (by omega) (by simp only [KK]; omega)
   obtain ⟨o2, q2, d1, d2, d3⟩ := close_out hl hg hgn n (a + 1) o1 q1 c1 (by omega) (by omega)
   exact ⟨o2, q2, d1, by omega, c3.trans d3⟩
  ·have e : a = queue.length := by omega
   subst e
   rw [out1, cF]
   exact ⟨out, queue, hC, Nat.le_refl _, rfl⟩
theorem uMo_ok {f : Int} {l : Lt} (hl : IsL l) : OkM f l uMo := ⟨stab_one hl, cellB_iff.2 (by have := hl.a1; have := hl.c1; simp only [uMo]; omega)⟩
theorem close_g (l : Lt) (gs : List Mo) : f10G KK l gs = f10_l17 KK l gs KK 0 [uMo] [uMo] := by
 have h1 : f18G KK = some uMo := rfl
 unfold f10G f10_g
 rw [h1, oB, oB]
theorem close_ok {f : Int} {l : Lt} (hl : IsL l) {gs : List Mo} (hg : ∀ m ∈ gs, OkM f l m) (hgn : gs.length ≤ 1000) : ∃ g, f10G KK l gs = some g ∧ Pre f l g ∧ 0 < g.length := by
 have hu := uMo_ok (f := f) hl
 have hc : Cl f l [uMo] [uMo] := ⟨pre_pw (fun m hm => by rw [mS] at hm; rw [hm]; exact hu) (by simp), fun x => Iff.rfl, rfl⟩
 have hk : 768 - 0 < KK := by simp only [KK]; omega
 obtain ⟨o, q, c1, c2, c3⟩ := close_out hl hg hgn KK 0 [uMo] [uMo] hc (by omega) hk
 have c4 : f10_l17 KK l gs KK 0 [uMo] [uMo] = some o := c3
 exact ⟨o, (close_g l gs).trans c4, c1.pre, by have := c1.len; simp at c2; omega⟩
def fixS (f : Int) (l : Lt) (m : Mo) : Int × Int := if okF f && okL l then (if suitB f l m then ((((cellsS l).filter fun v => mvS l m v == v).length : Nat), 0) else (0, 2)) else (0, 1)
theorem implSuit_eq {f : Int} {l : Lt} (hf : okF f = true) (hl : IsL l) (m : Mo) : f84G KK f l m = some (suitB f l m) := by
 have hf' : 0 ≤ f ∧ f ≤ 1 := by simpa [okF] using hf
 unfold f84G suitB
 rw [isVec_eq, oB]
 cases vecB m.2
 ·simp
 ·simp only [nT, oT, tO, cT]
  rw [latticeMats_eq hf'.1 hf'.2 hl, oB, containsMat_eq (by have := stab_len f l; omega), oB, Bool.and_true]
abbrev mapP (f : Int) (l : Lt) (φ : Vc → Int) : Pt := (f, l, (cellsS l).map φ)
def resIK (p : Pt) (g : List Mo) : Bool × Int := bif codeK p g != 0 then (false, codeK p g) else (keptS p g, 0)
theorem mm_assoc (a b c : Mt) : mmS (mmS a b) c = mmS a (mmS b c) := by
 have h1 := mulS_mm a b (c.1, c.2.2.1)
 have h2 := mulS_mm a b (c.2.1, c.2.2.2)
 have e1 : mmS (mmS a b) c = ((mulS (mmS a b) (c.1, c.2.2.1)).1, (mulS (mmS a b) (c.2.1, c.2.2.2)).1, (mulS (mmS a b) (c.1, c.2.2.1)).2, (mulS (mmS a b) (c.2.1, c.2.2.2)).2) := rfl
 rw [e1, h1, h2]
 rfl
theorem mulG_assoc {f : Int} {l : Lt} (hl : IsL l) {m n : Mo} (hm : OkM f l m) (y : Mo) : mulG l (mulG l m n) y = mulG l m (mulG l n y) := by
 have h := mv_mul (f := f) hl (n := n) hm.1 y.2
 refine Prod.ext (mm_assoc _ _ _) ?_
 exact h.symm
theorem mulG_one {f : Int} {l : Lt} (hl : IsL l) {y : Mo} (hy : OkM f l y) : mulG l uMo y = y := by
 have h := mv_one hl hy.2
 refine Prod.ext ?_ h
 show mmS (1, 0, 0, 1) y.1 = y.1
 unfold mmS
 simp
inductive Gn (l : Lt) (gs : List Mo) : Mo → Prop where
 | one : Gn l gs uMo
 | mul (m x : Mo) : m ∈ gs → Gn l gs x → Gn l gs (mulG l m x)
theorem gen_mul {f : Int} {l : Lt} (hl : IsL l) {gs : List Mo} (hg : ∀ m ∈ gs, OkM f l m) {S : List Mo} (hS : ∀ x ∈ S, OkM f l x) (hc : ∀ x ∈ S, ∀ m ∈ gs, mulG l m x ∈ S) {x : Mo} (h : Gn l gs x) : ∀ y ∈ S, mulG l x y ∈ S := by
 induction h with
 | one => intro y hy; rw [mulG_one hl (hS y hy)]; exact hy
 | mul m x hm _ ih =>
  intro y hy
  rw [mulG_assoc hl (hg m hm)]
  exact hc _ (ih y hy) m hm
structure Cg (f : Int) (l : Lt) (gs out queue : List Mo) : Prop where
 cl : Cl f l out queue
 gen : ∀ x ∈ queue, Gn l gs x
theorem closeG_in {f : Int} {l : Lt} (hl : IsL l) {gs : List Mo} (hg : ∀ m ∈ gs, OkM f l m) (hgn : gs.length ≤ 1000) {a : Nat} {q0 : List Mo} {L : Int → List Mo → List Mo → Option (List Mo)} : ∀ (n i : Nat) (out queue : List Mo), Cg f l gs out queue → (ha : a < queue.length) → i ≤ gs.length → gs.length - i < n → (∀ m ∈ gs.take i, mulG l m queue[a] ∈ queue) →
  ∃ out' ext, Cg f l gs out' (queue ++ ext) ∧ (∀ m ∈ gs, mulG l m queue[a] ∈ queue ++ ext) ∧ f10_l21 KK l gs (a : Int) q0 L n (i : Int) out queue = L ((a + 1 : Nat) : Int) out' (queue ++ ext)
 | 0, i, _, _, _, _, _, h, _ => by omega
 | n + 1, i, out, queue, hC, ha, hi, hk, hd => by
  have hlen := hC.cl.pre.len hl
  have hql := hC.cl.len
  show ∃ out' ext, Cg f l gs out' (queue ++ ext) ∧ (∀ m ∈ gs, mulG l m queue[a] ∈ queue ++ ext) ∧ f10_b21 KK l gs (a : Int) q0 L (fun v0 v1 v2 => f10_l21 KK l gs (a : Int) q0 L n v0 v1 v2) (i : Int) out queue = _
  unfold f10_b21
  by_cases hlt : i < gs.length
  ·have o1 := hg _ (gM hlt)
   have o2 : OkM f l queue[a] := hC.cl.pre.mem _ ((hC.cl.mem _).2 (gM ha))
   have o3 := mul_ok hl o1 o2
   have g1 := o1.good hl
   have g2 := o2.good hl
   rw [in1 hlt, in0, gd hlt, in0, in1 ha, gd ha]
   simp only [aS, cT]
   rw [compose_eq g1 g2, oB, l06Reduce_eq hl (m := (mmS gs[i].1 queue[a].1, appS gs[i] queue[a].2)) (appS_Sm (pm_sm g1.1) g2.2 g1.2), oB, l06Has_eq hC.cl.pre (by omega), oB, w_succ (by omega)]
   rw [show (((mmS gs[i].1 queue[a].1, redS l (appS gs[i] queue[a].2)) : Mo)) = mulG l gs[i] queue[a] from rfl]
   cases hc : out.contains (mulG l gs[i] queue[a])
   ·obtain ⟨g', e1, e2, e3, e4⟩ := insert_ok hl hC.cl.pre o3 hc
    have hlen2 := e2.len hl
    simp only [nF, cT]
    rw [e1, oB, blim48 (by simp; omega), cT]
    have ha' : a < (queue ++ [mulG l gs[i] queue[a]]).length := by rw [lA]; simp; omega
    have hge : (queue ++ [mulG l gs[i] queue[a]])[a] = queue[a] := List.getElem_append_left ha
    obtain ⟨out', ext, c1, c2, c3⟩ := closeG_in hl hg hgn (a := a) (q0 := q0) (L := L) n (i + 1) g' (queue ++ [mulG l gs[i] queue[a]]) ⟨⟨e2, fun x => by rw [e3, List.mem_append, mS, hC.cl.mem], by rw [lA, e4, hql]; rfl⟩, fun x hx => by
      rcases List.mem_append.1 hx with hx | hx
      ·exact hC.gen x hx
      ·rw [mS] at hx
       rw [hx]
       exact .mul _ _ (gM hlt) (hC.gen _ (gM ha))⟩ ha' (by omega) (by omega) (fun m hm => by
      rw [hge]
      rw [tS hlt] at hm
      rcases List.mem_append.1 hm with hm | hm
      ·exact List.mem_append.2 (.inl (hd m hm))
      ·rw [mS] at hm
       rw [hm]
       simp)
    rw [hge] at c2
    refine ⟨out', [mulG l gs[i] queue[a]] ++ ext, ?_, ?_, ?_⟩
    ·rw [← List.append_assoc]; exact c1
    ·rw [← List.append_assoc]; exact c2
    ·rw [← List.append_assoc]; exact c3
   ·simp only [nT, cF]
    exact closeG_in hl hg hgn n (i + 1) out queue hC ha (by omega) (by omega) (fun m hm => by
      rw [tS hlt] at hm
      rcases List.mem_append.1 hm with hm | hm
      ·exact hd m hm
      ·rw [mS] at hm
       rw [hm]
       exact (hC.cl.mem _).1 (List.contains_iff_mem.1 hc))
  ·have e : i = gs.length := by omega
   subst e
   rw [out1, cF, w_succ (by omega)]
   rw [List.take_length] at hd
   exact ⟨out, [], by rw [List.append_nil]; exact hC, by rw [List.append_nil]; exact hd, by rw [List.append_nil]⟩
theorem closeG_out {f : Int} {l : Lt} (hl : IsL l) {gs : List Mo} (hg : ∀ m ∈ gs, OkM f l m) (hgn : gs.length ≤ 1000) : ∀ (n a : Nat) (out queue : List Mo), Cg f l gs out queue → a ≤ queue.length → 768 - a < n → (∀ x ∈ queue.take a, ∀ m ∈ gs, mulG l m x ∈ queue) → uMo ∈ queue →
  ∃ out' queue', Cg f l gs out' queue' ∧ (∀ x ∈ queue', ∀ m ∈ gs, mulG l m x ∈ queue') ∧ uMo ∈ queue' ∧ f10_l17 KK l gs n (a : Int) out queue = some out'
 | 0, a, _, _, _, _, h, _, _ => by omega
 | n + 1, a, out, queue, hC, ha, hk, hd, hu => by
  have hlen := hC.cl.pre.len hl
  have hql := hC.cl.len
  show ∃ out' queue', Cg f l gs out' queue' ∧ (∀ x ∈ queue', ∀ m ∈ gs, mulG l m x ∈ queue') ∧ uMo ∈ queue' ∧ f10_b17 KK l gs (fun c0 c1 d0 d1 d2 => f10_l21 KK l gs c0 c1 (fun v0 v1 v2 => f10_l17 KK l gs n v0 v1 v2) KK d0 d1 d2) (fun v0 v1 v2 => f10_l17 KK l gs n v0 v1 v2) (a : Int) out queue = _
  unfold f10_b17
  by_cases hlt : a < queue.length
  ·rw [in1 hlt, cT]
   obtain ⟨o1, ext, c1, c2, c3⟩ := closeG_in hl hg hgn (a := a) (q0 := queue) (L := fun v0 v1 v2 => f10_l17 KK l gs n v0 v1 v2) KK 0 out queue hC hlt (by omega) (by simp only [KK]; omega) (by simp)
   obtain ⟨o2, q2, d1, d2, d3, d4⟩ := closeG_out hl hg hgn n (a + 1) o1 (queue ++ ext) c1 (by rw [lA]; omega) (by omega) (fun x hx m hm => by
     rw [List.take_append_of_le_length (by omega), tS hlt] at hx
     rcases List.mem_append.1 hx with hx | hx
     ·exact List.mem_append.2 (.inl (hd x hx m hm))
     ·rw [mS] at hx
      rw [hx]
      exact c2 m hm) (List.mem_append.2 (.inl hu))
   exact ⟨o2, q2, d1, d2, d3, c3.trans d4⟩
  ·have e : a = queue.length := by omega
   subst e
   rw [out1, cF]
   rw [List.take_length] at hd
   exact ⟨out, queue, hC, hd, hu, rfl⟩
section
variable {c : List Int} {t0 : Int × Int} {f : Int} {l : Lt}
end
end Go.Proofs.YtphhbdjjfacpiaaGreatDoor.X
