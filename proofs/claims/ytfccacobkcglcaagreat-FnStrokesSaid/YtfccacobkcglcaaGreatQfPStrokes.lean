/- The plain law of FnStrokes: needed strokes paint the same pattern, and strokes told from a kept pattern paint it again. -/
import Derived.Test.YtfccacobkcglcaaGreatQfNU
import Derived.Test.YtfccacobkcglcaaGreatQfPPainted
import Derived.Test.YtfccacobkcglcaaGreatQfPPaintStrokes
import Derived.Test.YtfccacobkcglcaaGreatQfPSameStrokes
import Derived.Test.YtfccacobkcglcaaGreatQfPNeededStrokes
import Derived.Test.YtfccacobkcglcaaGreatQfPStrokesFor
namespace Go.Proofs.YtfccacobkcglcaaGreat.X
open Go
set_option linter.unusedSimpArgs false
set_option linter.unusedVariables false
theorem last_has (l : Lt) (ns : List Int) (k : Int) : ∀ (ms : List Ma) (c c' : Int), (ms.any fun y => nmS l ns y == k) = true → lastS l ns ms c k = lastS l ns ms c' k
 | [], _, _, h => by cases h
 | x :: ms, c, c', h => by
  show lastS l ns ms (bif nmS l ns x == k then x.2 else c) k = lastS l ns ms (bif nmS l ns x == k then x.2 else c') k
  rw [List.any_cons] at h
  cases hx : nmS l ns x == k
  ·rw [hx, Bool.false_or] at h
   exact last_has l ns k ms _ _ h
  ·rfl
theorem last_need (l : Lt) (ns : List Int) (k : Int) : ∀ (ms : List Ma) (c : Int), lastS l ns (needS l ns ms) c k = lastS l ns ms c k
 | [], _ => rfl
 | x :: ms, c => by
  unfold needS
  show _ = lastS l ns ms (bif nmS l ns x == k then x.2 else c) k
  cases hb : hasN l ns x ms
  ·exact last_need l ns k ms _
  ·rw [cond_true, last_need l ns k ms]
   cases hx : nmS l ns x == k
   ·rfl
   ·have e := beq_iff_eq.1 hx
    unfold hasN at hb
    rw [e] at hb
    exact last_has l ns k ms _ _ hb
theorem paint_need (l : Lt) (g : List Mo) (ms : List Ma) : paintG l g (needS l (numsF l g) ms) = paintG l g ms := by
 unfold paintG compS
 exact List.map_congr_left fun k _ => last_need l (numsF l g) k ms 0
theorem need_str {l : Lt} {ns : List Int} {ms : List Ma} (h : strB l ms = true) : strB l (needS l ns ms) = true := by
 unfold strB at h ⊢
 rw [Bool.and_eq_true, decide_eq_true_eq] at h ⊢
 refine ⟨List.all_eq_true.2 fun x hx => List.all_eq_true.1 h.1 x (needS_mem hx), ?_⟩
 have := needS_len l ns ms
 omega
theorem need_paint {r : Sgr} {ms : List Ma} (h : (resNS r ms).2 = 0) : resPS r (resNS r ms).1 = resPS r ms ∧ (resPS r ms).2 = 0 := by
 unfold resNS at h ⊢
 cases hc : r.2.2.2 != 0
 ·rw [hc, cond_false] at h
  rw [cond_false]
  cases hb : strB r.2.1 ms
  ·rw [hb, cond_false] at h; exact absurd h (by decide)
  ·rw [cond_true]
   simp only
   unfold resPS
   rw [hc, need_str hb, hb, paint_need]
   exact ⟨rfl, rfl⟩
 ·rw [hc, cond_true] at h
  have h : r.2.2.2 = 0 := h
  rw [h] at hc
  exact absurd hc (by decide)
theorem last_all {l : Lt} {ns : List Int} {k c : Int} : ∀ {f : List Ma} (rest : Int), (∀ x ∈ f, nmS l ns x = k → x.2 = c) → lastS l ns f rest k = bif (f.any fun y => nmS l ns y == k) then c else rest
 | [], _, _ => rfl
 | x :: f, rest, h => by
  show lastS l ns f (bif nmS l ns x == k then x.2 else rest) k = _
  rw [last_all _ fun y hy => h y (by simp [hy]), List.any_cons]
  cases hx : nmS l ns x == k
  ·rfl
  ·rw [h x (by simp) (beq_iff_eq.1 hx), cond_true, Bool.true_or, cond_true]
   cases f.any fun y => nmS l ns y == k <;> rfl
theorem sf_mem {q : Pt} {O : List (List Vc)} {x : Ma} (h : x ∈ sfS q O) : ∃ o ∈ O, x = (o.headD (0, 0), atS q (o.headD (0, 0))) ∧ atS q (o.headD (0, 0)) ≠ 0 := by
 unfold sfS at h
 obtain ⟨o, ho, e⟩ := List.mem_map.1 h
 obtain ⟨h1, h2⟩ := List.mem_filter.1 ho
 exact ⟨o, h1, e.symm, by simpa using h2⟩
theorem sf_str {q : Pt} (hP : okP q = true) {g : List Mo} (hO : OrbG q.1 q.2.1 g) : strB q.2.1 (sfS q (orbsS q.2.1 g)) = true := by
 unfold strB
 rw [Bool.and_eq_true, decide_eq_true_eq]
 refine ⟨List.all_eq_true.2 fun x hx => ?_, by have := sfS_len (p := q) hO.la g; omega⟩
 obtain ⟨o, ho, e, _⟩ := sf_mem hx
 obtain ⟨v, t, ev, hv⟩ := orbs_ne hO ho
 rw [e, ev]
 unfold stB
 simp only [List.headD_cons]
 rw [hv, at_ok hP]
 rfl
theorem sf_back {q : Pt} (hP : okP q = true) {g : List Mo} (hO : OrbG q.1 q.2.1 g) (hk : keptS q g = true) : paintG q.2.1 g (sfS q (orbsS q.2.1 g)) = q.2.2 := by
 have hlen : q.2.2.length = (cellsS q.2.1).length := by
  unfold okP at hP
  simp only [Bool.and_eq_true, decide_eq_true_eq] at hP
  have e := hP.1.2
  rw [cellsS_len hO.la]
  have := hO.la.a1
  have := hO.la.c1
  have e2 : ((q.2.1.1.toNat * q.2.1.2.2.toNat : Nat) : Int) = q.2.1.1 * q.2.1.2.2 := by rw [Int.natCast_mul, Int.toNat_of_nonneg (by omega), Int.toNat_of_nonneg (by omega)]
  omega
 refine List.ext_getElem? fun i => ?_
 unfold paintG compS numsF
 rw [List.map_map, List.getElem?_map]
 by_cases hi : i < (cellsS q.2.1).length
 ·have hc : cellB q.2.1 (cellsS q.2.1)[i] = true := cellsS_cell (List.getElem_mem hi)
  obtain ⟨k, hkl, e, hin⟩ := ix_at hO hc
  obtain ⟨v, t, ev, hv⟩ := orbs_ne hO (List.getElem_mem hkl)
  have hvin : v ∈ (orbsS q.2.1 g)[k] := by rw [ev]; simp
  have hsame := kept_same hO hk (List.getElem_mem hkl) hvin hin
  rw [List.getElem?_eq_getElem hi]
  show some (lastS q.2.1 (numsF q.2.1 g) (sfS q (orbsS q.2.1 g)) 0 (ixS q.2.1 g (cellsS q.2.1)[i])) = _
  have hfin : lastS q.2.1 (numsF q.2.1 g) (sfS q (orbsS q.2.1 g)) 0 (ixS q.2.1 g (cellsS q.2.1)[i]) = atS q (cellsS q.2.1)[i] := by
   rw [last_all (c := atS q (cellsS q.2.1)[i]) 0 fun x hx hn => ?_]
   ·cases ha : (sfS q (orbsS q.2.1 g)).any fun y => nmS q.2.1 (numsF q.2.1 g) y == ixS q.2.1 g (cellsS q.2.1)[i]
    ·rw [cond_false]
     by_cases h0 : atS q v = 0
     ·rw [← hsame, h0]
     ·have hm : ((v, atS q v) : Ma) ∈ sfS q (orbsS q.2.1 g) := by
       unfold sfS
       refine List.mem_map.2 ⟨(orbsS q.2.1 g)[k], List.mem_filter.2 ⟨List.getElem_mem hkl, ?_⟩, ?_⟩
       ·rw [ev]; simpa using h0
       ·rw [ev]; rfl
      have : ((sfS q (orbsS q.2.1 g)).any fun y => nmS q.2.1 (numsF q.2.1 g) y == ixS q.2.1 g (cellsS q.2.1)[i]) = true := by
       refine List.any_eq_true.2 ⟨_, hm, ?_⟩
       rw [nm_ix hO.la]
       simp only
       rw [redS_cell hO.la hv, ix_of hO hkl hvin, e]
       simp
      rw [ha] at this
      cases this
    ·rfl
   ·obtain ⟨o, ho, ex, _⟩ := sf_mem hx
    obtain ⟨u, t', eu, hu⟩ := orbs_ne hO ho
    rw [ex, eu] at hn ⊢
    simp only [List.headD_cons] at hn ⊢
    rw [nm_ix hO.la] at hn
    simp only at hn
    rw [redS_cell hO.la hu] at hn
    have hs := ix_same hO hc hu
    rw [hn] at hs
    have hs2 : (cellsS q.2.1)[i] ∈ orbS q.2.1 g u := List.contains_iff_mem.1 (by rw [← hs]; simp)
    exact (kept_orb hO hk hu hs2).symm
  rw [hfin]
  unfold atS
  rw [cellsS_num hO.la hi, List.getD_eq_getElem?_getD, List.getElem?_eq_getElem (by omega)]
  rfl
 ·rw [List.getElem?_eq_none (by omega), List.getElem?_eq_none (by omega)]
  rfl
theorem for_paint {a : ByteArray} {n : Int} {r : Sgr} (hr : Std a n r) {q : Pt} (h : (resSF r q).2 = 0) : resPS r (resSF r q).1 = (q, 0) := by
 unfold resSF at h ⊢
 cases hc : r.2.2.2 != 0
 ·have h0 : r.2.2.2 = 0 := by simpa using hc
  rw [hc, cond_false] at h
  rw [cond_false]
  cases hP : okP q
  ·rw [hP, cond_false] at h; exact absurd h (by decide)
  ·rw [hP, cond_true] at h
   rw [cond_true]
   cases hf : fitP r q
   ·rw [hf, cond_false] at h; exact absurd h (by decide)
   ·rw [hf, cond_true] at h
    rw [cond_true]
    obtain ⟨f1, f2⟩ := fit_of hf
    have hO : OrbG q.1 q.2.1 r.2.2.1 := by rw [f1, f2]; exact hr.orb h0
    cases hk : keptS q r.2.2.1
    ·rw [hk, cond_false] at h; exact absurd h (by decide)
    ·rw [cond_true]
     simp only
     unfold resPS
     rw [hc, ← f1, ← f2, sf_str hP hO, sf_back hP hO hk]
     rfl
 ·rw [hc, cond_true] at h
  have h : r.2.2.2 = 0 := h
  rw [h] at hc
  exact absurd hc (by decide)
theorem ss_symm (r : Sgr) (a b : List Ma) : resSS r b a = resSS r a b := by
 unfold resSS
 rw [Bool.and_comm, show (paintG r.2.1 r.2.2.1 b == paintG r.2.1 r.2.2.1 a) = (paintG r.2.1 r.2.2.1 a == paintG r.2.1 r.2.2.1 b) from Bool.eq_iff_iff.2 (by rw [beq_iff_eq, beq_iff_eq]; exact ⟨Eq.symm, Eq.symm⟩)]
theorem cv_ps (r : Sgr) (ms : List Ma) : (cvB r [ms]).2.2.2 = (resPS r ms).2 := by
 rw [cvB_code]
 unfold resPS
 cases r.2.2.2 != 0
 ·simp only [cond_false, List.all_cons, List.all_nil, Bool.and_true]
  cases strB r.2.1 ms <;> rfl
 ·rfl
theorem areStr_eq {a : ByteArray} {n : Int} {r : Sgr} (hr : Std a n r) (ms : List Ma) : f76G KK a n ms = some ((resPS r ms).2 == 0) := by
 unfold f76G
 rw [canvas_eq hr.im hr.ok (by simp), Option.bind_some, cv_ps]
theorem dns_ok {c : List Int} (hb : ∀ i (h : i < c.length), 0 ≤ c[i] ∧ c[i] ≤ 255) (hl : c.length ≤ 4096) : ∃ a n ms, f72G KK c = some (a, n, ms) ∧ ms.length ≤ 200 := by
 obtain ⟨t0, s0, e0⟩ := from_ok hb hl
 obtain ⟨t1, a, n, ms, e1, s1, hm⟩ := canvas_draw s0
 unfold f72G
 rw [e0, Option.bind_some, e1]
 exact ⟨a, n, ms, rfl, hm⟩
theorem dsf_ok {c : List Int} (hb : ∀ i (h : i < c.length), 0 ≤ c[i] ∧ c[i] ≤ 255) (hl : c.length ≤ 4096) : ∃ a n q, f73G KK c = some (a, n, q) ∧ q.2.2.length ≤ 2000 := by
 obtain ⟨t0, s0, e0⟩ := from_ok hb hl
 obtain ⟨t1, a, n, ms, e1, s1, hm⟩ := canvas_draw s0
 obtain ⟨r, hr⟩ := std_get a n
 unfold f73G
 rw [e0, Option.bind_some, e1, Option.bind_some]
 simp only
 rw [specPS_eq hr (by omega), Option.bind_some]
 have hlen := resPS_len hr (ms := ms)
 have other : ∀ {t : Int × Int}, Src c t → ∃ a' n' q, ((f195G KK (c, t)).bind fun y5 => some (a, n, y5.2)) = some (a', n', q) ∧ q.2.2.length ≤ 2000 := fun {t} h => by
  obtain ⟨t', p, e, _, hp⟩ := dpat_ok h
  rw [e]
  exact ⟨a, n, p, rfl, by omega⟩
 cases hc : (resPS r ms).2 != 0
 ·simp only [Bool.not_false, Bool.not_true, Bool.or_true, Bool.false_or, cond_true, cond_false]
  obtain ⟨t2, r2, e2, s2, _⟩ := next_ok s1 8
  rw [e2, Option.bind_some]
  simp only
  cases r2 == 0
  ·rw [cond_false]
   obtain ⟨t3, r3, e3, s3, _⟩ := next_ok s2 5
   rw [e3, Option.bind_some]
   simp only
   cases r3 == 0
   ·exact ⟨a, n, _, rfl, by omega⟩
   ·rw [cond_true]
    have hpos : 1 ≤ (resPS r ms).1.2.2.length := by
     have h0 : (resPS r ms).2 = 0 := by simpa using hc
     unfold resPS at h0 ⊢
     cases hrc : r.2.2.2 != 0
     ·have hr0 : r.2.2.2 = 0 := by simpa using hrc
      rw [hrc, cond_false] at h0
      rw [cond_false]
      cases hs : strB r.2.1 ms
      ·rw [hs, cond_false] at h0; exact absurd h0 (by decide)
      ·rw [cond_true]
       simp only
       rw [paintG_len]
       have hO := hr.orb hr0
       exact List.length_pos_of_mem (cellB_mem hO.la (cellB_iff (l := r.2.1) (v := (0, 0)) |>.2 (by have := hO.la.a1; have := hO.la.c1; show (0 ≤ (0 : Int) ∧ (0 : Int) ≤ r.2.1.1 - 1) ∧ (0 ≤ (0 : Int) ∧ (0 : Int) ≤ r.2.1.2.2 - 1); omega)))
     ·rw [hrc, cond_true] at h0
      have h0 : r.2.2.2 = 0 := h0
      rw [h0] at hrc
      exact absurd hrc (by decide)
    obtain ⟨t4, r4, e4, s4, a4, b4⟩ := next_pos s3 (n := ((resPS r ms).1.2.2.length : Int)) (by omega)
    obtain ⟨j, rfl⟩ : ∃ j : Nat, r4 = (j : Int) := ⟨r4.toNat, by omega⟩
    rw [e4, Option.bind_some]
    simp only
    obtain ⟨t5, r5, e5, s5, _⟩ := pick_ok s4 (l := [(0 : Int), 5, -1]) (by simp)
    rw [e5, Option.bind_some, in0, in1 (show j < (resPS r ms).1.2.2.length by omega)]
    exact ⟨a, n, _, rfl, by simp only; rw [List.length_set]; omega⟩
  ·rw [cond_true]
   exact other s2
 ·simp only [Bool.not_false, Bool.not_true, Bool.or_true, Bool.false_or, cond_true, cond_false, Option.bind_some]
  exact other s1
theorem dss_ok {c : List Int} (hb : ∀ i (h : i < c.length), 0 ≤ c[i] ∧ c[i] ≤ 255) (hl : c.length ≤ 4096) : ∃ a n x y, f74G KK c = some (a, n, x, y) ∧ x.length ≤ 2000 ∧ y.length ≤ 2000 := by
 obtain ⟨t0, s0, e0⟩ := from_ok hb hl
 obtain ⟨t1, a, n, ms, e1, s1, hm⟩ := canvas_draw s0
 obtain ⟨r, hr⟩ := std_get a n
 unfold f74G
 rw [e0, Option.bind_some, e1, Option.bind_some]
 simp only
 rw [specNS_eq hr (by omega), Option.bind_some]
 have hlen := resNS_len hr (ms := ms)
 have other : ∀ {t : Int × Int}, Src c t → ∃ a' n' x y, ((f197G KK (c, t) ((2 : Int), (0 : Int), (2 : Int))).bind fun y5 => some (a, n, ms, y5.2)) = some (a', n', x, y) ∧ x.length ≤ 2000 ∧ y.length ≤ 2000 := fun {t} h => by
  obtain ⟨t', p, e, _, hp⟩ := strokes_draw h (2, 0, 2)
  rw [e]
  exact ⟨a, n, ms, p, rfl, by omega, by omega⟩
 cases hc : (resNS r ms).2 != 0
 ·simp only [Bool.not_false, Bool.not_true, Bool.or_true, Bool.false_or, cond_true, cond_false]
  obtain ⟨t2, r2, e2, s2, _⟩ := next_ok s1 3
  rw [e2, Option.bind_some]
  simp only
  cases r2 == 0
  ·exact ⟨a, n, ms, _, rfl, by omega, by omega⟩
  ·rw [cond_true]
   exact other s2
 ·simp only [Bool.not_false, Bool.not_true, Bool.or_true, Bool.false_or, cond_true, cond_false, Option.bind_some]
  exact other s1
theorem FnStrokes_pure (a0 : List Int) (h : WfA [(.list 5 (.int .u8))] (a0, ())) : ∃ K, f11G K a0 = some true := by
 refine ⟨KK, ?_⟩
 have hw : Wf (.list 5 (.int .u8)) a0 := h.1
 unfold f11G
 rw [big_eq, Option.bind_some]
 by_cases hb : (a0.length : Int) > 4096
 ·rw [decide_eq_true hb]; rfl
 ·rw [decide_eq_false hb, cond_false]
  obtain ⟨a, n, ms, eN, hms⟩ := dns_ok (code_ok hw) (by omega)
  obtain ⟨b, m, q, eS, hq⟩ := dsf_ok (code_ok hw) (by omega)
  obtain ⟨d, k, x, y, eX, hx, hy⟩ := dss_ok (code_ok hw) (by omega)
  obtain ⟨r, hr⟩ := std_get a n
  obtain ⟨s, hs⟩ := std_get b m
  obtain ⟨u, hu⟩ := std_get d k
  rw [eN, Option.bind_some]
  simp only
  rw [implNS_eq hr, Option.bind_some, specNS_eq hr (by omega), Option.bind_some, implPS_eq hr, Option.bind_some, specPS_eq hr (by omega), Option.bind_some, eS, Option.bind_some]
  simp only
  rw [implSF_eq hs, Option.bind_some, specSF_eq hs, Option.bind_some, eX, Option.bind_some]
  simp only
  rw [implSS_eq hu, Option.bind_some, implSS_eq hu, Option.bind_some, specSS_eq hu (by omega) (by omega), Option.bind_some, ss_symm]
  have r1 := resNS_len hr (ms := ms)
  have r2 := resPS_len hr (ms := ms)
  have r3 := resSF_len hs (p := q)
  simp only [bne_self_eq_false, Bool.not_false, Bool.not_true, Bool.or_true, cond_true, cond_false]
  rw [likeStrokes_eq (by omega), Option.bind_some]
  simp only [bne_self_eq_false, Bool.not_false, Bool.not_true, Bool.or_true, cond_true, cond_false]
  rw [likePatterns_eq (by omega), Option.bind_some]
  simp only [bne_self_eq_false, Bool.not_false, Bool.not_true, Bool.or_true, cond_true, cond_false]
  rw [likeStrokes_eq (by omega), Option.bind_some]
  simp only [bne_self_eq_false, Bool.not_false, Bool.not_true, Bool.or_true, cond_true, cond_false]
  rw [areStr_eq hr, Option.bind_some]
  simp only [bne_self_eq_false, Bool.not_false, Bool.not_true, Bool.or_true, cond_true, cond_false]
  have fin : (bif (resNS r ms).2 != 0 then some true else (f21G KK a n (resNS r ms).1).bind fun y20 => (bif ((!(y20.2 == (0 : Int))) || true) then (bif ((!(y20.2 == (0 : Int))) || true) then ((bif (y20.2 == (0 : Int)) then f66G KK y20.1 (resPS r ms).1 else some false)).bind fun y21 => some (bif (y20.2 == (0 : Int)) then y21 else false) else none) else none)) = some true := by
   cases hn : (resNS r ms).2 != 0
   ·have hn0 : (resNS r ms).2 = 0 := by simpa using hn
    obtain ⟨p1, p2⟩ := need_paint hn0
    rw [cond_false, implPS_eq hr, p1, Option.bind_some, p2]
    simp only [beq_self_eq_true, Bool.not_true, Bool.or_true, cond_true]
    rw [likePatterns_eq (by omega), Option.bind_some]
   ·rfl
  simp only [Bool.or_true, cond_true] at fin
  cases ho : (resSF s q).2 == 0
  ·rw [cond_false]
   exact fin
  ·have ho0 : (resSF s q).2 = 0 := by simpa using ho
   rw [cond_true, implPS_eq hs, for_paint hs ho0, Option.bind_some]
   simp only [bne_self_eq_false, Bool.not_false, Bool.not_true, Bool.or_true, cond_true, cond_false]
   rw [likePatterns_eq (by omega), Option.bind_some]
   simp only [bne_self_eq_false, Bool.not_false, Bool.not_true, Bool.or_true, cond_true, cond_false]
   exact fin
end Go.Proofs.YtfccacobkcglcaaGreat.X
