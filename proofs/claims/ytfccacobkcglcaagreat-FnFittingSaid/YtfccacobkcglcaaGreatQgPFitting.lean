/- The plain law of FnFitting: names and lattices that fit have no conflict, and no smaller lattice fits. -/
import Derived.Test.YtfccacobkcglcaaGreatQgNU
import Derived.Test.YtfccacobkcglcaaGreatQgPPaintOrbits
import Derived.Test.YtfccacobkcglcaaGreatQgPCompleteMarks
import Derived.Test.YtfccacobkcglcaaGreatQgPFittingNames
import Derived.Test.YtfccacobkcglcaaGreatQgPFittingLattices
namespace Go.Proofs.YtfccacobkcglcaaGreat.X
open Go
set_option linter.unusedSimpArgs false
set_option linter.unusedVariables false
theorem subS_ix {n : Nat} (hn : n ≤ 64) {x : Lt} (h : x ∈ subS n) : x.1 * x.2.2 = (n : Int) := by
 unfold subS at h
 obtain ⟨i, _, h⟩ := List.mem_flatMap.1 h
 unfold subR at h
 cases hc : ((n : Int).tmod ((i + 1 : Nat) : Int)) == 0
 ·rw [hc] at h; cases h
 ·rw [hc, cT] at h
  obtain ⟨b, hb, rfl⟩ := List.mem_map.1 h
  have e := beq_iff_eq.1 hc
  have e2 := Int.mul_tdiv_add_tmod (n : Int) ((i + 1 : Nat) : Int)
  simp only
  omega
theorem lf_strong {ms : List Ma} (hm : ∀ x ∈ ms, vecB x.1 = true) (hn : ms.length ≤ 1000) {y y' : Bool} : ∀ (k n : Nat), 1 ≤ n → 65 - n < k → (∀ i, 1 ≤ i → i < n → fitS ms i = []) →
  ∃ r : Lt × Int, f83_l4 KK ms y k (n : Int) = some r ∧ f82_l4 KK ms y' k (n : Int) = some r ∧ (r.2 = 0 → ∃ N : Nat, N ≤ 64 ∧ r.1.1 * r.1.2.2 = (N : Int) ∧ ∀ i, 1 ≤ i → i < N → fitS ms i = [])
 | 0, n, _, h, _ => by omega
 | k + 1, n, h1, h, hd => by
  have es : f83_l4 KK ms y (k + 1) (n : Int) = f83_b4 KK ms y (fun v0 => f83_l4 KK ms y k v0) (n : Int) := rfl
  have ei : f82_l4 KK ms y' (k + 1) (n : Int) = f82_b4 KK ms y' (fun v0 => f82_l4 KK ms y' k v0) (n : Int) := rfl
  rw [es, ei]
  unfold f83_b4 f82_b4
  by_cases h64 : n ≤ 64
  ·rw [dT (show (n : Int) ≤ 64 by omega), cT, cT, l19Lattices_eq hm hn h1 h64, fittingLattices_eq hm hn h1 h64, oB, oB]
   cases hf : fitS ms n with
   | nil =>
    have e : decide (((([] : List Lt).length : Nat) : Int) > 0) = false := by decide
    rw [e, cF, cF, w_succ (by omega)]
    refine lf_strong hm hn k (n + 1) (by omega) (by omega) fun i h2 h3 => ?_
    by_cases hi : i = n
    ·rw [hi]; exact hf
    ·exact hd i h2 (by omega)
   | cons x t =>
    have e : decide ((((x :: t : List Lt).length : Nat) : Int) > 0) = true := by simp
    rw [e]
    have hx : x ∈ subS n := by
     have : x ∈ fitS ms n := by rw [hf]; simp
     unfold fitS at this
     exact (List.mem_filter.1 this).1
    exact ⟨(x, 0), rfl, rfl, fun _ => ⟨n, h64, subS_ix h64 hx, hd⟩⟩
  ·rw [dF (show ¬ (n : Int) ≤ 64 by omega)]
   exact ⟨((0, 0, 0), 4), rfl, rfl, fun h => absurd h (by decide)⟩
theorem least_strong {ms : List Ma} (h : ms.length ≤ 1048576) : ∃ r : Lt × Int, f83G KK ms = some r ∧ f82G KK ms = some r ∧ (r.2 = 0 → marksB ms = true ∧ ∃ N : Nat, N ≤ 64 ∧ r.1.1 * r.1.2.2 = (N : Int) ∧ ∀ i, 1 ≤ i → i < N → fitS ms i = []) := by
 unfold f83G f82G f83_g f82_g
 rw [specAreMarks_eq h, areMarks_eq, oB, oB]
 cases hb : marksB ms
 ·exact ⟨((0, 0, 0), 2), rfl, rfl, fun h => absurd h (by decide)⟩
 ·obtain ⟨hv, hl⟩ := marks_of hb
  obtain ⟨r, e1, e2, e3⟩ := lf_strong hv (by omega) (y := true) (y' := true) KK 1 (by omega) (by simp only [KK]; omega) (fun i h1 h2 => by omega)
  exact ⟨r, e1, e2, fun h0 => ⟨rfl, e3 h0⟩⟩
theorem fits_complete {n : Int} {ms : List Ma} (h1 : 1 ≤ n) (h2 : n ≤ 4) (hb : marksB ms = true) {a : ByteArray} (ha : a ∈ fnS n ms) : f86G KK a n = some (sgS a n) ∧ (sgS a n).2.2.2 = 0 ∧ (resCM (sgS a n).1 (sgS a n).2.1 (sgS a n).2.2.1 ms 0).2 = 0 := by
 unfold fnS at ha
 obtain ⟨h3, h4⟩ := List.mem_filter.1 ha
 obtain ⟨_, e2, e3, _⟩ := name_ok h3 h1 h2
 refine ⟨e2, e3, ?_⟩
 obtain ⟨r, q1, q2, q3⟩ := std_main a n
 rw [e2, Option.some.injEq] at q2
 subst q2
 have hc : codeC (sgS a n).1 (sgS a n).2.1 (sgS a n).2.2.1 true = 0 := by
  rcases q3 with ⟨_, h, _⟩ | ⟨h, _⟩
  ·exact h
  ·exact absurd e3 h
 unfold openB at h4
 rw [Bool.not_eq_true'] at h4
 unfold resCM
 rw [hb, hc, h4]
 rfl
theorem dfn_loop {c : List Int} {y2 : (Int × Int) × Int} {r : Sgr} {y5 : (Int × Int) × Int} (hO : OrbG r.1 r.2.1 r.2.2.1) : ∀ (n k : Nat) (t : Int × Int) (cs : List Int), Src c t → cs.length + k = (orbsS r.2.1 r.2.2.1).length → k < n →
  ∃ m q, f77_l11 KK c y2 r y5 n (k : Int) t.1 t.2 cs = some (m, q) ∧ q.length ≤ 200
 | 0, k, _, _, _, _, h => by omega
 | n + 1, k, t, cs, h, hk, hn => by
  have hOl := orbs_len hO.la r.2.2.1
  show ∃ m q, f77_b11 KK c y2 r y5 (fun v0 v1 v2 v3 => f77_l11 KK c y2 r y5 n v0 v1 v2 v3) (k : Int) t.1 t.2 cs = some (m, q) ∧ q.length ≤ 200
  unfold f77_b11
  have et : ((t.1, t.2) : Int × Int) = t := rfl
  simp only
  cases k with
  | zero =>
   rw [dF (show ¬ ((0 : Nat) : Int) > 0 by omega), cF, spaint_eq hO (by omega), oB]
   obtain ⟨t1, q, e1, h1, hq⟩ := marksOf_draw h (r.1, r.2.1, paintS r.2.1 r.2.2.1 cs)
   rw [et, e1]
   exact ⟨_, q, rfl, hq⟩
  | succ k =>
   rw [dT (show ((k + 1 : Nat) : Int) > 0 by omega), cT]
   obtain ⟨t1, r1, e1, h1, _⟩ := next_ok h 3
   rw [et, e1, oB, blim8 (by simp; omega), cT, w_id (n := ((k + 1 : Nat) : Int) - 1) (by omega) (by omega)]
   have ek : ((k + 1 : Nat) : Int) - 1 = (k : Int) := by omega
   rw [ek]
   exact dfn_loop hO n k t1 (cs ++ [r1]) h1 (by simp; omega) (by omega)
theorem dfn_ok {c : List Int} (hb : ∀ i (h : i < c.length), 0 ≤ c[i] ∧ c[i] ≤ 255) (hl : c.length ≤ 4096) : ∃ m q, f77G KK c = some (m, q) ∧ q.length ≤ 200 := by
 obtain ⟨t0, s0, e0⟩ := from_ok hb hl
 obtain ⟨t1, r1, e1, s1, _⟩ := next_ok s0 2
 obtain ⟨t2, a, e2, s2⟩ := name_draw s1
 obtain ⟨r, q1, q2, q3⟩ := std_main a (w ((1 : Int) + r1))
 unfold f77G f77_g
 rw [e0, oB, e1, oB]
 simp only
 rw [e2, oB]
 simp only
 rw [q1, oB]
 have other : ∀ {t : Int × Int}, Src c t → ∃ m q, ((f196G KK (c, t) [(1 : Int), (2 : Int), (0 : Int), (5 : Int)]).bind fun y6 => (f199G KK (c, y6.1)).bind fun y7 => some (y6.2, y7.2)) = some (m, q) ∧ q.length ≤ 200 := fun {t} h => by
  obtain ⟨t', x, e, h', _⟩ := pick_ok h (l := [(1 : Int), 2, 0, 5]) (by simp)
  rw [e, oB]
  simp only
  obtain ⟨t'', q, e', _, hq⟩ := marks_draw h'
  rw [e']
  exact ⟨x, q, rfl, hq⟩
 cases hc : r.2.2.2 != 0
 ·have h0 : r.2.2.2 = 0 := by simpa using hc
  have hO : OrbG r.1 r.2.1 r.2.2.1 := by
   rcases q3 with ⟨_, h, _⟩ | ⟨h, _⟩
   ·exact (codeC_0 h).1
   ·exact absurd h0 h
  simp only [Bool.not_false, nT, oT, cT, cF]
  obtain ⟨t3, r3, e3, s3, _⟩ := next_ok s2 3
  rw [e3, oB]
  simp only
  cases r3 == 0
  ·rw [cF, l07Orbits_eq hO, oB]
   exact dfn_loop hO KK (orbsS r.2.1 r.2.2.1).length t3 [] s3 (by simp) (by have := orbs_len hO.la r.2.2.1; simp only [KK]; omega)
  ·rw [cT]
   exact other s3
 ·simp only [Bool.not_false, nT, oT, cT, cF, oB]
  exact other s2
theorem dfl_ok {c : List Int} (hb : ∀ i (h : i < c.length), 0 ≤ c[i] ∧ c[i] ≤ 255) (hl : c.length ≤ 4096) : ∃ q n, f78G KK c = some (q, n) ∧ q.length ≤ 200 := by
 obtain ⟨t0, s0, e0⟩ := from_ok hb hl
 obtain ⟨t1, r1, e1, s1, _⟩ := next_ok s0 12
 unfold f78G
 rw [e0, oB, e1, oB]
 simp only
 cases r1 == 0
 ·rw [cF]
  obtain ⟨t2, p, e2, s2, _⟩ := dpat_ok s1
  rw [e2, oB]
  simp only
  obtain ⟨t3, q, e3, s3, hq⟩ := marksOf_draw s2 p
  rw [e3, oB]
  simp only
  obtain ⟨t4, r4, e4, s4, _⟩ := next_ok s3 12
  rw [e4]
  exact ⟨q, _, rfl, hq⟩
 ·rw [cT]
  obtain ⟨t2, q, e2, s2, hq⟩ := marks_draw s1
  rw [e2, oB]
  simp only
  obtain ⟨t3, x, e3, s3, _⟩ := pick_ok s2 (l := [(0 : Int), 1, 64, 65]) (by simp)
  rw [e3]
  exact ⟨q, x, rfl, hq⟩
theorem dlf_ok {c : List Int} (hb : ∀ i (h : i < c.length), 0 ≤ c[i] ∧ c[i] ≤ 255) (hl : c.length ≤ 4096) : ∃ q, f81G KK c = some q ∧ q.length ≤ 200 := by
 obtain ⟨t0, s0, e0⟩ := from_ok hb hl
 obtain ⟨t1, r1, e1, s1, _⟩ := next_ok s0 20
 unfold f81G
 rw [e0, oB, e1, oB]
 simp only
 cases r1 == 0
 ·rw [cF]
  obtain ⟨t2, p, e2, s2, _⟩ := dpat_ok s1
  rw [e2, oB]
  simp only
  obtain ⟨t3, q, e3, s3, hq⟩ := marksOf_draw s2 p
  rw [e3]
  exact ⟨q, rfl, hq⟩
 ·exact ⟨_, rfl, by simp⟩
theorem ff_names {c : List Int} {q16 : Int} {y1 : Bool} {n : Int} {ms : List Ma} {y5 : List Ma × Int} {y6 y7 : List Lt × Int} {y8 : List Ma} {y9 y10 : Lt × Int} {y11 y12 : Bool} {y4 : List ByteArray × Int} (h0 : (resFN n ms).2 = 0) :
  f12_l21 KK c q16 y1 (n, ms) (resFN n ms) y4 y5 y6 y7 y8 y9 y10 y11 y12 KK 0 = some true := by
 have hl := resFN_len (n := n) (ms := ms)
 have hh := iter_all (R := Bool) (body := fun L x => f12_b21 KK c q16 y1 (n, ms) (resFN n ms) y4 y5 y6 y7 y8 y9 y10 y11 y12 (fun v0 => L v0) x) (resFN n ms).1 (fun q => (q : Int)) (fun _ => true) (some false) (some true)
  (fun L q hq => by
   have hin : 1 ≤ n ∧ n ≤ 4 ∧ marksB ms = true ∧ (resFN n ms).1 = fnS n ms := by
    unfold resFN at h0 ⊢
    cases hx : decide (1 ≤ n ∧ n ≤ 4) && marksB ms
    ·rw [hx, cF] at h0; exact absurd h0 (by decide)
    ·rw [aT, decide_eq_true_eq] at hx
     exact ⟨hx.1.1, hx.1.2, hx.2, rfl⟩
   obtain ⟨e1, e2, e3⟩ := fits_complete hin.1 hin.2.1 hin.2.2.1 (a := (resFN n ms).1[q]) (by rw [← hin.2.2.2]; exact gM hq)
   obtain ⟨hv, hml⟩ := marks_of hin.2.2.1
   have hcm := resCM_len (f := (sgS (resFN n ms).1[q] n).1) (l := (sgS (resFN n ms).1[q] n).2.1) (g := (sgS (resFN n ms).1[q] n).2.2.1) (ms := ms) (rest := 0)
   obtain ⟨r, q1, q2, q3⟩ := std_main (resFN n ms).1[q] n
   have er : sgS (resFN n ms).1[q] n = r := by rw [e1, Option.some.injEq] at q2; exact q2
   have hO : OrbG (sgS (resFN n ms).1[q] n).1 (sgS (resFN n ms).1[q] n).2.1 (sgS (resFN n ms).1[q] n).2.2.1 := by
    rcases q3 with ⟨_, h, _⟩ | ⟨h, _⟩
    ·rw [er]; exact (codeC_0 h).1
    ·rw [er] at e2; exact absurd e2 h
   have hgl := hO.len
   unfold f12_b21
   rw [in1 hq, in0, gd hq, w_succ (by omega)]
   simp only [aS, cT]
   rw [e1, oB, implCM_eq _ _ (by omega), oB, e2, e3]
   rfl)
  (fun L => by
   unfold f12_b21
   rw [out1, cF]) KK 0 (by omega) (by simp only [KK]; omega)
 unfold f12_l21
 refine hh.trans ?_
 rw [List.drop_zero, show ((resFN n ms).1.all fun _ => true) = true from List.all_eq_true.mpr (by simp)]
 rfl
theorem ff_least {c : List Int} {y1 : Bool} {n : Int} {ms : List Ma} {y5 : List Ma × Int} {y6 y7 : List Lt × Int} {few : List Ma} {r y10 : Lt × Int} {y11 y12 : Bool} {y4 : List ByteArray × Int}
  (hr : r.2 = 0 → marksB few = true ∧ ∃ N : Nat, N ≤ 64 ∧ r.1.1 * r.1.2.2 = (N : Int) ∧ ∀ i, 1 ≤ i → i < N → fitS few i = []) : ∀ (k j : Nat), 1 ≤ j → 64 - j < k →
  f12_l15 KK c y1 (n, ms) (resFN n ms) y4 y5 y6 y7 few r y10 y11 y12 k (j : Int) = some true
 | 0, j, _, h => by omega
 | k + 1, j, hj, hk => by
  show f12_b15 KK c y1 (n, ms) (resFN n ms) y4 y5 y6 y7 few r y10 y11 y12 (fun c0 c1 c2 c3 c4 c5 c6 c7 c8 c9 c10 c11 c12 d0 => f12_l21 KK c c0 c1 c2 c3 c4 c5 c6 c7 c8 c9 c10 c11 c12 KK d0) (fun v0 => f12_l15 KK c y1 (n, ms) (resFN n ms) y4 y5 y6 y7 few r y10 y11 y12 k v0) (j : Int) = _
  unfold f12_b15
  have last : (bif (resFN n ms).2 != 0 then some true else f12_l21 KK c (j : Int) y1 (n, ms) (resFN n ms) y4 y5 y6 y7 few r y10 y11 y12 KK 0) = some true := by
   cases hc : (resFN n ms).2 != 0
   ·have h0 : (resFN n ms).2 = 0 := by simpa using hc
    rw [cF]
    exact ff_names h0
   ·rfl
  cases hc : r.2 == 0
  ·simp only [Bool.not_false, Bool.true_or, cT, cF]
   exact last
  ·have h0 : r.2 = 0 := by simpa using hc
   obtain ⟨hb, N, hN, hix, hall⟩ := hr h0
   obtain ⟨hv, hml⟩ := marks_of hb
   simp only [oT, cT]
   rw [hix, w_id (by omega) (by omega)]
   by_cases hlt : j < N
   ·rw [dT (show (j : Int) < (N : Int) by omega), cT, implFL_eq, oB]
    have e : resFL few (j : Int) = ([], 0) := by
     unfold resFL
     rw [hb, dT (show 1 ≤ (j : Int) ∧ (j : Int) ≤ 64 by omega)]
     have ej : (j : Int).toNat = j := by omega
     rw [ej, hall j hj hlt]
     rfl
    rw [e, w_succ (by omega)]
    exact ff_least hr k (j + 1) (by omega) (by omega)
   ·rw [dF (show ¬ (j : Int) < (N : Int) by omega), cF]
    exact last
theorem FnFitting_pure (a0 : List Int) (h : WfA [(.list 5 (.int .u8))] (a0, ())) : ∃ K, f12G K a0 = some true := by
 refine ⟨KK, ?_⟩
 have hw : Wf (.list 5 (.int .u8)) a0 := h.1
 unfold f12G f12_g
 rw [big_eq, oB]
 by_cases hb : (a0.length : Int) > 4096
 ·rw [dT hb]; rfl
 ·rw [dF hb, cF]
  obtain ⟨n, ms, eN, hms⟩ := dfn_ok (code_ok hw) (by omega)
  obtain ⟨some1, ix, eL, hsome⟩ := dfl_ok (code_ok hw) (by omega)
  obtain ⟨few, eF, hfew⟩ := dlf_ok (code_ok hw) (by omega)
  obtain ⟨r, l1, l2, l3⟩ := least_strong (ms := few) (by omega)
  rw [eN, oB]
  simp only
  rw [implFN_eq, oB, specFN_eq n (by omega), oB, eL, oB]
  simp only
  rw [implFL_eq, oB, specFL_eq (by omega), oB, eF, oB, l2, oB, l1, oB]
  have r1 := resFN_len (n := n) (ms := ms)
  have r2 := resFL_len (ms := some1) (n := ix)
  simp only [bne_self_eq_false, Bool.not_false, nT, oT, cT, cF]
  rw [likeTexts_eq (by omega), oB]
  simp only [bne_self_eq_false, Bool.not_false, nT, oT, cT, cF]
  rw [likeLattices_eq (by omega), oB]
  simp only [bne_self_eq_false, Bool.not_false, nT, oT, cT, cF, beq_self_eq_true, aS]
  exact ff_least l3 KK 1 (by omega) (by simp only [KK]; omega)
end Go.Proofs.YtfccacobkcglcaaGreat.X
