/- The plain law of CompleteMarks: both sides give each cell the colour of the last mark in its orbit. -/
import Derived.Test.YtmnciknpeefkfaaGreatQgMS
import Derived.Test.YtmnciknpeefkfaaGreatQgPTwoColourPattern
namespace Go.Proofs.YtmnciknpeefkfaaGreat.X
open Go
set_option linter.unusedVariables false
/-- a cell's colour: that of the last mark in its orbit -/
def lastS (l : Lt) (ns : List Int) (ms : List Ma) (rest k : Int) : Int := ms.foldl (fun c x => bif nmS l ns x == k then x.2 else c) rest
def compS (l : Lt) (g : List Mo) (ms : List Ma) (rest : Int) : List Int := (numsF l g).map (lastS l (numsF l g) ms rest)
theorem scomp_in {f : Int} {l : Lt} {g : List Mo} (h : OrbG f l g) {ms : List Ma} (hm : ∀ x ∈ ms, vecB x.1 = true) (hn : ms.length ≤ 1000) {rest y1 : Int} {y2 : Bool} {y20 : Int × Int × Bool} {k : Nat} (hk : k < (numsF l g).length) {s : List Int} (hs : s.length ≤ 1000) {L : Int → List Int → Option (Pt × Int)} :
    f56_l24 KK f l g ms rest (k : Int) s y1 y2 (numsF l g) y20 L KK rest 0 = L ((k + 1 : Nat) : Int) (s ++ [lastS l (numsF l g) ms rest (numsF l g)[k]]) := by
  have hN := cellsS_le h.la
  have hL := numsF_len' l g
  have hh := iter_fold (R := Pt × Int) (body := fun L' x => f56_b24 KK f l g ms rest (k : Int) s y1 y2 (numsF l g) y20 L (fun v0 v1 => L' (v0, v1)) x.1 x.2) ms (fun q c => (c, (q : Int))) (fun c x => bif nmS l (numsF l g) x == (numsF l g)[k] then x.2 else c) (fun c => L ((k + 1 : Nat) : Int) (s ++ [c])) (fun _ _ => True)
    (fun L' q c hq _ => by
      refine ⟨trivial, ?_⟩
      show f56_b24 KK f l g ms rest (k : Int) s y1 y2 (numsF l g) y20 L (fun v0 v1 => L' (v0, v1)) c (q : Int) = _
      unfold f56_b24
      have n1 : numS l ms[q].1 < (numsF l g).length := by rw [hL]; exact numS_lt h.la _
      rw [in1 hq, in0, gd hq, l03Number_gen h.la (vec_Sm (hm _ (List.getElem_mem hq)))]
      simp only [Bool.and_self, cond_true, Option.bind_some]
      rw [in0, in1 n1, in0, in1 hk, getZ, gd hk, w_succ (by omega)]
      simp only [Bool.and_self, cond_true]
      unfold nmS
      cases (numsF l g).getD (numS l ms[q].1) 0 == (numsF l g)[k] <;> rfl)
    (fun L' c _ => by
      show f56_b24 KK f l g ms rest (k : Int) s y1 y2 (numsF l g) y20 L (fun v0 v1 => L' (v0, v1)) c (ms.length : Int) = _
      unfold f56_b24
      rw [out1, cond_false, blim8 (by simp; omega), cond_true, w_succ (by omega)]) KK 0 rest (by omega) (by simp only [KK]; omega) trivial
  rw [List.drop_zero] at hh
  exact hh
theorem scomp_loop {f : Int} {l : Lt} {g : List Mo} (h : OrbG f l g) {ms : List Ma} (hm : ∀ x ∈ ms, vecB x.1 = true) (hn : ms.length ≤ 1000) {rest y1 : Int} {y2 : Bool} {y20 : Int × Int × Bool} : f56_l21 KK f l g ms rest y1 y2 (numsF l g) y20 KK 0 [] = some ((f, l, compS l g ms rest), 0) := by
  have hN := cellsS_le h.la
  have hL := numsF_len' l g
  have hh := iter_fold (R := Pt × Int) (body := fun L x => f56_b21 KK f l g ms rest y1 y2 (numsF l g) y20 (fun c0 c1 d0 d1 => f56_l24 KK f l g ms rest c0 c1 y1 y2 (numsF l g) y20 (fun v0 v1 => L (v0, v1)) KK d0 d1) (fun v0 v1 => L (v0, v1)) x.1 x.2) (numsF l g) (fun q s => ((q : Int), s)) (fun s k => s ++ [lastS l (numsF l g) ms rest k]) (fun s => some ((f, l, s), 0)) (fun q s => s.length = q)
    (fun L q s hq hi => by
      refine ⟨by simp [hi], ?_⟩
      show f56_b21 KK f l g ms rest y1 y2 (numsF l g) y20 _ (fun v0 v1 => L (v0, v1)) (q : Int) s = _
      unfold f56_b21
      rw [in1 hq, cond_true]
      exact scomp_in h hm hn hq (by omega))
    (fun L s hi => by
      show f56_b21 KK f l g ms rest y1 y2 (numsF l g) y20 _ (fun v0 v1 => L (v0, v1)) ((numsF l g).length : Int) s = _
      unfold f56_b21
      rw [out1, cond_false]) KK 0 [] (by omega) (by simp only [KK]; omega) rfl
  rw [List.drop_zero, foldl_push, List.nil_append] at hh
  exact hh
def icompS (l : Lt) (g : List Mo) (ms : List Ma) (s : List Int) : List Int := ms.foldl (fun s x => setAll l x.2 (orbS l g (redS l x.1)) s) s
theorem icomp_in {f : Int} {l : Lt} {g : List Mo} {ms : List Ma} {rest : Int} {q : Nat} (hq : q < ms.length) (hqn : q ≤ 1000) {y1 : Int} {y2 : Bool} {y3 : Int × Int × Bool} {y5 : Pt} {o : List Vc} (hl : IsL l) (ho : ∀ u ∈ o, cellB l u = true) (hn : o.length ≤ 1000) {L : Int → List Int → Option (Pt × Int)} {t : List Int} (ht : t.length = (cellsS l).length) :
    f57_l20 KK f l g ms rest (q : Int) y1 y2 y3 y5 o L KK 0 t = L ((q + 1 : Nat) : Int) (setAll l ms[q].2 o t) := by
  have hh := iter_fold (R := Pt × Int) (body := fun L' x => f57_b20 KK f l g ms rest (q : Int) y1 y2 y3 y5 o L (fun v0 v1 => L' (v0, v1)) x.1 x.2) o (fun q s => ((q : Int), s)) (fun s u => s.set (numS l u) ms[q].2) (fun t => L ((q + 1 : Nat) : Int) t) (fun q s => s.length = (cellsS l).length)
    (fun L' i t hi hit => by
      refine ⟨by rw [List.length_set]; exact hit, ?_⟩
      show f57_b20 KK f l g ms rest (q : Int) y1 y2 y3 y5 o L (fun v0 v1 => L' (v0, v1)) (i : Int) t = _
      unfold f57_b20
      have hlt := numS_lt hl o[i]
      rw [in1 hi, in0, gd hi, gd hq]
      simp only [Bool.and_self, cond_true]
      rw [number_eq hl (ho _ (List.getElem_mem hi)), Option.bind_some, in0, in1 (show numS l o[i] < t.length by omega), w_succ (by omega)]
      have e1 : ((0 : Int) + ((numS l o[i] : Nat) : Int)).toNat = numS l o[i] := by omega
      simp only [Bool.and_self, cond_true, e1])
    (fun L' t hit => by
      show f57_b20 KK f l g ms rest (q : Int) y1 y2 y3 y5 o L (fun v0 v1 => L' (v0, v1)) (o.length : Int) t = _
      unfold f57_b20
      rw [out1, cond_false, w_succ (by omega)]) KK 0 t (by omega) (by simp only [KK]; omega) ht
  rw [List.drop_zero] at hh
  exact hh
theorem icomp_loop {f : Int} {l : Lt} {g : List Mo} (h : OrbG f l g) {ms : List Ma} (hm : ∀ x ∈ ms, vecB x.1 = true) (hn : ms.length ≤ 1000) {rest y1 : Int} {y2 : Bool} {y3 : Int × Int × Bool} {y5 : List Int} {t : List Int} (ht : t.length = (cellsS l).length) : f57_l15 KK f l g ms rest y1 y2 y3 (f, l, y5) KK 0 t = some ((f, l, icompS l g ms t), 0) := by
  have hgl := h.len
  have hh := iter_fold (R := Pt × Int) (body := fun L x => f57_b15 KK f l g ms rest y1 y2 y3 (f, l, y5) (fun c0 c1 d0 d1 => f57_l20 KK f l g ms rest c0 y1 y2 y3 (f, l, y5) c1 (fun v0 v1 => L (v0, v1)) KK d0 d1) (fun v0 v1 => L (v0, v1)) x.1 x.2) ms (fun q s => ((q : Int), s)) (fun s x => setAll l x.2 (orbS l g (redS l x.1)) s) (fun s => some ((f, l, s), 0)) (fun q s => s.length = (cellsS l).length)
    (fun L q t hq hi => by
      refine ⟨by rw [setAll_len]; exact hi, ?_⟩
      show f57_b15 KK f l g ms rest y1 y2 y3 (f, l, y5) _ (fun v0 v1 => L (v0, v1)) (q : Int) t = _
      unfold f57_b15
      have hc := redS_isCell h.la ms[q].1
      rw [in1 hq, in0, gd hq, reduce_eq h.la (vec_Sm (hm _ (List.getElem_mem hq)))]
      simp only [Bool.and_self, cond_true, Option.bind_some]
      rw [orbitOf_eq h.la (by omega) h.good (cellB_Sv h.la hc), Option.bind_some]
      exact icomp_in hq (by omega) h.la (fun u hu => orb_cell h hu) (by have := orbS_len l g (redS l ms[q].1); omega) hi)
    (fun L t hi => by
      show f57_b15 KK f l g ms rest y1 y2 y3 (f, l, y5) _ (fun v0 v1 => L (v0, v1)) (ms.length : Int) t = _
      unfold f57_b15
      rw [out1, cond_false]) KK 0 t (by omega) (by simp only [KK]; omega) ht
  rw [List.drop_zero] at hh
  exact hh
theorem icomp_get {f : Int} {l : Lt} {g : List Mo} (h : OrbG f l g) {u : Vc} (hu : cellB l u = true) : ∀ (ms : List Ma) (s : List Int) (c : Int), s.length = (cellsS l).length → s[numS l u]? = some c → (icompS l g ms s)[numS l u]? = some (lastS l (numsF l g) ms c (ixS l g u))
  | [], s, c, _, hc => hc
  | x :: ms, s, c, hs, hc => by
    show (icompS l g ms (setAll l x.2 (orbS l g (redS l x.1)) s))[numS l u]? = some (lastS l (numsF l g) ms (bif nmS l (numsF l g) x == ixS l g u then x.2 else c) (ixS l g u))
    refine icomp_get h hu ms _ _ (by rw [setAll_len]; exact hs) ?_
    rw [setAll_get h.la _ hu _ _ (fun y hy => orb_cell h hy) (by rw [hs]; exact numS_lt h.la u), nm_ix h.la, ix_same h hu (redS_isCell h.la _), hc]
    by_cases hm : u ∈ orbS l g (redS l x.1)
    · rw [if_pos hm, List.contains_iff_mem.2 hm]; rfl
    · rw [if_neg hm]
      have : (orbS l g (redS l x.1)).contains u = false := by
        cases hx : (orbS l g (redS l x.1)).contains u
        · rfl
        · exact absurd (List.contains_iff_mem.1 hx) hm
      rw [this]; rfl
theorem icompS_len (l : Lt) (g : List Mo) : ∀ (ms : List Ma) (s : List Int), (icompS l g ms s).length = s.length
  | [], _ => rfl
  | x :: ms, s => by
    show (icompS l g ms (setAll l x.2 (orbS l g (redS l x.1)) s)).length = _
    rw [icompS_len l g ms, setAll_len]
theorem setCells {l : Lt} (hl : IsL l) (c : Int) : setAll l c (cellsS l) (List.replicate (cellsS l).length 0) = List.replicate (cellsS l).length c := by
  apply List.ext_getElem?
  intro k
  by_cases hk : k < (cellsS l).length
  · have hc : cellB l (cellsS l)[k] = true := cellsS_cell (List.getElem_mem hk)
    have e := cellsS_num hl hk
    have := setAll_get hl c hc (cellsS l) (List.replicate (cellsS l).length 0) (fun x hx => cellsS_cell hx) (by simp; omega)
    rw [e, if_pos (List.getElem_mem hk)] at this
    rw [this, List.getElem?_replicate, if_pos hk]
  · rw [List.getElem?_eq_none (by rw [setAll_len]; simp; omega), List.getElem?_eq_none (by simp; omega)]
theorem comp_same {f : Int} {l : Lt} {g : List Mo} (h : OrbG f l g) (ms : List Ma) (rest : Int) : icompS l g ms (List.replicate (cellsS l).length rest) = compS l g ms rest := by
  apply List.ext_getElem?
  intro k
  by_cases hk : k < (cellsS l).length
  · have hc : cellB l (cellsS l)[k] = true := cellsS_cell (List.getElem_mem hk)
    have e := cellsS_num h.la hk
    have h1 := icomp_get h hc ms (List.replicate (cellsS l).length rest) rest (by simp) (by rw [List.getElem?_replicate, if_pos (numS_lt h.la _)])
    rw [e] at h1
    rw [h1]
    unfold compS
    have h2 := numsF_get h.la g hc
    rw [e] at h2
    rw [List.getElem?_map, h2]
    rfl
  · rw [List.getElem?_eq_none (by rw [icompS_len]; simp; omega), List.getElem?_eq_none (by unfold compS; rw [List.length_map, numsF_len']; omega)]
def resCM (f : Int) (l : Lt) (g : List Mo) (ms : List Ma) (rest : Int) : Pt × Int := bif codeC f l g (marksB ms) != 0 then (dP, codeC f l g (marksB ms)) else bif okC rest then (bif (cfO l (numsF l g) ms 0 ms).2.2 then (dP, 5) else ((f, l, compS l g ms rest), 0)) else (dP, 2)
theorem specCM_eq (f : Int) (l : Lt) {g : List Mo} (hn : g.length ≤ 1048576) {ms : List Ma} (hm : ms.length ≤ 1048576) (rest : Int) : f56G KK f l g ms rest = some (resCM f l g ms rest) := by
  unfold f56G f56_g resCM
  rw [l19Code_eq f l hn hm, Option.bind_some]
  cases h : codeC f l g (marksB ms) != 0
  · have h0 : codeC f l g (marksB ms) = 0 := by simpa using h
    obtain ⟨hG, hb⟩ := codeC_0 h0
    obtain ⟨hv, hl⟩ := marks_of hb
    have e : (codeC f l g (marksB ms) == 0) = true := by simpa using h0
    simp only [e, Bool.or_true, cond_true, cond_false]
    rw [in_eq, Option.bind_some, show decide (0 ≤ rest ∧ rest ≤ 9) = okC rest from rfl]
    cases okC rest
    · rfl
    · simp only [Bool.not_true, cond_false, cond_true]
      rw [l07Numbers_eq hG, Option.bind_some, l19Conflict_eq hG.la (numsF_len' l g) hv (by omega), Option.bind_some]
      cases (cfO l (numsF l g) ms 0 ms).2.2
      · simp only [cond_false]
        exact scomp_loop hG hv (by omega)
      · rfl
  · have e : (codeC f l g (marksB ms) == 0) = false := by simpa using h
    simp only [e, Bool.or_true, cond_true, cond_false, Option.bind_some]
    rfl
theorem implCM_eq (f : Int) (l : Lt) {g : List Mo} (hn : g.length ≤ 1048576) (ms : List Ma) (rest : Int) : f57G KK f l g ms rest = some (resCM f l g ms rest) := by
  unfold f57G f57_g resCM
  rw [marksCode_eq f l hn, Option.bind_some]
  cases h : codeC f l g (marksB ms) != 0
  · have h0 : codeC f l g (marksB ms) = 0 := by simpa using h
    obtain ⟨hG, hb⟩ := codeC_0 h0
    obtain ⟨hv, hl⟩ := marks_of hb
    have hN := cellsS_le hG.la
    simp only [cond_false]
    unfold f126G
    rw [within_eq, Option.bind_some, Option.bind_some, show decide (0 ≤ rest ∧ rest ≤ 9) = okC rest from rfl]
    cases okC rest
    · rfl
    · simp only [Bool.not_true, cond_false, cond_true]
      rw [conflictOf_eq hG hv (by omega), Option.bind_some]
      cases (cfO l (numsF l g) ms 0 ms).2.2
      · simp only [cond_false]
        rw [cells_eq hG.la, Option.bind_some, marked_gen hG.la f rest (fun u hu => cellsS_cell hu) (by omega), Option.bind_some, setCells hG.la]
        refine (icomp_loop hG hv (by omega) (by simp)).trans ?_
        rw [comp_same hG]
      · rfl
  · simp only [cond_true]
    rfl
theorem resCM_len {f : Int} {l : Lt} {g : List Mo} {ms : List Ma} {rest : Int} : (resCM f l g ms rest).1.2.2.length ≤ 1000 := by
  unfold resCM
  cases h : codeC f l g (marksB ms) != 0
  · have h0 : codeC f l g (marksB ms) = 0 := by simpa using h
    have := cellsS_le (codeC_0 h0).1.la
    have := numsF_len' l g
    rw [cond_false]
    cases okC rest
    · simp [dP]
    · cases (cfO l (numsF l g) ms 0 ms).2.2
      · simp only [cond_true, cond_false, compS, List.length_map]; omega
      · simp [dP]
  · simp [dP]
theorem FnExactCompleteMarks_pure (a0 : Int) (a1 : Int × Int × Int) (a2 : List ((Int × Int × Int × Int) × Int × Int)) (a3 : List ((Int × Int) × Int)) (a4 : Int) (h : WfA [(.int .i64), (.cons (.int .i64) (.cons (.int .i64) (.int .i64))), (.list 95 (.cons (.cons (.int .i64) (.cons (.int .i64) (.cons (.int .i64) (.int .i64)))) (.cons (.int .i64) (.int .i64)))), (.list 122 (.cons (.cons (.int .i64) (.int .i64)) (.int .i64))), (.int .i64)] (a0, a1, a2, a3, a4, ())) : ∃ K, f12G K a0 a1 a2 a3 a4 = some true := by
  refine ⟨KK, ?_⟩
  have hlen2 : a2.length ≤ maxLen ∧ a3.length ≤ maxLen := by
    simp only [WfA, Wf] at h
    exact ⟨h.2.2.1.1, h.2.2.2.1.1⟩
  unfold f12G f13G f33G f15G
  by_cases hb : (a2.length : Int) ≤ 1048576
  · obtain ⟨e1, e2⟩ := sz_small (left := 1048576) (by omega) (by omega) hb
    rw [e1, cond_false, e2, Option.bind_some, decide_eq_false (by omega), cond_false]
    by_cases hb2 : (a3.length : Int) ≤ 1048576 - (a2.length : Int)
    · obtain ⟨e3, e4⟩ := sz_small (left := 1048576 - (a2.length : Int)) (by omega) (by omega) hb2
      rw [e3, cond_false, e4, Option.bind_some, decide_eq_false (by omega), cond_false]
      simp only [Option.bind_some]
      have h2 : a2.length ≤ 1048576 := by omega
      have h3 : a3.length ≤ 1048576 := by omega
      rw [toMotionS_eq h2, toMarkS_eq h3]
      simp only [Option.bind_some]
      rw [specCM_eq a0 a1 h2 h3, implCM_eq a0 a1 h2]
      have hr := resCM_len (f := a0) (l := a1) (g := a2) (ms := a3) (rest := a4)
      obtain ⟨r1, ⟨m1, _⟩, hm1⟩ := markMotionS_gen a2 (k := 1) (by omega) (by omega) h2
      obtain ⟨r2, ⟨m2, _⟩, hm2⟩ := markMarkS_gen a3 (k := r1.2) (by omega) (by omega) h3
      obtain ⟨r3, ⟨m3, m4, m5⟩, hm3⟩ := markInt64S_gen (resCM a0 a1 a2 a3 a4).1.2.2 (k := 1) (by omega) (by omega) (by omega)
      have hh := heldInt64S_gen r3.1 (k := 1) (by omega) (by omega) (by omega) (by rw [m4]; exact m5)
      have hmp : f25G KK (resCM a0 a1 a2 a3 a4).1 1 = some (((resCM a0 a1 a2 a3 a4).1.1, (resCM a0 a1 a2 a3 a4).1.2.1, r3.1), r3.2) := by
        unfold f25G
        rw [hm3]
        rfl
      have hhp : f32G KK ((resCM a0 a1 a2 a3 a4).1.1, (resCM a0 a1 a2 a3 a4).1.2.1, r3.1) 1 = some r3.2 := by
        unfold f32G
        simp only
        rw [hh, Option.bind_some, decide_eq_false (by omega), cond_false, m3, m4]
      simp only [Option.bind_some]
      rw [eqPattern_eq (by omega)]
      simp only [Option.bind_some, Bool.or_true, cond_true, Bool.not_true, bne_self_eq_false, cond_false]
      rw [eqMotionS_eq h2, eqMarkS_eq h3]
      simp only [Option.bind_some, Bool.or_true, cond_true, Bool.not_true, bne_self_eq_false, cond_false]
      rw [hm1, Option.bind_some, hm2, Option.bind_some, decide_eq_false (show ¬ r2.2 < 0 by omega), hmp]
      simp only [Option.bind_some, Bool.or_true, cond_true, Bool.not_true, Bool.not_false, bne_self_eq_false, cond_false]
      rw [hhp, Option.bind_some, decide_eq_false (show ¬ r3.2 < 0 by omega)]
      simp only [bne_self_eq_false, cond_false]
      rw [Option.bind_some, decide_eq_false (show ¬ r3.2 < 0 by omega)]
      simp only [bne_self_eq_false, cond_false]
    · rw [sz_large (left := 1048576 - (a2.length : Int)) (by omega) (by omega) hlen2.2 hb2]
      rfl
  · rw [sz_large (left := 1048576) (by omega) (by omega) hlen2.1 hb]
    rfl
end Go.Proofs.YtmnciknpeefkfaaGreat.X
