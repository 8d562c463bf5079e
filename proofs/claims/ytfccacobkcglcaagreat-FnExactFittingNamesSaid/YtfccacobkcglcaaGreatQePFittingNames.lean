/- The plain law of FittingNames: both sides tell the names whose standard groups have no conflict. -/
import Derived.Test.YtfccacobkcglcaaGreatQeNS
import Derived.Test.YtfccacobkcglcaaGreatQeMS
namespace Go.Proofs.YtfccacobkcglcaaGreat.X
open Go
set_option linter.unusedSimpArgs false
set_option linter.unusedVariables false
/-! ### lists of texts -/
noncomputable def tx (k : Int) : ByteArray := (f150G KK k).getD ByteArray.empty
noncomputable def txB (k : Nat) : Bool := (f150G KK ((k : Nat) : Int)).isSome
theorem tx_all : ((List.range 40).all txB) = true := by kernel_rfl
theorem tx_eq {k : Nat} (h : k < 40) : f150G KK (k : Int) = some (tx (k : Int)) := by
  have h1 := List.all_eq_true.1 tx_all k (List.mem_range.2 h)
  unfold txB at h1
  unfold tx
  cases he : f150G KK (k : Int) with
  | none => rw [he] at h1; cases h1
  | some x => rfl
theorem ba_ne (a : ByteArray) : (a != a) = false := by
  unfold bne
  rw [beq_toListBytes]
  simp
theorem eqStringS_eq {l : List ByteArray} (hl : l.length ≤ 1048576) : f37G KK l l = some true := by
  unfold f37G f37_g f37_l2
  rw [show ((l.length : Int) != (l.length : Int)) = false by simp, cond_false]
  have h := iter_all (X := Int) (body := fun L x => f37_b2 KK l l (fun v0 => L v0) x) l (fun q => (q : Int)) (fun _ => true) (some false) (some true)
    (fun L q hq => by
      unfold f37_b2
      rw [in1 hq, in0, gd hq, w_succ (by omega), ba_ne]
      simp)
    (fun L => by
      unfold f37_b2
      rw [out1, cond_false]) KK 0 (by omega) (by simp only [KK]; omega)
  refine h.trans ?_
  rw [List.drop_zero, show (l.all fun _ => true) = true from List.all_eq_true.mpr (by simp)]
  rfl
def MkX (s : List ByteArray) (n : Nat) : Prop := ∀ i, i < n → s[i]? = some (tx ((i + 1 : Nat) : Int))
theorem markStringS_gen (l : List ByteArray) (hl : l.length ≤ 20) : ∃ r : List ByteArray × Int, (r.2 = ((l.length + 1 : Nat) : Int) ∧ r.1.length = l.length ∧ MkX r.1 l.length) ∧ f40G KK l 1 = some r := by
  unfold f40G f40_g f40_l3
  refine iter_ex (X := Int × Int × List ByteArray) (R := List ByteArray × Int) l.length (fun q x => x.1 = ((q + 1 : Nat) : Int) ∧ x.2.1 = (q : Int) ∧ x.2.2.length = l.length ∧ MkX x.2.2 q) _ ?_ ?_ KK 0 (1, 0, l) (by omega) (by simp only [KK]; omega) ⟨by simp, by simp, rfl, fun i hi => by omega⟩
  · rintro L q ⟨x1, x2, s⟩ hq ⟨e1, e2, e3, e4⟩
    simp only at e1 e2 e3 e4
    subst e2 e1
    have hq2 : q < s.length := by omega
    refine ⟨(((q + 1 + 1 : Nat) : Int), ((q + 1 : Nat) : Int), s.set q (tx ((q + 1 : Nat) : Int))), ⟨rfl, rfl, by simp [e3], fun i hi => ?_⟩, ?_⟩
    · simp only
      by_cases h : i = q
      · subst h
        rw [List.getElem?_set_self (by omega)]
      · rw [List.getElem?_set_ne (by omega)]; exact e4 i (by omega)
    · show f40_b3 KK (fun v0 v1 v2 => L (v0, v1, v2)) ((q + 1 : Nat) : Int) (q : Int) s = _
      unfold f40_b3
      have hz : ((0 : Int) + (q : Int)).toNat = q := by omega
      rw [in1 hq2, in0, w_succ (by omega), w_succ (by omega), hz, tx_eq (by omega)]
      simp only [Bool.and_self, cond_true, Option.bind_some]
  · rintro L ⟨x1, x2, s⟩ ⟨e1, e2, e3, e4⟩
    simp only at e1 e2 e3 e4
    subst e2
    refine ⟨(s, x1), ⟨e1, e3, e4⟩, ?_⟩
    show f40_b3 KK (fun v0 v1 v2 => L (v0, v1, v2)) x1 (l.length : Int) s = _
    unfold f40_b3
    rw [show decide ((l.length : Int) < (s.length : Int)) = false by simp; omega, cond_false]
theorem heldStringS_gen (s : List ByteArray) (hl : s.length ≤ 20) (hm : MkX s s.length) : f41G KK s 1 = some ((s.length + 1 : Nat) : Int) := by
  have h := iter_ex (X := Int × Int) (R := Int) (body := fun L x => f41_b3 KK s (fun v0 v1 => L (v0, v1)) x.1 x.2) s.length (fun q x => x.1 = ((q + 1 : Nat) : Int) ∧ x.2 = (q : Int)) (fun r => r = ((s.length + 1 : Nat) : Int)) ?_ ?_ KK 0 (1, 0) (by omega) (by simp only [KK]; omega) ⟨by simp, by simp⟩
  · obtain ⟨r, rfl, h⟩ := h
    unfold f41G f41_g f41_l3
    exact h
  · rintro L q ⟨x1, x2⟩ hq ⟨e1, e2⟩
    simp only at e1 e2
    subst e2 e1
    refine ⟨(((q + 1 + 1 : Nat) : Int), ((q + 1 : Nat) : Int)), ⟨rfl, rfl⟩, ?_⟩
    have h1 := hm q hq
    rw [List.getElem?_eq_getElem hq, Option.some.injEq] at h1
    show f41_b3 KK s (fun v0 v1 => L (v0, v1)) ((q + 1 : Nat) : Int) (q : Int) = _
    unfold f41_b3
    rw [in1 hq, in0, gd hq, w_succ (by omega), w_succ (by omega), tx_eq (by omega), h1]
    simp only [Bool.and_self, cond_true, Option.bind_some, ba_ne, cond_false]
  · rintro L ⟨x1, x2⟩ ⟨e1, e2⟩
    simp only at e1 e2
    subst e2
    refine ⟨x1, e1, ?_⟩
    show f41_b3 KK s (fun v0 v1 => L (v0, v1)) x1 (s.length : Int) = _
    unfold f41_b3
    rw [out1, cond_false]
/-! ### the names -/
noncomputable def nmL : List ByteArray := (f142G KK).getD []
theorem nmL_spec : f142G KK = some nmL := rfl
theorem nmL_impl : f147G KK = some nmL := rfl
theorem nmL_len : nmL.length = 17 := rfl
noncomputable def stdB (a : ByteArray) (n : Int) : Bool := (f252G KK a n).any fun r => r.2.2
theorem name_all : (nmL.all fun a => stdB a 1 && (stdB a 2 && (stdB a 3 && stdB a 4))) = true := by kernel_rfl
noncomputable def sgS (a : ByteArray) (n : Int) : Sgr := (f143G KK a n).getD (0, (0, 0, 0), [], 4)
theorem name_ok {a : ByteArray} {n : Int} (ha : a ∈ nmL) (h1 : 1 ≤ n) (h2 : n ≤ 4) : f143G KK a n = some (sgS a n) ∧ f86G KK a n = some (sgS a n) ∧ (sgS a n).2.2.2 = 0 ∧ OrbG (sgS a n).1 (sgS a n).2.1 (sgS a n).2.2.1 := by
  obtain ⟨r, e1, e2, e3⟩ := std_main a n
  have er : sgS a n = r := by unfold sgS; rw [e1]; rfl
  rw [er]
  have h0 : r.2.2.2 = 0 := by
    have hb := List.all_eq_true.1 name_all a ha
    simp only [Bool.and_eq_true] at hb
    have hs : stdB a n = true := by
      have : n = 1 ∨ n = 2 ∨ n = 3 ∨ n = 4 := by omega
      rcases this with rfl | rfl | rfl | rfl
      · exact hb.1
      · exact hb.2.1
      · exact hb.2.2.1
      · exact hb.2.2.2
    unfold stdB at hs
    rcases std_tell a n with ⟨m, hm, e⟩ | e
    · unfold f143G at e1
      rw [e] at e1
      simp only [Option.bind_some, Bool.not_true, cond_false] at e1
      rw [in_eq, Option.bind_some, decide_eq_true ⟨h1, h2⟩] at e1
      simp only [Bool.not_true, cond_false] at e1
      obtain ⟨g, _, e5, _⟩ := std_close h1 h2 hm
      have e5' : f253G KK (w ((2 : Int) * n), 0, w ((2 : Int) * n)) m.2 = some g := e5
      rw [e5', Option.bind_some, Option.some.injEq] at e1
      rw [← e1]
    · rw [e] at hs
      cases hs
  refine ⟨e1, e2, h0, ?_⟩
  rcases e3 with ⟨_, h, _⟩ | ⟨h, _⟩
  · exact (codeC_0 h).1
  · exact absurd h0 h
noncomputable def openB (n : Int) (ms : List Ma) (a : ByteArray) : Bool := !(cfO (sgS a n).2.1 (numsF (sgS a n).2.1 (sgS a n).2.2.1) ms 0 ms).2.2
noncomputable def fnS (n : Int) (ms : List Ma) : List ByteArray := nmL.filter (openB n ms)
theorem fnS_len (n : Int) (ms : List Ma) : (fnS n ms).length ≤ 17 := by
  have := List.length_filter_le (openB n ms) nmL
  rw [nmL_len] at this
  exact this
theorem sfn_loop {n : Int} (h1 : 1 ≤ n) (h2 : n ≤ 4) {ms : List Ma} (hm : ∀ x ∈ ms, vecB x.1 = true) (hn : ms.length ≤ 1000) {y1 y2 : Bool} : f34_l8 KK n ms y1 y2 nmL KK 0 [] = some (fnS n ms, 0) := by
  have hL := nmL_len
  have hh := iter_fold (R := List ByteArray × Int) (body := fun L x => f34_b8 KK n ms y1 y2 nmL (fun v0 v1 => L (v0, v1)) x.1 x.2) nmL (fun q s => ((q : Int), s)) (fun s a => bif openB n ms a then s ++ [id a] else s) (fun s => some (s, 0)) (fun q s => s.length ≤ q)
    (fun L q s hq hi => by
      refine ⟨by cases openB n ms nmL[q] <;> simp <;> omega, ?_⟩
      show f34_b8 KK n ms y1 y2 nmL (fun v0 v1 => L (v0, v1)) (q : Int) s = _
      unfold f34_b8
      obtain ⟨e1, _, _, hG⟩ := name_ok (List.getElem_mem hq) h1 h2
      rw [in1 hq, in0, gd hq, e1]
      simp only [Bool.and_self, cond_true, Option.bind_some]
      rw [l07Numbers_eq hG, Option.bind_some, l19Conflict_eq hG.la (numsF_len' _ _) hm hn, Option.bind_some, w_succ (by omega), blim16 (by simp; omega)]
      show (bif openB n ms nmL[q] then _ else _) = _
      cases openB n ms nmL[q] <;> rfl)
    (fun L s hi => by
      show f34_b8 KK n ms y1 y2 nmL (fun v0 v1 => L (v0, v1)) (nmL.length : Int) s = _
      unfold f34_b8
      rw [out1, cond_false]) KK 0 [] (by omega) (by simp only [KK]; omega) (by simp)
  rw [List.drop_zero, foldl_filter, List.nil_append, List.map_id] at hh
  exact hh
theorem ifn_loop {n : Int} (h1 : 1 ≤ n) (h2 : n ≤ 4) {ms : List Ma} (hm : ∀ x ∈ ms, vecB x.1 = true) (hn : ms.length ≤ 1000) {y1 y2 : Bool} : f36_l7 KK n ms y1 y2 nmL KK 0 [] = some (fnS n ms, 0) := by
  have hL := nmL_len
  have hh := iter_fold (R := List ByteArray × Int) (body := fun L x => f36_b7 KK n ms y1 y2 nmL (fun v0 v1 => L (v0, v1)) x.1 x.2) nmL (fun q s => ((q : Int), s)) (fun s a => bif openB n ms a then s ++ [id a] else s) (fun s => some (s, 0)) (fun q s => s.length ≤ q)
    (fun L q s hq hi => by
      refine ⟨by cases openB n ms nmL[q] <;> simp <;> omega, ?_⟩
      show f36_b7 KK n ms y1 y2 nmL (fun v0 v1 => L (v0, v1)) (q : Int) s = _
      unfold f36_b7
      obtain ⟨_, e1, _, hG⟩ := name_ok (List.getElem_mem hq) h1 h2
      rw [in1 hq, in0, gd hq, e1]
      simp only [Bool.and_self, cond_true, Option.bind_some]
      rw [conflictOf_eq hG hm hn, Option.bind_some, w_succ (by omega), blim16 (by simp; omega)]
      show (bif openB n ms nmL[q] then _ else _) = _
      cases openB n ms nmL[q] <;> rfl)
    (fun L s hi => by
      show f36_b7 KK n ms y1 y2 nmL (fun v0 v1 => L (v0, v1)) (nmL.length : Int) s = _
      unfold f36_b7
      rw [out1, cond_false]) KK 0 [] (by omega) (by simp only [KK]; omega) (by simp)
  rw [List.drop_zero, foldl_filter, List.nil_append, List.map_id] at hh
  exact hh
noncomputable def resFN (n : Int) (ms : List Ma) : List ByteArray × Int := bif decide (1 ≤ n ∧ n ≤ 4) && marksB ms then (fnS n ms, 0) else ([], 2)
theorem specFN_eq (n : Int) {ms : List Ma} (h : ms.length ≤ 1048576) : f34G KK n ms = some (resFN n ms) := by
  unfold f34G f34_g resFN
  rw [in_eq, Option.bind_some]
  by_cases hn : 1 ≤ n ∧ n ≤ 4
  · rw [decide_eq_true hn]
    simp only [Bool.not_true, Bool.not_false, Bool.or_true, cond_true, cond_false, Bool.true_and]
    rw [specAreMarks_eq h, Option.bind_some]
    cases hb : marksB ms
    · rfl
    · obtain ⟨hv, hl⟩ := marks_of hb
      simp only [Bool.not_true, cond_true, cond_false]
      rw [nmL_spec, Option.bind_some]
      exact sfn_loop hn.1 hn.2 hv (by omega)
  · rw [decide_eq_false hn]
    rfl
theorem implFN_eq (n : Int) (ms : List Ma) : f36G KK n ms = some (resFN n ms) := by
  unfold f36G f36_g resFN
  rw [areMarks_eq, Option.bind_some]
  cases hb : marksB ms
  · rw [Bool.and_false]
    rfl
  · obtain ⟨hv, hl⟩ := marks_of hb
    simp only [Bool.not_true, Bool.not_false, Bool.or_true, cond_true, cond_false, Bool.and_true]
    rw [within_eq, Option.bind_some]
    by_cases hn : 1 ≤ n ∧ n ≤ 4
    · rw [decide_eq_true hn]
      simp only [Bool.not_true, cond_true, cond_false]
      rw [nmL_impl, Option.bind_some]
      exact ifn_loop hn.1 hn.2 hv (by omega)
    · rw [decide_eq_false hn]
      rfl
theorem resFN_len {n : Int} {ms : List Ma} : (resFN n ms).1.length ≤ 17 := by
  unfold resFN
  cases decide (1 ≤ n ∧ n ≤ 4) && marksB ms
  · simp
  · exact fnS_len n ms
theorem FnExactFittingNames_pure (a0 : Int) (a1 : List ((Int × Int) × Int)) (h : WfA [(.int .i64), (.list 175 (.cons (.cons (.int .i64) (.int .i64)) (.int .i64)))] (a0, a1, ())) : ∃ K, f7G K a0 a1 = some true := by
  refine ⟨KK, ?_⟩
  have hlen : a1.length ≤ maxLen := by
    simp only [WfA, Wf] at h
    exact h.2.1.1
  unfold f7G f33G
  by_cases hb : (a1.length : Int) ≤ 1048576
  · obtain ⟨e1, e2⟩ := sz_small (left := 1048576) (by omega) (by omega) hb
    rw [e1, cond_false, e2, Option.bind_some, decide_eq_false (by omega), cond_false]
    have h0 : a1.length ≤ 1048576 := by omega
    rw [toMarkS_eq h0]
    simp only [Option.bind_some]
    rw [specFN_eq a0 h0, implFN_eq a0 a1]
    have hr := resFN_len (n := a0) (ms := a1)
    obtain ⟨r1, ⟨m1, _⟩, hm1⟩ := markMarkS_gen a1 (k := 1) (by omega) (by omega) h0
    obtain ⟨r2, ⟨m2, m3, m4⟩, hm2⟩ := markStringS_gen (resFN a0 a1).1 (by omega)
    have hh := heldStringS_gen r2.1 (by omega) (by rw [m3]; exact m4)
    rw [m3, ← m2] at hh
    simp only [Option.bind_some]
    rw [eqStringS_eq (by omega)]
    simp only [Option.bind_some, Bool.or_true, cond_true, Bool.not_true, bne_self_eq_false, cond_false]
    rw [eqMarkS_eq h0]
    simp only [Option.bind_some, Bool.or_true, cond_true, Bool.not_true, bne_self_eq_false, cond_false]
    rw [hm1, Option.bind_some, decide_eq_false (show ¬ r1.2 < 0 by omega), hm2]
    simp only [Option.bind_some, Bool.or_true, cond_true, Bool.not_true, Bool.not_false, bne_self_eq_false, cond_false]
    rw [hh, Option.bind_some, decide_eq_false (show ¬ r2.2 < 0 by omega)]
    simp only [bne_self_eq_false, cond_false]
    rw [Option.bind_some, decide_eq_false (show ¬ r2.2 < 0 by omega)]
    simp only [bne_self_eq_false, cond_false]
  · rw [sz_large (left := 1048576) (by omega) (by omega) hlen hb]
    rfl
end Go.Proofs.YtfccacobkcglcaaGreat.X
