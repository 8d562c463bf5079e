/- The plain law of FittingNames: both sides tell the names whose standard groups have no conflict. -/
import Derived.Test.YtfccacobkcglcaaGreatQgNS
import Derived.Test.YtfccacobkcglcaaGreatQgMS
namespace Go.Proofs.YtfccacobkcglcaaGreat.X
open Go
set_option linter.unusedSimpArgs false
set_option linter.unusedVariables false
noncomputable def nmL : List ByteArray := (f142G KK).getD []
theorem nmL_spec : f142G KK = some nmL := rfl
theorem nmL_impl : f147G KK = some nmL := rfl
theorem nmL_len : nmL.length = 17 := rfl
noncomputable def stdB (a : ByteArray) (n : Int) : Bool := (f252G KK a n).any fun r => r.2.2
theorem name_all : (nmL.all fun a => stdB a 1 && (stdB a 2 && (stdB a 3 && stdB a 4))) = true := by kernel_rfl
noncomputable def sgS (a : ByteArray) (n : Int) : Sgr := (f143G KK a n).getD (0, (0, 0, 0), [], 4)
theorem name_ok {a : ByteArray} {n : Int} (ha : a ∈ nmL) (h1 : 1 ≤ n) (h2 : n ≤ 4) : f143G KK a n = some (sgS a n) ∧ f86G KK a n = some (sgS a n) ∧ (sgS a n).2.2.2 = 0 ∧ OrbG (sgS a n).1 (sgS a n).2.1 (sgS a n).2.2.1 := by
 obtain ⟨r, e1, e2, e3⟩ := std_main a n
 have er : sgS a n = r := by unfold sgS; rw [e1]; rfl
 rw [er]
 have h0 : r.2.2.2 = 0 := by
  have hb := List.all_eq_true.1 name_all a ha
  simp only [aT] at hb
  have hs : stdB a n = true := by
   have : n = 1 ∨ n = 2 ∨ n = 3 ∨ n = 4 := by omega
   rcases this with rfl | rfl | rfl | rfl
   ·exact hb.1
   ·exact hb.2.1
   ·exact hb.2.2.1
   ·exact hb.2.2.2
  unfold stdB at hs
  rcases std_tell a n with ⟨m, hm, e⟩ | e
  ·unfold f143G at e1
   rw [e] at e1
   simp only [oB, nT, cF] at e1
   rw [in_eq, oB, dT ⟨h1, h2⟩] at e1
   simp only [nT, cF] at e1
   obtain ⟨g, _, e5, _⟩ := std_close h1 h2 hm
   have e5' : f253G KK (w ((2 : Int) * n), 0, w ((2 : Int) * n)) m.2 = some g := e5
   rw [e5', oB, Option.some.injEq] at e1
   rw [← e1]
  ·rw [e] at hs
   cases hs
 refine ⟨e1, e2, h0, ?_⟩
 rcases e3 with ⟨_, h, _⟩ | ⟨h, _⟩
 ·exact (codeC_0 h).1
 ·exact absurd h0 h
noncomputable def openB (n : Int) (ms : List Ma) (a : ByteArray) : Bool := !(cfO (sgS a n).2.1 (numsF (sgS a n).2.1 (sgS a n).2.2.1) ms 0 ms).2.2
noncomputable def fnS (n : Int) (ms : List Ma) : List ByteArray := nmL.filter (openB n ms)
theorem fnS_len (n : Int) (ms : List Ma) : (fnS n ms).length ≤ 17 := by
 have := List.length_filter_le (openB n ms) nmL
 rw [nmL_len] at this
 exact this
theorem sfn_loop {n : Int} (h1 : 1 ≤ n) (h2 : n ≤ 4) {ms : List Ma} (hm : ∀ x ∈ ms, vecB x.1 = true) (hn : ms.length ≤ 1000) {y1 y2 : Bool} : f34_l8 KK n ms y1 y2 nmL KK 0 [] = some (fnS n ms, 0) := by
 have hL := nmL_len
 have hh := iter_fold (R := List ByteArray × Int) (body := fun L x => f34_b8 KK n ms y1 y2 nmL (fun v0 v1 => L (v0, v1)) x.1 x.2) nmL (fun q s => ((q : Int), s)) (fun s a => bif openB n ms a then s ++ [id a] else s) (fun s => some (s, 0)) (fun q s => s.length ≤ q)
  (fun L q s hq hi => by
   refine ⟨by cases openB n ms nmL[q] <;> simp <;> omega, ?_⟩
   show f34_b8 KK n ms y1 y2 nmL (fun v0 v1 => L (v0, v1)) (q : Int) s = _
   unfold f34_b8
   obtain ⟨e1, _, _, hG⟩ := name_ok (gM hq) h1 h2
   rw [in1 hq, in0, gd hq, e1]
   simp only [aS, cT, oB]
   rw [l07Numbers_eq hG, oB, l19Conflict_eq hG.la (numsF_len' _ _) hm hn, oB, w_succ (by omega), blim16 (by simp; omega)]
   show (bif openB n ms nmL[q] then _ else _) = _
   cases openB n ms nmL[q] <;> rfl)
  (fun L s hi => by
   show f34_b8 KK n ms y1 y2 nmL (fun v0 v1 => L (v0, v1)) (nmL.length : Int) s = _
   unfold f34_b8
   rw [out1, cF]) KK 0 [] (by omega) (by simp only [KK]; omega) (by simp)
 rw [List.drop_zero, foldl_filter, List.nil_append, List.map_id] at hh
 exact hh
theorem ifn_loop {n : Int} (h1 : 1 ≤ n) (h2 : n ≤ 4) {ms : List Ma} (hm : ∀ x ∈ ms, vecB x.1 = true) (hn : ms.length ≤ 1000) {y1 y2 : Bool} : f36_l7 KK n ms y1 y2 nmL KK 0 [] = some (fnS n ms, 0) := by
 have hL := nmL_len
 have hh := iter_fold (R := List ByteArray × Int) (body := fun L x => f36_b7 KK n ms y1 y2 nmL (fun v0 v1 => L (v0, v1)) x.1 x.2) nmL (fun q s => ((q : Int), s)) (fun s a => bif openB n ms a then s ++ [id a] else s) (fun s => some (s, 0)) (fun q s => s.length ≤ q)
  (fun L q s hq hi => by
   refine ⟨by cases openB n ms nmL[q] <;> simp <;> omega, ?_⟩
   show f36_b7 KK n ms y1 y2 nmL (fun v0 v1 => L (v0, v1)) (q : Int) s = _
   unfold f36_b7
   obtain ⟨_, e1, _, hG⟩ := name_ok (gM hq) h1 h2
   rw [in1 hq, in0, gd hq, e1]
   simp only [aS, cT, oB]
   rw [conflictOf_eq hG hm hn, oB, w_succ (by omega), blim16 (by simp; omega)]
   show (bif openB n ms nmL[q] then _ else _) = _
   cases openB n ms nmL[q] <;> rfl)
  (fun L s hi => by
   show f36_b7 KK n ms y1 y2 nmL (fun v0 v1 => L (v0, v1)) (nmL.length : Int) s = _
   unfold f36_b7
   rw [out1, cF]) KK 0 [] (by omega) (by simp only [KK]; omega) (by simp)
 rw [List.drop_zero, foldl_filter, List.nil_append, List.map_id] at hh
 exact hh
noncomputable def resFN (n : Int) (ms : List Ma) : List ByteArray × Int := bif decide (1 ≤ n ∧ n ≤ 4) && marksB ms then (fnS n ms, 0) else ([], 2)
theorem specFN_eq (n : Int) {ms : List Ma} (h : ms.length ≤ 1048576) : f34G KK n ms = some (resFN n ms) := by
 unfold f34G f34_g resFN
 rw [in_eq, oB]
 by_cases hn : 1 ≤ n ∧ n ≤ 4
 ·rw [dT hn]
  simp only [nT, Bool.not_false, oT, cT, cF, Bool.true_and]
  rw [specAreMarks_eq h, oB]
  cases hb : marksB ms
  ·rfl
  ·obtain ⟨hv, hl⟩ := marks_of hb
   simp only [nT, cT, cF]
   rw [nmL_spec, oB]
   exact sfn_loop hn.1 hn.2 hv (by omega)
 ·rw [dF hn]
  rfl
theorem implFN_eq (n : Int) (ms : List Ma) : f36G KK n ms = some (resFN n ms) := by
 unfold f36G f36_g resFN
 rw [areMarks_eq, oB]
 cases hb : marksB ms
 ·rw [Bool.and_false]
  rfl
 ·obtain ⟨hv, hl⟩ := marks_of hb
  simp only [nT, Bool.not_false, oT, cT, cF, Bool.and_true]
  rw [within_eq, oB]
  by_cases hn : 1 ≤ n ∧ n ≤ 4
  ·rw [dT hn]
   simp only [nT, cT, cF]
   rw [nmL_impl, oB]
   exact ifn_loop hn.1 hn.2 hv (by omega)
  ·rw [dF hn]
   rfl
theorem resFN_len {n : Int} {ms : List Ma} : (resFN n ms).1.length ≤ 17 := by
 unfold resFN
 cases decide (1 ≤ n ∧ n ≤ 4) && marksB ms
 ·simp
 ·exact fnS_len n ms
end Go.Proofs.YtfccacobkcglcaaGreat.X
