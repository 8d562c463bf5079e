/- Plain facts: strokes on a canvas, and what they paint. -/
import Derived.Test.YtfccacobkcglcaaGreatQdNS
import Derived.Test.YtfccacobkcglcaaGreatQdPCompleteMarks
namespace Go.Proofs.YtfccacobkcglcaaGreat.X
open Go
set_option linter.unusedSimpArgs false
set_option linter.unusedVariables false
theorem eqStroke_eq (m : Ma) : f121G KK m m = some true := by
  unfold f121G
  rw [eqVec_eq, Option.bind_some]
  simp
theorem eqStrokeS_eq {l : List Ma} (hl : l.length ≤ 1048576) : f19G KK l l = some true := by
  unfold f19G f19_g f19_l3
  rw [show ((l.length : Int) != (l.length : Int)) = false by simp, cond_false]
  have h := iter_all (X := Int) (body := fun L x => f19_b3 KK l l (fun v0 => L v0) x) l (fun q => (q : Int)) (fun _ => true) (some false) (some true)
    (fun L q hq => by
      unfold f19_b3
      rw [in1 hq, in0, gd hq, w_succ (by omega), eqStroke_eq]
      simp)
    (fun L => by
      unfold f19_b3
      rw [out1, cond_false]) KK 0 (by omega) (by simp only [KK]; omega)
  refine h.trans ?_
  rw [List.drop_zero, show (l.all fun _ => true) = true from List.all_eq_true.mpr (by simp)]
  rfl
def MkT (k : Int) (s : List Ma) (n : Nat) : Prop := ∀ i, i < n → s[i]? = some ((k + 3 * (i : Int), k + 1 + 3 * (i : Int)), k + 2 + 3 * (i : Int))
theorem markStrokeS_gen (l : List Ma) {k : Int} (hk : 0 ≤ k) (hk2 : k ≤ 1000000000) (hl : l.length ≤ 1048576) : ∃ r : List Ma × Int, (r.2 = k + 3 * (l.length : Int) ∧ r.1.length = l.length ∧ MkT k r.1 l.length) ∧ f23G KK l k = some r := by
  unfold f23G f23_g f23_l2
  refine iter_ex (X := Int × Int × List Ma) (R := List Ma × Int) l.length (fun q x => x.1 = k + 3 * (q : Int) ∧ x.2.1 = (q : Int) ∧ x.2.2.length = l.length ∧ MkT k x.2.2 q) _ ?_ ?_ KK 0 (k, 0, l) (by omega) (by simp only [KK]; omega) ⟨by simp, by simp, rfl, fun i hi => by omega⟩
  · rintro L q ⟨x1, x2, s⟩ hq ⟨e1, e2, e3, e4⟩
    simp only at e1 e2 e3 e4
    subst e2
    have hq2 : q < s.length := by omega
    refine ⟨(x1 + 3, ((q + 1 : Nat) : Int), s.set q ((x1, x1 + 1), x1 + 2)), ⟨by simp only; omega, rfl, by simp [e3], fun i hi => ?_⟩, ?_⟩
    · simp only
      by_cases h : i = q
      · subst h
        rw [List.getElem?_set_self (by omega), e1]
        rw [show k + 3 * (i : Int) + 1 = k + 1 + 3 * (i : Int) by omega, show k + 3 * (i : Int) + 2 = k + 2 + 3 * (i : Int) by omega]
      · rw [List.getElem?_set_ne (by omega)]; exact e4 i (by omega)
    · unfold f23_b2
      have hz : ((0 : Int) + (q : Int)).toNat = q := by omega
      rw [in1 hq2, in0, w_succ (by omega), w_id (n := x1 + 1) (by omega) (by omega), w_id (n := x1 + 1 + 1) (by omega) (by omega), w_id (n := x1 + 1 + 1 + 1) (by omega) (by omega), hz]
      simp (config := { zeta := false }) only [List.length_set, in1 hq2, Bool.and_self, cond_true]
      extract_lets s2
      have e : s2 = s.set q ((x1, x1 + 1), x1 + 2) := by
        simp only [s2, List.set_set]
        have g1 : ∀ (a d : Ma), (s.set q a).getD q d = a := fun a d => by simp [List.getD, hq2]
        simp only [g1]
        rw [show x1 + 1 + 1 = x1 + 2 by omega]
      rw [e]
      have e5 : x1 + 1 + 1 + 1 = x1 + 3 := by omega
      rw [e5]
  · rintro L ⟨x1, x2, s⟩ ⟨e1, e2, e3, e4⟩
    simp only at e1 e2 e3 e4
    subst e2
    refine ⟨(s, x1), ⟨e1, e3, e4⟩, ?_⟩
    show f23_b2 KK (fun v0 v1 v2 => L (v0, v1, v2)) x1 (l.length : Int) s = _
    unfold f23_b2
    rw [show decide ((l.length : Int) < (s.length : Int)) = false by simp; omega, cond_false]
theorem heldStrokeS_gen (s : List Ma) {k : Int} (hk : 0 ≤ k) (hk2 : k ≤ 1000000000) (hl : s.length ≤ 1048576) (hm : MkT k s s.length) : f28G KK s k = some (k + 3 * (s.length : Int)) := by
  have h := iter_ex (X := Int × Int) (R := Int) (body := fun L x => f28_b2 KK s (fun v0 v1 => L (v0, v1)) x.1 x.2) s.length (fun q x => x.1 = k + 3 * (q : Int) ∧ x.2 = (q : Int)) (fun r => r = k + 3 * (s.length : Int)) ?_ ?_ KK 0 (k, 0) (by omega) (by simp only [KK]; omega) ⟨by simp, by simp⟩
  · obtain ⟨r, rfl, h⟩ := h
    unfold f28G f28_g f28_l2
    exact h
  · rintro L q ⟨x1, x2⟩ hq ⟨e1, e2⟩
    simp only at e1 e2
    subst e2
    refine ⟨(x1 + 3, ((q + 1 : Nat) : Int)), ⟨by simp only; omega, rfl⟩, ?_⟩
    have h1 := hm q hq
    rw [List.getElem?_eq_getElem hq, Option.some.injEq] at h1
    unfold f28_b2
    rw [in1 hq, in0, gd hq, w_succ (by omega), w_id (n := x1 + 1) (by omega) (by omega), w_id (n := x1 + 1 + 1) (by omega) (by omega), w_id (n := x1 + 1 + 1 + 1) (by omega) (by omega), h1]
    have f1 : ((k + 3 * (q : Int)) != x1) = false := by simp; omega
    have f2 : ((k + 1 + 3 * (q : Int)) != x1 + 1) = false := by simp; omega
    have f3 : ((k + 2 + 3 * (q : Int)) != x1 + 1 + 1) = false := by simp; omega
    simp only [Bool.and_self, cond_true, f1, f2, f3, cond_false]
    have e5 : x1 + 1 + 1 + 1 = x1 + 3 := by omega
    rw [e5]
  · rintro L ⟨x1, x2⟩ ⟨e1, e2⟩
    simp only at e1 e2
    subst e2
    refine ⟨x1, e1, ?_⟩
    unfold f28_b2
    rw [out1, cond_false]
/-! ### which strokes there are -/
theorem containsFuncSt_eq {s : List Ma} (hs : s.length ≤ 1000) (φ : Ma → Option Bool) (p : Ma → Bool) (hp : ∀ v ∈ s, φ v = some (p v)) : f131G KK s φ = some (s.any p) := by
  have h := iter_idx (R := Int) (body := fun L x => f244_b3 KK s φ (fun v0 => L v0) x) s p some
    (fun L q hq => by
      unfold f244_b3
      rw [in1 hq, in0, gd hq]
      simp only [Bool.and_self, cond_true]
      rw [show φ (s[q].1, s[q].2) = some (p s[q]) from hp _ (List.getElem_mem hq), Option.bind_some, w_succ (by omega)])
    (fun L => by
      unfold f244_b3
      rw [out1, cond_false]) KK 0 (by omega) (by have := KKlt (n := s.length) (by omega); omega)
  unfold f131G f244G f244_g f244_l3
  have h2 := congrArg (fun x => x.bind fun y1 => some (decide (y1 ≥ (0 : Int)))) h
  refine Eq.trans h2 ?_
  simp only [Option.bind_some]
  rw [List.drop_zero, idxS_any]
def stB (l : Lt) (x : Ma) : Bool := cellB l x.1 && okC x.2
def strB (l : Lt) (ms : List Ma) : Bool := ms.all (stB l) && decide (ms.length ≤ 100)
theorem notStroke_eq {l : Lt} (hl : IsL l) (x : Ma) : f320G KK x l = some (!stB l x) := by
  unfold f320G stB
  rw [isCell_eq hl, Option.bind_some]
  cases cellB l x.1
  · rfl
  · simp only [Bool.not_true, Bool.not_false, cond_true, cond_false, Bool.true_and, Bool.or_true]
    unfold f206G
    rw [within_eq]
    rfl
theorem areStrokes_eq {l : Lt} (hl : IsL l) (ms : List Ma) : f240G KK l ms = some (strB l ms) := by
  unfold f240G strB
  have e : decide ((ms.length : Int) ≤ 100) = decide (ms.length ≤ 100) := by rw [decide_eq_decide]; omega
  rw [e]
  by_cases h : ms.length ≤ 100
  · rw [decide_eq_true h]
    simp only [Bool.or_true, cond_true, Bool.and_true]
    rw [containsFuncSt_eq (by omega) (fun z1 => f320G KK z1 l) (fun x => !stB l x) (fun x _ => notStroke_eq hl x), Option.bind_some]
    congr 1
    rw [← List.not_all_eq_any_not, Bool.not_not]
  · rw [decide_eq_false h]
    simp
/-! ### the canvas -/
def cvB (r : Sgr) (ls : List (List Ma)) : Sgr := bif r.2.2.2 != 0 then (0, (0, 0, 0), [], r.2.2.2) else bif ls.all (strB r.2.1) then r else (0, (0, 0, 0), [], 2)
theorem canvas_eq {a : ByteArray} {n : Int} {r : Sgr} (hr : f86G KK a n = some r) (hC : r.2.2.2 = 0 → codeC r.1 r.2.1 r.2.2.1 true = 0) {ls : List (List Ma)} (hn : ls.length ≤ 1000) : f118G KK a n ls = some (cvB r ls) := by
  unfold f118G f118_g cvB
  rw [hr, Option.bind_some]
  cases hc : r.2.2.2 != 0
  · have h0 : r.2.2.2 = 0 := by simpa using hc
    have hl := (codeC_0 (hC h0)).1.la
    rw [cond_false, cond_false]
    have hh := iter_all (R := Sgr) (body := fun L x => f118_b4 KK a n ls r (fun v0 => L v0) x) ls (fun q => (q : Int)) (strB r.2.1) (some (0, (0, 0, 0), [], 2)) (some (r.1, r.2.1, r.2.2.1, 0))
      (fun L q hq => by
        unfold f118_b4
        rw [in1 hq, in0, gd hq]
        simp only [Bool.and_self, cond_true]
        rw [areStrokes_eq hl, Option.bind_some, w_succ (by omega)]
        cases strB r.2.1 ls[q] <;> rfl)
      (fun L => by
        unfold f118_b4
        rw [out1, cond_false]) KK 0 (by omega) (by simp only [KK]; omega)
    unfold f118_l4
    refine hh.trans ?_
    rw [List.drop_zero]
    cases ls.all (strB r.2.1)
    · rfl
    · rw [cond_true, cond_true, ← h0]
  · rfl
/-! ### what strokes paint -/
def cellsB (l : Lt) (ms : List Ma) : Prop := ∀ x ∈ ms, cellB l x.1 = true
def stepQ (k c : Int) (p : Nat × List Int) (a : Int) : Nat × List Int := (p.1 + 1, bif a == k then p.2.set p.1 c else p.2)
def spS (l : Lt) (ns : List Int) (ms : List Ma) (s : List Int) : List Int := ms.foldl (fun s x => (ns.foldl (stepQ (nmS l ns x) x.2) (0, s)).2) s
def paintG (l : Lt) (g : List Mo) (ms : List Ma) : List Int := compS l g ms 0
end Go.Proofs.YtfccacobkcglcaaGreat.X
namespace Go.Proofs.YtfccacobkcglcaaGreat.X
open Go
structure Std (a : ByteArray) (n : Int) (r : Sgr) : Prop where
  sp : f143G KK a n = some r
  im : f86G KK a n = some r
  ok : r.2.2.2 = 0 → codeC r.1 r.2.1 r.2.2.1 true = 0
theorem std_get (a : ByteArray) (n : Int) : ∃ r, Std a n r := by
  obtain ⟨r, h1, h2, h3⟩ := std_main a n
  refine ⟨r, h1, h2, fun h0 => ?_⟩
  rcases h3 with ⟨_, h, _⟩ | ⟨h, _⟩
  · exact h
  · exact absurd h0 h
theorem Std.orb {a : ByteArray} {n : Int} {r : Sgr} (h : Std a n r) (h0 : r.2.2.2 = 0) : OrbG r.1 r.2.1 r.2.2.1 := (codeC_0 (h.ok h0)).1
theorem l27Canvas_eq {a : ByteArray} {n : Int} {r : Sgr} (h : Std a n r) : f113G KK a n = some r := by
  unfold f113G
  rw [h.sp]
  rfl
theorem cvB_code {r : Sgr} {ls : List (List Ma)} : (cvB r ls).2.2.2 = bif r.2.2.2 != 0 then r.2.2.2 else bif ls.all (strB r.2.1) then 0 else 2 := by
  unfold cvB
  cases hc : r.2.2.2 != 0
  · have h0 : r.2.2.2 = 0 := by simpa using hc
    simp only [cond_false]
    cases ls.all (strB r.2.1)
    · rfl
    · exact h0
  · rfl
theorem cvB_ok {r : Sgr} {ls : List (List Ma)} (h0 : r.2.2.2 = 0) (h : ls.all (strB r.2.1) = true) : cvB r ls = r := by
  unfold cvB
  rw [h0, h]
  rfl
end Go.Proofs.YtfccacobkcglcaaGreat.X
