/- Plain facts: strokes on a canvas, and what they paint. -/
import Derived.Test.YtfccacobkcglcaaGreatQfNS
import Derived.Test.YtfccacobkcglcaaGreatQfPCompleteMarks
namespace Go.Proofs.YtfccacobkcglcaaGreat.X
open Go
set_option linter.unusedSimpArgs false
set_option linter.unusedVariables false
def MkT (k : Int) (s : List Ma) (n : Nat) : Prop := ∀ i, i < n → s[i]? = some ((k + 3 * (i : Int), k + 1 + 3 * (i : Int)), k + 2 + 3 * (i : Int))
theorem containsFuncSt_eq {s : List Ma} (hs : s.length ≤ 1000) (φ : Ma → Option Bool) (p : Ma → Bool) (hp : ∀ v ∈ s, φ v = some (p v)) : f131G KK s φ = some (s.any p) := by
 have h := iter_idx (R := Int) (body := fun L x => f244_b3 KK s φ (fun v0 => L v0) x) s p some
  (fun L q hq => by
   unfold f244_b3
   rw [in1 hq, in0, gd hq]
   simp only [Bool.and_self, cond_true]
   rw [show φ (s[q].1, s[q].2) = some (p s[q]) from hp _ (List.getElem_mem hq), Option.bind_some, w_succ (by omega)])
  (fun L => by
   unfold f244_b3
   rw [out1, cond_false]) KK 0 (by omega) (by have := KKlt (n := s.length) (by omega); omega)
 unfold f131G f244G f244_g f244_l3
 have h2 := congrArg (fun x => x.bind fun y1 => some (decide (y1 ≥ (0 : Int)))) h
 refine Eq.trans h2 ?_
 simp only [Option.bind_some]
 rw [List.drop_zero, idxS_any]
def stB (l : Lt) (x : Ma) : Bool := cellB l x.1 && okC x.2
def strB (l : Lt) (ms : List Ma) : Bool := ms.all (stB l) && decide (ms.length ≤ 100)
theorem notStroke_eq {l : Lt} (hl : IsL l) (x : Ma) : f320G KK x l = some (!stB l x) := by
 unfold f320G stB
 rw [isCell_eq hl, Option.bind_some]
 cases cellB l x.1
 ·rfl
 ·simp only [Bool.not_true, Bool.not_false, cond_true, cond_false, Bool.true_and, Bool.or_true]
  unfold f206G
  rw [within_eq]
  rfl
theorem areStrokes_eq {l : Lt} (hl : IsL l) (ms : List Ma) : f240G KK l ms = some (strB l ms) := by
 unfold f240G strB
 have e : decide ((ms.length : Int) ≤ 100) = decide (ms.length ≤ 100) := by rw [decide_eq_decide]; omega
 rw [e]
 by_cases h : ms.length ≤ 100
 ·rw [decide_eq_true h]
  simp only [Bool.or_true, cond_true, Bool.and_true]
  rw [containsFuncSt_eq (by omega) (fun z1 => f320G KK z1 l) (fun x => !stB l x) (fun x _ => notStroke_eq hl x), Option.bind_some]
  congr 1
  rw [← List.not_all_eq_any_not, Bool.not_not]
 ·rw [decide_eq_false h]
  simp
theorem l27Strokes_eq {l : Lt} (hl : IsL l) {ms : List Ma} (hn : ms.length ≤ 1048576) : f114G KK l ms = some (strB l ms) := by
 have hh := iter_all (R := Bool) (body := fun L x => f114_b4 KK l ms (fun v0 => L v0) x) ms (fun q => (q : Int)) (stB l) (some false) (some (decide ((ms.length : Int) ≤ 100)))
  (fun L q hq => by
   unfold f114_b4 stB
   rw [in1 hq, in0, gd hq]
   simp only [Bool.and_self, cond_true]
   rw [l07Cell_eq hl, Option.bind_some]
   cases cellB l ms[q].1
   ·rfl
   ·simp only [Bool.not_true, Bool.not_false, cond_true, cond_false, Bool.true_and, Bool.or_true]
    rw [in_eq, Option.bind_some, w_succ (by omega)]
    show _ = bif okC ms[q].2 then _ else _
    unfold okC
    cases decide (0 ≤ ms[q].2 ∧ ms[q].2 ≤ 9) <;> rfl)
  (fun L => by
   unfold f114_b4
   rw [out1, cond_false]) KK 0 (by omega) (by simp only [KK]; omega)
 unfold f114G f114_g f114_l4 strB
 refine hh.trans ?_
 have e : decide ((ms.length : Int) ≤ 100) = decide (ms.length ≤ 100) := by rw [decide_eq_decide]; omega
 rw [List.drop_zero, e]
 cases ms.all (stB l)
 ·rfl
 ·rfl
def cvB (r : Sgr) (ls : List (List Ma)) : Sgr := bif r.2.2.2 != 0 then (0, (0, 0, 0), [], r.2.2.2) else bif ls.all (strB r.2.1) then r else (0, (0, 0, 0), [], 2)
theorem canvas_eq {a : ByteArray} {n : Int} {r : Sgr} (hr : f86G KK a n = some r) (hC : r.2.2.2 = 0 → codeC r.1 r.2.1 r.2.2.1 true = 0) {ls : List (List Ma)} (hn : ls.length ≤ 1000) : f118G KK a n ls = some (cvB r ls) := by
 unfold f118G f118_g cvB
 rw [hr, Option.bind_some]
 cases hc : r.2.2.2 != 0
 ·have h0 : r.2.2.2 = 0 := by simpa using hc
  have hl := (codeC_0 (hC h0)).1.la
  rw [cond_false, cond_false]
  have hh := iter_all (R := Sgr) (body := fun L x => f118_b4 KK a n ls r (fun v0 => L v0) x) ls (fun q => (q : Int)) (strB r.2.1) (some (0, (0, 0, 0), [], 2)) (some (r.1, r.2.1, r.2.2.1, 0))
   (fun L q hq => by
    unfold f118_b4
    rw [in1 hq, in0, gd hq]
    simp only [Bool.and_self, cond_true]
    rw [areStrokes_eq hl, Option.bind_some, w_succ (by omega)]
    cases strB r.2.1 ls[q] <;> rfl)
   (fun L => by
    unfold f118_b4
    rw [out1, cond_false]) KK 0 (by omega) (by simp only [KK]; omega)
  unfold f118_l4
  refine hh.trans ?_
  rw [List.drop_zero]
  cases ls.all (strB r.2.1)
  ·rfl
  ·rw [cond_true, cond_true, ← h0]
 ·rfl
def cellsB (l : Lt) (ms : List Ma) : Prop := ∀ x ∈ ms, cellB l x.1 = true
theorem str_in {l : Lt} {ms : List Ma} (h : strB l ms = true) : cellsB l ms ∧ ms.length ≤ 100 ∧ ∀ x ∈ ms, okC x.2 = true := by
 unfold strB at h
 rw [Bool.and_eq_true, decide_eq_true_eq] at h
 have ha := List.all_eq_true.1 h.1
 refine ⟨fun x hx => ?_, h.2, fun x hx => ?_⟩
 ·have := ha x hx
  unfold stB at this
  rw [Bool.and_eq_true] at this
  exact this.1
 ·have := ha x hx
  unfold stB at this
  rw [Bool.and_eq_true] at this
  exact this.2
def stepQ (k c : Int) (p : Nat × List Int) (a : Int) : Nat × List Int := (p.1 + 1, bif a == k then p.2.set p.1 c else p.2)
theorem stepQ_len (k c : Int) : ∀ (ns : List Int) (p : Nat × List Int), (ns.foldl (stepQ k c) p).2.length = p.2.length
 | [], _ => rfl
 | a :: ns, p => by
  rw [List.foldl_cons, stepQ_len k c ns]
  unfold stepQ
  cases a == k <;> simp
theorem stepQ_lt (k c : Int) : ∀ (ns : List Int) (p : Nat × List Int) (j : Nat), j < p.1 → (ns.foldl (stepQ k c) p).2[j]? = p.2[j]?
 | [], _, _, _ => rfl
 | a :: ns, p, j, hj => by
  rw [List.foldl_cons, stepQ_lt k c ns _ j (by show j < p.1 + 1; omega)]
  unfold stepQ
  cases a == k
  ·rfl
  ·show (p.2.set p.1 c)[j]? = _
   rw [List.getElem?_set_ne (by omega)]
theorem stepQ_get (k c : Int) : ∀ (ns : List Int) (p : Nat × List Int) (j : Nat) (hj : j < ns.length), p.1 + ns.length ≤ p.2.length → (ns.foldl (stepQ k c) p).2[p.1 + j]? = (p.2[p.1 + j]?).map fun b => bif k == ns[j] then c else b
 | [], _, _, hj, _ => absurd hj (by simp)
 | a :: ns, p, j, hj, hl => by
  rw [List.foldl_cons]
  rw [List.length_cons] at hl hj
  cases j with
  | zero =>
   rw [stepQ_lt k c ns _ _ (by show p.1 + 0 < p.1 + 1; omega)]
   have e : p.2[p.1 + 0]? = some p.2[p.1] := List.getElem?_eq_getElem (by omega)
   rw [e, List.getElem_cons_zero]
   unfold stepQ
   rw [show (k == a) = (a == k) from Bool.eq_iff_iff.2 (by rw [beq_iff_eq, beq_iff_eq]; exact ⟨Eq.symm, Eq.symm⟩)]
   cases a == k
   ·exact e
   ·show (p.2.set p.1 c)[p.1 + 0]? = some c
    rw [Nat.add_zero, List.getElem?_set_self (by omega)]
  | succ j =>
   have h := stepQ_get k c ns (stepQ k c p a) j (by omega) (by
    have : (stepQ k c p a).2.length = p.2.length := by unfold stepQ; cases a == k <;> simp
    rw [this]
    show p.1 + 1 + ns.length ≤ _
    omega)
   have e1 : (stepQ k c p a).1 + j = p.1 + (j + 1) := by show p.1 + 1 + j = _; omega
   rw [e1] at h
   rw [h, List.getElem_cons_succ]
   congr 1
   unfold stepQ
   cases a == k
   ·rfl
   ·show (p.2.set p.1 c)[p.1 + (j + 1)]? = _
    rw [List.getElem?_set_ne (by omega)]
def spS (l : Lt) (ns : List Int) (ms : List Ma) (s : List Int) : List Int := ms.foldl (fun s x => (ns.foldl (stepQ (nmS l ns x) x.2) (0, s)).2) s
theorem spS_len (l : Lt) (ns : List Int) : ∀ (ms : List Ma) (s : List Int), (spS l ns ms s).length = s.length
 | [], _ => rfl
 | x :: ms, s => by
  show (spS l ns ms (ns.foldl (stepQ (nmS l ns x) x.2) (0, s)).2).length = _
  rw [spS_len l ns ms, stepQ_len]
theorem spS_get (l : Lt) (ns : List Int) {j : Nat} (hj : j < ns.length) : ∀ (ms : List Ma) (s : List Int) (c : Int), s.length = ns.length → s[j]? = some c → (spS l ns ms s)[j]? = some (lastS l ns ms c ns[j])
 | [], s, c, _, hc => hc
 | x :: ms, s, c, hs, hc => by
  have h := stepQ_get (nmS l ns x) x.2 ns (0, s) j hj (by simp only; omega)
  simp only [Nat.zero_add] at h
  rw [hc] at h
  exact spS_get l ns hj ms _ _ (by rw [stepQ_len]; exact hs) h
def paintG (l : Lt) (g : List Mo) (ms : List Ma) : List Int := compS l g ms 0
theorem paintG_len (l : Lt) (g : List Mo) (ms : List Ma) : (paintG l g ms).length = (cellsS l).length := by
 unfold paintG compS
 rw [List.length_map, numsF_len']
theorem sp_same (l : Lt) (g : List Mo) (ms : List Ma) : spS l (numsF l g) ms (List.replicate (numsF l g).length 0) = paintG l g ms := by
 refine List.ext_getElem? fun j => ?_
 by_cases hj : j < (numsF l g).length
 ·rw [spS_get l (numsF l g) hj ms _ 0 (by simp) (by rw [List.getElem?_replicate, if_pos hj])]
  unfold paintG compS
  rw [List.getElem?_map, List.getElem?_eq_getElem hj]
  rfl
 ·rw [List.getElem?_eq_none (by rw [spS_len]; simp; omega), List.getElem?_eq_none (by rw [paintG_len, ← numsF_len' l g]; omega)]
theorem spaint_in {f : Int} {l : Lt} {g : List Mo} (h : OrbG f l g) {ms : List Ma} (hm : cellsB l ms) (hn : ms.length ≤ 1000) {j : Nat} (hj : j < ms.length) {s : List Int} (hs : s.length = (numsF l g).length) {L : Int → List Int → Option Pt} :
  f116_l12 KK f l g ms (j : Int) (numsF l g) L KK 0 s = L ((j + 1 : Nat) : Int) ((numsF l g).foldl (stepQ (nmS l (numsF l g) ms[j]) ms[j].2) (0, s)).2 := by
 have hN := cellsS_le h.la
 have hL := numsF_len' l g
 have hh := iter_fold (R := Pt) (body := fun L' x => f116_b12 KK f l g ms (j : Int) (numsF l g) L (fun v0 v1 => L' (v0, v1)) x.1 x.2) (numsF l g) (fun q p => ((q : Int), p.2)) (stepQ (nmS l (numsF l g) ms[j]) ms[j].2) (fun p => L ((j + 1 : Nat) : Int) p.2) (fun q p => p.1 = q ∧ p.2.length = (numsF l g).length)
  (fun L' q p hq hi => by
   obtain ⟨i1, i2⟩ := hi
   refine ⟨⟨by unfold stepQ; simp only; omega, by unfold stepQ; cases (numsF l g)[q] == nmS l (numsF l g) ms[j] <;> simp [i2]⟩, ?_⟩
   show f116_b12 KK f l g ms (j : Int) (numsF l g) L (fun v0 v1 => L' (v0, v1)) (q : Int) p.2 = _
   unfold f116_b12
   have n1 : numS l ms[j].1 < (numsF l g).length := by rw [hL]; exact numS_lt h.la _
   have hc := hm _ (List.getElem_mem hj)
   rw [in1 hq, in0, in1 hj, gd hj, l03Number_gen h.la (Sv_Sm (cellB_Sv h.la hc))]
   simp only [Bool.and_self, cond_true, Option.bind_some]
   rw [gd hq, in0, in1 n1, in0, in1 (show q < p.2.length by omega), getZ, w_succ (by omega)]
   simp only [Bool.and_self, cond_true]
   have e1 : ((0 : Int) + (q : Int)).toNat = p.1 := by omega
   rw [e1]
   unfold stepQ nmS
   cases (numsF l g)[q] == (numsF l g).getD (numS l ms[j].1) 0 <;> rfl)
  (fun L' p hi => by
   show f116_b12 KK f l g ms (j : Int) (numsF l g) L (fun v0 v1 => L' (v0, v1)) ((numsF l g).length : Int) p.2 = _
   unfold f116_b12
   rw [out1, cond_false, w_succ (by omega)]) KK 0 (0, s) (by omega) (by simp only [KK]; omega) ⟨rfl, hs⟩
 rw [List.drop_zero] at hh
 exact hh
theorem l27Paint_eq {f : Int} {l : Lt} {g : List Mo} (h : OrbG f l g) {ms : List Ma} (hm : cellsB l ms) (hn : ms.length ≤ 1000) : f116G KK f l g ms = some (f, l, paintG l g ms) := by
 have hN := cellsS_le h.la
 have hL := numsF_len' l g
 have hh := iter_fold (R := Pt) (body := fun L x => f116_b9 KK f l g ms (numsF l g) (fun c0 d0 d1 => f116_l12 KK f l g ms c0 (numsF l g) (fun v0 v1 => L (v0, v1)) KK d0 d1) (fun v0 v1 => L (v0, v1)) x.1 x.2) ms (fun q s => ((q : Int), s)) (fun s x => ((numsF l g).foldl (stepQ (nmS l (numsF l g) x) x.2) (0, s)).2) (fun s => some (f, l, s)) (fun q s => s.length = (numsF l g).length)
  (fun L q s hq hi => by
   refine ⟨by rw [stepQ_len]; exact hi, ?_⟩
   show f116_b9 KK f l g ms (numsF l g) _ (fun v0 v1 => L (v0, v1)) (q : Int) s = _
   unfold f116_b9
   rw [in1 hq, cond_true]
   exact spaint_in h hm hn hq hi)
  (fun L s hi => by
   show f116_b9 KK f l g ms (numsF l g) _ (fun v0 v1 => L (v0, v1)) (ms.length : Int) s = _
   unfold f116_b9
   rw [out1, cond_false]) KK 0 (List.replicate (numsF l g).length 0) (by omega) (by simp only [KK]; omega) (by simp)
 unfold f116G f116_g
 rw [l07Numbers_eq h, Option.bind_some]
 have e0 : (decide (0 ≤ ((numsF l g).length : Int)) && Nat.ble ((numsF l g).length : Int).toNat (lim 8) && (((numsF l g).length : Int) == ((numsF l g).length : Int))) = true := by
  rw [in0, show ((numsF l g).length : Int).toNat = (numsF l g).length by omega, blim8 (by omega)]; simp
 rw [e0, cond_true, show ((numsF l g).length : Int).toNat = (numsF l g).length by omega]
 rw [List.drop_zero] at hh
 refine Eq.trans hh ?_
 show some (f, l, spS l (numsF l g) ms (List.replicate (numsF l g).length 0)) = _
 rw [sp_same]
theorem ipaint_in {f : Int} {l : Lt} {g : List Mo} {ms : List Ma} {q : Nat} (hq : q < ms.length) (hqn : q ≤ 1000) {y1 : Pt} {o : List Vc} (hl : IsL l) (ho : ∀ u ∈ o, cellB l u = true) (hn : o.length ≤ 1000) {L : Int → List Int → Option Pt} {t : List Int} (ht : t.length = (cellsS l).length) :
  f120_l14 KK f l g ms (q : Int) y1 o L KK 0 t = L ((q + 1 : Nat) : Int) (setAll l ms[q].2 o t) := by
 have hh := iter_fold (R := Pt) (body := fun L' x => f120_b14 KK f l g ms (q : Int) y1 o L (fun v0 v1 => L' (v0, v1)) x.1 x.2) o (fun q s => ((q : Int), s)) (fun s u => s.set (numS l u) ms[q].2) (fun t => L ((q + 1 : Nat) : Int) t) (fun q s => s.length = (cellsS l).length)
  (fun L' i t hi hit => by
   refine ⟨by rw [List.length_set]; exact hit, ?_⟩
   show f120_b14 KK f l g ms (q : Int) y1 o L (fun v0 v1 => L' (v0, v1)) (i : Int) t = _
   unfold f120_b14
   have hlt := numS_lt hl o[i]
   rw [in1 hi, in0, gd hi, gd hq]
   simp only [Bool.and_self, cond_true]
   rw [number_eq hl (ho _ (List.getElem_mem hi)), Option.bind_some, in0, in1 (show numS l o[i] < t.length by omega), w_succ (by omega)]
   have e1 : ((0 : Int) + ((numS l o[i] : Nat) : Int)).toNat = numS l o[i] := by omega
   simp only [Bool.and_self, cond_true, e1])
  (fun L' t hit => by
   show f120_b14 KK f l g ms (q : Int) y1 o L (fun v0 v1 => L' (v0, v1)) (o.length : Int) t = _
   unfold f120_b14
   rw [out1, cond_false, w_succ (by omega)]) KK 0 t (by omega) (by simp only [KK]; omega) ht
 rw [List.drop_zero] at hh
 exact hh
theorem icomp_cells {l : Lt} (hl : IsL l) (g : List Mo) : ∀ (ms : List Ma) (s : List Int), cellsB l ms → ms.foldl (fun s x => setAll l x.2 (orbS l g x.1) s) s = icompS l g ms s
 | [], _, _ => rfl
 | x :: ms, s, h => by
  show ms.foldl _ (setAll l x.2 (orbS l g x.1) s) = icompS l g ms (setAll l x.2 (orbS l g (redS l x.1)) s)
  rw [redS_cell hl (h x (by simp))]
  exact icomp_cells hl g ms _ fun y hy => h y (by simp [hy])
theorem paint_eq {f : Int} {l : Lt} {g : List Mo} (h : OrbG f l g) {ms : List Ma} (hm : cellsB l ms) (hn : ms.length ≤ 1000) : f120G KK f l g ms = some (f, l, paintG l g ms) := by
 have hN := cellsS_le h.la
 have hgl := h.len
 have hh := iter_fold (R := Pt) (body := fun L x => f120_b10 KK f l g ms (f, l, List.replicate (cellsS l).length 0) (fun c0 c1 d0 d1 => f120_l14 KK f l g ms c0 (f, l, List.replicate (cellsS l).length 0) c1 (fun v0 v1 => L (v0, v1)) KK d0 d1) (fun v0 v1 => L (v0, v1)) x.1 x.2) ms (fun q s => ((q : Int), s)) (fun s x => setAll l x.2 (orbS l g x.1) s) (fun s => some (f, l, s)) (fun q s => s.length = (cellsS l).length)
  (fun L q t hq hi => by
   refine ⟨by rw [setAll_len]; exact hi, ?_⟩
   show f120_b10 KK f l g ms _ _ (fun v0 v1 => L (v0, v1)) (q : Int) t = _
   unfold f120_b10
   have hc := hm _ (List.getElem_mem hq)
   rw [in1 hq, in0, gd hq]
   simp only [Bool.and_self, cond_true]
   rw [orbitOf_eq h.la (by omega) h.good (cellB_Sv h.la hc), Option.bind_some]
   exact ipaint_in hq (by omega) h.la (fun u hu => orb_cell h hu) (by have := orbS_len l g ms[q].1; omega) hi)
  (fun L t hi => by
   show f120_b10 KK f l g ms _ _ (fun v0 v1 => L (v0, v1)) (ms.length : Int) t = _
   unfold f120_b10
   rw [out1, cond_false]) KK 0 (List.replicate (cellsS l).length 0) (by omega) (by simp only [KK]; omega) (by simp)
 unfold f120G f120_g
 rw [marked_gen h.la f 0 (o := []) (by simp) (by simp), Option.bind_some]
 rw [List.drop_zero, icomp_cells h.la g ms _ hm, comp_same h] at hh
 exact hh
end Go.Proofs.YtfccacobkcglcaaGreat.X
namespace Go.Proofs.YtfccacobkcglcaaGreat.X
open Go
structure Std (a : ByteArray) (n : Int) (r : Sgr) : Prop where
 sp : f143G KK a n = some r
 im : f86G KK a n = some r
 ok : r.2.2.2 = 0 → codeC r.1 r.2.1 r.2.2.1 true = 0
theorem std_get (a : ByteArray) (n : Int) : ∃ r, Std a n r := by
 obtain ⟨r, h1, h2, h3⟩ := std_main a n
 refine ⟨r, h1, h2, fun h0 => ?_⟩
 rcases h3 with ⟨_, h, _⟩ | ⟨h, _⟩
 ·exact h
 ·exact absurd h0 h
theorem Std.orb {a : ByteArray} {n : Int} {r : Sgr} (h : Std a n r) (h0 : r.2.2.2 = 0) : OrbG r.1 r.2.1 r.2.2.1 := (codeC_0 (h.ok h0)).1
theorem l27Canvas_eq {a : ByteArray} {n : Int} {r : Sgr} (h : Std a n r) : f113G KK a n = some r := by
 unfold f113G
 rw [h.sp]
 rfl
theorem cvB_code {r : Sgr} {ls : List (List Ma)} : (cvB r ls).2.2.2 = bif r.2.2.2 != 0 then r.2.2.2 else bif ls.all (strB r.2.1) then 0 else 2 := by
 unfold cvB
 cases hc : r.2.2.2 != 0
 ·have h0 : r.2.2.2 = 0 := by simpa using hc
  simp only [cond_false]
  cases ls.all (strB r.2.1)
  ·rfl
  ·exact h0
 ·rfl
theorem cvB_ok {r : Sgr} {ls : List (List Ma)} (h0 : r.2.2.2 = 0) (h : ls.all (strB r.2.1) = true) : cvB r ls = r := by
 unfold cvB
 rw [h0, h]
 rfl
end Go.Proofs.YtfccacobkcglcaaGreat.X
