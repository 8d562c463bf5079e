/- Plain facts: sublattices, marks of lists of lattices, lattices that fit marks. -/
import Derived.Test.YtfccacobkcglcaaGreatQgMS
namespace Go.Proofs.YtfccacobkcglcaaGreat.X
open Go
set_option linter.unusedSimpArgs false
set_option linter.unusedVariables false
def MkL (k : Int) (s : List Lt) (n : Nat) : Prop := ∀ i, i < n → s[i]? = some (k + 3 * (i : Int), k + 1 + 3 * (i : Int), k + 2 + 3 * (i : Int))
def subR (n i : Nat) : List Lt := bif ((n : Int).tmod ((i + 1 : Nat) : Int)) == 0 then (List.range (i + 1)).map (fun (b : Nat) => (((i + 1 : Nat) : Int), (b : Int), (n : Int).tdiv ((i + 1 : Nat) : Int))) else []
def subS (n : Nat) : List Lt := (List.range n).flatMap (subR n)
theorem div_ok {n i : Nat} (hn : n ≤ 64) : w ((n : Int).tdiv ((i + 1 : Nat) : Int)) = (n : Int).tdiv ((i + 1 : Nat) : Int) := by
 have e : (n : Int).tdiv ((i + 1 : Nat) : Int) = ((n / (i + 1) : Nat) : Int) := rfl
 have : n / (i + 1) ≤ n := Nat.div_le_self _ _
 rw [e]
 generalize n / (i + 1) = d at *
 exact w_id (by omega) (by omega)
theorem subR_IsL {n i : Nat} (hn : n ≤ 64) (hn1 : 1 ≤ n) (hi : i < n) {l : Lt} (h : l ∈ subR n i) : IsL l := by
 unfold subR at h
 cases hc : ((n : Int).tmod ((i + 1 : Nat) : Int)) == 0
 ·rw [hc] at h; cases h
 ·rw [hc, cT] at h
  obtain ⟨b, hb, rfl⟩ := List.mem_map.1 h
  rw [List.mem_range] at hb
  have e : (n : Int).tdiv ((i + 1 : Nat) : Int) = ((n / (i + 1) : Nat) : Int) := rfl
  have e2 : (n : Int).tmod ((i + 1 : Nat) : Int) = ((n % (i + 1) : Nat) : Int) := rfl
  rw [e2] at hc
  have hc : n % (i + 1) = 0 := Int.ofNat_eq_zero.1 (beq_iff_eq.1 hc)
  have hd := Nat.div_add_mod n (i + 1)
  rw [hc, Nat.add_zero] at hd
  have hle : n / (i + 1) ≤ n := Nat.div_le_self _ _
  have hpos : 0 < n / (i + 1) := Nat.div_pos (by omega) (by omega)
  rw [e]
  generalize n / (i + 1) = d at *
  have hm : ((i + 1 : Nat) : Int) * (d : Int) = (n : Int) := by rw [← Int.natCast_mul, hd]
  exact ⟨by simp only; omega, by simp only; omega, by simp only; omega, by simp only; omega, by simp only; omega, by simp only; omega, by simp only; omega⟩
theorem subS_IsL {n : Nat} (hn : n ≤ 64) (hn1 : 1 ≤ n) {l : Lt} (h : l ∈ subS n) : IsL l := by
 obtain ⟨i, hi, h⟩ := List.mem_flatMap.1 h
 exact subR_IsL hn hn1 (List.mem_range.1 hi) h
theorem subR_len (n i : Nat) : (subR n i).length ≤ i + 1 := by
 unfold subR
 cases ((n : Int).tmod ((i + 1 : Nat) : Int)) == 0 <;> simp
theorem foldl_if {α β : Type} (c : Bool) (g : α → β) : ∀ (l : List α) (s : List β), l.foldl (fun s a => bif c then s ++ [g a] else s) s = s ++ (bif c then l.map g else []) := by
 cases c
 ·intro l
  induction l with
  | nil => intro s; simp
  | cons a l ih => intro s; simpa using ih s
 ·intro l s
  simp only [cT]
  exact foldl_push g l s
theorem range_get {n q : Nat} (h : q < (List.range n).length) : (List.range n)[q] = q := by simp
theorem isub_in {n i : Nat} (hn : n ≤ 64) (hi : i < n) {s : List Lt} (hs : s.length ≤ 64 * i) {L : Int → List Lt → Option (List Lt)} : f293_l9 KK (n : Int) ((i + 1 : Nat) : Int) L KK 0 s = L ((i + 2 : Nat) : Int) (s ++ subR n i) := by
 have h0 : (((i + 1 : Nat) : Int) != 0) = true := by simp; omega
 have hh := iter_fold (R := List Lt) (body := fun L' x => f293_b9 KK (n : Int) ((i + 1 : Nat) : Int) L (fun v0 v1 => L' (v0, v1)) x.1 x.2) (List.range (i + 1)) (fun q s => ((q : Int), s)) (fun s b => bif ((n : Int).tmod ((i + 1 : Nat) : Int)) == 0 then s ++ [(((i + 1 : Nat) : Int), (b : Int), (n : Int).tdiv ((i + 1 : Nat) : Int))] else s) (fun s => L ((i + 2 : Nat) : Int) s) (fun q s => s.length ≤ 64 * i + q)
  (fun L' q s hq hi2 => by
   have hq1 : q < i + 1 := by simpa using hq
   refine ⟨by cases ((n : Int).tmod ((i + 1 : Nat) : Int)) == 0 <;> simp <;> omega, ?_⟩
   show f293_b9 KK (n : Int) ((i + 1 : Nat) : Int) L (fun v0 v1 => L' (v0, v1)) (q : Int) s = _
   unfold f293_b9
   rw [dT (show (q : Int) < ((i + 1 : Nat) : Int) by omega), h0, div_ok hn, blim24 (by simp; omega), w_succ (by omega), range_get]
   simp only [cT]
   cases ((n : Int).tmod ((i + 1 : Nat) : Int)) == 0 <;> rfl)
  (fun L' s _ => by
   show f293_b9 KK (n : Int) ((i + 1 : Nat) : Int) L (fun v0 v1 => L' (v0, v1)) ((List.range (i + 1)).length : Int) s = _
   unfold f293_b9
   rw [List.length_range, dF (show ¬ ((i + 1 : Nat) : Int) < ((i + 1 : Nat) : Int) by omega), cF, w_succ (by omega)]) KK 0 s (by omega) (by simp only [KK, List.length_range]; omega) (by omega)
 rw [List.drop_zero, foldl_if] at hh
 exact hh
theorem ssub_in {n i : Nat} (hn : n ≤ 64) (hi : i < n) {y : Bool} {s : List Lt} (hs : s.length ≤ 64 * i) {L : Int → List Lt → Option (List Lt × Int)} : f295_l10 KK (n : Int) ((i + 1 : Nat) : Int) y L KK 0 s = L ((i + 2 : Nat) : Int) (s ++ subR n i) := by
 have h0 : (((i + 1 : Nat) : Int) != 0) = true := by simp; omega
 cases hc : ((n : Int).tmod ((i + 1 : Nat) : Int)) == 0
 ·have e : f295_l10 KK (n : Int) ((i + 1 : Nat) : Int) y L KK 0 s = f295_b10 KK (n : Int) ((i + 1 : Nat) : Int) y L (fun v0 v1 => f295_l10 KK (n : Int) ((i + 1 : Nat) : Int) y L 2097151 v0 v1) 0 s := rfl
  rw [e]
  unfold f295_b10 subR
  rw [h0, hc]
  simp only [Bool.not_false, Bool.true_or, cT, cF]
  rw [w_succ (by omega), List.append_nil]
 ·have hh := iter_fold (R := List Lt × Int) (body := fun L' x => f295_b10 KK (n : Int) ((i + 1 : Nat) : Int) y L (fun v0 v1 => L' (v0, v1)) x.1 x.2) (List.range (i + 1)) (fun q s => ((q : Int), s)) (fun s b => bif ((n : Int).tmod ((i + 1 : Nat) : Int)) == 0 then s ++ [(((i + 1 : Nat) : Int), (b : Int), (n : Int).tdiv ((i + 1 : Nat) : Int))] else s) (fun s => L ((i + 2 : Nat) : Int) s) (fun q s => s.length ≤ 64 * i + q)
   (fun L' q s hq hi2 => by
    have hq1 : q < i + 1 := by simpa using hq
    refine ⟨by rw [hc]; simp; omega, ?_⟩
    show f295_b10 KK (n : Int) ((i + 1 : Nat) : Int) y L (fun v0 v1 => L' (v0, v1)) (q : Int) s = _
    unfold f295_b10
    rw [dT (show (q : Int) < ((i + 1 : Nat) : Int) by omega), h0, hc, div_ok hn, blim24 (by simp; omega), w_succ (by omega), range_get]
    simp only [nT, oT, cT])
   (fun L' s _ => by
    show f295_b10 KK (n : Int) ((i + 1 : Nat) : Int) y L (fun v0 v1 => L' (v0, v1)) ((List.range (i + 1)).length : Int) s = _
    unfold f295_b10
    rw [List.length_range, dF (show ¬ ((i + 1 : Nat) : Int) < ((i + 1 : Nat) : Int) by omega), h0, hc]
    simp only [nT, oT, cT, cF]
    rw [w_succ (by omega)]) KK 0 s (by omega) (by simp only [KK, List.length_range]; omega) (by omega)
  rw [List.drop_zero, foldl_if] at hh
  exact hh
theorem sub_fold (n : Nat) : ∀ (l : List Nat) (s : List Lt), l.foldl (fun s i => s ++ subR n i) s = s ++ l.flatMap (subR n) := fun l s => foldl_flat (subR n) l s
theorem sublattices_eq {n : Nat} (hn : n ≤ 64) : f293G KK (n : Int) = some (subS n) := by
 have hh := iter_fold (R := List Lt) (body := fun L x => f293_b6 KK (n : Int) (fun c0 d0 d1 => f293_l9 KK (n : Int) c0 (fun v0 v1 => L (v0, v1)) KK d0 d1) (fun v0 v1 => L (v0, v1)) x.1 x.2) (List.range n) (fun q s => (((q + 1 : Nat) : Int), s)) (fun s i => s ++ subR n i) some (fun q s => s.length ≤ 64 * q)
  (fun L q s hq hi => by
   have hq1 : q < n := by simpa using hq
   refine ⟨by have := subR_len n (List.range n)[q]; rw [range_get] at this ⊢; rw [List.length_append]; omega, ?_⟩
   show f293_b6 KK (n : Int) _ (fun v0 v1 => L (v0, v1)) ((q + 1 : Nat) : Int) s = _
   unfold f293_b6
   rw [dT (show ((q + 1 : Nat) : Int) ≤ (n : Int) by omega), cT, range_get]
   exact isub_in hn hq1 hi)
  (fun L s _ => by
   show f293_b6 KK (n : Int) _ (fun v0 v1 => L (v0, v1)) (((List.range n).length + 1 : Nat) : Int) s = _
   unfold f293_b6
   rw [List.length_range, dF (show ¬ ((n + 1 : Nat) : Int) ≤ (n : Int) by omega), cF]) KK 0 [] (by omega) (by simp only [KK, List.length_range]; omega) (by simp)
 rw [List.drop_zero, sub_fold, List.nil_append] at hh
 unfold f293G f293_g f293_l6
 exact hh
theorem sublatticesOf_eq {n : Nat} (hn : n ≤ 64) (hn1 : 1 ≤ n) : f295G KK (n : Int) = some (subS n, 0) := by
 have hh := iter_fold (R := List Lt × Int) (body := fun L x => f295_b7 KK (n : Int) true (fun c0 d0 d1 => f295_l10 KK (n : Int) c0 true (fun v0 v1 => L (v0, v1)) KK d0 d1) (fun v0 v1 => L (v0, v1)) x.1 x.2) (List.range n) (fun q s => (((q + 1 : Nat) : Int), s)) (fun s i => s ++ subR n i) (fun s => some (s, 0)) (fun q s => s.length ≤ 64 * q)
  (fun L q s hq hi => by
   have hq1 : q < n := by simpa using hq
   refine ⟨by have := subR_len n (List.range n)[q]; rw [range_get] at this ⊢; rw [List.length_append]; omega, ?_⟩
   show f295_b7 KK (n : Int) true _ (fun v0 v1 => L (v0, v1)) ((q + 1 : Nat) : Int) s = _
   unfold f295_b7
   rw [dT (show ((q + 1 : Nat) : Int) ≤ (n : Int) by omega), cT, range_get]
   exact ssub_in hn hq1 hi)
  (fun L s _ => by
   show f295_b7 KK (n : Int) true _ (fun v0 v1 => L (v0, v1)) (((List.range n).length + 1 : Nat) : Int) s = _
   unfold f295_b7
   rw [List.length_range, dF (show ¬ ((n + 1 : Nat) : Int) ≤ (n : Int) by omega), cF]) KK 0 [] (by omega) (by simp only [KK, List.length_range]; omega) (by simp)
 rw [List.drop_zero, sub_fold, List.nil_append] at hh
 unfold f295G f295_g f295_l7
 rw [in_eq, dT (show (1 : Int) ≤ (n : Int) ∧ (n : Int) ≤ 64 by omega), oB, nT, cF]
 exact hh
def delA {α : Type} (p : α → Bool) (s : Nat × List α) (a : α) : Nat × List α := bif p a then s else (s.1 + 1, s.2.set s.1 a)
structure DvA {α : Type} (p : α → Bool) (l : List α) (q : Nat) (s : Nat × List α) : Prop where
 n : s.2.length = l.length
 i : s.1 < q
 le : q ≤ l.length
 t : s.2.take s.1 = (l.take q).filter fun a => !p a
 d : s.2.drop q = l.drop q
theorem DvA_step {α : Type} {p : α → Bool} {l : List α} {q : Nat} {s : Nat × List α} (h : DvA p l q s) (hq : q < l.length) : DvA p l (q + 1) (delA p s l[q]) := by
 obtain ⟨h1, h2, h3, h4, h5⟩ := h
 have hd : s.2.drop (q + 1) = l.drop (q + 1) := by
  rw [← List.drop_drop, ← List.drop_drop, h5]
 have ht : l.take (q + 1) = l.take q ++ [l[q]] := by rw [List.take_add_one]; simp [hq]
 unfold delA
 cases hp : p l[q]
 ·simp only [cF]
  refine ⟨by simp [h1], by simp only; omega, hq, ?_, ?_⟩
  ·simp only
   rw [ht, List.filter_append, ← h4, List.take_add_one]
   congr 1
   ·rw [List.take_set_of_le (Nat.le_refl _)]
   ·rw [List.getElem?_set_self (by omega)]
    simp [hp]
  ·simp only
   rw [List.drop_set_of_lt (by omega), hd]
 ·simp only [cT]
  refine ⟨h1, by omega, hq, ?_, hd⟩
  rw [ht, List.filter_append, ← h4]
  simp [hp]
theorem deleteLt_eq (l : List Lt) (hn : l.length ≤ 100000) (f : Lt → Option Bool) (p : Lt → Bool) (hf : ∀ m ∈ l, f m = some (p m)) :
  f292G KK l f = some (l.filter fun a => !p a) := by
 have hidx : f346G KK l f = some (idxS p 0 l) := by
  have h := iter_idx (R := Int) (body := fun L x => f346_b3 KK l f (fun v0 => L v0) x) l p some
   (fun L q hq => by
    unfold f346_b3
    rw [in1 hq, in0, gd hq]
    simp only [aS, cT]
    rw [show f (l[q].1, l[q].2) = some (p l[q]) from hf _ (gM hq), oB, w_succ (by omega)])
   (fun L => by
    unfold f346_b3
    rw [out1, cF]) KK 0 (by omega) (by have := KKlt (n := l.length) (by omega); omega)
  unfold f346G f346_g f346_l3
  exact h
 unfold f292G f292_g
 rw [hidx]
 simp only [oB]
 rcases idxS_spec p l 0 with ⟨h1, h2⟩ | ⟨k, h1, h2, h3, b, h4, h5⟩
 ·rw [h1, filter_of_none h2]
  rfl
 ·rw [Nat.zero_add] at h2
  have hne : ((k : Int) == -1) = false := by
   rw [beq_eq_false_iff_ne]; omega
  rw [h2, hne, cF, w_succ (by omega)]
  have hb : l[k] = b := by
   rw [List.getElem?_eq_getElem h1] at h4
   exact Option.some.inj h4
  have hinv : DvA p l (k + 1) (k, l) := by
   refine ⟨rfl, by simp, h1, ?_, rfl⟩
   have ht : l.take (k + 1) = l.take k ++ [l[k]] := by rw [List.take_add_one]; simp [h1]
   simp only
   rw [ht, List.filter_append, filter_of_none h3, hb]
   simp [h5]
  have h := iter_fold (X := Int × Int × List Lt) (body := fun L x => f292_b4 KK f (k : Int) (fun v0 v1 v2 => L (v0, v1, v2)) x.1 x.2.1 x.2.2) l (fun q s => ((s.1 : Int), (q : Int), s.2)) (delA p) (fun s => some (s.2.take s.1)) (DvA p l)
   (fun L q s hq hi => by
    refine ⟨DvA_step hi hq, ?_⟩
    obtain ⟨i1, i2, i3, i4, i5⟩ := hi
    have hq2 : q < s.2.length := by omega
    have hs1 : s.1 < s.2.length := by omega
    have hg : s.2[q] = l[q] := by
     have h6 : (s.2.drop q)[0]? = (l.drop q)[0]? := by rw [i5]
     simpa [hq, hq2] using h6
    unfold f292_b4
    simp only
    rw [in1 hq2, in0, gd hq2, hg]
    simp only [aS, cT]
    rw [show f (l[q].1, l[q].2) = some (p l[q]) from hf _ (gM hq), oB, w_succ (by omega), w_succ (by omega)]
    unfold delA
    cases p l[q]
    ·simp only [Bool.not_false, cT, cF]
     rw [in1 hs1, in0]
     have hz : ((0 : Int) + (s.1 : Int)).toNat = s.1 := by omega
     rw [hz]
     rfl
    ·rfl)
   (fun L s hi => by
    obtain ⟨i1, i2, i3, i4, i5⟩ := hi
    unfold f292_b4
    simp only
    have ho : decide ((l.length : Int) < (s.2.length : Int)) = false := by simp; omega
    have hz : ((0 : Int) + (s.1 : Int)).toNat = s.1 := by omega
    have hz2 : (((0 : Int) + (s.1 : Int)) + (((0 : Int) + (s.2.length : Int)) - ((0 : Int) + (s.1 : Int)))).toNat = s.2.length := by omega
    have hc : (clr s.2 s.1 s.2.length ((0 : Int), ((0 : Int), (0 : Int)))).length = s.2.length := by
     unfold clr; simp; omega
    have hct : (clr s.2 s.1 s.2.length ((0 : Int), ((0 : Int), (0 : Int)))).take s.1 = s.2.take s.1 := by
     unfold clr
     rw [List.append_assoc, List.take_append_of_le_length (by simp; omega), List.take_take, Nat.min_self]
    rw [ho, cF, hz, hz2, hc, hct, in0]
    have d1 : decide ((s.1 : Int) ≤ (s.2.length : Int)) = true := by simp; omega
    rw [d1]
    simp) KK (k + 1) (k, l) h1 (by have := KKlt (n := l.length) (by omega); omega) hinv
  unfold f292_l4
  refine h.trans ?_
  have hf := foldl_inv (delA p) (fun q s => DvA p l q s) (l.drop (k + 1)) (k + 1) (k, l) hinv (fun i s hi hP => by
   have hlt : k + 1 + i < l.length := by simp at hi; omega
   have := DvA_step hP hlt
   simpa using this)
  have hend : k + 1 + (l.drop (k + 1)).length = l.length := by simp; omega
  rw [hend] at hf
  have := hf.t
  rw [List.take_length] at this
  exact congrArg some this
def noC (p : Ma → Ma → Bool) (ms : List Ma) : Nat → List Ma → Bool
 | _, [] => true
 | j, y :: r => bif (ms.take j).any (p y) then false else noC p ms (j + 1) r
theorem cfO_noC (l : Lt) (ns : List Int) (ms : List Ma) : ∀ (r : List Ma) (j : Nat), (cfO l ns ms j r).2.2 = !noC (cfB l ns) ms j r
 | [], _ => rfl
 | y :: r, j => by
  simp only [cfO, noC]
  cases (ms.take j).any (cfB l ns y)
  ·simp only [cF]; exact cfO_noC l ns ms r (j + 1)
  ·rfl
theorem noC_congr {p p' : Ma → Ma → Bool} (ms : List Ma) : ∀ (r : List Ma) (j : Nat), (∀ y ∈ r, ∀ x ∈ ms, p y x = p' y x) → noC p ms j r = noC p' ms j r
 | [], _, _ => rfl
 | y :: r, j, h => by
  simp only [noC]
  have e : (ms.take j).any (p y) = (ms.take j).any (p' y) := by
   rw [Bool.eq_iff_iff, List.any_eq_true, List.any_eq_true]
   exact ⟨fun ⟨x, hx, hp⟩ => ⟨x, hx, by rw [← h y (by simp) x (List.mem_of_mem_take hx)]; exact hp⟩, fun ⟨x, hx, hp⟩ => ⟨x, hx, by rw [h y (by simp) x (List.mem_of_mem_take hx)]; exact hp⟩⟩
  rw [e, noC_congr ms r (j + 1) fun z hz => h z (by simp [hz])]
def ftB (l : Lt) (y x : Ma) : Bool := (x.2 != y.2) && (numS l x.1 == numS l y.1)
def fitB (ms : List Ma) (l : Lt) : Bool := noC (ftB l) ms 0 ms
theorem uMo_orb {l : Lt} (hl : IsL l) : OrbG 0 l [uMo] := by
 have h0 : cellB l (0, 0) = true := cellB_iff.2 (by have := hl.a1; have := hl.c1; simp only; omega)
 have hmul : mulG l uMo uMo = uMo := by
  have e1 : mmS (1, 0, 0, 1) (1, 0, 0, 1) = ((1, 0, 0, 1) : Mt) := by decide
  have e2 : appS uMo ((0, 0) : Vc) = (0, 0) := by decide
  unfold mulG
  show ((mmS (1, 0, 0, 1) (1, 0, 0, 1), redS l (appS uMo (0, 0))) : Mo) = _
  rw [e1, e2, redS_cell hl h0]
  rfl
 have hg := grpB_of (f := 0) hl (g := [uMo]) (fun m hm => by
  rw [List.mem_singleton] at hm
  subst hm
  exact ⟨stab_one hl, h0⟩) (by simp) (by simp) (fun m hm n hn => by
  rw [List.mem_singleton] at hm hn
  subst hm
  subst hn
  rw [hmul]
  simp)
 refine ⟨hl, pre_of ?_, hg⟩
 unfold grpB at hg
 rw [aT] at hg
 exact hg.1
theorem uMo_orbit {l : Lt} (hl : IsL l) {u v : Vc} (hv : cellB l v = true) : (orbS l [uMo] v).contains u = (u == v) := by
 rw [Bool.eq_iff_iff, cM, orbS_mem, beq_iff_eq]
 constructor
 ·rintro ⟨m, hm, rfl⟩
  rw [List.mem_singleton] at hm
  subst hm
  exact mv_one hl hv
 ·rintro rfl
  exact ⟨uMo, by simp, (mv_one hl hv).symm⟩
theorem cf_ft {l : Lt} (hl : IsL l) (y x : Ma) : cfB l (numsF l [uMo]) y x = ftB l y x := by
 have hO := uMo_orb hl
 have hx := redS_isCell hl x.1
 have hy := redS_isCell hl y.1
 unfold cfB ftB
 rw [nm_ix hl, nm_ix hl, ix_same hO hy hx, uMo_orbit hl hx, Bool.and_comm]
 congr 1
 have e1 : numS l x.1 = numS l (redS l x.1) := by unfold numS; rw [red_red hl]
 have e2 : numS l y.1 = numS l (redS l y.1) := by unfold numS; rw [red_red hl]
 rw [e1, e2, Bool.eq_iff_iff, beq_iff_eq, beq_iff_eq]
 exact ⟨fun e => by rw [e], fun e => (num_inj hl hx hy e).symm⟩
theorem sfit_in {l : Lt} (hl : IsL l) {ms : List Ma} (hm : ∀ x ∈ ms, vecB x.1 = true) (hn : ms.length ≤ 1000) {j : Nat} (hj : j < ms.length) {L : Int → Option Bool} :
  f296_l11 KK l ms (j : Int) L KK 0 = bif (ms.take j).any (ftB l ms[j]) then some false else L ((j + 1 : Nat) : Int) := by
 have hlen : (ms.take j).length = j := by rw [List.length_take]; omega
 have h := iter_idx (R := Bool) (body := fun L' x => f296_b11 KK l ms (j : Int) L (fun v0 => L' v0) x) (ms.take j) (ftB l ms[j]) (fun i => bif decide (i ≥ 0) then some false else L ((j + 1 : Nat) : Int))
  (fun L' q hq => by
   obtain ⟨hqj, hqm, e⟩ := take_get hq
   unfold f296_b11
   rw [in1 hqj, in0, in1 hqm, gd hqm, in0, in1 hj, gd hj, l03Number_gen hl (vec_Sm (hm _ (gM hqm))), l03Number_gen hl (vec_Sm (hm _ (gM hj))), w_succ (by omega)]
   simp only [aS, cT, oT]
   rw [e]
   unfold ftB
   cases ms[q].2 != ms[j].2
   ·rfl
   ·simp only [cT, oB, Bool.true_and]
    have e3 : (((numS l ms[q].1 : Nat) : Int) == ((numS l ms[j].1 : Nat) : Int)) = (numS l ms[q].1 == numS l ms[j].1) := by
     rw [Bool.eq_iff_iff, beq_iff_eq, beq_iff_eq]
     omega
    rw [e3])
  (fun L' => by
   unfold f296_b11
   rw [hlen, out1, cF, w_succ (by omega)]
   rfl) KK 0 (by omega) (by simp only [KK]; omega)
 rw [List.drop_zero, idxS_any] at h
 exact h
theorem sfit_loop {l : Lt} (hl : IsL l) {ms : List Ma} (hm : ∀ x ∈ ms, vecB x.1 = true) (hn : ms.length ≤ 1000) : ∀ (n j : Nat), j ≤ ms.length → ms.length - j < n → f296_l9 KK l ms n (j : Int) = some (noC (ftB l) ms j (ms.drop j))
 | 0, j, _, h => by omega
 | n + 1, j, hj, h => by
  show f296_b9 KK l ms (fun c0 d0 => f296_l11 KK l ms c0 (fun v0 => f296_l9 KK l ms n v0) KK d0) (fun v0 => f296_l9 KK l ms n v0) (j : Int) = _
  unfold f296_b9
  by_cases hlt : j < ms.length
  ·rw [in1 hlt, cT, List.drop_eq_getElem_cons hlt]
   refine (sfit_in hl hm hn hlt).trans ?_
   simp only [noC]
   cases (ms.take j).any (ftB l ms[j])
   ·rw [cF, cF]
    exact sfit_loop hl hm hn n (j + 1) (by omega) (by omega)
   ·rfl
  ·have e : j = ms.length := by omega
   subst e
   rw [out1, cF, List.drop_length]
   rfl
theorem l19Fits_eq {l : Lt} (hl : IsL l) {ms : List Ma} (hm : ∀ x ∈ ms, vecB x.1 = true) (hn : ms.length ≤ 1000) : f296G KK l ms = some (fitB ms l) := by
 unfold f296G f296_g
 exact sfit_loop hl hm hn KK 0 (by omega) (by simp only [KK]; omega)
def fitS (ms : List Ma) (n : Nat) : List Lt := (subS n).filter (fitB ms)
theorem subS_len {n : Nat} (hn : n ≤ 64) : (subS n).length ≤ 5000 := by
 have h := flatMap_len' (subR n) (List.range n) 64 (fun i hi => by
  have := subR_len n i
  have := List.mem_range.1 hi
  omega)
 rw [List.length_range] at h
 unfold subS
 have : n * 64 ≤ 64 * 64 := Nat.mul_le_mul_right _ hn
 omega
 where
 flatMap_len' {α β : Type} (f : α → List β) : ∀ (l : List α) (B : Nat), (∀ a ∈ l, (f a).length ≤ B) → (l.flatMap f).length ≤ l.length * B
  | [], B, _ => by simp
  | a :: l, B, h => by
   rw [List.flatMap_cons, List.length_append, List.length_cons, Nat.add_mul]
   have := flatMap_len' f l B fun b hb => h b (by simp [hb])
   have := h a (by simp)
   omega
theorem fittingLattices_eq {ms : List Ma} (hm : ∀ x ∈ ms, vecB x.1 = true) (hn : ms.length ≤ 1000) {n : Nat} (h1 : 1 ≤ n) (h64 : n ≤ 64) : f202G KK ms (n : Int) = some (fitS ms n) := by
 unfold f202G f231G
 have hlen := subS_len h64
 rw [oB, sublattices_eq h64, oB]
 rw [deleteLt_eq (subS n) (by omega) (fun z3 => f294G KK z3 [((1, 0, 0, 1), 0, 0)] ms) (fun l => !fitB ms l) (fun l hl => by
  change f294G KK l [uMo] ms = _
  have hL := subS_IsL h64 h1 hl
  unfold f294G
  rw [conflictOf_eq (uMo_orb hL) hm hn, oB, cfO_noC]
  unfold fitB
  rw [noC_congr ms ms 0 fun y _ x _ => cf_ft hL y x])]
 rw [oB]
 unfold fitS
 simp only [Bool.not_not]
theorem l19Lattices_eq {ms : List Ma} (hm : ∀ x ∈ ms, vecB x.1 = true) (hn : ms.length ≤ 1000) {n : Nat} (h1 : 1 ≤ n) (h64 : n ≤ 64) : f203G KK ms (n : Int) = some (fitS ms n) := by
 have hlen := subS_len h64
 have hh := iter_fold (R := List Lt) (body := fun L x => f203_b4 KK ms (n : Int) (subS n, 0) (fun v0 v1 => L (v0, v1)) x.1 x.2) (subS n) (fun q s => ((q : Int), s)) (fun s l => bif fitB ms l then s ++ [l] else s) some (fun q s => s.length ≤ q)
  (fun L q s hq hi => by
   refine ⟨by cases fitB ms (subS n)[q] <;> simp <;> omega, ?_⟩
   show f203_b4 KK ms (n : Int) (subS n, 0) (fun v0 v1 => L (v0, v1)) (q : Int) s = _
   unfold f203_b4
   have hL := subS_IsL h64 h1 (gM hq)
   simp only
   rw [in1 hq, in0, gd hq]
   simp only [aS, cT]
   rw [show f296G KK ((subS n)[q].1, (subS n)[q].2) ms = some (fitB ms (subS n)[q]) from l19Fits_eq hL hm hn, oB, blim24 (by simp; omega), w_succ (by omega)]
   cases fitB ms (subS n)[q] <;> rfl)
  (fun L s _ => by
   show f203_b4 KK ms (n : Int) (subS n, 0) (fun v0 v1 => L (v0, v1)) ((subS n).length : Int) s = _
   unfold f203_b4
   simp only
   rw [out1, cF]) KK 0 [] (by omega) (by simp only [KK]; omega) (by simp)
 unfold f203G f203_g
 rw [sublatticesOf_eq h64 h1, oB]
 rw [List.drop_zero] at hh
 refine hh.trans ?_
 have e := foldl_filter (fitB ms) (fun l : Lt => l) (subS n) []
 rw [List.nil_append, List.map_id'] at e
 rw [e]
 rfl
theorem fitS_len (ms : List Ma) {n : Nat} (h64 : n ≤ 64) : (fitS ms n).length ≤ 5000 := Nat.le_trans (List.length_filter_le _ _) (subS_len h64)
end Go.Proofs.YtfccacobkcglcaaGreat.X
