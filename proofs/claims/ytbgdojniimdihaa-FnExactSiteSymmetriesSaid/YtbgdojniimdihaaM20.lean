/- Plain facts: motions that fix a cell; kinds of matrices; marks on lists of vectors. -/
import Derived.Test.YtbgdojniimdihaaM12
namespace Go.Proofs.Ytbgdojniimdihaa.X
open Go
set_option linter.unusedVariables false
def fixS (l : Lt) (v : Vc) (g : Mo) : Bool := redS l (appS g v) == v
def GoodM (g : Mo) : Prop := g.1 ∈ pmQ ++ pmH ∧ Sv g.2
theorem group_good {p : Pt} (hp : IsP p) {g : Mo} (h : g ∈ groupS p) : GoodM g :=
  ⟨stab_mem (groupS_mem h).1, cell_Sv hp.l (groupS_mem h).2⟩
theorem l07Move_eq {l : Lt} (hl : IsL l) {g : Mo} (hg : GoodM g) {v : Vc} (hv : Sv v) : f66G KK l g v = some (redS l (appS g v)) := by
  unfold f66G
  rw [l05Apply_eq (pm_sm hg.1) hv hg.2, Option.bind_some, l03Reduce_eq hl (appS_Sm (pm_sm hg.1) hv hg.2)]
  rfl
theorem take_eq {l : Lt} (hl : IsL l) {g : Mo} (hg : GoodM g) {v : Vc} (hv : Sv v) : f115G KK l g v = some (redS l (appS g v)) := by
  unfold f115G
  rw [motApply_eq (pm_sm hg.1) hv hg.2, Option.bind_some, reduce_eq hl (appS_Sm (pm_sm hg.1) hv hg.2)]
  rfl
theorem l14Fixing_eq {l : Lt} (hl : IsL l) {gs : List Mo} (hn : gs.length ≤ 100000) (hg : ∀ g ∈ gs, GoodM g) {v : Vc} (hv : Sv v) : f74G KK l gs v = some (gs.foldl (fun s g => bif fixS l v g then s + 1 else s) (0 : Int)) := by
  have h := iter_fold (X := Int × Int) (body := fun L x => f74_b3 KK l gs v (fun v0 v1 => L (v0, v1)) x.1 x.2) gs (fun q s => (s, (q : Int))) (fun s g => bif fixS l v g then s + 1 else s) (fun s => some s) (fun q s => 0 ≤ s ∧ s ≤ (q : Int))
    (fun L q s hq hi => by
      refine ⟨?_, ?_⟩
      · cases fixS l v gs[q] <;> simp <;> omega
      unfold f74_b3
      simp only
      rw [in1 hq, in0, gd hq, w_succ (by omega), w_id (n := s + 1) (by omega) (by omega)]
      simp only [Bool.and_self, cond_true]
      rw [show f66G KK l ((gs[q].1.1, gs[q].1.2.1, gs[q].1.2.2), gs[q].2) v = some (redS l (appS gs[q] v)) from l07Move_eq hl (hg _ (List.getElem_mem hq)) hv, Option.bind_some]
      rw [show (((redS l (appS gs[q] v)).1 == v.1) && ((redS l (appS gs[q] v)).2 == v.2)) = fixS l v gs[q] from rfl]
      cases fixS l v gs[q] <;> rfl)
    (fun L s hi => by
      unfold f74_b3
      simp only
      rw [out1, cond_false]) KK 0 0 (by omega) (by have := KKlt (n := gs.length) (by omega); omega) (by simp)
  unfold f74G f74_g f74_l3
  refine h.trans ?_
  simp only [List.drop_zero]
theorem fold_pos {α : Type} (p : α → Bool) : ∀ (l : List α) (s : Int), 0 ≤ s → (0 < l.foldl (fun s g => bif p g then s + 1 else s) s ↔ 0 < s ∨ l.any p = true)
  | [], s, h => by simp
  | a :: l, s, h => by
    rw [List.foldl_cons, List.any_cons]
    cases hp : p a
    · rw [cond_false, fold_pos p l s h]
      simp
    · rw [cond_true, fold_pos p l (s + 1) (by omega)]
      simp
      omega
theorem stabiliserOf_eq {l : Lt} (hl : IsL l) {gs : List Mo} (hn : gs.length ≤ 100000) (hg : ∀ g ∈ gs, GoodM g) {v : Vc} (hv : Sv v) : f68G KK l gs v = some (gs.filter (fixS l v)) := by
  have h := iter_fold (X := Int × List Mo) (body := fun L x => f68_b3 KK l gs v (fun v0 v1 => L (v0, v1)) x.1 x.2) gs (fun q s => ((q : Int), s)) (fun s g => bif fixS l v g then s ++ [g] else s) (fun s => some s) (fun q s => s.length ≤ q)
    (fun L q s hq hi => by
      refine ⟨?_, ?_⟩
      · cases fixS l v gs[q] <;> simp <;> omega
      unfold f68_b3
      simp only
      rw [in1 hq, in0, gd hq, w_succ (by omega)]
      simp only [Bool.and_self, cond_true]
      rw [show f115G KK l ((gs[q].1.1, gs[q].1.2.1, gs[q].1.2.2), gs[q].2) v = some (redS l (appS gs[q] v)) from take_eq hl (hg _ (List.getElem_mem hq)) hv, Option.bind_some]
      rw [show (((redS l (appS gs[q] v)).1 == v.1) && ((redS l (appS gs[q] v)).2 == v.2)) = fixS l v gs[q] from rfl, blim48 (by simp; omega)]
      cases fixS l v gs[q] <;> rfl)
    (fun L s hi => by
      unfold f68_b3
      simp only
      rw [out1, cond_false]) KK 0 [] (by omega) (by have := KKlt (n := gs.length) (by omega); omega) (by simp)
  unfold f68G f68_g f68_l3
  refine h.trans ?_
  simp only [List.drop_zero]
  have := foldl_filter (fixS l v) (fun g : Mo => g) gs []
  rw [List.map_id', List.nil_append] at this
  exact congrArg some this
noncomputable def ordS (m : Mt) : Int := (f77G KK m).getD 0
noncomputable def kindS (m : Mt) : Int := (f73G KK m).getD 0
noncomputable def kchk (m : Mt) : Bool := (f77G KK m == some (ordS m)) && (f73G KK m == some (kindS m)) && (bif detS m == 1 then kindS m == ordS m else kindS m == -2)
theorem kchk_all : (pmQ ++ pmH).all kchk = true := by kernel_rfl
theorem kind_all {m : Mt} (hm : m ∈ pmQ ++ pmH) : f77G KK m = some (ordS m) ∧ f73G KK m = some (kindS m) ∧ (detS m = 1 → kindS m = ordS m) ∧ (detS m ≠ 1 → kindS m = -2) := by
  have h := List.all_eq_true.mp kchk_all m hm
  unfold kchk at h
  simp only [Bool.and_eq_true, beq_iff_eq] at h
  obtain ⟨⟨h1, h2⟩, h3⟩ := h
  refine ⟨h1, h2, fun hd => ?_, fun hd => ?_⟩
  · rw [show (detS m == 1) = true by simp [hd], cond_true] at h3
    exact beq_iff_eq.mp h3
  · rw [show (detS m == 1) = false by simp [hd], cond_false] at h3
    exact beq_iff_eq.mp h3
theorem eqVecS_eq {l : List Vc} (hl : l.length ≤ 1000000) : f27G KK l l = some true := by
  unfold f27G f27_g f27_l3
  rw [show ((l.length : Int) != (l.length : Int)) = false by simp, cond_false]
  have h := iter_all (X := Int) (body := fun L x => f27_b3 KK l l (fun v0 => L v0) x) l (fun q => (q : Int)) (fun _ => true) (some false) (some true)
    (fun L q hq => by
      unfold f27_b3 f64G
      rw [in1 hq, in0, gd hq, w_succ (by omega)]
      simp)
    (fun L => by
      unfold f27_b3
      rw [out1, cond_false]) KK 0 (by omega) (by have := KKlt hl; omega)
  refine h.trans ?_
  rw [List.drop_zero, show (l.all fun _ => true) = true from List.all_eq_true.mpr (by simp)]
  rfl
theorem markInt64S_some (l : List Int) (hl : l.length ≤ 1048576) : ∃ l', f70G KK l 1 = some (l', 1 + (l.length : Int)) := by
  have h := iter_fold (X := Int × Int × List Int) (body := fun L x => f70_b2 KK (fun v0 v1 v2 => L (v0, v1, v2)) x.1 x.2.1 x.2.2) (List.range l.length) (fun q (s : Int × List Int) => (s.1, (q : Int), s.2)) (fun s q => (s.1 + 1, s.2.set q s.1)) (fun s => some (s.2, s.1)) (fun q s => s.1 = 1 + (q : Int) ∧ s.2.length = l.length)
    (fun L q s hq hi => by
      rw [List.length_range] at hq
      simp only [List.getElem_range]
      obtain ⟨i1, i2⟩ := hi
      refine ⟨⟨by omega, by rw [List.length_set]; exact i2⟩, ?_⟩
      unfold f70_b2
      simp only
      have hz : ((0 : Int) + (q : Int)).toNat = q := by omega
      rw [in1 (show q < s.2.length by omega), in0, w_succ (by omega), w_id (n := s.1 + 1) (by omega) (by omega), hz]
      rfl)
    (fun L s hi => by
      obtain ⟨i1, i2⟩ := hi
      unfold f70_b2
      simp only [List.length_range] at i1 ⊢
      rw [show decide ((l.length : Int) < (s.2.length : Int)) = false by simp; omega, cond_false]) KK 0 (1, l) (by omega) (by simp only [List.length_range, KK]; omega) (by simp)
  have hf := foldl_inv (fun (s : Int × List Int) (q : Nat) => (s.1 + 1, s.2.set q s.1)) (fun q s => s.1 = 1 + (q : Int) ∧ s.2.length = l.length) (List.range l.length) 0 (1, l) (by simp) (fun i s hi hP => by
    obtain ⟨i1, i2⟩ := hP
    refine ⟨by simp only; omega, by simp only [List.length_set]; exact i2⟩)
  rw [List.drop_zero] at h
  simp only [Nat.zero_add, List.length_range] at hf
  generalize (List.range l.length).foldl (fun (s : Int × List Int) (q : Nat) => (s.1 + 1, s.2.set q s.1)) (1, l) = r at *
  refine ⟨r.2, ?_⟩
  unfold f70G f70_g f70_l2
  rw [← hf.1]
  exact h
theorem markPattern_some (p : Pt) (hl : p.2.2.length ≤ 1048576) : f31G KK p 1 = some (1 + (p.2.2.length : Int)) := by
  obtain ⟨l', h⟩ := markInt64S_some p.2.2 hl
  unfold f31G
  rw [h]
  rfl
/-- the vectors are marked one after the other -/
def MkV (s : List Vc) (n : Nat) : Prop := ∀ i, i < n → s[i]? = some (1 + 2 * (i : Int), 2 + 2 * (i : Int))
theorem markVecS_some (l : List Vc) (hl : l.length ≤ 1000000) : ∃ s, f36G KK l 1 = some (s, 1 + 2 * (l.length : Int)) ∧ s.length = l.length ∧ MkV s l.length := by
  have hst : ∀ q (s : Int × List Vc), q < l.length → (s.1 = 1 + 2 * (q : Int) ∧ s.2.length = l.length ∧ MkV s.2 q) → (s.1 + 2 = 1 + 2 * ((q + 1 : Nat) : Int) ∧ (s.2.set q (s.1, s.1 + 1)).length = l.length ∧ MkV (s.2.set q (s.1, s.1 + 1)) (q + 1)) := by
    rintro q s hq ⟨i1, i2, i3⟩
    refine ⟨by omega, by simp [i2], ?_⟩
    intro i hi
    by_cases h : i = q
    · subst h
      rw [List.getElem?_set_self (by omega), i1]
      congr 2
      omega
    · rw [List.getElem?_set_ne (by omega)]
      exact i3 i (by omega)
  have h := iter_fold (X := Int × Int × List Vc) (body := fun L x => f36_b2 KK (fun v0 v1 v2 => L (v0, v1, v2)) x.1 x.2.1 x.2.2) (List.range l.length) (fun q (s : Int × List Vc) => (s.1, (q : Int), s.2)) (fun s q => (s.1 + 2, s.2.set q (s.1, s.1 + 1))) (fun s => some (s.2, s.1)) (fun q s => s.1 = 1 + 2 * (q : Int) ∧ s.2.length = l.length ∧ MkV s.2 q)
    (fun L q s hq hi => by
      rw [List.length_range] at hq
      simp only [List.getElem_range]
      refine ⟨hst q s hq hi, ?_⟩
      obtain ⟨i1, i2, i3⟩ := hi
      unfold f36_b2
      simp only
      have hz : ((0 : Int) + (q : Int)).toNat = q := by omega
      have hq2 : q < s.2.length := by omega
      rw [in1 hq2, in0, w_succ (by omega), w_id (n := s.1 + 1) (by omega) (by omega), w_id (n := s.1 + 1 + 1) (by omega) (by omega), hz, List.length_set, in1 hq2, List.set_set]
      simp only [Bool.and_self, cond_true]
      have e2 : ∀ d : Vc, ((s.2.set q (s.1, (s.2.getD q d).2)).getD q d).1 = s.1 := by
        intro d
        simp [List.getD, hq2]
      rw [e2]
      have e3 : s.1 + 1 + 1 = s.1 + 2 := by omega
      rw [e3])
    (fun L s hi => by
      obtain ⟨i1, i2, i3⟩ := hi
      unfold f36_b2
      simp only [List.length_range] at i1 ⊢
      rw [show decide ((l.length : Int) < (s.2.length : Int)) = false by simp; omega, cond_false]) KK 0 (1, l) (by omega) (by simp only [List.length_range, KK]; omega) ⟨by simp, rfl, fun i hi => by omega⟩
  have hf := foldl_inv (fun (s : Int × List Vc) (q : Nat) => (s.1 + 2, s.2.set q (s.1, s.1 + 1))) (fun q s => s.1 = 1 + 2 * (q : Int) ∧ s.2.length = l.length ∧ MkV s.2 q) (List.range l.length) 0 (1, l) ⟨by simp, rfl, fun i hi => by omega⟩ (fun i s hi hP => by
    rw [List.length_range] at hi
    rw [Nat.zero_add] at hP ⊢
    simp only [List.getElem_range]
    exact hst i s hi hP)
  rw [List.drop_zero] at h
  simp only [Nat.zero_add, List.length_range] at hf
  generalize (List.range l.length).foldl (fun (s : Int × List Vc) (q : Nat) => (s.1 + 2, s.2.set q (s.1, s.1 + 1))) (1, l) = r at *
  refine ⟨r.2, ?_, hf.2.1, hf.2.2⟩
  unfold f36G f36_g f36_l2
  rw [← hf.1]
  exact h
theorem heldVecS_eq (s : List Vc) (hl : s.length ≤ 1000000) (hm : MkV s s.length) : f37G KK s 1 = some (1 + 2 * (s.length : Int)) := by
  have h := iter_fold (X := Int × Int) (body := fun L x => f37_b2 KK s (fun v0 v1 => L (v0, v1)) x.1 x.2) s (fun q k => (k, (q : Int))) (fun k _ => k + 2) (fun k => some k) (fun q k => k = 1 + 2 * (q : Int))
    (fun L q k hq hi => by
      refine ⟨by omega, ?_⟩
      have h1 := hm q hq
      rw [List.getElem?_eq_getElem hq, Option.some.injEq] at h1
      unfold f37_b2
      simp only
      rw [in1 hq, in0, gd hq, w_succ (by omega), w_id (n := k + 1) (by omega) (by omega), w_id (n := k + 1 + 1) (by omega) (by omega), h1]
      have e1 : ((1 + 2 * (q : Int)) != k) = false := by simp; omega
      have e2 : ((2 + 2 * (q : Int)) != k + 1) = false := by simp; omega
      simp only [Bool.and_self, cond_true, e1, e2, cond_false]
      have e3 : k + 1 + 1 = k + 2 := by omega
      rw [e3])
    (fun L k hi => by
      unfold f37_b2
      simp only
      rw [out1, cond_false]) KK 0 1 (by omega) (by have := KKlt hl; omega) (by simp)
  have hf := foldl_inv (fun (k : Int) (_ : Vc) => k + 2) (fun q k => k = 1 + 2 * (q : Int)) s 0 1 (by simp) (fun i k hi hP => by omega)
  rw [List.drop_zero] at h
  simp only [Nat.zero_add] at hf
  unfold f37G f37_g f37_l2
  rw [← hf]
  exact h
end Go.Proofs.Ytbgdojniimdihaa.X
