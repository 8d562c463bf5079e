/- Plain facts: deleting from a list by a test. -/
import Derived.Test.YtbgdojniimdihaaM8
namespace Go.Proofs.Ytbgdojniimdihaa.X
open Go
set_option linter.unusedVariables false
/-- the first place, from q on, where the test holds; -1 if there is none -/
def idxS {α : Type} (p : α → Bool) : Nat → List α → Int
  | _, [] => -1
  | q, a :: l => bif p a then (q : Int) else idxS p (q + 1) l
theorem iter_idx {R α : Type} {body : (Int → Option R) → Int → Option R} (l : List α) (p : α → Bool) (fin : Int → Option R)
    (h1 : ∀ L q (hq : q < l.length), body L (q : Int) = bif p l[q] then fin (q : Int) else L ((q + 1 : Nat) : Int))
    (h2 : ∀ L, body L (l.length : Int) = fin (-1)) : ∀ n q, q ≤ l.length → l.length - q < n → iter body n (q : Int) = fin (idxS p q (l.drop q))
  | 0, q, _, hn => by omega
  | n + 1, q, hq, hn => by
    show body (iter body n) (q : Int) = _
    by_cases hlt : q < l.length
    · rw [h1 _ q hlt, iter_idx l p fin h1 h2 n (q + 1) hlt (by omega), List.drop_eq_getElem_cons hlt]
      simp only [idxS]
      cases p l[q] <;> simp
    · have : q = l.length := by omega
      subst this
      rw [h2, List.drop_length]
      rfl
theorem idxS_spec {α : Type} (p : α → Bool) : ∀ (l : List α) (q : Nat), (idxS p q l = -1 ∧ ∀ a ∈ l, p a = false) ∨ (∃ k, k < l.length ∧ idxS p q l = ((q + k : Nat) : Int) ∧ (∀ a ∈ l.take k, p a = false) ∧ ∃ a, l[k]? = some a ∧ p a = true)
  | [], q => Or.inl ⟨rfl, by simp⟩
  | a :: l, q => by
    simp only [idxS]
    cases h : p a
    · rcases idxS_spec p l (q + 1) with ⟨h1, h2⟩ | ⟨k, h1, h2, h3, b, h4, h5⟩
      · left
        refine ⟨by simpa using h1, ?_⟩
        intro b hb
        rcases List.mem_cons.mp hb with rfl | hb
        · exact h
        · exact h2 b hb
      · right
        refine ⟨k + 1, by simp; omega, by simp [h2]; omega, ?_, b, by simpa using h4, h5⟩
        intro c hc
        rw [List.take_succ_cons] at hc
        rcases List.mem_cons.mp hc with rfl | hc
        · exact h
        · exact h3 c hc
    · right
      exact ⟨0, by simp, by simp, by simp, a, by simp, h⟩
theorem filter_of_none {α : Type} {p : α → Bool} {l : List α} (h : ∀ a ∈ l, p a = false) : l.filter (fun a => !p a) = l :=
  List.filter_eq_self.mpr fun a ha => by simp [h a ha]
abbrev Ds := Nat × List Mt
def delI (p : Mt → Bool) (s : Ds) (a : Mt) : Ds := bif p a then s else (s.1 + 1, s.2.set s.1 a)
structure Dv2 (p : Mt → Bool) (l : List Mt) (q : Nat) (s : Ds) : Prop where
  n : s.2.length = l.length
  i : s.1 < q
  le : q ≤ l.length
  t : s.2.take s.1 = (l.take q).filter fun a => !p a
  d : s.2.drop q = l.drop q
theorem Dv2_step {p : Mt → Bool} {l : List Mt} {q : Nat} {s : Ds} (h : Dv2 p l q s) (hq : q < l.length) : Dv2 p l (q + 1) (delI p s l[q]) := by
  obtain ⟨h1, h2, h3, h4, h5⟩ := h
  have hd : s.2.drop (q + 1) = l.drop (q + 1) := by
    rw [← List.drop_drop, ← List.drop_drop, h5]
  have ht : l.take (q + 1) = l.take q ++ [l[q]] := by rw [List.take_add_one]; simp [hq]
  unfold delI
  cases hp : p l[q]
  · simp only [cond_false]
    refine ⟨by simp [h1], by simp only; omega, hq, ?_, ?_⟩
    · simp only
      rw [ht, List.filter_append, ← h4, List.take_add_one]
      congr 1
      · rw [List.take_set_of_le (Nat.le_refl _)]
      · rw [List.getElem?_set_self (by omega)]
        simp [hp]
    · simp only
      rw [List.drop_set_of_lt (by omega), hd]
  · simp only [cond_true]
    refine ⟨h1, by omega, hq, ?_, hd⟩
    rw [ht, List.filter_append, ← h4]
    simp [hp]
theorem deleteFunc_eq (l : List Mt) (hn : l.length ≤ 1000) (f : Mt → Option Bool) (p : Mt → Bool) (hf : ∀ m ∈ l, f m = some (p m)) :
    f161G KK l f = some (l.filter fun a => !p a) := by
  have hidx : f193G KK l f = some (idxS p 0 l) := by
    have h := iter_idx (R := Int) (body := fun L x => f193_b3 KK l f (fun v0 => L v0) x) l p some
      (fun L q hq => by
        unfold f193_b3
        rw [in1 hq, in0, gd hq]
        simp only [Bool.and_self, cond_true]
        rw [show f (l[q].1, l[q].2.1, l[q].2.2) = some (p l[q]) from hf _ (List.getElem_mem hq), Option.bind_some, w_succ (by omega)])
      (fun L => by
        unfold f193_b3
        rw [out1, cond_false]) KK 0 (by omega) (by have := KKlt (n := l.length) (by omega); omega)
    unfold f193G f193_g f193_l3
    exact h
  unfold f161G f161_g
  rw [hidx]
  simp only [Option.bind_some]
  rcases idxS_spec p l 0 with ⟨h1, h2⟩ | ⟨k, h1, h2, h3, b, h4, h5⟩
  · rw [h1, filter_of_none h2]
    rfl
  · rw [Nat.zero_add] at h2
    have hne : ((k : Int) == -1) = false := by
      rw [beq_eq_false_iff_ne]; omega
    rw [h2, hne, cond_false, w_succ (by omega)]
    have hb : l[k] = b := by
      rw [List.getElem?_eq_getElem h1] at h4
      exact Option.some.inj h4
    have hinv : Dv2 p l (k + 1) (k, l) := by
      refine ⟨rfl, by simp, h1, ?_, rfl⟩
      have ht : l.take (k + 1) = l.take k ++ [l[k]] := by rw [List.take_add_one]; simp [h1]
      simp only
      rw [ht, List.filter_append, filter_of_none h3, hb]
      simp [h5]
    have h := iter_fold (X := Int × Int × List Mt) (body := fun L x => f161_b4 KK f (k : Int) (fun v0 v1 v2 => L (v0, v1, v2)) x.1 x.2.1 x.2.2) l (fun q s => ((s.1 : Int), (q : Int), s.2)) (delI p) (fun s => some (s.2.take s.1)) (Dv2 p l)
      (fun L q s hq hi => by
        refine ⟨Dv2_step hi hq, ?_⟩
        obtain ⟨i1, i2, i3, i4, i5⟩ := hi
        have hq2 : q < s.2.length := by omega
        have hs1 : s.1 < s.2.length := by omega
        have hg : s.2[q] = l[q] := by
          have h6 : (s.2.drop q)[0]? = (l.drop q)[0]? := by rw [i5]
          simpa [hq, hq2] using h6
        unfold f161_b4
        simp only
        rw [in1 hq2, in0, gd hq2, hg]
        simp only [Bool.and_self, cond_true]
        rw [show f (l[q].1, l[q].2.1, l[q].2.2) = some (p l[q]) from hf _ (List.getElem_mem hq), Option.bind_some, w_succ (by omega), w_succ (by omega)]
        unfold delI
        cases p l[q]
        · simp only [Bool.not_false, cond_true, cond_false]
          rw [in1 hs1, in0]
          have hz : ((0 : Int) + (s.1 : Int)).toNat = s.1 := by omega
          rw [hz]
          rfl
        · rfl)
      (fun L s hi => by
        obtain ⟨i1, i2, i3, i4, i5⟩ := hi
        unfold f161_b4
        simp only
        have ho : decide ((l.length : Int) < (s.2.length : Int)) = false := by simp; omega
        have hz : ((0 : Int) + (s.1 : Int)).toNat = s.1 := by omega
        have hz2 : (((0 : Int) + (s.1 : Int)) + (((0 : Int) + (s.2.length : Int)) - ((0 : Int) + (s.1 : Int)))).toNat = s.2.length := by omega
        have hc : (clr s.2 s.1 s.2.length ((0 : Int), ((0 : Int), ((0 : Int), (0 : Int))))).length = s.2.length := by
          unfold clr; simp; omega
        have hct : (clr s.2 s.1 s.2.length ((0 : Int), ((0 : Int), ((0 : Int), (0 : Int))))).take s.1 = s.2.take s.1 := by
          unfold clr
          rw [List.append_assoc, List.take_append_of_le_length (by simp; omega), List.take_take, Nat.min_self]
        rw [ho, cond_false, hz, hz2, hc, hct, in0]
        have d1 : decide ((s.1 : Int) ≤ (s.2.length : Int)) = true := by simp; omega
        rw [d1]
        simp) KK (k + 1) (k, l) h1 (by have := KKlt (n := l.length) (by omega); omega) hinv
    unfold f161_l4
    refine h.trans ?_
    have hf := foldl_inv (delI p) (fun q s => Dv2 p l q s) (l.drop (k + 1)) (k + 1) (k, l) hinv (fun i s hi hP => by
      have hlt : k + 1 + i < l.length := by simp at hi; omega
      have := Dv2_step hP hlt
      simpa using this)
    have hend : k + 1 + (l.drop (k + 1)).length = l.length := by simp; omega
    rw [hend] at hf
    have := hf.t
    rw [List.take_length] at this
    exact congrArg some this
theorem latticeMats_eq {f : Int} (h1 : 0 ≤ f) (h2 : f ≤ 1) {l : Lt} (hl : IsL l) : f116G KK f l = some (stabS f l) := by
  unfold f116G f142G
  rw [pointMats_eq h1 h2]
  simp only [Option.bind_some]
  rw [deleteFunc_eq (pmS f) (by have := pmS_len f; omega) _ (fun m => !stayS l m) (fun m hm => drop_pred hl (pm_sm (pmS_mem hm))), Option.bind_some]
  unfold stabS
  simp only [Bool.not_not]
end Go.Proofs.Ytbgdojniimdihaa.X
