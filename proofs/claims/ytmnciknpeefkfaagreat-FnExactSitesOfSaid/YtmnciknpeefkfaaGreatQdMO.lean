/- Plain facts: marks in lists of lists of vectors. -/
import Derived.Test.YtmnciknpeefkfaaGreatQdMJ
namespace Go.Proofs.YtmnciknpeefkfaaGreat.X
open Go
set_option linter.unusedVariables false
def tot : List (List Vc) → Int
  | [] => 0
  | o :: r => 2 * (o.length : Int) + tot r
def Mk2 (k : Int) : List (List Vc) → Prop
  | [] => True
  | o :: r => MkV2 k o o.length ∧ Mk2 (k + 2 * (o.length : Int)) r
theorem tot_bound : ∀ (C : List (List Vc)), (∀ o ∈ C, o.length ≤ 1000) → 0 ≤ tot C ∧ tot C ≤ 2000 * (C.length : Int)
  | [], _ => by simp [tot]
  | o :: r, h => by
    have h1 := h o (by simp)
    obtain ⟨h2, h3⟩ := tot_bound r fun o ho => h o (by simp [ho])
    simp only [tot, List.length_cons]
    omega
theorem getPre {pre r : List (List Vc)} {o : List Vc} : (pre ++ o :: r).getD ((0 : Int) + (pre.length : Int)).toNat [] = o := by
  have e : ((0 : Int) + (pre.length : Int)).toNat = pre.length := by omega
  rw [e, List.getD_eq_getElem?_getD, List.getElem?_append_right (Nat.le_refl _), Nat.sub_self]
  rfl
theorem markSS_loop : ∀ (suf : List (List Vc)) (fuel : Nat) (pre : List (List Vc)) (c : Int), suf.length < fuel → pre.length + suf.length ≤ 1000000 → (∀ o ∈ suf, o.length ≤ 1000) → 0 ≤ c → c + tot suf ≤ 1000000000 →
    ∃ suf', suf'.length = suf.length ∧ Mk2 c suf' ∧ tot suf' = tot suf ∧ (∀ o ∈ suf', o.length ≤ 1000) ∧ f26_l3 KK fuel c (pre.length : Int) (pre ++ suf) = some (pre ++ suf', c + tot suf)
  | _, 0, _, _, h, _, _, _, _ => by omega
  | [], fuel + 1, pre, c, _, _, _, _, _ => by
    refine ⟨[], rfl, trivial, rfl, by simp, ?_⟩
    show f26_b3 KK (fun v0 v1 v2 => f26_l3 KK fuel v0 v1 v2) c (pre.length : Int) (pre ++ []) = _
    unfold f26_b3
    rw [List.append_nil, out1, cond_false]
    simp [tot]
  | o :: r, fuel + 1, pre, c, hf, hp, ho, hc, ht => by
    have h1 := ho o (by simp)
    have hb := tot_bound r fun x hx => ho x (by simp [hx])
    simp only [tot] at ht
    simp only [List.length_cons] at hf hp
    obtain ⟨r2, ⟨m1, m2, m3⟩, hm⟩ := markVecS_gen o (k := c) hc (by omega) (by omega)
    obtain ⟨suf', s1, s2, s3, s4, s5⟩ := markSS_loop r fuel (pre ++ [r2.1]) (c + 2 * (o.length : Int)) (by omega) (by simp; omega) (fun x hx => ho x (by simp [hx])) (by omega) (by omega)
    refine ⟨r2.1 :: suf', by simp [s1], ⟨by rw [m2]; exact m3, by rw [m2]; exact s2⟩, by simp only [tot, m2, s3], fun x hx => ?_, ?_⟩
    · rcases List.mem_cons.1 hx with e | e
      · rw [e, m2]; exact h1
      · exact s4 x e
    · show f26_b3 KK (fun v0 v1 v2 => f26_l3 KK fuel v0 v1 v2) c (pre.length : Int) (pre ++ o :: r) = _
      unfold f26_b3
      have d1 : decide ((pre.length : Int) < ((pre ++ o :: r).length : Int)) = true := decide_eq_true (by simp; omega)
      have e1 : ((0 : Int) + (pre.length : Int)).toNat = pre.length := by omega
      rw [d1, in0, getPre, hm]
      simp only [Bool.and_self, cond_true, Option.bind_some]
      rw [w_succ (by omega), e1, m1, List.set_append_right _ _ (Nat.le_refl _), Nat.sub_self, List.set_cons_zero]
      have e2 : ((pre.length + 1 : Nat) : Int) = ((pre ++ [r2.1]).length : Int) := by simp
      have e3 : pre ++ r2.1 :: r = (pre ++ [r2.1]) ++ r := by simp
      rw [e2, e3, s5]
      simp only [tot, List.append_assoc, List.cons_append, List.nil_append, Int.add_assoc]
theorem heldSS_loop : ∀ (suf : List (List Vc)) (fuel : Nat) (pre : List (List Vc)) (c : Int), suf.length < fuel → pre.length + suf.length ≤ 1000000 → (∀ o ∈ suf, o.length ≤ 1000) → 0 ≤ c → c + tot suf ≤ 1000000000 → Mk2 c suf →
    f27_l3 KK (pre ++ suf) fuel c (pre.length : Int) = some (c + tot suf)
  | _, 0, _, _, h, _, _, _, _, _ => by omega
  | [], fuel + 1, pre, c, _, _, _, _, _, _ => by
    show f27_b3 KK (pre ++ []) (fun v0 v1 => f27_l3 KK (pre ++ []) fuel v0 v1) c (pre.length : Int) = _
    unfold f27_b3
    rw [List.append_nil, out1, cond_false]
    simp [tot]
  | o :: r, fuel + 1, pre, c, hf, hp, ho, hc, ht, hM => by
    have h1 := ho o (by simp)
    have hb := tot_bound r fun x hx => ho x (by simp [hx])
    simp only [tot] at ht
    simp only [List.length_cons] at hf hp
    have hh := heldVecS_gen o (k := c) hc (by omega) (by omega) hM.1
    have ih := heldSS_loop r fuel (pre ++ [o]) (c + 2 * (o.length : Int)) (by omega) (by simp; omega) (fun x hx => ho x (by simp [hx])) (by omega) (by omega) hM.2
    show f27_b3 KK (pre ++ o :: r) (fun v0 v1 => f27_l3 KK (pre ++ o :: r) fuel v0 v1) c (pre.length : Int) = _
    unfold f27_b3
    have d1 : decide ((pre.length : Int) < ((pre ++ o :: r).length : Int)) = true := decide_eq_true (by simp; omega)
    rw [d1, in0, getPre, hh]
    simp only [Bool.and_self, cond_true, Option.bind_some]
    rw [decide_eq_false (show ¬ c + 2 * (o.length : Int) < 0 by omega), cond_false, w_succ (by omega)]
    have e2 : ((pre.length + 1 : Nat) : Int) = ((pre ++ [o]).length : Int) := by simp
    have e3 : pre ++ o :: r = (pre ++ [o]) ++ r := by simp
    rw [e2, e3, ih]
    simp only [tot, Int.add_assoc]
theorem heldSS_gen (C : List (List Vc)) (hC : C.length ≤ 1000) (ho : ∀ o ∈ C, o.length ≤ 1000) (hM : Mk2 1 C) : f27G KK C 1 = some (1 + tot C) := by
  have hb := tot_bound C ho
  have h := heldSS_loop C KK [] 1 (by have := KKlt (n := C.length) (by omega); omega) (by rw [List.length_nil]; omega) ho (by omega) (by omega) hM
  have e0 : ((([] : List (List Vc)).length : Nat) : Int) = 0 := rfl
  rw [e0, List.nil_append] at h
  unfold f27G f27_g
  exact h
theorem markSS_gen (C : List (List Vc)) (hC : C.length ≤ 1000) (ho : ∀ o ∈ C, o.length ≤ 1000) : ∃ C', C'.length = C.length ∧ Mk2 1 C' ∧ tot C' = tot C ∧ (∀ o ∈ C', o.length ≤ 1000) ∧ f26G KK C 1 = some (C', 1 + tot C) := by
  have hb := tot_bound C ho
  obtain ⟨C', s1, s2, s3, s4, s5⟩ := markSS_loop C KK [] 1 (by have := KKlt (n := C.length) (by omega); omega) (by rw [List.length_nil]; omega) ho (by omega) (by omega)
  have e0 : ((([] : List (List Vc)).length : Nat) : Int) = 0 := rfl
  rw [e0, List.nil_append, List.nil_append] at s5
  refine ⟨C', s1, s2, s3, s4, ?_⟩
  unfold f26G f26_g
  exact s5
theorem markVecSS_gen (C : List (List Vc)) (hC : C.length ≤ 1000) (ho : ∀ o ∈ C, o.length ≤ 1000) : ∃ r : List (List Vc) × Int, (0 ≤ r.2 ∧ f27G KK r.1 1 = some r.2) ∧ f26G KK C 1 = some r := by
  have hb := tot_bound C ho
  obtain ⟨C', s1, s2, s3, s4, s5⟩ := markSS_gen C hC ho
  have h := heldSS_gen C' (by omega) s4 s2
  rw [s3] at h
  exact ⟨(C', 1 + tot C), ⟨by simp only; omega, h⟩, s5⟩
theorem eqVecSS_eq {C : List (List Vc)} (hC : C.length ≤ 1000) (ho : ∀ o ∈ C, o.length ≤ 1000) : f23G KK C C = some true := by
  have h := iter_all (R := Bool) (body := fun L x => f23_b3 KK C C (fun v0 => L v0) x) C (fun q => (q : Int)) (fun _ => true) (some false) (some true)
    (fun L q hq => by
      have hg : C.getD ((0 : Int) + (q : Int)).toNat [] = C[q] := gd hq
      unfold f23_b3
      rw [in1 hq, in0, hg, eqVecS_eq2 (by have := ho _ (List.getElem_mem hq); omega), w_succ (by omega)]
      rfl)
    (fun L => by
      unfold f23_b3
      rw [out1, cond_false]) KK 0 (by omega) (by simp only [KK]; omega)
  unfold f23G f23_g
  simp only [bne_self_eq_false, cond_false]
  refine Eq.trans h ?_
  have e : (C.drop 0).all (fun _ => true) = true := by simp
  rw [e]
  rfl
end Go.Proofs.YtmnciknpeefkfaaGreat.X
