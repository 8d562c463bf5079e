/- The plain law of GroupOfProgram: both sides close the motions that a program tells. -/
import Derived.Test.YtphhbdjjfacpiaaGreatDoorQsSI
namespace Go.Proofs.YtphhbdjjfacpiaaGreatDoor.X
open Go
set_option linter.unusedSimpArgs false
set_option linter.unusedVariables false
def mk6 (k : Int) : Mo := ((k, k + 1, k + 2, k + 3), (k + 4, k + 5))
def MkM (s : List Mo) (n : Nat) : Prop := ∀ i, i < n → s[i]? = some (mk6 (1 + 6 * (i : Int)))
theorem getD_set {α : Type} {s : List α} {q : Nat} (h : q < s.length) (v d : α) : (s.set q v).getD q d = v := by
 simp [List.getD, h]
theorem markMotionS_some (l : List Mo) (hl : l.length ≤ 1000000) : ∃ s, f7G KK l 1 = some (s, 1 + 6 * (l.length : Int)) ∧ s.length = l.length ∧ MkM s l.length := by
 have hst : ∀ q (s : Int × List Mo), q < l.length → (s.1 = 1 + 6 * (q : Int) ∧ s.2.length = l.length ∧ MkM s.2 q) → (s.1 + 6 = 1 + 6 * ((q + 1 : Nat) : Int) ∧ (s.2.set q (mk6 s.1)).length = l.length ∧ MkM (s.2.set q (mk6 s.1)) (q + 1)) := by
  rintro q s hq ⟨i1, i2, i3⟩
  refine ⟨by omega, by simp [i2], ?_⟩
  intro i hi
  by_cases h : i = q
  ·subst h
   rw [List.getElem?_set_self (by omega), i1]
  ·rw [List.getElem?_set_ne (by omega)]
   exact i3 i (by omega)
 have h := iter_fold (X := Int × Int × List Mo) (body := fun L x => f7_b2 KK (fun v0 v1 v2 => L (v0, v1, v2)) x.1 x.2.1 x.2.2) (List.range l.length) (fun q (s : Int × List Mo) => (s.1, (q : Int), s.2)) (fun s q => (s.1 + 6, s.2.set q (mk6 s.1))) (fun s => some (s.2, s.1)) (fun q s => s.1 = 1 + 6 * (q : Int) ∧ s.2.length = l.length ∧ MkM s.2 q)
  (fun L q s hq hi => by
   rw [List.length_range] at hq
   simp only [List.getElem_range]
   refine ⟨hst q s hq hi, ?_⟩
   obtain ⟨i1, i2, i3⟩ := hi
   unfold f7_b2
   have hz : ((0 : Int) + (q : Int)).toNat = q := by omega
   have hq2 : q < s.2.length := by omega
   simp only [hz, List.length_set, List.set_set, getD_set hq2]
   rw [in1 hq2, in0, w_succ (by omega), w_id (n := s.1 + 1) (by omega) (by omega), w_id (n := s.1 + 1 + 1) (by omega) (by omega), w_id (n := s.1 + 1 + 1 + 1) (by omega) (by omega), w_id (n := s.1 + 1 + 1 + 1 + 1) (by omega) (by omega), w_id (n := s.1 + 1 + 1 + 1 + 1 + 1) (by omega) (by omega), w_id (n := s.1 + 1 + 1 + 1 + 1 + 1 + 1) (by omega) (by omega)]
   simp only [aS, cT, Int.add_assoc]
   rfl)
  (fun L s hi => by
   obtain ⟨i1, i2, i3⟩ := hi
   unfold f7_b2
   simp only [List.length_range] at i1 ⊢
   rw [show decide ((l.length : Int) < (s.2.length : Int)) = false by simp; omega, cF]) KK 0 (1, l) (by omega) (by simp only [List.length_range, KK]; omega) ⟨by simp, rfl, fun i hi => by omega⟩
 have hf := foldl_inv (fun (s : Int × List Mo) (q : Nat) => (s.1 + 6, s.2.set q (mk6 s.1))) (fun q s => s.1 = 1 + 6 * (q : Int) ∧ s.2.length = l.length ∧ MkM s.2 q) (List.range l.length) 0 (1, l) ⟨by simp, rfl, fun i hi => by omega⟩ (fun i s hi hP => by
  rw [List.length_range] at hi
  rw [Nat.zero_add] at hP ⊢
  simp only [List.getElem_range]
  exact hst i s hi hP)
 rw [List.drop_zero] at h
 simp only [Nat.zero_add, List.length_range] at hf
 generalize (List.range l.length).foldl (fun (s : Int × List Mo) (q : Nat) => (s.1 + 6, s.2.set q (mk6 s.1))) (1, l) = r at *
 refine ⟨r.2, ?_, hf.2.1, hf.2.2⟩
 unfold f7G f7_g f7_l2
 rw [← hf.1]
 exact h
theorem heldMotionS_eq (s : List Mo) (hl : s.length ≤ 1000000) (hm : MkM s s.length) : f8G KK s 1 = some (1 + 6 * (s.length : Int)) := by
 have h := iter_fold (X := Int × Int) (body := fun L x => f8_b2 KK s (fun v0 v1 => L (v0, v1)) x.1 x.2) s (fun q k => (k, (q : Int))) (fun k _ => k + 6) (fun k => some k) (fun q k => k = 1 + 6 * (q : Int))
  (fun L q k hq hi => by
   refine ⟨by omega, ?_⟩
   have h1 := hm q hq
   rw [List.getElem?_eq_getElem hq, Option.some.injEq, ← hi] at h1
   unfold f8_b2
   simp only
   rw [in1 hq, in0, gd hq, w_succ (by omega), w_id (n := k + 1) (by omega) (by omega), w_id (n := k + 1 + 1) (by omega) (by omega), w_id (n := k + 1 + 1 + 1) (by omega) (by omega), w_id (n := k + 1 + 1 + 1 + 1) (by omega) (by omega), w_id (n := k + 1 + 1 + 1 + 1 + 1) (by omega) (by omega), w_id (n := k + 1 + 1 + 1 + 1 + 1 + 1) (by omega) (by omega), h1]
   simp only [aS, cT, mk6, Int.add_assoc]
   simp only [Int.reduceAdd, bne_self_eq_false, cF])
  (fun L k hi => by
   unfold f8_b2
   simp only
   rw [out1, cF]) KK 0 1 (by omega) (by have := KKlt hl; omega) (by simp)
 have hf := foldl_inv (fun (k : Int) (_ : Mo) => k + 6) (fun q k => k = 1 + 6 * (q : Int)) s 0 1 (by simp) (fun i k hi hP => by omega)
 rw [List.drop_zero] at h
 simp only [Nat.zero_add] at hf
 unfold f8G f8_g f8_l2
 rw [← hf]
 exact h
noncomputable def resGP (l : List UInt8) : List Mo × Int := match cmpS l with
 | .inl (_, c) => ([], c)
 | .inr s => (grS s, 0)
theorem specGP_eq {l : List UInt8} (hl : l.length ≤ 1048576) : f4G KK (mk l) = some (resGP l) := by
 obtain ⟨r, e, h⟩ := specC_eq l hl
 unfold f4G resGP
 rw [e, oB]
 cases hc : cmpS l with
 | inl x =>
  rw [hc] at h
  obtain ⟨h1, h2⟩ := h
  have hb : (r.2.2 != (0 : Int)) = true := by rw [h1, bne_iff_ne]; exact h2
  rw [hb, h1]
  cases r.1 <;> rfl
 | inr s =>
  rw [hc] at h
  obtain ⟨h1, h2, h3⟩ := h
  rw [h1]
  show (f10G KK s.2.2.1 s.2.2.2.1).bind _ = _
  rw [(grS_ok h2 h3).1]
  rfl
theorem implGP_eq {l : List UInt8} (hl : l.length ≤ 1048576) : f5G KK (mk l) = some (resGP l) := by
 unfold f5G resGP
 obtain ⟨r, e, h⟩ := specC_eq l hl
 rw [implC_eq l hl, oB]
 cases hc : cmpS l with
 | inl x =>
  rw [hc] at h
  have hb : (x.2 != (0 : Int)) = true := by rw [bne_iff_ne]; exact h.2
  simp only
  rw [hb]
  rfl
 | inr s =>
  rw [hc] at h
  obtain ⟨h1, h2, h3⟩ := h
  show (f12G KK (tupI s)).bind _ = _
  unfold f12G
  have g2' : f27G KK (tupI s).2.2.1 (tupI s).2.2.2.1 = some (grS s) := (grS_ok h2 h3).2.1
  rw [g2']
  rfl
theorem resGP_len {l : List UInt8} (hl : l.length ≤ 1048576) : (resGP l).1.length ≤ 1000 := by
 obtain ⟨r, e, h⟩ := specC_eq l hl
 unfold resGP
 cases hc : cmpS l with
 | inl x => simp
 | inr s =>
  rw [hc] at h
  obtain ⟨h1, h2, h3⟩ := h
  have := (grS_ok h2 h3).2.2.orb.len
  simp only
  omega
theorem FnExactGroupOfProgram_pure (a0 : ByteArray) (h : WfA [.str] (a0, ())) : ∃ K, f3G K a0 = some true := by
 refine ⟨KK, ?_⟩
 obtain ⟨l, rfl⟩ := ex_mk a0
 unfold f3G
 rw [sz_mk]
 by_cases hl : 1048576 < l.length
 ·rw [dT (show (l.length : Int) > 1048576 by omega)]
  rfl
 ·rw [dF (show ¬ (l.length : Int) > 1048576 by omega), cF, specGP_eq (by omega), implGP_eq (by omega)]
  have hr := resGP_len (l := l) (by omega)
  obtain ⟨s1, hm1, m2, m3⟩ := markMotionS_some (resGP l).1 (by omega)
  have hh := heldMotionS_eq s1 (by omega) (by rw [m2]; exact m3)
  rw [m2] at hh
  simp only [oB]
  rw [eqMotionS_eq (by omega)]
  simp only [oB, oT, tO, cT, nT, bne_self_eq_false, cF]
  rw [hm1, oB]
  simp only
  rw [hh, oB, dF (by omega)]
  simp only [oB, oT, tO, cT, nT, bne_self_eq_false, cF]
  rw [dF (by omega)]
  rfl
end Go.Proofs.YtphhbdjjfacpiaaGreatDoor.X
