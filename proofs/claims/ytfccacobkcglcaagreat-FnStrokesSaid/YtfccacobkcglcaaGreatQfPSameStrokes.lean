/- The plain law of SameStrokes: both sides paint both lists, and compare the patterns. -/
import Derived.Test.YtfccacobkcglcaaGreatQfNT
namespace Go.Proofs.YtfccacobkcglcaaGreat.X
open Go
set_option linter.unusedSimpArgs false
set_option linter.unusedVariables false
theorem all_eq : ∀ {a b : List Int}, a.length = b.length → (allFrom (fun i x => x == b.getD i 0) 0 a) = (a == b) := by
 intro a b h
 rw [Bool.eq_iff_iff, beq_iff_eq]
 constructor
 ·intro ha
  refine List.ext_getElem h fun i h1 h2 => ?_
  have := allFrom_get ha i h1
  simp only [Nat.zero_add, beq_iff_eq] at this
  rw [this, List.getD_eq_getElem?_getD, List.getElem?_eq_getElem h2]
  rfl
 ·rintro rfl
  refine allFrom_of fun i hi => ?_
  simp only [Nat.zero_add, beq_iff_eq]
  rw [List.getD_eq_getElem?_getD, List.getElem?_eq_getElem hi]
  rfl
theorem l01Same_eq {a b : List Int} (ha : a.length ≤ 1000) : f239G KK a b = some (a == b) := by
 unfold f239G f239_g
 by_cases h : a.length = b.length
 ·rw [show ((a.length : Int) != (b.length : Int)) = false by rw [h]; simp, cond_false]
  have hh := iter_scan (R := Bool) (S := Unit) (body := fun L x => f239_b2 KK a b (fun v0 => L v0) x) a (fun q _ => (q : Int)) (fun i x => x == b.getD i 0) (fun s _ => s) (some false) (fun _ => some true) (fun _ _ => True)
   (fun L q s hq _ => by
    refine ⟨fun _ => trivial, ?_⟩
    unfold f239_b2
    have hz : ((0 : Int) + (q : Int)).toNat = q := by omega
    rw [in1 hq, in0, in1 (show q < b.length by omega), gd hq, w_succ (by omega), hz]
    simp only [Bool.and_self, cond_true, bne]
    cases a[q] == b.getD q 0 <;> rfl)
   (fun L s _ => by
    unfold f239_b2
    rw [out1, cond_false]) KK 0 () (by omega) (by simp only [KK]; omega) trivial
  unfold f239_l2
  refine Eq.trans hh ?_
  rw [List.drop_zero, all_eq h]
  cases a == b <;> rfl
 ·rw [show ((a.length : Int) != (b.length : Int)) = true by simp; omega, cond_true]
  rw [show (a == b) = false from beq_eq_false_iff_ne.2 fun e => h (by rw [e])]
theorem equalInts_eq {a b : List Int} (ha : a.length ≤ 1000) : f241G KK a b = some (a == b) := by
 unfold f241G f241_g
 by_cases h : a.length = b.length
 ·rw [show ((a.length : Int) != (b.length : Int)) = false by rw [h]; simp, cond_false]
  have hh := iter_scan (R := Bool) (S := Unit) (body := fun L x => f241_b2 KK a b (fun v0 => L v0) x) a (fun q _ => (q : Int)) (fun i x => x == b.getD i 0) (fun s _ => s) (some false) (fun _ => some true) (fun _ _ => True)
   (fun L q s hq _ => by
    refine ⟨fun _ => trivial, ?_⟩
    unfold f241_b2
    have hz : ((0 : Int) + (q : Int)).toNat = q := by omega
    rw [in1 hq, in0, in1 (show q < b.length by omega), gd hq, w_succ (by omega), hz]
    simp only [Bool.and_self, cond_true, bne]
    cases a[q] == b.getD q 0 <;> rfl)
   (fun L s _ => by
    unfold f241_b2
    rw [out1, cond_false]) KK 0 () (by omega) (by simp only [KK]; omega) trivial
  unfold f241_l2
  refine Eq.trans hh ?_
  rw [List.drop_zero, all_eq h]
  cases a == b <;> rfl
 ·rw [show ((a.length : Int) != (b.length : Int)) = true by simp; omega, cond_true]
  rw [show (a == b) = false from beq_eq_false_iff_ne.2 fun e => h (by rw [e])]
theorem l09Same_eq (f : Int) (l : Lt) {a b : List Int} (ha : a.length ≤ 1000) : f115G KK (f, l, a) (f, l, b) = some (a == b) := by
 unfold f115G
 simp only [beq_self_eq_true, Bool.and_self, cond_true, Bool.not_true, Bool.or_true]
 rw [l01Same_eq ha, Option.bind_some]
theorem samePattern_eq (f : Int) (l : Lt) {a b : List Int} (ha : a.length ≤ 1000) : f119G KK (f, l, a) (f, l, b) = some (a == b) := by
 unfold f119G
 simp only [beq_self_eq_true, Bool.and_self, cond_true, Bool.not_true, Bool.or_true]
 rw [equalInts_eq ha, Option.bind_some]
def resSS (r : Sgr) (a b : List Ma) : Bool × Int := bif r.2.2.2 != 0 then (false, r.2.2.2) else bif strB r.2.1 a && strB r.2.1 b then (paintG r.2.1 r.2.2.1 a == paintG r.2.1 r.2.2.1 b, 0) else (false, 2)
theorem specSS_eq {s : ByteArray} {n : Int} {r : Sgr} (hr : Std s n r) {a b : List Ma} (ha : a.length ≤ 1048576) (hb : b.length ≤ 1048576) : f16G KK s n a b = some (resSS r a b) := by
 unfold f16G resSS
 rw [l27Canvas_eq hr, Option.bind_some]
 cases hc : r.2.2.2 != 0
 ·have h0 : r.2.2.2 = 0 := by simpa using hc
  have hG := hr.orb h0
  have hN := cellsS_le hG.la
  have e : (r.2.2.2 == 0) = true := by simpa using h0
  simp only [e, Bool.not_true, Bool.or_true, cond_true, cond_false]
  rw [l27Strokes_eq hG.la ha, Option.bind_some]
  cases h1 : strB r.2.1 a
  ·rfl
  ·simp only [Bool.not_true, Bool.not_false, Bool.and_self, Bool.true_and, Bool.or_true, cond_true, cond_false]
   rw [l27Strokes_eq hG.la hb, Option.bind_some]
   cases h2 : strB r.2.1 b
   ·rfl
   ·obtain ⟨v1, n1, _⟩ := str_in h1
    obtain ⟨v2, n2, _⟩ := str_in h2
    simp only [Bool.not_true, cond_true, cond_false, Bool.or_true]
    rw [l27Paint_eq hG v1 (by omega), l27Paint_eq hG v2 (by omega)]
    simp only [Option.bind_some]
    rw [l09Same_eq _ _ (by have := paintG_len r.2.1 r.2.2.1 a; omega), Option.bind_some]
 ·have e : (r.2.2.2 == 0) = false := by simpa using hc
  simp only [e, Bool.not_false, Bool.or_true, cond_true, cond_false, Option.bind_some, Bool.false_and, hc]
theorem implSS_eq {s : ByteArray} {n : Int} {r : Sgr} (hr : Std s n r) (a b : List Ma) : f18G KK s n a b = some (resSS r a b) := by
 unfold f18G resSS
 rw [canvas_eq hr.im hr.ok (by simp), Option.bind_some, cvB_code]
 cases hc : r.2.2.2 != 0
 ·have h0 : r.2.2.2 = 0 := by simpa using hc
  have hG := hr.orb h0
  have hN := cellsS_le hG.la
  simp only [cond_false, List.all_cons, List.all_nil, Bool.and_true]
  cases hb : strB r.2.1 a && strB r.2.1 b
  ·rfl
  ·have hb2 := hb
   rw [Bool.and_eq_true] at hb2
   obtain ⟨v1, n1, _⟩ := str_in hb2.1
   obtain ⟨v2, n2, _⟩ := str_in hb2.2
   have e : cvB r [a, b] = r := cvB_ok h0 (by simp [hb2.1, hb2.2])
   rw [e]
   show (f120G KK r.1 r.2.1 r.2.2.1 a).bind _ = _
   rw [paint_eq hG v1 (by omega), Option.bind_some, paint_eq hG v2 (by omega), Option.bind_some]
   rw [samePattern_eq _ _ (by have := paintG_len r.2.1 r.2.2.1 a; omega), Option.bind_some]
   rfl
 ·simp only [cond_true, hc]
end Go.Proofs.YtfccacobkcglcaaGreat.X
