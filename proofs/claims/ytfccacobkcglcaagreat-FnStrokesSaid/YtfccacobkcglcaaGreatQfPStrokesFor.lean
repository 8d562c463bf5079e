/- The plain law of StrokesFor: both sides tell the first cell and the colour of each orbit that has one. -/
import Derived.Test.YtfccacobkcglcaaGreatQfNT
import Derived.Test.YtfccacobkcglcaaGreatQfPOrbitColours
namespace Go.Proofs.YtfccacobkcglcaaGreat.X
open Go
set_option linter.unusedSimpArgs false
set_option linter.unusedVariables false
def sfS (p : Pt) (O : List (List Vc)) : List Ma := (O.filter fun o => atS p (o.headD (0, 0)) != 0).map fun o => (o.headD (0, 0), atS p (o.headD (0, 0)))
theorem at_ok0 {p : Pt} (h : okP p = true) (v : Vc) : okC (atS p v) = true := by
 unfold okP at h
 simp only [Bool.and_eq_true] at h
 have ha := List.all_eq_true.1 h.2
 unfold atS
 rw [List.getD_eq_getElem?_getD]
 cases he : p.2.2[numS p.2.1 v]? with
 | none => rfl
 | some x => exact ha x (List.mem_of_getElem? he)
theorem ssf_loop {p : Pt} (hp : IsP p) (hP : okP p = true) {g : List Mo} (h : OrbG p.1 p.2.1 g) {a : ByteArray} {n : Int} {y1 : Sgr} {y2 y3 y4 : Bool} :
  f30_l8 KK a n p y1 y2 y3 y4 (orbsS p.2.1 g) KK 0 [] = some (sfS p (orbsS p.2.1 g), 0) := by
 have hO := orbs_len h.la g
 have hh := iter_fold (R := List Ma × Int) (body := fun L x => f30_b8 KK a n p y1 y2 y3 y4 (orbsS p.2.1 g) (fun v0 v1 => L (v0, v1)) x.1 x.2) (orbsS p.2.1 g) (fun q s => ((q : Int), s)) (fun s o => bif atS p (o.headD (0, 0)) != 0 then s ++ [(o.headD (0, 0), atS p (o.headD (0, 0)))] else s) (fun s => some (s, 0)) (fun q s => s.length ≤ q)
  (fun L q s hq hi => by
   refine ⟨by cases atS p ((orbsS p.2.1 g)[q].headD (0, 0)) != 0 <;> simp <;> omega, ?_⟩
   show f30_b8 KK a n p y1 y2 y3 y4 (orbsS p.2.1 g) (fun v0 v1 => L (v0, v1)) (q : Int) s = _
   unfold f30_b8
   obtain ⟨x, t, ex, hx⟩ := orbs_ne h (List.getElem_mem hq)
   rw [in1 hq, in0, gd hq, ex]
   have e0 : (x :: t).getD ((0 : Int) + (0 : Int)).toNat ((0 : Int), (0 : Int)) = x := rfl
   have e1 : decide ((0 : Int) < ((x :: t).length : Int)) = true := by simp
   have e2 : decide (0 ≤ (0 : Int)) = true := rfl
   rw [e0, e1, e2]
   simp only [Bool.and_self, cond_true]
   rw [l09At_eq hp (Sv_Sm (cellB_Sv h.la hx)), Option.bind_some, w_succ (by omega), blim24 (by simp; omega)]
   simp only [List.headD_cons]
   have hc := at_ok0 hP x
   unfold okC at hc
   rw [decide_eq_true_eq] at hc
   have e3 : decide (atS p x > (0 : Int)) = (atS p x != 0) := by
    rw [Bool.eq_iff_iff, decide_eq_true_eq, bne_iff_ne]
    omega
   rw [e3]
   cases atS p x != 0 <;> rfl)
  (fun L s hi => by
   show f30_b8 KK a n p y1 y2 y3 y4 (orbsS p.2.1 g) (fun v0 v1 => L (v0, v1)) ((orbsS p.2.1 g).length : Int) s = _
   unfold f30_b8
   rw [out1, cond_false]) KK 0 [] (by omega) (by simp only [KK]; omega) (by simp)
 rw [List.drop_zero, foldl_filter, List.nil_append] at hh
 exact hh
theorem isf_loop {p : Pt} (hp : IsP p) {g : List Mo} (h : OrbG p.1 p.2.1 g) {a : ByteArray} {n : Int} {y1 : Sgr} {y2 y3 : Bool} :
  f32_l7 KK a n p y1 y2 y3 (orbsS p.2.1 g, numsF p.2.1 g) KK 0 [] = some (sfS p (orbsS p.2.1 g), 0) := by
 have hO := orbs_len h.la g
 have hh := iter_fold (R := List Ma × Int) (body := fun L x => f32_b7 KK a n p y1 y2 y3 (orbsS p.2.1 g, numsF p.2.1 g) (fun v0 v1 => L (v0, v1)) x.1 x.2) (orbsS p.2.1 g) (fun q s => ((q : Int), s)) (fun s o => bif atS p (o.headD (0, 0)) != 0 then s ++ [(o.headD (0, 0), atS p (o.headD (0, 0)))] else s) (fun s => some (s, 0)) (fun q s => s.length ≤ q)
  (fun L q s hq hi => by
   refine ⟨by cases atS p ((orbsS p.2.1 g)[q].headD (0, 0)) != 0 <;> simp <;> omega, ?_⟩
   show f32_b7 KK a n p y1 y2 y3 (orbsS p.2.1 g, numsF p.2.1 g) (fun v0 v1 => L (v0, v1)) (q : Int) s = _
   unfold f32_b7
   obtain ⟨x, t, ex, hx⟩ := orbs_ne h (List.getElem_mem hq)
   simp only
   rw [in1 hq, in0, gd hq, ex]
   have e0 : (x :: t).getD ((0 : Int) + (0 : Int)).toNat ((0 : Int), (0 : Int)) = x := rfl
   have e1 : decide ((0 : Int) < ((x :: t).length : Int)) = true := by simp
   have e2 : decide (0 ≤ (0 : Int)) = true := rfl
   rw [e0, e1, e2]
   simp only [Bool.and_self, cond_true]
   rw [at_eq hp (Sv_Sm (cellB_Sv h.la hx)), Option.bind_some, w_succ (by omega), blim24 (by simp; omega)]
   simp only [List.headD_cons]
   cases atS p x != 0 <;> rfl)
  (fun L s hi => by
   show f32_b7 KK a n p y1 y2 y3 (orbsS p.2.1 g, numsF p.2.1 g) (fun v0 v1 => L (v0, v1)) ((orbsS p.2.1 g).length : Int) s = _
   unfold f32_b7
   rw [out1, cond_false]) KK 0 [] (by omega) (by simp only [KK]; omega) (by simp)
 rw [List.drop_zero, foldl_filter, List.nil_append] at hh
 exact hh
def fitP (r : Sgr) (p : Pt) : Bool := (p.1 == r.1) && (p.2.1 == r.2.1)
theorem fitP_eq (r : Sgr) (p : Pt) : (bif (p.1 != r.1) then true else (!((p.2.1.1 == r.2.1.1) && ((p.2.1.2.1 == r.2.1.2.1) && (p.2.1.2.2 == r.2.1.2.2))))) = !fitP r p := by
 have e : ((p.2.1.1 == r.2.1.1) && ((p.2.1.2.1 == r.2.1.2.1) && (p.2.1.2.2 == r.2.1.2.2))) = (p.2.1 == r.2.1) := rfl
 rw [e]
 unfold fitP bne
 cases p.1 == r.1 <;> cases p.2.1 == r.2.1 <;> rfl
def resSF (r : Sgr) (p : Pt) : List Ma × Int := bif r.2.2.2 != 0 then ([], r.2.2.2) else bif okP p then (bif fitP r p then (bif keptS p r.2.2.1 then (sfS p (orbsS r.2.1 r.2.2.1), 0) else ([], 5)) else ([], 2)) else ([], 1)
theorem fit_of {r : Sgr} {p : Pt} (h : fitP r p = true) : p.1 = r.1 ∧ p.2.1 = r.2.1 := by
 unfold fitP at h
 rw [Bool.and_eq_true, beq_iff_eq, beq_iff_eq] at h
 exact h
theorem specSF_eq {a : ByteArray} {n : Int} {r : Sgr} (hr : Std a n r) (p : Pt) : f30G KK a n p = some (resSF r p) := by
 unfold f30G f30_g resSF
 rw [l27Canvas_eq hr, Option.bind_some]
 cases hc : r.2.2.2 != 0
 ·have h0 : r.2.2.2 = 0 := by simpa using hc
  have hG := hr.orb h0
  simp only [cond_false]
  rw [specIsPattern_eq, Option.bind_some]
  cases hb : okP p
  ·simp only [Bool.not_false, Bool.true_or, Bool.or_true, cond_true, cond_false, Bool.false_and]
   rfl
  ·have hp := okP_P hb
   simp only [Bool.not_true, Bool.false_or, Bool.or_true, cond_true, cond_false, Bool.true_and]
   rw [fitP_eq]
   cases hf : fitP r p
   ·rfl
   ·obtain ⟨f1, f2⟩ := fit_of hf
    have hO : OrbG p.1 p.2.1 r.2.2.1 := by rw [f1, f2]; exact hG
    simp only [Bool.not_true, cond_false, cond_true, Option.bind_some]
    rw [l13Kept_eq hp hO, Option.bind_some]
    cases keptS p r.2.2.1
    ·rfl
    ·simp only [Bool.not_true, cond_false, cond_true]
     rw [← f2, l07Orbits_eq hO, Option.bind_some]
     exact ssf_loop hp hb hO
 ·rfl
theorem implSF_eq {a : ByteArray} {n : Int} {r : Sgr} (hr : Std a n r) (p : Pt) : f32G KK a n p = some (resSF r p) := by
 unfold f32G f32_g resSF
 rw [canvas_eq hr.im hr.ok (by simp), Option.bind_some, cvB_code]
 cases hc : r.2.2.2 != 0
 ·have h0 : r.2.2.2 = 0 := by simpa using hc
  have hG := hr.orb h0
  have e : cvB r [] = r := cvB_ok h0 (by simp)
  simp only [cond_false, List.all_nil, cond_true, bne_self_eq_false, e]
  rw [isPattern_eq, Option.bind_some]
  cases hb : okP p
  ·rfl
  ·have hp := okP_P hb
   simp only [Bool.not_true, Bool.false_or, Bool.or_true, cond_true, cond_false, Bool.true_and]
   rw [fitP_eq]
   cases hf : fitP r p
   ·rfl
   ·obtain ⟨f1, f2⟩ := fit_of hf
    have hO : OrbG p.1 p.2.1 r.2.2.1 := by rw [f1, f2]; exact hG
    simp only [Bool.not_true, cond_false, cond_true, Option.bind_some]
    rw [isKept_eq hp hO, Option.bind_some]
    cases keptS p r.2.2.1
    ·rfl
    ·simp only [Bool.not_true, cond_false, cond_true]
     rw [← f2, orbitsOf_eq hO, Option.bind_some]
     exact isf_loop hp hO
 ·simp only [cond_true, hc]
theorem sfS_len {p : Pt} (hl : IsL p.2.1) (g : List Mo) : (sfS p (orbsS p.2.1 g)).length ≤ 64 := by
 unfold sfS
 rw [List.length_map]
 have := List.length_filter_le (fun o : List Vc => atS p (o.headD (0, 0)) != 0) (orbsS p.2.1 g)
 have := orbs_len hl g
 omega
theorem resSF_len {a : ByteArray} {n : Int} {r : Sgr} (hr : Std a n r) {p : Pt} : (resSF r p).1.length ≤ 1000 := by
 unfold resSF
 cases hc : r.2.2.2 != 0
 ·have h0 : r.2.2.2 = 0 := by simpa using hc
  have hG := hr.orb h0
  rw [cond_false]
  cases okP p
  ·simp
  ·cases hf : fitP r p
   ·simp
   ·obtain ⟨f1, f2⟩ := fit_of hf
    have hl := hG.la
    rw [← f2] at hl
    cases keptS p r.2.2.1
    ·simp
    ·simp only [cond_true]
     rw [← f2]
     have := sfS_len hl r.2.2.1
     omega
 ·simp
end Go.Proofs.YtfccacobkcglcaaGreat.X
