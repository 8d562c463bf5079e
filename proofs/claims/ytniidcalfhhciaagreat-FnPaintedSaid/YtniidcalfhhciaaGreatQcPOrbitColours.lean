/- The plain law of OrbitColours: both sides give the colour of the first cell of each orbit. -/
import Derived.Test.YtniidcalfhhciaaGreatQcPOrbitNumbers
import Derived.Test.YtniidcalfhhciaaGreatQcMR
namespace Go.Proofs.YtniidcalfhhciaaGreat.X
open Go
set_option linter.unusedSimpArgs false
set_option linter.unusedVariables false
def colS (p : Pt) (g : List Mo) : List Int := (orbsS p.2.1 g).map fun o => atS p (o.headD (0, 0))
theorem col_fold {p : Pt} (l : List (List Vc)) (s : List Int) : l.foldl (fun s o => s ++ [atS p (o.headD (0, 0))]) s = s ++ l.map fun o => atS p (o.headD (0, 0)) := foldl_push (fun o : List Vc => atS p (o.headD (0, 0))) l s
theorem scol_loop {p : Pt} (hp : IsP p) {g : List Mo} (h : OrbG p.1 p.2.1 g) {y1 : Int} {y2 : Bool} : f81_l11 KK p g y1 y2 (orbsS p.2.1 g) KK 0 [] = some (colS p g, 0) := by
  have hO := orbs_len h.la g
  have hh := iter_fold (R := List Int × Int) (body := fun L x => f81_b11 KK p g y1 y2 (orbsS p.2.1 g) (fun v0 v1 => L (v0, v1)) x.1 x.2) (orbsS p.2.1 g) (fun q s => ((q : Int), s)) (fun s o => s ++ [atS p (o.headD (0, 0))]) (fun s => some (s, 0)) (fun q s => s.length = q)
    (fun L q s hq hi => by
      refine ⟨by simp [hi], ?_⟩
      obtain ⟨x, t, e, hx⟩ := orbs_ne h (List.getElem_mem hq)
      show f81_b11 KK p g y1 y2 (orbsS p.2.1 g) (fun v0 v1 => L (v0, v1)) (q : Int) s = _
      unfold f81_b11
      have hg : (orbsS p.2.1 g).getD ((0 : Int) + (q : Int)).toNat [] = x :: t := (gd hq).trans e
      have e1 : (decide (0 ≤ (0 : Int)) && decide ((0 : Int) < (((x :: t : List Vc).length : Nat) : Int))) = true := by simp
      have e2 : ((x :: t : List Vc).getD ((0 : Int) + (0 : Int)).toNat (0, 0)) = x := rfl
      rw [in1 hq, in0, hg, e1, e2]
      simp only [Bool.and_self, cond_true]
      rw [l09At_eq hp (Sv_Sm (cellB_Sv h.la hx)), Option.bind_some, blim8 (by simp; omega), cond_true, w_succ (by omega), e]
      rfl)
    (fun L s hi => by
      show f81_b11 KK p g y1 y2 (orbsS p.2.1 g) (fun v0 v1 => L (v0, v1)) ((orbsS p.2.1 g).length : Int) s = _
      unfold f81_b11
      rw [out1, cond_false]) KK 0 [] (by omega) (by simp only [KK]; omega) rfl
  rw [List.drop_zero, col_fold, List.nil_append] at hh
  exact hh
theorem icol_loop {p : Pt} (hp : IsP p) {g : List Mo} (h : OrbG p.1 p.2.1 g) {y1 : Int} {y2 : Bool} {n : List Int} : f80_l6 KK p g y1 y2 (orbsS p.2.1 g, n) KK 0 [] = some (colS p g, 0) := by
  have hO := orbs_len h.la g
  have hh := iter_fold (R := List Int × Int) (body := fun L x => f80_b6 KK p g y1 y2 (orbsS p.2.1 g, n) (fun v0 v1 => L (v0, v1)) x.1 x.2) (orbsS p.2.1 g) (fun q s => ((q : Int), s)) (fun s o => s ++ [atS p (o.headD (0, 0))]) (fun s => some (s, 0)) (fun q s => s.length = q)
    (fun L q s hq hi => by
      refine ⟨by simp [hi], ?_⟩
      obtain ⟨x, t, e, hx⟩ := orbs_ne h (List.getElem_mem hq)
      show f80_b6 KK p g y1 y2 (orbsS p.2.1 g, n) (fun v0 v1 => L (v0, v1)) (q : Int) s = _
      unfold f80_b6
      have hg : (orbsS p.2.1 g).getD ((0 : Int) + (q : Int)).toNat [] = x :: t := (gd hq).trans e
      have e1 : (decide (0 ≤ (0 : Int)) && decide ((0 : Int) < (((x :: t : List Vc).length : Nat) : Int))) = true := by simp
      have e2 : ((x :: t : List Vc).getD ((0 : Int) + (0 : Int)).toNat (0, 0)) = x := rfl
      simp only
      rw [in1 hq, in0, hg, e1, e2]
      simp only [Bool.and_self, cond_true]
      rw [at_eq hp (Sv_Sm (cellB_Sv h.la hx)), Option.bind_some, blim8 (by simp; omega), cond_true, w_succ (by omega), e]
      rfl)
    (fun L s hi => by
      show f80_b6 KK p g y1 y2 (orbsS p.2.1 g, n) (fun v0 v1 => L (v0, v1)) ((orbsS p.2.1 g).length : Int) s = _
      unfold f80_b6
      rw [out1, cond_false]) KK 0 [] (by omega) (by simp only [KK]; omega) rfl
  rw [List.drop_zero, col_fold, List.nil_append] at hh
  exact hh
def resOC (p : Pt) (g : List Mo) : List Int × Int := bif codeK p g != 0 then ([], codeK p g) else bif keptS p g then (colS p g, 0) else ([], 5)
theorem specOC_eq (p : Pt) {g : List Mo} (hn : g.length ≤ 1048576) : f81G KK p g = some (resOC p g) := by
  unfold f81G f81_g resOC
  rw [l13Code_eq p hn, Option.bind_some]
  cases h : codeK p g != 0
  · have h0 : codeK p g = 0 := by simpa using h
    obtain ⟨hp, hG⟩ := codeK_0 h0
    have e : (codeK p g == 0) = true := by simpa using h0
    simp only [e, Bool.or_true, cond_true, cond_false]
    rw [l13Kept_eq hp hG, Option.bind_some]
    cases hk : keptS p g
    · rfl
    · simp only [Bool.not_true, cond_false, cond_true]
      rw [l07Orbits_eq hG, Option.bind_some]
      exact scol_loop hp hG
  · have e : (codeK p g == 0) = false := by simpa using h
    simp only [e, Bool.or_true, cond_true, cond_false, Option.bind_some]
theorem implOC_eq (p : Pt) {g : List Mo} (hn : g.length ≤ 1048576) : f80G KK p g = some (resOC p g) := by
  unfold f80G f80_g resOC
  rw [keptCode_eq p hn, Option.bind_some]
  cases h : codeK p g != 0
  · have h0 : codeK p g = 0 := by simpa using h
    obtain ⟨hp, hG⟩ := codeK_0 h0
    simp only [cond_false]
    rw [isKept_eq hp hG, Option.bind_some]
    cases hk : keptS p g
    · rfl
    · simp only [Bool.not_true, cond_false, cond_true]
      rw [orbitsOf_eq hG, Option.bind_some]
      exact icol_loop hp hG
  · simp only [cond_true]
theorem resOC_len {p : Pt} {g : List Mo} : (resOC p g).1.length ≤ 1000 := by
  unfold resOC
  cases h : codeK p g != 0
  · have h0 : codeK p g = 0 := by simpa using h
    obtain ⟨hp, hG⟩ := codeK_0 h0
    have hO := orbs_len hG.la g
    rw [cond_false]
    cases keptS p g
    · simp
    · simp only [cond_true, colS, List.length_map]; omega
  · simp
end Go.Proofs.YtniidcalfhhciaaGreat.X
