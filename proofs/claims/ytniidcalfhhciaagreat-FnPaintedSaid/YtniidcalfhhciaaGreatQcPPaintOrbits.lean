/- The plain law of PaintOrbits: both sides give each cell the colour of its orbit. -/
import Derived.Test.YtniidcalfhhciaaGreatQcPOrbitNumbers
import Derived.Test.YtniidcalfhhciaaGreatQcMR
namespace Go.Proofs.YtniidcalfhhciaaGreat.X
open Go
set_option linter.unusedSimpArgs false
set_option linter.unusedVariables false
theorem num_in {f : Int} {l : Lt} {g : List Mo} (h : OrbG f l g) {k : Int} (hk : k ∈ numsF l g) : 0 ≤ k ∧ k < ((orbsS l g).length : Int) := by
  obtain ⟨v, hv, rfl⟩ := List.mem_map.1 hk
  rcases idxS_spec (fun o : List Vc => o.contains v) (orbsS l g) 0 with ⟨_, h2⟩ | ⟨j, h1, h2, _⟩
  · have := orbs_all h (cellsS_cell hv)
    obtain ⟨o, ho, hc⟩ := List.any_eq_true.1 this
    rw [h2 o ho] at hc
    cases hc
  · rw [h2]; omega
theorem numsF_len (l : Lt) (g : List Mo) : (numsF l g).length = (cellsS l).length := by simp [numsF]
def paintS (l : Lt) (g : List Mo) (c : List Int) : List Int := (numsF l g).map fun k => c.getD k.toNat 0
theorem fold_map {α β : Type} (φ : α → β) : ∀ (l : List α) (s : List β), l.foldl (fun s a => s ++ [φ a]) s = s ++ l.map φ
  | [], s => by simp
  | a :: l, s => by simp [fold_map φ l]
theorem ipaint_loop {f : Int} {l : Lt} {g : List Mo} (h : OrbG f l g) {c : List Int} (hc : c.length = (orbsS l g).length) {y1 : Int} {y3 : Bool} :
    f77_l5 KK f l g c y1 (orbsS l g, numsF l g) y3 KK 0 [] = some ((f, l, paintS l g c), 0) := by
  have hN := cellsS_le h.la
  have hL := numsF_len l g
  have hO := orbs_len h.la g
  have hh := iter_fold (R := Pt × Int) (body := fun L x => f77_b5 KK f l g c y1 (orbsS l g, numsF l g) y3 (fun v0 v1 => L (v0, v1)) x.1 x.2) (numsF l g) (fun q s => ((q : Int), s)) (fun s k => s ++ [c.getD k.toNat 0]) (fun s => some ((f, l, s), 0)) (fun q s => s.length = q)
    (fun L q s hq hi => by
      refine ⟨by simp [hi], ?_⟩
      obtain ⟨k1, k2⟩ := num_in h (List.getElem_mem hq)
      show f77_b5 KK f l g c y1 (orbsS l g, numsF l g) y3 (fun v0 v1 => L (v0, v1)) (q : Int) s = _
      unfold f77_b5
      have e0 : ((0 : Int) + (numsF l g)[q]).toNat = ((numsF l g)[q]).toNat := by omega
      simp only [in1 hq, in0, gd hq, Bool.and_self, cond_true, e0]
      rw [decide_eq_true k1, decide_eq_true (show (numsF l g)[q] < (c.length : Int) by omega), w_succ (by omega)]
      simp only [Bool.and_self, cond_true]
      rw [blim8 (by simp; omega), cond_true])
    (fun L s hi => by
      show f77_b5 KK f l g c y1 (orbsS l g, numsF l g) y3 (fun v0 v1 => L (v0, v1)) ((numsF l g).length : Int) s = _
      unfold f77_b5
      rw [out1, cond_false]) KK 0 [] (by omega) (by simp only [KK]; omega) rfl
  rw [List.drop_zero, fold_map, List.nil_append] at hh
  exact hh
theorem spaint_eq {f : Int} {l : Lt} {g : List Mo} (h : OrbG f l g) {c : List Int} (hc : c.length = (orbsS l g).length) : f201G KK f l g c = some (f, l, paintS l g c) := by
  have hN := cellsS_le h.la
  have hL := numsF_len l g
  have hO := orbs_len h.la g
  have hh := iter_fold (R := Pt) (body := fun L x => f201_b3 KK f l g c (numsF l g) (fun v0 v1 => L (v0, v1)) x.1 x.2) (numsF l g) (fun q s => ((q : Int), s)) (fun s k => s ++ [c.getD k.toNat 0]) (fun s => some (f, l, s)) (fun q s => s.length = q)
    (fun L q s hq hi => by
      refine ⟨by simp [hi], ?_⟩
      obtain ⟨k1, k2⟩ := num_in h (List.getElem_mem hq)
      show f201_b3 KK f l g c (numsF l g) (fun v0 v1 => L (v0, v1)) (q : Int) s = _
      unfold f201_b3
      have e0 : ((0 : Int) + (numsF l g)[q]).toNat = ((numsF l g)[q]).toNat := by omega
      simp only [in1 hq, in0, gd hq, Bool.and_self, cond_true, e0]
      rw [decide_eq_true k1, decide_eq_true (show (numsF l g)[q] < (c.length : Int) by omega), w_succ (by omega)]
      simp only [Bool.and_self, cond_true]
      rw [blim8 (by simp; omega), cond_true])
    (fun L s hi => by
      show f201_b3 KK f l g c (numsF l g) (fun v0 v1 => L (v0, v1)) ((numsF l g).length : Int) s = _
      unfold f201_b3
      rw [out1, cond_false]) KK 0 [] (by omega) (by simp only [KK]; omega) rfl
  unfold f201G f201_g
  rw [l07Numbers_eq h, Option.bind_some]
  rw [List.drop_zero, fold_map, List.nil_append] at hh
  exact hh
def resPO (f : Int) (l : Lt) (g : List Mo) (c : List Int) : Pt × Int := bif codeC f l g true != 0 then (dP, codeC f l g true) else bif (c.length == (orbsS l g).length) && c.all okC then ((f, l, paintS l g c), 0) else (dP, 2)
theorem lenI (a b : Nat) : (((a : Int) != (b : Int)) = !(a == b)) := by
  cases h : a == b
  · simp only [beq_eq_false_iff_ne] at h
    simp; omega
  · simp only [beq_iff_eq] at h
    simp [h]
theorem specPO_eq (f : Int) (l : Lt) {g : List Mo} (hn : g.length ≤ 1048576) {c : List Int} (hc : c.length ≤ 1048576) : f78G KK f l g c = some (resPO f l g c) := by
  unfold f78G resPO
  rw [l01Within_eq hc, Option.bind_some, specCode_eq f l hn, Option.bind_some, codeC_in]
  cases h : codeC f l g true != 0
  · have h0 : codeC f l g true = 0 := by simpa using h
    have hG := (codeC_0 h0).1
    have hO := orbs_len hG.la g
    simp only [cond_false, Bool.or_true, cond_true]
    cases hb : (c.all okC && decide (c.length ≤ 64))
    · simp only [cond_false]
      have e : ((c.length == (orbsS l g).length) && c.all okC) = false := by
        cases hx : c.length == (orbsS l g).length
        · rfl
        · simp only [beq_iff_eq] at hx
          have : decide (c.length ≤ 64) = true := by simp; omega
          rw [this, Bool.and_true] at hb
          rw [hb]; rfl
      rw [e]
      rfl
    · simp only [Bool.and_eq_true] at hb
      simp only [cond_true, beq_self_eq_true]
      rw [l07Orbits_eq hG, Option.bind_some, lenI, hb.1, Bool.and_true]
      cases hx : c.length == (orbsS l g).length
      · rfl
      · simp only [beq_iff_eq] at hx
        simp only [Bool.not_true, cond_false, bne_self_eq_false, cond_true]
        rw [spaint_eq hG hx]
        rfl
  · simp only [cond_true]
    have e : (codeC f l g true == 0) = false := by simpa using h
    simp only [e, h, Bool.not_false, Bool.or_true, cond_true, cond_false, Option.bind_some]
    rfl
theorem implPO_eq (f : Int) (l : Lt) {g : List Mo} (hn : g.length ≤ 1048576) {c : List Int} (hc : c.length ≤ 1048576) : f77G KK f l g c = some (resPO f l g c) := by
  unfold f77G f77_g resPO
  rw [groupCode_C f l hn, Option.bind_some]
  cases h : codeC f l g true != 0
  · have h0 : codeC f l g true = 0 := by simpa using h
    have hG := (codeC_0 h0).1
    have hO := orbs_len hG.la g
    simp only [cond_false, Bool.or_true, cond_true]
    rw [orbitsOf_eq hG, Option.bind_some, lenI]
    cases hx : c.length == (orbsS l g).length
    · simp only [Bool.not_false, Bool.not_true, cond_false, cond_true, Option.bind_some, Bool.false_and, Bool.or_true]
      rfl
    · simp only [beq_iff_eq] at hx
      simp only [Bool.not_true, cond_false, Bool.not_false, cond_true, Bool.true_and, Bool.or_true]
      rw [allWithin_eq hc, Option.bind_some]
      cases ha : c.all okC
      · simp only [Bool.not_false, cond_true, cond_false]
        rfl
      · simp only [Bool.not_true, cond_true, cond_false]
        exact ipaint_loop hG hx
  · simp only [cond_true]
    rfl
theorem resPO_len {f : Int} {l : Lt} {g : List Mo} {c : List Int} : (resPO f l g c).1.2.2.length ≤ 1000 := by
  unfold resPO
  cases h : codeC f l g true != 0
  · have h0 : codeC f l g true = 0 := by simpa using h
    have := cellsS_le (codeC_0 h0).1.la
    have := numsF_len l g
    rw [cond_false]
    cases (c.length == (orbsS l g).length) && c.all okC
    · simp [dP]
    · simp only [cond_true, paintS, List.length_map]
      omega
  · simp [dP]
end Go.Proofs.YtniidcalfhhciaaGreat.X
