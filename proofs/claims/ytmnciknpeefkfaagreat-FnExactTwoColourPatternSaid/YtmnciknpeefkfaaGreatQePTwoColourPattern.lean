/- The plain law of TwoColourPattern: both sides mark the group's orbit with 2, and then the half's with 1. -/
import Derived.Test.YtmnciknpeefkfaaGreatQePSeedPattern
import Derived.Test.YtmnciknpeefkfaaGreatQeMR
namespace Go.Proofs.YtmnciknpeefkfaaGreat.X
open Go
set_option linter.unusedVariables false
theorem marked_gen {l : Lt} (hl : IsL l) (f c : Int) {o : List Vc} (ho : ∀ u ∈ o, cellB l u = true) (hn : o.length ≤ 1000) : f81G KK f l o c = some (f, l, setAll l c o (List.replicate (cellsS l).length 0)) := by
  have hh := iter_fold (R := Pt) (body := fun L x => f81_b4 KK f l o c (fun v0 v1 => L (v0, v1)) x.1 x.2) o (fun q s => ((q : Int), s)) (fun s u => s.set (numS l u) c) (fun s => some (f, l, s)) (fun q s => s.length = (cellsS l).length)
    (fun L q s hq hi => by
      refine ⟨by rw [List.length_set]; exact hi, ?_⟩
      show f81_b4 KK f l o c (fun v0 v1 => L (v0, v1)) (q : Int) s = _
      unfold f81_b4
      have hlt := numS_lt hl o[q]
      rw [in1 hq, in0, gd hq]
      simp only [Bool.and_self, cond_true]
      rw [number_eq hl (ho _ (List.getElem_mem hq)), Option.bind_some, in0, in1 (show numS l o[q] < s.length by omega), w_succ (by omega)]
      have e1 : ((0 : Int) + ((numS l o[q] : Nat) : Int)).toNat = numS l o[q] := by omega
      simp only [Bool.and_self, cond_true, e1])
    (fun L s hi => by
      show f81_b4 KK f l o c (fun v0 v1 => L (v0, v1)) (o.length : Int) s = _
      unfold f81_b4
      rw [out1, cond_false]) KK 0 (List.replicate (cellsS l).length 0) (by omega) (by simp only [KK]; omega) (by simp)
  unfold f81G f81_g f140G
  simp only [Option.bind_some]
  obtain ⟨e1, e2⟩ := make_ok hl
  rw [e1, cond_true, e2]
  rw [List.drop_zero] at hh
  exact hh
theorem containsMo_eq {l : List Mo} (hn : l.length ≤ 1000) (m : Mo) : f215G KK l m = some (l.contains m) := by
  have hidx : f255G KK l m = some (idxS (fun a => m == a) 0 l) := by
    have h := iter_idx (R := Int) (body := fun L x => f255_b2 KK l m (fun v0 => L v0) x) l (fun a => m == a) some
      (fun L q hq => by
        unfold f255_b2
        rw [in1 hq, in0, gd hq]
        simp only [Bool.and_self, cond_true]
        rw [eqMo, w_succ (by omega)])
      (fun L => by
        unfold f255_b2
        rw [out1, cond_false]) KK 0 (by omega) (by have := KKlt (n := l.length) (by omega); omega)
    unfold f255G f255_g f255_l2
    exact h
  unfold f215G
  rw [hidx, Option.bind_some, idxS_any]
  congr 1
  rw [List.contains_eq_any_beq]
theorem containsFuncMo_eq {s : List Mo} (hs : s.length ≤ 1000) (φ : Mo → Option Bool) (p : Mo → Bool) (hp : ∀ v ∈ s, φ v = some (p v)) : f213G KK s φ = some (s.any p) := by
  have h := iter_idx (R := Int) (body := fun L x => f254_b3 KK s φ (fun v0 => L v0) x) s p some
    (fun L q hq => by
      unfold f254_b3
      rw [in1 hq, in0, gd hq]
      simp only [Bool.and_self, cond_true]
      rw [show φ ((s[q].1.1, s[q].1.2.1, s[q].1.2.2), s[q].2) = some (p s[q]) from hp _ (List.getElem_mem hq), Option.bind_some, w_succ (by omega)])
    (fun L => by
      unfold f254_b3
      rw [out1, cond_false]) KK 0 (by omega) (by have := KKlt (n := s.length) (by omega); omega)
  unfold f213G f254G f254_g f254_l3
  have h2 := congrArg (fun x => x.bind fun y1 => some (decide (y1 ≥ (0 : Int)))) h
  refine Eq.trans h2 ?_
  simp only [Option.bind_some]
  rw [List.drop_zero, idxS_any]
theorem containsAll_eq {g s : List Mo} (hg : g.length ≤ 1000) (hs : s.length ≤ 1000) : f149G KK g s = some (s.all g.contains) := by
  unfold f149G
  rw [containsFuncMo_eq hs (fun z1 => f214G KK z1 g) (fun m => !g.contains m) (fun m _ => by
    unfold f214G
    rw [containsMo_eq hg, Option.bind_some]), Option.bind_some]
  congr 1
  rw [← List.not_all_eq_any_not, Bool.not_not]
theorem l15Inside_eq {f : Int} {l : Lt} {g s : List Mo} (h : OrbG f l g) (hs : s.length ≤ 1000) : f208G KK g s = some (s.all g.contains) := by
  have hgl := h.len
  have hh := iter_all (R := Bool) (body := fun L x => f208_b3 KK g s (fun v0 => L v0) x) s (fun q => (q : Int)) g.contains (some false) (some true)
    (fun L q hq => by
      unfold f208_b3
      rw [in1 hq, in0, gd hq]
      simp only [Bool.and_self, cond_true]
      rw [show f187G KK g ((s[q].1.1, s[q].1.2.1, s[q].1.2.2), s[q].2) = some (g.contains s[q]) from l06Has_eq h.pr (by omega) s[q], Option.bind_some, w_succ (by omega)]
      cases g.contains s[q] <;> rfl)
    (fun L => by
      unfold f208_b3
      rw [out1, cond_false]) KK 0 (by omega) (by simp only [KK]; omega)
  unfold f208G f208_g f208_l3
  refine hh.trans ?_
  rw [List.drop_zero]
  cases s.all g.contains <;> rfl
/-- half of a group, and a cell -/
def halfB (f : Int) (l : Lt) (g s : List Mo) (v : Vc) : Bool := cellB l v && (grpB f l s && ((2 * s.length == g.length) && s.all g.contains))
def codeH (f : Int) (l : Lt) (g s : List Mo) (v : Vc) : Int := bif codeC f l g true != 0 then codeC f l g true else bif halfB f l g s v then (bif decide (48 < g.length) then 3 else 0) else 2
theorem grpB_orb {f : Int} {l : Lt} {g : List Mo} (hl : IsL l) (h : grpB f l g = true) : OrbG f l g := by
  refine ⟨hl, pre_of ?_, h⟩
  unfold grpB at h
  rw [Bool.and_eq_true] at h
  exact h.1
theorem codeC_ok {f : Int} {l : Lt} {g : List Mo} (h : codeC f l g true = 0) : okF f = true ∧ okL l = true ∧ grpB f l g = true := by
  unfold codeC at h
  by_cases h1 : (okF f && okL l) = true
  · rw [if_pos h1] at h
    by_cases h2 : (true && grpB f l g) = true
    · simp only [Bool.and_eq_true] at h1 h2
      exact ⟨h1.1, h1.2, h2.2⟩
    · rw [if_neg h2] at h; omega
  · rw [if_neg h1] at h; omega
theorem twoI {a b : Nat} (ha : a ≤ 1048576) (hb : b ≤ 1048576) : ((w ((2 : Int) * (a : Int))) == (b : Int)) = (2 * a == b) := by
  rw [w_id (by omega) (by omega), Bool.eq_iff_iff, beq_iff_eq, beq_iff_eq]
  omega
theorem g48 (n : Nat) : decide ((n : Int) > (48 : Int)) = decide (48 < n) := by
  rw [decide_eq_decide]; omega
theorem halfCode_eq (f : Int) (l : Lt) {g s : List Mo} (hn : g.length ≤ 1048576) (hs : s.length ≤ 1048576) (v : Vc) : f79G KK f l g s [v] = some (codeH f l g s v) := by
  unfold f79G codeH
  rw [cellCode_eq f l hn (by simp), Option.bind_some, show [v].all (cellB l) = cellB l v by simp, codeC_in]
  cases h : codeC f l g true != 0
  · have h0 : codeC f l g true = 0 := by simpa using h
    obtain ⟨hf, hl0, _⟩ := codeC_ok h0
    have hG := (codeC_0 h0).1
    have hl := hG.la
    have hgl := hG.len
    rw [cond_false, cond_false]
    unfold halfB
    cases hv : cellB l v
    · rfl
    · simp only [cond_true, bne_self_eq_false, cond_false, Bool.true_and]
      rw [isGroup_eq hf hl hs, Option.bind_some]
      cases hb : grpB f l s
      · simp only [Bool.not_false, Bool.not_true, Bool.false_and, cond_true, cond_false, Bool.or_true, Option.bind_some]
      · have hS := grpB_orb hl hb
        have hsl := hS.len
        simp only [Bool.not_false, Bool.not_true, cond_true, cond_false, Bool.or_true, Bool.true_and]
        simp only [bne]
        rw [twoI hs hn]
        cases h2 : (2 * s.length == g.length)
        · simp only [Bool.not_false, Bool.not_true, Bool.false_and, cond_true, cond_false, Option.bind_some]
        · simp only [Bool.not_true, Bool.not_false, cond_true, cond_false, Bool.true_and]
          rw [containsAll_eq (by omega) (by omega), Option.bind_some, g48]
          cases s.all g.contains
          · rfl
          · cases decide (48 < g.length) <;> rfl
  · simp only [cond_true, h]
theorem l06Code_C (f : Int) (l : Lt) (b : Bool) : f127G KK f l b = some (if okF f && okL l then (if b then 0 else 2) else 1) := by
  unfold f127G
  rw [l04Code_eq, Option.bind_some]
  cases okF f && okL l <;> cases b <;> rfl
theorem l16Code_eq (f : Int) (l : Lt) {g s : List Mo} (hn : g.length ≤ 1048576) (hs : s.length ≤ 1048576) (v : Vc) : f75G KK f l g s v = some (codeH f l g s v) := by
  unfold f75G f146G codeH
  rw [specIsGroup_eq f l hn, Option.bind_some, specIsGroup_eq f l hs]
  cases h1 : (okF f && okL l)
  · have hc : codeC f l g true = 1 := by
      unfold codeC
      rw [h1]
      rfl
    rw [hc]
    simp only [Bool.false_and, Bool.not_false, Bool.true_or, cond_true, cond_false, Option.bind_some, Bool.or_true]
    rw [l06Code_C, h1]
    rfl
  · have hl : IsL l := by simp only [Bool.and_eq_true] at h1; exact IsL_of h1.2
    have hcc : codeC f l g true = if grpB f l g then 0 else 2 := by
      unfold codeC
      rw [h1]
      simp
    rw [hcc]
    simp only [Bool.true_and, l07Cell_eq hl]
    cases hg : grpB f l g
    · simp only [Bool.not_false, Bool.true_or, cond_true, cond_false, Option.bind_some, Bool.or_true]
      rw [l06Code_C, h1]
      rfl
    · have hG := grpB_orb hl hg
      have hgl := hG.len
      unfold halfB
      cases hb : grpB f l s
      · simp only [Bool.not_false, Bool.not_true, Bool.true_or, cond_true, cond_false, Option.bind_some, Bool.or_true, Bool.false_and, Bool.and_false]
        rw [l06Code_C, h1]
        rfl
      · have hS := grpB_orb hl hb
        have hsl := hS.len
        simp only [Bool.not_true, Bool.or_true, cond_true, Option.bind_some, Bool.true_and, Bool.and_true]
        rw [l15Inside_eq hG (by omega), Option.bind_some]
        simp only [Bool.or_true, cond_true, Option.bind_some]
        cases hi : s.all g.contains
        · simp only [cond_false, Option.bind_some, Bool.and_false]
          rw [l06Code_C, h1]
          rfl
        · simp only [cond_true, Bool.and_true]
          rw [twoI hs hn, g48]
          cases h2 : (2 * s.length == g.length)
          · simp only [cond_false, Option.bind_some, Bool.and_false]
            rw [l06Code_C, h1]
            rfl
          · simp only [cond_true, Option.bind_some, Bool.and_true]
            rw [l06Code_C, h1]
            cases cellB l v
            · rfl
            · cases decide (48 < g.length) <;> rfl
theorem codeH_0 {f : Int} {l : Lt} {g s : List Mo} {v : Vc} (h : codeH f l g s v = 0) : OrbG f l g ∧ OrbG f l s ∧ cellB l v = true ∧ s.all g.contains = true := by
  unfold codeH at h
  cases h1 : codeC f l g true != 0
  · have h0 : codeC f l g true = 0 := by simpa using h1
    have hG := (codeC_0 h0).1
    rw [h1, cond_false] at h
    cases h2 : halfB f l g s v
    · rw [h2] at h; cases h
    · unfold halfB at h2
      simp only [Bool.and_eq_true] at h2
      exact ⟨hG, grpB_orb hG.la h2.2.1, h2.1, h2.2.2.2⟩
  · rw [h1, cond_true] at h
    rw [h] at h1
    cases h1
def twoS (l : Lt) (g s : List Mo) (v : Vc) : List Int := setAll l 1 (orbS l s v) (setAll l 2 (orbS l g v) (List.replicate (cellsS l).length 0))
theorem twoS_len (l : Lt) (g s : List Mo) (v : Vc) : (twoS l g s v).length = (cellsS l).length := by unfold twoS; rw [setAll_len, setAll_len]; simp
theorem stwo_in {l : Lt} (hl : IsL l) {f : Int} {g s : List Mo} {v : Vc} {q8 y1 : Int} {y2 : Bool} {o o2 : List Vc} (ho : ∀ u ∈ o2, cellB l u = true) (hn : o2.length ≤ 1000) {t : List Int} (ht : t.length = (cellsS l).length) : f28_l13 KK f l g s v q8 y1 y2 o o2 KK 0 t = some ((f, l, setAll l 1 o2 t), 0) := by
  have hh := iter_fold (R := Pt × Int) (body := fun L x => f28_b13 KK f l g s v q8 y1 y2 o o2 (fun v0 v1 => L (v0, v1)) x.1 x.2) o2 (fun q s => ((q : Int), s)) (fun s u => s.set (numS l u) 1) (fun s => some ((f, l, s), 0)) (fun q s => s.length = (cellsS l).length)
    (fun L q t hq hi => by
      refine ⟨by rw [List.length_set]; exact hi, ?_⟩
      show f28_b13 KK f l g s v q8 y1 y2 o o2 (fun v0 v1 => L (v0, v1)) (q : Int) t = _
      unfold f28_b13
      have hlt := numS_lt hl o2[q]
      rw [in1 hq, in0, gd hq]
      simp only [Bool.and_self, cond_true]
      rw [l03Number_eq hl (ho _ (List.getElem_mem hq)), Option.bind_some, in0, in1 (show numS l o2[q] < t.length by omega), w_succ (by omega)]
      have e1 : ((0 : Int) + ((numS l o2[q] : Nat) : Int)).toNat = numS l o2[q] := by omega
      simp only [Bool.and_self, cond_true, e1])
    (fun L t hi => by
      show f28_b13 KK f l g s v q8 y1 y2 o o2 (fun v0 v1 => L (v0, v1)) (o2.length : Int) t = _
      unfold f28_b13
      rw [out1, cond_false]) KK 0 t (by omega) (by simp only [KK]; omega) ht
  rw [List.drop_zero] at hh
  exact hh
theorem stwo_loop {l : Lt} (hl : IsL l) {f : Int} {g s : List Mo} {v : Vc} {y1 : Int} {y2 : Bool} {o o2 : List Vc} (ho1 : ∀ u ∈ o, cellB l u = true) (hn1 : o.length ≤ 1000) (ho : ∀ u ∈ o2, cellB l u = true) (hn : o2.length ≤ 1000) {t : List Int} (ht : t.length = (cellsS l).length) : f28_l7 KK f l g s v y1 y2 o o2 KK 0 t = some ((f, l, setAll l 1 o2 (setAll l 2 o t)), 0) := by
  have hh := iter_fold (R := Pt × Int) (body := fun L x => f28_b7 KK f l g s v y1 y2 o o2 (fun c0 c1 c2 c3 c4 d0 d1 => f28_l13 KK f l g s v c0 c1 c2 c3 c4 KK d0 d1) (fun v0 v1 => L (v0, v1)) x.1 x.2) o (fun q s => ((q : Int), s)) (fun s u => s.set (numS l u) 2) (fun t => some ((f, l, setAll l 1 o2 t), 0)) (fun q s => s.length = (cellsS l).length)
    (fun L q t hq hi => by
      refine ⟨by rw [List.length_set]; exact hi, ?_⟩
      show f28_b7 KK f l g s v y1 y2 o o2 _ (fun v0 v1 => L (v0, v1)) (q : Int) t = _
      unfold f28_b7
      have hlt := numS_lt hl o[q]
      rw [in1 hq, in0, gd hq]
      simp only [Bool.and_self, cond_true]
      rw [l03Number_eq hl (ho1 _ (List.getElem_mem hq)), Option.bind_some, in0, in1 (show numS l o[q] < t.length by omega), w_succ (by omega)]
      have e1 : ((0 : Int) + ((numS l o[q] : Nat) : Int)).toNat = numS l o[q] := by omega
      simp only [Bool.and_self, cond_true, e1])
    (fun L t hi => by
      show f28_b7 KK f l g s v y1 y2 o o2 _ (fun v0 v1 => L (v0, v1)) (o.length : Int) t = _
      unfold f28_b7
      rw [out1, cond_false]
      exact stwo_in hl ho hn hi) KK 0 t (by omega) (by simp only [KK]; omega) ht
  rw [List.drop_zero] at hh
  exact hh
theorem itwo_loop {l : Lt} (hl : IsL l) {f : Int} {g s : List Mo} {v : Vc} {y1 : Int} {y2 o2 : List Vc} {y4 : List Int} (ho : ∀ u ∈ o2, cellB l u = true) (hn : o2.length ≤ 1000) {t : List Int} (ht : t.length = (cellsS l).length) : f30_l7 KK f l g s v y1 y2 o2 (f, l, y4) KK 0 t = some ((f, l, setAll l 1 o2 t), 0) := by
  have hh := iter_fold (R := Pt × Int) (body := fun L x => f30_b7 KK f l g s v y1 y2 o2 (f, l, y4) (fun v0 v1 => L (v0, v1)) x.1 x.2) o2 (fun q s => ((q : Int), s)) (fun s u => s.set (numS l u) 1) (fun s => some ((f, l, s), 0)) (fun q s => s.length = (cellsS l).length)
    (fun L q t hq hi => by
      refine ⟨by rw [List.length_set]; exact hi, ?_⟩
      show f30_b7 KK f l g s v y1 y2 o2 (f, l, y4) (fun v0 v1 => L (v0, v1)) (q : Int) t = _
      unfold f30_b7
      have hlt := numS_lt hl o2[q]
      rw [in1 hq, in0, gd hq]
      simp only [Bool.and_self, cond_true]
      rw [number_eq hl (ho _ (List.getElem_mem hq)), Option.bind_some, in0, in1 (show numS l o2[q] < t.length by omega), w_succ (by omega)]
      have e1 : ((0 : Int) + ((numS l o2[q] : Nat) : Int)).toNat = numS l o2[q] := by omega
      simp only [Bool.and_self, cond_true, e1])
    (fun L t hi => by
      show f30_b7 KK f l g s v y1 y2 o2 (f, l, y4) (fun v0 v1 => L (v0, v1)) (o2.length : Int) t = _
      unfold f30_b7
      rw [out1, cond_false]) KK 0 t (by omega) (by simp only [KK]; omega) ht
  rw [List.drop_zero] at hh
  exact hh
theorem orb_sub {l : Lt} {g s : List Mo} (h : s.all g.contains = true) {u v : Vc} (hu : u ∈ orbS l s v) : u ∈ orbS l g v := by
  obtain ⟨m, hm, e⟩ := orbS_mem.1 hu
  exact orbS_mem.2 ⟨m, List.contains_iff_mem.1 (List.all_eq_true.1 h m hm), e⟩
theorem orb_le {l : Lt} {g s : List Mo} (h : s.all g.contains = true) (v : Vc) : (orbS l s v).length ≤ (orbS l g v).length :=
  nodup_len _ _ (SI_nodup (orbS_SI l s v)) fun x hx => orb_sub h hx
def resTC (f : Int) (l : Lt) (g s : List Mo) (v : Vc) : Pt × Int := bif codeH f l g s v != 0 then (dP, codeH f l g s v) else bif decide ((orbS l s v).length < (orbS l g v).length) then ((f, l, twoS l g s v), 0) else (dP, 5)
theorem specTC_eq (f : Int) (l : Lt) {g s : List Mo} (hn : g.length ≤ 1048576) (hs : s.length ≤ 1048576) (v : Vc) : f28G KK f l g s v = some (resTC f l g s v) := by
  unfold f28G f28_g resTC
  rw [l16Code_eq f l hn hs v, Option.bind_some]
  cases h : codeH f l g s v != 0
  · have h0 : codeH f l g s v = 0 := by simpa using h
    obtain ⟨hG, hS, hv, hin⟩ := codeH_0 h0
    have hgl := hG.len
    have hsl := hS.len
    have o1 := l07Orbit_eq hG.la (by omega) hG.good (cellB_Sv hG.la hv)
    have o2 := l07Orbit_eq hS.la (by omega) hS.good (cellB_Sv hG.la hv)
    unfold f76G
    rw [cond_false, cond_false, o1, o2]
    simp only [Option.bind_some]
    have e : decide (((orbS l s v).length : Int) < ((orbS l g v).length : Int)) = decide ((orbS l s v).length < (orbS l g v).length) := by
      rw [decide_eq_decide]; omega
    rw [e]
    cases decide ((orbS l s v).length < (orbS l g v).length)
    · rfl
    · obtain ⟨e1, e2⟩ := make_ok hG.la
      simp only [Bool.not_true, cond_false, cond_true]
      rw [e1, cond_true, e2]
      exact stwo_loop hG.la (fun u hu => orb_cell hG hu) (by have := orbS_len l g v; omega) (fun u hu => orb_cell hS hu) (by have := orbS_len l s v; omega) (by simp)
  · simp only [cond_true]
    rfl
theorem implTC_eq (f : Int) (l : Lt) {g s : List Mo} (hn : g.length ≤ 1048576) (hs : s.length ≤ 1048576) (v : Vc) : f30G KK f l g s v = some (resTC f l g s v) := by
  unfold f30G f30_g resTC
  rw [halfCode_eq f l hn hs v, Option.bind_some]
  cases h : codeH f l g s v != 0
  · have h0 : codeH f l g s v = 0 := by simpa using h
    obtain ⟨hG, hS, hv, hin⟩ := codeH_0 h0
    have hgl := hG.len
    have hsl := hS.len
    have hle := orb_le (l := l) hin v
    have o1 := orbitOf_eq hG.la (by omega) hG.good (cellB_Sv hG.la hv)
    have o2 := orbitOf_eq hS.la (by omega) hS.good (cellB_Sv hG.la hv)
    rw [cond_false, cond_false, o1, Option.bind_some, o2, Option.bind_some]
    have e : (((orbS l s v).length : Int) == ((orbS l g v).length : Int)) = !decide ((orbS l s v).length < (orbS l g v).length) := by
      by_cases hlt : (orbS l s v).length < (orbS l g v).length
      · rw [decide_eq_true hlt]
        simp; omega
      · rw [decide_eq_false hlt]
        simp; omega
    rw [e]
    cases decide ((orbS l s v).length < (orbS l g v).length)
    · rfl
    · simp only [Bool.not_true, cond_false, cond_true]
      rw [marked_gen hG.la f 2 (fun u hu => orb_cell hG hu) (by have := orbS_len l g v; omega), Option.bind_some]
      exact itwo_loop hG.la (fun u hu => orb_cell hS hu) (by have := orbS_len l s v; omega) (by rw [setAll_len]; simp)
  · simp only [cond_true]
    rfl
theorem resTC_len {f : Int} {l : Lt} {g s : List Mo} {v : Vc} : (resTC f l g s v).1.2.2.length ≤ 1000 := by
  unfold resTC
  cases h : codeH f l g s v != 0
  · have h0 : codeH f l g s v = 0 := by simpa using h
    have := cellsS_le (codeH_0 h0).1.la
    have := twoS_len l g s v
    rw [cond_false]
    cases decide ((orbS l s v).length < (orbS l g v).length)
    · simp [dP]
    · simp only [cond_true]
      omega
  · simp [dP]
theorem FnExactTwoColourPattern_pure (a0 : Int) (a1 : Int × Int × Int) (a2 : List ((Int × Int × Int × Int) × Int × Int)) (a3 : List ((Int × Int × Int × Int) × Int × Int)) (a4 : Int × Int) (h : WfA [(.int .i64), (.cons (.int .i64) (.cons (.int .i64) (.int .i64))), (.list 95 (.cons (.cons (.int .i64) (.cons (.int .i64) (.cons (.int .i64) (.int .i64)))) (.cons (.int .i64) (.int .i64)))), (.list 95 (.cons (.cons (.int .i64) (.cons (.int .i64) (.cons (.int .i64) (.int .i64)))) (.cons (.int .i64) (.int .i64)))), (.cons (.int .i64) (.int .i64))] (a0, a1, a2, a3, a4, ())) : ∃ K, f5G K a0 a1 a2 a3 a4 = some true := by
  refine ⟨KK, ?_⟩
  have hlen2 : a2.length ≤ maxLen ∧ a3.length ≤ maxLen := by
    simp only [WfA, Wf] at h
    exact ⟨h.2.2.1.1, h.2.2.2.1.1⟩
  unfold f5G f13G f15G f29G
  by_cases hb : (a2.length : Int) ≤ 1048576
  · obtain ⟨e1, e2⟩ := sz_small (left := 1048576) (by omega) (by omega) hb
    rw [e1, cond_false, e2, Option.bind_some, decide_eq_false (by omega), cond_false]
    by_cases hb2 : (a3.length : Int) ≤ 1048576 - (a2.length : Int)
    · obtain ⟨e3, e4⟩ := sz_small (left := 1048576 - (a2.length : Int)) (by omega) (by omega) hb2
      rw [e3, cond_false, e4, Option.bind_some, decide_eq_false (by omega), cond_false]
      simp only [Option.bind_some]
      have h2 : a2.length ≤ 1048576 := by omega
      have h3 : a3.length ≤ 1048576 := by omega
      rw [toMotionS_eq h2, toMotionS_eq h3]
      simp only [Option.bind_some]
      rw [specTC_eq a0 a1 h2 h3 a4, implTC_eq a0 a1 h2 h3 a4]
      have hr := resTC_len (f := a0) (l := a1) (g := a2) (s := a3) (v := a4)
      obtain ⟨r1, ⟨m1, _⟩, hm1⟩ := markMotionS_gen a2 (k := 1) (by omega) (by omega) h2
      obtain ⟨r2, ⟨m2, _⟩, hm2⟩ := markMotionS_gen a3 (k := r1.2) (by omega) (by omega) h3
      obtain ⟨r3, ⟨m3, m4, m5⟩, hm3⟩ := markInt64S_gen (resTC a0 a1 a2 a3 a4).1.2.2 (k := 1) (by omega) (by omega) (by omega)
      have hh := heldInt64S_gen r3.1 (k := 1) (by omega) (by omega) (by omega) (by rw [m4]; exact m5)
      have hmp : f25G KK (resTC a0 a1 a2 a3 a4).1 1 = some (((resTC a0 a1 a2 a3 a4).1.1, (resTC a0 a1 a2 a3 a4).1.2.1, r3.1), r3.2) := by
        unfold f25G
        rw [hm3]
        rfl
      have hhp : f32G KK ((resTC a0 a1 a2 a3 a4).1.1, (resTC a0 a1 a2 a3 a4).1.2.1, r3.1) 1 = some r3.2 := by
        unfold f32G
        simp only
        rw [hh, Option.bind_some, decide_eq_false (by omega), cond_false, m3, m4]
      simp only [Option.bind_some]
      rw [eqPattern_eq (by omega)]
      simp only [Option.bind_some, Bool.or_true, cond_true, Bool.not_true, bne_self_eq_false, cond_false]
      rw [eqMotionS_eq h2, eqMotionS_eq h3]
      simp only [Option.bind_some, Bool.or_true, cond_true, Bool.not_true, bne_self_eq_false, cond_false]
      rw [hm1, Option.bind_some, hm2, Option.bind_some, decide_eq_false (show ¬ r2.2 < 0 by omega), hmp]
      simp only [Option.bind_some, Bool.or_true, cond_true, Bool.not_true, Bool.not_false, bne_self_eq_false, cond_false]
      rw [hhp, Option.bind_some, decide_eq_false (show ¬ r3.2 < 0 by omega)]
      simp only [bne_self_eq_false, cond_false]
      rw [Option.bind_some, decide_eq_false (show ¬ r3.2 < 0 by omega)]
      simp only [bne_self_eq_false, cond_false]
    · rw [sz_large (left := 1048576 - (a2.length : Int)) (by omega) (by omega) hlen2.2 hb2]
      rfl
  · rw [sz_large (left := 1048576) (by omega) (by omega) hlen2.1 hb]
    rfl
end Go.Proofs.YtmnciknpeefkfaaGreat.X
