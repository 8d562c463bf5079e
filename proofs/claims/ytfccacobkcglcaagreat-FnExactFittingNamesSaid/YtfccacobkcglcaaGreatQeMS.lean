/- Plain facts: marks on cells, and marks that are in conflict. -/
import Derived.Test.YtfccacobkcglcaaGreatQePOrbitNumbers
import Derived.Test.YtfccacobkcglcaaGreatQeMR
namespace Go.Proofs.YtfccacobkcglcaaGreat.X
open Go
set_option linter.unusedSimpArgs false
set_option linter.unusedVariables false
abbrev Ma := Vc × Int
theorem toMark_eq (m : Ma) : f145G KK m = some m := by
  unfold f145G f53G
  rfl
theorem toMarkS_eq {l : List Ma} (hl : l.length ≤ 1048576) : f35G KK l = some l := by
  unfold f35G f35_g
  have h0 : (decide (0 ≤ (l.length : Int)) && Nat.ble (l.length : Int).toNat (lim 24) && ((l.length : Int) == (l.length : Int))) = true := by
    rw [show (l.length : Int).toNat = l.length by omega, blimB hl (by omega) (by omega)]; simp
  rw [h0, cond_true]
  have h := iter_copy (body := fun L x => f35_b3 KK l (fun v0 v1 => L (v0, v1)) x.1 x.2) l
    (fun L q s hq hs => by
      unfold f35_b3
      simp only
      have hz : ((0 : Int) + (q : Int)).toNat = q := by omega
      rw [in1 hq, in1 (show q < s.length by omega), in0, gd hq, w_succ (by omega), hz]
      simp only [Bool.and_self, cond_true]
      rw [toMark_eq, Option.bind_some])
    (fun L s => by
      unfold f35_b3
      simp only
      rw [out1, cond_false]) KK 0 (List.replicate (l.length : Int).toNat (((0, 0), 0) : Ma)) (by omega) (by simp only [KK]; omega) (by simp) (by simp)
  unfold f35_l3
  exact h
theorem eqMark_eq (m : Ma) : f149G KK m m = some true := by
  unfold f149G
  rw [eqVec_eq, Option.bind_some]
  simp
theorem eqMarkS_eq {l : List Ma} (hl : l.length ≤ 1048576) : f38G KK l l = some true := by
  unfold f38G f38_g f38_l3
  rw [show ((l.length : Int) != (l.length : Int)) = false by simp, cond_false]
  have h := iter_all (X := Int) (body := fun L x => f38_b3 KK l l (fun v0 => L v0) x) l (fun q => (q : Int)) (fun _ => true) (some false) (some true)
    (fun L q hq => by
      unfold f38_b3
      rw [in1 hq, in0, gd hq, w_succ (by omega), eqMark_eq]
      simp)
    (fun L => by
      unfold f38_b3
      rw [out1, cond_false]) KK 0 (by omega) (by simp only [KK]; omega)
  refine h.trans ?_
  rw [List.drop_zero, show (l.all fun _ => true) = true from List.all_eq_true.mpr (by simp)]
  rfl
theorem markMarkS_gen (l : List Ma) {k : Int} (hk : 0 ≤ k) (hk2 : k ≤ 1000000000) (hl : l.length ≤ 1048576) : ∃ r : List Ma × Int, (r.2 = k + 3 * (l.length : Int) ∧ r.1.length = l.length) ∧ f39G KK l k = some r := by
  unfold f39G f39_g f39_l2
  refine iter_ex (X := Int × Int × List Ma) (R := List Ma × Int) l.length (fun q x => x.1 = k + 3 * (q : Int) ∧ x.2.1 = (q : Int) ∧ x.2.2.length = l.length) _ ?_ ?_ KK 0 (k, 0, l) (by omega) (by simp only [KK]; omega) ⟨by simp, by simp, rfl⟩
  · rintro L q ⟨x1, x2, s⟩ hq ⟨e1, e2, e3⟩
    simp only at e1 e2 e3
    subst e2
    have hq2 : q < s.length := by omega
    suffices h : ∃ y : List Ma, y.length = s.length ∧ f39_b2 KK (fun v0 v1 v2 => L (v0, v1, v2)) x1 (q : Int) s = L (x1 + 3, ((q + 1 : Nat) : Int), y) by
      obtain ⟨y, hy, e⟩ := h
      exact ⟨(x1 + 3, ((q + 1 : Nat) : Int), y), ⟨by simp only; omega, rfl, by simp only; omega⟩, e⟩
    unfold f39_b2
    rw [in1 hq2, in0, w_succ (by omega), w_id (n := x1 + 1) (by omega) (by omega), w_id (n := x1 + 1 + 1) (by omega) (by omega), w_id (n := x1 + 1 + 1 + 1) (by omega) (by omega)]
    simp (config := { zeta := false }) only [List.length_set, in1 hq2, Bool.and_self, cond_true]
    extract_lets s2
    have l2 : s2.length = s.length := by simp only [s2, List.length_set]
    refine ⟨s2, l2, ?_⟩
    have e5 : x1 + 1 + 1 + 1 = x1 + 3 := by omega
    rw [e5]
  · rintro L ⟨x1, x2, s⟩ ⟨e1, e2, e3⟩
    simp only at e1 e2 e3
    subst e2
    refine ⟨(s, x1), ⟨e1, e3⟩, ?_⟩
    show f39_b2 KK (fun v0 v1 v2 => L (v0, v1, v2)) x1 (l.length : Int) s = _
    unfold f39_b2
    rw [show decide ((l.length : Int) < (s.length : Int)) = false by simp; omega, cond_false]
/-! ### which marks there are -/
def markB (x : Ma) : Bool := vecB x.1 && okC x.2
def marksB (ms : List Ma) : Bool := ms.all markB && decide (ms.length ≤ 40)
theorem specAreMarks_eq {ms : List Ma} (h : ms.length ≤ 1048576) : f96G KK ms = some (marksB ms) := by
  have hh := iter_all (R := Bool) (body := fun L x => f96_b4 KK ms (fun v0 => L v0) x) ms (fun q => (q : Int)) markB (some false) (some (decide ((ms.length : Int) ≤ 40)))
    (fun L q hq => by
      unfold f96_b4
      rw [in1 hq, in0, gd hq]
      simp only [Bool.and_self, cond_true, Bool.or_true]
      rw [specIsVec_eq, Option.bind_some, w_succ (by omega)]
      unfold markB
      cases vecB ms[q].1
      · rfl
      · simp only [Bool.not_true, Bool.not_false, cond_true, cond_false, Bool.true_and]
        rw [in_eq, Option.bind_some]
        unfold okC
        cases decide (0 ≤ ms[q].2 ∧ ms[q].2 ≤ 9) <;> rfl)
    (fun L => by
      unfold f96_b4
      rw [out1, cond_false]) KK 0 (by omega) (by simp only [KK]; omega)
  unfold f96G f96_g f96_l4
  refine hh.trans ?_
  rw [List.drop_zero]
  unfold marksB
  have e : decide ((ms.length : Int) ≤ 40) = decide (ms.length ≤ 40) := by rw [decide_eq_decide]; omega
  rw [e]
  cases ms.all markB <;> rfl
theorem containsFuncMa_eq {s : List Ma} (hs : s.length ≤ 1000) (φ : Ma → Option Bool) (p : Ma → Bool) (hp : ∀ v ∈ s, φ v = some (p v)) : f158G KK s φ = some (s.any p) := by
  have h := iter_idx (R := Int) (body := fun L x => f259_b3 KK s φ (fun v0 => L v0) x) s p some
    (fun L q hq => by
      unfold f259_b3
      rw [in1 hq, in0, gd hq]
      simp only [Bool.and_self, cond_true]
      rw [show φ (s[q].1, s[q].2) = some (p s[q]) from hp _ (List.getElem_mem hq), Option.bind_some, w_succ (by omega)])
    (fun L => by
      unfold f259_b3
      rw [out1, cond_false]) KK 0 (by omega) (by have := KKlt (n := s.length) (by omega); omega)
  unfold f158G f259G f259_g f259_l3
  have h2 := congrArg (fun x => x.bind fun y1 => some (decide (y1 ≥ (0 : Int)))) h
  refine Eq.trans h2 ?_
  simp only [Option.bind_some]
  rw [List.drop_zero, idxS_any]
theorem notMark_eq (x : Ma) : f210G KK x = some (!markB x) := by
  unfold f210G markB
  rw [isVec_eq, Option.bind_some]
  cases vecB x.1
  · rfl
  · simp only [Bool.not_true, Bool.not_false, cond_true, cond_false, Bool.true_and, Bool.or_true]
    unfold f206G
    rw [within_eq]
    rfl
theorem areMarks_eq (ms : List Ma) : f95G KK ms = some (marksB ms) := by
  unfold f95G marksB
  have e : decide ((ms.length : Int) ≤ 40) = decide (ms.length ≤ 40) := by rw [decide_eq_decide]; omega
  rw [e]
  by_cases h : ms.length ≤ 40
  · rw [decide_eq_true h]
    simp only [Bool.or_true, cond_true, Bool.and_true]
    rw [containsFuncMa_eq (by omega) (fun z1 => f210G KK z1) (fun x => !markB x) (fun x _ => notMark_eq x), Option.bind_some]
    congr 1
    rw [← List.not_all_eq_any_not, Bool.not_not]
  · rw [decide_eq_false h]
    simp
theorem marks_of {ms : List Ma} (h : marksB ms = true) : (∀ x ∈ ms, vecB x.1 = true) ∧ ms.length ≤ 40 := by
  unfold marksB at h
  rw [Bool.and_eq_true, decide_eq_true_eq] at h
  refine ⟨fun x hx => ?_, h.2⟩
  have := List.all_eq_true.1 h.1 x hx
  unfold markB at this
  rw [Bool.and_eq_true] at this
  exact this.1
/-! ### conflicts -/
theorem l03Number_gen {l : Lt} (hl : IsL l) {v : Vc} (hv : Sm v) : f127G KK l v = some ((numS l v : Nat) : Int) := by
  unfold f127G
  rw [l03Reduce_eq hl hv, Option.bind_some, (num_calc hl v).1]
def nmS (l : Lt) (ns : List Int) (x : Ma) : Int := ns.getD (numS l x.1) 0
def cfB (l : Lt) (ns : List Int) (y x : Ma) : Bool := (nmS l ns x == nmS l ns y) && (x.2 != y.2)
def cfO (l : Lt) (ns : List Int) (ms : List Ma) : Nat → List Ma → Int × Int × Bool
  | _, [] => (0, 0, false)
  | j, y :: r => bif (ms.take j).any (cfB l ns y) then (idxS (cfB l ns y) 0 (ms.take j), (j : Int), true) else cfO l ns ms (j + 1) r
theorem vec_Sm {v : Vc} (h : vecB v = true) : Sm v := Sv_Sm (vecB_Sv h)
theorem take_get {ms : List Ma} {j q : Nat} (hq : q < (ms.take j).length) : q < j ∧ ∃ h : q < ms.length, (ms.take j)[q] = ms[q] := by
  rw [List.length_take] at hq
  exact ⟨by omega, by omega, by rw [List.getElem_take]⟩
theorem getZ {ns : List Int} {k : Nat} : ns.getD ((0 : Int) + (k : Int)).toNat (0 : Int) = ns.getD k 0 := by
  have e : ((0 : Int) + (k : Int)).toNat = k := by omega
  rw [e]
theorem sconf_in {l : Lt} (hl : IsL l) {ns : List Int} (hns : ns.length = (cellsS l).length) {ms : List Ma} (hm : ∀ x ∈ ms, vecB x.1 = true) (hn : ms.length ≤ 1000) {j : Nat} (hj : j < ms.length) {L : Int → Option (Int × Int × Bool)} :
    f144_l11 KK l ns ms (j : Int) L KK 0 = bif (ms.take j).any (cfB l ns ms[j]) then some (idxS (cfB l ns ms[j]) 0 (ms.take j), (j : Int), true) else L ((j + 1 : Nat) : Int) := by
  have hlen : (ms.take j).length = j := by rw [List.length_take]; omega
  have h := iter_idx (R := Int × Int × Bool) (body := fun L' x => f144_b11 KK l ns ms (j : Int) L (fun v0 => L' v0) x) (ms.take j) (cfB l ns ms[j]) (fun i => bif decide (i ≥ 0) then some (i, (j : Int), true) else L ((j + 1 : Nat) : Int))
    (fun L' q hq => by
      obtain ⟨hqj, hqm, e⟩ := take_get hq
      unfold f144_b11
      have n1 : numS l ms[q].1 < ns.length := by rw [hns]; exact numS_lt hl _
      have n2 : numS l ms[j].1 < ns.length := by rw [hns]; exact numS_lt hl _
      rw [in1 hqj, in0, in1 hqm, gd hqm, in0, in1 hj, gd hj, l03Number_gen hl (vec_Sm (hm _ (List.getElem_mem hqm))), l03Number_gen hl (vec_Sm (hm _ (List.getElem_mem hj)))]
      simp only [Bool.and_self, cond_true, Option.bind_some, Bool.or_true]
      rw [in0, in1 n1, in0, in1 n2, getZ, getZ, w_succ (by omega)]
      simp only [Bool.and_self, cond_true, Bool.or_true]
      rw [e]
      unfold cfB nmS
      cases ns.getD (numS l ms[q].1) 0 == ns.getD (numS l ms[j].1) 0 <;> rfl)
    (fun L' => by
      unfold f144_b11
      rw [hlen, out1, cond_false, w_succ (by omega)]
      rfl) KK 0 (by omega) (by simp only [KK]; omega)
  rw [List.drop_zero, idxS_any] at h
  exact h
theorem sconf_loop {l : Lt} (hl : IsL l) {ns : List Int} (hns : ns.length = (cellsS l).length) {ms : List Ma} (hm : ∀ x ∈ ms, vecB x.1 = true) (hn : ms.length ≤ 1000) : ∀ (n j : Nat), j ≤ ms.length → ms.length - j < n → f144_l9 KK l ns ms n (j : Int) = some (cfO l ns ms j (ms.drop j))
  | 0, j, _, h => by omega
  | n + 1, j, hj, h => by
    show f144_b9 KK l ns ms (fun c0 d0 => f144_l11 KK l ns ms c0 (fun v0 => f144_l9 KK l ns ms n v0) KK d0) (fun v0 => f144_l9 KK l ns ms n v0) (j : Int) = _
    unfold f144_b9
    by_cases hlt : j < ms.length
    · rw [in1 hlt, cond_true, List.drop_eq_getElem_cons hlt]
      refine (sconf_in hl hns hm hn hlt).trans ?_
      simp only [cfO]
      cases (ms.take j).any (cfB l ns ms[j])
      · rw [cond_false, cond_false]
        exact sconf_loop hl hns hm hn n (j + 1) (by omega) (by omega)
      · rfl
    · have e : j = ms.length := by omega
      subst e
      rw [out1, cond_false, List.drop_length]
      rfl
theorem l19Conflict_eq {l : Lt} (hl : IsL l) {ns : List Int} (hns : ns.length = (cellsS l).length) {ms : List Ma} (hm : ∀ x ∈ ms, vecB x.1 = true) (hn : ms.length ≤ 1000) : f144G KK l ns ms = some (cfO l ns ms 0 ms) := by
  unfold f144G f144_g
  exact sconf_loop hl hns hm hn KK 0 (by omega) (by simp only [KK]; omega)
theorem orbitNo_eq {l : Lt} (hl : IsL l) {ns : List Int} (hns : ns.length = (cellsS l).length) {x : Ma} (hx : vecB x.1 = true) : f254G KK x ns l = some (nmS l ns x) := by
  unfold f254G nmS
  have n1 : numS l (redS l x.1) < ns.length := by rw [hns]; exact numS_lt hl _
  have e : numS l (redS l x.1) = numS l x.1 := by unfold numS; rw [red_red hl]
  rw [reduce_eq hl (vec_Sm hx), Option.bind_some, number_eq hl (redS_isCell hl _), Option.bind_some, in0, in1 n1, getZ, e]
  rfl
theorem iconf_in {l : Lt} (hl : IsL l) {g : List Mo} {o : List (List Vc)} {ns : List Int} (hns : ns.length = (cellsS l).length) {ms : List Ma} (hm : ∀ x ∈ ms, vecB x.1 = true) (hn : ms.length ≤ 1000) {j : Nat} (hj : j < ms.length) {L : Int → Option (Int × Int × Bool)} :
    f148_l12 KK l g ms (j : Int) (o, ns) L KK 0 = bif (ms.take j).any (cfB l ns ms[j]) then some (idxS (cfB l ns ms[j]) 0 (ms.take j), (j : Int), true) else L ((j + 1 : Nat) : Int) := by
  have hlen : (ms.take j).length = j := by rw [List.length_take]; omega
  have ej : ((0 : Int) + (j : Int)) - 0 = (j : Int) := by omega
  have h := iter_idx (R := Int × Int × Bool) (body := fun L' x => f148_b12 KK l g ms (j : Int) (o, ns) L (fun v0 => L' v0) x) (ms.take j) (cfB l ns ms[j]) (fun i => bif decide (i ≥ 0) then some (i, (j : Int), true) else L ((j + 1 : Nat) : Int))
    (fun L' q hq => by
      obtain ⟨hqj, hqm, e⟩ := take_get hq
      unfold f148_b12
      rw [ej, in1 hqj, in0, gd hqm, gd hj, e]
      simp only [Bool.and_self, cond_true, Bool.or_true]
      have h1 : f254G KK (ms[q].1, ms[q].2) ns l = some (nmS l ns ms[q]) := orbitNo_eq hl hns (hm _ (List.getElem_mem hqm))
      have h2 : f254G KK (ms[j].1, ms[j].2) ns l = some (nmS l ns ms[j]) := orbitNo_eq hl hns (hm _ (List.getElem_mem hj))
      rw [h1, h2, w_succ (by omega)]
      unfold cfB
      cases ms[q].2 != ms[j].2
      · rw [Bool.and_false]; rfl
      · rw [Bool.and_true]
        simp only [cond_true, Option.bind_some])
    (fun L' => by
      unfold f148_b12
      rw [hlen, ej, out1, cond_false, w_succ (by omega)]
      rfl) KK 0 (by omega) (by simp only [KK]; omega)
  rw [List.drop_zero, idxS_any] at h
  exact h
theorem iconf_loop {l : Lt} (hl : IsL l) {g : List Mo} {o : List (List Vc)} {ns : List Int} (hns : ns.length = (cellsS l).length) {ms : List Ma} (hm : ∀ x ∈ ms, vecB x.1 = true) (hn : ms.length ≤ 1000) : ∀ (n j : Nat), j ≤ ms.length → ms.length - j < n → f148_l10 KK l g ms (o, ns) n (j : Int) = some (cfO l ns ms j (ms.drop j))
  | 0, j, _, h => by omega
  | n + 1, j, hj, h => by
    show f148_b10 KK l g ms (o, ns) (fun c0 d0 => f148_l12 KK l g ms c0 (o, ns) (fun v0 => f148_l10 KK l g ms (o, ns) n v0) KK d0) (fun v0 => f148_l10 KK l g ms (o, ns) n v0) (j : Int) = _
    unfold f148_b10
    by_cases hlt : j < ms.length
    · have e0 : (decide (0 ≤ (0 : Int)) && decide ((0 : Int) ≤ (j : Int)) && decide ((j : Int) ≤ (ms.length : Int))) = true := by simp; omega
      rw [in1 hlt, e0, in0, List.drop_eq_getElem_cons hlt]
      simp only [Bool.and_self, cond_true]
      refine (iconf_in hl hns hm hn hlt).trans ?_
      simp only [cfO]
      cases (ms.take j).any (cfB l ns ms[j])
      · rw [cond_false, cond_false]
        exact iconf_loop hl hns hm hn n (j + 1) (by omega) (by omega)
      · rfl
    · have e : j = ms.length := by omega
      subst e
      rw [out1, cond_false, List.drop_length]
      rfl
theorem numsF_len' (l : Lt) (g : List Mo) : (numsF l g).length = (cellsS l).length := by simp [numsF]
theorem conflictOf_eq {f : Int} {l : Lt} {g : List Mo} (h : OrbG f l g) {ms : List Ma} (hm : ∀ x ∈ ms, vecB x.1 = true) (hn : ms.length ≤ 1000) : f148G KK l g ms = some (cfO l (numsF l g) ms 0 ms) := by
  unfold f148G f148_g
  rw [orbitsOf_eq h, Option.bind_some]
  exact iconf_loop h.la (numsF_len' l g) hm hn KK 0 (by omega) (by simp only [KK]; omega)
/-! ### the number of a cell's orbit -/
/-- the number of a cell's orbit -/
def ixS (l : Lt) (g : List Mo) (u : Vc) : Int := idxS (fun o => o.contains u) 0 (orbsS l g)
end Go.Proofs.YtfccacobkcglcaaGreat.X
