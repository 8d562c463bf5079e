/- The plain law of ConnectedUnit: both sides take the first cell beside the unit whose orbit is not yet taken. -/
import Derived.Test.YtniidcalfhhciaaGreatQgPLeastUnit
import Derived.Test.YtniidcalfhhciaaGreatQgMS
namespace Go.Proofs.YtniidcalfhhciaaGreat.X
open Go
set_option linter.unusedSimpArgs false
set_option linter.unusedVariables false
def stepsV : List Vc := [(1, 0), (0, 1), (-1, 0), (0, -1)]
def nearU (u c : Vc) : Bool := stepsV.any fun s => ((u.1 + s.1, u.2 + s.2) : Vc) == c
def nearS (U : List Vc) (c : Vc) : Bool := U.any fun u => nearU u c
def usedS (l : Lt) (g : List Mo) (U : List Vc) (c : Vc) : Bool := U.any fun u => ixS l g c == ixS l g u
def freeS (l : Lt) (g : List Mo) (U : List Vc) (c : Vc) : Bool := nearS U c && !usedS l g U c
theorem fold_or {α : Type} (p : α → Bool) : ∀ (l : List α) (b : Bool), l.foldl (fun b a => b || p a) b = (b || l.any p)
 | [], b => by simp
 | a :: l, b => by simp [fold_or p l, Bool.or_assoc]
theorem addV {u s : Vc} (hu : 0 ≤ u.1 ∧ u.1 ≤ 63 ∧ 0 ≤ u.2 ∧ u.2 ≤ 63) (hs : s ∈ stepsV) : ((w (u.1 + s.1), w (u.2 + s.2)) : Vc) = (u.1 + s.1, u.2 + s.2) := by
 have h : (-1 ≤ s.1 ∧ s.1 ≤ 1) ∧ (-1 ≤ s.2 ∧ s.2 ≤ 1) := by
  have : ∀ s ∈ stepsV, (-1 ≤ s.1 ∧ s.1 ≤ 1) ∧ (-1 ≤ s.2 ∧ s.2 ≤ 1) := by decide
  exact this s hs
 rw [w_id (by omega) (by omega), w_id (by omega) (by omega)]
/-! ### the reference's search -/
theorem next_in3 {l : Lt} {ns : List Int} {U : List Vc} {i k : Nat} {us : Bool} {C : List Vc} {y27 : Int} (hi : i < C.length) (hk : k < U.length) (hu : 0 ≤ U[k].1 ∧ U[k].1 ≤ 63 ∧ 0 ≤ U[k].2 ∧ U[k].2 ≤ 63) (hkn : k ≤ 1000) {b : Bool} {L : Bool → Bool → Int → Option (Vc × Bool)} :
  f235_l28 KK l ns U (i : Int) us (k : Int) C stepsV y27 L KK b 0 = L (b || nearU U[k] C[i]) (us || (ns.getD ((0 : Int) + (i : Int)).toNat 0 == ns.getD ((0 : Int) + y27).toNat 0)) ((k + 1 : Nat) : Int) := by
 have hh := iter_fold (R := Vc × Bool) (body := fun L' x => f235_b28 KK l ns U (i : Int) us (k : Int) C stepsV y27 L (fun v0 v1 => L' (v0, v1)) x.1 x.2) stepsV (fun q b => (b, (q : Int))) (fun b s => b || ((U[k].1 + s.1, U[k].2 + s.2) : Vc) == C[i]) (fun b => L b (us || (ns.getD ((0 : Int) + (i : Int)).toNat 0 == ns.getD ((0 : Int) + y27).toNat 0)) ((k + 1 : Nat) : Int)) (fun _ _ => True)
  (fun L' q b hq _ => by
   refine ⟨trivial, ?_⟩
   show f235_b28 KK l ns U (i : Int) us (k : Int) C stepsV y27 L (fun v0 v1 => L' (v0, v1)) b (q : Int) = _
   unfold f235_b28
   have h4l : stepsV.length = 4 := rfl
   have hq4 : decide ((q : Int) < 4) = true := decide_eq_true (by omega)
   rw [hq4, in0, in1 hk, gd hk, in0, in1 hq, gd hq, in0, in1 hi, gd hi, w_succ (by omega)]
   simp only [Bool.and_self, Bool.or_true, cond_true]
   cases b
   ·simp only [Bool.not_false, cond_true, cond_false, Bool.false_or]
    unfold f277G
    rw [addV hu (List.getElem_mem hq), Option.bind_some, eqV2]
   ·simp only [Bool.not_true, cond_true, cond_false, Bool.true_or, Option.bind_some])
  (fun L' b _ => by
   show f235_b28 KK l ns U (i : Int) us (k : Int) C stepsV y27 L (fun v0 v1 => L' (v0, v1)) b (stepsV.length : Int) = _
   unfold f235_b28
   have h4 : decide ((stepsV.length : Int) < 4) = false := by decide
   rw [h4, cond_false, w_succ (by omega)]
   cases us <;> rfl) KK 0 b (by omega) (by have : stepsV.length = 4 := rfl; simp only [KK]; omega) trivial
 rw [List.drop_zero, fold_or] at hh
 exact hh
theorem next_in2 {f : Int} {l : Lt} {g : List Mo} (h : OrbG f l g) {U : List Vc} (hU : ∀ u ∈ U, cellB l u = true) (hUn : U.length ≤ 1000) {i : Nat} (hi : i < (cellsS l).length) {L : Int → Option (Vc × Bool)} :
  f235_l23 KK l (numsF l g) U (i : Int) (cellsS l) stepsV L KK false false 0 = bif freeS l g U (cellsS l)[i] then some ((cellsS l)[i], true) else L ((i + 1 : Nat) : Int) := by
 have hN := cellsS_le h.la
 have hc : cellB l (cellsS l)[i] = true := cellsS_cell (List.getElem_mem hi)
 have hL := numsF_len' l g
 have hh := iter_fold (R := Vc × Bool) (body := fun L' x => f235_b23 KK l (numsF l g) U (i : Int) (cellsS l) stepsV (fun c0 c1 c2 d0 d1 => f235_l28 KK l (numsF l g) U (i : Int) c0 c1 (cellsS l) stepsV c2 (fun v0 v1 v2 => L' (v0, v1, v2)) KK d0 d1) L (fun v0 v1 v2 => L' (v0, v1, v2)) x.1 x.2.1 x.2.2) U (fun q s => (s.1, s.2, (q : Int))) (fun s u => (s.1 || nearU u (cellsS l)[i], s.2 || ixS l g (cellsS l)[i] == ixS l g u)) (fun s => bif s.1 && !s.2 then some ((cellsS l)[i], true) else L ((i + 1 : Nat) : Int)) (fun _ _ => True)
  (fun L' q s hq _ => by
   refine ⟨trivial, ?_⟩
   have hu := hU _ (List.getElem_mem hq)
   have hb := cell_bounds h.la hu
   show f235_b23 KK l (numsF l g) U (i : Int) (cellsS l) stepsV (fun c0 c1 c2 d0 d1 => f235_l28 KK l (numsF l g) U (i : Int) c0 c1 (cellsS l) stepsV c2 (fun v0 v1 v2 => L' (v0, v1, v2)) KK d0 d1) L (fun v0 v1 v2 => L' (v0, v1, v2)) s.1 s.2 (q : Int) = _
   unfold f235_b23
   have hin : i < (numsF l g).length := by omega
   have n1 : numS l U[q] < (numsF l g).length := by rw [hL]; exact numS_lt h.la _
   have gi : (numsF l g).getD ((0 : Int) + (i : Int)).toNat 0 = ixS l g (cellsS l)[i] := by
    have := numsF_get h.la g hc
    rw [cellsS_num h.la hi] at this
    rw [getZ, List.getD_eq_getElem?_getD, this]
    rfl
   have gq : (numsF l g).getD ((0 : Int) + ((numS l U[q] : Nat) : Int)).toNat 0 = ixS l g U[q] := by
    rw [getZ, List.getD_eq_getElem?_getD, numsF_get h.la g hu]
    rfl
   rw [in1 hq, in0, gd hq, in1 hin, in0]
   simp only [Bool.and_self, Bool.or_true, cond_true]
   cases hs : s.2
   ·simp only [Bool.not_false, Bool.not_true, cond_true]
    rw [l03Number_eq h.la hu, Option.bind_some, in0, in1 n1]
    simp only [Bool.and_self, Bool.or_true, cond_true]
    rw [next_in3 hi hq hb (by omega), gi, gq]
   ·simp only [Bool.not_true, Bool.not_false, Bool.true_or, cond_true, cond_false, Option.bind_some]
    rw [next_in3 hi hq hb (by omega)]
    simp only [Bool.true_or])
  (fun L' s _ => by
   show f235_b23 KK l (numsF l g) U (i : Int) (cellsS l) stepsV _ L (fun v0 v1 v2 => L' (v0, v1, v2)) s.1 s.2 (U.length : Int) = _
   unfold f235_b23
   rw [out1, cond_false, in0, in1 hi, gd hi, w_succ (by omega)]
   simp only [Bool.and_self, Bool.or_true, cond_true]
   cases s.1 <;> cases s.2 <;> rfl) KK 0 (false, false) (by omega) (by simp only [KK]; omega) trivial
 have fold2 : ∀ (U : List Vc) (s : Bool × Bool), U.foldl (fun s u => (s.1 || nearU u (cellsS l)[i], s.2 || ixS l g (cellsS l)[i] == ixS l g u)) s = (s.1 || nearS U (cellsS l)[i], s.2 || usedS l g U (cellsS l)[i]) := by
  intro U
  induction U with
  | nil => intro s; simp [nearS, usedS]
  | cons u U ih => intro s; rw [List.foldl_cons, ih]; simp [nearS, usedS, Bool.or_assoc]
 rw [List.drop_zero, fold2] at hh
 simp only [Bool.false_or] at hh
 exact hh
theorem l23Next_eq {f : Int} {l : Lt} {g : List Mo} (h : OrbG f l g) {U : List Vc} (hU : ∀ u ∈ U, cellB l u = true) (hUn : U.length ≤ 1000) :
  f235G KK l (numsF l g) U = some (bif decide (idxS (freeS l g U) 0 (cellsS l) ≥ 0) then ((cellsS l).getD (idxS (freeS l g U) 0 (cellsS l)).toNat (0, 0), true) else ((0, 0), false)) := by
 have hN := cellsS_le h.la
 have hh := iter_idx (R := Vc × Bool) (body := fun L x => f235_b21 KK l (numsF l g) U (cellsS l) stepsV (fun c0 d0 d1 d2 => f235_l23 KK l (numsF l g) U c0 (cellsS l) stepsV (fun v0 => L v0) KK d0 d1 d2) (fun v0 => L v0) x) (cellsS l) (freeS l g U) (fun i => some (bif decide (i ≥ 0) then ((cellsS l).getD i.toNat (0, 0), true) else ((0, 0), false)))
  (fun L q hq => by
   unfold f235_b21
   rw [in1 hq, cond_true]
   refine (next_in2 h hU hUn hq).trans ?_
   have e : (q : Int).toNat = q := by omega
   rw [e, show decide ((q : Int) ≥ 0) = true by simp, cond_true, List.getD_eq_getElem?_getD, List.getElem?_eq_getElem hq]
   rfl)
  (fun L => by
   unfold f235_b21
   rw [out1, cond_false]
   rfl) KK 0 (by omega) (by simp only [KK]; omega)
 unfold f235G f235_g f319G
 rw [l03Cells_eq h.la, Option.bind_some, Option.bind_some]
 rw [List.drop_zero] at hh
 exact hh
/-! ### the program's search -/
theorem containsVc_eq {l : List Vc} (hn : l.length ≤ 1000) (v : Vc) : f229G KK l v = some (l.contains v) := by
 have hidx : f169G KK l v = some (idxS (fun a => v == a) 0 l) := by
  have h := iter_idx (R := Int) (body := fun L x => f169_b2 KK l v (fun v0 => L v0) x) l (fun a => v == a) some
   (fun L q hq => by
    unfold f169_b2
    rw [in1 hq, in0, gd hq]
    simp only [Bool.and_self, cond_true]
    rw [eqV2, w_succ (by omega)])
   (fun L => by
    unfold f169_b2
    rw [out1, cond_false]) KK 0 (by omega) (by have := KKlt (n := l.length) (by omega); omega)
  unfold f169G f169_g f169_l2
  exact h
 unfold f229G
 rw [hidx, Option.bind_some, idxS_any]
 congr 1
 rw [List.contains_eq_any_beq]
theorem containsI_eq {l : List Int} (hn : l.length ≤ 1000) (v : Int) : f230G KK l v = some (l.contains v) := by
 have hidx : f315G KK l v = some (idxS (fun a => v == a) 0 l) := by
  have h := iter_idx (R := Int) (body := fun L x => f315_b2 KK l v (fun v0 => L v0) x) l (fun a => v == a) some
   (fun L q hq => by
    unfold f315_b2
    rw [in1 hq, in0, gd hq]
    simp only [Bool.and_self, cond_true]
    rw [w_succ (by omega)])
   (fun L => by
    unfold f315_b2
    rw [out1, cond_false]) KK 0 (by omega) (by have := KKlt (n := l.length) (by omega); omega)
  unfold f315G f315_g f315_l2
  exact h
 unfold f230G
 rw [hidx, Option.bind_some, idxS_any]
 congr 1
 rw [List.contains_eq_any_beq]
theorem stepsV_neg : ∀ s ∈ stepsV, ((-s.1, -s.2) : Vc) ∈ stepsV := by decide
theorem near_same (U : List Vc) (c : Vc) : (stepsV.map fun s => ((c.1 + s.1, c.2 + s.2) : Vc)).any U.contains = nearS U c := by
 unfold nearS nearU
 rw [Bool.eq_iff_iff, List.any_eq_true, List.any_eq_true]
 constructor
 ·rintro ⟨x, hx, hc⟩
  obtain ⟨s, hs, rfl⟩ := List.mem_map.1 hx
  refine ⟨_, List.contains_iff_mem.1 hc, List.any_eq_true.2 ⟨_, stepsV_neg s hs, ?_⟩⟩
  rw [beq_iff_eq]
  refine Prod.ext ?_ ?_ <;> simp only <;> omega
 ·rintro ⟨u, hu, h⟩
  obtain ⟨s, hs, he⟩ := List.any_eq_true.1 h
  rw [beq_iff_eq] at he
  subst he
  refine ⟨u, List.mem_map.2 ⟨_, stepsV_neg s hs, ?_⟩, List.contains_iff_mem.2 hu⟩
  refine Prod.ext ?_ ?_ <;> simp only <;> omega
theorem beside_eq {f : Int} {l : Lt} {g : List Mo} (h : OrbG f l g) {U : List Vc} (hUn : U.length ≤ 1000) {tk : List Int} (htn : tk.length ≤ 1000) (ht : ∀ i, i ∈ tk ↔ ∃ u ∈ U, i = ixS l g u) {c : Vc} (hc : cellB l c = true) : f225G KK c U tk (numsF l g) l = some (freeS l g U c) := by
 have hb := cell_bounds h.la hc
 have hL := numsF_len' l g
 have hnb : f227G KK c = some (stepsV.map fun s => ((c.1 + s.1, c.2 + s.2) : Vc)) := by
  unfold f227G f289G
  simp only [Option.bind_some]
  have a1 := addV (s := (1, 0)) hb (by decide)
  have a2 := addV (s := (0, 1)) hb (by decide)
  have a3 := addV (s := (-1, 0)) hb (by decide)
  have a4 := addV (s := (0, -1)) hb (by decide)
  simp only at a1 a2 a3 a4
  rw [a1, a2, a3, a4]
  rfl
 have n1 : numS l c < (numsF l g).length := by rw [hL]; exact numS_lt h.la _
 have gc : (numsF l g).getD ((0 : Int) + ((numS l c : Nat) : Int)).toNat 0 = ixS l g c := by
  rw [getZ, List.getD_eq_getElem?_getD, numsF_get h.la g hc]
  rfl
 have hused : tk.contains (ixS l g c) = usedS l g U c := by
  unfold usedS
  rw [Bool.eq_iff_iff, List.contains_iff_mem, List.any_eq_true, ht]
  constructor
  ·rintro ⟨u, hu, e⟩; exact ⟨u, hu, by rw [beq_iff_eq]; exact e⟩
  ·rintro ⟨u, hu, e⟩; exact ⟨u, hu, beq_iff_eq.1 e⟩
 unfold f225G freeS
 rw [hnb, Option.bind_some, containsFunc_eq (by simp [stepsV]) (fun z2 => f228G KK z2 U) U.contains (fun v _ => by
  unfold f228G
  rw [containsVc_eq hUn, Option.bind_some]), Option.bind_some, near_same]
 cases nearS U c
 ·rfl
 ·simp only [Bool.not_true, Bool.or_true, cond_true]
  rw [number_eq h.la hc, Option.bind_some, in0, in1 n1, gc, containsI_eq htn, hused]
  simp only [Bool.and_self, Bool.or_true, cond_true, Option.bind_some, Bool.true_and]
/-! ### both together -/
structure Cu (l : Lt) (g : List Mo) (s t : List Vc) (tk : List Int) : Prop where
 si : SI s
 nd : t.Nodup
 mem : ∀ x, x ∈ s ↔ x ∈ t
 cell : ∀ x ∈ s, cellB l x = true
 len : s.length = t.length
 tl : tk.length = t.length
 tk : ∀ i, i ∈ tk ↔ ∃ u ∈ t, i = ixS l g u
theorem free_congr {l : Lt} {g : List Mo} {s t : List Vc} (h : ∀ x, x ∈ s ↔ x ∈ t) (c : Vc) : freeS l g s c = freeS l g t c := by
 have e1 : nearS s c = nearS t c := by
  unfold nearS
  rw [Bool.eq_iff_iff, List.any_eq_true, List.any_eq_true]
  exact ⟨fun ⟨u, hu, e⟩ => ⟨u, (h u).1 hu, e⟩, fun ⟨u, hu, e⟩ => ⟨u, (h u).2 hu, e⟩⟩
 have e2 : usedS l g s c = usedS l g t c := by
  unfold usedS
  rw [Bool.eq_iff_iff, List.any_eq_true, List.any_eq_true]
  exact ⟨fun ⟨u, hu, e⟩ => ⟨u, (h u).1 hu, e⟩, fun ⟨u, hu, e⟩ => ⟨u, (h u).2 hu, e⟩⟩
 unfold freeS
 rw [e1, e2]
theorem insP_new {v : Vc} {s : List Vc} (hs : SI s) (hv : v ∉ s) : (insP v s).length = s.length + 1 := by
 have h1 := SI_nodup (insP_SI v hs)
 have h2 : (v :: s).Nodup := List.nodup_cons.2 ⟨hv, SI_nodup hs⟩
 have a := nodup_len _ (v :: s) h1 (fun x hx => by
  rcases (insP_mem v s x).1 hx with e | e
  ·simp [e]
  ·simp [e])
 have b := nodup_len (v :: s) _ h2 (fun x hx => by
  rw [insP_mem]
  rcases List.mem_cons.1 hx with e | e
  ·exact .inl e
  ·exact .inr e)
 simp at a b
 omega
theorem sort_same {s t : List Vc} (hs : SI s) (ht : t.Nodup) (h : ∀ x, x ∈ s ↔ x ∈ t) : (t.mergeSort fun x y => !ltV y x) = s := by
 have hp := List.mergeSort_perm t (fun x y => !ltV y x)
 have hnd : (t.mergeSort fun x y => !ltV y x).Nodup := hp.nodup_iff.2 ht
 have hpw := List.pairwise_mergeSort (le := fun x y => !ltV y x) (fun a b c h k => by
   simp only [Bool.not_eq_true'] at h k ⊢
   exact swo_V.ntrans c b a k h) (fun a b => by
   cases h : ltV b a
   ·rfl
   ·rw [ltV_asymm h]; rfl) t
 refine SI_unique ?_ hs fun x => by rw [List.mem_mergeSort, h]
 unfold SI
 refine List.Pairwise.imp (fun {a b} hab => ?_) (List.pairwise_and_iff.2 ⟨hpw, hnd⟩)
 obtain ⟨h1, h2⟩ := hab
 cases h3 : ltV a b
 ·exact absurd (ltV_tri h3 (by simpa using h1)) h2
 ·rfl
theorem cu_loop {f : Int} {l : Lt} {g : List Mo} (h : OrbG f l g) {c1 : Int} {o : List (List Vc)} (hn16 : (orbsS l g).length ≤ 1000) : ∀ (k : Nat) (s t : List Vc) (tk : List Int), Cu l g s t tk → s.length ≤ 1000 → (orbsS l g).length - s.length < k →
  ∃ r : List Vc × Int, r.1.length ≤ 1000 ∧ f107_l6 KK f l g (orbsS l g, c1) (numsF l g) k s = some r ∧ f106_l7 KK f l g (orbsS l g, c1) (o, numsF l g) k t tk = some r
 | 0, _, _, _, _, _, h => by omega
 | k + 1, s, t, tk, hC, hs1, hk => by
  have hN := cellsS_le h.la
  have hL := numsF_len' l g
  have es : f107_l6 KK f l g (orbsS l g, c1) (numsF l g) (k + 1) s = f107_b6 KK f l g (orbsS l g, c1) (numsF l g) (fun v0 => f107_l6 KK f l g (orbsS l g, c1) (numsF l g) k v0) s := rfl
  have ei : f106_l7 KK f l g (orbsS l g, c1) (o, numsF l g) (k + 1) t tk = f106_b7 KK f l g (orbsS l g, c1) (o, numsF l g) (fun v0 v1 => f106_l7 KK f l g (orbsS l g, c1) (o, numsF l g) k v0 v1) t tk := rfl
  rw [es, ei]
  unfold f107_b6 f106_b7
  have ht1 : t.length ≤ 1000 := by rw [← hC.len]; exact hs1
  have hfc : freeS l g t = freeS l g s := funext fun c => (free_congr (fun x => (hC.mem x)) c).symm
  simp only
  rw [lenlt, lenlt, ← hC.len]
  cases hlt : decide (s.length < (orbsS l g).length)
  ·refine ⟨(s, 0), by simpa using hs1, rfl, ?_⟩
   rw [cond_false, sortVec_eq (by omega), sort_same hC.si hC.nd hC.mem, Option.bind_some]
  ·have hlt' : s.length < (orbsS l g).length := by simpa using hlt
   simp only [cond_true]
   rw [l23Next_eq h hC.cell hs1, cells_eq h.la, Option.bind_some, Option.bind_some]
   have hidx : f231G KK (cellsS l) (fun z11 => f225G KK z11 t tk (numsF l g) l) = some (idxS (freeS l g s) 0 (cellsS l)) := by
    have hh := iter_idx (R := Int) (body := fun L x => f231_b3 KK (cellsS l) (fun z11 => f225G KK z11 t tk (numsF l g) l) (fun v0 => L v0) x) (cellsS l) (freeS l g s) some
     (fun L q hq => by
      unfold f231_b3
      rw [in1 hq, in0, gd hq]
      simp only [Bool.and_self, cond_true]
      rw [beside_eq h ht1 (by rw [hC.tl]; exact ht1) hC.tk (cellsS_cell (List.getElem_mem hq)), Option.bind_some, w_succ (by omega), hfc])
     (fun L => by
      unfold f231_b3
      rw [out1, cond_false]) KK 0 (by omega) (by simp only [KK]; omega)
    unfold f231G f231_g f231_l3
    rw [List.drop_zero] at hh
    exact hh
   rw [hidx, Option.bind_some]
   rcases idxS_spec (freeS l g s) (cellsS l) 0 with ⟨e, _⟩ | ⟨q, hq, e, _, c, hc1, hc2⟩
   ·rw [e]
    exact ⟨([], 4), by simp, rfl, rfl⟩
   ·rw [Nat.zero_add] at e
    rw [e]
    have eq : (q : Int).toNat = q := by omega
    have hcq : (cellsS l)[q] = c := by
     rw [List.getElem?_eq_getElem hq, Option.some.injEq] at hc1
     exact hc1
    have hcc : cellB l c = true := by rw [← hcq]; exact cellsS_cell (List.getElem_mem hq)
    have hqn : q < (numsF l g).length := by omega
    have gq : (numsF l g).getD ((0 : Int) + (q : Int)).toNat 0 = ixS l g c := by
     have := numsF_get h.la g hcc
     rw [← hcq, cellsS_num h.la hq] at this
     rw [getZ, List.getD_eq_getElem?_getD, this, hcq]
     rfl
    have gcell : (cellsS l).getD q (0, 0) = c := by rw [List.getD_eq_getElem?_getD, hc1]; rfl
    rw [show decide ((q : Int) ≥ 0) = true by simp, show decide ((q : Int) < 0) = false by simp, in1 hq, gd hq, hcq, in1 hqn, gq, eq, gcell]
    simp only [Bool.and_self, cond_true, cond_false, Bool.not_true, Option.bind_some]
    rw [l01Insert_eq (by omega), Option.bind_some, blim16 (by simp; omega), blim8 (by simp; have := hC.tl; omega)]
    simp only [cond_true]
    have hcs : c ∉ s := fun hm => by
     unfold freeS at hc2
     rw [Bool.and_eq_true] at hc2
     have : usedS l g s c = true := List.any_eq_true.2 ⟨c, hm, by simp⟩
     rw [this] at hc2
     simp at hc2
    have hlen := insP_new hC.si hcs
    refine cu_loop h hn16 k (insP c s) (t ++ [c]) (tk ++ [ixS l g c]) ⟨insP_SI c hC.si, ?_, ?_, ?_, ?_, ?_, ?_⟩ (by omega) (by omega)
    ·rw [List.nodup_append]
     refine ⟨hC.nd, by simp, fun a ha b hb e => ?_⟩
     simp only [List.mem_singleton] at hb
     subst hb
     subst e
     exact hcs ((hC.mem a).2 ha)
    ·intro x
     rw [insP_mem, List.mem_append, List.mem_singleton, hC.mem]
     exact Or.comm
    ·intro x hx
     rcases (insP_mem c s x).1 hx with e | e
     ·rw [e]; exact hcc
     ·exact hC.cell x e
    ·rw [hlen, List.length_append, hC.len]; rfl
    ·rw [List.length_append, List.length_append, hC.tl]; rfl
    ·intro i
     rw [List.mem_append, List.mem_singleton, hC.tk]
     constructor
     ·rintro (⟨u, hu, e⟩ | e)
      ·exact ⟨u, by simp [hu], e⟩
      ·exact ⟨c, by simp, e⟩
     ·rintro ⟨u, hu, e⟩
      rcases List.mem_append.1 hu with hu | hu
      ·exact .inl ⟨u, hu, e⟩
      ·rw [List.mem_singleton] at hu
       subst hu
       exact .inr e
theorem zero_cell {l : Lt} (hl : IsL l) : cellB l (0, 0) = true := cellB_iff.2 (by have := hl.a1; have := hl.c1; simp only; omega)
theorem ix_zero {f : Int} {l : Lt} {g : List Mo} (h : OrbG f l g) : ixS l g (0, 0) = 0 := by
 have h0 := zero_cell h.la
 obtain ⟨w, h1, h2, h3, h4⟩ := rep_of h h0
 have hw : w = (0, 0) := by
  rcases h4 with e | e
  ·exact e
  ·have b := cellB_iff.1 h2
   have : ltV (0, 0) w = true ∨ w = (0, 0) := by
    by_cases e1 : w.1 = 0
    ·by_cases e2 : w.2 = 0
     ·exact .inr (Prod.ext e1 e2)
     ·have hx : w = (0, w.2) := Prod.ext e1 rfl
      rw [hx]
      exact .inl (ltV_snd (by omega))
    ·exact .inl (ltV_fst (by simp only; omega))
   rcases this with e3 | e3
   ·rw [ltV_asymm e3] at e; cases e
   ·exact e3
 have hm : (0, 0) ∈ cellsS l := cellB_mem h.la h0
 -- the first cell is the first of the first orbit
 have hlen : 0 < (cellsS l).length := List.length_pos_of_mem hm
 have hc0 : (cellsS l)[0] = (0, 0) := by
  have hx := numS_cell h.la h0
  have : numS l (0, 0) = 0 := by simp at hx; omega
  have h5 := cell_at h.la h0
  rw [this, List.getElem?_eq_getElem hlen, Option.some.injEq] at h5
  exact h5
 have hcons : cellsS l = (0, 0) :: (cellsS l).drop 1 := by
  have := List.drop_eq_getElem_cons hlen
  rw [List.drop_zero, hc0] at this
  exact this
 rw [hw] at h1 h3
 unfold ixS orbsS repsS
 rw [hcons, List.filter_cons_of_pos h1, List.map_cons]
 simp only [idxS, List.contains_iff_mem.2 h3, cond_true]
 rfl
def resCU (f : Int) (l : Lt) (g : List Mo) (r : List Vc × Int) : List Vc × Int := bif (unitS f l g).2 != 0 then ([], (unitS f l g).2) else r
theorem unit_run (f : Int) (l : Lt) {g : List Mo} (hn : g.length ≤ 1048576) : ∃ r : List Vc × Int, r.1.length ≤ 1000 ∧ f107G KK f l g = some r ∧ f106G KK f l g = some r := by
 unfold f107G f106G f107_g f106_g
 rw [l23Free_eq f l hn, unitCode_eq f l hn, Option.bind_some, Option.bind_some]
 cases h : (unitS f l g).2 != 0
 ·have h0 : (unitS f l g).2 = 0 := by simpa using h
  obtain ⟨hG, e⟩ := unitS_0 h0
  have hO := orbs_len hG.la g
  rw [cond_false, cond_false, l07Numbers_eq hG, orbitsOf_eq hG, Option.bind_some, Option.bind_some]
  have e2 : unitS f l g = (orbsS l g, 0) := Prod.ext e h0
  rw [e2]
  refine cu_loop hG (by omega) KK [(0, 0)] [(0, 0)] [0] ⟨by simp [SI], by simp, fun x => Iff.rfl, fun x hx => ?_, rfl, rfl, fun i => ?_⟩ (by simp) (by simp only [KK]; omega)
  ·rw [List.mem_singleton] at hx
   rw [hx]
   exact zero_cell hG.la
  ·rw [List.mem_singleton]
   constructor
   ·intro e3
    exact ⟨(0, 0), by simp, by rw [e3, ix_zero hG]⟩
   ·rintro ⟨u, hu, e3⟩
    rw [List.mem_singleton] at hu
    rw [e3, hu, ix_zero hG]
 ·exact ⟨([], (unitS f l g).2), by simp, rfl, rfl⟩
end Go.Proofs.YtniidcalfhhciaaGreat.X
