/- The plain law of ConnectedUnit: both sides take the first cell beside the unit whose orbit is not yet taken. -/
import Derived.Test.YtfccacobkcglcaaGreatQhPLeastUnit
import Derived.Test.YtfccacobkcglcaaGreatQhMS
namespace Go.Proofs.YtfccacobkcglcaaGreat.X
open Go
set_option linter.unusedSimpArgs false
set_option linter.unusedVariables false
def stepsV : List Vc := [(1, 0), (0, 1), (-1, 0), (0, -1)]
def nearU (u c : Vc) : Bool := stepsV.any fun s => ((u.1 + s.1, u.2 + s.2) : Vc) == c
def nearS (U : List Vc) (c : Vc) : Bool := U.any fun u => nearU u c
def usedS (l : Lt) (g : List Mo) (U : List Vc) (c : Vc) : Bool := U.any fun u => ixS l g c == ixS l g u
def freeS (l : Lt) (g : List Mo) (U : List Vc) (c : Vc) : Bool := nearS U c && !usedS l g U c
theorem fold_or {α : Type} (p : α → Bool) : ∀ (l : List α) (b : Bool), l.foldl (fun b a => b || p a) b = (b || l.any p)
 | [], b => by simp
 | a :: l, b => by simp [fold_or p l, Bool.or_assoc]
theorem addV {u s : Vc} (hu : 0 ≤ u.1 ∧ u.1 ≤ 63 ∧ 0 ≤ u.2 ∧ u.2 ≤ 63) (hs : s ∈ stepsV) : ((w (u.1 + s.1), w (u.2 + s.2)) : Vc) = (u.1 + s.1, u.2 + s.2) := by
 have h : (-1 ≤ s.1 ∧ s.1 ≤ 1) ∧ (-1 ≤ s.2 ∧ s.2 ≤ 1) := by
  have : ∀ s ∈ stepsV, (-1 ≤ s.1 ∧ s.1 ≤ 1) ∧ (-1 ≤ s.2 ∧ s.2 ≤ 1) := by decide
  exact this s hs
 rw [w_id (by omega) (by omega), w_id (by omega) (by omega)]
theorem next_in3 {l : Lt} {ns : List Int} {U : List Vc} {i k : Nat} {us : Bool} {C : List Vc} {y27 : Int} (hi : i < C.length) (hk : k < U.length) (hu : 0 ≤ U[k].1 ∧ U[k].1 ≤ 63 ∧ 0 ≤ U[k].2 ∧ U[k].2 ≤ 63) (hkn : k ≤ 1000) {b : Bool} {L : Bool → Bool → Int → Option (Vc × Bool)} :
  f337_l28 KK l ns U (i : Int) us (k : Int) C stepsV y27 L KK b 0 = L (b || nearU U[k] C[i]) (us || (ns.getD ((0 : Int) + (i : Int)).toNat 0 == ns.getD ((0 : Int) + y27).toNat 0)) ((k + 1 : Nat) : Int) := by
 have hh := iter_fold (R := Vc × Bool) (body := fun L' x => f337_b28 KK l ns U (i : Int) us (k : Int) C stepsV y27 L (fun v0 v1 => L' (v0, v1)) x.1 x.2) stepsV (fun q b => (b, (q : Int))) (fun b s => b || ((U[k].1 + s.1, U[k].2 + s.2) : Vc) == C[i]) (fun b => L b (us || (ns.getD ((0 : Int) + (i : Int)).toNat 0 == ns.getD ((0 : Int) + y27).toNat 0)) ((k + 1 : Nat) : Int)) (fun _ _ => True)
  (fun L' q b hq _ => by
   refine ⟨trivial, ?_⟩
   show f337_b28 KK l ns U (i : Int) us (k : Int) C stepsV y27 L (fun v0 v1 => L' (v0, v1)) b (q : Int) = _
   unfold f337_b28
   have h4l : stepsV.length = 4 := rfl
   have hq4 : decide ((q : Int) < 4) = true := dT (by omega)
   rw [hq4, in0, in1 hk, gd hk, in0, in1 hq, gd hq, in0, in1 hi, gd hi, w_succ (by omega)]
   simp only [Bool.and_self, Bool.or_true, cT]
   cases b
   ·simp only [Bool.not_false, cT, cF, Bool.false_or]
    unfold f340G
    rw [addV hu (gM hq), oB, eqV2]
   ·simp only [Bool.not_true, cT, cF, Bool.true_or, oB])
  (fun L' b _ => by
   show f337_b28 KK l ns U (i : Int) us (k : Int) C stepsV y27 L (fun v0 v1 => L' (v0, v1)) b (stepsV.length : Int) = _
   unfold f337_b28
   have h4 : decide ((stepsV.length : Int) < 4) = false := by decide
   rw [h4, cF, w_succ (by omega)]
   cases us <;> rfl) KK 0 b (by omega) (by have : stepsV.length = 4 := rfl; simp only [KK]; omega) trivial
 rw [List.drop_zero, fold_or] at hh
 exact hh
theorem next_in2 {f : Int} {l : Lt} {g : List Mo} (h : OrbG f l g) {U : List Vc} (hU : ∀ u ∈ U, cellB l u = true) (hUn : U.length ≤ 1000) {i : Nat} (hi : i < (cellsS l).length) {L : Int → Option (Vc × Bool)} :
  f337_l23 KK l (numsF l g) U (i : Int) (cellsS l) stepsV L KK false false 0 = bif freeS l g U (cellsS l)[i] then some ((cellsS l)[i], true) else L ((i + 1 : Nat) : Int) := by
 have hN := cellsS_le h.la
 have hc : cellB l (cellsS l)[i] = true := cellsS_cell (gM hi)
 have hL := numsF_len' l g
 have hh := iter_fold (R := Vc × Bool) (body := fun L' x => f337_b23 KK l (numsF l g) U (i : Int) (cellsS l) stepsV (fun c0 c1 c2 d0 d1 => f337_l28 KK l (numsF l g) U (i : Int) c0 c1 (cellsS l) stepsV c2 (fun v0 v1 v2 => L' (v0, v1, v2)) KK d0 d1) L (fun v0 v1 v2 => L' (v0, v1, v2)) x.1 x.2.1 x.2.2) U (fun q s => (s.1, s.2, (q : Int))) (fun s u => (s.1 || nearU u (cellsS l)[i], s.2 || ixS l g (cellsS l)[i] == ixS l g u)) (fun s => bif s.1 && !s.2 then some ((cellsS l)[i], true) else L ((i + 1 : Nat) : Int)) (fun _ _ => True)
  (fun L' q s hq _ => by
   refine ⟨trivial, ?_⟩
   have hu := hU _ (gM hq)
   have hb := cell_bounds h.la hu
   show f337_b23 KK l (numsF l g) U (i : Int) (cellsS l) stepsV (fun c0 c1 c2 d0 d1 => f337_l28 KK l (numsF l g) U (i : Int) c0 c1 (cellsS l) stepsV c2 (fun v0 v1 v2 => L' (v0, v1, v2)) KK d0 d1) L (fun v0 v1 v2 => L' (v0, v1, v2)) s.1 s.2 (q : Int) = _
   unfold f337_b23
   have hin : i < (numsF l g).length := by omega
   have n1 : numS l U[q] < (numsF l g).length := by rw [hL]; exact numS_lt h.la _
   have gi : (numsF l g).getD ((0 : Int) + (i : Int)).toNat 0 = ixS l g (cellsS l)[i] := by
    have := numsF_get h.la g hc
    rw [cellsS_num h.la hi] at this
    rw [getZ, List.getD_eq_getElem?_getD, this]
    rfl
   have gq : (numsF l g).getD ((0 : Int) + ((numS l U[q] : Nat) : Int)).toNat 0 = ixS l g U[q] := by
    rw [getZ, List.getD_eq_getElem?_getD, numsF_get h.la g hu]
    rfl
   rw [in1 hq, in0, gd hq, in1 hin, in0]
   simp only [Bool.and_self, Bool.or_true, cT]
   cases hs : s.2
   ·simp only [Bool.not_false, Bool.not_true, cT]
    rw [l03Number_eq h.la hu, oB, in0, in1 n1]
    simp only [Bool.and_self, Bool.or_true, cT]
    rw [next_in3 hi hq hb (by omega), gi, gq]
   ·simp only [Bool.not_true, Bool.not_false, Bool.true_or, cT, cF, oB]
    rw [next_in3 hi hq hb (by omega)]
    simp only [Bool.true_or])
  (fun L' s _ => by
   show f337_b23 KK l (numsF l g) U (i : Int) (cellsS l) stepsV _ L (fun v0 v1 v2 => L' (v0, v1, v2)) s.1 s.2 (U.length : Int) = _
   unfold f337_b23
   rw [out1, cF, in0, in1 hi, gd hi, w_succ (by omega)]
   simp only [Bool.and_self, Bool.or_true, cT]
   cases s.1 <;> cases s.2 <;> rfl) KK 0 (false, false) (by omega) (by simp only [KK]; omega) trivial
 have fold2 : ∀ (U : List Vc) (s : Bool × Bool), U.foldl (fun s u => (s.1 || nearU u (cellsS l)[i], s.2 || ixS l g (cellsS l)[i] == ixS l g u)) s = (s.1 || nearS U (cellsS l)[i], s.2 || usedS l g U (cellsS l)[i]) := by
  intro U
  induction U with
  | nil => intro s; simp [nearS, usedS]
  | cons u U ih => intro s; rw [List.foldl_cons, ih]; simp [nearS, usedS, Bool.or_assoc]
 rw [List.drop_zero, fold2] at hh
 simp only [Bool.false_or] at hh
 exact hh
theorem l23Next_eq {f : Int} {l : Lt} {g : List Mo} (h : OrbG f l g) {U : List Vc} (hU : ∀ u ∈ U, cellB l u = true) (hUn : U.length ≤ 1000) :
  f337G KK l (numsF l g) U = some (bif decide (idxS (freeS l g U) 0 (cellsS l) ≥ 0) then ((cellsS l).getD (idxS (freeS l g U) 0 (cellsS l)).toNat (0, 0), true) else ((0, 0), false)) := by
 have hN := cellsS_le h.la
 have hh := iter_idx (R := Vc × Bool) (body := fun L x => f337_b21 KK l (numsF l g) U (cellsS l) stepsV (fun c0 d0 d1 d2 => f337_l23 KK l (numsF l g) U c0 (cellsS l) stepsV (fun v0 => L v0) KK d0 d1 d2) (fun v0 => L v0) x) (cellsS l) (freeS l g U) (fun i => some (bif decide (i ≥ 0) then ((cellsS l).getD i.toNat (0, 0), true) else ((0, 0), false)))
  (fun L q hq => by
   unfold f337_b21
   rw [in1 hq, cT]
   refine (next_in2 h hU hUn hq).trans ?_
   have e : (q : Int).toNat = q := by omega
   rw [e, show decide ((q : Int) ≥ 0) = true by simp, cT, List.getD_eq_getElem?_getD, List.getElem?_eq_getElem hq]
   rfl)
  (fun L => by
   unfold f337_b21
   rw [out1, cF]
   rfl) KK 0 (by omega) (by simp only [KK]; omega)
 unfold f337G f337_g f387G
 rw [l03Cells_eq h.la, oB, oB]
 rw [List.drop_zero] at hh
 exact hh
structure Cu (l : Lt) (g : List Mo) (s t : List Vc) (tk : List Int) : Prop where
 si : SI s
 nd : t.Nodup
 mem : ∀ x, x ∈ s ↔ x ∈ t
 cell : ∀ x ∈ s, cellB l x = true
 len : s.length = t.length
 tl : tk.length = t.length
 tk : ∀ i, i ∈ tk ↔ ∃ u ∈ t, i = ixS l g u
theorem insP_new {v : Vc} {s : List Vc} (hs : SI s) (hv : v ∉ s) : (insP v s).length = s.length + 1 := by
 have h1 := SI_nodup (insP_SI v hs)
 have h2 : (v :: s).Nodup := List.nodup_cons.2 ⟨hv, SI_nodup hs⟩
 have a := nodup_len _ (v :: s) h1 (fun x hx => by
  rcases (insP_mem v s x).1 hx with e | e
  ·simp [e]
  ·simp [e])
 have b := nodup_len (v :: s) _ h2 (fun x hx => by
  rw [insP_mem]
  rcases List.mem_cons.1 hx with e | e
  ·exact .inl e
  ·exact .inr e)
 simp at a b
 omega
theorem zero_cell {l : Lt} (hl : IsL l) : cellB l (0, 0) = true := cellB_iff.2 (by have := hl.a1; have := hl.c1; simp only; omega)
def resCU (f : Int) (l : Lt) (g : List Mo) (r : List Vc × Int) : List Vc × Int := bif (unitS f l g).2 != 0 then ([], (unitS f l g).2) else r
end Go.Proofs.YtfccacobkcglcaaGreat.X
