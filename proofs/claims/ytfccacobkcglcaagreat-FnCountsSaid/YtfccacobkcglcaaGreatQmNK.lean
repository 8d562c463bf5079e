/- Plain facts: the cycles of a motion are the orbits of what it generates. -/
import Derived.Test.YtfccacobkcglcaaGreatQmNG
namespace Go.Proofs.YtfccacobkcglcaaGreat.X
open Go
set_option linter.unusedSimpArgs false
set_option linter.unusedVariables false
def itS (σ : Vc → Vc) : Nat → Vc → Vc
 | 0, v => v
 | k + 1, v => σ (itS σ k v)
theorem nd_len {α : Type} [BEq α] [LawfulBEq α] : ∀ {M C : List α}, M.Nodup → (∀ x ∈ M, x ∈ C) → M.length ≤ C.length
 | [], _, _, _ => by simp
 | x :: M, C, hn, hs => by
  have hn' := List.nodup_cons.1 hn
  have hx := hs x (by simp)
  have h1 := nd_len (M := M) (C := C.erase x) hn'.2 fun y hy => (List.mem_erase_of_ne (fun e => hn'.1 (by rw [← e]; exact hy))).2 (hs y (by simp [hy]))
  rw [List.length_erase_of_mem hx] at h1
  have : 0 < C.length := List.length_pos_of_mem hx
  rw [List.length_cons]
  omega
theorem cyc_inner {Z R : Type} {σ : Vc → Vc} {C : List Vc} (hσ : ∀ u ∈ C, σ u ∈ C) {look : Z → Vc → Bool} {mark : Z → Vc → Z} {inv : Z → Prop} (hm : ∀ z u, inv z → u ∈ C → inv (mark z u) ∧ ∀ x ∈ C, look (mark z u) x = (look z x || x == u))
  {loop : Nat → Vc → Z → Option R} {fin : Z → Option R} (hl : ∀ n u z, u ∈ C → inv z → loop (n + 1) u z = bif look z u then fin z else loop n (σ u) (mark z u)) {v : Vc} (hv : v ∈ C) {z0 : Z} (h0 : ∀ k, look z0 (itS σ k v) = false) :
  ∀ (n i : Nat) (M : List Vc) (z : Z), inv z → M.Nodup → M.length = i → (∀ x, x ∈ M ↔ ∃ j, j < i ∧ x = itS σ j v) → (∀ x ∈ C, look z x = (look z0 x || M.contains x)) → C.length - i + 1 < n → ∃ z', inv z' ∧ (∀ x ∈ C, look z' x = true ↔ look z0 x = true ∨ ∃ k, x = itS σ k v) ∧ loop n (itS σ i v) z = fin z'
 | 0, i, _, _, _, _, _, _, _, h => by omega
 | n + 1, i, M, z, hi, hM, hMl, hMm, hlook, hn => by
  have itC : ∀ k, itS σ k v ∈ C := fun k => by
   induction k with
   | zero => exact hv
   | succ k ih => exact hσ _ ih
  rw [hl n _ z (itC i) hi]
  have hlk := hlook _ (itC i)
  rw [h0, Bool.false_or] at hlk
  cases hc : M.contains (itS σ i v)
  ·rw [hc] at hlk
   rw [hlk, cond_false]
   have hni : itS σ i v ∉ M := fun h => by rw [List.contains_iff_mem.2 h] at hc; cases hc
   obtain ⟨m1, m2⟩ := hm z (itS σ i v) hi (itC i)
   have hnd : (itS σ i v :: M).Nodup := List.nodup_cons.2 ⟨hni, hM⟩
   have hbound := nd_len hnd (C := C) fun x hx => by
    rcases List.mem_cons.1 hx with rfl | hx
    ·exact itC i
    ·obtain ⟨j, _, rfl⟩ := (hMm x).1 hx
     exact itC j
   rw [List.length_cons] at hbound
   refine cyc_inner hσ hm hl hv h0 n (i + 1) (itS σ i v :: M) (mark z (itS σ i v)) m1 hnd (by rw [List.length_cons, hMl]) (fun x => ?_) (fun x hx => ?_) (by omega)
   ·rw [List.mem_cons, hMm]
    constructor
    ·rintro (rfl | ⟨j, hj, rfl⟩)
     ·exact ⟨i, by omega, rfl⟩
     ·exact ⟨j, by omega, rfl⟩
    ·rintro ⟨j, hj, rfl⟩
     by_cases e : j = i
     ·exact .inl (by rw [e])
     ·exact .inr ⟨j, by omega, rfl⟩
   ·rw [m2 x hx, hlook x hx, List.contains_cons, Bool.or_assoc, Bool.or_comm (M.contains x)]
  ·rw [hc] at hlk
   rw [hlk, cond_true]
   obtain ⟨j, hj, ej⟩ := (hMm _).1 (List.contains_iff_mem.1 hc)
   have hall : ∀ k, itS σ k v ∈ M := fun k => by
    induction k with
    | zero => exact (hMm _).2 ⟨0, by omega, rfl⟩
    | succ k ih =>
     obtain ⟨j', hj', e'⟩ := (hMm _).1 ih
     have e2 : itS σ (k + 1) v = itS σ (j' + 1) v := by show σ (itS σ k v) = σ (itS σ j' v); rw [e']
     rw [e2]
     by_cases h : j' + 1 = i
     ·rw [h]; exact List.contains_iff_mem.1 hc
     ·exact (hMm _).2 ⟨j' + 1, by omega, rfl⟩
   refine ⟨z, hi, fun x hx => ?_, rfl⟩
   rw [hlook x hx, Bool.or_eq_true, List.contains_iff_mem]
   constructor
   ·rintro (h | h)
    ·exact .inl h
    ·obtain ⟨k, _, e⟩ := (hMm x).1 h
     exact .inr ⟨k, e⟩
   ·rintro (h | ⟨k, rfl⟩)
    ·exact .inl h
    ·exact .inr (hall k)
theorem cyc_outer {Z : Type} {f : Int} {l : Lt} {g : List Mo} (h : OrbG f l g) {σ : Vc → Vc} (hσ : ∀ u ∈ cellsS l, σ u ∈ cellsS l) (hO : ∀ v, cellB l v = true → ∀ u, u ∈ orbS l g v ↔ ∃ k, u = itS σ k v)
  {look : Z → Vc → Bool} {mark : Z → Vc → Z} {inv : Z → Prop} (hm : ∀ z u, inv z → u ∈ cellsS l → inv (mark z u) ∧ ∀ x ∈ cellsS l, look (mark z u) x = (look z x || x == u))
  {outer : Nat → Nat → Nat → Z → Option Int} {inner : Nat → Nat → Nat → Nat → Vc → Z → Option Int} {k0 : Nat} (hk0 : 66 < k0)
  (hin : ∀ n q many k u z, q ≤ 64 → many ≤ 64 → u ∈ cellsS l → inv z → inner n q many (k + 1) u z = bif look z u then outer n (q + 1) (many + 1) z else inner n q many k (σ u) (mark z u))
  (hout : ∀ n q many z (hq : q < (cellsS l).length), inv z → outer (n + 1) q many z = bif look z (cellsS l)[q] then outer n (q + 1) many z else inner n q many k0 (cellsS l)[q] z)
  (hend : ∀ n many z, outer (n + 1) (cellsS l).length many z = some (many : Int)) :
  ∀ (n q : Nat) (z : Z), inv z → q ≤ (cellsS l).length → (∀ x ∈ cellsS l, look z x = (orbT l g q).any fun o => o.contains x) → (cellsS l).length - q < n → outer n q (orbT l g q).length z = some ((orbsS l g).length : Int)
 | 0, q, _, _, _, _, h => by omega
 | n + 1, q, z, hz, hq, hlook, hn => by
  have hN := cellsS_le h.la
  by_cases hlt : q < (cellsS l).length
  ·have hmem := List.getElem_mem hlt
   have hcell := cellsS_cell hmem
   rw [hout n q _ z hlt hz, hlook _ hmem, orbT_rep h hlt]
   have hsucc := orbT_succ (g := g) hlt
   cases hr : repB l g (cellsS l)[q]
   ·rw [hr, cond_false] at hsucc
    simp only [Bool.not_false, cond_true]
    have := cyc_outer h hσ hO hm hk0 hin hout hend n (q + 1) z hz hlt (fun x hx => by rw [hsucc]; exact hlook x hx) (by omega)
    rw [hsucc] at this
    exact this
   ·rw [hr, cond_true] at hsucc
    simp only [Bool.not_true, cond_false]
    have hlk := hlook _ hmem
    rw [orbT_rep h hlt, hr] at hlk
    have h0 : ∀ k, look z (itS σ k (cellsS l)[q]) = false := fun k => by
     have hu := (hO _ hcell _).2 ⟨k, rfl⟩
     have huc := orb_cell h hu
     rw [hlook _ (cellB_mem h.la huc)]
     cases hx : (orbT l g q).any fun o => o.contains (itS σ k (cellsS l)[q])
     ·rfl
     ·obtain ⟨r, r1, r2, r3, r4⟩ := (orbT_mem h (by omega)).1 hx
      have e1 := orb_eq h r1 r4
      have e2 := orb_eq h hcell hu
      have : (cellsS l)[q] ∈ orbS l g r := by rw [← e1, e2]; exact orb_self h hcell
      have hy := (orbT_mem h (q := q) (by omega)).2 ⟨r, r1, r2, r3, this⟩
      rw [orbT_rep h hlt, hr] at hy
      cases hy
    obtain ⟨z', z1, z2, z3⟩ := cyc_inner (R := Int) (loop := fun k u z => inner n q (orbT l g q).length k u z) (fin := fun z => outer n (q + 1) ((orbT l g q).length + 1) z) hσ hm (fun k u z hu hz => hin n q _ k u z (by omega) (by have := orbT_len l g q; omega) hu hz) hmem h0 k0 0 [] z hz (by simp) rfl (by simp) (by simp) (by omega)
    refine z3.trans ?_
    have := cyc_outer h hσ hO hm hk0 hin hout hend n (q + 1) z' z1 hlt (fun x hx => by
     rw [hsucc, List.any_append, Bool.eq_iff_iff, z2 x hx, Bool.or_eq_true, ← hlook x hx]
     simp only [List.any_cons, List.any_nil, Bool.or_false]
     rw [List.contains_iff_mem, hO _ hcell]) (by omega)
    rw [hsucc, List.length_append] at this
    exact this
  ·have e : q = (cellsS l).length := by omega
   subst e
   rw [hend, orbT_all]
theorem gen_orb {f : Int} {l : Lt} {m : Mo} (hm : OkW f l m) {g : List Mo} (h : OrbG f l g) (hg : ∀ x ∈ g, Gn l [m] x) (hc : ∀ x ∈ g, ∀ y ∈ [m], mulG l y x ∈ g) {v : Vc} (hv : cellB l v = true) (u : Vc) : u ∈ orbS l g v ↔ ∃ k, u = itS (mvS l m) k v := by
 constructor
 ·intro hu
  obtain ⟨x, hx, rfl⟩ := orbS_mem.1 hu
  have hG := hg x hx
  clear hx hu
  induction hG with
  | one => exact ⟨0, mv_one h.la hv⟩
  | mul y x hy _ ih =>
   rw [List.mem_singleton] at hy
   subst hy
   obtain ⟨k, e⟩ := ih
   exact ⟨k + 1, by rw [← mv_mul h.la hm.1, e]; rfl⟩
 ·rintro ⟨k, rfl⟩
  induction k with
  | zero => exact orb_self h hv
  | succ k ih =>
   obtain ⟨x, hx, e⟩ := orbS_mem.1 ih
   exact orbS_mem.2 ⟨mulG l m x, hc x hx m (by simp), by rw [← mv_mul h.la hm.1, ← e]; rfl⟩
theorem cycles_eq {f : Int} (hf : okF f = true) {l : Lt} (hl : IsL l) {m : Mo} (hm : OkW f l m) : ∃ g, f205G KK l [m] = some g ∧ codeC f l g true = 0 ∧ OrbG f l g ∧ (∀ v, cellB l v = true → ∀ u, u ∈ orbS l g v ↔ ∃ k, u = itS (mvS l m) k v) ∧ f217G KK l m = some ((orbsS l g).length : Int) ∧ f221G KK l m = some ((orbsS l g).length : Int) := by
 have hgs : ∀ x ∈ [m], OkW f l x := fun x hx => by rw [List.mem_singleton] at hx; rw [hx]; exact hm
 obtain ⟨g, e1, e2, _, e3, e4⟩ := closeG_okW hf hl hgs (by simp)
 have hO := (codeC_0 e2).1
 have horb := fun v (hv : cellB l v = true) u => gen_orb hm hO e3 e4 hv u
 have hN := cellsS_le hl
 have hσ : ∀ u ∈ cellsS l, mvS l m u ∈ cellsS l := fun u _ => cellB_mem hl (redS_isCell hl _)
 have hSv : ∀ u ∈ cellsS l, Sv u := fun u hu => cellB_Sv hl (cellsS_cell hu)
 refine ⟨g, (close_sameW hf hl hgs (by simp)).trans e1, e2, hO, horb, ?_, ?_⟩
 ·have hh := cyc_outer hO hσ horb (Z := List (Vc × Bool)) (look := fun z u => (mfind (eqSh shV) z u).getD false) (mark := fun z u => mput (eqSh shV) z u true) (inv := fun _ => True)
   (fun z u _ hu => ⟨trivial, fun x hx => by
    refine (congrArg (fun z => Option.getD z false) (mfind_mput (K := shV) rfl z u x true)).trans ?_
    cases he : eqSh shV x u
    ·have : x ≠ u := fun e => by rw [(eqSh_iff shV rfl x u).2 e] at he; cases he
     rw [cond_false, beq_eq_false_iff_ne.2 this, Bool.or_false]
    ·have e := (eqSh_iff shV rfl x u).1 he
     rw [cond_true, e, beq_self_eq_true, Bool.or_true]
     rfl⟩)
   (outer := fun n q many z => f217_l12 KK l m (cellsS l) n (q : Int) (many : Int) z)
   (inner := fun n q many k u z => f217_l16 KK l m (q : Int) (many : Int) z (cellsS l) (fun v0 v1 v2 => f217_l12 KK l m (cellsS l) n v0 v1 v2) k z u.1 u.2)
   (k0 := KK) (by simp only [KK]; omega)
   (fun n q many k u z hq hmany hu _ => by
    show f217_b16 KK l m (q : Int) (many : Int) z (cellsS l) _ (fun v0 v1 v2 => f217_l16 KK l m (q : Int) (many : Int) z (cellsS l) _ k v0 v1 v2) z u.1 u.2 = _
    unfold f217_b16
    rw [show ((u.1, u.2) : Vc) = u from rfl, take_gen hl hm.2 (hSv u hu), Option.bind_some, w_succ (by omega), w_succ (by omega)]
    cases (mfind (eqSh shV) z u).getD false <;> rfl)
   (fun n q many z hq _ => by
    show f217_b12 KK l m (cellsS l) (fun c0 c1 c2 d0 d1 d2 => f217_l16 KK l m c0 c1 c2 (cellsS l) (fun v0 v1 v2 => f217_l12 KK l m (cellsS l) n v0 v1 v2) KK d0 d1 d2) (fun v0 v1 v2 => f217_l12 KK l m (cellsS l) n v0 v1 v2) (q : Int) (many : Int) z = _
    unfold f217_b12
    rw [in1 hq, in0, gd hq, w_succ (by omega)]
    rfl)
   (fun n many z => by
    show f217_b12 KK l m (cellsS l) (fun c0 c1 c2 d0 d1 d2 => f217_l16 KK l m c0 c1 c2 (cellsS l) (fun v0 v1 v2 => f217_l12 KK l m (cellsS l) n v0 v1 v2) KK d0 d1 d2) (fun v0 v1 v2 => f217_l12 KK l m (cellsS l) n v0 v1 v2) ((cellsS l).length : Int) (many : Int) z = _
    unfold f217_b12
    rw [out1, cond_false]) KK 0 [] trivial (by omega) (fun x _ => rfl) (by simp only [KK]; omega)
  unfold f217G f217_g
  rw [cells_eq hl, Option.bind_some]
  exact hh
 ·have hh := cyc_outer hO hσ horb (Z := List Bool) (look := fun z u => z.getD (numS l u) false) (mark := fun z u => z.set (numS l u) true) (inv := fun z => z.length = (cellsS l).length)
   (fun z u hz hu => ⟨by rw [List.length_set]; exact hz, fun x hx => by
    show (z.set (numS l u) true).getD (numS l x) false = (z.getD (numS l x) false || x == u)
    have hx1 := numS_lt hl x
    have hu1 := numS_lt hl u
    by_cases he : x = u
    ·subst he
     rw [beq_self_eq_true, Bool.or_true, List.getD_eq_getElem?_getD, List.getElem?_set_self (by omega)]
     rfl
    ·rw [beq_eq_false_iff_ne.2 he, Bool.or_false, List.getD_eq_getElem?_getD, List.getD_eq_getElem?_getD, List.getElem?_set_ne]
     intro e
     have c1 := cell_at hl (cellsS_cell hx)
     have c2 := cell_at hl (cellsS_cell hu)
     rw [← e, c2, Option.some.injEq] at c1
     exact he c1.symm⟩)
   (outer := fun n q many z => f221_l16 KK l m (cellsS l) n (q : Int) (many : Int) z)
   (inner := fun n q many k u z => f221_l20 KK l m (q : Int) (many : Int) z (cellsS l) (fun v0 v1 v2 => f221_l16 KK l m (cellsS l) n v0 v1 v2) k u.1 u.2 z)
   (k0 := KK) (by simp only [KK]; omega)
   (fun n q many k u z hq hmany hu hz => by
    show f221_b20 KK l m (q : Int) (many : Int) z (cellsS l) _ (fun v0 v1 v2 => f221_l20 KK l m (q : Int) (many : Int) z (cellsS l) _ k v0 v1 v2) u.1 u.2 z = _
    unfold f221_b20
    have hlt : numS l u < z.length := by rw [hz]; exact numS_lt hl u
    have e1 : ((0 : Int) + ((numS l u : Nat) : Int)).toNat = numS l u := by omega
    rw [show ((u.1, u.2) : Vc) = u from rfl, l03Number_gen hl (Sv_Sm (hSv u hu)), Option.bind_some, Option.bind_some, in0, in1 hlt, l07Move_gen hl hm.2 (hSv u hu), Option.bind_some, w_succ (by omega), w_succ (by omega), e1]
    simp only [Bool.and_self, cond_true]
    cases z.getD (numS l u) false <;> rfl)
   (fun n q many z hq hz => by
    show f221_b16 KK l m (cellsS l) (fun c0 c1 c2 d0 d1 d2 => f221_l20 KK l m c0 c1 c2 (cellsS l) (fun v0 v1 v2 => f221_l16 KK l m (cellsS l) n v0 v1 v2) KK d0 d1 d2) (fun v0 v1 v2 => f221_l16 KK l m (cellsS l) n v0 v1 v2) (q : Int) (many : Int) z = _
    unfold f221_b16
    have e1 : ((0 : Int) + (q : Int)).toNat = q := by omega
    rw [in1 hq, in0, in1 (show q < z.length by omega), w_succ (by omega), gd hq, e1, cellsS_num hl hq]
    simp only [Bool.and_self, cond_true])
   (fun n many z => by
    show f221_b16 KK l m (cellsS l) (fun c0 c1 c2 d0 d1 d2 => f221_l20 KK l m c0 c1 c2 (cellsS l) (fun v0 v1 v2 => f221_l16 KK l m (cellsS l) n v0 v1 v2) KK d0 d1 d2) (fun v0 v1 v2 => f221_l16 KK l m (cellsS l) n v0 v1 v2) ((cellsS l).length : Int) (many : Int) z = _
    unfold f221_b16
    rw [out1, cond_false]) KK 0 (List.replicate (cellsS l).length false) (by simp) (by omega) (fun x _ => by
     show (List.replicate (cellsS l).length false).getD (numS l x) false = false
     rw [List.getD_eq_getElem?_getD, List.getElem?_replicate]
     split <;> rfl) (by simp only [KK]; omega)
  unfold f221G f221_g
  rw [l03Cells_eq hl, Option.bind_some]
  have e0 : (decide (0 ≤ ((cellsS l).length : Int)) && Nat.ble ((cellsS l).length : Int).toNat (lim 1) && (((cellsS l).length : Int) == ((cellsS l).length : Int))) = true := by
   rw [in0, show ((cellsS l).length : Int).toNat = (cellsS l).length by omega, blimB (by omega) (by omega) (by omega)]; simp
  rw [e0, cond_true, show ((cellsS l).length : Int).toNat = (cellsS l).length by omega]
  exact hh
end Go.Proofs.YtfccacobkcglcaaGreat.X
