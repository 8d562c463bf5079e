/- The plain law of MotionToCell: both sides find the motion and the tile's vector that lead to a cell. -/
import Derived.Test.YtfccacobkcglcaaGreatQhMJ
import Derived.Test.YtfccacobkcglcaaGreatQzXRow
namespace Go.Proofs.YtfccacobkcglcaaGreat.X
open Go
set_option linter.unusedSimpArgs false
set_option linter.unusedVariables false
theorem idxS_map {α β : Type} (p : β → Bool) (f : α → β) : ∀ (l : List α) (q : Nat), idxS p q (l.map f) = idxS (fun a => p (f a)) q l
 | [], _ => rfl
 | a :: l, q => by simp only [List.map_cons, idxS, idxS_map p f l]
theorem indexVec_eq {l : List Vc} (hn : l.length ≤ 1000) (v : Vc) : f184G KK l v = some (idxS (fun a => v == a) 0 l) := by
 have h := iter_idx (R := Int) (body := fun L x => f184_b2 KK l v (fun v0 => L v0) x) l (fun a => v == a) some
  (fun L q hq => by
   unfold f184_b2
   rw [in1 hq, in0, gd hq]
   simp only [Bool.and_self, cT]
   rw [eqV2, w_succ (by omega)])
  (fun L => by
   unfold f184_b2
   rw [out1, cF]) KK 0 (by omega) (by have := KKlt (n := l.length) (by omega); omega)
 unfold f184G f184_g f184_l2
 exact h
def cellMo (l : Lt) (g : List Mo) (t : List Vc) (v : Vc) (j : Nat) : Mo × Vc × Int := (g.getD j dMo, t.getD (idxS (fun u => v == mvS l (g.getD j dMo) u) 0 t).toNat (0, 0), 0)
theorem copy_idx {l : Lt} {g : List Mo} {t : List Vc} {v : Vc} {j : Nat} (hj : j < g.length) (hm : v ∈ t.map (mvS l g[j])) : ∃ k, k < t.length ∧ idxS (fun u => v == mvS l (g.getD j dMo) u) 0 t = (k : Int) ∧ (∀ i (h : i < t.length), i < k → (v == mvS l g[j] t[i]) = false) ∧ ∀ (h : k < t.length), (v == mvS l g[j] t[k]) = true := by
 have e : g.getD j dMo = g[j] := by simp [List.getD, hj]
 rw [e]
 rcases idxS_spec (fun u => v == mvS l g[j] u) t 0 with ⟨h1, h2⟩ | ⟨k, h1, h2, h3, b, h4, h5⟩
 ·obtain ⟨u, hu, e2⟩ := List.mem_map.1 hm
  have := h2 u hu
  rw [e2] at this
  simp at this
 ·refine ⟨k, h1, by rw [h2, Nat.zero_add], fun i hi hik => h3 _ ?_, fun h => ?_⟩
  ·exact List.mem_iff_getElem.2 ⟨i, by rw [List.length_take]; omega, by rw [List.getElem_take]⟩
  ·rw [List.getElem?_eq_getElem h1] at h4
   rw [Option.some.inj h4]
   exact h5
theorem own_copy {l : Lt} (hl : IsL l) {g : List Mo} {t : List Vc} {v : Vc} (hv : cellB l v = true) {j : Nat} (h : ownS (cnS l (cpsS l g t)) 0 (numS l v) = some j) (hm : numS l v ∈ (cnS l (cpsS l g t)).flatten) : ∃ (hj : j < g.length), v ∈ t.map (mvS l g[j]) := by
 obtain ⟨i, h1, h2, h3⟩ := ownS_some (i := 0) hm
 rw [h1] at h
 simp only [Nat.zero_add, Option.some.injEq] at h
 subst h
 have hj : i < g.length := by simpa [cnS, cpsS] using h2
 refine ⟨hj, ?_⟩
 have h4 : numS l v ∈ (t.map (mvS l g[i])).map (numS l) := by simpa [cnS, cpsS] using h3
 obtain ⟨u, hu, e⟩ := List.mem_map.1 h4
 have hc : cellB l u = true := by
  obtain ⟨x, _, rfl⟩ := List.mem_map.1 hu
  exact redS_isCell hl _
 rw [← num_inj hl hc hv e]
 exact hu
theorem spec_find {f : Int} {l : Lt} {g : List Mo} {t : List Vc} (hT : TileG f l g t) {v : Vc} {j : Nat} (hj : j < g.length) (hm : v ∈ t.map (mvS l g[j])) {o : List Int} {b b2 : Bool} {y n : Int} (ho : o.getD ((0 : Int) + n).toNat 0 = (j : Int)) :
  f65_l12 KK f l g t v y b2 (o, b) n KK 0 = some (cellMo l g t v j) := by
 obtain ⟨k, hk, hi, h1, h2⟩ := copy_idx hj hm
 have hgj : g.getD ((0 : Int) + (j : Int)).toNat dMo = g[j] := gd hj
 have hgj2 : g.getD j dMo = g[j] := by simp [List.getD, hj]
 have ht2 := hT.t2
 have step : ∀ (n' q : Nat), q ≤ k → k - q < n' → f65_l12 KK f l g t v y b2 (o, b) n n' (q : Int) = some (cellMo l g t v j) := by
  intro n'
  induction n' with
  | zero => intro q _ h; omega
  | succ n' ih =>
   intro q hq hn
   show f65_b12 KK f l g t v y b2 (o, b) n (fun v0 => f65_l12 KK f l g t v y b2 (o, b) n n' v0) (q : Int) = _
   have hqt : q < t.length := by omega
   unfold f65_b12
   simp only
   rw [ho, in0, in1 hqt, show g.getD ((0 : Int) + (j : Int)).toNat (((0 : Int), (0 : Int), (0 : Int), (0 : Int)), (0 : Int), (0 : Int)) = g[j] from hgj, gd hqt]
   simp only [Bool.and_self, cT]
   rw [l07Move_gen hT.la (m := g[j]) (hT.pr.good hT.la (gM hj)) (vecB_Sv (hT.vec _ (gM hqt))), oB, eqV2, w_succ (by omega)]
   by_cases e : q = k
   ·subst e
    have h3 := h2 hk
    rw [beq_iff_eq] at h3
    have h4 : (mvS l g[j] t[q] == v) = true := by rw [beq_iff_eq]; exact h3.symm
    rw [h4]
    simp only [Bool.not_true, cF]
    unfold cellMo
    rw [hi, hgj2]
    have : ((q : Int)).toNat = q := by omega
    rw [this]
    simp [List.getD, hqt]
   ·have h3 := h1 q hqt (by omega)
    rw [beq_eq_false_iff_ne] at h3
    have h4 : (mvS l g[j] t[q] == v) = false := by rw [beq_eq_false_iff_ne]; exact fun e => h3 e.symm
    rw [h4]
    simp only [Bool.not_false, cT]
    exact ih (q + 1) (by omega) (by omega)
 exact step KK 0 (by omega) (by simp only [KK]; omega)
theorem impl_find {f : Int} {l : Lt} {g : List Mo} {t : List Vc} (hT : TileG f l g t) {v : Vc} (hv : cellB l v = true) {y : Int} {b b2 : Bool} : ∀ (n q : Nat), q ≤ g.length → g.length - q < n →
  ∀ j, ownS ((cnS l (cpsS l g t)).drop q) q (numS l v) = some j → f64_l7 KK f l g t v y b b2 (cpsS l g t) n (q : Int) = some (cellMo l g t v j)
 | 0, q, _, h, _, _ => by omega
 | n + 1, q, hq, hn, j, hj => by
  show f64_b7 KK f l g t v y b b2 (cpsS l g t) (fun v0 => f64_l7 KK f l g t v y b b2 (cpsS l g t) n v0) (q : Int) = _
  have hle := hT.pr.len hT.la
  have ht2 := hT.t2
  have hcl := cpsS_length l g t
  by_cases hlt : q < g.length
  ·have hc : q < (cpsS l g t).length := by omega
   have hc2 : q < (cnS l (cpsS l g t)).length := by simp [cnS]; omega
   have hget : (cpsS l g t)[q] = t.map (mvS l g[q]) := by simp [cpsS]
   have hgq : g.getD q dMo = g[q] := by simp [List.getD, hlt]
   unfold f64_b7
   rw [in1 hc, in0, in1 hlt, getC hc, hget]
   simp only [Bool.and_self, cT]
   rw [indexVec_eq (by simp; omega), oB, idxS_map]
   rw [List.drop_eq_getElem_cons hc2] at hj
   simp only [ownS] at hj
   have hcn : (cnS l (cpsS l g t))[q] = (t.map (mvS l g[q])).map (numS l) := by simp [cnS, cpsS]
   rw [hcn] at hj
   by_cases hm : v ∈ t.map (mvS l g[q])
   ·rw [if_pos (List.mem_map.2 ⟨v, hm, rfl⟩)] at hj
    cases hj
    obtain ⟨k, hk, hi, _, _⟩ := copy_idx hlt hm
    rw [hgq] at hi
    have e1 : idxS (fun a => v == mvS l g[q] a) 0 t = (k : Int) := hi
    rw [e1]
    have d1 : decide ((k : Int) ≥ 0) = true := by simp
    rw [d1, cT, in1 hk]
    simp only [Bool.and_self, cT]
    rw [gd hlt, gd hk]
    unfold cellMo
    rw [hgq, e1]
    have : ((k : Int)).toNat = k := by omega
    rw [this]
    simp [List.getD, hk]
   ·have hno : numS l v ∉ (t.map (mvS l g[q])).map (numS l) := fun h => by
     obtain ⟨u, hu, e⟩ := List.mem_map.1 h
     have hcu : cellB l u = true := by
      obtain ⟨x, _, rfl⟩ := List.mem_map.1 hu
      exact redS_isCell hT.la _
     exact hm (num_inj hT.la hcu hv e ▸ hu)
    rw [if_neg hno] at hj
    have hi : idxS (fun a => v == mvS l g[q] a) 0 t = -1 := by
     rcases idxS_spec (fun a => v == mvS l g[q] a) t 0 with ⟨h1, _⟩ | ⟨k, h1, h2, _, b, h4, h5⟩
     ·exact h1
     ·exfalso
      have hb := List.mem_of_getElem? h4
      rw [beq_iff_eq] at h5
      exact hm (List.mem_map.2 ⟨b, hb, h5.symm⟩)
    rw [hi]
    have d1 : decide ((-1 : Int) ≥ 0) = false := by simp
    rw [d1, cF, w_succ (by omega)]
    exact impl_find hT hv n (q + 1) hlt (by omega) j hj
  ·have e : q = g.length := by omega
   subst e
   rw [List.drop_eq_nil_of_le (by simp [cnS, cpsS])] at hj
   simp [ownS] at hj
def resMC (f : Int) (l : Lt) (g : List Mo) (t : List Vc) (v : Vc) : Mo × Vc × Int :=
 bif codeT f l g t != 0 then (dMo, (0, 0), codeT f l g t) else bif !cellB l v then (dMo, (0, 0), 2) else bif !decide (tilesP l g t) then (dMo, (0, 0), 5) else cellMo l g t v ((ownS (cnS l (cpsS l g t)) 0 (numS l v)).getD 0)
theorem own_of {l : Lt} (hl : IsL l) {g : List Mo} {t : List Vc} (h : tilesP l g t) {v : Vc} (hv : cellB l v = true) : numS l v ∈ (cnS l (cpsS l g t)).flatten := by
 rw [cn_flat]
 exact List.mem_map.2 ⟨v, h.2 v (cellB_mem hl hv), rfl⟩
theorem implMC_eq (f : Int) (l : Lt) {g : List Mo} (hn : g.length ≤ 1048576) {t : List Vc} (ht : t.length ≤ 1048576) (v : Vc) : f64G KK f l g t v = some (resMC f l g t v) := by
 unfold f64G f64_g resMC
 rw [tileCode_eq f l hn ht, oB]
 cases hc : codeT f l g t != 0
 ·have h0 : codeT f l g t = 0 := by simpa using hc
  have hT := codeT_0 h0
  rw [cF, cF, isCell_eq hT.la, oB]
  cases hv : cellB l v
  ·rfl
  ·simp only [Bool.not_true, cF]
   rw [tilesByGroup_eq hT, oB]
   by_cases htl : tilesP l g t
   ·have hm := own_of hT.la htl hv
    obtain ⟨j, h1, _⟩ := ownS_some (i := 0) hm
    simp only [dT htl, Bool.not_true, cF]
    rw [copiesOf_eq hT, oB, h1]
    exact impl_find hT hv KK 0 (by omega) (by simp only [KK]; omega) _ (by rw [List.drop_zero]; exact h1)
   ·rw [dF htl]
    rfl
 ·rfl
theorem specMC_eq (f : Int) (l : Lt) {g : List Mo} (hn : g.length ≤ 1048576) {t : List Vc} (ht : t.length ≤ 1048576) (v : Vc) : f65G KK f l g t v = some (resMC f l g t v) := by
 unfold f65G f65_g resMC
 rw [l23Code_eq f l hn ht, oB]
 simp only [Bool.or_true, cT]
 cases hc : codeT f l g t != 0
 ·have h0 : codeT f l g t = 0 := by simpa using hc
  have hT := codeT_0 h0
  have hb : (codeT f l g t == 0) = true := by simp [h0]
  rw [hb]
  simp only [cT, cF]
  rw [l07Cell_eq hT.la, oB]
  cases hv : cellB l v
  ·rfl
  ·simp only [Bool.not_true, cF]
   obtain ⟨o, ho, hval⟩ := owners_eq hT
   rw [ho, oB]
   by_cases htl : tilesP l g t
   ·have hm := own_of hT.la htl hv
    obtain ⟨h1, h2⟩ := hval htl
    obtain ⟨j, h3, h4⟩ := h2 (numS l v) (numS_lt hT.la v)
    obtain ⟨hj, hmem⟩ := own_copy hT.la hv h4 hm
    simp only [dT htl, Bool.not_true, cF]
    have hlt : numS l v < o.length := by rw [h1]; exact numS_lt hT.la v
    have e0 : o.getD ((0 : Int) + ((numS l v : Nat) : Int)).toNat 0 = (j : Int) := by
     have : ((0 : Int) + ((numS l v : Nat) : Int)).toNat = numS l v := by omega
     rw [this]; exact h3
    rw [l03Number_eq hT.la hv, oB, in0, in1 hlt, e0, in0, in1 hj]
    simp only [Bool.and_self, cT]
    rw [h4, Option.getD_some]
    exact spec_find hT hj hmem e0
   ·rw [dF htl]
    rfl
 ·have hb : (codeT f l g t == 0) = false := by
   rw [beq_eq_false_iff_ne]
   simpa using hc
  rw [hb]
  rfl
end Go.Proofs.YtfccacobkcglcaaGreat.X
