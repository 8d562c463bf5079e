/- The plain law of FnGroupTilings: a tiling's pattern shows the number of each copy; motions carry cells to cells. -/
import Derived.Test.YtfccacobkcglcaaGreatQhMM
import Derived.Test.YtfccacobkcglcaaGreatQhMT
import Derived.Test.YtfccacobkcglcaaGreatQhPConnectedUnit
import Derived.Test.YtfccacobkcglcaaGreatQhPTilesByGroup
import Derived.Test.YtfccacobkcglcaaGreatQhPTilingPattern
import Derived.Test.YtfccacobkcglcaaGreatQhPMotionToCell
import Derived.Test.YtfccacobkcglcaaGreatQhPCopiesOf
namespace Go.Proofs.YtfccacobkcglcaaGreat.X
open Go
set_option linter.unusedSimpArgs false
set_option linter.unusedVariables false
theorem dof_loop {c : List Int} {t0 : Int × Int} {m : Int} : ∀ (n i : Nat) (t : Int × Int) (q : List Vc), Src c t → i ≤ 60 → 60 - i < n → 1 ≤ q.length → q.length ≤ 1 + i →
  ∃ t' r, f338_l9 KK (c, t0) m stepsV n (i : Int) t.1 t.2 q = some (t', r) ∧ Src c t' ∧ r.length ≤ 100
 | 0, i, _, _, _, _, h, _, _ => by omega
 | n + 1, i, t, q, h, hi, hk, h1, h2 => by
  show ∃ t' r, f338_b9 KK (c, t0) m stepsV (fun v0 v1 v2 v3 => f338_l9 KK (c, t0) m stepsV n v0 v1 v2 v3) (i : Int) t.1 t.2 q = some (t', r) ∧ Src c t' ∧ r.length ≤ 100
  unfold f338_b9
  have et : ((t.1, t.2) : Int × Int) = t := rfl
  simp only [Bool.or_true, cT]
  cases hc : (bif decide ((i : Int) < 60) then decide ((q.length : Int) < m) else false)
  ·exact ⟨t, q, rfl, h, by omega⟩
  ·have hi2 : i < 60 := by
    by_cases hh : i < 60
    ·exact hh
    ·rw [dF (show ¬ (i : Int) < 60 by omega)] at hc
     cases hc
   rw [cT, et]
   obtain ⟨t1, r1, e1, s1, a1, b1⟩ := next_pos h (n := (q.length : Int)) (by omega)
   obtain ⟨k, rfl⟩ : ∃ k : Nat, r1 = (k : Int) := ⟨r1.toNat, by omega⟩
   have hkq : k < q.length := by omega
   rw [e1, oB]
   simp only
   obtain ⟨t2, r2, e2, s2, a2, b2⟩ := next_pos s1 (n := 4) (by omega)
   obtain ⟨j, rfl⟩ : ∃ j : Nat, r2 = (j : Int) := ⟨r2.toNat, by omega⟩
   have hj : j < stepsV.length := by have : stepsV.length = 4 := rfl; omega
   rw [in0, in1 hkq, Bool.and_self, cT, e2, oB]
   simp only
   rw [in0, in1 hj, Bool.and_self, cT]
   unfold f340G
   rw [oB, l01Insert_eq (by omega), oB, w_succ (by omega)]
   have hl := insP_len (w ((q.getD ((0 : Int) + (k : Int)).toNat (0, 0)).1 + (stepsV.getD ((0 : Int) + (j : Int)).toNat (0, 0)).1), w ((q.getD ((0 : Int) + (k : Int)).toNat (0, 0)).2 + (stepsV.getD ((0 : Int) + (j : Int)).toNat (0, 0)).2)) q
   refine dof_loop n (i + 1) t2 _ s2 (by omega) (by omega) ?_ (by omega)
   exact List.length_pos_of_mem ((insP_mem _ q _).2 (.inl rfl))
theorem dof_ok {c : List Int} {t : Int × Int} (h : Src c t) (m : Int) : ∃ t' r, f338G KK (c, t) m = some (t', r) ∧ Src c t' ∧ r.length ≤ 100 := by
 unfold f338G f338_g
 obtain ⟨t1, r1, e1, h1, _⟩ := next_ok h 7
 rw [e1, oB]
 simp only
 obtain ⟨t2, r2, e2, h2, _⟩ := next_ok h1 7
 rw [e2, oB, show f387G KK = some stepsV from rfl, oB]
 exact dof_loop (c := c) (t0 := t) (m := m) KK 0 t2 _ h2 (by omega) (by simp only [KK]; omega) (by simp) (by simp)
theorem dtile_ok {c : List Int} {t : Int × Int} (h : Src c t) : ∃ t' r, f279G KK (c, t) = some (t', r) ∧ Src c t' ∧ r.length ≤ 1000 := by
 unfold f279G
 obtain ⟨t1, r1, e1, h1, _⟩ := next_ok h 8
 rw [e1, oB]
 simp only
 obtain ⟨t2, q, e2, h2, hq⟩ := dof_ok h1 (w (1 + r1))
 rw [e2, oB]
 simp only
 obtain ⟨t3, r3, e3, h3, _⟩ := next_ok h2 30
 rw [e3, oB]
 simp only
 cases r3 == 0
 ·rw [cF]
  cases r3 == 1
  ·rw [cF]
   cases r3 == 2
   ·rw [cF]
    cases r3 == 3
    ·exact ⟨t3, q, rfl, h3, by omega⟩
    ·rw [cT]
     obtain ⟨t4, r4, e4, h4, _⟩ := next_ok h3 5
     rw [e4, oB]
     simp only
     obtain ⟨t5, r5, e5, h5, _⟩ := pick_ok h4 (l := [(0 : Int), 1, 1000]) (by simp)
     rw [e5]
     exact ⟨t5, _, rfl, h5, by simp⟩
   ·rw [cT]
    obtain ⟨t4, r4, e4, h4, _⟩ := next_ok h3 9
    rw [e4, oB]
    simp only
    rw [l01Insert_eq (by omega)]
    exact ⟨t4, _, rfl, h4, by have := insP_len (9, r4) q; first | omega | (simp only; omega)⟩
  ·rw [cT]
   obtain ⟨t4, r4, e4, h4, _⟩ := next_ok h3 2
   rw [e4, oB]
   simp only
   cases r4 == 0
   ·obtain ⟨t5, q5, e5, h5, hq5⟩ := dof_ok h4 20
    rw [cF, e5]
    exact ⟨t5, q5, rfl, h5, by omega⟩
   ·exact ⟨t4, [], rfl, h4, by simp⟩
 ·rw [cT]
  obtain ⟨t4, r4, e4, h4, _⟩ : ∃ t' v, f291G KK (c, t3) = some (t', v) ∧ Src c t' ∧ True := by
   unfold f291G
   obtain ⟨t1, r1, e1, h1, _⟩ := next_ok h3 40
   rw [e1, oB]
   simp only
   cases r1 == 0
   ·rw [cF]
    obtain ⟨t2, r2, e2, h2, _⟩ := pick_ok h1 (l := [(4 : Int), 9, 30]) (by simp)
    rw [e2, oB]
    simp only
    obtain ⟨t3, r3, e3, h3, _⟩ := next_ok h2 (w (w (2 * r2) + 1))
    rw [e3, oB]
    simp only
    obtain ⟨t4, r4, e4, h4, _⟩ := next_ok h3 (w (w (2 * r2) + 1))
    rw [e4]
    exact ⟨_, _, rfl, h4, trivial⟩
   ·rw [cT]
    obtain ⟨t2, r2, e2, h2, _⟩ := pick_ok h1 (l := [(-1000 : Int), 1000, 1001, 0]) (by simp)
    rw [e2, oB]
    simp only
    obtain ⟨t3, r3, e3, h3, _⟩ := pick_ok h2 (l := [(-1001 : Int), 1000, 0]) (by simp)
    rw [e3]
    exact ⟨_, _, rfl, h3, trivial⟩
  rw [e4, oB, blim16 (by simp; omega)]
  exact ⟨t4, _, rfl, h4, by simp; omega⟩
theorem cu_loopS {f : Int} {l : Lt} {g : List Mo} (h : OrbG f l g) {c1 : Int} (hn16 : (orbsS l g).length ≤ 1000) : ∀ (k : Nat) (s : List Vc), SI s → (∀ x ∈ s, cellB l x = true) → s.length ≤ 1000 → (orbsS l g).length - s.length < k →
  ∃ r : List Vc × Int, f278_l6 KK f l g (orbsS l g, c1) (numsF l g) k s = some r ∧ r.1.length ≤ 1000
 | 0, _, _, _, _, h => by omega
 | k + 1, s, hsi, hcell, hs1, hk => by
  have hN := cellsS_le h.la
  have es : f278_l6 KK f l g (orbsS l g, c1) (numsF l g) (k + 1) s = f278_b6 KK f l g (orbsS l g, c1) (numsF l g) (fun v0 => f278_l6 KK f l g (orbsS l g, c1) (numsF l g) k v0) s := rfl
  rw [es]
  unfold f278_b6
  simp only
  rw [lenlt]
  cases hlt : decide (s.length < (orbsS l g).length)
  ·exact ⟨(s, 0), rfl, hs1⟩
  ·have hlt' : s.length < (orbsS l g).length := by simpa using hlt
   simp only [cT]
   rw [l23Next_eq h hcell hs1, oB]
   rcases idxS_spec (freeS l g s) (cellsS l) 0 with ⟨e, _⟩ | ⟨q, hq, e, _, c, hc1, hc2⟩
   ·rw [e]
    exact ⟨([], 4), rfl, by simp⟩
   ·rw [Nat.zero_add] at e
    rw [e]
    have eq : (q : Int).toNat = q := by omega
    have hcq : (cellsS l)[q] = c := by
     rw [List.getElem?_eq_getElem hq, Option.some.injEq] at hc1
     exact hc1
    have hcc : cellB l c = true := by rw [← hcq]; exact cellsS_cell (gM hq)
    have gcell : (cellsS l).getD q (0, 0) = c := by rw [List.getD_eq_getElem?_getD, hc1]; rfl
    rw [show decide ((q : Int) ≥ 0) = true by simp, eq, gcell]
    simp only [cT, cF, Bool.not_true]
    rw [l01Insert_eq (by omega), oB]
    have hcs : c ∉ s := fun hm => by
     unfold freeS at hc2
     rw [Bool.and_eq_true] at hc2
     have : usedS l g s c = true := List.any_eq_true.2 ⟨c, hm, by simp⟩
     rw [this] at hc2
     simp at hc2
    have hlen := insP_new hsi hcs
    exact cu_loopS h hn16 k (insP c s) (insP_SI c hsi) (fun x hx => by
     rcases (insP_mem c s x).1 hx with e | e
     ·rw [e]; exact hcc
     ·exact hcell x e) (by omega) (by omega)
theorem cu_spec (f : Int) (l : Lt) {g : List Mo} (hn : g.length ≤ 1048576) : ∃ r : List Vc × Int, r.1.length ≤ 1000 ∧ f278G KK f l g = some r := by
 unfold f278G f278_g
 rw [l23Free_eq f l hn, oB]
 cases h : (unitS f l g).2 != 0
 ·have h0 : (unitS f l g).2 = 0 := by simpa using h
  obtain ⟨hG, e⟩ := unitS_0 h0
  have hO := orbs_len hG.la g
  rw [cF, l07Numbers_eq hG, oB]
  have e2 : unitS f l g = (orbsS l g, 0) := Prod.ext e h0
  rw [e2]
  obtain ⟨r, e3, h3⟩ := cu_loopS hG (c1 := 0) (by omega) KK [(0, 0)] (by simp [SI]) (fun x hx => by rw [List.mem_singleton] at hx; rw [hx]; exact zero_cell hG.la) (by simp) (by simp only [KK]; omega)
  exact ⟨r, h3, e3⟩
 ·exact ⟨([], (unitS f l g).2), by simp, rfl⟩
theorem dtil_ok {c : List Int} {t : Int × Int} (h : Src c t) : ∃ t' f l g q, f173G KK (c, t) = some (t', f, l, g, q) ∧ Src c t' ∧ g.length ≤ 2000 ∧ q.length ≤ 2000 := by
 unfold f173G
 obtain ⟨t1, f, l, g, e1, h1, hg⟩ := dfree_ok h
 obtain ⟨r, hr, eS⟩ := cu_spec f l (g := g) (by omega)
 rw [e1, oB]
 simp only
 rw [eS, oB]
 obtain ⟨t2, r2, e2, h2⟩ : ∃ t2 r2, (bif !(r.2 != 0) then f194G KK (c, t1) 3 else some (t1, 0)) = some (t2, r2) ∧ Src c t2 := by
  cases r.2 != 0
  ·obtain ⟨t2, r2, e2, h2, _⟩ := next_ok h1 3
   exact ⟨t2, r2, e2, h2⟩
  ·exact ⟨t1, 0, rfl, h1⟩
 simp only [Bool.or_true, cT]
 rw [e2, oB]
 simp only
 cases (bif r.2 != 0 then true else (r2 == 0))
 ·rw [cF]
  obtain ⟨t3, r3, e3, h3, _⟩ := next_ok h2 4
  rw [e3, oB]
  simp only
  cases r3 == 0
  ·exact ⟨t3, f, l, g, r.1, rfl, h3, hg, by omega⟩
  ·rw [cT]
   obtain ⟨t4, v, e4, h4⟩ := cell_ok h3 l
   rw [e4, oB]
   simp only
   rw [l01Insert_eq (by omega)]
   exact ⟨t4, f, l, g, _, rfl, h4, hg, by have := insP_len v r.1; first | omega | (simp only; omega)⟩
 ·obtain ⟨t3, q, e3, h3, hq⟩ := dtile_ok h2
  rw [cT, e3]
  exact ⟨t3, f, l, g, q, rfl, h3, hg, by omega⟩
theorem own_is : ∀ {C : List (List Nat)}, C.flatten.Nodup → ∀ (i0 j : Nat) (hj : j < C.length) {k : Nat}, k ∈ C[j] → ownS C i0 k = some (i0 + j)
 | [], _, _, j, hj, _, _ => by simp at hj
 | c :: C, hn, i0, j, hj, k, hk => by
  rw [List.flatten_cons, List.nodup_append] at hn
  simp only [ownS]
  cases j with
  | zero => rw [if_pos (by simpa using hk)]; rfl
  | succ j =>
   have hk' : k ∈ C[j]'(by simpa using hj) := by simpa using hk
   have hf : k ∈ C.flatten := List.mem_flatten.2 ⟨_, gM _, hk'⟩
   rw [if_neg (fun h => hn.2.2 k h k hf rfl), own_is hn.2.1 (i0 + 1) j (by simpa using hj) hk']
   congr 1
   omega
theorem colT_map {l : Lt} (hl : IsL l) (g : List Mo) (t : List Vc) : colT l g t = (cellsS l).map fun v => (((ownS (cnS l (cpsS l g t)) 0 (numS l v)).getD 0 : Nat) : Int).tmod 10 := by
 refine List.ext_getElem? fun i => ?_
 unfold colT
 rw [List.getElem?_map, List.getElem?_map]
 by_cases hi : i < (cellsS l).length
 ·rw [List.getElem?_range hi, List.getElem?_eq_getElem hi]
  show some ((((ownS (cnS l (cpsS l g t)) 0 i).getD 0 : Nat) : Int).tmod 10) = some ((((ownS (cnS l (cpsS l g t)) 0 (numS l (cellsS l)[i])).getD 0 : Nat) : Int).tmod 10)
  rw [cellsS_num hl hi]
 ·rw [List.getElem?_eq_none (by simp; omega), List.getElem?_eq_none (by omega)]
  rfl
theorem gt_pat {f : Int} {l : Lt} {g : List Mo} {t : List Vc} (hc : codeT f l g t = 0) (ht : tilesP l g t) : (∀ i (hi : i < (cpsS l g t).length) k (hk : k < (cpsS l g t)[i].length), f71G KK (f, l, colT l g t) (cpsS l g t)[i][k] = some ((i : Int).tmod 10, 0)) ∧ g.length * t.length = (cellsS l).length := by
 have hT := codeT_0 hc
 have hl := hT.la
 have hf := hT.fr
 have hnd : (cnS l (cpsS l g t)).flatten.Nodup := by
  rw [cn_flat]
  exact (nodup_map_num hl _ fun v hv => cps_cell hl hv).2 ht.1
 refine ⟨fun i hi k hk => ?_, ?_⟩
 ·have hmem : (cpsS l g t)[i][k] ∈ (cpsS l g t).flatten := List.mem_flatten.2 ⟨_, gM hi, gM hk⟩
  have hcell := cps_cell hl hmem
  have hown : ownS (cnS l (cpsS l g t)) 0 (numS l (cpsS l g t)[i][k]) = some i := by
   have := own_is hnd 0 i (by unfold cnS; rw [List.length_map]; exact hi) (k := numS l (cpsS l g t)[i][k]) (by
    unfold cnS
    rw [List.getElem_map]
    exact List.mem_map.2 ⟨_, gM hk, rfl⟩)
   rw [this, Nat.zero_add]
  have hpat : ((f, l, colT l g t) : Pt) = mapP f l fun v => (((ownS (cnS l (cpsS l g t)) 0 (numS l v)).getD 0 : Nat) : Int).tmod 10 := by rw [colT_map hl]
  have hP : okP (f, l, colT l g t) = true := by
   rw [hpat]
   refine okP_map hf (okL_iff.2 hl) fun v _ => ?_
   have h1 := Int.tmod_nonneg (a := (((ownS (cnS l (cpsS l g t)) 0 (numS l v)).getD 0 : Nat) : Int)) 10 (by omega)
   have h2 := Int.tmod_lt_of_pos (((ownS (cnS l (cpsS l g t)) 0 (numS l v)).getD 0 : Nat) : Int) (show (0 : Int) < 10 by omega)
   unfold okC
   exact dT (by omega)
  have hp := okP_P hP
  have hvec := cellB_vec hl hcell
  unfold f71G
  rw [isPattern_eq, hP, oB]
  simp only [Bool.not_true, Bool.not_false, Bool.or_true, cT]
  rw [isVec_eq, hvec, oB]
  simp only [Bool.not_true, cF]
  rw [at_eq hp (Sv_Sm (vecB_Sv hvec)), oB, hpat, atS_map hl hcell, hown]
  rfl
 ·rw [← cps_len]
  exact Nat.le_antisymm (nodup_len _ _ ht.1 fun v hv => cellB_mem hl (cps_cell hl hv)) (nodup_len _ _ (cellsS_nodup hl) ht.2)
section
variable {c : List Int} {f : Int} {l : Lt} {g : List Mo} {t : List Vc} {y1 y8' y12 y13 y16 : Bool} {y4 : Pt × Int} {y6 : List (List Vc) × Int} {y8 : Bool × Int} {y9 : Int × Lt × List Mo × List Vc × Vc} {y10 y11 : Mo × Vc × Int} {y14 y15 : Vc × Int}
theorem gt_1 (hc : codeT f l g t = 0) (ht : tilesP l g t) :
  f10_l23 KK c y1 (f, l, g, t) ((f, l, colT l g t), 0) y4 (cpsS l g t, 0) y6 (true, 0) y8 y9 y10 y11 y12 y13 y14 y15 y16 KK 0 = some true := by
 obtain ⟨hcol, hlen⟩ := gt_pat hc ht
 have hT := codeT_0 hc
 have hl := hT.la
 have hN := cellsS_le hl
 have hCl := cpsS_length l g t
 have hG := hT.pr.len hl
 have hck : ∀ i (hi : i < (cpsS l g t).length), (cpsS l g t)[i].length = t.length := fun i hi => by simp [cpsS]
 have ht2 := hT.t2
 have inner : ∀ i (hi : i < (cpsS l g t).length) (L : Int → Option Bool), f10_l25 KK c (i : Int) y1 (f, l, g, t) ((f, l, colT l g t), 0) y4 (cpsS l g t, 0) y6 (true, 0) y8 y9 y10 y11 y12 y13 y14 y15 y16 L KK 0 = L ((i + 1 : Nat) : Int) := by
  intro i hi L
  have hk2 := hck i hi
  have hh := iter_all (X := Int) (body := fun L' x => f10_b25 KK c (i : Int) y1 (f, l, g, t) ((f, l, colT l g t), 0) y4 (cpsS l g t, 0) y6 (true, 0) y8 y9 y10 y11 y12 y13 y14 y15 y16 L (fun v0 => L' v0) x) (cpsS l g t)[i] (fun q => (q : Int)) (fun _ => true) (some false) (L ((i + 1 : Nat) : Int))
   (fun L' q hq => by
    unfold f10_b25
    simp only
    rw [in0, in1 hi, gd hi, in1 hq, in0, gd hq]
    simp only [Bool.and_self, cT]
    rw [hcol i hi q hq, oB, w_succ (by omega)]
    simp only [bne_self_eq_false, Bool.not_false, Bool.not_true, Bool.or_true, cT, cF])
   (fun L' => by
    unfold f10_b25
    simp only
    rw [in0, in1 hi, gd hi, out1, w_succ (q := i) (by omega)]
    rfl) KK 0 (by omega) (by simp only [KK]; omega)
  rw [List.drop_zero, show ((cpsS l g t)[i].all fun _ => true) = true from List.all_eq_true.mpr (by simp), cT] at hh
  unfold f10_l25
  exact hh
 have hh := iter_all (X := Int) (body := fun L x => f10_b23 KK c y1 (f, l, g, t) ((f, l, colT l g t), 0) y4 (cpsS l g t, 0) y6 (true, 0) y8 y9 y10 y11 y12 y13 y14 y15 y16 (fun c0 d0 => f10_l25 KK c c0 y1 (f, l, g, t) ((f, l, colT l g t), 0) y4 (cpsS l g t, 0) y6 (true, 0) y8 y9 y10 y11 y12 y13 y14 y15 y16 (fun v0 => L v0) KK d0) (fun v0 => L v0) x) (cpsS l g t) (fun q => (q : Int)) (fun _ => true) (some false) (some true)
  (fun L q hq => by
   unfold f10_b23
   simp only
   rw [in1 hq, cT]
   exact inner q hq _)
  (fun L => by
   unfold f10_b23
   simp only
   rw [out1, cF, hCl, len_eq hl, ← Int.natCast_mul, hlen, w_id (by omega) (by omega)]
   simp only [Bool.not_true, Bool.or_true, Bool.true_or, cT, beq_self_eq_true]) KK 0 (by omega) (by simp only [KK]; omega)
 rw [List.drop_zero, show ((cpsS l g t).all fun _ => true) = true from List.all_eq_true.mpr (by simp), cT] at hh
 unfold f10_l23
 exact hh
theorem gt_2 (hc : codeT f l g t = 0) (ht : tilesP l g t) :
  f10_l28 KK c y1 (f, l, g, t) ((f, l, colT l g t), 0) y4 (cpsS l g t, 0) y6 (true, 0) y8 y9 y10 y11 y12 y13 KK 0 = some true := by
 obtain ⟨hcol, hlen⟩ := gt_pat hc ht
 have hT := codeT_0 hc
 have hl := hT.la
 have hN := cellsS_le hl
 have hCl := cpsS_length l g t
 have hG := hT.pr.len hl
 have hck : ∀ i (hi : i < (cpsS l g t).length), (cpsS l g t)[i].length = t.length := fun i hi => by simp [cpsS]
 have ht2 := hT.t2
 have inner : ∀ i (hi : i < (cpsS l g t).length) (L : Int → Option Bool), f10_l30 KK c (i : Int) y1 (f, l, g, t) ((f, l, colT l g t), 0) y4 (cpsS l g t, 0) y6 (true, 0) y8 y9 y10 y11 y12 y13 L KK 0 = L ((i + 1 : Nat) : Int) := by
  intro i hi L
  have hk2 := hck i hi
  have hh := iter_all (X := Int) (body := fun L' x => f10_b30 KK c (i : Int) y1 (f, l, g, t) ((f, l, colT l g t), 0) y4 (cpsS l g t, 0) y6 (true, 0) y8 y9 y10 y11 y12 y13 L (fun v0 => L' v0) x) (cpsS l g t)[i] (fun q => (q : Int)) (fun _ => true) (some false) (L ((i + 1 : Nat) : Int))
   (fun L' q hq => by
    unfold f10_b30
    simp only
    rw [in0, in1 hi, gd hi, in1 hq, in0, gd hq]
    simp only [Bool.and_self, cT]
    rw [hcol i hi q hq, oB, w_succ (by omega)]
    simp only [bne_self_eq_false, Bool.not_false, Bool.not_true, Bool.or_true, cT, cF])
   (fun L' => by
    unfold f10_b30
    simp only
    rw [in0, in1 hi, gd hi, out1, w_succ (q := i) (by omega)]
    rfl) KK 0 (by omega) (by simp only [KK]; omega)
  rw [List.drop_zero, show ((cpsS l g t)[i].all fun _ => true) = true from List.all_eq_true.mpr (by simp), cT] at hh
  unfold f10_l30
  exact hh
 have hh := iter_all (X := Int) (body := fun L x => f10_b28 KK c y1 (f, l, g, t) ((f, l, colT l g t), 0) y4 (cpsS l g t, 0) y6 (true, 0) y8 y9 y10 y11 y12 y13 (fun c0 d0 => f10_l30 KK c c0 y1 (f, l, g, t) ((f, l, colT l g t), 0) y4 (cpsS l g t, 0) y6 (true, 0) y8 y9 y10 y11 y12 y13 (fun v0 => L v0) KK d0) (fun v0 => L v0) x) (cpsS l g t) (fun q => (q : Int)) (fun _ => true) (some false) (some true)
  (fun L q hq => by
   unfold f10_b28
   simp only
   rw [in1 hq, cT]
   exact inner q hq _)
  (fun L => by
   unfold f10_b28
   simp only
   rw [out1, cF, hCl, len_eq hl, ← Int.natCast_mul, hlen, w_id (by omega) (by omega)]
   simp only [Bool.not_true, Bool.or_true, Bool.true_or, cT, beq_self_eq_true]) KK 0 (by omega) (by simp only [KK]; omega)
 rw [List.drop_zero, show ((cpsS l g t).all fun _ => true) = true from List.all_eq_true.mpr (by simp), cT] at hh
 unfold f10_l28
 exact hh
end
noncomputable def motK (m : Mt) : Bool := (f285G KK m == some true) && (f286G KK m == some true)
theorem mot_all : (pmQ ++ pmH).all motK = true := by kernel_rfl
theorem mc_inv {f : Int} {l : Lt} {g : List Mo} {t : List Vc} {v : Vc} (h : (resMC f l g t v).2.2 = 0) : ∃ m u, resMC f l g t v = (m, u, 0) ∧ TileG f l g t ∧ m ∈ g ∧ u ∈ t ∧ mvS l m u = v := by
 unfold resMC at h ⊢
 cases hc : codeT f l g t != 0
 ·have h0 : codeT f l g t = 0 := by simpa using hc
  have hT := codeT_0 h0
  rw [hc, cF] at h
  cases hv : cellB l v
  ·rw [hv] at h; exact absurd (show (2 : Int) = 0 from h) (by decide)
  ·cases ht : decide (tilesP l g t)
   ·rw [hv, ht] at h; exact absurd (show (5 : Int) = 0 from h) (by decide)
   ·have htp := of_decide_eq_true ht
    obtain ⟨j, hj1⟩ := own_get hT.la htp (k := numS l v) (numS_lt hT.la v)
    obtain ⟨hj, hm⟩ := own_copy hT.la hv hj1 (own_of hT.la htp hv)
    obtain ⟨k, k1, k2, _, k4⟩ := copy_idx hj hm
    have e : g.getD j dMo = g[j] := by simp [List.getD, hj]
    have ek : ((k : Nat) : Int).toNat = k := by omega
    refine ⟨g[j], t[k], ?_, hT, gM hj, gM k1, (beq_iff_eq.1 (k4 k1)).symm⟩
    simp only [cF, Bool.not_true, hj1, Option.getD_some]
    unfold cellMo
    rw [k2, e, ek, List.getD_eq_getElem?_getD, List.getElem?_eq_getElem k1]
    rfl
 ·rw [hc, cT] at h
  have h : codeT f l g t = 0 := h
  rw [h] at hc
  exact absurd hc (by decide)
theorem app_two {f : Int} {l : Lt} {g : List Mo} {t : List Vc} (hT : TileG f l g t) {m : Mo} (hm : m ∈ g) {u : Vc} (hu : u ∈ t) : ∃ a e r e2, f68G KK m u = some (a, e) ∧ f69G KK l a = some (r, e2) ∧ (bif e != 3 then (bif (bif e != 0 then true else (e2 != 0)) then true else (!((r.1 == (mvS l m u).1) && (r.2 == (mvS l m u).2)))) else false) = false := by
 have hL := hT.la
 have hl := okL_iff.2 hL
 obtain ⟨p1, p2⟩ := hT.pr.mem m hm
 have hmm := stab_mem p1
 have hk := List.all_eq_true.1 mot_all _ hmm
 unfold motK at hk
 rw [Bool.and_eq_true, beq_iff_eq, beq_iff_eq] at hk
 have hsm := pm_sm hmm
 have huv := hT.vec u hu
 have ha : f68G KK m u = some (bif !vecB (appS m u) then ((0, 0), 3) else (appS m u, 0)) := by
  unfold f68G f188G f190G
  rw [hk.1, oB, hk.2]
  simp only [Bool.not_true, Bool.not_false, Bool.or_true, cT, oB, isVec_eq, cellB_vec hL p2, huv, cF]
  rw [motApply_eq hsm (vecB_Sv huv) (cellB_Sv hL p2), oB]
  cases vecB (appS m u) <;> rfl
 have hr : ∀ a, vecB a = true → f69G KK l a = some (redS l a, 0) := fun a h => by
  unfold f69G f192G
  rw [isLattice_eq, hl]
  simp only [Bool.not_true, Bool.not_false, Bool.or_true, cT, oB, isVec_eq, h, cF]
  rw [show ((0 : Int) != 0) = false by decide, cF, reduce_eq hL (vec_Sm h), oB]
 cases hb : vecB (appS m u)
 ·refine ⟨(0, 0), 3, redS l (0, 0), 0, by rw [ha, hb]; rfl, hr _ (by decide), rfl⟩
 ·refine ⟨appS m u, 0, redS l (appS m u), 0, by rw [ha, hb]; rfl, hr _ hb, ?_⟩
  show (bif (0 : Int) != 3 then (bif (bif (0 : Int) != 0 then true else ((0 : Int) != 0)) then true else (!(((mvS l m u).1 == (mvS l m u).1) && ((mvS l m u).2 == (mvS l m u).2)))) else false) = false
  simp
theorem tp_inv {f : Int} {l : Lt} {g : List Mo} {t : List Vc} (h : (resTP f l g t).2 = 0) : codeT f l g t = 0 ∧ tilesP l g t ∧ resTP f l g t = ((f, l, colT l g t), 0) ∧ resCp f l g t = (cpsS l g t, 0) ∧ resTi f l g t = (true, 0) := by
 unfold resTP at h
 cases hc : codeT f l g t != 0
 ·have h0 : codeT f l g t = 0 := by simpa using hc
  rw [hc, cF] at h
  cases ht : decide (tilesP l g t)
  ·rw [ht] at h; exact absurd (show (5 : Int) = 0 from h) (by decide)
  ·refine ⟨h0, of_decide_eq_true ht, ?_, ?_, ?_⟩
   ·unfold resTP; rw [hc, ht]; rfl
   ·unfold resCp; rw [hc]; rfl
   ·unfold resTi; rw [hc, ht]; rfl
 ·rw [hc, cT] at h
  have h : codeT f l g t = 0 := h
  rw [h] at hc
  exact absurd hc (by decide)
theorem FnGroupTilings_pure (a0 : List Int) (h : WfA [(.list 5 (.int .u8))] (a0, ())) : ∃ K, f10G K a0 = some true := by
 refine ⟨KK, ?_⟩
 have hw : Wf (.list 5 (.int .u8)) a0 := h.1
 unfold f10G f10_g
 rw [big_eq, oB]
 by_cases hb : (a0.length : Int) > 4096
 ·rw [dT hb]; rfl
 ·rw [dF hb, cF]
  obtain ⟨t0, s0, e0⟩ := from_ok (code_ok hw) (by omega)
  obtain ⟨t1, f, l, g, q, e1, s1, hg, hq⟩ := dtil_ok s0
  obtain ⟨t2, v, e2, s2⟩ := cell_ok s1 l
  have eD : f56G KK a0 = some (f, l, g, q) := by
   unfold f56G
   rw [e0, oB, e1]
   rfl
  have eM : f63G KK a0 = some (f, l, g, q, v) := by
   unfold f63G
   rw [e0, oB, e1, oB]
   simp only
   rw [e2]
   rfl
  have hn : g.length ≤ 1048576 := by omega
  have hq2 : q.length ≤ 1048576 := by omega
  have r1 := resTP_len (f := f) (l := l) (g := g) (t := q)
  have r2 := resCp_len (f := f) (l := l) (g := g) (t := q)
  rw [eD, oB]
  simp only
  rw [implTP_eq f l hn hq2, oB, specTP_eq f l hn hq2, oB, implCp_eq f l hn hq2, oB, specCp_eq f l hn hq2, oB, implTiles_eq f l hn hq2, oB, specTiles_eq f l hn hq2, oB, eM, oB]
  simp only
  rw [implMC_eq f l hn hq2, oB, specMC_eq f l hn hq2, oB]
  simp only [bne_self_eq_false, Bool.not_false, Bool.not_true, Bool.or_true, cT, cF]
  rw [likePatterns_eq (by omega), oB]
  simp only [bne_self_eq_false, Bool.not_false, Bool.not_true, Bool.or_true, cT, cF]
  rw [likeOrbits_eq (by omega) (fun o ho => by have := r2.2 o ho; omega), oB]
  simp only [bne_self_eq_false, beq_self_eq_true, Bool.and_self, Bool.not_false, Bool.not_true, Bool.or_true, cT, cF]
  cases hm : (resMC f l g q v).2.2 == 0
  ·rw [cF]
   cases hs : (resTP f l g q).2 != 0
   ·obtain ⟨c1, c2, c3, c4, c5⟩ := tp_inv (by simpa using hs)
    rw [cF, c3, c4, c5]
    exact gt_2 c1 c2
   ·rfl
  ·obtain ⟨m, u, em, hT, hmg, hut, hmv⟩ := mc_inv (beq_iff_eq.1 hm)
   obtain ⟨a, e, r, e3, x1, x2, x3⟩ := app_two hT hmg hut
   rw [hmv] at x3
   rw [cT, em]
   simp only
   rw [x1, oB]
   simp only
   rw [x2, oB]
   simp only
   rw [x3]
   simp only [Bool.not_false, cT, cF]
   rw [hasVec_eq (by omega), List.contains_iff_mem.2 hut, oB]
   simp only [Bool.not_true, cF]
   cases hs : (resTP f l g q).2 != 0
   ·obtain ⟨c1, c2, c3, c4, c5⟩ := tp_inv (by simpa using hs)
    rw [cF, c3, c4, c5]
    exact gt_1 c1 c2
   ·rfl
end Go.Proofs.YtfccacobkcglcaaGreat.X
