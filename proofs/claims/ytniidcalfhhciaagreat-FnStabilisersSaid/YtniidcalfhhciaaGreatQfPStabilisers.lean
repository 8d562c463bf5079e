/- The plain law of FnStabilisers: orbit times stabiliser is the group; movers move; fixed cells are counted alike. -/
import Derived.Test.YtniidcalfhhciaaGreatQfMP
namespace Go.Proofs.YtniidcalfhhciaaGreat.X
open Go
set_option linter.unusedSimpArgs false
set_option linter.unusedVariables false
def resST (f : Int) (l : Lt) (g : List Mo) (v : Vc) : List Mo × Int := bif codeC f l g (cellB l v) != 0 then ([], codeC f l g (cellB l v)) else (stbS l g v, 0)
theorem implST_eq (f : Int) (l : Lt) {g : List Mo} (hn : g.length ≤ 1048576) (v : Vc) : f84G KK f l g v = some (resST f l g v) := by
  unfold f84G resST
  rw [cellCode_eq f l hn (by simp), Option.bind_some, show [v].all (cellB l) = cellB l v by simp]
  cases h : codeC f l g (cellB l v) != 0
  · have h0 : codeC f l g (cellB l v) = 0 := by simpa using h
    obtain ⟨hG, hv⟩ := codeC_0 h0
    rw [cond_false, cond_false, stabiliserOf_eq hG.la (by have := hG.len; omega) hG.good (cellB_Sv hG.la hv), Option.bind_some]
  · rfl
theorem specST_eq (f : Int) (l : Lt) {g : List Mo} (hn : g.length ≤ 1048576) (v : Vc) : f85G KK f l g v = some (resST f l g v) := by
  obtain ⟨b, hb, hc⟩ := codeC_cell l v
  unfold f85G f85_g resST
  rw [hb, Option.bind_some, specCode_eq f l hn, Option.bind_some, hc]
  cases h : codeC f l g (cellB l v) != 0
  · have h0 : codeC f l g (cellB l v) = 0 := by simpa using h
    obtain ⟨hG, hv⟩ := codeC_0 h0
    have hl := hG.la
    have hS := cellB_Sv hl hv
    have hlen := hG.len
    rw [cond_false, cond_false]
    have hh := iter_fold (X := Int × List Mo) (body := fun L x => f85_b5 KK f l g v (codeC f l g (cellB l v)) (fun v0 v1 => L (v0, v1)) x.1 x.2) g (fun q s => ((q : Int), s)) (fun s m => bif stabF l v m then s ++ [m] else s) (fun s => some (s, 0)) (fun q s => s.length ≤ q)
      (fun L q s hq hi => by
        refine ⟨?_, ?_⟩
        · cases stabF l v g[q] <;> simp <;> omega
        unfold f85_b5
        simp only
        rw [in1 hq, in0, gd hq, w_succ (by omega)]
        simp only [Bool.and_self, cond_true]
        rw [show f171G KK l ((g[q].1.1, g[q].1.2.1, g[q].1.2.2), g[q].2) v = some (mvS l g[q] v) from l07Move_gen hl (hG.good _ (List.getElem_mem hq)) hS, Option.bind_some, eqV2, blim48 (by simp; omega)]
        rw [show (mvS l g[q] v == v) = stabF l v g[q] from rfl]
        cases stabF l v g[q] <;> rfl)
      (fun L s hi => by
        unfold f85_b5
        simp only
        rw [out1, cond_false]) KK 0 [] (by omega) (by simp only [KK]; omega) (by simp)
    have e := foldl_filter (stabF l v) (fun m : Mo => m) g []
    rw [List.map_id', List.nil_append] at e
    rw [List.drop_zero, e] at hh
    unfold f85_l5
    exact hh
  · rfl
theorem resST_len {f : Int} {l : Lt} {g : List Mo} {v : Vc} : (resST f l g v).1.length ≤ 1000 := by
  unfold resST
  cases h : codeC f l g (cellB l v) != 0
  · have h0 : codeC f l g (cellB l v) = 0 := by simpa using h
    have := (codeC_0 h0).1.len
    rw [cond_false]
    have h2 : (stbS l g v).length ≤ g.length := List.length_filter_le _ _
    simp only
    omega
  · simp
/-! ### movers -/
def mvB (l : Lt) (u v : Vc) (m : Mo) : Bool := mvS l m u == v
def resMV (f : Int) (l : Lt) (g : List Mo) (u v : Vc) : Mo × Int :=
  bif codeC f l g (cellB l u && cellB l v) != 0 then (dMo, codeC f l g (cellB l u && cellB l v))
  else bif decide (idxS (mvB l u v) 0 g ≥ 0) then (g.getD (idxS (mvB l u v) 0 g).toNat dMo, 0) else (dMo, 4)
theorem implMV_eq (f : Int) (l : Lt) {g : List Mo} (hn : g.length ≤ 1048576) (u v : Vc) : f88G KK f l g u v = some (resMV f l g u v) := by
  unfold f88G resMV
  rw [cellCode_eq f l hn (by simp), Option.bind_some, show [u, v].all (cellB l) = (cellB l u && cellB l v) by simp]
  cases h : codeC f l g (cellB l u && cellB l v) != 0
  · have h0 : codeC f l g (cellB l u && cellB l v) = 0 := by simpa using h
    obtain ⟨hG, hv⟩ := codeC_0 h0
    rw [Bool.and_eq_true] at hv
    have hl := hG.la
    have hS := cellB_Sv hl hv.1
    have hlen := hG.len
    rw [cond_false, cond_false]
    have hidx : f206G KK g (fun z2 => f207G KK z2 l u v) = some (idxS (mvB l u v) 0 g) := by
      have hh := iter_idx (R := Int) (body := fun L x => f206_b3 KK g (fun z2 => f207G KK z2 l u v) (fun v0 => L v0) x) g (mvB l u v) some
        (fun L q hq => by
          unfold f206_b3 f207G
          rw [in1 hq, in0, gd hq]
          simp only [Bool.and_self, cond_true]
          rw [show f188G KK l ((g[q].1.1, g[q].1.2.1, g[q].1.2.2), g[q].2) u = some (mvS l g[q] u) from take_gen hl (hG.good _ (List.getElem_mem hq)) hS, Option.bind_some, eqV2, Option.bind_some, w_succ (by omega)]
          rfl)
        (fun L => by
          unfold f206_b3
          rw [out1, cond_false]) KK 0 (by omega) (by simp only [KK]; omega)
      unfold f206G f206_g f206_l3
      rw [List.drop_zero] at hh
      exact hh
    rw [hidx, Option.bind_some]
    rcases idxS_spec (mvB l u v) g 0 with ⟨e, _⟩ | ⟨q, hq, e, _, m, hm1, hm2⟩
    · rw [e]
      rfl
    · rw [Nat.zero_add] at e
      rw [e, show decide ((q : Int) ≥ 0) = true by simp, show decide ((q : Int) < 0) = false by simp, cond_false, cond_true, in1 hq, gd hq]
      have eq : (q : Int).toNat = q := by omega
      rw [eq, List.getD_eq_getElem?_getD, List.getElem?_eq_getElem hq]
      rfl
  · rfl
theorem cell_two (f : Int) (l : Lt) (g : List Mo) (u v : Vc) : ∃ b1 b2, f170G KK l u = some b1 ∧ f170G KK l v = some b2 ∧ codeC f l g (b1 && b2) = codeC f l g (cellB l u && cellB l v) := by
  obtain ⟨b1, h1, c1⟩ := codeC_cell l u
  obtain ⟨b2, h2, c2⟩ := codeC_cell l v
  refine ⟨b1, b2, h1, h2, ?_⟩
  cases hl : okL l
  · unfold codeC
    rw [hl]
    simp
  · have hL := okL_iff.1 hl
    rw [l07Cell_eq hL, Option.some.injEq] at h1 h2
    rw [h1, h2]
theorem specMV_eq (f : Int) (l : Lt) {g : List Mo} (hn : g.length ≤ 1048576) (u v : Vc) : f89G KK f l g u v = some (resMV f l g u v) := by
  obtain ⟨b1, b2, h1, h2, hc⟩ := cell_two f l g u v
  unfold f89G f89_g resMV
  have hb : (bif b1 then f170G KK l v else some false) = some (b1 && b2) := by cases b1 <;> simp [h2]
  have hb2 : (bif b1 then (b1 && b2) else false) = (b1 && b2) := by cases b1 <;> simp
  rw [h1, Option.bind_some, hb, Option.bind_some, hb2]
  simp only [Bool.or_true, cond_true]
  rw [specCode_eq f l hn, Option.bind_some, hc]
  cases h : codeC f l g (cellB l u && cellB l v) != 0
  · have h0 : codeC f l g (cellB l u && cellB l v) = 0 := by simpa using h
    obtain ⟨hG, hv⟩ := codeC_0 h0
    rw [Bool.and_eq_true] at hv
    have hl := hG.la
    have hS := cellB_Sv hl hv.1
    have hlen := hG.len
    rw [cond_false, cond_false]
    have hh := iter_idx (R := Mo × Int) (body := fun L x => f89_b6 KK f l g u v (codeC f l g (cellB l u && cellB l v)) (fun v0 => L v0) x) g (mvB l u v) (fun i => some (bif decide (i ≥ 0) then (g.getD i.toNat dMo, 0) else (dMo, 4)))
      (fun L q hq => by
        unfold f89_b6
        rw [in1 hq, in0, gd hq]
        simp only [Bool.and_self, cond_true]
        rw [show f171G KK l ((g[q].1.1, g[q].1.2.1, g[q].1.2.2), g[q].2) u = some (mvS l g[q] u) from l07Move_gen hl (hG.good _ (List.getElem_mem hq)) hS, Option.bind_some, eqV2, w_succ (by omega)]
        have eq : (q : Int).toNat = q := by omega
        rw [eq, List.getD_eq_getElem?_getD, List.getElem?_eq_getElem hq]
        rfl)
      (fun L => by
        unfold f89_b6
        rw [out1, cond_false]
        rfl) KK 0 (by omega) (by simp only [KK]; omega)
    rw [List.drop_zero] at hh
    unfold f89_l6
    exact hh
  · rfl
theorem mv_inv {f : Int} {l : Lt} {g : List Mo} {u v : Vc} (h : (resMV f l g u v).2 = 0) : ∃ m, resMV f l g u v = (m, 0) ∧ OrbG f l g ∧ okL l = true ∧ m ∈ g ∧ mvS l m u = v ∧ cellB l u = true := by
  unfold resMV at h ⊢
  cases hc : codeC f l g (cellB l u && cellB l v) != 0
  · have h0 : codeC f l g (cellB l u && cellB l v) = 0 := by simpa using hc
    obtain ⟨hG, hv⟩ := codeC_0 h0
    rw [Bool.and_eq_true] at hv
    rw [hc, cond_false] at h
    rcases idxS_spec (mvB l u v) g 0 with ⟨e, _⟩ | ⟨q, hq, e, _, m, hm1, hm2⟩
    · rw [e] at h
      have h : (4 : Int) = 0 := h
      omega
    · rw [Nat.zero_add] at e
      have eq : (q : Int).toNat = q := by omega
      rw [List.getElem?_eq_getElem hq, Option.some.injEq] at hm1
      refine ⟨m, ?_, hG, (codeC_parts h0).2.1, by rw [← hm1]; exact List.getElem_mem hq, by unfold mvB at hm2; simpa using hm2, hv.1⟩
      rw [e, show decide ((q : Int) ≥ 0) = true by simp, cond_false, cond_true, eq, List.getD_eq_getElem?_getD, List.getElem?_eq_getElem hq, hm1]
      rfl
  · rw [hc, cond_true] at h
    have h : codeC f l g (cellB l u && cellB l v) = 0 := h
    rw [h] at hc
    exact absurd hc (by decide)
/-! ### a motion carried out -/
noncomputable def motK (m : Mt) : Bool := (f287G KK m == some true) && (f288G KK m == some true)
theorem mot_all : (pmQ ++ pmH).all motK = true := by kernel_rfl
theorem move_ok {f : Int} {l : Lt} {g : List Mo} (hG : OrbG f l g) (hl : okL l = true) {m : Mo} (hm : m ∈ g) {u : Vc} (hu : cellB l u = true) : ∃ a, f45G KK m u = some (a, 0) ∧ f46G KK l a = some (mvS l m u, 0) := by
  have hL := hG.la
  obtain ⟨p1, p2⟩ := hG.pr.mem m hm
  have hmm := stab_mem p1
  have hk := List.all_eq_true.1 mot_all _ hmm
  unfold motK at hk
  rw [Bool.and_eq_true, beq_iff_eq, beq_iff_eq] at hk
  have hsm := pm_sm hmm
  have bu := cell_bounds hL hu
  have bt := cell_bounds hL p2
  have hb1 : (vecB (appS m u)) = true := by
    have ha := unit_mul hsm.a (B := 63) (x := u.1) (by omega) (by omega) (by omega)
    have hb := unit_mul hsm.b (B := 63) (x := u.2) (by omega) (by omega) (by omega)
    have hc := unit_mul hsm.c (B := 63) (x := u.1) (by omega) (by omega) (by omega)
    have hd := unit_mul hsm.d (B := 63) (x := u.2) (by omega) (by omega) (by omega)
    rw [vecB_iff]
    unfold appS mulS
    simp only
    omega
  refine ⟨appS m u, ?_, ?_⟩
  · unfold f45G f172G f173G
    rw [hk.1, Option.bind_some, hk.2]
    simp only [Bool.not_true, Bool.not_false, Bool.or_true, cond_true, Option.bind_some, isVec_eq, cellB_vec hL p2, cellB_vec hL hu, cond_false]
    rw [motApply_eq hsm (cellB_Sv hL hu) (cellB_Sv hL p2), Option.bind_some, hb1]
    rfl
  · unfold f46G f175G
    rw [isLattice_eq, hl]
    simp only [Bool.not_true, Bool.not_false, Bool.or_true, cond_true, Option.bind_some, isVec_eq, hb1, cond_false]
    rw [show ((0 : Int) != 0) = false by decide, cond_false, reduce_eq hL (vec_Sm hb1), Option.bind_some]
    rfl
/-! ### what the code draws -/
theorem vec_ok {c : List Int} {t : Int × Int} (h : Src c t) : ∃ t' v, f349G KK (c, t) = some (t', v) ∧ Src c t' := by
  unfold f349G
  obtain ⟨t1, r1, e1, h1, _⟩ := next_ok h 40
  rw [e1, Option.bind_some]
  simp only
  cases r1 == 0
  · rw [cond_false]
    obtain ⟨t2, r2, e2, h2, _⟩ := pick_ok h1 (l := [(4 : Int), 9, 30]) (by simp)
    rw [e2, Option.bind_some]
    simp only
    obtain ⟨t3, r3, e3, h3, _⟩ := next_ok h2 (w (w (2 * r2) + 1))
    rw [e3, Option.bind_some]
    simp only
    obtain ⟨t4, r4, e4, h4, _⟩ := next_ok h3 (w (w (2 * r2) + 1))
    rw [e4]
    exact ⟨_, _, rfl, h4⟩
  · rw [cond_true]
    obtain ⟨t2, r2, e2, h2, _⟩ := pick_ok h1 (l := [(-1000 : Int), 1000, 1001, 0]) (by simp)
    rw [e2, Option.bind_some]
    simp only
    obtain ⟨t3, r3, e3, h3, _⟩ := pick_ok h2 (l := [(-1001 : Int), 1000, 0]) (by simp)
    rw [e3]
    exact ⟨_, _, rfl, h3⟩
theorem mat_ok {c : List Int} {t : Int × Int} (h : Src c t) {f : Int} (h1 : 0 ≤ f) (h2 : f ≤ 1) : ∃ t' m, f355G KK (c, t) f = some (t', m) ∧ Src c t' := by
  unfold f355G
  have hpos : 0 < (pmS f).length := List.length_pos_of_mem (pmS_one f)
  have hf : okF f = true := by simp [okF]; omega
  rw [specIsFrame_eq, hf, Option.bind_some, Bool.not_true, cond_false, l04Mats_eq h1 h2, Option.bind_some]
  obtain ⟨t1, r1, e1, s1, a1, b1⟩ := next_pos h (n := ((pmS f).length : Int)) (by omega)
  obtain ⟨k, rfl⟩ : ∃ k : Nat, r1 = (k : Int) := ⟨r1.toNat, by omega⟩
  have hk : k < (pmS f).length := by omega
  rw [e1, Option.bind_some]
  simp only
  rw [in0, in1 hk]
  exact ⟨t1, _, rfl, s1⟩
theorem fin_loop {c : List Int} {t0 : Int × Int} : ∀ (n k : Nat) (t : Int × Int) (a b d e : Int), Src c t → k < n → k ≤ 1000 → ∃ t' m, f357_l10 KK (c, t0) n (k : Int) t.1 t.2 a b d e = some (t', m) ∧ Src c t'
  | 0, k, _, _, _, _, _, _, h, _ => by omega
  | n + 1, k, t, a, b, d, e, h, hk, hk2 => by
    show ∃ t' m, f357_b10 KK (c, t0) (fun v0 v1 v2 v3 v4 v5 v6 => f357_l10 KK (c, t0) n v0 v1 v2 v3 v4 v5 v6) (k : Int) t.1 t.2 a b d e = some (t', m) ∧ Src c t'
    unfold f357_b10
    have et : ((t.1, t.2) : Int × Int) = t := rfl
    cases k with
    | zero =>
      rw [decide_eq_false (show ¬ ((0 : Nat) : Int) > 0 by omega)]
      exact ⟨t, _, rfl, h⟩
    | succ k =>
      have ek : ((k + 1 : Nat) : Int) - 1 = (k : Int) := by omega
      rw [decide_eq_true (show ((k + 1 : Nat) : Int) > 0 by omega), cond_true, et, w_id (n := ((k + 1 : Nat) : Int) - 1) (by omega) (by omega), ek]
      obtain ⟨t1, r1, e1, h1, _⟩ := next_ok h 5
      rw [e1, Option.bind_some]
      simp only
      obtain ⟨t2, r2, e2, h2, _⟩ := next_ok h1 2
      rw [e2, Option.bind_some]
      simp only
      cases r2 == 0
      · rw [cond_false]
        exact fin_loop n k t2 _ _ _ _ h2 (by omega) (by omega)
      · rw [cond_true]
        obtain ⟨t3, r3, e3, h3, _⟩ := next_ok h2 5
        rw [e3, Option.bind_some]
        exact fin_loop n k t3 _ _ _ _ h3 (by omega) (by omega)
theorem fin_ok {c : List Int} {t : Int × Int} (h : Src c t) : ∃ t' m, f357G KK (c, t) = some (t', m) ∧ Src c t' := by
  unfold f357G f357_g
  obtain ⟨t1, r1, e1, h1, a1, b1⟩ := next_pos h (n := 8) (by omega)
  obtain ⟨k, rfl⟩ : ∃ k : Nat, r1 = (k : Int) := ⟨r1.toNat, by omega⟩
  rw [e1, Option.bind_some]
  simp only
  obtain ⟨t2, r2, e2, h2, a2, b2⟩ := next_pos h1 (n := 3) (by omega)
  obtain ⟨j, rfl⟩ : ∃ j : Nat, r2 = (j : Int) := ⟨r2.toNat, by omega⟩
  obtain ⟨L, hL⟩ : ∃ L : List Mt, L = [((1 : Int), (0 : Int), (0 : Int), (1 : Int)), ((-1 : Int), (0 : Int), (0 : Int), (-1 : Int)), ((0 : Int), (-1 : Int), (1 : Int), (0 : Int)), ((0 : Int), (-1 : Int), (1 : Int), (1 : Int)), ((-1 : Int), (-1 : Int), (1 : Int), (0 : Int)), ((1 : Int), (0 : Int), (0 : Int), (-1 : Int)), ((0 : Int), (1 : Int), (1 : Int), (0 : Int)), ((1 : Int), (1 : Int), (0 : Int), (-1 : Int))] := ⟨_, rfl⟩
  have h8 : L.length = 8 := by rw [hL]; rfl
  rw [← hL, in0, in1 (show k < L.length by omega), Bool.and_self, cond_true, e2, Option.bind_some]
  exact fin_loop KK j t2 _ _ _ _ h2 (by simp only [KK]; omega) (by omega)
theorem dm_loop {c : List Int} {t0 : Int × Int} {y1 : (Int × Int) × Int} : ∀ (n k : Nat) (t : Int × Int) (a b d e : Int), Src c t → k < n → k ≤ 1000 → ∃ t' m, f356_l8 KK (c, t0) y1 n (k : Int) t.1 t.2 a b d e = some (t', m) ∧ Src c t'
  | 0, k, _, _, _, _, _, _, h, _ => by omega
  | n + 1, k, t, a, b, d, e, h, hk, hk2 => by
    show ∃ t' m, f356_b8 KK (c, t0) y1 (fun v0 v1 v2 v3 v4 v5 v6 => f356_l8 KK (c, t0) y1 n v0 v1 v2 v3 v4 v5 v6) (k : Int) t.1 t.2 a b d e = some (t', m) ∧ Src c t'
    unfold f356_b8
    have et : ((t.1, t.2) : Int × Int) = t := rfl
    cases k with
    | zero =>
      rw [decide_eq_false (show ¬ ((0 : Nat) : Int) > 0 by omega), cond_false, et]
      obtain ⟨t1, r1, e1, h1, _⟩ := next_ok h 20
      rw [e1, Option.bind_some]
      simp only
      cases r1 == 0
      · rw [cond_false]
        cases r1 == 1
        · exact ⟨t1, _, rfl, h1⟩
        · obtain ⟨t2, r2, e2, h2, _⟩ := pick_ok h1 (l := [(999 : Int), 1000, 1001]) (by simp)
          rw [cond_true, e2]
          exact ⟨t2, _, rfl, h2⟩
      · exact ⟨t1, _, rfl, h1⟩
    | succ k =>
      have ek : ((k + 1 : Nat) : Int) - 1 = (k : Int) := by omega
      rw [decide_eq_true (show ((k + 1 : Nat) : Int) > 0 by omega), cond_true, et, w_id (n := ((k + 1 : Nat) : Int) - 1) (by omega) (by omega), ek]
      obtain ⟨t1, r1, e1, h1, a1, b1⟩ := next_pos h (n := 5) (by omega)
      obtain ⟨j, rfl⟩ : ∃ j : Nat, r1 = (j : Int) := ⟨r1.toNat, by omega⟩
      rw [e1, Option.bind_some]
      simp only
      obtain ⟨L, hL⟩ : ∃ L : List Mt, L = [((1 : Int), (1 : Int), (0 : Int), (1 : Int)), ((1 : Int), (0 : Int), (1 : Int), (1 : Int)), ((1 : Int), (-2 : Int), (0 : Int), (1 : Int)), ((0 : Int), (1 : Int), (1 : Int), (0 : Int)), ((-1 : Int), (0 : Int), (0 : Int), (1 : Int))] := ⟨_, rfl⟩
      have h5 : L.length = 5 := by rw [hL]; rfl
      rw [← hL, in0, in1 (show j < L.length by omega), Bool.and_self, cond_true]
      exact dm_loop n k t1 _ _ _ _ h1 (by omega) (by omega)
theorem dm_ok {c : List Int} {t : Int × Int} (h : Src c t) : ∃ t' m, f356G KK (c, t) = some (t', m) ∧ Src c t' := by
  unfold f356G f356_g
  obtain ⟨t1, r1, e1, h1, _⟩ := next_ok h 3
  rw [e1, Option.bind_some]
  simp only
  cases decide (r1 > 0)
  · rw [cond_false, show f218G KK = some (1, 0, 0, 1) from rfl, Option.bind_some]
    obtain ⟨t2, r2, e2, h2, a2, b2⟩ := next_pos h1 (n := 5) (by omega)
    obtain ⟨j, rfl⟩ : ∃ j : Nat, r2 = (j : Int) := ⟨r2.toNat, by omega⟩
    rw [e2, Option.bind_some]
    exact dm_loop KK j t2 _ _ _ _ h2 (by simp only [KK]; omega) (by omega)
  · obtain ⟨t2, m, e2, h2⟩ := fin_ok h1
    rw [cond_true, e2]
    exact ⟨t2, m, rfl, h2⟩
theorem mot_tail {c : List Int} {t : Int × Int} (h : Src c t) (m : Mt) : ∃ t' r, ((f140G KK (c, t) 5).bind fun y5 => (bif (y5.2 == (0 : Int)) then some (y5.1, m, (0 : Int), (0 : Int)) else (f349G KK (c, y5.1)).bind fun y6 => some (y6.1, m, y6.2)) : Option ((Int × Int) × Mo)) = some (t', r) ∧ Src c t' := by
  obtain ⟨t1, r1, e1, h1, _⟩ := next_ok h 5
  rw [e1, Option.bind_some]
  simp only
  cases r1 == 0
  · obtain ⟨t2, v, e2, h2⟩ := vec_ok h1
    rw [cond_false, e2]
    exact ⟨t2, _, rfl, h2⟩
  · exact ⟨t1, _, rfl, h1⟩
theorem mo_ok {c : List Int} {t : Int × Int} (h : Src c t) : ∃ t' m, f301G KK (c, t) = some (t', m) ∧ Src c t' := by
  unfold f301G
  obtain ⟨t1, r1, e1, h1, a1, b1⟩ := next_pos h (n := 2) (by omega)
  rw [e1, Option.bind_some]
  simp only
  obtain ⟨t2, m, e2, h2⟩ := mat_ok h1 (f := r1) a1 (by omega)
  rw [e2, Option.bind_some]
  simp only
  obtain ⟨t3, r3, e3, h3, _⟩ := next_ok h2 12
  rw [e3, Option.bind_some]
  simp only
  cases r3 == 0
  · rw [cond_false]
    cases r3 == 1
    · rw [cond_false]
      cases r3 == 2
      · exact mot_tail h3 m
      · obtain ⟨t4, m2, e4, h4⟩ := fin_ok h3
        rw [cond_true, e4, Option.bind_some]
        exact mot_tail h4 m2
    · rw [cond_true, show f218G KK = some (1, 0, 0, 1) from rfl, Option.bind_some]
      exact mot_tail h3 _
  · obtain ⟨t4, m2, e4, h4⟩ := dm_ok h3
    rw [cond_true, e4, Option.bind_some]
    exact mot_tail h4 m2
theorem motion_any {c : List Int} {t : Int × Int} (h : Src c t) (f : Int) (l : Lt) : ∃ t' m, f291G KK (c, t) f l = some (t', m) ∧ Src c t' := by
  cases hc : okF f && okL l
  · unfold f291G f218G
    rw [l04Code_eq, hc, Option.bind_some, Option.bind_some]
    have e : ((if (false : Bool) = true then (0 : Int) else 1) == 0) = false := by decide
    rw [e, cond_false]
    obtain ⟨t1, r1, e1, h1, _⟩ := next_ok h 9
    rw [e1, Option.bind_some]
    simp only
    obtain ⟨t2, r2, e2, h2, _⟩ := next_ok h1 9
    rw [e2]
    exact ⟨t2, _, rfl, h2⟩
  · rw [Bool.and_eq_true] at hc
    obtain ⟨t', m, e, h1, _⟩ := motion_ok h hc.1 (okL_iff.1 hc.2)
    exact ⟨t', m, e, h1⟩
theorem suit_draw {c : List Int} {t : Int × Int} (e0 : f124G KK c = some t) (h : Src c t) : ∃ f l m, f90G KK c = some (f, l, m) := by
  unfold f90G f208G
  rw [e0, Option.bind_some]
  obtain ⟨t1, f, l, e1, h1⟩ := dlat_ok h
  rw [e1, Option.bind_some]
  simp only
  obtain ⟨t2, r2, e2, h2, _⟩ := next_ok h1 4
  rw [e2, Option.bind_some]
  simp only
  cases r2 == 0
  · obtain ⟨t3, m, e3, h3⟩ := motion_any h2 f l
    rw [cond_false, e3]
    exact ⟨f, l, m, rfl⟩
  · obtain ⟨t3, m, e3, h3⟩ := mo_ok h2
    rw [cond_true, e3]
    exact ⟨f, l, m, rfl⟩
theorem mover_draw {c : List Int} {t : Int × Int} (e0 : f124G KK c = some t) (h : Src c t) : ∃ f l g u v, f87G KK c = some (f, l, g, u, v) ∧ g.length ≤ 2000 := by
  unfold f87G
  rw [e0, Option.bind_some]
  obtain ⟨t1, f, l, g, e1, h1, hg⟩ := draw_ok h
  rw [e1, Option.bind_some]
  simp only
  obtain ⟨t2, u, e2, h2⟩ := cell_ok h1 l
  rw [e2, Option.bind_some]
  simp only
  obtain ⟨t3, r3, e3, h3, _⟩ := next_ok h2 2
  rw [e3, Option.bind_some]
  simp only [Bool.or_true, cond_true]
  have fin : ∃ f' l' g' u' v', ((f167G KK (c, t3) l).bind fun y9 => some (f, l, g, u, y9.2)) = some (f', l', g', u', v') ∧ g'.length ≤ 2000 := by
    obtain ⟨t4, v, e4, h4⟩ := cell_ok h3 l
    rw [e4]
    exact ⟨f, l, g, u, v, rfl, hg⟩
  cases hr : r3 == 0
  · simp only [cond_false, Option.bind_some]
    exact fin
  · simp only [cond_true]
    rw [specIsGroup_eq f l (by omega), Option.bind_some]
    cases hG : okF f && okL l && grpB f l g
    · simp only [cond_false, Option.bind_some]
      exact fin
    · simp only [Bool.and_eq_true] at hG
      have hc : codeC f l g true = 0 := by
        unfold codeC
        rw [hG.1.1, hG.1.2, hG.2]
        rfl
      have hO := (codeC_0 hc).1
      simp only [cond_true]
      rw [l07Cell_eq hO.la, Option.bind_some]
      cases hu : cellB l u
      · simp only [cond_false]
        exact fin
      · simp only [cond_true]
        have hpos : 0 < g.length := List.length_pos_of_mem hO.one
        obtain ⟨t4, r4, e4, h4, a4, b4⟩ := next_pos h3 (n := (g.length : Int)) (by omega)
        obtain ⟨k, rfl⟩ : ∃ k : Nat, r4 = (k : Int) := ⟨r4.toNat, by omega⟩
        have hk : k < g.length := by omega
        rw [e4, Option.bind_some]
        simp only
        rw [in0, in1 hk, gd hk]
        simp only [Bool.and_self, cond_true]
        rw [show f171G KK l ((g[k].1.1, g[k].1.2.1, g[k].1.2.2), g[k].2) u = some (mvS l g[k] u) from l07Move_gen hO.la (hO.good _ (List.getElem_mem hk)) (cellB_Sv hO.la hu)]
        exact ⟨f, l, g, u, _, rfl, hg⟩
theorem FnStabilisers_pure (a0 : List Int) (h : WfA [(.list 5 (.int .u8))] (a0, ())) : ∃ K, f10G K a0 = some true := by
  refine ⟨KK, ?_⟩
  have hw : Wf (.list 5 (.int .u8)) a0 := h.1
  unfold f10G
  rw [big_eq, Option.bind_some]
  by_cases hb : (a0.length : Int) > 4096
  · rw [decide_eq_true hb]; rfl
  · rw [decide_eq_false hb, cond_false]
    obtain ⟨t0, s0, e0⟩ := from_ok (code_ok hw) (by omega)
    obtain ⟨t1, f, l, g, e1, s1, hg⟩ := draw_ok s0
    obtain ⟨t2, v, e2, s2⟩ := cell_ok s1 l
    have eD : f83G KK a0 = some (f, l, g, v) := by
      unfold f83G f191G
      rw [e0, Option.bind_some, e1, Option.bind_some]
      simp only
      rw [e2]
      rfl
    obtain ⟨f2, l2, g2, x, y, eM, hg2⟩ := mover_draw e0 s0
    obtain ⟨f3, l3, z, eF⟩ := suit_draw e0 s0
    have hn : g.length ≤ 1048576 := by omega
    have hn2 : g2.length ≤ 1048576 := by omega
    have r1 := resST_len (f := f) (l := l) (g := g) (v := v)
    have r2 := resOrb_len (f := f) (l := l) (g := g) (v := v)
    rw [eD, Option.bind_some]
    simp only
    rw [implST_eq f l hn, Option.bind_some, specST_eq f l hn, Option.bind_some, implOrb_eq f l hn, Option.bind_some, specOrb_eq f l hn, Option.bind_some, eM, Option.bind_some]
    simp only
    rw [implMV_eq f2 l2 hn2, Option.bind_some, specMV_eq f2 l2 hn2, Option.bind_some, eF, Option.bind_some]
    simp only
    rw [implCF_eq, Option.bind_some, specCF_eq, Option.bind_some]
    simp only [bne_self_eq_false, Bool.not_false, Bool.not_true, Bool.or_true, cond_true, cond_false]
    rw [likeMotions_eq (by omega), Option.bind_some]
    simp only [bne_self_eq_false, Bool.not_false, Bool.not_true, Bool.or_true, cond_true, cond_false]
    rw [likeVecs_eq (by omega), Option.bind_some]
    simp only [bne_self_eq_false, beq_self_eq_true, Bool.and_self, Bool.not_false, Bool.not_true, Bool.or_true, cond_true, cond_false]
    have fin1 : (resST f l g v).2 = 0 → (resOrb f l g v).2 = 0 ∧ w (((resOrb f l g v).1.length : Int) * ((resST f l g v).1.length : Int)) = (g.length : Int) ∧ (resOrb f l g v).1.contains v = true := by
      intro h0
      unfold resST at h0
      unfold resST resOrb
      cases hc : codeC f l g (cellB l v) != 0
      · have hc0 : codeC f l g (cellB l v) = 0 := by simpa using hc
        obtain ⟨hO, hv⟩ := codeC_0 hc0
        simp only [cond_false]
        refine ⟨trivial, ?_, List.contains_iff_mem.2 (orb_self hO hv)⟩
        rw [← Int.natCast_mul, orb_stb hO hv]
        have := hO.len
        exact w_id (by omega) (by omega)
      · rw [hc, cond_true] at h0
        have h0 : codeC f l g (cellB l v) = 0 := h0
        rw [h0] at hc
        exact absurd hc (by decide)
    have fin : ((bif (!((resST f l g v).2 != 0) && bif (resOrb f l g v).2 == 0 then (w (((resOrb f l g v).1.length : Int) * ((resST f l g v).1.length : Int)) == (g.length : Int)) else false) then f47G KK (resOrb f l g v).1 v else some false).bind fun y17 => some (bif (resST f l g v).2 != 0 then true else bif (bif (resOrb f l g v).2 == 0 then (w (((resOrb f l g v).1.length : Int) * ((resST f l g v).1.length : Int)) == (g.length : Int)) else false) then y17 else false)) = some true := by
      cases hs : (resST f l g v).2 != 0
      · obtain ⟨o1, o2, o3⟩ := fin1 (by simpa using hs)
        rw [o1, o2]
        simp only [beq_self_eq_true, Bool.not_false, Bool.and_self, cond_true, cond_false]
        rw [hasVec_eq (by omega), Option.bind_some, o3]
      · rfl
    cases hm : (resMV f2 l2 g2 x y).2 == 0
    · rw [cond_false]
      exact fin
    · obtain ⟨m, em, hG, hl, hmg, hmv, hu⟩ := mv_inv (beq_iff_eq.1 hm)
      obtain ⟨a, ea, er⟩ := move_ok hG hl hmg hu
      rw [cond_true, em]
      simp only
      rw [ea, Option.bind_some]
      simp only
      rw [er, Option.bind_some, hmv]
      simp only [bne_self_eq_false, beq_self_eq_true, Bool.and_self, Bool.not_true, cond_false]
      exact fin
end Go.Proofs.YtniidcalfhhciaaGreat.X
