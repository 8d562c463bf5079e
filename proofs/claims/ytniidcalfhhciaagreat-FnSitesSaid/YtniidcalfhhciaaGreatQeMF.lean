/- Plain facts: tiles, copies of tiles, and whether they tile. -/
import Derived.Test.YtniidcalfhhciaaGreatQeME
namespace Go.Proofs.YtniidcalfhhciaaGreat.X
open Go
set_option linter.unusedSimpArgs false
set_option linter.unusedVariables false
def tileP (t : List Vc) (q : Nat) (v : Vc) : Bool := vecB v && (Nat.beq q 0 || ltV (t.getD (q - 1) (0, 0)) v)
def tileB (t : List Vc) : Bool := allFrom (tileP t) 0 t && (decide (1 ≤ t.length) && decide (t.length ≤ 16))
theorem getV {g : List Vc} {q : Nat} (hq : q + 1 < 4611686018427387904) (d : Vc) : g.getD ((0 : Int) + (w ((((q + 1 : Nat)) : Int) - (1 : Int)))).toNat d = g.getD q d := by
  rw [w_id (by omega) (by omega)]
  congr 1
  omega
theorem inV {g : List Vc} {q : Nat} (hq : q + 1 < g.length) (h2 : q + 1 < 4611686018427387904) : (decide (0 ≤ (w (((q + 1 : Nat) : Int) - (1 : Int)))) && decide ((w (((q + 1 : Nat) : Int) - (1 : Int))) < (g.length : Int))) = true := by
  rw [w_id (by omega) (by omega), Bool.and_eq_true, decide_eq_true_eq, decide_eq_true_eq]
  omega
theorem int_ge1 (n : Nat) : decide ((n : Int) ≥ 1) = decide (1 ≤ n) := by
  by_cases h : 1 ≤ n <;> simp <;> omega
theorem int_le16 (n : Nat) : decide ((n : Int) ≤ 16) = decide (n ≤ 16) := by
  by_cases h : n ≤ 16 <;> simp <;> omega
theorem tile_of {t : List Vc} (h : tileB t = true) : (∀ v ∈ t, vecB v = true) ∧ 1 ≤ t.length ∧ t.length ≤ 16 := by
  unfold tileB at h
  rw [Bool.and_eq_true, Bool.and_eq_true, decide_eq_true_eq, decide_eq_true_eq] at h
  refine ⟨fun v hv => ?_, h.2⟩
  obtain ⟨i, hi, rfl⟩ := List.getElem_of_mem hv
  have := allFrom_get h.1 i hi
  unfold tileP at this
  rw [Bool.and_eq_true] at this
  exact this.1
def codeT (f : Int) (l : Lt) (g : List Mo) (t : List Vc) : Int := if okF f && okL l && tileB t then (if grpB f l g then 0 else 2) else 1
/-- what code 0 says -/
structure TileG (f : Int) (l : Lt) (g : List Mo) (t : List Vc) : Prop where
  fr : okF f = true
  la : IsL l
  pr : Pre f l g
  vec : ∀ v ∈ t, vecB v = true
  t1 : 1 ≤ t.length
  t2 : t.length ≤ 16
theorem codeT_0 {f : Int} {l : Lt} {g : List Mo} {t : List Vc} (h : codeT f l g t = 0) : TileG f l g t := by
  unfold codeT at h
  split at h
  · rename_i hc
    rw [Bool.and_eq_true, Bool.and_eq_true] at hc
    split at h
    · rename_i hg
      unfold grpB at hg
      rw [Bool.and_eq_true] at hg
      obtain ⟨h1, h2, h3⟩ := tile_of hc.2
      exact ⟨hc.1.1, okL_iff.1 hc.1.2, pre_of hg.1, h1, h2, h3⟩
    · cases h
  · cases h
theorem vecB_Sv {v : Vc} (h : vecB v = true) : Sv v := by
  rw [vecB_iff] at h
  simp only [Sv]; omega
def mvS (l : Lt) (m : Mo) (v : Vc) : Vc := redS l (appS m v)
theorem l07Move_gen {l : Lt} (hl : IsL l) {m : Mo} (hm : GoodG m) {v : Vc} (hv : Sv v) : f171G KK l m v = some (mvS l m v) := by
  unfold f171G
  rw [l05Apply_eq (pm_sm hm.1) hv hm.2, Option.bind_some, l03Reduce_eq hl (appS_Sm (pm_sm hm.1) hv hm.2)]
  rfl
theorem take_gen {l : Lt} (hl : IsL l) {m : Mo} (hm : GoodG m) {v : Vc} (hv : Sv v) : f188G KK l m v = some (mvS l m v) := by
  unfold f188G
  rw [motApply_eq (pm_sm hm.1) hv hm.2, Option.bind_some, reduce_eq hl (appS_Sm (pm_sm hm.1) hv hm.2)]
  rfl
def cpsS (l : Lt) (g : List Mo) (t : List Vc) : List (List Vc) := g.map fun m => t.map (mvS l m)
theorem blim24 {n : Nat} (h : n ≤ 1000000) : Nat.ble n (lim 24) = true := by
  simp only [lim, Nat.ble_eq]; omega
end Go.Proofs.YtniidcalfhhciaaGreat.X
/-! Plain facts: whether copies tile, by the owners of cells and by the set of cells. -/
namespace Go.Proofs.YtniidcalfhhciaaGreat.X
open Go
set_option linter.unusedVariables false
/-! ### owners -/
def putR (i : Int) : List Nat → List Int → Option (List Int)
  | [], o => some o
  | n :: r, o => bif decide (o.getD n 0 ≥ 0) then none else putR i r (o.set n i)
def putA : List (List Nat) → Nat → List Int → Option (List Int)
  | [], _, o => some o
  | c :: r, i, o => match putR (i : Int) c o with | some o' => putA r (i + 1) o' | none => none
theorem putR_spec {i : Int} (hi : 0 ≤ i) : ∀ (c : List Nat) (o : List Int), (∀ n ∈ c, n < o.length) →
    (∀ o', putR i c o = some o' → c.Nodup ∧ (∀ n ∈ c, o.getD n 0 < 0) ∧ o'.length = o.length ∧ ∀ k, o'.getD k 0 = if k ∈ c then i else o.getD k 0) ∧ (c.Nodup → (∀ n ∈ c, o.getD n 0 < 0) → ∃ o', putR i c o = some o')
  | [], o, _ => ⟨fun o' h => by cases h; exact ⟨List.nodup_nil, by simp, rfl, by simp⟩, fun _ _ => ⟨o, rfl⟩⟩
  | n :: r, o, hlt => by
    have hn := hlt n (by simp)
    have ih := putR_spec hi r (o.set n i) fun m hm => by rw [List.length_set]; exact hlt m (by simp [hm])
    have hget : ∀ k, (o.set n i).getD k 0 = if k = n then i else o.getD k 0 := fun k => by
      simp only [List.getD, List.getElem?_set]
      by_cases h : n = k
      · subst h; simp [hn]
      · simp [h, Ne.symm h]
    refine ⟨fun o' h => ?_, fun hnd hneg => ?_⟩
    · simp only [putR] at h
      by_cases h0 : o.getD n 0 ≥ 0
      · rw [decide_eq_true h0] at h; cases h
      · rw [decide_eq_false h0, cond_false] at h
        obtain ⟨h1, h2, h3, h4⟩ := ih.1 o' h
        have hnr : n ∉ r := fun hm => by
          have := h2 n hm
          rw [hget, if_pos rfl] at this
          omega
        refine ⟨List.nodup_cons.2 ⟨hnr, h1⟩, fun m hm => ?_, by rw [h3, List.length_set], fun k => ?_⟩
        · rcases List.mem_cons.1 hm with rfl | hm
          · omega
          · have := h2 m hm
            rw [hget] at this
            split at this
            · rename_i e; exact absurd (e ▸ hm) hnr
            · exact this
        · rw [h4, hget]
          by_cases h5 : k ∈ r
          · simp [h5]
          · by_cases h6 : k = n
            · simp [h6]
            · simp [h5, h6]
    · rw [List.nodup_cons] at hnd
      have h0 := hneg n (by simp)
      simp only [putR]
      rw [decide_eq_false (by omega), cond_false]
      refine ih.2 hnd.2 fun m hm => ?_
      rw [hget, if_neg (fun (e : m = n) => hnd.1 (e ▸ hm))]
      exact hneg m (by simp [hm])
/-- the first copy that has a cell -/
def ownS : List (List Nat) → Nat → Nat → Option Nat
  | [], _, _ => none
  | c :: r, i, k => if k ∈ c then some i else ownS r (i + 1) k
theorem putA_spec : ∀ (C : List (List Nat)) (i : Nat) (o : List Int), (∀ c ∈ C, ∀ n ∈ c, n < o.length) →
    (∀ o', putA C i o = some o' → C.flatten.Nodup ∧ (∀ n ∈ C.flatten, o.getD n 0 < 0) ∧ o'.length = o.length ∧ ∀ k, o'.getD k 0 = match ownS C i k with | some j => (j : Int) | none => o.getD k 0) ∧ (C.flatten.Nodup → (∀ n ∈ C.flatten, o.getD n 0 < 0) → ∃ o', putA C i o = some o')
  | [], i, o, _ => ⟨fun o' h => by cases h; exact ⟨List.nodup_nil, by simp, rfl, by simp [ownS]⟩, fun _ _ => ⟨o, rfl⟩⟩
  | c :: r, i, o, hlt => by
    have h1 := putR_spec (i := (i : Int)) (by omega) c o (hlt c (by simp))
    refine ⟨fun o' h => ?_, fun hnd hneg => ?_⟩
    · simp only [putA] at h
      split at h
      · rename_i o1 ho1
        obtain ⟨a1, a2, a3, a4⟩ := h1.1 o1 ho1
        have ih := putA_spec r (i + 1) o1 fun c' hc' n hn => by rw [a3]; exact hlt c' (by simp [hc']) n hn
        obtain ⟨b1, b2, b3, b4⟩ := ih.1 o' h
        have hdis : ∀ n ∈ c, n ∉ r.flatten := fun n hn hm => by
          have := b2 n hm
          rw [a4, if_pos hn] at this
          omega
        refine ⟨?_, fun n hn => ?_, b3.trans a3, fun k => ?_⟩
        · rw [List.flatten_cons, List.nodup_append]
          exact ⟨a1, b1, fun x hx y hy e => hdis x hx (e ▸ hy)⟩
        · rw [List.flatten_cons, List.mem_append] at hn
          rcases hn with hn | hn
          · exact a2 n hn
          · have := b2 n hn
            rw [a4] at this
            split at this
            · omega
            · exact this
        · rw [b4]
          simp only [ownS]
          by_cases hk : k ∈ c
          · rw [if_pos hk]
            have hno : ownS r (i + 1) k = none := by
              have : ∀ (C : List (List Nat)) (i : Nat), k ∉ C.flatten → ownS C i k = none := by
                intro C
                induction C with
                | nil => intro i _; rfl
                | cons d D ihD =>
                  intro i hh
                  rw [List.flatten_cons, List.mem_append] at hh
                  simp only [ownS]
                  rw [if_neg (fun h => hh (.inl h)), ihD _ (fun h => hh (.inr h))]
              exact this r (i + 1) (hdis k hk)
            rw [hno]
            simp only
            rw [a4, if_pos hk]
          · rw [if_neg hk]
            cases ownS r (i + 1) k with
            | some j => rfl
            | none => simp only; rw [a4, if_neg hk]
      · cases h
    · rw [List.flatten_cons, List.nodup_append] at hnd
      obtain ⟨n1, n2, n3⟩ := hnd
      obtain ⟨o1, ho1⟩ := h1.2 n1 fun n hn => hneg n (by simp [hn])
      obtain ⟨a1, a2, a3, a4⟩ := h1.1 o1 ho1
      have ih := putA_spec r (i + 1) o1 fun c' hc' n hn => by rw [a3]; exact hlt c' (by simp [hc']) n hn
      simp only [putA, ho1]
      refine ih.2 n2 fun n hn => ?_
      rw [a4, if_neg (fun h => n3 n h n hn rfl)]
      exact hneg n (by rw [List.flatten_cons]; exact List.mem_append_right _ hn)
theorem ownS_some : ∀ {C : List (List Nat)} {i k : Nat}, k ∈ C.flatten → ∃ j, ownS C i k = some (i + j) ∧ ∃ (h : j < C.length), k ∈ C[j]
  | [], _, _, h => by simp at h
  | c :: r, i, k, h => by
    simp only [ownS]
    by_cases hk : k ∈ c
    · exact ⟨0, by simp [hk], by simp, by simpa using hk⟩
    · rw [if_neg hk]
      rw [List.flatten_cons, List.mem_append] at h
      obtain ⟨j, h1, h2, h3⟩ := ownS_some (i := i + 1) (h.resolve_left hk)
      exact ⟨j + 1, by rw [h1]; congr 1; omega, by simp; omega, by simpa using h3⟩
/-! ### the set of cells -/
theorem nodup_of_len {α : Type} [DecidableEq α] : ∀ (l m : List α), m.Nodup → (∀ x ∈ m, x ∈ l) → (∀ x ∈ l, x ∈ m) → l.length ≤ m.length → l.Nodup
  | [], _, _, _, _, _ => List.nodup_nil
  | a :: r, m, hm, h1, h2, h3 => by
    have ha : a ∉ r := fun har => by
      have := nodup_len m r hm fun x hx => by
        rcases List.mem_cons.1 (h1 x hx) with rfl | h
        · exact har
        · exact h
      simp only [List.length_cons] at h3
      omega
    have hma := h2 a (by simp)
    refine List.nodup_cons.2 ⟨ha, nodup_of_len r (m.erase a) (hm.erase a) (fun x hx => ?_) (fun x hx => ?_) ?_⟩
    · have hxm := List.mem_of_mem_erase hx
      rcases List.mem_cons.1 (h1 x hxm) with rfl | h
      · exact absurd hx (hm.not_mem_erase)
      · exact h
    · exact (List.mem_erase_of_ne (fun (e : x = a) => ha (e ▸ hx))).2 (h2 x (by simp [hx]))
    · rw [List.length_erase_of_mem hma]
      simp only [List.length_cons] at h3
      omega
theorem full_of_len {α : Type} [DecidableEq α] (l m : List α) (hm : m.Nodup) (h1 : ∀ x ∈ m, x ∈ l) (h2 : l.length ≤ m.length) : ∀ x ∈ l, x ∈ m := fun x hx => by
  refine Decidable.byContradiction fun hn => ?_
  have := nodup_len m (l.erase x) hm fun y hy => (List.mem_erase_of_ne (fun (e : y = x) => hn (e ▸ hy))).2 (h1 y hy)
  rw [List.length_erase_of_mem hx] at this
  have := List.length_pos_of_mem hx
  omega
theorem mput_keys {K : Sh} (hK : K.flat = true) : ∀ (xs : List (K.T × Bool)) (k : K.T) (v : Bool), (xs.map (·.1)).Nodup → ((mput (eqSh K) xs k v).map (·.1)).Nodup ∧ ∀ x, x ∈ (mput (eqSh K) xs k v).map (·.1) ↔ x = k ∨ x ∈ xs.map (·.1)
  | [], k, v, _ => by simp [mput]
  | p :: r, k, v, h => by
    rw [List.map_cons, List.nodup_cons] at h
    simp only [mput]
    cases he : eqSh K k p.1
    · have hne : k ≠ p.1 := fun e => by rw [(eqSh_iff K hK _ _).2 e] at he; cases he
      obtain ⟨h1, h2⟩ := mput_keys hK r k v h.2
      rw [cond_false, List.map_cons]
      refine ⟨List.nodup_cons.2 ⟨fun hm => ?_, h1⟩, fun x => ?_⟩
      · rcases (h2 p.1).1 hm with e | hm
        · exact hne e.symm
        · exact h.1 hm
      · rw [List.mem_cons, h2, List.map_cons, List.mem_cons]
        constructor
        · rintro (h | h | h)
          · exact .inr (.inl h)
          · exact .inl h
          · exact .inr (.inr h)
        · rintro (h | h | h)
          · exact .inr (.inl h)
          · exact .inl h
          · exact .inr (.inr h)
    · have e := (eqSh_iff K hK _ _).1 he
      rw [cond_true, List.map_cons]
      subst e
      refine ⟨List.nodup_cons.2 h, fun x => ?_⟩
      rw [List.mem_cons, List.map_cons, List.mem_cons]
      constructor
      · rintro (h | h)
        · exact .inl h
        · exact .inr (.inr h)
      · rintro (h | h | h)
        · exact .inl h
        · exact .inl h
        · exact .inr h
abbrev shV : Sh := .cons (.int .i64) (.int .i64)
def setV (xs : List (Vc × Bool)) (vs : List Vc) : List (Vc × Bool) := vs.foldl (fun s a => mput (eqSh shV) s a true) xs
theorem setV_keys : ∀ (vs : List Vc) (xs : List (Vc × Bool)), (xs.map (·.1)).Nodup → ((setV xs vs).map (·.1)).Nodup ∧ ∀ x, x ∈ (setV xs vs).map (·.1) ↔ x ∈ vs ∨ x ∈ xs.map (·.1)
  | [], xs, h => by simpa [setV] using h
  | v :: r, xs, h => by
    obtain ⟨h1, h2⟩ := mput_keys (K := shV) rfl xs v true h
    obtain ⟨h3, h4⟩ := setV_keys r (mput (eqSh shV) xs v true) h1
    refine ⟨h3, fun x => (h4 x).trans ?_⟩
    rw [h2, List.mem_cons]
    constructor
    · rintro (h | h | h)
      · exact .inl (.inr h)
      · exact .inl (.inl h)
      · exact .inr h
    · rintro ((h | h) | h)
      · exact .inr (.inl h)
      · exact .inl h
      · exact .inr (.inr h)
/-- copies tile: no cell twice, and every cell -/
def tilesP (l : Lt) (g : List Mo) (t : List Vc) : Prop := (cpsS l g t).flatten.Nodup ∧ ∀ v ∈ cellsS l, v ∈ (cpsS l g t).flatten
instance (l : Lt) (g : List Mo) (t : List Vc) : Decidable (tilesP l g t) := by unfold tilesP; infer_instance
theorem cps_len (l : Lt) (g : List Mo) (t : List Vc) : (cpsS l g t).flatten.length = g.length * t.length := by
  unfold cpsS
  induction g with
  | nil => simp
  | cons m g ih => rw [List.map_cons, List.flatten_cons, List.length_append, ih, List.length_map, List.length_cons, Nat.succ_mul]; omega
theorem cps_mem {l : Lt} {g : List Mo} {t : List Vc} {v : Vc} (h : v ∈ (cpsS l g t).flatten) : ∃ m ∈ g, ∃ u ∈ t, v = mvS l m u := by
  simp only [cpsS, List.mem_flatten, List.mem_map] at h
  obtain ⟨c, ⟨m, hm, rfl⟩, hv⟩ := h
  obtain ⟨u, hu, e⟩ := List.mem_map.1 hv
  exact ⟨m, hm, u, hu, e.symm⟩
theorem cps_cell {l : Lt} (hl : IsL l) {g : List Mo} {t : List Vc} {v : Vc} (h : v ∈ (cpsS l g t).flatten) : cellB l v = true := by
  obtain ⟨m, _, u, _, rfl⟩ := cps_mem h
  exact redS_isCell hl _
theorem cellsS_nodup {l : Lt} (hl : IsL l) : (cellsS l).Nodup := by
  rw [List.Nodup, List.pairwise_iff_getElem]
  intro i j hi hj hij e
  have h1 := cellsS_num hl hi
  have h2 := cellsS_num hl hj
  rw [e, h2] at h1
  omega
theorem set_tiles {l : Lt} (hl : IsL l) (g : List Mo) (t : List Vc) : ((setV [] (cpsS l g t).flatten).length = (cellsS l).length ∧ (setV [] (cpsS l g t).flatten).length = g.length * t.length) ↔ tilesP l g t := by
  obtain ⟨h1, h2⟩ := setV_keys (cpsS l g t).flatten [] (by simp)
  have hlen : ((setV [] (cpsS l g t).flatten).map (·.1)).length = (setV [] (cpsS l g t).flatten).length := List.length_map ..
  have hin : ∀ x ∈ (setV [] (cpsS l g t).flatten).map (·.1), x ∈ cellsS l := fun x hx => by
    have := (h2 x).1 hx
    simp at this
    exact cellB_mem hl (cps_cell hl (by simpa using this))
  rw [← hlen]
  constructor
  · rintro ⟨e1, e2⟩
    refine ⟨nodup_of_len _ _ h1 (fun x hx => ?_) (fun x hx => (h2 x).2 (.inl hx)) ?_, fun v hv => ?_⟩
    · have := (h2 x).1 hx
      simpa using this
    · rw [cps_len, e2]; exact Nat.le_refl _
    · have := full_of_len (cellsS l) _ h1 hin (by omega) v hv
      have := (h2 v).1 this
      simpa using this
  · rintro ⟨p1, p2⟩
    have a1 := nodup_len _ _ h1 hin
    have a2 := nodup_len (cellsS l) _ (cellsS_nodup hl) fun x hx => (h2 x).2 (.inl (p2 x hx))
    have a3 := nodup_len _ (cpsS l g t).flatten h1 fun x hx => by
      have := (h2 x).1 hx
      simpa using this
    have a4 := nodup_len _ _ p1 fun x hx => (h2 x).2 (.inl hx)
    rw [cps_len] at a3 a4
    omega
end Go.Proofs.YtniidcalfhhciaaGreat.X
/-! Plain facts: tilesByGroup and the owners decide the same. -/
namespace Go.Proofs.YtniidcalfhhciaaGreat.X
open Go
set_option linter.unusedVariables false
theorem setV_flat : ∀ (C : List (List Vc)) (s : List (Vc × Bool)), C.foldl setV s = setV s C.flatten
  | [], s => rfl
  | c :: r, s => by
    rw [List.foldl_cons, setV_flat r, List.flatten_cons]
    unfold setV
    rw [List.foldl_append]
theorem getC {C : List (List Vc)} {x : Nat} (h : x < C.length) : C.getD ((0 : Int) + (x : Int)).toNat [] = C[x] := gd h
theorem cps_get {l : Lt} {g : List Mo} {t : List Vc} {x : Nat} (h : x < (cpsS l g t).length) : (cpsS l g t)[x].length = t.length := by
  simp [cpsS]
theorem cpsS_length (l : Lt) (g : List Mo) (t : List Vc) : (cpsS l g t).length = g.length := by simp [cpsS]
theorem len_eq {l : Lt} (hl : IsL l) : w (l.1 * l.2.2) = ((cellsS l).length : Int) := by
  rw [cellsS_len hl, idx_nat hl]
  have := hl.ix
  have : 0 ≤ l.1 * l.2.2 := Int.mul_nonneg (by have := hl.a1; omega) (by have := hl.c1; omega)
  exact w_id (by omega) (by omega)
/-! ### the owners -/
theorem l03Number_eq {l : Lt} (hl : IsL l) {v : Vc} (hv : cellB l v = true) : f150G KK l v = some ((numS l v : Nat) : Int) := by
  unfold f150G
  rw [l03Reduce_eq hl (Sv_Sm (cellB_Sv hl hv)), Option.bind_some, (num_calc hl v).1]
theorem numS_lt {l : Lt} (hl : IsL l) (v : Vc) : numS l v < (cellsS l).length := by
  have h1 := (num_calc hl v).2
  rw [cellsS_len hl]
  have := idx_nat hl
  omega
def cnS (l : Lt) (C : List (List Vc)) : List (List Nat) := C.map fun c => c.map (numS l)
theorem putA_cons {C : List (List Nat)} {i : Nat} {o : List Int} {c : List Nat} : putA (c :: C) i o = match putR (i : Int) c o with | some o' => putA C (i + 1) o' | none => none := rfl
theorem cells_cover {l : Lt} (hl : IsL l) (vs : List Vc) (hc : ∀ v ∈ vs, cellB l v = true) : (∀ v ∈ cellsS l, v ∈ vs) ↔ ∀ k, k < (cellsS l).length → k ∈ vs.map (numS l) := by
  constructor
  · intro h k hk
    exact List.mem_map.2 ⟨(cellsS l)[k], h _ (List.getElem_mem hk), cellsS_num hl hk⟩
  · intro h v hv
    obtain ⟨k, hk, rfl⟩ := List.getElem_of_mem hv
    obtain ⟨u, hu, e⟩ := List.mem_map.1 (h k hk)
    obtain ⟨j, hj, e2⟩ := List.getElem_of_mem (cellB_mem hl (hc u hu))
    have : j = k := by rw [← cellsS_num hl hj, e2, e]
    subst this
    rw [e2]
    exact hu
theorem num_inj {l : Lt} (hl : IsL l) {u v : Vc} (hu : cellB l u = true) (hv : cellB l v = true) (h : numS l u = numS l v) : u = v := by
  obtain ⟨i, hi, e1⟩ := List.getElem_of_mem (cellB_mem hl hu)
  obtain ⟨j, hj, e2⟩ := List.getElem_of_mem (cellB_mem hl hv)
  have h1 := cellsS_num hl hi
  have h2 := cellsS_num hl hj
  rw [e1] at h1
  rw [e2] at h2
  have : i = j := by omega
  subst this
  rw [← e1, ← e2]
theorem nodup_map_num {l : Lt} (hl : IsL l) : ∀ (vs : List Vc), (∀ v ∈ vs, cellB l v = true) → ((vs.map (numS l)).Nodup ↔ vs.Nodup)
  | [], _ => by simp
  | v :: vs, h => by
    rw [List.map_cons, List.nodup_cons, List.nodup_cons, nodup_map_num hl vs fun u hu => h u (by simp [hu])]
    constructor
    · rintro ⟨h1, h2⟩
      exact ⟨fun hm => h1 (List.mem_map.2 ⟨v, hm, rfl⟩), h2⟩
    · rintro ⟨h1, h2⟩
      refine ⟨fun hm => ?_, h2⟩
      obtain ⟨u, hu, e⟩ := List.mem_map.1 hm
      exact h1 (num_inj hl (h u (by simp [hu])) (h v (by simp)) e ▸ hu)
theorem cn_flat (l : Lt) : ∀ C : List (List Vc), (cnS l C).flatten = C.flatten.map (numS l)
  | [] => rfl
  | c :: C => by
    have := cn_flat l C
    unfold cnS at this ⊢
    rw [List.map_cons, List.flatten_cons, List.flatten_cons, List.map_append, this]
theorem rep_getD (n k : Nat) : (List.replicate n (-1 : Int)).getD k 0 = if k < n then -1 else 0 := by
  by_cases h : k < n
  · simp [List.getD, h]
  · simp [List.getD, h]
end Go.Proofs.YtniidcalfhhciaaGreat.X
