/- Plain facts: tiles, copies of tiles, and whether they tile. -/
import Derived.Test.YtniidcalfhhciaaGreatQgME
namespace Go.Proofs.YtniidcalfhhciaaGreat.X
open Go
set_option linter.unusedSimpArgs false
set_option linter.unusedVariables false
def tileP (t : List Vc) (q : Nat) (v : Vc) : Bool := vecB v && (Nat.beq q 0 || ltV (t.getD (q - 1) (0, 0)) v)
def tileB (t : List Vc) : Bool := allFrom (tileP t) 0 t && (decide (1 ≤ t.length) && decide (t.length ≤ 16))
theorem getV {g : List Vc} {q : Nat} (hq : q + 1 < 4611686018427387904) (d : Vc) : g.getD ((0 : Int) + (w ((((q + 1 : Nat)) : Int) - (1 : Int)))).toNat d = g.getD q d := by
 rw [w_id (by omega) (by omega)]
 congr 1
 omega
theorem inV {g : List Vc} {q : Nat} (hq : q + 1 < g.length) (h2 : q + 1 < 4611686018427387904) : (decide (0 ≤ (w (((q + 1 : Nat) : Int) - (1 : Int)))) && decide ((w (((q + 1 : Nat) : Int) - (1 : Int))) < (g.length : Int))) = true := by
 rw [w_id (by omega) (by omega), Bool.and_eq_true, decide_eq_true_eq, decide_eq_true_eq]
 omega
theorem int_ge1 (n : Nat) : decide ((n : Int) ≥ 1) = decide (1 ≤ n) := by
 by_cases h : 1 ≤ n <;> simp <;> omega
theorem int_le16 (n : Nat) : decide ((n : Int) ≤ 16) = decide (n ≤ 16) := by
 by_cases h : n ≤ 16 <;> simp <;> omega
theorem isTile_eq {t : List Vc} (hn : t.length ≤ 1048576) : f237G KK t = some (tileB t) := by
 have h := iter_scan (X := Int) (S := Unit) (body := fun L4 z => f237_b4 KK t (fun v0 => L4 v0) z) t (fun q s => (q : Int)) (tileP t) (fun s a => s) (some false)
  (fun s => some (decide (1 ≤ t.length) && decide (t.length ≤ 16))) (fun q s => True)
  (fun L4 q s hq _ => ⟨fun _ => trivial, by
   unfold f237_b4 tileP
   rw [in1 hq]
   simp only [cond_true, in0, Bool.and_self, Bool.or_true, gd hq, isVec_eq, Option.bind_some]
   cases h1 : vecB t[q]
   ·rfl
   ·simp only [Bool.not_true, Bool.not_false, Bool.true_and]
    cases q with
    | zero =>
     have : decide (((0 : Nat) : Int) > 0) = false := by simp
     simp only [this, Bool.not_false, Bool.true_or, cond_true, cond_false, Option.bind_some]
     rfl
    | succ q =>
     have h3 : decide (((q + 1 : Nat) : Int) > 0) = true := by simp
     simp only [h3, Bool.not_true, Bool.false_or, cond_true, cond_false, inV hq (by omega), getV (g := t) (q := q) (by omega)]
     rw [compareVecs_eq, Option.bind_some, cmpL_lt, w_succ (by omega)]
     have e : (q + 1 - 1) = q := rfl
     have e2 : Nat.beq (q + 1) 0 = false := rfl
     rw [e, e2, Bool.false_or]
     unfold ltV
     cases ltL (numV (t.getD q (0, 0))) (numV t[q + 1]) <;> rfl⟩)
  (fun L4 s _ => by
   unfold f237_b4
   rw [out1]
   simp only [cond_false, Bool.or_true, cond_true, int_ge1, int_le16]
   cases decide (1 ≤ t.length) <;> rfl) KK 0 () (by omega) (by simp only [KK]; omega) trivial
 unfold f237G f237_g f237_l4 tileB
 refine Eq.trans h ?_
 rw [List.drop_zero]
 cases allFrom (tileP t) 0 t <;> rfl
theorem tile_of {t : List Vc} (h : tileB t = true) : (∀ v ∈ t, vecB v = true) ∧ 1 ≤ t.length ∧ t.length ≤ 16 := by
 unfold tileB at h
 rw [Bool.and_eq_true, Bool.and_eq_true, decide_eq_true_eq, decide_eq_true_eq] at h
 refine ⟨fun v hv => ?_, h.2⟩
 obtain ⟨i, hi, rfl⟩ := List.getElem_of_mem hv
 have := allFrom_get h.1 i hi
 unfold tileP at this
 rw [Bool.and_eq_true] at this
 exact this.1
def codeT (f : Int) (l : Lt) (g : List Mo) (t : List Vc) : Int := if okF f && okL l && tileB t then (if grpB f l g then 0 else 2) else 1
theorem tileCode_eq (f : Int) (l : Lt) {g : List Mo} (hn : g.length ≤ 1048576) {t : List Vc} (ht : t.length ≤ 1048576) : f159G KK f l g t = some (codeT f l g t) := by
 unfold f159G codeT
 rw [frameCode_eq, isTile_eq ht, groupCode_eq f l hn]
 simp only [Option.bind_some, Bool.or_true, cond_true]
 unfold codeG
 cases okF f && okL l <;> cases h : tileB t <;> rfl
/-- what code 0 says -/
structure TileG (f : Int) (l : Lt) (g : List Mo) (t : List Vc) : Prop where
 fr : okF f = true
 la : IsL l
 pr : Pre f l g
 vec : ∀ v ∈ t, vecB v = true
 t1 : 1 ≤ t.length
 t2 : t.length ≤ 16
theorem codeT_0 {f : Int} {l : Lt} {g : List Mo} {t : List Vc} (h : codeT f l g t = 0) : TileG f l g t := by
 unfold codeT at h
 split at h
 ·rename_i hc
  rw [Bool.and_eq_true, Bool.and_eq_true] at hc
  split at h
  ·rename_i hg
   unfold grpB at hg
   rw [Bool.and_eq_true] at hg
   obtain ⟨h1, h2, h3⟩ := tile_of hc.2
   exact ⟨hc.1.1, okL_iff.1 hc.1.2, pre_of hg.1, h1, h2, h3⟩
  ·cases h
 ·cases h
theorem vecB_Sv {v : Vc} (h : vecB v = true) : Sv v := by
 rw [vecB_iff] at h
 simp only [Sv]; omega
def mvS (l : Lt) (m : Mo) (v : Vc) : Vc := redS l (appS m v)
theorem l07Move_gen {l : Lt} (hl : IsL l) {m : Mo} (hm : GoodG m) {v : Vc} (hv : Sv v) : f171G KK l m v = some (mvS l m v) := by
 unfold f171G
 rw [l05Apply_eq (pm_sm hm.1) hv hm.2, Option.bind_some, l03Reduce_eq hl (appS_Sm (pm_sm hm.1) hv hm.2)]
 rfl
theorem take_gen {l : Lt} (hl : IsL l) {m : Mo} (hm : GoodG m) {v : Vc} (hv : Sv v) : f188G KK l m v = some (mvS l m v) := by
 unfold f188G
 rw [motApply_eq (pm_sm hm.1) hv hm.2, Option.bind_some, reduce_eq hl (appS_Sm (pm_sm hm.1) hv hm.2)]
 rfl
def cpsS (l : Lt) (g : List Mo) (t : List Vc) : List (List Vc) := g.map fun m => t.map (mvS l m)
theorem blim24 {n : Nat} (h : n ≤ 1000000) : Nat.ble n (lim 24) = true := by
 simp only [lim, Nat.ble_eq]; omega
theorem copies_in {f : Int} {l : Lt} {g : List Mo} {t : List Vc} (hT : TileG f l g t) {L : Int → List (List Vc) → Option (List (List Vc))} {x : Nat} (hx : x < g.length) {s : List (List Vc)} (hs : s.length ≤ 768) :
  f162_l11 KK l g t (x : Int) s L KK 0 [] = L ((x + 1 : Nat) : Int) (s ++ [t.map (mvS l g[x])]) := by
 have hle := hT.pr.len hT.la
 have ht2 := hT.t2
 have h := iter_fold (X := Int × List Vc) (body := fun L11 z => f162_b11 KK l g t (x : Int) s L (fun v0 v1 => L11 (v0, v1)) z.1 z.2) t (fun q s => ((q : Int), s)) (fun s v => s ++ [mvS l g[x] v]) (fun r => L ((x + 1 : Nat) : Int) (s ++ [r])) (fun q s => s.length ≤ q)
  (fun L11 q s hq hi => by
   refine ⟨by simp; omega, ?_⟩
   unfold f162_b11
   simp only
   rw [in1 hq, in0, gd hx, gd hq]
   simp only [Bool.and_self, cond_true]
   rw [take_gen hT.la (hT.pr.good hT.la (List.getElem_mem hx)) (vecB_Sv (hT.vec _ (List.getElem_mem hq))), Option.bind_some, blim16 (by simp; omega), w_succ (by omega)]
   rfl)
  (fun L11 s' hi => by
   unfold f162_b11
   simp only
   rw [out1, cond_false, blim24 (by simp; omega), cond_true, w_succ (by omega)]) KK 0 [] (by omega) (by have := KKlt (n := t.length) (by omega); omega) (by simp)
 unfold f162_l11
 refine Eq.trans h ?_
 simp only [List.drop_zero]
 rw [foldl_push, List.nil_append]
theorem copiesOf_eq {f : Int} {l : Lt} {g : List Mo} {t : List Vc} (hT : TileG f l g t) : f162G KK l g t = some (cpsS l g t) := by
 have hle := hT.pr.len hT.la
 have h := iter_fold (X := Int × List (List Vc)) (body := fun L8 z => f162_b8 KK l g t (fun c0 c1 d0 d1 => f162_l11 KK l g t c0 c1 (fun v0 v1 => L8 (v0, v1)) KK d0 d1) (fun v0 v1 => L8 (v0, v1)) z.1 z.2) g (fun q s => ((q : Int), s)) (fun s m => s ++ [t.map (mvS l m)]) (fun s => some s) (fun q s => s.length ≤ q)
  (fun L8 q s hq hi => by
   refine ⟨by simp; omega, ?_⟩
   unfold f162_b8
   simp only
   rw [in1 hq, in0]
   simp only [Bool.and_self, cond_true]
   exact copies_in hT hq (by omega))
  (fun L8 s hi => by
   unfold f162_b8
   simp only
   rw [out1, cond_false]) KK 0 [] (by omega) (by have := KKlt (n := g.length) (by omega); omega) (by simp)
 unfold f162G f162_g f162_l8
 refine Eq.trans h ?_
 simp only [List.drop_zero]
 rw [foldl_push, List.nil_append]
 rfl
end Go.Proofs.YtniidcalfhhciaaGreat.X
/-! Plain facts: whether copies tile, by the owners of cells and by the set of cells. -/
namespace Go.Proofs.YtniidcalfhhciaaGreat.X
open Go
set_option linter.unusedVariables false
/-! ### owners -/
def putR (i : Int) : List Nat → List Int → Option (List Int)
 | [], o => some o
 | n :: r, o => bif decide (o.getD n 0 ≥ 0) then none else putR i r (o.set n i)
def putA : List (List Nat) → Nat → List Int → Option (List Int)
 | [], _, o => some o
 | c :: r, i, o => match putR (i : Int) c o with | some o' => putA r (i + 1) o' | none => none
/-- the first copy that has a cell -/
def ownS : List (List Nat) → Nat → Nat → Option Nat
 | [], _, _ => none
 | c :: r, i, k => if k ∈ c then some i else ownS r (i + 1) k
/-! ### the set of cells -/
theorem nodup_of_len {α : Type} [DecidableEq α] : ∀ (l m : List α), m.Nodup → (∀ x ∈ m, x ∈ l) → (∀ x ∈ l, x ∈ m) → l.length ≤ m.length → l.Nodup
 | [], _, _, _, _, _ => List.nodup_nil
 | a :: r, m, hm, h1, h2, h3 => by
  have ha : a ∉ r := fun har => by
   have := nodup_len m r hm fun x hx => by
    rcases List.mem_cons.1 (h1 x hx) with rfl | h
    ·exact har
    ·exact h
   simp only [List.length_cons] at h3
   omega
  have hma := h2 a (by simp)
  refine List.nodup_cons.2 ⟨ha, nodup_of_len r (m.erase a) (hm.erase a) (fun x hx => ?_) (fun x hx => ?_) ?_⟩
  ·have hxm := List.mem_of_mem_erase hx
   rcases List.mem_cons.1 (h1 x hxm) with rfl | h
   ·exact absurd hx (hm.not_mem_erase)
   ·exact h
  ·exact (List.mem_erase_of_ne (fun (e : x = a) => ha (e ▸ hx))).2 (h2 x (by simp [hx]))
  ·rw [List.length_erase_of_mem hma]
   simp only [List.length_cons] at h3
   omega
theorem full_of_len {α : Type} [DecidableEq α] (l m : List α) (hm : m.Nodup) (h1 : ∀ x ∈ m, x ∈ l) (h2 : l.length ≤ m.length) : ∀ x ∈ l, x ∈ m := fun x hx => by
 refine Decidable.byContradiction fun hn => ?_
 have := nodup_len m (l.erase x) hm fun y hy => (List.mem_erase_of_ne (fun (e : y = x) => hn (e ▸ hy))).2 (h1 y hy)
 rw [List.length_erase_of_mem hx] at this
 have := List.length_pos_of_mem hx
 omega
theorem mput_keys {K : Sh} (hK : K.flat = true) : ∀ (xs : List (K.T × Bool)) (k : K.T) (v : Bool), (xs.map (·.1)).Nodup → ((mput (eqSh K) xs k v).map (·.1)).Nodup ∧ ∀ x, x ∈ (mput (eqSh K) xs k v).map (·.1) ↔ x = k ∨ x ∈ xs.map (·.1)
 | [], k, v, _ => by simp [mput]
 | p :: r, k, v, h => by
  rw [List.map_cons, List.nodup_cons] at h
  simp only [mput]
  cases he : eqSh K k p.1
  ·have hne : k ≠ p.1 := fun e => by rw [(eqSh_iff K hK _ _).2 e] at he; cases he
   obtain ⟨h1, h2⟩ := mput_keys hK r k v h.2
   rw [cond_false, List.map_cons]
   refine ⟨List.nodup_cons.2 ⟨fun hm => ?_, h1⟩, fun x => ?_⟩
   ·rcases (h2 p.1).1 hm with e | hm
    ·exact hne e.symm
    ·exact h.1 hm
   ·rw [List.mem_cons, h2, List.map_cons, List.mem_cons]
    constructor
    ·rintro (h | h | h)
     ·exact .inr (.inl h)
     ·exact .inl h
     ·exact .inr (.inr h)
    ·rintro (h | h | h)
     ·exact .inr (.inl h)
     ·exact .inl h
     ·exact .inr (.inr h)
  ·have e := (eqSh_iff K hK _ _).1 he
   rw [cond_true, List.map_cons]
   subst e
   refine ⟨List.nodup_cons.2 h, fun x => ?_⟩
   rw [List.mem_cons, List.map_cons, List.mem_cons]
   constructor
   ·rintro (h | h)
    ·exact .inl h
    ·exact .inr (.inr h)
   ·rintro (h | h | h)
    ·exact .inl h
    ·exact .inl h
    ·exact .inr h
abbrev shV : Sh := .cons (.int .i64) (.int .i64)
def setV (xs : List (Vc × Bool)) (vs : List Vc) : List (Vc × Bool) := vs.foldl (fun s a => mput (eqSh shV) s a true) xs
theorem setV_keys : ∀ (vs : List Vc) (xs : List (Vc × Bool)), (xs.map (·.1)).Nodup → ((setV xs vs).map (·.1)).Nodup ∧ ∀ x, x ∈ (setV xs vs).map (·.1) ↔ x ∈ vs ∨ x ∈ xs.map (·.1)
 | [], xs, h => by simpa [setV] using h
 | v :: r, xs, h => by
  obtain ⟨h1, h2⟩ := mput_keys (K := shV) rfl xs v true h
  obtain ⟨h3, h4⟩ := setV_keys r (mput (eqSh shV) xs v true) h1
  refine ⟨h3, fun x => (h4 x).trans ?_⟩
  rw [h2, List.mem_cons]
  constructor
  ·rintro (h | h | h)
   ·exact .inl (.inr h)
   ·exact .inl (.inl h)
   ·exact .inr h
  ·rintro ((h | h) | h)
   ·exact .inr (.inl h)
   ·exact .inl h
   ·exact .inr (.inr h)
/-- copies tile: no cell twice, and every cell -/
def tilesP (l : Lt) (g : List Mo) (t : List Vc) : Prop := (cpsS l g t).flatten.Nodup ∧ ∀ v ∈ cellsS l, v ∈ (cpsS l g t).flatten
instance (l : Lt) (g : List Mo) (t : List Vc) : Decidable (tilesP l g t) := by unfold tilesP; infer_instance
theorem cps_len (l : Lt) (g : List Mo) (t : List Vc) : (cpsS l g t).flatten.length = g.length * t.length := by
 unfold cpsS
 induction g with
 | nil => simp
 | cons m g ih => rw [List.map_cons, List.flatten_cons, List.length_append, ih, List.length_map, List.length_cons, Nat.succ_mul]; omega
theorem cps_mem {l : Lt} {g : List Mo} {t : List Vc} {v : Vc} (h : v ∈ (cpsS l g t).flatten) : ∃ m ∈ g, ∃ u ∈ t, v = mvS l m u := by
 simp only [cpsS, List.mem_flatten, List.mem_map] at h
 obtain ⟨c, ⟨m, hm, rfl⟩, hv⟩ := h
 obtain ⟨u, hu, e⟩ := List.mem_map.1 hv
 exact ⟨m, hm, u, hu, e.symm⟩
theorem cps_cell {l : Lt} (hl : IsL l) {g : List Mo} {t : List Vc} {v : Vc} (h : v ∈ (cpsS l g t).flatten) : cellB l v = true := by
 obtain ⟨m, _, u, _, rfl⟩ := cps_mem h
 exact redS_isCell hl _
theorem cellsS_nodup {l : Lt} (hl : IsL l) : (cellsS l).Nodup := by
 rw [List.Nodup, List.pairwise_iff_getElem]
 intro i j hi hj hij e
 have h1 := cellsS_num hl hi
 have h2 := cellsS_num hl hj
 rw [e, h2] at h1
 omega
theorem set_tiles {l : Lt} (hl : IsL l) (g : List Mo) (t : List Vc) : ((setV [] (cpsS l g t).flatten).length = (cellsS l).length ∧ (setV [] (cpsS l g t).flatten).length = g.length * t.length) ↔ tilesP l g t := by
 obtain ⟨h1, h2⟩ := setV_keys (cpsS l g t).flatten [] (by simp)
 have hlen : ((setV [] (cpsS l g t).flatten).map (·.1)).length = (setV [] (cpsS l g t).flatten).length := List.length_map ..
 have hin : ∀ x ∈ (setV [] (cpsS l g t).flatten).map (·.1), x ∈ cellsS l := fun x hx => by
  have := (h2 x).1 hx
  simp at this
  exact cellB_mem hl (cps_cell hl (by simpa using this))
 rw [← hlen]
 constructor
 ·rintro ⟨e1, e2⟩
  refine ⟨nodup_of_len _ _ h1 (fun x hx => ?_) (fun x hx => (h2 x).2 (.inl hx)) ?_, fun v hv => ?_⟩
  ·have := (h2 x).1 hx
   simpa using this
  ·rw [cps_len, e2]; exact Nat.le_refl _
  ·have := full_of_len (cellsS l) _ h1 hin (by omega) v hv
   have := (h2 v).1 this
   simpa using this
 ·rintro ⟨p1, p2⟩
  have a1 := nodup_len _ _ h1 hin
  have a2 := nodup_len (cellsS l) _ (cellsS_nodup hl) fun x hx => (h2 x).2 (.inl (p2 x hx))
  have a3 := nodup_len _ (cpsS l g t).flatten h1 fun x hx => by
   have := (h2 x).1 hx
   simpa using this
  have a4 := nodup_len _ _ p1 fun x hx => (h2 x).2 (.inl hx)
  rw [cps_len] at a3 a4
  omega
end Go.Proofs.YtniidcalfhhciaaGreat.X
/-! Plain facts: tilesByGroup and the owners decide the same. -/
namespace Go.Proofs.YtniidcalfhhciaaGreat.X
open Go
set_option linter.unusedVariables false
theorem setV_flat : ∀ (C : List (List Vc)) (s : List (Vc × Bool)), C.foldl setV s = setV s C.flatten
 | [], s => rfl
 | c :: r, s => by
  rw [List.foldl_cons, setV_flat r, List.flatten_cons]
  unfold setV
  rw [List.foldl_append]
theorem getC {C : List (List Vc)} {x : Nat} (h : x < C.length) : C.getD ((0 : Int) + (x : Int)).toNat [] = C[x] := gd h
theorem cps_get {l : Lt} {g : List Mo} {t : List Vc} {x : Nat} (h : x < (cpsS l g t).length) : (cpsS l g t)[x].length = t.length := by
 simp [cpsS]
theorem cpsS_length (l : Lt) (g : List Mo) (t : List Vc) : (cpsS l g t).length = g.length := by simp [cpsS]
theorem tiles_in {l : Lt} {g : List Mo} {t : List Vc} {C : List (List Vc)} (hC : C.length ≤ 1000) {L : Int → List (Vc × Bool) → Option Bool} {x : Nat} (hx : x < C.length) (hn : C[x].length ≤ 1000) (s : List (Vc × Bool)) :
  f160_l10 KK l g t (x : Int) C L KK 0 s = L ((x + 1 : Nat) : Int) (setV s C[x]) := by
 have h := iter_fold (X := Int × List (Vc × Bool)) (body := fun L10 z => f160_b10 KK l g t (x : Int) C L (fun v0 v1 => L10 (v0, v1)) z.1 z.2) C[x] (fun q s => ((q : Int), s)) (fun s v => mput (eqSh shV) s v true) (fun s => L ((x + 1 : Nat) : Int) s) (fun q s => True)
  (fun L10 q s hq _ => by
   refine ⟨trivial, ?_⟩
   unfold f160_b10
   simp only
   rw [getC hx, in1 hq, in0, gd hq, w_succ (by omega)]
   rfl)
  (fun L10 s _ => by
   unfold f160_b10
   simp only
   rw [getC hx, out1, cond_false, w_succ (by omega)]) KK 0 s (by omega) (by have := KKlt (n := C[x].length) (by omega); omega) trivial
 unfold f160_l10
 exact h
theorem len_eq {l : Lt} (hl : IsL l) : w (l.1 * l.2.2) = ((cellsS l).length : Int) := by
 rw [cellsS_len hl, idx_nat hl]
 have := hl.ix
 have : 0 ≤ l.1 * l.2.2 := Int.mul_nonneg (by have := hl.a1; omega) (by have := hl.c1; omega)
 exact w_id (by omega) (by omega)
theorem tilesByGroup_eq {f : Int} {l : Lt} {g : List Mo} {t : List Vc} (hT : TileG f l g t) : f160G KK l g t = some (decide (tilesP l g t)) := by
 have hle := hT.pr.len hT.la
 have ht2 := hT.t2
 unfold f160G f160_g
 rw [copiesOf_eq hT, Option.bind_some]
 have hC := cpsS_length l g t
 have h := iter_fold (X := Int × List (Vc × Bool)) (body := fun L7 z => f160_b7 KK l g t (cpsS l g t) (fun c0 d0 d1 => f160_l10 KK l g t c0 (cpsS l g t) (fun v0 v1 => L7 (v0, v1)) KK d0 d1) (fun v0 v1 => L7 (v0, v1)) z.1 z.2) (cpsS l g t) (fun q s => ((q : Int), s)) setV
  (fun s => some (decide (s.length = (cellsS l).length ∧ s.length = g.length * t.length))) (fun q s => True)
  (fun L7 q s hq _ => by
   refine ⟨trivial, ?_⟩
   unfold f160_b7
   simp only
   rw [in1 hq, in0]
   simp only [Bool.and_self, cond_true]
   exact tiles_in (by omega) hq (by rw [cps_get hq]; omega) s)
  (fun L7 s _ => by
   unfold f160_b7 f133G
   simp only
   rw [out1, cond_false, Option.bind_some, len_eq hT.la]
   simp only [Bool.or_true, cond_true]
   have hm : g.length * t.length ≤ 768 * 16 := Nat.mul_le_mul hle ht2
   have e : w ((g.length : Int) * (t.length : Int)) = ((g.length * t.length : Nat) : Int) := by
    rw [← Int.natCast_mul]
    exact w_id (by omega) (by omega)
   rw [e]
   congr 1
   by_cases h1 : s.length = (cellsS l).length
   ·have : ((s.length : Int) == ((cellsS l).length : Int)) = true := by rw [h1]; simp
    rw [this, cond_true, Bool.eq_iff_iff, beq_iff_eq, decide_eq_true_eq]
    omega
   ·have : ((s.length : Int) == ((cellsS l).length : Int)) = false := by rw [beq_eq_false_iff_ne]; omega
    rw [this, cond_false]
    simp [h1]) KK 0 [] (by omega) (by have := KKlt (n := (cpsS l g t).length) (by omega); omega) trivial
 unfold f160_l7
 refine Eq.trans h ?_
 rw [List.drop_zero, setV_flat]
 congr 1
 exact decide_eq_decide.2 (set_tiles hT.la g t)
/-! ### the owners -/
theorem l03Number_eq {l : Lt} (hl : IsL l) {v : Vc} (hv : cellB l v = true) : f150G KK l v = some ((numS l v : Nat) : Int) := by
 unfold f150G
 rw [l03Reduce_eq hl (Sv_Sm (cellB_Sv hl hv)), Option.bind_some, (num_calc hl v).1]
theorem numS_lt {l : Lt} (hl : IsL l) (v : Vc) : numS l v < (cellsS l).length := by
 have h1 := (num_calc hl v).2
 rw [cellsS_len hl]
 have := idx_nat hl
 omega
def cnS (l : Lt) (C : List (List Vc)) : List (List Nat) := C.map fun c => c.map (numS l)
theorem num_inj {l : Lt} (hl : IsL l) {u v : Vc} (hu : cellB l u = true) (hv : cellB l v = true) (h : numS l u = numS l v) : u = v := by
 obtain ⟨i, hi, e1⟩ := List.getElem_of_mem (cellB_mem hl hu)
 obtain ⟨j, hj, e2⟩ := List.getElem_of_mem (cellB_mem hl hv)
 have h1 := cellsS_num hl hi
 have h2 := cellsS_num hl hj
 rw [e1] at h1
 rw [e2] at h2
 have : i = j := by omega
 subst this
 rw [← e1, ← e2]
end Go.Proofs.YtniidcalfhhciaaGreat.X
