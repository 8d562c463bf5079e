/- Plain facts: marks in lists of lists of vectors. -/
import Derived.Test.YthlpehmnjanmnaaGreatDoorQsMJ
import Derived.Test.YthlpehmnjanmnaaGreatDoorQyXRow
namespace Go.Proofs.YthlpehmnjanmnaaGreatDoor.X
open Go
set_option linter.unusedSimpArgs false
set_option linter.unusedVariables false
def tot : List (List Vc) → Int
 | [] => 0
 | o :: r => 2 * (o.length : Int) + tot r
def Mk2 (k : Int) : List (List Vc) → Prop
 | [] => True
 | o :: r => MkV2 k o o.length ∧ Mk2 (k + 2 * (o.length : Int)) r
theorem pm_up : ((pmQ.map numM).Pairwise fun a b => ltL a b = true) ∧ ((pmH.map numM).Pairwise fun a b => ltL a b = true) := by decide +kernel
theorem pmS_up (f : Int) : (pmS f).Pairwise fun a b => ltL (numM a) (numM b) = true := by
 unfold pmS
 split
 ·exact List.pairwise_map.1 pm_up.1
 ·exact List.pairwise_map.1 pm_up.2
theorem ltM_fst {m n : Mo} (h : ltL (numM m.1) (numM n.1) = true) : ltM m n = true := by
 unfold ltM numMo
 have e : ∀ (a b c d : List Int), a.length = b.length → ltL a b = true → ltL (a ++ c) (b ++ d) = true := by
  intro a
  induction a with
  | nil => intro b c d hl h; cases b with
   | nil => simp [ltL] at h
   | cons _ _ => simp at hl
  | cons x a ih =>
   intro b c d hl h
   cases b with
   | nil => simp at hl
   | cons y b =>
    simp only [List.cons_append, ltL] at h ⊢
    cases hxy : x == y
    ·rw [hxy, cF] at h; rw [cF]; exact h
    ·rw [hxy, cT] at h
     rw [cT]
     exact ih b c d (by simpa using hl) h
 exact e _ _ _ _ rfl h
theorem ltM_snd {m : Mt} {u v : Vc} (h : ltV u v = true) : ltM (m, u) (m, v) = true := by
 unfold ltM numMo
 have e : ∀ (a c d : List Int), ltL c d = true → ltL (a ++ c) (a ++ d) = true := by
  intro a
  induction a with
  | nil => intro c d h; exact h
  | cons x a ih => intro c d h; simp only [List.cons_append, ltL, beq_self_eq_true, cT]; exact ih c d h
 exact e _ _ _ h
theorem ltV_fst {u v : Vc} (h : u.1 < v.1) : ltV u v = true := by
 unfold ltV numV ltL
 have e1 : (u.1 == v.1) = false := by simp; omega
 rw [e1, cF, dT h]
theorem ltV_snd {x a b : Int} (h : a < b) : ltV (x, a) (x, b) = true := by
 unfold ltV numV ltL
 simp only [beq_self_eq_true, cT]
 unfold ltL
 have e1 : (a == b) = false := by simp; omega
 rw [e1, cF, dT h]
theorem cellsS_SI (l : Lt) : SI (cellsS l) := by
 unfold SI cellsS
 rw [List.pairwise_flatMap]
 refine ⟨fun x _ => ?_, ?_⟩
 ·unfold rowS
  refine List.pairwise_map.2 (List.Pairwise.imp (fun {a b} h => ltV_snd (by omega)) List.pairwise_lt_range)
 ·refine List.Pairwise.imp (fun {a b} h u hu v hv => ?_) List.pairwise_lt_range
  unfold rowS at hu hv
  obtain ⟨_, _, rfl⟩ := List.mem_map.1 hu
  obtain ⟨_, _, rfl⟩ := List.mem_map.1 hv
  exact ltV_fst (by simp only; omega)
theorem groupS_up (p : Pt) : (groupS p).Pairwise fun a b => ltM a b = true := by
 unfold groupS
 rw [List.pairwise_flatMap]
 refine ⟨fun m _ => ?_, ?_⟩
 ·unfold rowG
  refine List.pairwise_map.2 (List.Pairwise.imp (fun {a b} h => ltM_snd h) (List.Pairwise.sublist List.filter_sublist (cellsS_SI p.2.1)))
 ·refine List.Pairwise.imp (fun {a b} h u hu v hv => ?_) (List.Pairwise.sublist List.filter_sublist (pmS_up p.1))
  unfold rowG at hu hv
  obtain ⟨_, _, rfl⟩ := List.mem_map.1 hu
  obtain ⟨_, _, rfl⟩ := List.mem_map.1 hv
  exact ltM_fst h
theorem groupS_iff {p : Pt} {m : Mo} : m ∈ groupS p ↔ m.1 ∈ stabS p.1 p.2.1 ∧ m.2 ∈ cellsS p.2.1 ∧ keepsS p m = true := by
 unfold groupS rowG
 simp only [List.mem_flatMap, List.mem_map, List.mem_filter]
 constructor
 ·rintro ⟨a, ha, t, ⟨ht, hk⟩, rfl⟩
  exact ⟨ha, ht, hk⟩
 ·rintro ⟨h1, h2, h3⟩
  exact ⟨m.1, h1, m.2, ⟨h2, h3⟩, rfl⟩
theorem pm_mul : ((pmQ.all fun m => pmQ.all fun n => pmQ.contains (mmS m n)) && (pmH.all fun m => pmH.all fun n => pmH.contains (mmS m n))) = true := by decide +kernel
theorem pmS_mul {f : Int} {m n : Mt} (hm : m ∈ pmS f) (hn : n ∈ pmS f) : mmS m n ∈ pmS f := by
 have h := pm_mul
 rw [aT] at h
 unfold pmS at *
 split
 ·rename_i e
  rw [if_pos e] at hm hn
  exact List.contains_iff_mem.1 (List.all_eq_true.1 (List.all_eq_true.1 h.1 m hm) n hn)
 ·rename_i e
  rw [if_neg e] at hm hn
  exact List.contains_iff_mem.1 (List.all_eq_true.1 (List.all_eq_true.1 h.2 m hm) n hn)
theorem pmS_one (f : Int) : ((1, 0, 0, 1) : Mt) ∈ pmS f := by
 unfold pmS
 split <;> decide
theorem stayL {l : Lt} (hl : IsL l) {m : Mt} : stayS l m = true ↔ InL l (mulS m (l.1, 0)) ∧ InL l (mulS m l.2) := by
 unfold stayS
 rw [aT, beq_iff_eq, beq_iff_eq, redS_InL hl, redS_InL hl]
theorem InL_b1 (l : Lt) : InL l (l.1, 0) := ⟨1, 0, by simp⟩
theorem InL_b2 (l : Lt) : InL l l.2 := ⟨0, 1, by simp⟩
theorem stab_mul {f : Int} {l : Lt} (hl : IsL l) {m n : Mt} (hm : m ∈ stabS f l) (hn : n ∈ stabS f l) : mmS m n ∈ stabS f l := by
 have hm1 := stab_stay hm
 have hn1 := (stayL hl).1 (stab_stay hn)
 refine List.mem_filter.2 ⟨pmS_mul (List.mem_filter.1 hm).1 (List.mem_filter.1 hn).1, (stayL hl).2 ⟨?_, ?_⟩⟩
 ·rw [mulS_mm]; exact InL_mul hl hm1 hn1.1
 ·rw [mulS_mm]; exact InL_mul hl hm1 hn1.2
theorem stab_one {f : Int} {l : Lt} (hl : IsL l) : ((1, 0, 0, 1) : Mt) ∈ stabS f l :=
 List.mem_filter.2 ⟨pmS_one f, (stayL hl).2 ⟨by rw [mulS_one]; exact InL_b1 l, by rw [mulS_one]; exact InL_b2 l⟩⟩
theorem atS_red {p : Pt} (hl : IsL p.2.1) (v : Vc) : atS p (redS p.2.1 v) = atS p v := by
 unfold atS numS
 rw [red_red hl]
theorem keeps_iff {p : Pt} {m : Mo} : keepsS p m = true ↔ ∀ v, cellB p.2.1 v = true → v ∈ cellsS p.2.1 → atS p (appS m v) = atS p v := by
 unfold keepsS
 rw [List.all_eq_true]
 constructor
 ·intro h v _ hv
  exact beq_iff_eq.1 (h v hv)
 ·intro h v hv
  have := mem_cellsS hv
  exact beq_iff_eq.2 (h v (cellB_iff.2 (by omega)) hv)
theorem keep_mv {p : Pt} (hl : IsL p.2.1) {m : Mo} (h : keepsS p m = true) {v : Vc} (hv : cellB p.2.1 v = true) : atS p (mvS p.2.1 m v) = atS p v := by
 unfold mvS
 rw [atS_red hl]
 exact keeps_iff.1 h v hv (cellB_mem hl hv)
theorem keep_of {p : Pt} (hl : IsL p.2.1) {m : Mo} (h : ∀ v, cellB p.2.1 v = true → atS p (mvS p.2.1 m v) = atS p v) : keepsS p m = true :=
 keeps_iff.2 fun v hv _ => by rw [← h v hv]; unfold mvS; rw [atS_red hl]
theorem groupS_mul {p : Pt} (hl : IsL p.2.1) {m n : Mo} (hm : m ∈ groupS p) (hn : n ∈ groupS p) : mulG p.2.1 m n ∈ groupS p := by
 obtain ⟨a1, a2, a3⟩ := groupS_iff.1 hm
 obtain ⟨b1, b2, b3⟩ := groupS_iff.1 hn
 refine groupS_iff.2 ⟨stab_mul hl a1 b1, cellB_mem hl (redS_isCell hl _), keep_of hl fun v hv => ?_⟩
 rw [← mv_mul hl a1 v, keep_mv hl a3 (show cellB p.2.1 (mvS p.2.1 n v) = true from redS_isCell hl _), keep_mv hl b3 hv]
theorem groupS_one {p : Pt} (hl : IsL p.2.1) : uMo ∈ groupS p := by
 have h0 : cellB p.2.1 (0, 0) = true := cellB_iff.2 (by have := hl.a1; have := hl.c1; simp only; omega)
 refine groupS_iff.2 ⟨stab_one hl, cellB_mem hl h0, keep_of hl fun v hv => ?_⟩
 rw [mv_one hl hv]
theorem allFrom_of {α : Type} {p : Nat → α → Bool} : ∀ {l : List α} {q : Nat}, (∀ i (h : i < l.length), p (q + i) l[i] = true) → allFrom p q l = true
 | [], _, _ => rfl
 | a :: l, q, h => by
  have h0 := h 0 (by simp)
  have h1 := allFrom_of (p := p) (l := l) (q := q + 1) fun i hi => by
   have := h (i + 1) (by simp; omega)
   have e : q + (i + 1) = q + 1 + i := by omega
   rw [e] at this
   simpa using this
  simp only [allFrom]
  simp only [Nat.add_zero, List.getElem_cons_zero] at h0
  rw [h0, h1]
  rfl
theorem grpB_of {f : Int} {l : Lt} (hl : IsL l) {g : List Mo} (h1 : ∀ m ∈ g, m.1 ∈ stabS f l ∧ cellB l m.2 = true) (h2 : g.Pairwise fun a b => ltM a b = true) (h3 : uMo ∈ g) (h4 : ∀ m ∈ g, ∀ n ∈ g, mulG l m n ∈ g) : grpB f l g = true := by
 unfold grpB
 rw [aT, aT]
 refine ⟨allFrom_of fun i hi => ?_, List.contains_iff_mem.2 h3, List.all_eq_true.2 fun m hm => List.all_eq_true.2 fun n hn => List.contains_iff_mem.2 (h4 m hm n hn)⟩
 obtain ⟨a1, a2⟩ := h1 _ (gM hi)
 unfold preP
 rw [List.contains_iff_mem.2 a1, a2, Nat.zero_add]
 cases i with
 | zero => rfl
 | succ j =>
  have := List.pairwise_iff_getElem.1 h2 j (j + 1) (by omega) hi (by omega)
  have e : (g.getD (j + 1 - 1) dMo) = g[j] := by simp [List.getD, show j < g.length by omega]
  rw [e, this]
  simp
theorem groupS_orb {p : Pt} (hp : IsP p) : OrbG p.1 p.2.1 (groupS p) := by
 have hg := grpB_of (f := p.1) hp.l (g := groupS p) (fun m hm => by
  obtain ⟨a1, a2, _⟩ := groupS_iff.1 hm
  have := mem_cellsS a2
  exact ⟨a1, cellB_iff.2 (by omega)⟩) (groupS_up p) (groupS_one hp.l) fun m hm n hn => groupS_mul hp.l hm hn
 refine ⟨hp.l, pre_of ?_, hg⟩
 unfold grpB at hg
 rw [aT] at hg
 exact hg.1
def dP : Pt := (0, (0, 0, 0), [])
def codeK (p : Pt) (g : List Mo) : Int := bif okP p then (if grpB p.1 p.2.1 g then 0 else 2) else 1
def keptS (p : Pt) (g : List Mo) : Bool := g.all (keepsS p)
theorem orbs_ne {f : Int} {l : Lt} {g : List Mo} (h : OrbG f l g) {o : List Vc} (ho : o ∈ orbsS l g) : ∃ x t, o = x :: t ∧ cellB l x = true := by
 obtain ⟨r, hr, rfl⟩ := List.mem_map.1 ho
 have hc : cellB l r = true := cellsS_cell (List.mem_filter.1 hr).1
 obtain ⟨x, t, e, _⟩ := orb_cons h hc
 exact ⟨x, t, e, orb_cell h (v := r) (by rw [e]; simp)⟩
def resOrb (f : Int) (l : Lt) (g : List Mo) (v : Vc) : List Vc × Int := bif codeC f l g (cellB l v) != 0 then ([], codeC f l g (cellB l v)) else (orbS l g v, 0)
def seedS (l : Lt) (o : List Vc) : List Int := setAll l 1 o (List.replicate (cellsS l).length 0)
def resSP (f : Int) (l : Lt) (g : List Mo) (v : Vc) : Pt × Int := bif codeC f l g (cellB l v) != 0 then ((0, (0, 0, 0), []), codeC f l g (cellB l v)) else ((f, l, seedS l (orbS l g v)), 0)
theorem orbs_len {l : Lt} (hl : IsL l) (g : List Mo) : (orbsS l g).length ≤ 64 := by
 unfold orbsS repsS
 rw [List.length_map]
 exact Nat.le_trans (List.length_filter_le _ _) (cellsS_le hl)
def resON (f : Int) (l : Lt) (g : List Mo) : List Int × Int := bif codeC f l g true != 0 then ([], codeC f l g true) else (numsF l g, 0)
end Go.Proofs.YthlpehmnjanmnaaGreatDoor.X
