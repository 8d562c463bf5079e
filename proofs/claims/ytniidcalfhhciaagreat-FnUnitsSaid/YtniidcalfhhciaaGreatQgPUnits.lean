/- The plain law of FnUnits: units tile; the connected unit is connected. -/
import Derived.Test.YtniidcalfhhciaaGreatQgMM
import Derived.Test.YtniidcalfhhciaaGreatQgMW
import Derived.Test.YtniidcalfhhciaaGreatQgMU
import Derived.Test.YtniidcalfhhciaaGreatQgMZ
import Derived.Test.YtniidcalfhhciaaGreatQgPConnectedUnit
import Derived.Test.YtniidcalfhhciaaGreatQgPTilesByGroup
import Derived.Test.YtniidcalfhhciaaGreatQgPCountOrbits
namespace Go.Proofs.YtniidcalfhhciaaGreat.X
open Go
set_option linter.unusedSimpArgs false
set_option linter.unusedVariables false
/-! ### a tile with one cell of each orbit -/
theorem cover_nodup {α : Type} [DecidableEq α] : ∀ (C L : List α), C.Nodup → (∀ c ∈ C, c ∈ L) → L.length ≤ C.length → L.Nodup
 | [], L, _, _, h => by
  have : L = [] := List.length_eq_zero_iff.1 (by simpa using h)
  rw [this]
  exact List.nodup_nil
 | c :: C, L, hn, hs, hl => by
  obtain ⟨hc, hn'⟩ := List.nodup_cons.1 hn
  obtain ⟨A, B, rfl⟩ := List.append_of_mem (hs c (by simp))
  have hp : (A ++ c :: B).Perm (c :: (A ++ B)) := List.perm_middle
  have hlen : (A ++ B).length ≤ C.length := by simp at hl ⊢; omega
  have hs' : ∀ x ∈ C, x ∈ A ++ B := fun x hx => by
   have := hs x (by simp [hx])
   rcases List.mem_append.1 this with h | h
   ·exact List.mem_append.2 (.inl h)
   ·rcases List.mem_cons.1 h with h | h
    ·subst h; exact absurd hx hc
    ·exact List.mem_append.2 (.inr h)
  have ih := cover_nodup C (A ++ B) hn' hs' hlen
  have hcn : c ∉ A ++ B := fun h => by
   have := nodup_len (c :: C) (A ++ B) hn (fun x hx => by
    rcases List.mem_cons.1 hx with e | e
    ·rw [e]; exact h
    ·exact hs' x e)
   simp only [List.length_cons] at this
   omega
  exact hp.nodup_iff.2 (List.nodup_cons.2 ⟨hcn, ih⟩)
theorem ix_range {f : Int} {l : Lt} {g : List Mo} (h : OrbG f l g) {u : Vc} (hu : cellB l u = true) : ixS l g u ∈ (List.range (orbsS l g).length).map fun (i : Nat) => (i : Int) := by
 obtain ⟨j, hj, ej, _⟩ := ix_at h hu
 exact List.mem_map.2 ⟨j, List.mem_range.2 hj, ej.symm⟩
theorem unit_le {f : Int} {l : Lt} {g : List Mo} (h : OrbG f l g) {t : List Vc} (hc : ∀ u ∈ t, cellB l u = true) (hn : (t.map (ixS l g)).Nodup) : t.length ≤ (orbsS l g).length := by
 have := nodup_len (t.map (ixS l g)) ((List.range (orbsS l g).length).map fun (i : Nat) => (i : Int)) hn (fun x hx => by
  obtain ⟨u, hu, eu⟩ := List.mem_map.1 hx
  rw [← eu]
  exact ix_range h (hc u hu))
 simpa using this
theorem tiles_of {f : Int} {l : Lt} {g : List Mo} (h : OrbG f l g) (hfree : ∀ o ∈ orbsS l g, o.length = g.length) {t : List Vc} (hc : ∀ u ∈ t, cellB l u = true) (hn : (t.map (ixS l g)).Nodup) (hlen : t.length = (orbsS l g).length) : tilesP l g t ∧ t.length * g.length = (cellsS l).length := by
 have htot : t.length * g.length = (cellsS l).length := by
  rw [← orbs_total h, sum_const hfree, hlen]
 have hcov : ∀ v ∈ cellsS l, v ∈ (cpsS l g t).flatten := fun v hv => by
  have hv' := cellsS_cell hv
  have hex : ∃ u ∈ t, ixS l g u = ixS l g v := by
   by_cases hm : ixS l g v ∈ t.map (ixS l g)
   ·obtain ⟨u, hu, eu⟩ := List.mem_map.1 hm
    exact ⟨u, hu, eu⟩
   ·exfalso
    have := nodup_len (ixS l g v :: t.map (ixS l g)) ((List.range (orbsS l g).length).map fun (i : Nat) => (i : Int)) (List.nodup_cons.2 ⟨hm, hn⟩) (fun x hx => by
     rcases List.mem_cons.1 hx with e | e
     ·rw [e]; exact ix_range h hv'
     ·obtain ⟨u, hu, eu⟩ := List.mem_map.1 e
      rw [← eu]
      exact ix_range h (hc u hu))
    simp at this
    omega
  obtain ⟨u, hu, eu⟩ := hex
  have hs := ix_same h hv' (hc u hu)
  rw [eu, beq_self_eq_true] at hs
  obtain ⟨m, hm, em⟩ := orbS_mem.1 (List.contains_iff_mem.1 hs.symm)
  exact List.mem_flatten.2 ⟨t.map (mvS l m), List.mem_map.2 ⟨m, hm, rfl⟩, List.mem_map.2 ⟨u, hu, em.symm⟩⟩
 exact ⟨⟨cover_nodup (cellsS l) _ (cellsS_nodup h.la) hcov (by rw [cps_len, Nat.mul_comm]; omega), hcov⟩, htot⟩
structure FreeU (f : Int) (l : Lt) (g : List Mo) : Prop where
 c : codeC f l g true = 0
 o : OrbG f l g
 fr : ∀ o ∈ orbsS l g, o.length = g.length
 n : (orbsS l g).length ≤ 16
theorem free_of {f : Int} {l : Lt} {g : List Mo} (h : (unitS f l g).2 = 0) : FreeU f l g := by
 unfold unitS at h
 cases h1 : codeC f l g true != 0
 ·have h0 : codeC f l g true = 0 := by simpa using h1
  have hO := (codeC_0 h0).1
  rw [h1, cond_false] at h
  cases h2 : (orbsS l g).any (fun o => decide (o.length < g.length))
  ·rw [h2, cond_false] at h
   cases h3 : decide ((orbsS l g).length > 16)
   ·refine ⟨h0, hO, fun o ho => ?_, by simpa using h3⟩
    have hge : ¬ o.length < g.length := fun hlt => by
     have : (orbsS l g).any (fun o => decide (o.length < g.length)) = true := List.any_eq_true.2 ⟨o, ho, decide_eq_true hlt⟩
     rw [h2] at this
     cases this
    have hle : o.length ≤ g.length := by
     unfold orbsS at ho
     obtain ⟨r, _, rfl⟩ := List.mem_map.1 ho
     exact orbS_len l g r
    omega
   ·rw [h3, cond_true] at h; cases h
  ·rw [h2, cond_true] at h; cases h
 ·rw [h1, cond_true] at h
  have h : codeC f l g true = 0 := h
  rw [h] at h1
  cases h1
/-- a tile in the reference's sense out of the cells of a unit -/
theorem unit_tile {l : Lt} (hl : IsL l) {t : List Vc} (hs : SI t) (hc : ∀ u ∈ t, cellB l u = true) (h1 : 1 ≤ t.length) (h2 : t.length ≤ 16) : tileB t = true := by
 unfold tileB
 rw [decide_eq_true h1, decide_eq_true h2, Bool.and_self, Bool.and_true]
 refine allFrom_of fun i hi => ?_
 unfold tileP
 rw [cellB_vec hl (hc _ (List.getElem_mem hi)), Nat.zero_add]
 cases i with
 | zero => rfl
 | succ j =>
  have := List.pairwise_iff_getElem.1 hs j (j + 1) (by omega) hi (by omega)
  have e : (t.getD (j + 1 - 1) (0, 0)) = t[j] := by simp [List.getD, show j < t.length by omega]
  rw [e, this]
  simp
theorem unit_ti {f : Int} {l : Lt} {g : List Mo} (hF : FreeU f l g) {t : List Vc} (hs : SI t) (hc : ∀ u ∈ t, cellB l u = true) (hn : (t.map (ixS l g)).Nodup) (hlen : t.length = (orbsS l g).length) (h1 : 1 ≤ t.length) : resTi f l g t = (true, 0) ∧ t.length * g.length = (cellsS l).length := by
 obtain ⟨c1, c2, c3, _⟩ := codeC_parts hF.c
 obtain ⟨ht, hx⟩ := tiles_of hF.o hF.fr hc hn hlen
 have hcode : codeT f l g t = 0 := by
  unfold codeT
  rw [c1, c2, unit_tile hF.o.la hs hc h1 (by rw [hlen]; exact hF.n), c3]
  rfl
 refine ⟨?_, hx⟩
 unfold resTi
 rw [hcode, decide_eq_true ht]
 rfl
/-! ### the least unit -/
theorem heads_reps {f : Int} {l : Lt} {g : List Mo} (h : OrbG f l g) : (orbsS l g).map (fun o => o.headD (0, 0)) = repsS l g := by
 unfold orbsS
 rw [List.map_map]
 have : ∀ r ∈ repsS l g, ((fun o : List Vc => o.headD (0, 0)) ∘ orbS l g) r = r := fun r hr => by
  have := (reps_mem hr).2
  unfold repB at this
  exact beq_iff_eq.1 this
 rw [List.map_congr_left this, List.map_id'']
 exact fun _ => rfl
theorem least_props {f : Int} {l : Lt} {g : List Mo} (h : (leastS f l g).2 = 0) : FreeU f l g ∧ leastS f l g = (repsS l g, 0) ∧ SI (repsS l g) ∧ (∀ u ∈ repsS l g, cellB l u = true) ∧ ((repsS l g).map (ixS l g)).Nodup ∧ (repsS l g).length = (orbsS l g).length ∧ (unitS f l g).2 = 0 := by
 unfold leastS at h ⊢
 cases hc : (unitS f l g).2 != 0
 ·have h0 : (unitS f l g).2 = 0 := by simpa using hc
  have hF := free_of h0
  have hlen : (repsS l g).length = (orbsS l g).length := by unfold orbsS; rw [List.length_map]
  refine ⟨hF, ?_, List.Pairwise.sublist List.filter_sublist (cellsS_SI l), fun u hu => (reps_mem hu).1, ?_, hlen, h0⟩
  ·rw [cond_false, (unitS_0 h0).2, heads_reps hF.o]
  ·refine List.pairwise_iff_getElem.2 fun i j hi hj hij => ?_
   have ix : ∀ i (hi : i < (repsS l g).length), ixS l g (repsS l g)[i] = (i : Int) := fun i hi => by
    refine ix_of' hF.o (by omega) ?_
    unfold orbsS
    rw [List.getElem_map]
    exact orb_self hF.o (reps_mem (List.getElem_mem hi)).1
   simp only [List.getElem_map, List.length_map] at hi hj ⊢
   rw [ix i hi, ix j hj]
   omega
 ·rw [hc, cond_true] at h
  have h : (unitS f l g).2 = 0 := h
  rw [h] at hc
  cases hc
where
 ix_of' {f : Int} {l : Lt} {g : List Mo} (h : OrbG f l g) {j : Nat} (hj : j < (orbsS l g).length) {u : Vc} (hu : u ∈ (orbsS l g)[j]) : ixS l g u = (j : Int) := by
  have hc := (orbs_cell h (List.getElem_mem hj)).1 u hu
  obtain ⟨k, hk, e, hin⟩ := ix_at h hc
  have no : ∀ (a b : Nat) (ha : a < (orbsS l g).length) (hb : b < (orbsS l g).length), a < b → u ∈ (orbsS l g)[a] → u ∈ (orbsS l g)[b] → False := fun a b ha hb hab h1 h2 => by
   have := orbs_apart h hb h2
   have h3 : ((orbsS l g).take b).any (fun o => o.contains u) = true := List.any_eq_true.2 ⟨(orbsS l g)[a], List.mem_take_iff_getElem.2 ⟨a, by omega, rfl⟩, List.contains_iff_mem.2 h1⟩
   rw [this] at h3
   cases h3
  by_cases h1 : j < k
  ·exact absurd hin fun h2 => no j k hj hk h1 hu h2
  ·by_cases h2 : k < j
   ·exact absurd hu fun h3 => no k j hk hj h2 hin h3
   ·have : k = j := by omega
    rw [e, this]
/-! ### the connected unit -/
inductive Rc (s : List Vc) : Vc → Prop where
 | zero : Rc s (0, 0)
 | step (u c : Vc) : Rc s u → c ∈ s → nearU u c = true → Rc s c
theorem Rc.mono {s s' : List Vc} (hs : ∀ x ∈ s, x ∈ s') {u : Vc} (h : Rc s u) : Rc s' u := by
 induction h with
 | zero => exact .zero
 | step u c _ hc hn ih => exact .step u c ih (hs c hc) hn
structure Cv (l : Lt) (g : List Mo) (s : List Vc) : Prop where
 si : SI s
 cell : ∀ x ∈ s, cellB l x = true
 nd : (s.map (ixS l g)).Nodup
 z : (0, 0) ∈ s
 rc : ∀ u ∈ s, Rc s u
theorem insP_perm {c : Vc} {s : List Vc} (hs : SI s) (hc : c ∉ s) : (insP c s).Perm (c :: s) :=
 (List.perm_ext_iff_of_nodup (SI_nodup (insP_SI c hs)) (List.nodup_cons.2 ⟨hc, SI_nodup hs⟩)).2 fun x => by rw [insP_mem, List.mem_cons]
theorem Cv.ins {l : Lt} {g : List Mo} {s : List Vc} (h : Cv l g s) {c : Vc} (hc : cellB l c = true) (hf : freeS l g s c = true) : Cv l g (insP c s) ∧ (insP c s).length = s.length + 1 := by
 unfold freeS at hf
 rw [Bool.and_eq_true] at hf
 have hu : usedS l g s c = false := by simpa using hf.2
 have hix : ixS l g c ∉ s.map (ixS l g) := fun hm => by
  obtain ⟨u, hu1, eu⟩ := List.mem_map.1 hm
  have : usedS l g s c = true := List.any_eq_true.2 ⟨u, hu1, by rw [beq_iff_eq]; exact eu.symm⟩
  rw [hu] at this
  cases this
 have hcs : c ∉ s := fun hm => hix (List.mem_map.2 ⟨c, hm, rfl⟩)
 have hp := insP_perm h.si hcs
 have hsub : ∀ x ∈ s, x ∈ insP c s := fun x hx => (insP_mem c s x).2 (.inr hx)
 have hcin : c ∈ insP c s := (insP_mem c s c).2 (.inl rfl)
 refine ⟨⟨insP_SI c h.si, fun x hx => ?_, ?_, hsub _ h.z, fun u hu2 => ?_⟩, by rw [hp.length_eq]; rfl⟩
 ·rcases (insP_mem c s x).1 hx with e | e
  ·rw [e]; exact hc
  ·exact h.cell x e
 ·exact (hp.map (ixS l g)).nodup_iff.2 (List.nodup_cons.2 ⟨hix, h.nd⟩)
 ·rcases (insP_mem c s u).1 hu2 with e | e
  ·rw [e]
   obtain ⟨w, hw, hnear⟩ := List.any_eq_true.1 hf.1
   exact .step w c ((h.rc w hw).mono hsub) hcin hnear
  ·exact (h.rc u e).mono hsub
theorem cs_loop {f : Int} {l : Lt} {g : List Mo} (h : OrbG f l g) {c1 : Int} (hn16 : (orbsS l g).length ≤ 1000) : ∀ (k : Nat) (s : List Vc), Cv l g s → s.length ≤ 1000 → (orbsS l g).length - s.length < k →
  ∃ r : List Vc × Int, f107_l6 KK f l g (orbsS l g, c1) (numsF l g) k s = some r ∧ (r.2 = 0 → Cv l g r.1 ∧ (orbsS l g).length ≤ r.1.length)
 | 0, _, _, _, h => by omega
 | k + 1, s, hC, hs1, hk => by
  have hN := cellsS_le h.la
  have es : f107_l6 KK f l g (orbsS l g, c1) (numsF l g) (k + 1) s = f107_b6 KK f l g (orbsS l g, c1) (numsF l g) (fun v0 => f107_l6 KK f l g (orbsS l g, c1) (numsF l g) k v0) s := rfl
  rw [es]
  unfold f107_b6
  simp only
  rw [lenlt]
  cases hlt : decide (s.length < (orbsS l g).length)
  ·exact ⟨(s, 0), rfl, fun _ => ⟨hC, by simpa using hlt⟩⟩
  ·have hlt' : s.length < (orbsS l g).length := by simpa using hlt
   simp only [cond_true]
   rw [l23Next_eq h hC.cell hs1, Option.bind_some]
   rcases idxS_spec (freeS l g s) (cellsS l) 0 with ⟨e, _⟩ | ⟨q, hq, e, _, c, hc1, hc2⟩
   ·rw [e]
    exact ⟨([], 4), rfl, fun h4 => by cases h4⟩
   ·rw [Nat.zero_add] at e
    rw [e]
    have eq : (q : Int).toNat = q := by omega
    have hcq : (cellsS l)[q] = c := by
     rw [List.getElem?_eq_getElem hq, Option.some.injEq] at hc1
     exact hc1
    have hcc : cellB l c = true := by rw [← hcq]; exact cellsS_cell (List.getElem_mem hq)
    have gcell : (cellsS l).getD q (0, 0) = c := by rw [List.getD_eq_getElem?_getD, hc1]; rfl
    rw [show decide ((q : Int) ≥ 0) = true by simp, eq, gcell]
    simp only [cond_true, cond_false, Bool.not_true]
    rw [l01Insert_eq (by omega), Option.bind_some]
    obtain ⟨hC2, hl2⟩ := hC.ins hcc hc2
    exact cs_loop h hn16 k (insP c s) hC2 (by omega) (by omega)
theorem cu_props {f : Int} {l : Lt} {g : List Mo} (hn : g.length ≤ 1048576) {r : List Vc × Int} (hr : f107G KK f l g = some r) (h0 : r.2 = 0) : FreeU f l g ∧ Cv l g r.1 ∧ r.1.length = (orbsS l g).length ∧ (unitS f l g).2 = 0 := by
 unfold f107G f107_g at hr
 rw [l23Free_eq f l hn, Option.bind_some] at hr
 cases h : (unitS f l g).2 != 0
 ·have hu : (unitS f l g).2 = 0 := by simpa using h
  obtain ⟨hG, e⟩ := unitS_0 hu
  have hF := free_of hu
  have hn16 := hF.n
  rw [h, cond_false, l07Numbers_eq hG, Option.bind_some] at hr
  have e2 : unitS f l g = (orbsS l g, 0) := Prod.ext e hu
  rw [e2] at hr
  have hz := zero_cell hG.la
  obtain ⟨r2, e3, hp⟩ := cs_loop hG (c1 := 0) (by omega) KK [(0, 0)] ⟨by simp [SI], fun x hx => by rw [List.mem_singleton] at hx; rw [hx]; exact hz, by simp, by simp, fun u hu => by rw [List.mem_singleton] at hu; rw [hu]; exact .zero⟩ (by simp) (by simp only [KK]; omega)
  have e4 : some r2 = some r := e3.symm.trans hr
  rw [Option.some.injEq] at e4
  subst e4
  obtain ⟨a, b⟩ := hp h0
  exact ⟨hF, a, Nat.le_antisymm (unit_le hG a.cell a.nd) b, hu⟩
 ·rw [h, cond_true, Option.some.injEq] at hr
  rw [← hr] at h0
  have h0 : (unitS f l g).2 = 0 := h0
  rw [h0] at h
  cases h
/-! ### a walk over a tile -/
theorem neigh_eq {c : Vc} (hb : 0 ≤ c.1 ∧ c.1 ≤ 63 ∧ 0 ≤ c.2 ∧ c.2 ≤ 63) : f227G KK c = some (stepsV.map fun s => ((c.1 + s.1, c.2 + s.2) : Vc)) := by
 unfold f227G f289G
 simp only [Option.bind_some]
 have a1 := addV (s := (1, 0)) hb (by decide)
 have a2 := addV (s := (0, 1)) hb (by decide)
 have a3 := addV (s := (-1, 0)) hb (by decide)
 have a4 := addV (s := (0, -1)) hb (by decide)
 simp only at a1 a2 a3 a4
 rw [a1, a2, a3, a4]
 rfl
def goQ (t : List Vc) (q : List Vc) (n : Vc) : List Vc := bif t.contains n && !q.contains n then q ++ [n] else q
structure Bq (t : List Vc) (q : List Vc) : Prop where
 sub : ∀ x ∈ q, x ∈ t
 nd : q.Nodup
 z : (0, 0) ∈ q
theorem goQ_ok {t q : List Vc} (h : Bq t q) (n : Vc) : Bq t (goQ t q n) ∧ (∃ e, goQ t q n = q ++ e) ∧ (n ∈ t → n ∈ goQ t q n) := by
 unfold goQ
 cases h1 : t.contains n
 ·refine ⟨h, ⟨[], by simp⟩, fun hn => ?_⟩
  rw [List.contains_iff_mem.2 hn] at h1
  cases h1
 ·cases h2 : q.contains n
  ·have hnq : n ∉ q := fun hm => by rw [List.contains_iff_mem.2 hm] at h2; cases h2
   refine ⟨⟨fun x hx => ?_, ?_, List.mem_append.2 (.inl h.z)⟩, ⟨[n], rfl⟩, fun _ => by simp⟩
   ·rcases List.mem_append.1 hx with e | e
    ·exact h.sub x e
    ·rw [List.mem_singleton] at e; rw [e]; exact List.contains_iff_mem.1 h1
   ·rw [show (bif true && !false then q ++ [n] else q) = q ++ [n] from rfl, List.nodup_append]
    refine ⟨h.nd, by simp, fun a ha b hb e => ?_⟩
    rw [List.mem_singleton] at hb
    subst hb
    subst e
    exact hnq ha
  ·exact ⟨h, ⟨[], by simp⟩, fun _ => List.contains_iff_mem.1 h2⟩
theorem foldQ_ok {t : List Vc} : ∀ (N : List Vc) {q : List Vc}, Bq t q → Bq t (N.foldl (goQ t) q) ∧ (∃ e, N.foldl (goQ t) q = q ++ e) ∧ ∀ n ∈ N, n ∈ t → n ∈ N.foldl (goQ t) q
 | [], q, h => ⟨h, ⟨[], by simp⟩, fun n hn => by cases hn⟩
 | a :: N, q, h => by
  obtain ⟨h1, ⟨e1, he1⟩, m1⟩ := goQ_ok h a
  obtain ⟨h2, ⟨e2, he2⟩, m2⟩ := foldQ_ok N h1
  refine ⟨h2, ⟨e1 ++ e2, by rw [List.foldl_cons, he2, he1, List.append_assoc]⟩, fun n hn ht => ?_⟩
  rcases List.mem_cons.1 hn with e | e
  ·rw [List.foldl_cons, he2, e]
   exact List.mem_append.2 (.inl (m1 (by rw [← e]; exact ht)))
  ·exact m2 n e ht
theorem walk_in {t : List Vc} (ht : t.length ≤ 16) {at0 : Int} {q0 N : List Vc} (hN : N.length ≤ 4) {L : Int → List Vc → Option Bool} {q : List Vc} (hq : Bq t q) :
  f238_l15 KK t at0 q0 N L KK 0 q = L (w (at0 + 1)) (N.foldl (goQ t) q) := by
 have hh := iter_fold (R := Bool) (body := fun L' x => f238_b15 KK t at0 q0 N L (fun v0 v1 => L' (v0, v1)) x.1 x.2) N (fun i s => ((i : Int), s)) (goQ t) (fun s => L (w (at0 + 1)) s) (fun i s => Bq t s)
  (fun L' i s hi hs => by
   have hsl : s.length ≤ t.length := nodup_len s t hs.nd hs.sub
   refine ⟨(goQ_ok hs _).1, ?_⟩
   show f238_b15 KK t at0 q0 N L (fun v0 v1 => L' (v0, v1)) (i : Int) s = _
   unfold f238_b15 goQ
   rw [in1 hi, in0, gd hi]
   simp only [Bool.and_self, Bool.or_true, cond_true]
   rw [containsVc_eq (by omega), Option.bind_some, w_succ (by omega)]
   cases t.contains N[i]
   ·simp only [cond_false, Option.bind_some, Bool.false_and]
   ·simp only [cond_true, Bool.true_and]
    rw [containsVc_eq (by omega), Option.bind_some, blim16 (by simp; omega)]
    cases s.contains N[i] <;> rfl)
  (fun L' s _ => by
   show f238_b15 KK t at0 q0 N L (fun v0 v1 => L' (v0, v1)) (N.length : Int) s = _
   unfold f238_b15
   rw [out1, cond_false]) KK 0 q (by omega) (by simp only [KK]; omega) hq
 rw [List.drop_zero] at hh
 unfold f238_l15
 exact hh
def nbV (c : Vc) : List Vc := stepsV.map fun s => ((c.1 + s.1, c.2 + s.2) : Vc)
theorem walk_out {l : Lt} (hl : IsL l) {t : List Vc} (ht : t.length ≤ 16) (hc : ∀ u ∈ t, cellB l u = true) : ∀ (n a : Nat) (q : List Vc), Bq t q → a ≤ q.length → 16 - a < n → (∀ j (hj : j < q.length), j < a → ∀ x ∈ nbV q[j], x ∈ t → x ∈ q) →
  ∃ q', Bq t q' ∧ (∀ u ∈ q', ∀ x ∈ nbV u, x ∈ t → x ∈ q') ∧ f238_l11 KK t n (a : Int) q = some ((q'.length : Int) == (t.length : Int))
 | 0, a, q, _, _, h, _ => by omega
 | n + 1, a, q, hq, ha, hk, hd => by
  have hql : q.length ≤ t.length := nodup_len q t hq.nd hq.sub
  show ∃ q', Bq t q' ∧ (∀ u ∈ q', ∀ x ∈ nbV u, x ∈ t → x ∈ q') ∧ f238_b11 KK t (fun c0 c1 c2 d0 d1 => f238_l15 KK t c0 c1 c2 (fun v0 v1 => f238_l11 KK t n v0 v1) KK d0 d1) (fun v0 v1 => f238_l11 KK t n v0 v1) (a : Int) q = _
  unfold f238_b11
  by_cases hlt : a < q.length
  ·have hcell := hc _ (hq.sub _ (List.getElem_mem hlt))
   rw [in1 hlt, in0, gd hlt, neigh_eq (cell_bounds hl hcell), Option.bind_some]
   simp only [Bool.and_self, cond_true]
   obtain ⟨h1, ⟨e, he⟩, m1⟩ := foldQ_ok (t := t) (nbV q[a]) hq
   have hw := walk_in ht (at0 := (a : Int)) (q0 := q) (N := nbV q[a]) (by simp [nbV, stepsV]) (L := fun v0 v1 => f238_l11 KK t n v0 v1) hq
   rw [w_succ (by omega)] at hw
   have hge : q.length ≤ ((nbV q[a]).foldl (goQ t) q).length := by rw [he, List.length_append]; omega
   obtain ⟨q', p1, p2, p3⟩ := walk_out hl ht hc n (a + 1) ((nbV q[a]).foldl (goQ t) q) h1 (by omega) (by omega) (fun j hj hja x hx hxt => by
    by_cases e1 : j < a
    ·have hjq : j < q.length := by omega
     have eg : ((nbV q[a]).foldl (goQ t) q)[j] = q[j] := (List.getElem_of_eq he hj).trans (List.getElem_append_left hjq)
     rw [eg] at hx
     rw [he]
     exact List.mem_append.2 (.inl (hd j hjq e1 x hx hxt))
    ·have e2 : j = a := by omega
     subst e2
     have eg : ((nbV q[j]).foldl (goQ t) q)[j] = q[j] := (List.getElem_of_eq he hj).trans (List.getElem_append_left hlt)
     rw [eg] at hx
     exact m1 x hx hxt)
   exact ⟨q', p1, p2, hw.trans p3⟩
  ·have e : a = q.length := by omega
   subst e
   rw [out1, cond_false]
   refine ⟨q, hq, fun u hu x hx hxt => ?_, rfl⟩
   obtain ⟨j, hj, rfl⟩ := List.getElem_of_mem hu
   exact hd j hj hj x hx hxt
theorem zero_min {l : Lt} {w : Vc} (h : cellB l w = true) : ltV w (0, 0) = false := by
 have b := cellB_iff.1 h
 by_cases e1 : w.1 = 0
 ·by_cases e2 : w.2 = 0
  ·have : w = (0, 0) := Prod.ext e1 e2
   rw [this]
   exact ltV_irrefl _
  ·have hx : w = (0, w.2) := Prod.ext e1 rfl
   rw [hx]
   exact ltV_asymm (ltV_snd (by omega))
 ·exact ltV_asymm (ltV_fst (by simp only; omega))
theorem conn_ok {l : Lt} {g : List Mo} (hl : IsL l) {t : List Vc} (hC : Cv l g t) (ht : t.length ≤ 16) : f110G KK t = some (true, 0) := by
 have h1 : 1 ≤ t.length := List.length_pos_of_mem hC.z
 have h0 : t[0] = (0, 0) := by
  obtain ⟨j, hj, e⟩ := List.getElem_of_mem hC.z
  by_cases hj0 : j = 0
  ·subst hj0; exact e
  ·have hp := List.pairwise_iff_getElem.1 hC.si 0 j (by omega) hj (by omega)
   rw [e, zero_min (hC.cell _ (List.getElem_mem (by omega)))] at hp
   cases hp
 unfold f110G f238G f238_g
 rw [isTile_eq (by omega), unit_tile hl hC.si hC.cell h1 ht, Option.bind_some, Bool.not_true, cond_false]
 have hg0 : t.getD ((0 : Int) + (0 : Int)).toNat (0, 0) = (0, 0) := by
  show t.getD 0 (0, 0) = (0, 0)
  rw [List.getD_eq_getElem?_getD, List.getElem?_eq_getElem (by omega), h0]
  rfl
 rw [decide_eq_true (show (0 : Int) < (t.length : Int) by omega), hg0]
 simp only [Int.le_refl, decide_true, Bool.and_self, cond_true]
 obtain ⟨q, p1, p2, p3⟩ := walk_out hl ht hC.cell KK 0 [(0, 0)] ⟨fun x hx => by rw [List.mem_singleton] at hx; rw [hx]; exact hC.z, by simp, by simp⟩ (by omega) (by simp only [KK]; omega) (fun j _ h => by omega)
 have hall : ∀ u, Rc t u → u ∈ q := fun u hu => by
  induction hu with
  | zero => exact p1.z
  | step u c _ hc hn ih =>
   unfold nearU at hn
   obtain ⟨s, hs, e⟩ := List.any_eq_true.1 hn
   rw [beq_iff_eq] at e
   exact p2 u ih c (List.mem_map.2 ⟨s, hs, e⟩) hc
 have hle : t.length ≤ q.length := nodup_len t q (SI_nodup hC.si) fun x hx => hall x (hC.rc x hx)
 have hge : q.length ≤ t.length := nodup_len q t p1.nd p1.sub
 have e5 : ((q.length : Int) == (t.length : Int)) = true := by rw [beq_iff_eq]; omega
 rw [e5] at p3
 rw [show f238_l11 KK t KK (0 : Int) [(0, 0)] = some true from p3]
 rfl
theorem FnUnits_pure (a0 : List Int) (h : WfA [(.list 5 (.int .u8))] (a0, ())) : ∃ K, f12G K a0 = some true := by
 refine ⟨KK, ?_⟩
 have hw : Wf (.list 5 (.int .u8)) a0 := h.1
 unfold f12G
 rw [big_eq, Option.bind_some]
 by_cases hb : (a0.length : Int) > 4096
 ·rw [decide_eq_true hb]; rfl
 ·rw [decide_eq_false hb, cond_false]
  obtain ⟨t0, s0, e0⟩ := from_ok (code_ok hw) (by omega)
  obtain ⟨t1, f, l, g, e1, s1, hg⟩ := dfree_ok s0
  have eD : f105G KK a0 = some (f, l, g) := by
   unfold f105G
   rw [e0, Option.bind_some, e1]
   rfl
  have hn : g.length ≤ 1048576 := by omega
  obtain ⟨r, hr, eS, eI⟩ := unit_run f l hn
  have hll := leastS_len (f := f) (l := l) (g := g)
  have tail : r.2 = 0 → resTi f l g r.1 = (true, 0) ∧ f110G KK r.1 = some (true, 0) ∧ (leastS f l g).2 = 0 ∧ (w ((r.1.length : Int) * (g.length : Int)) == w (l.1 * l.2.2)) = true := by
   intro h0
   obtain ⟨hF, hC, hlen, hu⟩ := cu_props hn eS h0
   have hL := hF.o.la
   have h16 : r.1.length ≤ 16 := by rw [hlen]; exact hF.n
   obtain ⟨x1, x2⟩ := unit_ti hF hC.si hC.cell hC.nd hlen (List.length_pos_of_mem hC.z)
   refine ⟨x1, conn_ok hL hC h16, ?_, ?_⟩
   ·unfold leastS
    rw [hu]
    rfl
   ·have hN := cellsS_le hL
    rw [len_eq hL, ← Int.natCast_mul, x2, w_id (by omega) (by omega)]
    exact beq_self_eq_true _
  rw [eD, Option.bind_some]
  simp only
  rw [eI, Option.bind_some, eS, Option.bind_some, implLU_eq f l hn, Option.bind_some, specLU_eq f l hn, Option.bind_some]
  simp only [bne_self_eq_false, Bool.not_false, Bool.not_true, Bool.or_true, cond_true, cond_false]
  rw [likeVecs_eq (by omega), Option.bind_some]
  simp only [bne_self_eq_false, Bool.not_false, Bool.not_true, Bool.or_true, cond_true, cond_false]
  rw [likeVecs_eq (by omega), Option.bind_some]
  simp only [bne_self_eq_false, Bool.not_false, Bool.not_true, Bool.or_true, cond_true, cond_false]
  cases hl : (leastS f l g).2 == 0
  ·rw [cond_false]
   cases h2 : r.2 != 0
   ·obtain ⟨_, _, x3, _⟩ := tail (by simpa using h2)
    rw [x3] at hl
    cases hl
   ·rfl
  ·obtain ⟨hF, e, y1, y2, y3, y4, _⟩ := least_props (beq_iff_eq.1 hl)
   have y5 : 1 ≤ (repsS l g).length := by
    rw [y4]
    obtain ⟨k, hk, _⟩ := ix_at hF.o (zero_cell hF.o.la)
    omega
   obtain ⟨z1, _⟩ := unit_ti hF y1 y2 y3 y4 y5
   have h16 := hF.n
   have eC : resCO f l g = ((((orbsS l g).length : Nat) : Int), 0) := by
    unfold resCO
    rw [hF.c]
    rfl
   rw [cond_true, e]
   simp only
   rw [implTiles_eq f l hn (by omega), Option.bind_some, z1, implCO_eq f l hn, Option.bind_some, eC, y4]
   simp only [bne_self_eq_false, Bool.not_false, Bool.not_true, Bool.or_true, cond_true, cond_false]
   cases h2 : r.2 != 0
   ·obtain ⟨x1, x2, x3, x4⟩ := tail (by simpa using h2)
    rw [cond_false, implTiles_eq f l hn (by omega), Option.bind_some, x1, x2, Option.bind_some]
    simp only [beq_self_eq_true, cond_true]
    rw [x4]
   ·rfl
end Go.Proofs.YtniidcalfhhciaaGreat.X
