/- Plain facts: a group acts on the cells; orbits divide them. -/
import Derived.Test.YtfccacobkcglcaaGreatQeMK
namespace Go.Proofs.YtfccacobkcglcaaGreat.X
open Go
set_option linter.unusedSimpArgs false
set_option linter.unusedVariables false
theorem red_cong {l : Lt} (hl : IsL l) {u v : Vc} : redS l u = redS l v ↔ InL l (u.1 - v.1, u.2 - v.2) := by
  have ha := hl.a1
  have hc := hl.c1
  constructor
  · intro h
    have h1 : (u.1 - (u.2 / l.2.2) * l.2.1) % l.1 = (v.1 - (v.2 / l.2.2) * l.2.1) % l.1 := congrArg Prod.fst h
    have h2 : u.2 % l.2.2 = v.2 % l.2.2 := congrArg Prod.snd h
    have e1 := Int.mul_ediv_add_emod (u.1 - (u.2 / l.2.2) * l.2.1) l.1
    have e2 := Int.mul_ediv_add_emod (v.1 - (v.2 / l.2.2) * l.2.1) l.1
    have e3 := Int.mul_ediv_add_emod u.2 l.2.2
    have e4 := Int.mul_ediv_add_emod v.2 l.2.2
    rw [Int.mul_comm] at e1 e2 e3 e4
    refine ⟨(u.1 - (u.2 / l.2.2) * l.2.1) / l.1 - (v.1 - (v.2 / l.2.2) * l.2.1) / l.1, u.2 / l.2.2 - v.2 / l.2.2, Prod.ext ?_ ?_⟩
    · show u.1 - v.1 = _
      rw [Int.sub_mul, Int.sub_mul]
      omega
    · have e5 := Int.sub_mul (u.2 / l.2.2) (v.2 / l.2.2) l.2.2
      show u.2 - v.2 = (u.2 / l.2.2 - v.2 / l.2.2) * l.2.2
      omega
  · rintro ⟨i, j, h⟩
    have h1 : u.1 - v.1 = i * l.1 + j * l.2.1 := congrArg Prod.fst h
    have h2 : u.2 - v.2 = j * l.2.2 := congrArg Prod.snd h
    have e2 : u.2 = v.2 + j * l.2.2 := by omega
    have d : u.2 / l.2.2 = v.2 / l.2.2 + j := by rw [e2, Int.add_mul_ediv_right _ _ (by omega)]
    refine Prod.ext ?_ ?_
    · show (u.1 - (u.2 / l.2.2) * l.2.1) % l.1 = (v.1 - (v.2 / l.2.2) * l.2.1) % l.1
      refine emod_cong ⟨i, ?_⟩
      rw [d, Int.add_mul, Int.mul_comm l.1 i]
      omega
    · show u.2 % l.2.2 = v.2 % l.2.2
      exact emod_cong ⟨j, by rw [Int.mul_comm]; exact h2⟩
theorem InL_zero (l : Lt) : InL l (0, 0) := ⟨0, 0, by simp⟩
theorem InL_neg {l : Lt} {u : Vc} (hu : InL l u) : InL l (-u.1, -u.2) := Clo_neg (InL_clo l) hu
theorem mulS_lin (m : Mt) (u v : Vc) (i j : Int) : mulS m (i * u.1 + j * v.1, i * u.2 + j * v.2) = (i * (mulS m u).1 + j * (mulS m v).1, i * (mulS m u).2 + j * (mulS m v).2) := by
  unfold mulS
  refine Prod.ext ?_ ?_ <;> simp only [Int.mul_add, Int.mul_left_comm m.1, Int.mul_left_comm m.2.1, Int.mul_left_comm m.2.2.1, Int.mul_left_comm m.2.2.2] <;> omega
theorem mulS_sub (m : Mt) (u v : Vc) : mulS m (u.1 - v.1, u.2 - v.2) = ((mulS m u).1 - (mulS m v).1, (mulS m u).2 - (mulS m v).2) := by
  unfold mulS
  refine Prod.ext ?_ ?_ <;> simp only [Int.mul_sub] <;> omega
theorem InL_mul {l : Lt} (hl : IsL l) {m : Mt} (hs : stayS l m = true) {v : Vc} (hv : InL l v) : InL l (mulS m v) := by
  unfold stayS at hs
  simp only [Bool.and_eq_true, beq_iff_eq] at hs
  have h1 := (redS_InL hl _).1 hs.1
  have h2 := (redS_InL hl _).1 hs.2
  obtain ⟨i, j, rfl⟩ := hv
  have e := mulS_lin m (l.1, 0) l.2 i j
  have e2 : ((i * l.1 + j * l.2.1, j * l.2.2) : Vc) = (i * l.1 + j * l.2.1, i * 0 + j * l.2.2) := by simp
  rw [e2]
  have e3 : mulS m (i * l.1 + j * l.2.1, i * 0 + j * l.2.2) = (i * (mulS m (l.1, 0)).1 + j * (mulS m l.2).1, i * (mulS m (l.1, 0)).2 + j * (mulS m l.2).2) := e
  rw [e3]
  have a1 := InL_clo l (0, 0) _ i (InL_zero l) h1
  have a2 := InL_clo l _ _ j a1 h2
  simpa using a2
theorem mulS_mm (m n : Mt) (v : Vc) : mulS (mmS m n) v = mulS m (mulS n v) := by
  unfold mulS mmS
  refine Prod.ext ?_ ?_ <;> simp only [Int.mul_add, Int.add_mul, Int.mul_assoc] <;> omega
theorem mulS_one (v : Vc) : mulS (1, 0, 0, 1) v = v := by
  unfold mulS
  simp
def powM (m : Mt) : Nat → Mt
  | 0 => (1, 0, 0, 1)
  | k + 1 => mmS m (powM m k)
theorem pow_all : ((pmQ ++ pmH).all fun m => (List.range 6).any fun k => mmS (powM m k) m == (1, 0, 0, 1)) = true := by decide +kernel
theorem InL_pow {l : Lt} (hl : IsL l) {m : Mt} (hs : stayS l m = true) : ∀ (k : Nat) {v : Vc}, InL l v → InL l (mulS (powM m k) v)
  | 0, v, h => by rw [powM, mulS_one]; exact h
  | k + 1, v, h => by rw [powM, mulS_mm]; exact InL_mul hl hs (InL_pow hl hs k h)
theorem InL_inv {l : Lt} (hl : IsL l) {m : Mt} (hm : m ∈ pmQ ++ pmH) (hs : stayS l m = true) {v : Vc} (h : InL l (mulS m v)) : InL l v := by
  obtain ⟨k, _, hk⟩ := List.any_eq_true.1 (List.all_eq_true.1 pow_all m hm)
  have := InL_pow hl hs k h
  rw [← mulS_mm, beq_iff_eq.1 hk, mulS_one] at this
  exact this
theorem stab_stay {f : Int} {l : Lt} {m : Mt} (h : m ∈ stabS f l) : stayS l m = true := (List.mem_filter.1 h).2
theorem app_sub (m : Mo) (u v : Vc) : ((appS m u).1 - (appS m v).1, (appS m u).2 - (appS m v).2) = mulS m.1 (u.1 - v.1, u.2 - v.2) := by
  rw [mulS_sub]
  unfold appS
  refine Prod.ext ?_ ?_ <;> simp only <;> omega
/-- what a motion does to congruent vectors -/
theorem mv_cong {f : Int} {l : Lt} (hl : IsL l) {m : Mo} (hm : m.1 ∈ stabS f l) {u v : Vc} (h : redS l u = redS l v) : mvS l m u = mvS l m v := by
  unfold mvS
  rw [red_cong hl, app_sub]
  exact InL_mul hl (stab_stay hm) ((red_cong hl).1 h)
theorem mv_inj {f : Int} {l : Lt} (hl : IsL l) {m : Mo} (hm : m.1 ∈ stabS f l) {u v : Vc} (hu : cellB l u = true) (hv : cellB l v = true) (h : mvS l m u = mvS l m v) : u = v := by
  unfold mvS at h
  rw [red_cong hl, app_sub] at h
  have := (red_cong hl).2 (InL_inv hl (stab_mem hm) (stab_stay hm) h)
  rwa [redS_cell hl hu, redS_cell hl hv] at this
theorem red_red {l : Lt} (hl : IsL l) (v : Vc) : redS l (redS l v) = redS l v := redS_cell hl (redS_isCell hl v)
/-- one motion after another -/
theorem mv_mul {f : Int} {l : Lt} (hl : IsL l) {m n : Mo} (hm : m.1 ∈ stabS f l) (v : Vc) : mvS l m (mvS l n v) = mvS l (mulG l m n) v := by
  have h1 : mvS l m (mvS l n v) = mvS l m (appS n v) := mv_cong hl hm (red_red hl _)
  rw [h1]
  unfold mvS mulG
  rw [red_cong hl]
  have h2 := (red_cong hl).1 (red_red hl (appS m n.2))
  have e : ((appS m (appS n v)).1 - (appS (mmS m.1 n.1, redS l (appS m n.2)) v).1, (appS m (appS n v)).2 - (appS (mmS m.1 n.1, redS l (appS m n.2)) v).2) = (-((redS l (appS m n.2)).1 - (appS m n.2).1), -((redS l (appS m n.2)).2 - (appS m n.2).2)) := by
    have e1 := mulS_mm m.1 n.1 v
    generalize hr : redS l (appS m n.2) = r
    unfold appS
    simp only
    rw [e1]
    have e2 : mulS m.1 ((mulS n.1 v).1 + n.2.1, (mulS n.1 v).2 + n.2.2) = ((mulS m.1 (mulS n.1 v)).1 + (mulS m.1 n.2).1, (mulS m.1 (mulS n.1 v)).2 + (mulS m.1 n.2).2) := by
      have := mulS_lin m.1 (mulS n.1 v) n.2 1 1
      simpa using this
    rw [e2]
    refine Prod.ext ?_ ?_ <;> simp only <;> omega
  rw [e]
  exact InL_neg h2
theorem mv_one {l : Lt} (hl : IsL l) {v : Vc} (hv : cellB l v = true) : mvS l uMo v = v := by
  unfold mvS appS uMo
  simp only
  rw [mulS_one]
  simp only [Int.add_zero]
  exact redS_cell hl hv
/-! ### orbits -/
theorem OrbG.stab {f : Int} {l : Lt} {g : List Mo} (h : OrbG f l g) {m : Mo} (hm : m ∈ g) : m.1 ∈ stabS f l := (h.pr.mem m hm).1
theorem OrbG.one {f : Int} {l : Lt} {g : List Mo} (h : OrbG f l g) : uMo ∈ g := by
  have := h.gr
  unfold grpB at this
  simp only [Bool.and_eq_true] at this
  exact List.contains_iff_mem.1 this.2.1
theorem OrbG.mul {f : Int} {l : Lt} {g : List Mo} (h : OrbG f l g) {m n : Mo} (hm : m ∈ g) (hn : n ∈ g) : mulG l m n ∈ g := by
  have := h.gr
  unfold grpB at this
  simp only [Bool.and_eq_true] at this
  exact List.contains_iff_mem.1 (List.all_eq_true.1 (List.all_eq_true.1 this.2.2 m hm) n hn)
theorem orb_cell {f : Int} {l : Lt} {g : List Mo} (h : OrbG f l g) {u v : Vc} (hu : u ∈ orbS l g v) : cellB l u = true := by
  obtain ⟨m, _, rfl⟩ := orbS_mem.1 hu
  exact redS_isCell h.la _
theorem orb_self {f : Int} {l : Lt} {g : List Mo} (h : OrbG f l g) {v : Vc} (hv : cellB l v = true) : v ∈ orbS l g v := orbS_mem.2 ⟨uMo, h.one, (mv_one h.la hv).symm⟩
theorem orb_trans {f : Int} {l : Lt} {g : List Mo} (h : OrbG f l g) {u v w : Vc} (hu : u ∈ orbS l g v) (hw : w ∈ orbS l g u) : w ∈ orbS l g v := by
  obtain ⟨m, hm, rfl⟩ := orbS_mem.1 hu
  obtain ⟨n, hn, rfl⟩ := orbS_mem.1 hw
  exact orbS_mem.2 ⟨mulG l n m, h.mul hn hm, mv_mul h.la (h.stab hn) v⟩
theorem SI_nodup {s : List Vc} (h : SI s) : s.Nodup := List.Pairwise.imp (fun {a b} hab e => by subst e; rw [ltV_irrefl] at hab; cases hab) h
theorem orb_symm {f : Int} {l : Lt} {g : List Mo} (h : OrbG f l g) {u v : Vc} (hv : cellB l v = true) (hu : u ∈ orbS l g v) : v ∈ orbS l g u := by
  have hcu := orb_cell h hu
  obtain ⟨m, hm, rfl⟩ := orbS_mem.1 hu
  have hO := orb_self h hcu
  -- the motion goes round in the orbit
  have hsub : ∀ x ∈ (orbS l g (mvS l m v)).map (mvS l m), x ∈ orbS l g (mvS l m v) := by
    intro x hx
    obtain ⟨y, hy, rfl⟩ := List.mem_map.1 hx
    exact orb_trans h hy (orbS_mem.2 ⟨m, hm, rfl⟩)
  have hnd : ((orbS l g (mvS l m v)).map (mvS l m)).Nodup := by
    refine List.pairwise_map.2 (List.Pairwise.imp_of_mem (fun {a b} ha hb hab e => hab ?_) (SI_nodup (orbS_SI l g (mvS l m v))))
    exact mv_inj h.la (h.stab hm) (orb_cell h ha) (orb_cell h hb) e
  have hall := full_of_len (orbS l g (mvS l m v)) ((orbS l g (mvS l m v)).map (mvS l m)) hnd (fun x hx => hsub x hx) (by simp)
  obtain ⟨y, hy, e⟩ := List.mem_map.1 (hall _ hO)
  have := mv_inj h.la (h.stab hm) (orb_cell h hy) hv e
  rw [this] at hy
  exact hy
theorem orb_eq {f : Int} {l : Lt} {g : List Mo} (h : OrbG f l g) {u v : Vc} (hv : cellB l v = true) (hu : u ∈ orbS l g v) : orbS l g u = orbS l g v :=
  SI_unique (orbS_SI l g u) (orbS_SI l g v) fun x => ⟨fun hx => orb_trans h hu hx, fun hx => orb_trans h (orb_symm h hv hu) hx⟩
/-! ### the first of an orbit -/
def repB (l : Lt) (g : List Mo) (v : Vc) : Bool := (orbS l g v).headD (0, 0) == v
theorem orb_cons {f : Int} {l : Lt} {g : List Mo} (h : OrbG f l g) {v : Vc} (hv : cellB l v = true) : ∃ w t, orbS l g v = w :: t ∧ (w = v ∨ ltV w v = true) := by
  have hs := orb_self h hv
  have hi := orbS_SI l g v
  cases ho : orbS l g v with
  | nil => rw [ho] at hs; cases hs
  | cons w t =>
    refine ⟨w, t, rfl, ?_⟩
    rw [ho] at hs hi
    rcases List.mem_cons.1 hs with e | e
    · exact .inl e.symm
    · exact .inr ((List.pairwise_cons.1 hi).1 v e)
theorem rep_of {f : Int} {l : Lt} {g : List Mo} (h : OrbG f l g) {v : Vc} (hv : cellB l v = true) : ∃ w, repB l g w = true ∧ cellB l w = true ∧ v ∈ orbS l g w ∧ (w = v ∨ ltV w v = true) := by
  obtain ⟨w, t, ho, hw⟩ := orb_cons h hv
  have hwo : w ∈ orbS l g v := by rw [ho]; simp
  refine ⟨w, ?_, orb_cell h hwo, orb_symm h hv hwo, hw⟩
  unfold repB
  rw [orb_eq h hv hwo, ho]
  simp
theorem rep_min {f : Int} {l : Lt} {g : List Mo} (h : OrbG f l g) {v w : Vc} (hv : cellB l v = true) (hr : repB l g v = true) (hw : w ∈ orbS l g v) : w = v ∨ ltV v w = true := by
  obtain ⟨x, t, ho, _⟩ := orb_cons h hv
  unfold repB at hr
  rw [ho] at hr hw
  have : x = v := by simpa using hr
  subst this
  rcases List.mem_cons.1 hw with e | e
  · exact .inl e
  · have hi := orbS_SI l g x
    rw [ho] at hi
    exact .inr ((List.pairwise_cons.1 hi).1 w e)
/-- two firsts of one orbit are the same -/
theorem rep_one {f : Int} {l : Lt} {g : List Mo} (h : OrbG f l g) {u v : Vc} (hu : cellB l u = true) (hv : cellB l v = true) (h1 : repB l g u = true) (h2 : repB l g v = true) (h3 : v ∈ orbS l g u) : u = v := by
  rcases rep_min h hu h1 h3 with e | e
  · exact e.symm
  · rcases rep_min h hv h2 (orb_symm h hu h3) with e2 | e2
    · exact e2
    · rw [ltV_asymm e] at e2; cases e2
def repsS (l : Lt) (g : List Mo) : List Vc := (cellsS l).filter (repB l g)
def orbsS (l : Lt) (g : List Mo) : List (List Vc) := (repsS l g).map (orbS l g)
end Go.Proofs.YtfccacobkcglcaaGreat.X
