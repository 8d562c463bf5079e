/- Plain facts: patterns that a function on the cells makes. -/
import Derived.Test.YtniidcalfhhciaaGreatQeMW
import Derived.Test.YtniidcalfhhciaaGreatQePSeedPattern
namespace Go.Proofs.YtniidcalfhhciaaGreat.X
open Go
set_option linter.unusedSimpArgs false
set_option linter.unusedVariables false
theorem codeC_parts {f : Int} {l : Lt} {g : List Mo} {b : Bool} (h : codeC f l g b = 0) : okF f = true ∧ okL l = true ∧ grpB f l g = true ∧ b = true := by
  unfold codeC at h
  by_cases h1 : (okF f && okL l) = true
  · rw [if_pos h1] at h
    by_cases h2 : (b && grpB f l g) = true
    · rw [Bool.and_eq_true] at h1 h2
      exact ⟨h1.1, h1.2, h2.2, h2.1⟩
    · rw [if_neg h2] at h; cases h
  · rw [if_neg h1] at h; cases h
abbrev mapP (f : Int) (l : Lt) (φ : Vc → Int) : Pt := (f, l, (cellsS l).map φ)
theorem atS_map {f : Int} {l : Lt} (hl : IsL l) {φ : Vc → Int} {v : Vc} (hv : cellB l v = true) : atS (mapP f l φ) v = φ v := by
  have h := cell_at hl hv
  unfold atS
  show ((cellsS l).map φ).getD (numS l v) 0 = φ v
  rw [List.getD_eq_getElem?_getD, List.getElem?_map, h]
  rfl
theorem okP_map {f : Int} {l : Lt} (hf : okF f = true) (hl : okL l = true) {φ : Vc → Int} (hφ : ∀ v ∈ cellsS l, okC (φ v) = true) : okP (mapP f l φ) = true := by
  have hL := okL_iff.1 hl
  have e : ((((cellsS l).map φ).length : Nat) : Int) = l.1 * l.2.2 := by
    rw [List.length_map, cellsS_len hL]
    have := hL.a1
    have := hL.c1
    rw [Int.natCast_mul, Int.toNat_of_nonneg (by omega), Int.toNat_of_nonneg (by omega)]
  have ha : ((cellsS l).map φ).all okC = true := by
    refine List.all_eq_true.2 fun c hc => ?_
    obtain ⟨v, hv, rfl⟩ := List.mem_map.1 hc
    exact hφ v hv
  unfold okP
  show (okF f && okL l && decide ((((cellsS l).map φ).length : Int) = l.1 * l.2.2) && ((cellsS l).map φ).all okC) = true
  rw [hf, hl, decide_eq_true e, ha]
  rfl
theorem codeK_map {f : Int} {l : Lt} {g : List Mo} (hf : okF f = true) (hl : okL l = true) (hG : grpB f l g = true) {φ : Vc → Int} (hφ : ∀ v ∈ cellsS l, okC (φ v) = true) : codeK (mapP f l φ) g = 0 := by
  unfold codeK
  rw [okP_map hf hl hφ, cond_true]
  exact if_pos hG
theorem kept_map {f : Int} {l : Lt} {g : List Mo} (hO : OrbG f l g) {φ : Vc → Int} (hφ : ∀ m ∈ g, ∀ v, cellB l v = true → φ (mvS l m v) = φ v) : keptS (mapP f l φ) g = true := by
  unfold keptS
  refine List.all_eq_true.2 fun m hm => keep_of (p := mapP f l φ) hO.la fun v hv => ?_
  have hm' : cellB l (mvS l m v) = true := redS_isCell hO.la _
  show atS (mapP f l φ) (mvS l m v) = atS (mapP f l φ) v
  rw [atS_map hO.la hm', atS_map hO.la hv, hφ m hm v hv]
def resIK (p : Pt) (g : List Mo) : Bool × Int := bif codeK p g != 0 then (false, codeK p g) else (keptS p g, 0)
theorem seedS_map {l : Lt} (hl : IsL l) {o : List Vc} (ho : ∀ u ∈ o, cellB l u = true) : seedS l o = (cellsS l).map fun v => if v ∈ o then (1 : Int) else 0 := by
  refine List.ext_getElem? fun i => ?_
  by_cases hi : i < (cellsS l).length
  · have hc : cellB l (cellsS l)[i] = true := cellsS_cell (List.getElem_mem hi)
    have hn := cellsS_num hl hi
    have h := setAll_get hl 1 hc o (List.replicate (cellsS l).length 0) ho (by rw [hn]; simpa using hi)
    rw [hn] at h
    unfold seedS
    rw [h, List.getElem?_map, List.getElem?_eq_getElem hi, List.getElem?_replicate, if_pos hi]
    show _ = some (if (cellsS l)[i] ∈ o then (1 : Int) else 0)
    by_cases hm : (cellsS l)[i] ∈ o
    · rw [if_pos hm, if_pos hm]
    · rw [if_neg hm, if_neg hm]
  · rw [List.getElem?_eq_none (by rw [seedS_len]; omega), List.getElem?_eq_none (by simp; omega)]
theorem seed_pat {f : Int} {l : Lt} {g : List Mo} (h : OrbG f l g) (v : Vc) : ((f, l, seedS l (orbS l g v)) : Pt) = mapP f l fun u => if u ∈ orbS l g v then (1 : Int) else 0 := by
  rw [seedS_map h.la fun u hu => orb_cell h hu]
theorem orb_move {f : Int} {l : Lt} {g : List Mo} (h : OrbG f l g) {v : Vc} (hv : cellB l v = true) {m : Mo} (hm : m ∈ g) {u : Vc} (hu : cellB l u = true) : mvS l m u ∈ orbS l g v ↔ u ∈ orbS l g v := by
  have h1 : mvS l m u ∈ orbS l g u := orbS_mem.2 ⟨m, hm, rfl⟩
  constructor
  · intro h2
    exact orb_trans h h2 (orb_symm h hu h1)
  · intro h2
    exact orb_trans h h2 h1
theorem fold_sumI : ∀ (l : List Int) (s : Int), l.foldl (fun s a => s + a) s = s + l.sum
  | [], s => by simp
  | a :: l, s => by rw [List.foldl_cons, fold_sumI l, List.sum_cons]; omega
theorem sum_ones {α : Type} (p : α → Bool) : ∀ (l : List α), (l.map fun v => if p v = true then (1 : Int) else 0).sum = ((l.filter p).length : Int)
  | [] => rfl
  | a :: l => by
    rw [List.map_cons, List.sum_cons, sum_ones p l]
    cases h : p a
    · rw [List.filter_cons_of_neg (by rw [h]; simp), if_neg (by simp)]; omega
    · rw [List.filter_cons_of_pos h, if_pos rfl, List.length_cons]; omega
theorem orb_nodup (l : Lt) (g : List Mo) (v : Vc) : (orbS l g v).Nodup := SI_nodup (orbS_SI l g v)
theorem orb_count {f : Int} {l : Lt} {g : List Mo} (h : OrbG f l g) (v : Vc) : ((cellsS l).filter fun u => (orbS l g v).contains u).length = (orbS l g v).length := by
  refine Nat.le_antisymm (nodup_len _ _ ((cellsS_nodup h.la).sublist List.filter_sublist) fun x hx => ?_) (nodup_len _ _ (orb_nodup l g v) fun x hx => ?_)
  · exact List.contains_iff_mem.1 (List.mem_filter.1 hx).2
  · exact List.mem_filter.2 ⟨cellB_mem h.la (orb_cell h hx), List.contains_iff_mem.2 hx⟩
theorem seed_sum {f : Int} {l : Lt} {g : List Mo} (h : OrbG f l g) (v : Vc) : (seedS l (orbS l g v)).sum = ((orbS l g v).length : Int) := by
  rw [seedS_map h.la fun u hu => orb_cell h hu, ← orb_count h v, ← sum_ones]
  congr 1
  refine List.map_congr_left fun u _ => ?_
  by_cases hu : u ∈ orbS l g v
  · rw [if_pos hu, if_pos (List.contains_iff_mem.2 hu)]
  · rw [if_neg hu, if_neg (by rw [List.contains_iff_mem]; exact hu)]
end Go.Proofs.YtniidcalfhhciaaGreat.X
