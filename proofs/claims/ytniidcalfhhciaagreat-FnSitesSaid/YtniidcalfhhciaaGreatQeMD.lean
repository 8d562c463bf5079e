/- Plain facts: the group of a pattern, as the program and the reference compute it. -/
import Derived.Test.YtniidcalfhhciaaGreatQeMC
namespace Go.Proofs.YtniidcalfhhciaaGreat.X
open Go
set_option linter.unusedSimpArgs false
set_option linter.unusedVariables false
abbrev Mo := Mt × Vc
def rowG (p : Pt) (m : Mt) : List Mo := ((cellsS p.2.1).filter fun t => keepsS p (m, t)).map fun t => (m, t)
def groupS (p : Pt) : List Mo := (stabS p.1 p.2.1).flatMap (rowG p)
theorem fold_row (p : Pt) (m : Mt) (s : List Mo) : (cellsS p.2.1).foldl (fun s t => bif keepsS p (m, t) then s ++ [(m, t)] else s) s = s ++ rowG p m :=
  foldl_filter (fun t => keepsS p (m, t)) (fun t : Vc => ((m, t) : Mo)) (cellsS p.2.1) s
theorem stab_mem {f : Int} {l : Lt} {m : Mt} (h : m ∈ stabS f l) : m ∈ pmQ ++ pmH := pmS_mem (List.mem_filter.mp h).1
theorem stab_len (f : Int) (l : Lt) : (stabS f l).length ≤ 12 := Nat.le_trans (List.length_filter_le _ _) (pmS_len f)
theorem rowG_len {p : Pt} (hp : IsP p) (m : Mt) : (rowG p m).length ≤ 64 := by
  unfold rowG
  rw [List.length_map]
  exact Nat.le_trans (List.length_filter_le _ _) (cellsS_le hp.l)
theorem l10_row {p : Pt} (hp : IsP p) {ms : List Mt} (hms : ∀ m ∈ ms, m ∈ pmQ ++ pmH) {L : Int → List Mo → Option (List Mo)} {x : Nat} (hx : x < ms.length) (hx2 : x < 100) {s : List Mo} (hs : s.length ≤ x * 64) :
    f131_l13 KK p (x : Int) ms (cellsS p.2.1) L KK 0 s = L ((x + 1 : Nat) : Int) (s ++ rowG p ms[x]) := by
  have hc := cellsS_le hp.l
  have hm := hms _ (List.getElem_mem hx)
  have h := iter_fold (X := Int × List Mo) (body := fun L13 z => f131_b13 KK p (x : Int) ms (cellsS p.2.1) L (fun v0 v1 => L13 (v0, v1)) z.1 z.2) (cellsS p.2.1) (fun q s => ((q : Int), s)) (fun s t => bif keepsS p (ms[x], t) then s ++ [(ms[x], t)] else s) (fun s => L ((x + 1 : Nat) : Int) s) (fun q s => s.length ≤ x * 64 + q)
    (fun L13 q s hq hi => by
      have hv := cell_Sv hp.l (List.getElem_mem hq)
      refine ⟨?_, ?_⟩
      · cases keepsS p (ms[x], (cellsS p.2.1)[q]) <;> simp <;> omega
      unfold f131_b13
      simp only
      rw [in1 hq, in1 hx, in0, in0, gd hq, gd hx]
      simp only [Bool.and_self, cond_true]
      rw [l09Keeps_eq hp (m := (ms[x], (cellsS p.2.1)[q])) (pm_sm hm) hv, Option.bind_some, blim48 (by simp; omega), w_succ (by omega)]
      cases keepsS p (ms[x], (cellsS p.2.1)[q]) <;> rfl)
    (fun L13 s hi => by
      unfold f131_b13
      simp only
      rw [out1, cond_false, w_succ (by omega)]) KK 0 s (by omega) (by have := KKlt (n := (cellsS p.2.1).length) (by omega); omega) (by simpa using hs)
  unfold f131_l13
  refine h.trans ?_
  simp only [List.drop_zero]
  rw [fold_row]
theorem l10Group_eq {p : Pt} (hp : IsP p) : f131G KK p = some (groupS p) := by
  unfold f131G f131_g
  rw [l04Stable_eq hp.f1 hp.f2 hp.l, l03Cells_eq hp.l]
  simp only [Option.bind_some]
  have hc := stab_len p.1 p.2.1
  have h := iter_fold (X := Int × List Mo) (body := fun L10 z => f131_b10 KK p (stabS p.1 p.2.1) (cellsS p.2.1) (fun c0 d0 d1 => f131_l13 KK p c0 (stabS p.1 p.2.1) (cellsS p.2.1) (fun v0 v1 => L10 (v0, v1)) KK d0 d1) (fun v0 v1 => L10 (v0, v1)) z.1 z.2) (stabS p.1 p.2.1) (fun q s => ((q : Int), s)) (fun s m => s ++ rowG p m) (fun s => some s) (fun q s => s.length ≤ q * 64)
    (fun L10 q s hq hi => by
      refine ⟨by have := rowG_len hp (stabS p.1 p.2.1)[q]; simp; omega, ?_⟩
      unfold f131_b10
      simp only
      rw [in1 hq, cond_true]
      exact l10_row hp (fun m hm => stab_mem hm) hq (by omega) hi)
    (fun L10 s hi => by
      unfold f131_b10
      simp only
      rw [out1, cond_false]) KK 0 [] (by omega) (by have := KKlt (n := (stabS p.1 p.2.1).length) (by omega); omega) (by simp)
  unfold f131_l10
  refine h.trans ?_
  simp only [List.drop_zero]
  rw [foldl_flat]
  rfl
theorem gr_row {p : Pt} (hp : IsP p) {ms : List Mt} (hms : ∀ m ∈ ms, m ∈ pmQ ++ pmH) {L : Int → List Mo → Option (List Mo)} {x : Nat} (hx : x < ms.length) (hx2 : x < 100) {s : List Mo} (hs : s.length ≤ x * 64) :
    f134_l14 KK p (x : Int) ms (cellsS p.2.1) L KK 0 s = L ((x + 1 : Nat) : Int) (s ++ rowG p ms[x]) := by
  have hc := cellsS_le hp.l
  have hm := hms _ (List.getElem_mem hx)
  have h := iter_fold (X := Int × List Mo) (body := fun L14 z => f134_b14 KK p (x : Int) ms (cellsS p.2.1) L (fun v0 v1 => L14 (v0, v1)) z.1 z.2) (cellsS p.2.1) (fun q s => ((q : Int), s)) (fun s t => bif keepsS p (ms[x], t) then s ++ [(ms[x], t)] else s) (fun s => L ((x + 1 : Nat) : Int) s) (fun q s => s.length ≤ x * 64 + q)
    (fun L14 q s hq hi => by
      have hv := cell_Sv hp.l (List.getElem_mem hq)
      refine ⟨?_, ?_⟩
      · cases keepsS p (ms[x], (cellsS p.2.1)[q]) <;> simp <;> omega
      unfold f134_b14
      simp only
      rw [in1 hq, in0, gd hq, gd hx]
      simp only [Bool.and_self, cond_true]
      rw [keeps_eq hp (m := (ms[x], (cellsS p.2.1)[q])) (pm_sm hm) hv, Option.bind_some, blim48 (by simp; omega), w_succ (by omega)]
      cases keepsS p (ms[x], (cellsS p.2.1)[q]) <;> rfl)
    (fun L14 s hi => by
      unfold f134_b14
      simp only
      rw [out1, cond_false, w_succ (by omega)]) KK 0 s (by omega) (by have := KKlt (n := (cellsS p.2.1).length) (by omega); omega) (by simpa using hs)
  unfold f134_l14
  refine h.trans ?_
  simp only [List.drop_zero]
  rw [fold_row]
theorem groupOf_eq {p : Pt} (hp : IsP p) : f134G KK p = some (groupS p) := by
  unfold f134G f134_g
  rw [latticeMats_eq hp.f1 hp.f2 hp.l]
  simp only [Option.bind_some]
  have hc := stab_len p.1 p.2.1
  have h := iter_fold (X := Int × List Mo) (body := fun L10 z => f134_b10 KK p (stabS p.1 p.2.1) (fun c0 c1 d0 d1 => f134_l14 KK p c0 (stabS p.1 p.2.1) c1 (fun v0 v1 => L10 (v0, v1)) KK d0 d1) (fun v0 v1 => L10 (v0, v1)) z.1 z.2) (stabS p.1 p.2.1) (fun q s => ((q : Int), s)) (fun s m => s ++ rowG p m) (fun s => some s) (fun q s => s.length ≤ q * 64)
    (fun L10 q s hq hi => by
      refine ⟨by have := rowG_len hp (stabS p.1 p.2.1)[q]; simp; omega, ?_⟩
      unfold f134_b10
      simp only
      rw [in1 hq, in0, cells_eq hp.l]
      simp only [Bool.and_self, cond_true, Option.bind_some]
      exact gr_row hp (fun m hm => stab_mem hm) hq (by omega) hi)
    (fun L10 s hi => by
      unfold f134_b10
      simp only
      rw [out1, cond_false]) KK 0 [] (by omega) (by have := KKlt (n := (stabS p.1 p.2.1).length) (by omega); omega) (by simp)
  unfold f134_l10
  refine h.trans ?_
  simp only [List.drop_zero]
  rw [foldl_flat]
  rfl
theorem groupS_mem {p : Pt} {g : Mo} (h : g ∈ groupS p) : g.1 ∈ stabS p.1 p.2.1 ∧ g.2 ∈ cellsS p.2.1 := by
  unfold groupS rowG at h
  simp only [List.mem_flatMap, List.mem_map, List.mem_filter] at h
  obtain ⟨m, hm, t, ⟨ht, _⟩, rfl⟩ := h
  exact ⟨hm, ht⟩
theorem flatMap_len {α β : Type} (f : α → List β) (B : Nat) (hf : ∀ a, (f a).length ≤ B) : ∀ l : List α, (l.flatMap f).length ≤ l.length * B
  | [] => by simp
  | a :: l => by
    rw [List.flatMap_cons, List.length_append, List.length_cons, Nat.add_mul]
    have := flatMap_len f B hf l
    have := hf a
    omega
theorem groupS_len {p : Pt} (hp : IsP p) : (groupS p).length ≤ 768 := by
  have h1 := flatMap_len (rowG p) 64 (rowG_len hp) (stabS p.1 p.2.1)
  have h2 := stab_len p.1 p.2.1
  have : (stabS p.1 p.2.1).length * 64 ≤ 12 * 64 := Nat.mul_le_mul_right _ h2
  unfold groupS
  omega
end Go.Proofs.YtniidcalfhhciaaGreat.X
/-! Plain facts: the lines of a pattern: each motion that turns the plane over adds two. -/
namespace Go.Proofs.YtniidcalfhhciaaGreat.X
open Go
set_option linter.unusedVariables false
def dv (a b : Int) : Int := if b = 0 then 0 else a / b
def negS (m : Mt) : Mt := (-m.1, -m.2.1, -m.2.2.1, -m.2.2.2)
def le3 (x : Int) : Bool := decide (-3 ≤ x) && decide (x ≤ 3)
theorem three_mul {a x : Int} (h : -3 ≤ a ∧ a ≤ 3) {B : Int} (h1 : -B ≤ x) (h2 : x ≤ B) (hB : 0 ≤ B) : -(3 * B) ≤ a * x ∧ a * x ≤ 3 * B := by
  have : a = -3 ∨ a = -2 ∨ a = -1 ∨ a = 0 ∨ a = 1 ∨ a = 2 ∨ a = 3 := by omega
  rcases this with rfl | rfl | rfl | rfl | rfl | rfl | rfl <;> omega
/-- the first multiple of a vector that lies in the lattice -/
def mulV (k : Nat) (v : Vc) : Vc := ((k : Int) * v.1, (k : Int) * v.2)
theorem all_mul {l : Lt} (hl : IsL l) (v : Vc) : redS l (mulV (l.1.toNat * l.2.2.toNat) v) = (0, 0) := by
  rw [redS_InL hl]
  refine ⟨l.2.2 * v.1 - v.2 * l.2.1, l.1 * v.2, ?_⟩
  unfold mulV
  rw [idx_nat hl, Int.sub_mul]
  have e1 : l.1 * l.2.2 * v.1 = l.2.2 * v.1 * l.1 := by ac_rfl
  have e2 : v.2 * l.2.1 * l.1 = l.1 * v.2 * l.2.1 := by ac_rfl
  have e3 : l.1 * l.2.2 * v.2 = l.1 * v.2 * l.2.2 := by ac_rfl
  refine Prod.ext ?_ e3
  simp only
  omega
theorem mulV_succ (k : Nat) (v : Vc) : ((mulV k v).1 + v.1, (mulV k v).2 + v.2) = mulV (k + 1) v := by
  simp only [mulV, Int.natCast_add, Int.add_mul]
  simp
theorem mulV_bound {v : Vc} (h1 : -3 ≤ v.1 ∧ v.1 ≤ 3) (h2 : -3 ≤ v.2 ∧ v.2 ≤ 3) {k : Nat} (hk : k ≤ 70) : -210 ≤ (mulV k v).1 ∧ (mulV k v).1 ≤ 210 ∧ -210 ≤ (mulV k v).2 ∧ (mulV k v).2 ≤ 210 := by
  have e1 := three_mul h1 (x := (k : Int)) (B := 70) (by omega) (by omega) (by omega)
  have e2 := three_mul h2 (x := (k : Int)) (B := 70) (by omega) (by omega) (by omega)
  have c1 : (k : Int) * v.1 = v.1 * k := Int.mul_comm _ _
  have c2 : (k : Int) * v.2 = v.2 * k := Int.mul_comm _ _
  simp only [mulV]
  omega
end Go.Proofs.YtniidcalfhhciaaGreat.X
/-! Plain facts: which patterns are valid; copies and comparisons of patterns. -/
namespace Go.Proofs.YtniidcalfhhciaaGreat.X
open Go
set_option linter.unusedVariables false
theorem in_eq (a b c : Int) : f195G KK a b c = some (decide (b ≤ a ∧ a ≤ c)) := by
  unfold f195G
  simp only [Bool.or_true, cond_true]
  by_cases h : b ≤ a <;> simp [h]
theorem within_eq (a b c : Int) : f194G KK a b c = some (decide (b ≤ a ∧ a ≤ c)) := by
  unfold f194G
  simp only [Bool.or_true, cond_true]
  by_cases h : b ≤ a <;> simp [h]
def okL (l : Lt) : Bool := decide (1 ≤ l.1 ∧ l.1 ≤ 64) && decide (1 ≤ l.2.2 ∧ l.2.2 ≤ 64) && decide (0 ≤ l.2.1 ∧ l.2.1 ≤ l.1 - 1) && decide (l.1 * l.2.2 ≤ 64)
theorem okL_iff {l : Lt} : okL l = true ↔ IsL l := by
  unfold okL
  simp only [Bool.and_eq_true, decide_eq_true_eq]
  constructor
  · rintro ⟨⟨⟨⟨a1, a2⟩, c1, c2⟩, b1, b2⟩, ix⟩
    exact ⟨a1, a2, c1, c2, b1, by omega, ix⟩
  · rintro ⟨a1, a2, c1, c2, b1, b2, ix⟩
    exact ⟨⟨⟨⟨a1, a2⟩, c1, c2⟩, b1, by omega⟩, ix⟩
theorem mul64 {a c : Int} (h1 : 1 ≤ a) (h2 : a ≤ 64) (h3 : 1 ≤ c) (h4 : c ≤ 64) : 0 ≤ a * c ∧ a * c ≤ 4096 := by
  have e1 : 0 ≤ a * c := Int.mul_nonneg (by omega) (by omega)
  have e2 : a * c ≤ 64 * c := Int.mul_le_mul_of_nonneg_right h2 (by omega)
  omega
theorem specIsLattice_eq (l : Lt) : f307G KK l = some (okL l) := by
  unfold f307G okL
  simp only [in_eq, Option.bind_some, Bool.or_true, cond_true]
  by_cases h1 : 1 ≤ l.1 ∧ l.1 ≤ 64
  · by_cases h2 : 1 ≤ l.2.2 ∧ l.2.2 ≤ 64
    · have := mul64 h1.1 h1.2 h2.1 h2.2
      rw [w_id (n := l.1 - 1) (by omega) (by omega), w_id (n := l.1 * l.2.2) (by omega) (by omega)]
      by_cases h3 : 0 ≤ l.2.1 ∧ l.2.1 ≤ l.1 - 1 <;> simp [h1, h2, h3]
    · simp [h1, h2]
  · simp [h1]
theorem isLattice_eq (l : Lt) : f184G KK l = some (okL l) := by
  unfold f184G f133G okL
  simp only [within_eq, Option.bind_some, Bool.or_true, cond_true]
  by_cases h1 : 1 ≤ l.1 ∧ l.1 ≤ 64
  · by_cases h2 : 1 ≤ l.2.2 ∧ l.2.2 ≤ 64
    · have := mul64 h1.1 h1.2 h2.1 h2.2
      rw [w_id (n := l.1 - 1) (by omega) (by omega), w_id (n := l.1 * l.2.2) (by omega) (by omega)]
      by_cases h3 : 0 ≤ l.2.1 ∧ l.2.1 ≤ l.1 - 1 <;> simp [h1, h2, h3]
    · simp [h1, h2]
  · simp [h1]
def okF (f : Int) : Bool := decide (0 ≤ f ∧ f ≤ 1)
theorem specIsFrame_eq (f : Int) : f306G KK f = some (okF f) := by
  unfold f306G okF
  simp only [Bool.or_true, cond_true]
  by_cases h : f = 0
  · subst h; rfl
  · by_cases h1 : f = 1
    · subst h1; rfl
    · have h2 : (f == 0) = false := by simp [h]
      have h3 : (f == 1) = false := by simp [h1]
      rw [h2, h3]
      have : ¬ (0 ≤ f ∧ f ≤ 1) := by omega
      simp [this]
theorem isFrame_eq (f : Int) : f256G KK f = some (okF f) := by
  unfold f256G
  rw [within_eq]
  rfl
theorem l04Code_eq (f : Int) (l : Lt) : f215G KK f l = some (if okF f && okL l then 0 else 1) := by
  unfold f215G
  rw [specIsFrame_eq, specIsLattice_eq]
  cases okF f <;> cases h : okL l <;> rfl
def okC (c : Int) : Bool := decide (0 ≤ c ∧ c ≤ 9)
theorem l01Within_eq {l : List Int} (hl : l.length ≤ 1048576) : f200G KK l 64 0 9 = some (l.all okC && decide (l.length ≤ 64)) := by
  have h := iter_all (X := Int) (body := fun L x => f200_b3 KK l 64 0 9 (fun v0 => L v0) x) l (fun q => (q : Int)) okC (some false) (some (decide ((l.length : Int) ≤ 64)))
    (fun L q hq => by
      unfold f200_b3
      rw [in1 hq, in0, gd hq, in_eq]
      simp only [Bool.and_self, cond_true, Option.bind_some]
      rw [w_succ (by omega)]
      show (bif !okC l[q] then _ else _) = _
      cases okC l[q] <;> rfl)
    (fun L => by
      unfold f200_b3
      rw [out1, cond_false]) KK 0 (by omega) (by have := KKlt2 hl; omega)
  unfold f200G f200_g f200_l3
  refine h.trans ?_
  simp only [List.drop_zero]
  have e : decide ((l.length : Int) ≤ 64) = decide (l.length ≤ 64) := by
    rw [decide_eq_decide]; omega
  rw [e]
  cases l.all okC <;> rfl
theorem allWithin_eq {l : List Int} (hl : l.length ≤ 1048576) : f199G KK l 0 9 = some (l.all okC) := by
  unfold f199G f299G f354G f354_g f354_l3
  have h := iter_idx (R := Int) (body := fun L x => f354_b3 KK l (fun z1 => f300G KK z1 0 9) (fun v0 => L v0) x) l (fun c => !okC c) some
    (fun L q hq => by
      unfold f354_b3 f300G
      rw [in1 hq, in0, gd hq]
      simp only [Bool.and_self, cond_true, within_eq, Option.bind_some]
      rw [w_succ (by omega)]
      rfl)
    (fun L => by
      unfold f354_b3
      rw [out1, cond_false]) KK 0 (by omega) (by have := KKlt2 hl; omega)
  rw [List.drop_zero] at h
  refine Eq.trans (congrArg (fun o : Option Int => (o.bind fun y1 => some (decide (y1 ≥ (0 : Int)))).bind fun y2 => some (!y2)) h) ?_
  simp only [Option.bind_some, Option.some.injEq]
  rcases idxS_spec (fun c => !okC c) l 0 with ⟨h1, h2⟩ | ⟨k, h1, h2, h3, b, h4, h5⟩
  · rw [h1]
    have : l.all okC = true := List.all_eq_true.mpr fun a ha => by have := h2 a ha; simpa using this
    rw [this]
    rfl
  · rw [h2]
    have : l.all okC = false := by
      rw [List.all_eq_false]
      refine ⟨b, List.mem_of_getElem? h4, ?_⟩
      simpa using h5
    rw [this]
    simp
def okP (p : Pt) : Bool := okF p.1 && okL p.2.1 && decide ((p.2.2.length : Int) = p.2.1.1 * p.2.1.2.2) && p.2.2.all okC
theorem okP_P {p : Pt} (h : okP p = true) : IsP p := by
  unfold okP at h
  simp only [Bool.and_eq_true, decide_eq_true_eq] at h
  obtain ⟨⟨⟨h1, h2⟩, h3⟩, h4⟩ := h
  unfold okF at h1
  rw [decide_eq_true_eq] at h1
  exact ⟨h1.1, h1.2, okL_iff.mp h2, h3⟩
theorem specIsPattern_eq (p : Pt) : f128G KK p = some (okP p) := by
  unfold f128G okP
  rw [l04Code_eq]
  simp only [Option.bind_some, Bool.or_true, cond_true]
  cases h : okF p.1 && okL p.2.1
  · simp
  · have hl : IsL p.2.1 := okL_iff.mp (Bool.and_eq_true _ _ ▸ h).2
    have := mul64 hl.a1 hl.a2 hl.c1 hl.c2
    have hix := hl.ix
    rw [w_id (n := p.2.1.1 * p.2.1.2.2) (by omega) (by omega)]
    by_cases h2 : (p.2.2.length : Int) = p.2.1.1 * p.2.1.2.2
    · have h3 : p.2.2.length ≤ 64 := by omega
      rw [l01Within_eq (by omega)]
      simp [h2, h3]
    · have h4 : ((p.2.2.length : Int) == p.2.1.1 * p.2.1.2.2) = false := by simp [h2]
      simp [h2, h4]
theorem isPattern_eq (p : Pt) : f125G KK p = some (okP p) := by
  unfold f125G f133G okP
  rw [isFrame_eq, isLattice_eq]
  simp only [Option.bind_some, Bool.or_true, cond_true]
  cases h0 : okF p.1
  · simp
  cases h : okL p.2.1
  · simp
  · have hl : IsL p.2.1 := okL_iff.mp h
    have := mul64 hl.a1 hl.a2 hl.c1 hl.c2
    have hix := hl.ix
    rw [w_id (n := p.2.1.1 * p.2.1.2.2) (by omega) (by omega)]
    by_cases h2 : (p.2.2.length : Int) = p.2.1.1 * p.2.1.2.2
    · have h3 : p.2.2.length ≤ 64 := by omega
      rw [allWithin_eq (by omega)]
      simp [h2]
    · have h4 : ((p.2.2.length : Int) == p.2.1.1 * p.2.1.2.2) = false := by simp [h2]
      simp [h2, h4]
structure Cp (l : List Int) (q : Nat) (s : Nat × List Int) : Prop where
  i : s.1 = q
  n : s.2.length = l.length
  t : s.2.take q = l.take q
theorem Cp_step {l : List Int} {q : Nat} {s : Nat × List Int} (h : Cp l q s) (hq : q < l.length) : Cp l (q + 1) (s.1 + 1, s.2.set s.1 l[q]) := by
  obtain ⟨h1, h2, h3⟩ := h
  refine ⟨by simp [h1], by simp [h2], ?_⟩
  rw [h1, List.take_add_one, List.take_add_one, List.take_set_of_le (Nat.le_refl _), h3, List.getElem?_set_self (by omega), List.getElem?_eq_getElem hq]
end Go.Proofs.YtniidcalfhhciaaGreat.X
