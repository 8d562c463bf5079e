/- Plain facts: the group of a pattern, as the program and the reference compute it. -/
import Derived.Test.YtfccacobkcglcaaGreatQdMC
namespace Go.Proofs.YtfccacobkcglcaaGreat.X
open Go
set_option linter.unusedSimpArgs false
set_option linter.unusedVariables false
abbrev Mo := Mt × Vc
def rowG (p : Pt) (m : Mt) : List Mo := ((cellsS p.2.1).filter fun t => keepsS p (m, t)).map fun t => (m, t)
def groupS (p : Pt) : List Mo := (stabS p.1 p.2.1).flatMap (rowG p)
theorem stab_mem {f : Int} {l : Lt} {m : Mt} (h : m ∈ stabS f l) : m ∈ pmQ ++ pmH := pmS_mem (List.mem_filter.mp h).1
theorem stab_len (f : Int) (l : Lt) : (stabS f l).length ≤ 12 := Nat.le_trans (List.length_filter_le _ _) (pmS_len f)
theorem flatMap_len {α β : Type} (f : α → List β) (B : Nat) (hf : ∀ a, (f a).length ≤ B) : ∀ l : List α, (l.flatMap f).length ≤ l.length * B
  | [] => by simp
  | a :: l => by
    rw [List.flatMap_cons, List.length_append, List.length_cons, Nat.add_mul]
    have := flatMap_len f B hf l
    have := hf a
    omega
end Go.Proofs.YtfccacobkcglcaaGreat.X
/-! Plain facts: the lines of a pattern: each motion that turns the plane over adds two. -/
namespace Go.Proofs.YtfccacobkcglcaaGreat.X
open Go
set_option linter.unusedVariables false
def dv (a b : Int) : Int := if b = 0 then 0 else a / b
def negS (m : Mt) : Mt := (-m.1, -m.2.1, -m.2.2.1, -m.2.2.2)
def le3 (x : Int) : Bool := decide (-3 ≤ x) && decide (x ≤ 3)
/-- the first multiple of a vector that lies in the lattice -/
def mulV (k : Nat) (v : Vc) : Vc := ((k : Int) * v.1, (k : Int) * v.2)
end Go.Proofs.YtfccacobkcglcaaGreat.X
/-! Plain facts: which patterns are valid; copies and comparisons of patterns. -/
namespace Go.Proofs.YtfccacobkcglcaaGreat.X
open Go
set_option linter.unusedVariables false
theorem in_eq (a b c : Int) : f141G KK a b c = some (decide (b ≤ a ∧ a ≤ c)) := by
  unfold f141G
  simp only [Bool.or_true, cond_true]
  by_cases h : b ≤ a <;> simp [h]
theorem within_eq (a b c : Int) : f146G KK a b c = some (decide (b ≤ a ∧ a ≤ c)) := by
  unfold f146G
  simp only [Bool.or_true, cond_true]
  by_cases h : b ≤ a <;> simp [h]
def okL (l : Lt) : Bool := decide (1 ≤ l.1 ∧ l.1 ≤ 64) && decide (1 ≤ l.2.2 ∧ l.2.2 ≤ 64) && decide (0 ≤ l.2.1 ∧ l.2.1 ≤ l.1 - 1) && decide (l.1 * l.2.2 ≤ 64)
theorem okL_iff {l : Lt} : okL l = true ↔ IsL l := by
  unfold okL
  simp only [Bool.and_eq_true, decide_eq_true_eq]
  constructor
  · rintro ⟨⟨⟨⟨a1, a2⟩, c1, c2⟩, b1, b2⟩, ix⟩
    exact ⟨a1, a2, c1, c2, b1, by omega, ix⟩
  · rintro ⟨a1, a2, c1, c2, b1, b2, ix⟩
    exact ⟨⟨⟨⟨a1, a2⟩, c1, c2⟩, b1, by omega⟩, ix⟩
theorem mul64 {a c : Int} (h1 : 1 ≤ a) (h2 : a ≤ 64) (h3 : 1 ≤ c) (h4 : c ≤ 64) : 0 ≤ a * c ∧ a * c ≤ 4096 := by
  have e1 : 0 ≤ a * c := Int.mul_nonneg (by omega) (by omega)
  have e2 : a * c ≤ 64 * c := Int.mul_le_mul_of_nonneg_right h2 (by omega)
  omega
theorem specIsLattice_eq (l : Lt) : f317G KK l = some (okL l) := by
  unfold f317G okL
  simp only [in_eq, Option.bind_some, Bool.or_true, cond_true]
  by_cases h1 : 1 ≤ l.1 ∧ l.1 ≤ 64
  · by_cases h2 : 1 ≤ l.2.2 ∧ l.2.2 ≤ 64
    · have := mul64 h1.1 h1.2 h2.1 h2.2
      rw [w_id (n := l.1 - 1) (by omega) (by omega), w_id (n := l.1 * l.2.2) (by omega) (by omega)]
      by_cases h3 : 0 ≤ l.2.1 ∧ l.2.1 ≤ l.1 - 1 <;> simp [h1, h2, h3]
    · simp [h1, h2]
  · simp [h1]
theorem isLattice_eq (l : Lt) : f249G KK l = some (okL l) := by
  unfold f249G f238G okL
  simp only [within_eq, Option.bind_some, Bool.or_true, cond_true]
  by_cases h1 : 1 ≤ l.1 ∧ l.1 ≤ 64
  · by_cases h2 : 1 ≤ l.2.2 ∧ l.2.2 ≤ 64
    · have := mul64 h1.1 h1.2 h2.1 h2.2
      rw [w_id (n := l.1 - 1) (by omega) (by omega), w_id (n := l.1 * l.2.2) (by omega) (by omega)]
      by_cases h3 : 0 ≤ l.2.1 ∧ l.2.1 ≤ l.1 - 1 <;> simp [h1, h2, h3]
    · simp [h1, h2]
  · simp [h1]
def okF (f : Int) : Bool := decide (0 ≤ f ∧ f ≤ 1)
theorem specIsFrame_eq (f : Int) : f316G KK f = some (okF f) := by
  unfold f316G okF
  simp only [Bool.or_true, cond_true]
  by_cases h : f = 0
  · subst h; rfl
  · by_cases h1 : f = 1
    · subst h1; rfl
    · have h2 : (f == 0) = false := by simp [h]
      have h3 : (f == 1) = false := by simp [h1]
      rw [h2, h3]
      have : ¬ (0 ≤ f ∧ f ≤ 1) := by omega
      simp [this]
theorem isFrame_eq (f : Int) : f248G KK f = some (okF f) := by
  unfold f248G
  rw [within_eq]
  rfl
theorem l04Code_eq (f : Int) (l : Lt) : f229G KK f l = some (if okF f && okL l then 0 else 1) := by
  unfold f229G
  rw [specIsFrame_eq, specIsLattice_eq]
  cases okF f <;> cases h : okL l <;> rfl
def okC (c : Int) : Bool := decide (0 ≤ c ∧ c ≤ 9)
theorem l01Within_eq {l : List Int} (hl : l.length ≤ 1048576) : f245G KK l 64 0 9 = some (l.all okC && decide (l.length ≤ 64)) := by
  have h := iter_all (X := Int) (body := fun L x => f245_b3 KK l 64 0 9 (fun v0 => L v0) x) l (fun q => (q : Int)) okC (some false) (some (decide ((l.length : Int) ≤ 64)))
    (fun L q hq => by
      unfold f245_b3
      rw [in1 hq, in0, gd hq, in_eq]
      simp only [Bool.and_self, cond_true, Option.bind_some]
      rw [w_succ (by omega)]
      show (bif !okC l[q] then _ else _) = _
      cases okC l[q] <;> rfl)
    (fun L => by
      unfold f245_b3
      rw [out1, cond_false]) KK 0 (by omega) (by have := KKlt2 hl; omega)
  unfold f245G f245_g f245_l3
  refine h.trans ?_
  simp only [List.drop_zero]
  have e : decide ((l.length : Int) ≤ 64) = decide (l.length ≤ 64) := by
    rw [decide_eq_decide]; omega
  rw [e]
  cases l.all okC <;> rfl
theorem allWithin_eq {l : List Int} (hl : l.length ≤ 1048576) : f250G KK l 0 9 = some (l.all okC) := by
  unfold f250G f322G f368G f368_g f368_l3
  have h := iter_idx (R := Int) (body := fun L x => f368_b3 KK l (fun z1 => f323G KK z1 0 9) (fun v0 => L v0) x) l (fun c => !okC c) some
    (fun L q hq => by
      unfold f368_b3 f323G
      rw [in1 hq, in0, gd hq]
      simp only [Bool.and_self, cond_true, within_eq, Option.bind_some]
      rw [w_succ (by omega)]
      rfl)
    (fun L => by
      unfold f368_b3
      rw [out1, cond_false]) KK 0 (by omega) (by have := KKlt2 hl; omega)
  rw [List.drop_zero] at h
  refine Eq.trans (congrArg (fun o : Option Int => (o.bind fun y1 => some (decide (y1 ≥ (0 : Int)))).bind fun y2 => some (!y2)) h) ?_
  simp only [Option.bind_some, Option.some.injEq]
  rcases idxS_spec (fun c => !okC c) l 0 with ⟨h1, h2⟩ | ⟨k, h1, h2, h3, b, h4, h5⟩
  · rw [h1]
    have : l.all okC = true := List.all_eq_true.mpr fun a ha => by have := h2 a ha; simpa using this
    rw [this]
    rfl
  · rw [h2]
    have : l.all okC = false := by
      rw [List.all_eq_false]
      refine ⟨b, List.mem_of_getElem? h4, ?_⟩
      simpa using h5
    rw [this]
    simp
def okP (p : Pt) : Bool := okF p.1 && okL p.2.1 && decide ((p.2.2.length : Int) = p.2.1.1 * p.2.1.2.2) && p.2.2.all okC
theorem okP_P {p : Pt} (h : okP p = true) : IsP p := by
  unfold okP at h
  simp only [Bool.and_eq_true, decide_eq_true_eq] at h
  obtain ⟨⟨⟨h1, h2⟩, h3⟩, h4⟩ := h
  unfold okF at h1
  rw [decide_eq_true_eq] at h1
  exact ⟨h1.1, h1.2, okL_iff.mp h2, h3⟩
theorem specIsPattern_eq (p : Pt) : f133G KK p = some (okP p) := by
  unfold f133G okP
  rw [l04Code_eq]
  simp only [Option.bind_some, Bool.or_true, cond_true]
  cases h : okF p.1 && okL p.2.1
  · simp
  · have hl : IsL p.2.1 := okL_iff.mp (Bool.and_eq_true _ _ ▸ h).2
    have := mul64 hl.a1 hl.a2 hl.c1 hl.c2
    have hix := hl.ix
    rw [w_id (n := p.2.1.1 * p.2.1.2.2) (by omega) (by omega)]
    by_cases h2 : (p.2.2.length : Int) = p.2.1.1 * p.2.1.2.2
    · have h3 : p.2.2.length ≤ 64 := by omega
      rw [l01Within_eq (by omega)]
      simp [h2, h3]
    · have h4 : ((p.2.2.length : Int) == p.2.1.1 * p.2.1.2.2) = false := by simp [h2]
      simp [h2, h4]
theorem isPattern_eq (p : Pt) : f138G KK p = some (okP p) := by
  unfold f138G f238G okP
  rw [isFrame_eq, isLattice_eq]
  simp only [Option.bind_some, Bool.or_true, cond_true]
  cases h0 : okF p.1
  · simp
  cases h : okL p.2.1
  · simp
  · have hl : IsL p.2.1 := okL_iff.mp h
    have := mul64 hl.a1 hl.a2 hl.c1 hl.c2
    have hix := hl.ix
    rw [w_id (n := p.2.1.1 * p.2.1.2.2) (by omega) (by omega)]
    by_cases h2 : (p.2.2.length : Int) = p.2.1.1 * p.2.1.2.2
    · have h3 : p.2.2.length ≤ 64 := by omega
      rw [allWithin_eq (by omega)]
      simp [h2]
    · have h4 : ((p.2.2.length : Int) == p.2.1.1 * p.2.1.2.2) = false := by simp [h2]
      simp [h2, h4]
structure Cp (l : List Int) (q : Nat) (s : Nat × List Int) : Prop where
  i : s.1 = q
  n : s.2.length = l.length
  t : s.2.take q = l.take q
theorem Cp_step {l : List Int} {q : Nat} {s : Nat × List Int} (h : Cp l q s) (hq : q < l.length) : Cp l (q + 1) (s.1 + 1, s.2.set s.1 l[q]) := by
  obtain ⟨h1, h2, h3⟩ := h
  refine ⟨by simp [h1], by simp [h2], ?_⟩
  rw [h1, List.take_add_one, List.take_add_one, List.take_set_of_le (Nat.le_refl _), h3, List.getElem?_set_self (by omega), List.getElem?_eq_getElem hq]
theorem toInt64S_eq {l : List Int} (hl : l.length ≤ 1048576) : f137G KK l = some l := by
  unfold f137G f137_g f137_l2
  have h0 : (decide (0 ≤ (l.length : Int)) && Nat.ble (l.length : Int).toNat (lim 8) && ((l.length : Int) == (l.length : Int))) = true := by
    rw [blim8 (by omega)]; simp
  rw [h0, cond_true]
  have hinv : Cp l 0 (0, List.replicate (l.length : Int).toNat 0) := ⟨rfl, by simp, by simp⟩
  have h := iter_fold (X := Int × List Int) (body := fun L x => f137_b2 KK l (fun v0 v1 => L (v0, v1)) x.1 x.2) l (fun q s => ((q : Int), s.2)) (fun s a => (s.1 + 1, s.2.set s.1 a)) (fun s => some s.2) (Cp l)
    (fun L q s hq hi => by
      refine ⟨Cp_step hi hq, ?_⟩
      obtain ⟨h1, h2, h3⟩ := hi
      unfold f137_b2
      simp only
      have hz : ((0 : Int) + (q : Int)).toNat = q := by omega
      rw [in1 hq, in1 (show q < s.2.length by omega), in0, gd hq, w_succ (by omega), hz, h1]
      rfl)
    (fun L s hi => by
      unfold f137_b2
      simp only
      rw [out1, cond_false]) KK 0 (0, List.replicate (l.length : Int).toNat 0) (by omega) (by simp only [KK]; omega) hinv
  refine h.trans ?_
  rw [List.drop_zero]
  have := foldl_inv (fun (s : Nat × List Int) a => (s.1 + 1, s.2.set s.1 a)) (Cp l) l 0 _ hinv (fun i s hi hP => by
    rw [Nat.zero_add] at hP ⊢
    exact Cp_step hP hi)
  rw [Nat.zero_add] at this
  generalize l.foldl (fun (s : Nat × List Int) a => (s.1 + 1, s.2.set s.1 a)) (0, List.replicate (l.length : Int).toNat 0) = s at this ⊢
  have e : s.2.take l.length = s.2 := by rw [← this.n, List.take_length]
  have ht := this.t
  rw [List.take_length] at ht
  exact congrArg some (e.symm.trans ht)
theorem toPattern_eq {p : Pt} (hl : p.2.2.length ≤ 1048576) : f31G KK p = some p := by
  unfold f31G f44G
  rw [toInt64S_eq hl]
  rfl
theorem eqInt64S_eq {l : List Int} (hl : l.length ≤ 1048576) : f123G KK l l = some true := by
  unfold f123G f123_g f123_l2
  rw [show ((l.length : Int) != (l.length : Int)) = false by simp, cond_false]
  have h := iter_all (X := Int) (body := fun L x => f123_b2 KK l l (fun v0 => L v0) x) l (fun q => (q : Int)) (fun _ => true) (some false) (some true)
    (fun L q hq => by
      unfold f123_b2
      rw [in1 hq, in0, gd hq, w_succ (by omega)]
      simp)
    (fun L => by
      unfold f123_b2
      rw [out1, cond_false]) KK 0 (by omega) (by simp only [KK]; omega)
  refine h.trans ?_
  rw [List.drop_zero, show (l.all fun _ => true) = true from List.all_eq_true.mpr (by simp)]
  rfl
theorem eqPattern_eq {p : Pt} (hl : p.2.2.length ≤ 1048576) : f22G KK p p = some true := by
  unfold f22G f122G
  rw [eqInt64S_eq hl]
  simp
end Go.Proofs.YtfccacobkcglcaaGreat.X
