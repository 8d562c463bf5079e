/- The plain law of FnCounts: cycles are orbits, and what is counted up to a group lies between bounds. -/
import Derived.Test.YtfccacobkcglcaaGreatQmNK
import Derived.Test.YtfccacobkcglcaaGreatQmNV
import Derived.Test.YtfccacobkcglcaaGreatQmPCountOrbits
namespace Go.Proofs.YtfccacobkcglcaaGreat.X
open Go
set_option linter.unusedSimpArgs false
set_option linter.unusedVariables false
def pwS (k L : Int) : Nat → Int → Int
 | 0, p => p
 | n + 1, p => bif decide (p * k > L) then p * k else pwS k L n (p * k)
theorem pk_bd {k p : Int} (h1 : 1 ≤ k) (h2 : k ≤ 10) (p1 : 1 ≤ p) (p2 : p ≤ 1000000000000) : p ≤ p * k ∧ p * k ≤ 10000000000000 := by
 have a := Int.mul_le_mul_of_nonneg_left h1 (show 0 ≤ p by omega)
 have b := Int.mul_le_mul_of_nonneg_left h2 (show 0 ≤ p by omega)
 omega
theorem pw_ge {k : Int} (h1 : 1 ≤ k) (h2 : k ≤ 10) : ∀ (n : Nat) (p : Int), 1 ≤ p → p ≤ 1000000000000 → p ≤ pwS k (1000000000000 : Int) n p ∧ pwS k (1000000000000 : Int) n p ≤ 10000000000000
 | 0, p, h, h' => by unfold pwS; omega
 | n + 1, p, p1, p2 => by
  obtain ⟨a, b⟩ := pk_bd h1 h2 p1 p2
  unfold pwS
  by_cases hc : p * k > (1000000000000 : Int)
  ·rw [decide_eq_true hc, cond_true]; omega
  ·rw [decide_eq_false hc, cond_false]
   have := pw_ge h1 h2 n (p * k) (by omega) (by omega)
   omega
theorem pw_mono {k : Int} (h1 : 1 ≤ k) (h2 : k ≤ 10) : ∀ (n c : Nat) (p : Int), 1 ≤ p → p ≤ 1000000000000 → c ≤ n → pwS k (1000000000000 : Int) n p ≤ 1000000000000 → pwS k (1000000000000 : Int) c p ≤ pwS k (1000000000000 : Int) n p
 | n, 0, p, p1, p2, _, _ => (pw_ge h1 h2 n p p1 p2).1
 | 0, c + 1, _, _, _, h, _ => by omega
 | n + 1, c + 1, p, p1, p2, h, hn => by
  obtain ⟨a, b⟩ := pk_bd h1 h2 p1 p2
  unfold pwS at hn ⊢
  by_cases hc : p * k > (1000000000000 : Int)
  ·rw [decide_eq_true hc, cond_true, cond_true]
   exact Int.le_refl _
  ·rw [decide_eq_false hc, cond_false] at hn ⊢
   rw [cond_false]
   exact pw_mono h1 h2 n c (p * k) (by omega) (by omega) (by omega) hn
theorem ipow_loop {k : Int} (h1 : 1 ≤ k) (h2 : k ≤ 10) {N : Nat} (hN : N ≤ 1000) : ∀ (n i : Nat) (p : Int), 1 ≤ p → p ≤ 1000000000000 → i ≤ N → N - i < n → f216_l2 KK k (N : Int) (1000000000000 : Int) n p (i : Int) = some (pwS k (1000000000000 : Int) (N - i) p)
 | 0, i, _, _, _, _, h => by omega
 | n + 1, i, p, p1, p2, hi, hn => by
  show f216_b2 KK k (N : Int) (1000000000000 : Int) (fun v0 v1 => f216_l2 KK k (N : Int) (1000000000000 : Int) n v0 v1) p (i : Int) = _
  unfold f216_b2
  obtain ⟨a, b⟩ := pk_bd h1 h2 p1 p2
  by_cases hlt : i < N
  ·rw [in1 hlt, cond_true, w_id (n := p * k) (by omega) (by omega), w_succ (by omega), show N - i = (N - (i + 1)) + 1 by omega]
   unfold pwS
   by_cases hc : p * k > (1000000000000 : Int)
   ·rw [decide_eq_true hc, cond_true, cond_true]
   ·rw [decide_eq_false hc, cond_false, cond_false]
    exact ipow_loop h1 h2 hN n (i + 1) (p * k) (by omega) (by omega) (by omega) (by omega)
  ·have : i = N := by omega
   subst this
   rw [out1, cond_false, Nat.sub_self]
   rfl
theorem ipow_eq {k : Int} (h1 : 1 ≤ k) (h2 : k ≤ 10) {N : Nat} (hN : N ≤ 1000) : f216G KK k (N : Int) 1000000000000 = some (pwS k (1000000000000 : Int) N 1) := by
 have h := ipow_loop h1 h2 hN KK 0 1 (by omega) (by omega) (by omega) (by simp only [KK]; omega)
 have z : ((0 : Nat) : Int) = 0 := rfl
 rw [Nat.sub_zero, z] at h
 unfold f216G f216_g
 exact h
theorem spow_loop {k : Int} (h1 : 1 ≤ k) (h2 : k ≤ 10) : ∀ (n N : Nat) (p : Int), 1 ≤ p → p ≤ 1000000000000 → N ≤ 1000 → N + 1 < n → f220_l2 KK k (1000000000000 : Int) n (N : Int) p = some (pwS k (1000000000000 : Int) N p)
 | 0, N, _, _, _, _, h => by omega
 | n + 1, N, p, p1, p2, hN, hn => by
  show f220_b2 KK k (1000000000000 : Int) (fun v0 v1 => f220_l2 KK k (1000000000000 : Int) n v0 v1) (N : Int) p = _
  unfold f220_b2
  obtain ⟨a, b⟩ := pk_bd h1 h2 p1 p2
  rw [decide_eq_true (show p ≤ (1000000000000 : Int) from p2)]
  cases N with
  | zero =>
   rw [decide_eq_false (show ¬ ((0 : Nat) : Int) > 0 by omega)]
   rfl
  | succ N =>
   rw [decide_eq_true (show ((N + 1 : Nat) : Int) > 0 by omega)]
   simp only [Bool.not_true, Bool.or_true, cond_true]
   rw [w_id (n := p * k) (by omega) (by omega), w_id (n := ((N + 1 : Nat) : Int) - 1) (by omega) (by omega), show ((N + 1 : Nat) : Int) - 1 = (N : Int) by omega]
   unfold pwS
   by_cases hc : p * k > (1000000000000 : Int)
   ·rw [decide_eq_true hc, cond_true]
    cases n with
    | zero => omega
    | succ n =>
     show f220_b2 KK k (1000000000000 : Int) (fun v0 v1 => f220_l2 KK k (1000000000000 : Int) n v0 v1) (N : Int) (p * k) = _
     unfold f220_b2
     rw [decide_eq_false (show ¬ p * k ≤ (1000000000000 : Int) by omega)]
     cases decide ((N : Int) > 0) <;> rfl
   ·rw [decide_eq_false hc, cond_false]
    exact spow_loop h1 h2 n N (p * k) (by omega) (by omega) (by omega) (by omega)
theorem spow_eq {k : Int} (h1 : 1 ≤ k) (h2 : k ≤ 10) {N : Nat} (hN : N ≤ 1000) : f220G KK k (N : Int) 1000000000000 = some (pwS k (1000000000000 : Int) N 1) := by
 have h := spow_loop h1 h2 KK N 1 (by omega) (by omega) hN (by simp only [KK]; omega)
 unfold f220G f220_g
 exact h
theorem ix_eq {l : Lt} (hl : IsL l) : w (l.1 * l.2.2) = ((cellsS l).length : Int) := by
 have h := hl.ix
 have h1 := hl.a1
 have h2 := hl.c1
 have hm : 0 ≤ l.1 * l.2.2 := Int.mul_nonneg (by omega) (by omega)
 rw [w_id (by omega) (by omega), cellsS_len hl, Int.natCast_mul, Int.toNat_of_nonneg (by omega), Int.toNat_of_nonneg (by omega)]
def codeP (l : Lt) (k : Int) : Int := bif decide (1 ≤ k ∧ k ≤ 10) then (bif decide (pwS k (1000000000000 : Int) (cellsS l).length 1 > (1000000000000 : Int)) then 3 else 0) else 2
def codeN (f : Int) (l : Lt) (k : Int) : Int := bif okF f && okL l then codeP l k else 1
def codeU (f : Int) (l : Lt) (g : List Mo) (k : Int) : Int := bif codeC f l g true != 0 then codeC f l g true else codeP l k
theorem colCode_eq (f : Int) (l : Lt) (k : Int) : f237G KK f l k 1000000000000 = some (codeN f l k) := by
 unfold f237G codeN
 rw [frameCode_eq, Option.bind_some]
 cases hc : okF f && okL l
 ·rfl
 ·have hl := okL_iff.1 (by rw [Bool.and_eq_true] at hc; exact hc.2)
  have hN := cellsS_le hl
  simp only [cond_true, if_true, bne_self_eq_false, cond_false]
  rw [within_eq, Option.bind_some]
  unfold codeP
  by_cases hk : 1 ≤ k ∧ k ≤ 10
  ·rw [decide_eq_true hk]
   simp only [Bool.not_true, cond_false, cond_true]
   unfold f238G
   rw [Option.bind_some, ix_eq hl, ipow_eq hk.1 hk.2 (by omega), Option.bind_some]
   cases decide (pwS k (1000000000000 : Int) (cellsS l).length 1 > (1000000000000 : Int)) <;> rfl
  ·rw [decide_eq_false hk]
   rfl
theorem upCode_eq (f : Int) (l : Lt) {g : List Mo} (hn : g.length ≤ 1048576) (k : Int) : f215G KK f l g k 1000000000000 = some (codeU f l g k) := by
 unfold f215G codeU
 rw [groupCode_C f l hn, Option.bind_some]
 cases hc : codeC f l g true != 0
 ·have h0 : codeC f l g true = 0 := by simpa using hc
  obtain ⟨p1, p2, _, _⟩ := codeC_parts h0
  rw [cond_false, cond_false, colCode_eq, Option.bind_some]
  unfold codeN
  rw [p1, p2]
  rfl
 ·rfl
theorem codeC_if (f : Int) (l : Lt) (g : List Mo) : codeC f l g true = if okF f && okL l then (if grpB f l g then 0 else 2) else 1 := by
 unfold codeC
 rw [Bool.true_and]
theorem l17Code_eq (f : Int) (l : Lt) (g : List Mo) (k : Int) : f218G KK f l (okF f && okL l && grpB f l g) k 1000000000000 = some (codeU f l g k) := by
 unfold f218G codeU
 rw [codeC_if]
 cases hc : okF f && okL l
 ·simp only [Bool.false_and, Bool.not_false, Bool.true_or, cond_true, cond_false, Option.bind_some]
  rw [l06Code_C, hc]
  rfl
 ·have hl := okL_iff.1 (by rw [Bool.and_eq_true] at hc; exact hc.2)
  have hN := cellsS_le hl
  rw [Bool.true_and]
  cases hg : grpB f l g
  ·simp only [Bool.not_false, Bool.true_or, cond_true, cond_false, Option.bind_some]
   rw [l06Code_C, hc]
   rfl
  ·simp only [Bool.not_true, Bool.or_true, cond_true, if_true, bne_self_eq_false, cond_false]
   rw [in_eq, Option.bind_some, l06Code_C, hc, Option.bind_some]
   unfold codeP
   by_cases hk : 1 ≤ k ∧ k ≤ 10
   ·rw [decide_eq_true hk]
    simp only [if_true, beq_self_eq_true, Bool.not_true, Bool.or_true, cond_true]
    rw [ix_eq hl, spow_eq hk.1 hk.2 (by omega), Option.bind_some]
    cases decide (pwS k (1000000000000 : Int) (cellsS l).length 1 > (1000000000000 : Int)) <;> rfl
   ·rw [decide_eq_false hk]
    rfl
noncomputable def cycN (l : Lt) (m : Mo) : Nat := ((f217G KK l m).getD 0).toNat
theorem cyc_get {f : Int} (hf : okF f = true) {l : Lt} (hl : IsL l) {m : Mo} (hm : OkW f l m) : f217G KK l m = some (cycN l m : Int) ∧ f221G KK l m = some (cycN l m : Int) ∧ cycN l m ≤ (cellsS l).length ∧ ∃ g, f205G KK l [m] = some g ∧ codeC f l g true = 0 ∧ OrbG f l g ∧ (∀ v, cellB l v = true → ∀ u, u ∈ orbS l g v ↔ ∃ k, u = itS (mvS l m) k v) ∧ (orbsS l g).length = cycN l m := by
 obtain ⟨g, e1, e2, e3, e4, e5, e6⟩ := cycles_eq hf hl hm
 have e : cycN l m = (orbsS l g).length := by
  unfold cycN
  rw [e5]
  simp
 refine ⟨by rw [e]; exact e5, by rw [e]; exact e6, ?_, g, e1, e2, e3, e4, e.symm⟩
 rw [e]
 unfold orbsS repsS
 rw [List.length_map]
 exact List.length_filter_le _ _
theorem cyc_one {f : Int} (hf : okF f = true) {l : Lt} (hl : IsL l) : cycN l uMo = (cellsS l).length := by
 have hu := uMo_ok (f := f) hl
 obtain ⟨_, _, _, g, _, _, hO, h4, h5⟩ := cyc_get hf hl (m := uMo) ⟨hu.1, hu.good hl⟩
 have hit : ∀ v, cellB l v = true → ∀ k, itS (mvS l uMo) k v = v := fun v hv k => by
  induction k with
  | zero => rfl
  | succ k ih => show mvS l uMo (itS (mvS l uMo) k v) = v; rw [ih, mv_one hl hv]
 have horb : ∀ v, cellB l v = true → orbS l g v = [v] := fun v hv => SI_unique (orbS_SI l g v) (by unfold SI; simp) fun x => by
  rw [h4 v hv, List.mem_singleton]
  constructor
  ·rintro ⟨k, e⟩; rw [e, hit v hv]
  ·intro e; exact ⟨0, e⟩
 rw [← h5]
 unfold orbsS repsS
 rw [List.length_map, List.filter_eq_self.2 fun v hv => by
  unfold repB
  rw [horb v (cellsS_cell hv)]
  simp]
theorem okM_W {f : Int} {l : Lt} (hl : IsL l) {m : Mo} (h : OkM f l m) : OkW f l m := ⟨h.1, h.good hl⟩
noncomputable def sumU (l : Lt) (g : List Mo) (k : Int) : Int := g.foldl (fun s m => s + pwS k (1000000000000 : Int) (cycN l m) 1) 0
theorem fold_bd {α : Type} (φ : α → Int) {a b : Int} : ∀ (g : List α) (s : Int), (∀ m ∈ g, a ≤ φ m ∧ φ m ≤ b) → s + a * g.length ≤ g.foldl (fun s m => s + φ m) s ∧ g.foldl (fun s m => s + φ m) s ≤ s + b * g.length
 | [], s, _ => by simp
 | m :: g, s, h => by
  have h1 := h m (by simp)
  have h2 := fold_bd φ (a := a) (b := b) g (s + φ m) fun x hx => h x (by simp [hx])
  rw [List.foldl_cons, List.length_cons]
  have e1 : a * ((g.length + 1 : Nat) : Int) = a * (g.length : Int) + a := by rw [Int.natCast_add, Int.mul_add]; simp
  have e2 : b * ((g.length + 1 : Nat) : Int) = b * (g.length : Int) + b := by rw [Int.natCast_add, Int.mul_add]; simp
  rw [e1, e2]
  omega
theorem fold_one {α : Type} (φ : α → Int) {b : Int} {m0 : α} (hb : φ m0 = b) : ∀ (g : List α) (s : Int), (∀ m ∈ g, 1 ≤ φ m) → m0 ∈ g → s + b + (g.length : Int) - 1 ≤ g.foldl (fun s m => s + φ m) s
 | [], _, _, h => by cases h
 | m :: g, s, h, hm => by
  rw [List.foldl_cons, List.length_cons]
  rcases List.mem_cons.1 hm with e | hm
  ·have h2 := (fold_bd φ (a := 1) (b := 0) g (s + φ m))
   have h3 : ∀ (g : List α) (s : Int), (∀ m ∈ g, 1 ≤ φ m) → s + (g.length : Int) ≤ g.foldl (fun s m => s + φ m) s := fun g => by
    induction g with
    | nil => intro s _; simp
    | cons x g ih =>
     intro s hx
     have a1 := hx x (by simp)
     have a2 := ih (s + φ x) fun y hy => hx y (by simp [hy])
     rw [List.foldl_cons, List.length_cons]
     omega
   have h4 := h3 g (s + φ m) fun x hx => h x (by simp [hx])
   rw [← e] at h4 ⊢
   omega
  ·have h1 := h m (by simp)
   have h2 := fold_one φ hb g (s + φ m) (fun x hx => h x (by simp [hx])) hm
   omega
def uOK (f : Int) (l : Lt) (g : List Mo) (k : Int) : Prop := OrbG f l g ∧ okF f = true ∧ 1 ≤ k ∧ k ≤ 10 ∧ pwS k (1000000000000 : Int) (cellsS l).length 1 ≤ 1000000000000
theorem codeU_0 {f : Int} {l : Lt} {g : List Mo} {k : Int} (h : codeU f l g k = 0) : uOK f l g k ∧ codeN f l k = 0 := by
 unfold codeU at h
 cases hc : codeC f l g true != 0
 ·have h0 : codeC f l g true = 0 := by simpa using hc
  obtain ⟨p1, p2, _, _⟩ := codeC_parts h0
  rw [hc, cond_false] at h
  have hN : codeN f l k = 0 := by
   unfold codeN
   rw [p1, p2]
   exact h
  unfold codeP at h
  by_cases hk : 1 ≤ k ∧ k ≤ 10
  ·rw [decide_eq_true hk, cond_true] at h
   refine ⟨⟨(codeC_0 h0).1, p1, hk.1, hk.2, ?_⟩, hN⟩
   by_cases hp : pwS k (1000000000000 : Int) (cellsS l).length 1 > (1000000000000 : Int)
   ·rw [decide_eq_true hp] at h; exact absurd h (by decide)
   ·omega
  ·rw [decide_eq_false hk] at h; simp at h
 ·rw [hc, cond_true] at h
  rw [h] at hc
  exact absurd hc (by decide)
theorem pw_in {f : Int} {l : Lt} {g : List Mo} {k : Int} (h : uOK f l g k) {m : Mo} (hm : m ∈ g) : 1 ≤ pwS k (1000000000000 : Int) (cycN l m) 1 ∧ pwS k (1000000000000 : Int) (cycN l m) 1 ≤ pwS k (1000000000000 : Int) (cellsS l).length 1 := by
 obtain ⟨hO, hf, k1, k2, hp⟩ := h
 obtain ⟨_, _, hc, _⟩ := cyc_get hf hO.la (okM_W hO.la (hO.pr.mem m hm))
 exact ⟨(pw_ge k1 k2 _ 1 (by omega) (by omega)).1, pw_mono k1 k2 _ _ 1 (by omega) (by omega) hc hp⟩
theorem sum_bd {f : Int} {l : Lt} {g : List Mo} {k : Int} (h : uOK f l g k) : (g.length : Int) ≤ sumU l g k ∧ sumU l g k ≤ pwS k (1000000000000 : Int) (cellsS l).length 1 * g.length ∧ pwS k (1000000000000 : Int) (cellsS l).length 1 + (g.length : Int) - 1 ≤ sumU l g k := by
 have h1 := fold_bd (fun m => pwS k (1000000000000 : Int) (cycN l m) 1) (a := 1) (b := pwS k (1000000000000 : Int) (cellsS l).length 1) g 0 fun m hm => pw_in h hm
 have h2 := fold_one (fun m => pwS k (1000000000000 : Int) (cycN l m) 1) (b := pwS k (1000000000000 : Int) (cellsS l).length 1) (m0 := uMo) (by rw [cyc_one h.2.1 h.1.la]) g 0 (fun m hm => (pw_in h hm).1) h.1.one
 unfold sumU
 omega
def resU (f : Int) (l : Lt) (g : List Mo) (k n : Int) : Int × Int := bif codeU f l g k != 0 then (0, codeU f l g k) else (n, 0)
theorem specUT_eq (f : Int) (l : Lt) {g : List Mo} (hn : g.length ≤ 1048576) (k : Int) : f100G KK f l g k = some (resU f l g k ((sumU l g k).tdiv (g.length : Int))) := by
 unfold f100G f100_g resU
 rw [specIsGroup_eq f l hn, Option.bind_some, l17Code_eq, Option.bind_some]
 cases hc : codeU f l g k != 0
 ·have h0 : codeU f l g k = 0 := by simpa using hc
  obtain ⟨hU, _⟩ := codeU_0 h0
  have hgl := hU.1.len
  have hS := sum_bd hU
  have hpos : 0 < g.length := List.length_pos_of_mem hU.1.one
  have hh := iter_fold (R := Int × Int) (body := fun L x => f100_b6 KK f l g k (codeU f l g k) (fun v0 v1 => L (v0, v1)) x.1 x.2) g (fun q s => (s, (q : Int))) (fun s m => s + pwS k (1000000000000 : Int) (cycN l m) 1) (fun s => some (w (s.tdiv (g.length : Int)), 0)) (fun q s => 0 ≤ s ∧ s ≤ (q : Int) * 1000000000000)
   (fun L q s hq hi => by
    have hb := pw_in hU (List.getElem_mem hq)
    have hp := hU.2.2.2.2
    obtain ⟨_, e2, e3, _⟩ := cyc_get hU.2.1 hU.1.la (okM_W hU.1.la (hU.1.pr.mem _ (List.getElem_mem hq)))
    have hN := cellsS_le hU.1.la
    refine ⟨⟨by omega, by omega⟩, ?_⟩
    show f100_b6 KK f l g k (codeU f l g k) (fun v0 v1 => L (v0, v1)) s (q : Int) = _
    unfold f100_b6
    rw [in1 hq, in0, gd hq]
    simp only [Bool.and_self, cond_true]
    rw [show (((g[q].1.1, g[q].1.2.1, g[q].1.2.2), g[q].2) : Mo) = g[q] from rfl, e2, Option.bind_some, spow_eq hU.2.2.1 hU.2.2.2.1 (by omega), Option.bind_some, w_succ (by omega), w_id (n := s + pwS k (1000000000000 : Int) (cycN l g[q]) 1) (by omega) (by omega)])
   (fun L s hi => by
    show f100_b6 KK f l g k (codeU f l g k) (fun v0 v1 => L (v0, v1)) s (g.length : Int) = _
    unfold f100_b6
    rw [out1, cond_false, show ((g.length : Int) != 0) = true from bne_iff_ne.2 (by omega), cond_true]) KK 0 0 (by omega) (by simp only [KK]; omega) ⟨by omega, by omega⟩
  rw [cond_false, cond_false]
  refine Eq.trans hh ?_
  rw [List.drop_zero]
  show some (w ((sumU l g k).tdiv (g.length : Int)), (0 : Int)) = _
  have e1 : (sumU l g k).tdiv (g.length : Int) ≤ sumU l g k := Int.tdiv_le_self _ (by omega)
  have e2 : 0 ≤ (sumU l g k).tdiv (g.length : Int) := Int.tdiv_nonneg (by omega) (by omega)
  have e3 : pwS k (1000000000000 : Int) (cellsS l).length 1 * (g.length : Int) ≤ 1000000000000 * 768 := Int.mul_le_mul hU.2.2.2.2 (by omega) (by omega) (by omega)
  rw [w_id (by omega) (by omega)]
 ·rfl
theorem implUT_eq (f : Int) (l : Lt) {g : List Mo} (hn : g.length ≤ 1048576) (k : Int) : f99G KK f l g k = some (resU f l g k ((sumU l g k).tdiv (g.length : Int))) := by
 unfold f99G f99_g resU
 rw [upCode_eq f l hn, Option.bind_some]
 cases hc : codeU f l g k != 0
 ·have h0 : codeU f l g k = 0 := by simpa using hc
  obtain ⟨hU, _⟩ := codeU_0 h0
  have hgl := hU.1.len
  have hS := sum_bd hU
  have hpos : 0 < g.length := List.length_pos_of_mem hU.1.one
  have hh := iter_fold (R := Int × Int) (body := fun L x => f99_b5 KK f l g k (codeU f l g k) (fun v0 v1 => L (v0, v1)) x.1 x.2) g (fun q s => (s, (q : Int))) (fun s m => s + pwS k (1000000000000 : Int) (cycN l m) 1) (fun s => some (w (s.tdiv (g.length : Int)), 0)) (fun q s => 0 ≤ s ∧ s ≤ (q : Int) * 1000000000000)
   (fun L q s hq hi => by
    have hb := pw_in hU (List.getElem_mem hq)
    have hp := hU.2.2.2.2
    obtain ⟨e1, _, e3, _⟩ := cyc_get hU.2.1 hU.1.la (okM_W hU.1.la (hU.1.pr.mem _ (List.getElem_mem hq)))
    have hN := cellsS_le hU.1.la
    refine ⟨⟨by omega, by omega⟩, ?_⟩
    show f99_b5 KK f l g k (codeU f l g k) (fun v0 v1 => L (v0, v1)) s (q : Int) = _
    unfold f99_b5
    rw [in1 hq, in0, gd hq]
    simp only [Bool.and_self, cond_true]
    rw [show (((g[q].1.1, g[q].1.2.1, g[q].1.2.2), g[q].2) : Mo) = g[q] from rfl, e1, Option.bind_some, ipow_eq hU.2.2.1 hU.2.2.2.1 (by omega), Option.bind_some, w_succ (by omega), w_id (n := s + pwS k (1000000000000 : Int) (cycN l g[q]) 1) (by omega) (by omega)])
   (fun L s hi => by
    show f99_b5 KK f l g k (codeU f l g k) (fun v0 v1 => L (v0, v1)) s (g.length : Int) = _
    unfold f99_b5
    rw [out1, cond_false, show ((g.length : Int) != 0) = true from bne_iff_ne.2 (by omega), cond_true]) KK 0 0 (by omega) (by simp only [KK]; omega) ⟨by omega, by omega⟩
  rw [cond_false, cond_false]
  refine Eq.trans hh ?_
  rw [List.drop_zero]
  show some (w ((sumU l g k).tdiv (g.length : Int)), (0 : Int)) = _
  have e1 : (sumU l g k).tdiv (g.length : Int) ≤ sumU l g k := Int.tdiv_le_self _ (by omega)
  have e2 : 0 ≤ (sumU l g k).tdiv (g.length : Int) := Int.tdiv_nonneg (by omega) (by omega)
  have e3 : pwS k (1000000000000 : Int) (cellsS l).length 1 * (g.length : Int) ≤ 1000000000000 * 768 := Int.mul_le_mul hU.2.2.2.2 (by omega) (by omega) (by omega)
  rw [w_id (by omega) (by omega)]
 ·rfl
theorem up_last {f : Int} {l : Lt} {g : List Mo} {k : Int} (h : uOK f l g k) : 1 ≤ (sumU l g k).tdiv (g.length : Int) ∧ (sumU l g k).tdiv (g.length : Int) ≤ pwS k (1000000000000 : Int) (cellsS l).length 1 ∧ pwS k (1000000000000 : Int) (cellsS l).length 1 ≤ w ((sumU l g k).tdiv (g.length : Int) * (g.length : Int)) := by
 have hS := sum_bd h
 have hgl := h.1.len
 have hpos : 0 < g.length := List.length_pos_of_mem h.1.one
 have hp := h.2.2.2.2
 have hp1 := (pw_ge h.2.2.1 h.2.2.2.1 (cellsS l).length 1 (by omega) (by omega)).1
 have ed : (sumU l g k).tdiv (g.length : Int) = sumU l g k / (g.length : Int) := Int.tdiv_eq_ediv_of_nonneg (by omega)
 have h1 : (1 : Int) ≤ sumU l g k / (g.length : Int) := (Int.le_ediv_iff_mul_le (by omega)).2 (by omega)
 have h2 : sumU l g k / (g.length : Int) ≤ pwS k (1000000000000 : Int) (cellsS l).length 1 := by
  have : sumU l g k / (g.length : Int) * (g.length : Int) ≤ pwS k (1000000000000 : Int) (cellsS l).length 1 * (g.length : Int) := Int.le_trans (Int.ediv_mul_le _ (by omega)) hS.2.1
  exact Int.le_of_mul_le_mul_right this (by omega)
 have h3 := Int.emod_add_mul_ediv (sumU l g k) (g.length : Int)
 have h4 := Int.emod_lt_of_pos (sumU l g k) (show (0 : Int) < (g.length : Int) by omega)
 have h5 : sumU l g k / (g.length : Int) * (g.length : Int) = (g.length : Int) * (sumU l g k / (g.length : Int)) := Int.mul_comm _ _
 have h6 : sumU l g k / (g.length : Int) * (g.length : Int) ≤ pwS k (1000000000000 : Int) (cellsS l).length 1 * (g.length : Int) := Int.mul_le_mul_of_nonneg_right h2 (by omega)
 have e3 : pwS k (1000000000000 : Int) (cellsS l).length 1 * (g.length : Int) ≤ 1000000000000 * 768 := Int.mul_le_mul hp (by omega) (by omega) (by omega)
 rw [ed]
 refine ⟨h1, h2, ?_⟩
 rw [w_id (by omega) (by omega)]
 omega
theorem implCP_eq (f : Int) (l : Lt) (k : Int) (h : codeN f l k = 0) (hl : IsL l) : f112G KK f l k = some (pwS k (1000000000000 : Int) (cellsS l).length 1, 0) := by
 unfold f112G
 rw [colCode_eq, Option.bind_some, h]
 have hN := cellsS_le hl
 have hk : 1 ≤ k ∧ k ≤ 10 := by
  unfold codeN codeP at h
  by_cases hk : 1 ≤ k ∧ k ≤ 10
  ·exact hk
  ·rw [decide_eq_false hk] at h
   cases hc : okF f && okL l
   ·rw [hc] at h; simp at h
   ·rw [hc] at h; simp at h
 simp only [bne_self_eq_false, cond_false]
 unfold f238G
 rw [Option.bind_some, ix_eq hl, ipow_eq hk.1 hk.2 (by omega), Option.bind_some]
def allS (f : Int) (l : Lt) : List Mo := (stabS f l).flatMap fun m => (cellsS l).map fun t => (m, t)
theorem sall_in {f : Int} {l : Lt} (hl : IsL l) {q : Nat} (hq : q < (stabS f l).length) {L : Int → List Mo → Option (List Mo)} {s : List Mo} (hs : s.length + (cellsS l).length ≤ 5000) : f230_l11 KK f l (q : Int) (stabS f l) (cellsS l) L KK 0 s = L ((q + 1 : Nat) : Int) (s ++ (cellsS l).map fun t => ((stabS f l)[q], t)) := by
 have hN := cellsS_le hl
 have hsl := stab_len f l
 have hh := iter_fold (R := List Mo) (body := fun L' x => f230_b11 KK f l (q : Int) (stabS f l) (cellsS l) L (fun v0 v1 => L' (v0, v1)) x.1 x.2) (cellsS l) (fun i s => ((i : Int), s)) (fun s t => s ++ [(((stabS f l)[q], t) : Mo)]) (fun s => L ((q + 1 : Nat) : Int) s) (fun i s' => s'.length = s.length + i)
  (fun L' i s' hi hs' => by
   refine ⟨by simp; omega, ?_⟩
   show f230_b11 KK f l (q : Int) (stabS f l) (cellsS l) L (fun v0 v1 => L' (v0, v1)) (i : Int) s' = _
   unfold f230_b11
   rw [in1 hi, in0, in0, in1 hq, gd hi, gd hq, w_succ (by omega), blim48 (by simp; omega)]
   rfl)
  (fun L' s' hs' => by
   show f230_b11 KK f l (q : Int) (stabS f l) (cellsS l) L (fun v0 v1 => L' (v0, v1)) ((cellsS l).length : Int) s' = _
   unfold f230_b11
   rw [out1, cond_false, w_succ (by omega)]) KK 0 s (by omega) (by simp only [KK]; omega) (by omega)
 rw [List.drop_zero, foldl_push] at hh
 exact hh
theorem l16All_eq {f : Int} (hf : okF f = true) {l : Lt} (hl : IsL l) : f230G KK f l = some (allS f l) := by
 have hf' : 0 ≤ f ∧ f ≤ 1 := by simpa [okF] using hf
 have hN := cellsS_le hl
 have hsl := stab_len f l
 have hh := iter_fold (R := List Mo) (body := fun L x => f230_b8 KK f l (stabS f l) (cellsS l) (fun c0 d0 d1 => f230_l11 KK f l c0 (stabS f l) (cellsS l) (fun v0 v1 => L (v0, v1)) KK d0 d1) (fun v0 v1 => L (v0, v1)) x.1 x.2) (stabS f l) (fun q s => ((q : Int), s)) (fun s m => s ++ (cellsS l).map fun t => ((m, t) : Mo)) (fun s => some s) (fun q s => s.length ≤ q * 64)
  (fun L q s hq hi => by
   refine ⟨by simp; omega, ?_⟩
   show f230_b8 KK f l (stabS f l) (cellsS l) _ (fun v0 v1 => L (v0, v1)) (q : Int) s = _
   unfold f230_b8
   rw [in1 hq, cond_true]
   exact sall_in hl hq (by omega))
  (fun L s hi => by
   show f230_b8 KK f l (stabS f l) (cellsS l) _ (fun v0 v1 => L (v0, v1)) ((stabS f l).length : Int) s = _
   unfold f230_b8
   rw [out1, cond_false]) KK 0 [] (by omega) (by simp only [KK]; omega) (by simp)
 unfold f230G f230_g
 rw [l04Stable_eq hf'.1 hf'.2 hl, Option.bind_some, l03Cells_eq hl, Option.bind_some]
 rw [List.drop_zero, foldl_flat, List.nil_append] at hh
 exact hh
theorem iall_in {f : Int} {l : Lt} (hl : IsL l) {q : Nat} (hq : q < (stabS f l).length) {L : Int → List Mo → Option (List Mo)} {s : List Mo} (hs : s.length + (cellsS l).length ≤ 5000) : f228_l12 KK f l (q : Int) (stabS f l) (cellsS l) L KK 0 s = L ((q + 1 : Nat) : Int) (s ++ (cellsS l).map fun t => ((stabS f l)[q], t)) := by
 have hN := cellsS_le hl
 have hsl := stab_len f l
 have hh := iter_fold (R := List Mo) (body := fun L' x => f228_b12 KK f l (q : Int) (stabS f l) (cellsS l) L (fun v0 v1 => L' (v0, v1)) x.1 x.2) (cellsS l) (fun i s => ((i : Int), s)) (fun s t => s ++ [(((stabS f l)[q], t) : Mo)]) (fun s => L ((q + 1 : Nat) : Int) s) (fun i s' => s'.length = s.length + i)
  (fun L' i s' hi hs' => by
   refine ⟨by simp; omega, ?_⟩
   show f228_b12 KK f l (q : Int) (stabS f l) (cellsS l) L (fun v0 v1 => L' (v0, v1)) (i : Int) s' = _
   unfold f228_b12
   rw [in1 hi, in0, gd hi, gd hq, w_succ (by omega), blim48 (by simp; omega)]
   rfl)
  (fun L' s' hs' => by
   show f228_b12 KK f l (q : Int) (stabS f l) (cellsS l) L (fun v0 v1 => L' (v0, v1)) ((cellsS l).length : Int) s' = _
   unfold f228_b12
   rw [out1, cond_false, w_succ (by omega)]) KK 0 s (by omega) (by simp only [KK]; omega) (by omega)
 rw [List.drop_zero, foldl_push] at hh
 exact hh
theorem allMotions_eq {f : Int} (hf : okF f = true) {l : Lt} (hl : IsL l) : f228G KK f l = some (allS f l) := by
 have hf' : 0 ≤ f ∧ f ≤ 1 := by simpa [okF] using hf
 have hN := cellsS_le hl
 have hsl := stab_len f l
 have hh := iter_fold (R := List Mo) (body := fun L x => f228_b8 KK f l (stabS f l) (fun c0 c1 d0 d1 => f228_l12 KK f l c0 (stabS f l) c1 (fun v0 v1 => L (v0, v1)) KK d0 d1) (fun v0 v1 => L (v0, v1)) x.1 x.2) (stabS f l) (fun q s => ((q : Int), s)) (fun s m => s ++ (cellsS l).map fun t => ((m, t) : Mo)) (fun s => some s) (fun q s => s.length ≤ q * 64)
  (fun L q s hq hi => by
   refine ⟨by simp; omega, ?_⟩
   show f228_b8 KK f l (stabS f l) _ (fun v0 v1 => L (v0, v1)) (q : Int) s = _
   unfold f228_b8
   rw [in1 hq, in0, cells_eq hl]
   simp only [Bool.and_self, cond_true, Option.bind_some]
   exact iall_in hl hq (by omega))
  (fun L s hi => by
   show f228_b8 KK f l (stabS f l) _ (fun v0 v1 => L (v0, v1)) ((stabS f l).length : Int) s = _
   unfold f228_b8
   rw [out1, cond_false]) KK 0 [] (by omega) (by simp only [KK]; omega) (by simp)
 unfold f228G f228_g
 rw [latticeMats_eq hf'.1 hf'.2 hl, Option.bind_some]
 rw [List.drop_zero, foldl_flat, List.nil_append] at hh
 exact hh
theorem allS_len (f : Int) {l : Lt} (hl : IsL l) : (allS f l).length ≤ 768 := by
 have hN := cellsS_le hl
 have hsl := stab_len f l
 have h : ∀ (M : List Mt), (M.flatMap fun m => (cellsS l).map fun t => ((m, t) : Mo)).length ≤ M.length * 64 := fun M => by
  induction M with
  | nil => simp
  | cons x M ih => rw [List.flatMap_cons, List.length_append, List.length_map, List.length_cons]; omega
 have := h (stabS f l)
 unfold allS
 omega
def resAM (f : Int) (l : Lt) : List Mo × Int := bif okF f && okL l then (allS f l, 0) else ([], 1)
theorem specAM_eq (f : Int) (l : Lt) : f106G KK f l = some (resAM f l) := by
 unfold f106G resAM
 rw [l04Code_eq, Option.bind_some]
 cases hc : okF f && okL l
 ·rfl
 ·rw [Bool.and_eq_true] at hc
  simp only [if_true, bne_self_eq_false, cond_false, cond_true]
  rw [l16All_eq hc.1 (okL_iff.1 hc.2), Option.bind_some]
theorem implAM_eq (f : Int) (l : Lt) : f105G KK f l = some (resAM f l) := by
 unfold f105G resAM
 rw [frameCode_eq, Option.bind_some]
 cases hc : okF f && okL l
 ·rfl
 ·rw [Bool.and_eq_true] at hc
  simp only [if_true, bne_self_eq_false, cond_false, cond_true]
  rw [allMotions_eq hc.1 (okL_iff.1 hc.2), Option.bind_some]
def resAS (f : Int) (l : Lt) : List Mo × Int := bif okF f && okL l then ((cellsS l).map fun t => ((1, 0, 0, 1), t), 0) else ([], 1)
theorem specAS_eq (f : Int) (l : Lt) : f108G KK f l = some (resAS f l) := by
 unfold f108G f108_g resAS
 rw [l04Code_eq, Option.bind_some]
 cases hc : okF f && okL l
 ·rfl
 ·rw [Bool.and_eq_true] at hc
  have hl := okL_iff.1 hc.2
  have hN := cellsS_le hl
  have hu : f233G KK = some (1, 0, 0, 1) := rfl
  simp only [if_true, bne_self_eq_false, cond_false, cond_true]
  rw [l03Cells_eq hl, Option.bind_some]
  have hh := iter_fold (R := List Mo × Int) (body := fun L x => f108_b5 KK f l 0 (cellsS l) (fun v0 v1 => L (v0, v1)) x.1 x.2) (cellsS l) (fun q s => ((q : Int), s)) (fun s t => s ++ [(((1, 0, 0, 1), t) : Mo)]) (fun s => some (s, 0)) (fun q s => s.length = q)
   (fun L q s hq hi => by
    refine ⟨by simp; omega, ?_⟩
    show f108_b5 KK f l 0 (cellsS l) (fun v0 v1 => L (v0, v1)) (q : Int) s = _
    unfold f108_b5
    rw [in1 hq, in0, gd hq, hu, w_succ (by omega), Option.bind_some, blim48 (by simp; omega)]
    rfl)
   (fun L s hi => by
    show f108_b5 KK f l 0 (cellsS l) (fun v0 v1 => L (v0, v1)) ((cellsS l).length : Int) s = _
    unfold f108_b5
    rw [out1, cond_false]) KK 0 [] (by omega) (by simp only [KK]; omega) rfl
  rw [List.drop_zero, foldl_push, List.nil_append] at hh
  exact hh
theorem implAS_eq (f : Int) (l : Lt) : f107G KK f l = some (resAS f l) := by
 unfold f107G f107_g resAS
 rw [frameCode_eq, Option.bind_some]
 cases hc : okF f && okL l
 ·rfl
 ·rw [Bool.and_eq_true] at hc
  have hl := okL_iff.1 hc.2
  have hN := cellsS_le hl
  have hu : f231G KK = some (1, 0, 0, 1) := rfl
  simp only [if_true, bne_self_eq_false, cond_false, cond_true]
  rw [cells_eq hl, Option.bind_some]
  have hh := iter_fold (R := List Mo × Int) (body := fun L x => f107_b5 KK f l 0 (cellsS l) (fun v0 v1 => L (v0, v1)) x.1 x.2) (cellsS l) (fun q s => ((q : Int), s)) (fun s t => s ++ [(((1, 0, 0, 1), t) : Mo)]) (fun s => some (s, 0)) (fun q s => s.length = q)
   (fun L q s hq hi => by
    refine ⟨by simp; omega, ?_⟩
    show f107_b5 KK f l 0 (cellsS l) (fun v0 v1 => L (v0, v1)) (q : Int) s = _
    unfold f107_b5
    rw [in1 hq, in0, gd hq, hu, w_succ (by omega), Option.bind_some, blim48 (by simp; omega)]
    rfl)
   (fun L s hi => by
    show f107_b5 KK f l 0 (cellsS l) (fun v0 v1 => L (v0, v1)) ((cellsS l).length : Int) s = _
    unfold f107_b5
    rw [out1, cond_false]) KK 0 [] (by omega) (by simp only [KK]; omega) rfl
  rw [List.drop_zero, foldl_push, List.nil_append] at hh
  exact hh
theorem resAM_len (f : Int) (l : Lt) : (resAM f l).1.length ≤ 1000 := by
 unfold resAM
 cases hc : okF f && okL l
 ·simp
 ·rw [Bool.and_eq_true] at hc
  have := allS_len f (okL_iff.1 hc.2)
  simp only [cond_true]
  omega
theorem resAS_len (f : Int) (l : Lt) : (resAS f l).1.length ≤ 1000 := by
 unfold resAS
 cases hc : okF f && okL l
 ·simp
 ·rw [Bool.and_eq_true] at hc
  have := cellsS_le (okL_iff.1 hc.2)
  simp only [cond_true, List.length_map]
  omega
noncomputable def resCC (f : Int) (l : Lt) (m : Mo) : Int × Int := bif okF f && okL l then (bif suitB f l m then ((cycN l m : Int), 0) else (0, 2)) else (0, 1)
theorem suit_W {f : Int} {l : Lt} {m : Mo} (h : suitB f l m = true) : OkW f l m := by
 have hg := suit_good h
 unfold suitB at h
 rw [Bool.and_eq_true, List.contains_iff_mem] at h
 exact ⟨h.1, hg⟩
theorem specCC_eq (f : Int) (l : Lt) (m : Mo) : f103G KK f l m = some (resCC f l m) := by
 unfold f103G resCC
 rw [isSuitable_eq, Option.bind_some, l06Code_C, Option.bind_some]
 cases hc : okF f && okL l
 ·rfl
 ·rw [Bool.true_and]
  cases hs : suitB f l m
  ·rfl
  ·rw [Bool.and_eq_true] at hc
   obtain ⟨_, e, _⟩ := cyc_get hc.1 (okL_iff.1 hc.2) (suit_W hs)
   simp only [if_true, bne_self_eq_false, cond_false, cond_true]
   rw [e, Option.bind_some]
theorem implCC_eq (f : Int) (l : Lt) (m : Mo) : f102G KK f l m = some (resCC f l m) := by
 unfold f102G resCC
 rw [frameCode_eq, Option.bind_some]
 cases hc : okF f && okL l
 ·rfl
 ·rw [Bool.and_eq_true] at hc
  simp only [if_true, bne_self_eq_false, cond_false, cond_true]
  rw [implSuit_eq hc.1 (okL_iff.1 hc.2), Option.bind_some]
  cases hs : suitB f l m
  ·rfl
  ·obtain ⟨e, _⟩ := cyc_get hc.1 (okL_iff.1 hc.2) (suit_W hs)
   simp only [Bool.not_true, cond_false, cond_true]
   rw [e, Option.bind_some]
theorem cyc_law {f : Int} {l : Lt} {m : Mo} (h : (resCC f l m).2 = 0) : ∃ g, f110G KK f l [m] = some (g, 0) ∧ g.length ≤ 1048576 ∧ resCO f l g = ((resCC f l m).1, 0) := by
 unfold resCC at h ⊢
 cases hc : okF f && okL l
 ·rw [hc] at h; simp at h
 ·rw [hc, cond_true] at h
  rw [cond_true]
  cases hs : suitB f l m
  ·rw [hs] at h; simp at h
  ·rw [cond_true]
   have hc' := hc
   rw [Bool.and_eq_true] at hc'
   have hl := okL_iff.1 hc'.2
   obtain ⟨_, _, _, g, e1, e2, e3, _, e5⟩ := cyc_get hc'.1 hl (suit_W hs)
   refine ⟨g, ?_, by have := e3.len; omega, ?_⟩
   ·unfold f110G
    rw [frameCode_eq, Option.bind_some, hc]
    have e8 : decide ((([m] : List Mo).length : Int) > 8) = false := by simp
    simp only [if_true, bne_self_eq_false, cond_false, e8, Bool.not_false, Bool.or_true, cond_true]
    rw [containsFuncMo_eq (by simp) (fun z2 => f235G KK z2 f l) (fun x => !suitB f l x) (fun x _ => by
     unfold f235G
     rw [implSuit_eq hc'.1 hl, Option.bind_some]), Option.bind_some]
    simp only [List.any_cons, List.any_nil, Bool.or_false, hs, Bool.not_true, cond_false]
    rw [e1, Option.bind_some]
   ·unfold resCO
    rw [e2, e5]
    rfl
theorem dut_ok {c : List Int} (hb : ∀ i (h : i < c.length), 0 ≤ c[i] ∧ c[i] ≤ 255) (hl : c.length ≤ 4096) : ∃ f l g k, f98G KK c = some (f, l, g, k) ∧ g.length ≤ 2000 := by
 obtain ⟨t0, s0, e0⟩ := from_ok hb hl
 have hG : ∃ t f l g, f213G KK (c, t0) = some (t, f, l, g) ∧ Src c t ∧ g.length ≤ 2000 := by
  obtain ⟨t1, f, l, g, e1, s1, hg⟩ := draw_ok s0
  unfold f213G
  rw [e1, Option.bind_some]
  simp only
  rw [l04Code_eq, Option.bind_some]
  cases hc : okF f && okL l
  ·exact ⟨t1, f, l, g, rfl, s1, hg⟩
  ·simp only [if_true, beq_self_eq_true, Bool.not_true, Bool.or_true, cond_true]
   have hc' := hc
   rw [Bool.and_eq_true] at hc'
   have hL := okL_iff.1 hc'.2
   cases decide (w (l.1 * l.2.2) ≤ 4)
   ·exact ⟨t1, f, l, g, rfl, s1, hg⟩
   ·rw [cond_true]
    obtain ⟨t2, r2, e2, s2, _⟩ := next_ok s1 4
    rw [e2, Option.bind_some]
    simp only
    cases r2 == 0
    ·rw [cond_false]
     cases r2 == 1
     ·exact ⟨t2, f, l, g, rfl, s2, hg⟩
     ·rw [cond_true, specAS_eq, Option.bind_some]
      exact ⟨t2, f, l, _, rfl, s2, by have := resAS_len f l; omega⟩
    ·rw [cond_true, l16All_eq hc'.1 hL, Option.bind_some]
     exact ⟨t2, f, l, _, rfl, s2, by have := allS_len f hL; omega⟩
 obtain ⟨t1, f, l, g, e1, s1, hg⟩ := hG
 have hK : ∃ t k, f214G KK (c, t1) = some (t, k) := by
  unfold f214G
  obtain ⟨t2, r2, e2, s2, _⟩ := next_ok s1 12
  rw [e2, Option.bind_some]
  simp only
  obtain ⟨t3, r3, e3, s3, _⟩ := pick_ok s2 (l := [(2 : Int), 2, 3, 1, 4, 10, r2]) (by simp)
  rw [e3]
  exact ⟨t3, r3, rfl⟩
 obtain ⟨t2, k, e2⟩ := hK
 unfold f98G
 rw [e0, Option.bind_some, e1, Option.bind_some]
 simp only
 rw [e2]
 exact ⟨f, l, g, k, rfl, hg⟩
theorem dam_ok {c : List Int} (hb : ∀ i (h : i < c.length), 0 ≤ c[i] ∧ c[i] ≤ 255) (hl : c.length ≤ 4096) : ∃ f l, f104G KK c = some (f, l) := by
 obtain ⟨t0, s0, e0⟩ := from_ok hb hl
 obtain ⟨t1, f, l, e1, s1⟩ := dlat_ok s0
 unfold f104G
 rw [e0, Option.bind_some, e1]
 exact ⟨f, l, rfl⟩
theorem FnCounts_pure (a0 : List Int) (h : WfA [(.list 5 (.int .u8))] (a0, ())) : ∃ K, f14G K a0 = some true := by
 refine ⟨KK, ?_⟩
 have hw : Wf (.list 5 (.int .u8)) a0 := h.1
 unfold f14G
 rw [big_eq, Option.bind_some]
 by_cases hb : (a0.length : Int) > 4096
 ·rw [decide_eq_true hb]; rfl
 ·rw [decide_eq_false hb, cond_false]
  obtain ⟨f, l, g, k, eU, hg⟩ := dut_ok (code_ok hw) (by omega)
  obtain ⟨a, b, m, eC⟩ := suit_draw (code_ok hw) (by omega)
  obtain ⟨d, e, eA⟩ := dam_ok (code_ok hw) (by omega)
  have eC' : f101G KK a0 = some (a, b, m) := by
   unfold f101G
   rw [eC]
   rfl
  rw [eU, Option.bind_some]
  simp only
  rw [implUT_eq f l (by omega), Option.bind_some, specUT_eq f l (by omega), Option.bind_some, eC', Option.bind_some]
  simp only
  rw [implCC_eq, Option.bind_some, specCC_eq, Option.bind_some, eA, Option.bind_some]
  simp only
  rw [implAM_eq, Option.bind_some, specAM_eq, Option.bind_some, implAS_eq, Option.bind_some, specAS_eq, Option.bind_some]
  have r1 := resAM_len d e
  have r2 := resAS_len d e
  simp only [bne_self_eq_false, Bool.not_false, Bool.not_true, Bool.or_true, cond_true, cond_false]
  rw [likeMotions_eq (by omega), Option.bind_some]
  simp only [bne_self_eq_false, Bool.not_false, Bool.not_true, Bool.or_true, cond_true, cond_false]
  rw [likeMotions_eq (by omega), Option.bind_some]
  simp only [bne_self_eq_false, Bool.not_false, Bool.not_true, Bool.or_true, cond_true, cond_false]
  have fin : (bif (resU f l g k ((sumU l g k).tdiv (g.length : Int))).2 != 0 then some true else (f112G KK f l k).bind fun y17 => some (bif (bif (bif (y17.2 == (0 : Int)) then (decide ((resU f l g k ((sumU l g k).tdiv (g.length : Int))).1 ≥ (1 : Int))) else false) then (decide ((resU f l g k ((sumU l g k).tdiv (g.length : Int))).1 ≤ y17.1)) else false) then (decide ((w ((resU f l g k ((sumU l g k).tdiv (g.length : Int))).1 * (g.length : Int))) ≥ y17.1)) else false)) = some true := by
   unfold resU
   cases hc : codeU f l g k != 0
   ·have h0 : codeU f l g k = 0 := by simpa using hc
    obtain ⟨hU, hN⟩ := codeU_0 h0
    obtain ⟨u1, u2, u3⟩ := up_last hU
    simp only [cond_false, bne_self_eq_false]
    rw [implCP_eq f l k hN hU.1.la, Option.bind_some]
    simp only [beq_self_eq_true, cond_true]
    rw [decide_eq_true (show _ ≥ (1 : Int) from u1), decide_eq_true u2, decide_eq_true (show _ ≥ _ from u3)]
    rfl
   ·simp only [cond_true, hc]
  cases ho : (resCC a b m).2 == 0
  ·rw [cond_false]
   exact fin
  ·have ho0 : (resCC a b m).2 = 0 := by simpa using ho
   obtain ⟨x, e1, e2, e3⟩ := cyc_law ho0
   rw [cond_true, e1, Option.bind_some]
   simp only
   rw [implCO_eq a b e2, Option.bind_some, e3]
   simp only [bne_self_eq_false, Bool.not_false, Bool.not_true, Bool.or_true, cond_true, cond_false]
   exact fin
end Go.Proofs.YtfccacobkcglcaaGreat.X
