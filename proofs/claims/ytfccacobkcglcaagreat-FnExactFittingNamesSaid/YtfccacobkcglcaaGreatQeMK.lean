/- Plain facts: orbits: a list is sorted and its doubles struck, or built by insertions. -/
import Derived.Test.YtfccacobkcglcaaGreatQeMJ
import Derived.Test.YtfccacobkcglcaaGreatXLib
namespace Go.Proofs.YtfccacobkcglcaaGreat.X
open Go
set_option linter.unusedSimpArgs false
set_option linter.unusedVariables false
/-! ### strictly increasing lists of vectors -/
def SI (s : List Vc) : Prop := s.Pairwise fun a b => ltV a b = true
theorem ltV_irrefl (a : Vc) : ltV a a = false := ltL_irrefl _
theorem ltV_trans {a b c : Vc} (h : ltV a b = true) (k : ltV b c = true) : ltV a c = true := ltL_trans h k
theorem ltV_tri {a b : Vc} (h : ltV a b = false) (k : ltV b a = false) : a = b := numV_inj (ltL_tri rfl h k)
theorem ltV_asymm {a b : Vc} (h : ltV a b = true) : ltV b a = false := by
  cases hb : ltV b a
  · rfl
  · have := ltV_trans h hb
    rw [ltV_irrefl] at this
    cases this
theorem SI_unique : ∀ {a b : List Vc}, SI a → SI b → (∀ x, x ∈ a ↔ x ∈ b) → a = b
  | [], [], _, _, _ => rfl
  | [], y :: b, _, _, h => by have := (h y).2 (by simp); cases this
  | x :: a, [], _, _, h => by have := (h x).1 (by simp); cases this
  | x :: a, y :: b, ha, hb, h => by
    have ha' := List.pairwise_cons.1 ha
    have hb' := List.pairwise_cons.1 hb
    have e : x = y := by
      rcases List.mem_cons.1 ((h x).1 (by simp)) with e | e
      · exact e
      · rcases List.mem_cons.1 ((h y).2 (by simp)) with e2 | e2
        · exact e2.symm
        · have h1 := hb'.1 x e
          have h2 := ha'.1 y e2
          rw [ltV_asymm h1] at h2
          cases h2
    subst e
    refine congrArg (x :: ·) (SI_unique ha'.2 hb'.2 fun z => ⟨fun hz => ?_, fun hz => ?_⟩)
    · rcases List.mem_cons.1 ((h z).1 (by simp [hz])) with e | e
      · subst e; have := ha'.1 z hz; rw [ltV_irrefl] at this; cases this
      · exact e
    · rcases List.mem_cons.1 ((h z).2 (by simp [hz])) with e | e
      · subst e; have := hb'.1 z hz; rw [ltV_irrefl] at this; cases this
      · exact e
/-! ### insertion -/
def insP (v : Vc) : List Vc → List Vc
  | [] => [v]
  | a :: r => bif ltV a v then a :: insP v r else (bif a == v then a :: r else v :: a :: r)
theorem insP_mem (v : Vc) : ∀ (s : List Vc) (x : Vc), x ∈ insP v s ↔ x = v ∨ x ∈ s
  | [], x => by simp [insP]
  | a :: r, x => by
    simp only [insP]
    cases ltV a v
    · rw [cond_false]
      cases h : a == v
      · rw [cond_false]; simp
      · rw [cond_true]
        have := beq_iff_eq.1 h
        subst this
        simp
    · rw [cond_true]
      simp only [List.mem_cons, insP_mem v r x]
      constructor <;> rintro (h | h | h) <;> simp [h]
theorem insP_SI (v : Vc) : ∀ {s : List Vc}, SI s → SI (insP v s)
  | [], _ => by simp [insP, SI]
  | a :: r, h => by
    have h' := List.pairwise_cons.1 h
    simp only [insP]
    cases hl : ltV a v
    · rw [cond_false]
      cases he : a == v
      · rw [cond_false]
        have hne : a ≠ v := by simpa using he
        have hva : ltV v a = true := by
          cases hv : ltV v a
          · exact absurd (ltV_tri hl hv) hne
          · rfl
        refine List.pairwise_cons.2 ⟨fun b hb => ?_, h⟩
        rcases List.mem_cons.1 hb with e | e
        · subst e; exact hva
        · exact ltV_trans hva (h'.1 b e)
      · exact h
    · rw [cond_true]
      refine List.pairwise_cons.2 ⟨fun b hb => ?_, insP_SI v h'.2⟩
      rcases (insP_mem v r b).1 hb with e | e
      · subst e; exact hl
      · exact h'.1 b e
theorem insP_len (v : Vc) : ∀ s : List Vc, (insP v s).length ≤ s.length + 1
  | [] => by simp [insP]
  | a :: r => by
    have := insP_len v r
    simp only [insP]
    cases ltV a v
    · rw [cond_false]
      cases a == v <;> simp
    · rw [cond_true]; simpa using this
theorem eqV2 (u v : Vc) : ((u.1 == v.1) && (u.2 == v.2)) = (u == v) := by
  rw [Bool.eq_iff_iff]
  simp only [Bool.and_eq_true, beq_iff_eq, Prod.ext_iff]
theorem l01Insert_loop {s : List Vc} (hs : s.length ≤ 1000000) (v : Vc) : ∀ (n q : Nat), q ≤ s.length → s.length - q < n → f280_l3 KK s v n (q : Int) = some (s.take q ++ insP v (s.drop q))
  | 0, q, _, h => by omega
  | n + 1, q, hq, hn => by
    show f280_b3 KK s v (fun v0 => f280_l3 KK s v n v0) (q : Int) = _
    have lim1 : Nat.ble (0 + ((s.take ((0 : Int) + (q : Int)).toNat).drop 0).length) (lim 16) = true := blim16 (by simp; omega)
    have lim2 : Nat.ble (([] ++ ((s.take ((0 : Int) + (q : Int)).toNat).drop 0)).length + [v].length) (lim 16) = true := blim16 (by simp; omega)
    have lim3 : Nat.ble ((([] ++ ((s.take ((0 : Int) + (q : Int)).toNat).drop 0)) ++ [v]).length + ((s.take ((0 : Int) + (s.length : Int)).toNat).drop ((0 : Int) + (q : Int)).toNat).length) (lim 16) = true := blim16 (by simp; omega)
    have c1 : (decide (0 ≤ (0 : Int)) && true && decide ((q : Int) ≤ (s.length : Int))) = true := by simp; omega
    have c2 : (true && decide ((q : Int) ≤ (s.length : Int)) && decide ((s.length : Int) ≤ (s.length : Int))) = true := by simp; omega
    have fin : (([] ++ ((s.take ((0 : Int) + (q : Int)).toNat).drop 0)) ++ [v]) ++ ((s.take ((0 : Int) + (s.length : Int)).toNat).drop ((0 : Int) + (q : Int)).toNat) = s.take q ++ v :: s.drop q := by
      have e1 : ((0 : Int) + (q : Int)).toNat = q := by omega
      have e2 : ((0 : Int) + (s.length : Int)).toNat = s.length := by omega
      rw [e1, e2]
      simp
    unfold f280_b3
    by_cases hlt : q < s.length
    · rw [in1 hlt, in0, gd hlt]
      simp only [Bool.not_true, Bool.false_or, Bool.and_self, Bool.or_true, cond_true]
      rw [l01Less_eq, Option.bind_some, w_succ (by omega), eqV2, List.drop_eq_getElem_cons hlt]
      simp only [insP]
      cases h1 : ltV s[q] v
      · rw [cond_false, cond_false]
        cases h2 : s[q] == v
        · rw [cond_false, cond_false, c1, cond_true, lim1, cond_true, lim2, cond_true, c2, cond_true, lim3, cond_true, fin, List.drop_eq_getElem_cons hlt]
        · simp only [cond_true]
          rw [← List.drop_eq_getElem_cons hlt, List.take_append_drop]
      · simp only [cond_true]
        rw [l01Insert_loop hs v n (q + 1) (by omega) (by omega), List.take_succ_eq_append_getElem hlt, List.append_assoc]
        rfl
    · have : q = s.length := by omega
      subst this
      rw [out1, in0]
      simp only [Bool.not_false, Bool.true_or, cond_true, cond_false, Option.bind_some]
      rw [c1, cond_true, lim1, cond_true, lim2, cond_true, c2, cond_true, lim3, cond_true, fin]
      simp [insP]
theorem l01Insert_eq {s : List Vc} (hs : s.length ≤ 1000000) (v : Vc) : f280G KK s v = some (insP v s) := by
  have := l01Insert_loop hs v KK 0 (by omega) (by simp only [KK]; omega)
  unfold f280G f280_g
  exact this.trans (by simp)
def orbS (l : Lt) (g : List Mo) (v : Vc) : List Vc := g.foldl (fun s m => insP (mvS l m v) s) []
theorem fold_ins (f : Mo → Vc) : ∀ (g : List Mo) (s : List Vc), SI s → SI (g.foldl (fun s m => insP (f m) s) s) ∧ (∀ x, x ∈ g.foldl (fun s m => insP (f m) s) s ↔ x ∈ s ∨ ∃ m ∈ g, x = f m) ∧ (g.foldl (fun s m => insP (f m) s) s).length ≤ s.length + g.length
  | [], s, h => ⟨h, fun x => by simp, Nat.le_refl _⟩
  | m :: g, s, h => by
    obtain ⟨h1, h2, h3⟩ := fold_ins f g (insP (f m) s) (insP_SI _ h)
    refine ⟨h1, fun x => ?_, ?_⟩
    · rw [List.foldl_cons, h2, insP_mem]
      simp only [List.mem_cons, exists_eq_or_imp]
      constructor
      · rintro ((h | h) | h)
        · exact .inr (.inl h)
        · exact .inl h
        · exact .inr (.inr h)
      · rintro (h | h | h)
        · exact .inl (.inr h)
        · exact .inl (.inl h)
        · exact .inr h
    · rw [List.foldl_cons]
      have := insP_len (f m) s
      rw [List.length_cons]
      omega
theorem orbS_SI (l : Lt) (g : List Mo) (v : Vc) : SI (orbS l g v) := (fold_ins _ g [] List.Pairwise.nil).1
theorem orbS_mem {l : Lt} {g : List Mo} {v x : Vc} : x ∈ orbS l g v ↔ ∃ m ∈ g, x = mvS l m v := by
  have := (fold_ins (fun m => mvS l m v) g [] List.Pairwise.nil).2.1 x
  unfold orbS
  rw [this]
  simp
theorem orbS_len (l : Lt) (g : List Mo) (v : Vc) : (orbS l g v).length ≤ g.length := by
  have := (fold_ins (fun m => mvS l m v) g [] List.Pairwise.nil).2.2
  unfold orbS
  simpa using this
theorem l07Orbit_eq {l : Lt} (hl : IsL l) {g : List Mo} (hn : g.length ≤ 1000) (hg : ∀ m ∈ g, GoodG m) {v : Vc} (hv : Sv v) : f247G KK l g v = some (orbS l g v) := by
  have h := iter_fold (R := List Vc) (body := fun L x => f247_b4 KK l g v (fun v0 v1 => L (v0, v1)) x.1 x.2) g (fun q s => ((q : Int), s)) (fun s m => insP (mvS l m v) s) some (fun q s => s.length ≤ q)
    (fun L q s hq hi => by
      refine ⟨by have := insP_len (mvS l g[q] v) s; omega, ?_⟩
      show f247_b4 KK l g v (fun v0 v1 => L (v0, v1)) (q : Int) s = _
      unfold f247_b4
      rw [in1 hq, in0, gd hq]
      simp only [Bool.and_self, cond_true]
      rw [show (((g[q].1.1, g[q].1.2.1, g[q].1.2.2), g[q].2) : Mo) = g[q] from rfl, l07Move_gen hl (hg _ (List.getElem_mem hq)) hv, Option.bind_some, l01Insert_eq (by omega), Option.bind_some, w_succ (by omega)])
    (fun L s hi => by
      show f247_b4 KK l g v (fun v0 v1 => L (v0, v1)) (g.length : Int) s = _
      unfold f247_b4
      rw [out1, cond_false]) KK 0 [] (by omega) (by simp only [KK]; omega) (by simp)
  unfold f247G f247_g f247_l4
  rw [List.drop_zero] at h
  exact h
/-! ### sorting -/
theorem cmp_lt (a b : Vc) : decide (cmpL (numV a) (numV b) < 0) = ltV a b := by
  have h := cmpL_lt (numV a) (numV b)
  unfold ltV
  by_cases h0 : cmpL (numV a) (numV b) < 0
  · have : decide (cmpL (numV a) (numV b) ≥ 0) = false := decide_eq_false (by omega)
    rw [this] at h
    rw [decide_eq_true h0]
    cases hx : ltL (numV a) (numV b)
    · rw [hx] at h; cases h
    · rfl
  · have : decide (cmpL (numV a) (numV b) ≥ 0) = true := decide_eq_true (by omega)
    rw [this] at h
    rw [decide_eq_false h0]
    cases hx : ltL (numV a) (numV b)
    · rfl
    · rw [hx] at h; cases h
theorem cmp_all (a b : Vc) : f269G KK a b = some (cmpL (numV a) (numV b)) := compareVecs_eq a b
theorem cmp_ltOf : (ltOf fun x y => ((fun z7 z8 => f269G KK z7 z8) x y : Option Int).getD 0) = ltV := by
  funext a b
  unfold ltOf
  simp only [cmp_all, Option.getD_some, cmp_lt]
theorem swo_V : Go.Sort.SWO ltV where
  irrefl := ltV_irrefl
  trans x y z h k := ltV_trans h k
  ntrans x y z h k := by
    cases hxz : ltV x z
    · rfl
    · cases hyx : ltV y x
      · have := ltV_tri h hyx
        subst this
        rw [hxz] at k
        cases k
      · rw [ltV_trans hyx hxz] at k
        cases k
theorem sortVec_eq {s : List Vc} (hs : s.length ≤ 1000000) : f268G KK s (fun z7 z8 => f269G KK z7 z8) = some (s.mergeSort fun x y => !ltV y x) := by
  unfold f268G sortF
  rw [if_pos]
  · rw [cmp_ltOf]
  · refine ⟨⟨fun x y => by simp only; rw [cmp_all]; rfl, ?_, ?_⟩, by omega⟩
    · rw [cmp_ltOf]; exact swo_V
    · rw [cmp_ltOf]; exact fun x y h k => ltV_tri h k
/-! ### doubles -/
def dd (s : List Vc) (a : Vc) : List Vc := bif s.getLast? == some a then s else s ++ [a]
theorem dd_last (s : List Vc) (a : Vc) : (dd s a).getLast? = some a := by
  unfold dd
  cases h : s.getLast? == some a
  · simp
  · simpa using h
theorem dd_eq {s : List Vc} {z a : Vc} (h : s.getLast? = some z) : dd s a = bif a == z then s else s ++ [a] := by
  unfold dd
  rw [h]
  by_cases e : a = z
  · subst e; simp
  · have e1 : (a == z) = false := by simpa using e
    have e2 : ((some z : Option Vc) == some a) = false := by
      rw [beq_eq_false_iff_ne]
      exact fun h => e (Option.some.inj h).symm
    rw [e1, e2]
theorem fold_dd : ∀ (l s : List Vc), SI s → (∀ a ∈ s, ∀ b ∈ l, ltV b a = false) → l.Pairwise (fun x y => (!ltV y x) = true) → SI (l.foldl dd s) ∧ ∀ x, x ∈ l.foldl dd s ↔ x ∈ s ∨ x ∈ l
  | [], s, h, _, _ => ⟨h, fun x => by simp⟩
  | a :: l, s, h, h1, h2 => by
    have h2' := List.pairwise_cons.1 h2
    have hmem : ∀ x, x ∈ dd s a ↔ x ∈ s ∨ x = a := by
      intro x
      unfold dd
      cases hc : s.getLast? == some a
      · simp
      · have : a ∈ s := List.mem_of_getLast? (by simpa using hc)
        simp only [cond_true]
        exact ⟨.inl, fun h => h.elim id fun e => e ▸ this⟩
    have hsi : SI (dd s a) := by
      unfold dd
      cases hc : s.getLast? == some a
      · rw [cond_false]
        refine List.pairwise_append.2 ⟨h, by simp, fun b hb c hc' => ?_⟩
        rcases List.mem_singleton.1 hc' with rfl
        have hle := h1 b hb c (by simp)
        cases hbc : ltV b c
        · have e := ltV_tri hbc hle
          subst e
          exfalso
          -- b stands in s, so it is the last
          obtain ⟨z, hz⟩ : ∃ z, s.getLast? = some z := by
            cases hs : s.getLast? with
            | none => rw [List.getLast?_eq_none_iff] at hs; subst hs; cases hb
            | some z => exact ⟨z, rfl⟩
          obtain ⟨t, rfl⟩ := List.getLast?_eq_some_iff.1 hz
          have hne : z ≠ b := fun e => by subst e; rw [hz] at hc; simp at hc
          rcases List.mem_append.1 hb with e | e
          · have h3 := (List.pairwise_append.1 h).2.2 b e z (by simp)
            have h4 := h1 z (by simp) b (by simp)
            rw [h3] at h4
            cases h4
          · exact hne (List.mem_singleton.1 e).symm
        · rfl
      · exact h
    obtain ⟨h3, h4⟩ := fold_dd l (dd s a) hsi (fun x hx b hb => by
      rcases (hmem x).1 hx with e | e
      · exact h1 x e b (by simp [hb])
      · subst e
        have := h2'.1 b hb
        simpa using this) h2'.2
    refine ⟨h3, fun x => ?_⟩
    rw [List.foldl_cons, h4, hmem]
    simp only [List.mem_cons]
    constructor
    · rintro ((h | h) | h)
      · exact .inl h
      · exact .inr (.inl h)
      · exact .inr (.inr h)
    · rintro (h | h | h)
      · exact .inl (.inl h)
      · exact .inl (.inr h)
      · exact .inr h
theorem fold_dd_last (l : List Vc) {p : Nat} (hp : p < l.length) : ((l.take (p + 1)).foldl dd []).getLast? = some l[p] := by
  rw [List.take_succ_eq_append_getElem hp, List.foldl_append]
  exact dd_last _ _
/-- what is known while doubles are struck: p elements are done, m are kept -/
structure Cm (l : List Vc) (p m : Nat) (s : List Vc) : Prop where
  len : s.length = l.length
  lt : m < p
  pl : p ≤ l.length
  kept : s.take m = (l.take p).foldl dd []
  rest : ∀ i, p ≤ i + 1 → s[i]? = l[i]?
theorem compact_in {l : List Vc} (hl : l.length ≤ 1000000) {k0 : Nat} : ∀ (n k2 m : Nat) (s : List Vc), 1 ≤ k2 → Cm l (k0 + k2) m s → l.length - (k0 + k2) < n → f270_l9 KK l (k0 : Int) n (m : Int) (k2 : Int) s = some (l.foldl dd [])
  | 0, k2, m, s, _, _, h => by omega
  | n + 1, k2, m, s, hk, hC, hn => by
    show f270_b9 KK l (k0 : Int) (fun v0 v1 v2 => f270_l9 KK l (k0 : Int) n v0 v1 v2) (m : Int) (k2 : Int) s = _
    have hlen := hC.len
    have hlt := hC.lt
    have hpl := hC.pl
    unfold f270_b9
    by_cases hin : k0 + k2 < l.length
    · have d1 : decide ((k2 : Int) < (((0 : Int) + (l.length : Int)) - ((0 : Int) + (k0 : Int)))) = true := decide_eq_true (by omega)
      have e1 : w ((k2 : Int) - 1) = ((k2 - 1 : Nat) : Int) := by rw [w_id (by omega) (by omega)]; omega
      have d2 : decide (((k2 - 1 : Nat) : Int) < (((0 : Int) + (l.length : Int)) - ((0 : Int) + (k0 : Int)))) = true := decide_eq_true (by omega)
      have i1 : (((0 : Int) + (k0 : Int)) + (k2 : Int)).toNat = k0 + k2 := by omega
      have i2 : (((0 : Int) + (k0 : Int)) + ((k2 - 1 : Nat) : Int)).toNat = k0 + k2 - 1 := by omega
      have i3 : ((0 : Int) + (m : Int)).toNat = m := by omega
      have g1 : s.getD (k0 + k2) ((0 : Int), (0 : Int)) = l[k0 + k2] := by
        rw [List.getD_eq_getElem?_getD, hC.rest _ (by omega), List.getElem?_eq_getElem hin]; rfl
      have g2 : s.getD (k0 + k2 - 1) ((0 : Int), (0 : Int)) = l[k0 + k2 - 1] := by
        rw [List.getD_eq_getElem?_getD, hC.rest _ (by omega), List.getElem?_eq_getElem (by omega)]; rfl
      have d3 : decide ((m : Int) < (s.length : Int)) = true := decide_eq_true (by omega)
      have hlast : (s.take m).getLast? = some l[k0 + k2 - 1] := by
        rw [hC.kept]
        have := fold_dd_last l (p := k0 + k2 - 1) (by omega)
        rw [show k0 + k2 - 1 + 1 = k0 + k2 by omega] at this
        exact this
      have htk : (l.take (k0 + k2 + 1)).foldl dd [] = dd (s.take m) l[k0 + k2] := by
        rw [List.take_succ_eq_append_getElem hin, List.foldl_append, ← hC.kept]
        rfl
      have wk : w ((k2 : Int) + 1) = ((k2 + 1 : Nat) : Int) := w_succ (by omega)
      have wm : w ((m : Int) + 1) = ((m + 1 : Nat) : Int) := w_succ (by omega)
      rw [d1, in0, e1, in0, d2, i1, i2, i3, g1, g2, d3, in0, wk, wm, eqV2]
      simp only [Bool.and_self, cond_true]
      cases heq : l[k0 + k2] == l[k0 + k2 - 1]
      · rw [Bool.not_false, cond_true]
        refine compact_in hl n (k2 + 1) (m + 1) _ (by omega) ⟨by simp [hlen], by omega, by omega, ?_, fun i hi => ?_⟩ (by omega)
        · rw [show k0 + (k2 + 1) = k0 + k2 + 1 by omega, htk]
          rw [dd_eq hlast, heq, cond_false]
          rw [List.take_succ_eq_append_getElem (by simp; omega), List.take_set_of_le (by omega)]
          simp
        · rw [List.getElem?_set_ne (by omega)]
          exact hC.rest i (by omega)
      · rw [Bool.not_true, cond_false]
        refine compact_in hl n (k2 + 1) m _ (by omega) ⟨hlen, by omega, by omega, ?_, fun i hi => hC.rest i (by omega)⟩ (by omega)
        rw [show k0 + (k2 + 1) = k0 + k2 + 1 by omega, htk]
        rw [dd_eq hlast, heq, cond_true]
    · have hp : k0 + k2 = l.length := by omega
      have d1 : decide ((k2 : Int) < (((0 : Int) + (l.length : Int)) - ((0 : Int) + (k0 : Int)))) = false := decide_eq_false (by omega)
      have c1 : (decide (0 ≤ (m : Int)) && decide ((m : Int) ≤ (s.length : Int)) && decide ((s.length : Int) ≤ (s.length : Int))) = true := by simp; omega
      have i3 : ((0 : Int) + (m : Int)).toNat = m := by omega
      have hcl : m ≤ (clr s m (((0 : Int) + (m : Int)) + (((0 : Int) + (s.length : Int)) - ((0 : Int) + (m : Int)))).toNat ((0 : Int), (0 : Int))).length := by
        unfold clr
        simp only [List.length_append, List.length_take]
        omega
      have c2 : (decide (0 ≤ (0 : Int)) && decide ((0 : Int) ≤ (m : Int)) && decide ((m : Int) ≤ ((clr s m (((0 : Int) + (m : Int)) + (((0 : Int) + (s.length : Int)) - ((0 : Int) + (m : Int)))).toNat ((0 : Int), (0 : Int))).length : Int))) = true := by
        simp only [Bool.and_eq_true, decide_eq_true_eq]
        omega
      rw [d1, cond_false, c1, cond_true, i3, c2, cond_true]
      have hk := hC.kept
      rw [hp, List.take_length] at hk
      rw [← hk]
      unfold clr
      rw [List.append_assoc, List.take_append_of_le_length (by simp; omega), List.take_take, Nat.min_self]
theorem compact_out {l : List Vc} (hl : l.length ≤ 1000000) : ∀ (n k : Nat), 1 ≤ k → k ≤ l.length → l.take k = (l.take k).foldl dd [] → l.length - k < n → f270_l7 KK l n (k : Int) = some (l.foldl dd [])
  | 0, k, _, _, _, h => by omega
  | n + 1, k, hk, hkl, ht, hn => by
    show f270_b7 KK l (fun c0 d0 d1 d2 => f270_l9 KK l c0 KK d0 d1 d2) (fun v0 => f270_l7 KK l n v0) (k : Int) = _
    unfold f270_b7
    by_cases hin : k < l.length
    · have e1 : w ((k : Int) - 1) = ((k - 1 : Nat) : Int) := by rw [w_id (by omega) (by omega)]; omega
      have hk1 : k - 1 < l.length := by omega
      have c2 : (true && decide ((k : Int) ≤ (l.length : Int)) && decide ((l.length : Int) ≤ (l.length : Int))) = true := by simp; omega
      rw [in1 hin, in0, e1, in0, in1 hk1, gd hin, gd hk1, eqV2, w_succ (by omega)]
      simp only [Bool.and_self, cond_true]
      have hlast : ((l.take k).foldl dd []).getLast? = some l[k - 1] := by
        have := fold_dd_last l (p := k - 1) hk1
        rw [show k - 1 + 1 = k by omega] at this
        exact this
      have htk : (l.take (k + 1)).foldl dd [] = dd ((l.take k).foldl dd []) l[k] := by
        rw [List.take_succ_eq_append_getElem hin, List.foldl_append]
        rfl
      cases heq : l[k] == l[k - 1]
      · rw [cond_false]
        refine compact_out hl n (k + 1) (by omega) (by omega) ?_ (by omega)
        rw [htk]
        rw [dd_eq hlast, heq, cond_false, ← ht, ← List.take_succ_eq_append_getElem hin]
      · rw [cond_true, c2, cond_true]
        refine compact_in hl KK 1 k l (by omega) ⟨rfl, by omega, by omega, ?_, fun i _ => rfl⟩ (by simp only [KK]; omega)
        rw [htk]
        rw [dd_eq hlast, heq, cond_true]
        exact ht
    · have : k = l.length := by omega
      subst this
      rw [out1, cond_false]
      rw [List.take_length] at ht
      rw [← ht]
theorem compact_eq {l : List Vc} (hl : l.length ≤ 1000000) : f270G KK l = some (l.foldl dd []) := by
  unfold f270G f270_g
  by_cases h : l.length < 2
  · rw [decide_eq_true (by omega), cond_true]
    match l, h with
    | [], _ => rfl
    | [a], _ => rfl
  · rw [decide_eq_false (by omega), cond_false]
    refine compact_out hl KK 1 (by omega) (by omega) ?_ (by simp only [KK]; omega)
    obtain ⟨a, b, r, rfl⟩ : ∃ a b r, l = a :: b :: r := by
      match l, h with
      | a :: b :: r, _ => exact ⟨a, b, r, rfl⟩
      | [a], h => simp at h
      | [], h => simp at h
    rfl
theorem orbitOf_eq {l : Lt} (hl : IsL l) {g : List Mo} (hn : g.length ≤ 1000) (hg : ∀ m ∈ g, GoodG m) {v : Vc} (hv : Sv v) : f171G KK l g v = some (orbS l g v) := by
  have h := iter_fold (R := List Vc) (body := fun L x => f171_b3 KK l g v (fun v0 v1 => L (v0, v1)) x.1 x.2) g (fun q s => ((q : Int), s)) (fun s m => s ++ [mvS l m v]) (fun s => some ((s.mergeSort fun x y => !ltV y x).foldl dd [])) (fun q s => s.length = q)
    (fun L q s hq hi => by
      refine ⟨by simp [hi], ?_⟩
      show f171_b3 KK l g v (fun v0 v1 => L (v0, v1)) (q : Int) s = _
      unfold f171_b3
      rw [in1 hq, in0, gd hq]
      simp only [Bool.and_self, cond_true]
      rw [show (((g[q].1.1, g[q].1.2.1, g[q].1.2.2), g[q].2) : Mo) = g[q] from rfl, take_gen hl (hg _ (List.getElem_mem hq)) hv, Option.bind_some, blim16 (by simp; omega), cond_true, w_succ (by omega)])
    (fun L s hi => by
      show f171_b3 KK l g v (fun v0 v1 => L (v0, v1)) (g.length : Int) s = _
      unfold f171_b3
      rw [out1, cond_false, sortVec_eq (by omega), Option.bind_some, compact_eq (by rw [List.length_mergeSort]; omega), Option.bind_some]) KK 0 [] (by omega) (by simp only [KK]; omega) (by simp)
  unfold f171G f171_g f171_l3
  rw [List.drop_zero] at h
  refine Eq.trans h (congrArg some ?_)
  rw [foldl_push, List.nil_append]
  obtain ⟨h1, h2⟩ := fold_dd ((g.map fun m => mvS l m v).mergeSort fun x y => !ltV y x) [] List.Pairwise.nil (fun a ha => by cases ha) (List.pairwise_mergeSort (fun a b c h k => by
      simp only [Bool.not_eq_true'] at h k ⊢
      exact swo_V.ntrans c b a k h) (fun a b => by
      cases h : ltV b a
      · rfl
      · rw [ltV_asymm h]; rfl) _)
  refine SI_unique h1 (orbS_SI l g v) fun x => ?_
  rw [h2, orbS_mem]
  simp only [List.not_mem_nil, false_or, List.mem_mergeSort, List.mem_map]
  exact ⟨fun ⟨m, hm, e⟩ => ⟨m, hm, e.symm⟩, fun ⟨m, hm, e⟩ => ⟨m, hm, e.symm⟩⟩
/-! ### codes -/
theorem IsL_of {l : Lt} (h : okL l = true) : IsL l := okL_iff.1 h
def codeC (f : Int) (l : Lt) (g : List Mo) (b : Bool) : Int := if okF f && okL l then (if b && grpB f l g then 0 else 2) else 1
structure OrbG (f : Int) (l : Lt) (g : List Mo) : Prop where
  la : IsL l
  pr : Pre f l g
  gr : grpB f l g = true
theorem codeC_0 {f : Int} {l : Lt} {g : List Mo} {b : Bool} (h : codeC f l g b = 0) : OrbG f l g ∧ b = true := by
  unfold codeC at h
  by_cases h1 : (okF f && okL l) = true
  · rw [if_pos h1] at h
    by_cases h2 : (b && grpB f l g) = true
    · simp only [Bool.and_eq_true] at h1 h2
      refine ⟨⟨IsL_of h1.2, pre_of ?_, h2.2⟩, h2.1⟩
      have := h2.2
      unfold grpB at this
      simp only [Bool.and_eq_true] at this
      exact this.1
    · rw [if_neg h2] at h; omega
  · rw [if_neg h1] at h; omega
theorem OrbG.good {f : Int} {l : Lt} {g : List Mo} (h : OrbG f l g) : ∀ m ∈ g, GoodG m := fun m hm => h.pr.good h.la hm
theorem OrbG.len {f : Int} {l : Lt} {g : List Mo} (h : OrbG f l g) : g.length ≤ 768 := h.pr.len h.la
end Go.Proofs.YtfccacobkcglcaaGreat.X
