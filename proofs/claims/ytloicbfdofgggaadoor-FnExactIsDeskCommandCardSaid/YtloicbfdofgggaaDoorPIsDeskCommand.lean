/- The plain law of IsDeskCommand: both sides cut the line at its first blank, and read the same numbers. -/
import Derived.Test.YtloicbfdofgggaaDoorSA
import Derived.Test.YtloicbfdofgggaaDoorXRow
namespace Go.Proofs.YtloicbfdofgggaaDoor.X
open Go
set_option linter.unusedSimpArgs false
set_option linter.unusedVariables false
theorem get_in {l : List UInt8} {i : Nat} (h : i < l.length) : l.getD i 0 = l[i] := by simp [List.getD, h]
theorem le1 {q n : Nat} (h : q ≤ n) : decide ((q : Int) ≤ (n : Int)) = true := by simp; omega
theorem sz_mk (l : List UInt8) : ((mk l).size : Int) = (l.length : Int) := by rw [mk_size]
theorem ex_nat (l : List UInt8) (i j : Nat) : (mk l).extract ((i : Int)).toNat ((j : Int)).toNat = mk ((l.take j).drop i) := by
  rw [Int.toNat_natCast, Int.toNat_natCast, mk_ext]
theorem take_snoc {l : List UInt8} {i fr : Nat} (h : i < l.length) (hf : fr ≤ i) : (l.take (i + 1)).drop fr = (l.take i).drop fr ++ [l[i]] := by
  rw [List.take_add_one, List.getElem?_eq_getElem h, Option.toList_some, List.drop_append_of_le_length (by rw [List.length_take]; omega)]
theorem split_loop {c : UInt8} {l : List UInt8} (hl : l.length ≤ 1048576) : ∀ (n i fr : Nat) (out : List ByteArray), fr ≤ i → i ≤ l.length → out.length ≤ i → l.length + 1 - i < n →
    f8_l2 KK (mk l) ((c.toNat : Nat) : Int) n (fr : Int) (i : Int) out = some (out ++ (spa c ((l.take i).drop fr) (l.drop i)).map mk)
  | 0, i, fr, out, _, _, _, hn => by omega
  | n + 1, i, fr, out, hf, hi, ho, hn => by
    show f8_b2 KK (mk l) ((c.toNat : Nat) : Int) (fun v0 v1 v2 => f8_l2 KK (mk l) ((c.toNat : Nat) : Int) n v0 v1 v2) (fr : Int) (i : Int) out = _
    unfold f8_b2
    rw [sz_mk, le1 hi, cond_true]
    have hlim : Nat.ble (out.length + [(mk l).extract ((fr : Int)).toNat ((i : Int)).toNat].length) (lim 16) = true := blim16 (by simp; omega)
    have hw : w ((i : Int) + 1) = ((i + 1 : Nat) : Int) := w_succ (by omega)
    by_cases hlt : i < l.length
    · have hne : ((i : Int) == (l.length : Int)) = false := by rw [beq_eq_false_iff_ne]; omega
      have hge : (mk l).data.getD ((i : Int)).toNat 0 = l[i] := by rw [Int.toNat_natCast, mk_get, get_in hlt]
      simp only [hne, Bool.not_false, Bool.not_true, Bool.false_or, Bool.or_true, Bool.true_or, in0, in1 hlt, le1 hf, Bool.and_self, Bool.and_true, cond_true, cond_false, hge]
      rw [List.drop_eq_getElem_cons hlt, spa]
      by_cases hc : l[i] = c
      · rw [if_pos hc, hc]
        have : (((c.toNat : Nat) : Int) == ((c.toNat : Nat) : Int)) = true := by simp
        rw [this, cond_true, hlim, cond_true, hw, split_loop hl n (i + 1) (i + 1) _ (by omega) (by omega) (by simp; omega) (by omega), ex_nat]
        have e : (l.take (i + 1)).drop (i + 1) = [] := by rw [List.drop_eq_nil_iff, List.length_take]; omega
        rw [e, List.map_cons, List.append_assoc]
        rfl
      · rw [if_neg hc]
        have : (((l[i].toNat : Nat) : Int) == ((c.toNat : Nat) : Int)) = false := by
          rw [beq_eq_false_iff_ne]
          intro e
          exact hc (UInt8.toNat_inj.1 (by omega))
        rw [this, cond_false, hw, split_loop hl n (i + 1) fr out (by omega) (by omega) (by omega) (by omega), take_snoc hlt hf]
    · have hil : i = l.length := by omega
      subst hil
      have heq : ((l.length : Int) == (l.length : Int)) = true := by simp
      simp only [heq, in0, le1 hf, Bool.and_self, Bool.and_true, Bool.not_true, Bool.not_false, Bool.true_or, Bool.or_true, cond_true]
      rw [hlim, cond_true, hw, ex_nat, List.drop_length, spa]
      cases n with
      | zero => omega
      | succ n =>
        show f8_b2 KK (mk l) ((c.toNat : Nat) : Int) (fun v0 v1 v2 => f8_l2 KK (mk l) ((c.toNat : Nat) : Int) n v0 v1 v2) ((l.length + 1 : Nat) : Int) ((l.length + 1 : Nat) : Int) _ = _
        unfold f8_b2
        rw [sz_mk, show decide (((l.length + 1 : Nat) : Int) ≤ (l.length : Int)) = false by simp; omega, cond_false]
        rfl
theorem split_eq {c : UInt8} {l : List UInt8} (hl : l.length ≤ 1048576) : f8G KK (mk l) ((c.toNat : Nat) : Int) = some ((spa c [] l).map mk) := by
  have := split_loop (c := c) hl KK 0 0 [] (Nat.le_refl _) (Nat.zero_le _) (Nat.le_refl _) (by simp only [KK]; omega)
  unfold f8G f8_g
  exact this
/-! ### digits -/
theorem dig_str {n : Nat} (h : n < 10) : strOfNums [(IntKind.u8.wrap (w ((48 : Int) + (n : Int))))] = mk [UInt8.ofNat (48 + n)] := by
  rw [w_id (by omega) (by omega)]
  have e : IntKind.u8.wrap (48 + (n : Int)) = ((48 + n : Nat) : Int) := by
    rw [IntKind.wrap_u8]
    omega
  rw [e]
  rfl
theorem dec_run : ∀ (k f n : Nat), n < 10 ^ (k + 1) → k < f → k < 12 → f26R KK f (n : Int) = some (mk (Lib.decDigits n))
  | k, 0, n, _, hf, _ => by omega
  | k, f + 1, n, hn, hf, hk => by
    show f26_s KK (f26R KK f) (n : Int) = _
    unfold f26_s
    by_cases h : n < 10
    · rw [decide_eq_true (show (n : Int) < 10 by omega), cond_true, dig_str h, dec_one h]
    · rw [decide_eq_false (show ¬ (n : Int) < 10 by omega), cond_false]
      have hp : (10 : Nat) ^ (k + 1) ≤ 10 ^ 12 := Nat.pow_le_pow_right (by decide) (by omega)
      have hp2 : (10 : Nat) ^ 12 = 1000000000000 := by decide
      have e1 : (n : Int).tdiv 10 = ((n / 10 : Nat) : Int) := by rw [Int.tdiv_eq_ediv_of_nonneg (by omega)]; omega
      have e2 : (n : Int).tmod 10 = ((n % 10 : Nat) : Int) := by rw [Int.tmod_eq_emod_of_nonneg (by omega)]; omega
      rw [e1, e2, w_id (n := ((n / 10 : Nat) : Int)) (by omega) (by omega), dig_str (by omega)]
      cases k with
      | zero => omega
      | succ k =>
        have hl := dec_lt k (n / 10) (by rw [Nat.pow_succ] at hn; omega)
        rw [dec_run k f (n / 10) (by rw [Nat.pow_succ] at hn; omega) (by omega) (by omega), Option.bind_some, mk_size, mk_size, show Nat.ble ((Lib.decDigits (n / 10)).length + [UInt8.ofNat (48 + n % 10)].length) 9223372036854775807 = true by rw [Nat.ble_eq]; simp only [List.length_singleton]; omega, cond_true, mk_app, dec_step h]
theorem dec_eq {n : Nat} (h : n < 100000000000) : f26G KK (n : Int) = some (mk (Lib.decDigits n)) :=
  dec_run 10 KK n (by have : (10 : Nat) ^ (10 + 1) = 100000000000 := by decide
                      omega) (by simp only [KK]; omega) (by omega)
theorem isD_cmp (b : UInt8) : (bif decide (((b.toNat : Nat) : Int) < (48 : Int)) then true else decide (((b.toNat : Nat) : Int) > (57 : Int))) = !isD b := by
  unfold isD
  by_cases h1 : b.toNat < 48
  · rw [decide_eq_true (show ((b.toNat : Nat) : Int) < 48 by omega), decide_eq_false (show ¬ 48 ≤ b.toNat by omega)]
    rfl
  · rw [decide_eq_false (show ¬ ((b.toNat : Nat) : Int) < 48 by omega), decide_eq_true (show 48 ≤ b.toNat by omega), cond_false]
    by_cases h2 : b.toNat ≤ 57
    · rw [decide_eq_true h2, decide_eq_false (by omega)]
      rfl
    · rw [decide_eq_false h2, decide_eq_true (by omega)]
      rfl
theorem digits_loop {l : List UInt8} (hl : l.length ≤ 10) : ∀ (n i v : Nat), i ≤ l.length → v < 10 ^ i → l.length - i < n →
    f18_l2 KK (mk l) n (v : Int) (i : Int) = some (bif (l.drop i).all isD then ((((l.drop i).foldl addD v : Nat) : Int), decide (Lib.decDigits ((l.drop i).foldl addD v) = l)) else (0, false))
  | 0, i, v, _, _, hn => by omega
  | n + 1, i, v, hi, hv, hn => by
    show f18_b2 KK (mk l) (fun v0 v1 => f18_l2 KK (mk l) n v0 v1) (v : Int) (i : Int) = _
    unfold f18_b2
    rw [sz_mk]
    have hp : (10 : Nat) ^ i ≤ 10 ^ 10 := Nat.pow_le_pow_right (by decide) (by omega)
    have hp2 : (10 : Nat) ^ 10 = 10000000000 := by decide
    by_cases hlt : i < l.length
    · have hge : (mk l).data.getD ((i : Int)).toNat 0 = l[i] := by rw [Int.toNat_natCast, mk_get, get_in hlt]
      rw [List.drop_eq_getElem_cons hlt]
      simp only [hge, in1 hlt, in0, Bool.and_self, Bool.or_true, cond_true, isD_cmp]
      rw [List.all_cons, List.foldl_cons]
      cases hb : isD l[i]
      · simp
      · have hbb := hb
        unfold isD at hbb
        simp only [Bool.and_eq_true, decide_eq_true_eq] at hbb
        have e1 : IntKind.u8.wrap (((l[i].toNat : Nat) : Int) - 48) = ((l[i].toNat - 48 : Nat) : Int) := by
          rw [IntKind.wrap_u8]
          omega
        have e2 : w (10 * (v : Int)) = ((10 * v : Nat) : Int) := by rw [w_id (by omega) (by omega)]; omega
        have e3 : w ((l[i].toNat - 48 : Nat) : Int) = ((l[i].toNat - 48 : Nat) : Int) := w_id (by omega) (by omega)
        have e4 : w (((10 * v : Nat) : Int) + ((l[i].toNat - 48 : Nat) : Int)) = ((addD v l[i] : Nat) : Int) := by
          rw [w_id (by omega) (by omega)]
          unfold addD
          omega
        simp only [Bool.not_true, cond_false, Bool.true_and]
        rw [e1, e2, e3, e4, w_succ (by omega), digits_loop hl n (i + 1) (addD v l[i]) (by omega) (by
          unfold addD
          rw [Nat.pow_succ]
          omega) (by omega)]
    · have hil : i = l.length := by omega
      subst hil
      rw [out1, cond_false, List.drop_length, dec_eq (by omega), Option.bind_some, mk_beq]
      rfl
theorem digits_eq {l : List UInt8} (hl : l.length ≤ 1048576) : ∃ n : Int, f18G KK (mk l) = some (n, (digs l).isSome) ∧ ∀ v, digs l = some v → n = (v : Int) := by
  unfold f18G f18_g
  rw [sz_mk]
  simp only [Bool.or_true, cond_true]
  by_cases h1 : l.length < 1
  · rw [decide_eq_true (show (l.length : Int) < 1 by omega)]
    refine ⟨0, ?_, fun v hv => ?_⟩
    · unfold digs
      rw [if_neg (by omega)]
      rfl
    · unfold digs at hv
      rw [if_neg (by omega)] at hv
      cases hv
  · rw [decide_eq_false (show ¬ (l.length : Int) < 1 by omega), cond_false]
    by_cases h2 : l.length ≤ 10
    · rw [decide_eq_false (show ¬ (l.length : Int) > 10 by omega), cond_false]
      have := digits_loop h2 KK 0 0 (Nat.zero_le _) (by decide) (by simp only [KK]; omega)
      refine ⟨if l.all isD then ((valD l : Nat) : Int) else 0, this.trans ?_, ?_⟩
      · rw [List.drop_zero]
        unfold digs
        cases ha : l.all isD
        · rw [cond_false, if_neg (by simp), if_neg (by simp)]
          rfl
        · rw [cond_true, if_pos rfl]
          by_cases hd : Lib.decDigits (valD l) = l
          · rw [if_pos ⟨by omega, h2, rfl, hd⟩]
            show some (((valD l : Nat) : Int), decide (Lib.decDigits (valD l) = l)) = _
            rw [decide_eq_true hd]
            rfl
          · rw [if_neg (fun h => hd h.2.2.2)]
            show some (((valD l : Nat) : Int), decide (Lib.decDigits (valD l) = l)) = _
            rw [decide_eq_false hd]
            rfl
      · intro v hv
        unfold digs at hv
        split at hv
        · rename_i hh
          cases hv
          rw [if_pos hh.2.2.1]
        · cases hv
    · rw [decide_eq_true (show (l.length : Int) > 10 by omega), cond_true]
      refine ⟨0, ?_, fun v hv => ?_⟩
      · unfold digs
        rw [if_neg (by omega)]
        rfl
      · unfold digs at hv
        rw [if_neg (by omega)] at hv
        cases hv
theorem signed_eq {l : List UInt8} (hl : l.length ≤ 1048576) : ∃ n : Int, f13G KK (mk l) = some (n, (rd l).isSome) ∧ ∀ v, rd l = some v → n = v := by
  unfold f13G
  rw [sz_mk]
  cases l with
  | nil =>
    obtain ⟨n, h1, h2⟩ := digits_eq (l := []) (by simp)
    have e : decide ((([] : List UInt8).length : Int) > 0) = false := rfl
    rw [e]
    simp only [Bool.not_false, Bool.true_or, cond_true, cond_false, h1, Option.bind_some]
    exact ⟨n, by rfl, fun v hv => by cases hv⟩
  | cons b r =>
    have e : decide (((b :: r).length : Int) > 0) = true := by simp
    have e0 : decide (0 ≤ (0 : Int)) = true := rfl
    have hg : (mk (b :: r)).data.getD 0 0 = b := by rw [mk_get]; rfl
    rw [e, hg]
    simp only [e0, Bool.and_self, Bool.not_true, Bool.or_true, cond_true]
    simp only [rd]
    by_cases hb : b = 45
    · rw [if_pos hb, hb]
      have e1 : (((45 : UInt8).toNat : Int) == 45) = true := rfl
      have e2 : (decide (0 ≤ (1 : Int)) && decide ((1 : Int) ≤ (((45 : UInt8) :: r).length : Int)) && decide ((((45 : UInt8) :: r).length : Int) ≤ (((45 : UInt8) :: r).length : Int))) = true := by simp; omega
      rw [e1, cond_true, e2, cond_true, mk_ext]
      have e3 : ((((45 : UInt8) :: r).take ((((45 : UInt8) :: r).length : Int)).toNat).drop 1) = r := by
        rw [Int.toNat_natCast, List.take_length]
        rfl
      rw [e3]
      obtain ⟨n, h1, h2⟩ := digits_eq (l := r) (by simp at hl; omega)
      rw [h1, Option.bind_some]
      simp only [Bool.or_true, cond_true]
      cases hd : digs r with
      | none =>
        exact ⟨_, rfl, fun v hv => by cases hv⟩
      | some v =>
        have hn := h2 v hd
        have hs := (digs_some hd).2.2
        rw [Option.isSome_some, cond_true, hn]
        simp only
        by_cases hv : 0 < v
        · rw [decide_eq_true (show ((v : Nat) : Int) > 0 by omega), if_pos hv]
          refine ⟨_, rfl, fun u hu => ?_⟩
          cases hu
          rw [w_id (by omega) (by omega)]
          omega
        · rw [decide_eq_false (show ¬ ((v : Nat) : Int) > 0 by omega), if_neg hv]
          exact ⟨_, rfl, fun u hu => by cases hu⟩
    · rw [if_neg hb]
      have e1 : (((b.toNat : Nat) : Int) == 45) = false := by
        rw [beq_eq_false_iff_ne]
        intro e
        exact hb (UInt8.toNat_inj.1 (by have : (45 : UInt8).toNat = 45 := rfl
                                        omega))
      rw [e1, cond_false]
      obtain ⟨n, h1, h2⟩ := digits_eq (l := b :: r) hl
      rw [h1, Option.bind_some]
      refine ⟨n, by rw [Option.isSome_map], fun v hv => ?_⟩
      obtain ⟨u, hu, rfl⟩ := Option.map_eq_some_iff.1 hv
      exact h2 u hu
/-! ### lists of numbers -/
def rds : List (List UInt8) → Option (List Int)
  | [] => some []
  | x :: r => match rd x, rds r with
    | some v, some vs => some (v :: vs)
    | _, _ => none
def rdR (ws : List (List UInt8)) (out : List Int) : List Int × Bool := match rds ws with
  | some vs => (out ++ vs, true)
  | none => ([], false)
theorem rdR_cons {x : List UInt8} {r : List (List UInt8)} {out : List Int} : rdR (x :: r) out = match rd x with
    | some v => rdR r (out ++ [v])
    | none => ([], false) := by
  unfold rdR
  rw [rds]
  cases rd x with
  | none => rfl
  | some v =>
    cases rds r with
    | none => rfl
    | some vs => simp
theorem rds_len : ∀ {ws : List (List UInt8)} {vs : List Int}, rds ws = some vs → vs.length = ws.length
  | [], vs, h => by cases h; rfl
  | x :: r, vs, h => by
    rw [rds] at h
    split at h
    · rename_i v us h1 h2
      cases h
      simp [rds_len h2]
    · cases h
theorem gd_map {ws : List (List UInt8)} {q : Nat} (h : q < ws.length) : (ws.map mk).getD ((0 : Int) + (q : Int)).toNat ByteArray.empty = mk ws[q] := by
  rw [gd (by rw [List.length_map]; exact h), List.getElem_map]
theorem len_map (ws : List (List UInt8)) : ((ws.map mk).length : Int) = (ws.length : Int) := by rw [List.length_map]
theorem numbers_loop {ws : List (List UInt8)} (hw : ∀ x ∈ ws, x.length ≤ 1048576) (hn : ws.length ≤ 1048577) : ∀ (n i : Nat) (out : List Int), i ≤ ws.length → out.length = i → ws.length - i < n →
    f9_l3 KK (ws.map mk) n (i : Int) out = some (rdR (ws.drop i) out)
  | 0, i, out, _, _, h => by omega
  | n + 1, i, out, hi, ho, h => by
    show f9_b3 KK (ws.map mk) (fun v0 v1 => f9_l3 KK (ws.map mk) n v0 v1) (i : Int) out = _
    unfold f9_b3
    rw [len_map]
    by_cases hlt : i < ws.length
    · obtain ⟨v, h1, h2⟩ := signed_eq (hw _ (List.getElem_mem hlt))
      rw [in1 hlt, in0, gd_map hlt, h1]
      simp only [Bool.and_self, cond_true, Option.bind_some]
      rw [List.drop_eq_getElem_cons hlt, rdR_cons]
      cases hr : rd ws[i] with
      | none => rfl
      | some u =>
        rw [h2 u hr, Option.isSome_some]
        simp only [Bool.not_true, cond_false]
        rw [blim8 (by simp; omega), cond_true, w_succ (by omega), numbers_loop hw hn n (i + 1) (out ++ [u]) (by omega) (by simp; omega) (by omega)]
    · have : i = ws.length := by omega
      subst this
      rw [out1, cond_false, List.drop_length]
      simp [rdR, rds]
theorem numbers_eq {ws : List (List UInt8)} (hw : ∀ x ∈ ws, x.length ≤ 1048576) (hn : ws.length ≤ 1048577) : f9G KK (ws.map mk) = some (rdR ws []) := by
  have := numbers_loop hw hn KK 0 [] (Nat.zero_le _) rfl (by simp only [KK]; omega)
  unfold f9G f9_g
  exact this
theorem trim_eq (l : List UInt8) : f17G KK (mk l) (bs [45]) = some (mk (unm l)) := by
  have e45 : bs [45] = mk [45] := rfl
  unfold f17G f25G f37G
  rw [e45, sz_mk, sz_mk]
  have h1 : (([(45 : UInt8)].length : Nat) : Int) = 1 := rfl
  rw [h1]
  simp only [Bool.or_true, cond_true]
  cases l with
  | nil =>
    have e : decide ((([] : List UInt8).length : Int) ≥ 1) = false := rfl
    rw [e]
    rfl
  | cons b r =>
    have e : decide (((b :: r).length : Int) ≥ 1) = true := by simp; omega
    have e2 : (1 : Int).toNat = 1 := rfl
    have e3 : ((b :: r).take 1).drop 0 = [b] := rfl
    have e4 : decide (0 ≤ (0 : Int)) = true := rfl
    have e5 : decide (0 ≤ (1 : Int)) = true := rfl
    have e6 : decide (((b :: r).length : Int) ≤ ((b :: r).length : Int)) = true := by simp
    have e7 : decide ((1 : Int) ≤ ((b :: r).length : Int)) = true := by simp; omega
    have e8 : decide ((0 : Int) ≤ (1 : Int)) = true := rfl
    rw [e, e2, mk_ext, e3, mk_beq]
    simp only [e4, e5, e6, e7, e8, Bool.and_self, Bool.not_true, Bool.false_or, cond_true, Option.bind_some]
    by_cases hb : b = 45
    · rw [decide_eq_true (show [b] = [45] by rw [hb]), cond_true, mk_ext, Int.toNat_natCast, List.take_length]
      unfold unm
      simp only
      rw [if_pos hb]
      rfl
    · rw [decide_eq_false (fun h => hb (List.cons.inj h).1), cond_false]
      unfold unm
      simp only
      rw [if_neg hb]
      rfl
theorem short_loop {ws : List (List UInt8)} (hw : ∀ x ∈ ws, x.length ≤ 1048576) (hn : ws.length ≤ 1048577) : ∀ (n i : Nat) (out : List Int), i ≤ ws.length → out.length = i → ws.length - i < n →
    f12_l4 KK (ws.map mk) n (i : Int) out = some (rdR (ws.drop i) out)
  | 0, i, out, _, _, h => by omega
  | n + 1, i, out, hi, ho, h => by
    show f12_b4 KK (ws.map mk) (fun v0 v1 => f12_l4 KK (ws.map mk) n v0 v1) (i : Int) out = _
    unfold f12_b4
    rw [len_map]
    by_cases hlt : i < ws.length
    · have hx := hw _ (List.getElem_mem hlt)
      obtain ⟨v, b, h1, h2, h3⟩ := num_eq (l := ws[i]) (by omega)
      rw [in1 hlt, in0, gd_map hlt, show f16G KK (mk ws[i]) = numF (mk ws[i]) from rfl, h1]
      simp only [Bool.and_self, Bool.or_true, cond_true, Option.bind_some, trim_eq, Bool.not_not]
      rw [List.drop_eq_getElem_cons hlt, rdR_cons]
      cases b with
      | false =>
        have hr : rd ws[i] = none := by
          cases hr : rd ws[i] with
          | none => rfl
          | some u => exact absurd (h3 u hr).2 (by simp)
        rw [hr]
        simp only [Bool.not_false, cond_true, cond_false, Option.bind_some]
      | true =>
        simp only [Bool.not_true, cond_true, cond_false, Option.bind_some, Bool.not_false, sz_mk]
        by_cases h10 : (unm ws[i]).length ≤ 10
        · rw [decide_eq_true h10] at h2
          obtain ⟨u, hu⟩ := Option.isSome_iff_exists.1 (h2.1 rfl)
          rw [hu, decide_eq_false (show ¬ ((unm ws[i]).length : Int) > 10 by omega), cond_false, (h3 u hu).1, blim8 (by simp; omega), cond_true, w_succ (by omega), short_loop hw hn n (i + 1) (out ++ [u]) (by omega) (by simp; omega) (by omega)]
        · rw [decide_eq_false h10] at h2
          have hr : rd ws[i] = none := by
            cases hr : rd ws[i] with
            | none => rfl
            | some u => rw [hr] at h2; exact absurd (h2.2 rfl) (by simp)
          rw [hr, decide_eq_true (show ((unm ws[i]).length : Int) > 10 by omega), cond_true]
    · have : i = ws.length := by omega
      subst this
      rw [out1, cond_false, List.drop_length]
      simp [rdR, rds]
theorem short_eq {ws : List (List UInt8)} (hw : ∀ x ∈ ws, x.length ≤ 1048576) (hn : ws.length ≤ 1048577) : f12G KK (ws.map mk) = some (rdR ws []) := by
  have := short_loop hw hn KK 0 [] (Nat.zero_le _) rfl (by simp only [KK]; omega)
  unfold f12G f12_g
  exact this
/-! ### commands -/
def Ws : List (List UInt8) := [[112, 97, 116, 116, 101, 114, 110], [112, 114, 111, 103, 114, 97, 109], [109, 111, 118, 101], [115, 121, 109, 109, 101, 116, 114, 121], [102, 114, 105, 101, 122, 101], [116, 105, 108, 101], [108, 101, 97, 110], [99, 97, 110, 111, 110, 105, 99, 97, 108], [116, 101, 120, 116], [110, 97, 109, 101], [99, 111, 117, 110, 116], [102, 105, 110, 100], [101, 110, 116, 114, 105, 101, 115], [115, 97, 118, 101], [108, 111, 97, 100], [100, 114, 111, 112], [115, 116, 97, 110, 100, 97, 114, 100], [119, 105, 110, 100, 111, 119], [112, 97, 110, 101, 108, 115]]
theorem Ws_idx : ∀ j : Fin 19, Ws.idxOf (Ws.getD j.1 []) = j.1 := by decide
theorem key_of {wd : List UInt8} (j : Nat) (hj : j < 19) : (mk wd == mk (Ws.getD j [])) = decide (Ws.idxOf wd = j) := by
  rw [mk_beq]
  by_cases h : wd = Ws.getD j []
  · rw [decide_eq_true h, h, decide_eq_true (Ws_idx ⟨j, hj⟩)]
  · rw [decide_eq_false h, decide_eq_false]
    intro e
    refine h ?_
    have hl : Ws.idxOf wd < Ws.length := by rw [e]; exact hj
    have := List.getElem_idxOf hl
    rw [← this]
    simp only [e]
    rw [List.getD_eq_getElem?_getD, List.getElem?_eq_getElem (by exact hj)]
    rfl
def cmdS (tx : List UInt8) (m : Nat) : Bool := (rdR (spa 32 [] tx) []).2 && decide ((spa 32 [] tx).length = m)
def stdS (tx : List UInt8) : Bool := (rdR (spa 32 [] tx).tail []).2 && (decide ((spa 32 [] tx).headD [] ≠ []) && decide (2 ≤ (spa 32 [] tx).length))
def okS (k : Nat) (tx : List UInt8) (bl : Bool) : Bool :=
  if k < 6 then bl else if k < 13 then !bl else if k < 16 then decide ((spa 32 [] tx).length = 1) && decide (tx ≠ []) else if k = 16 then stdS tx else if k = 17 then cmdS tx 4 else if k = 18 then cmdS tx 3 else false
theorem parse_skip {l : List UInt8} (hl : l.length ≤ 1048576) {p : Nat} (hp : p ≤ l.length) (hno : ∀ (j : Nat) (h : j < l.length), j < p → l[j] ≠ 32) : ∀ (n i : Nat), i ≤ p → p - i < n → ∃ L, f6_l5 KK (mk l) n (i : Int) = f6_b5 KK (mk l) L (p : Int)
  | 0, i, _, h => by omega
  | n + 1, i, hi, h => by
    by_cases hip : i = p
    · subst hip
      exact ⟨_, rfl⟩
    · have hlt : i < l.length := by omega
      obtain ⟨L, h1⟩ := parse_skip hl hp hno n (i + 1) (by omega) (by omega)
      refine ⟨L, ?_⟩
      rw [← h1]
      show f6_b5 KK (mk l) (fun v0 => f6_l5 KK (mk l) n v0) (i : Int) = _
      unfold f6_b5
      have hge : (mk l).data.getD ((i : Int)).toNat 0 = l[i] := by rw [Int.toNat_natCast, mk_get, get_in hlt]
      have hc : (((l[i].toNat : Nat) : Int) == (32 : Int)) = false := by
        rw [beq_eq_false_iff_ne]
        intro e
        exact hno i hlt (by omega) (UInt8.toNat_inj.1 (by have : (32 : UInt8).toNat = 32 := rfl
                                                          omega))
      rw [sz_mk, in1 hlt, in0, hge, hc, w_succ (by omega)]
      rfl
theorem head_mk {ws : List (List UInt8)} (h : 1 ≤ ws.length) : (ws.map mk).getD ((0 : Int) + (0 : Int)).toNat (mk []) = mk (ws.headD []) := by
  rw [← mk_nil]
  have := gd_map (q := 0) (ws := ws) (by omega)
  have e : ((0 : Int) + ((0 : Nat) : Int)).toNat = ((0 : Int) + (0 : Int)).toNat := rfl
  rw [e] at this
  rw [this]
  cases ws with
  | nil => simp at h
  | cons x r => rfl
theorem gA {n : Nat} (h : 1 ≤ n) : (decide (0 ≤ (1 : Int)) && decide ((1 : Int) ≤ (n : Int)) && decide ((n : Int) ≤ (n : Int))) = true := by
  simp only [Bool.and_eq_true, decide_eq_true_eq]
  omega
theorem gB {n : Nat} (h : 1 ≤ n) : (decide (0 ≤ (0 : Int)) && decide ((0 : Int) < (n : Int))) = true := by
  simp only [Bool.and_eq_true, decide_eq_true_eq]
  omega
theorem tail_mk (ws : List (List UInt8)) : ((ws.map mk).take ((0 : Int) + ((ws.length : Nat) : Int)).toNat).drop 1 = ws.tail.map mk := by
  have e : ((0 : Int) + ((ws.length : Nat) : Int)).toNat = ws.length := by omega
  rw [e, List.take_of_length_le (by rw [List.length_map]; omega)]
  cases ws <;> rfl
theorem beq1 (n m : Nat) : (((n : Nat) : Int) == ((m : Nat) : Int)) = decide (n = m) := by
  by_cases h : n = m
  · subst h; simp
  · rw [decide_eq_false h, beq_eq_false_iff_ne]; omega
theorem beqA (n : Nat) : (((n : Nat) : Int) == (1 : Int)) = decide (n = 1) := beq1 n 1
theorem rdR_len {ws : List (List UInt8)} (h : (rdR ws []).2 = true) : (rdR ws []).1.length = ws.length := by
  unfold rdR at h ⊢
  cases hr : rds ws with
  | none => rw [hr] at h; cases h
  | some vs =>
    simp only [List.nil_append]
    exact rds_len hr
theorem sav_eq {tx : List UInt8} : (bif decide (((spa 32 [] tx).map mk).length = 1) then decide (tx ≠ []) else false) = (decide ((spa 32 [] tx).length = 1) && decide (tx ≠ [])) := by
  rw [List.length_map]
  cases decide ((spa 32 [] tx).length = 1) <;> rfl
theorem std_eq {tx : List UInt8} {x : List Int × Bool} (hx : rdR (spa 32 [] tx).tail [] = x) : (bif (bif x.2 then decide ((spa 32 [] tx).headD [] ≠ []) else false) then decide ((x.1.length : Int) ≥ (1 : Int)) else false) = stdS tx := by
  unfold stdS
  rw [hx]
  cases h : x.2
  · rfl
  · have hl := rdR_len (ws := (spa 32 [] tx).tail) (by rw [hx]; exact h)
    rw [hx, List.length_tail] at hl
    rw [cond_true, Bool.true_and]
    cases decide ((spa 32 [] tx).headD [] ≠ [])
    · rfl
    · rw [cond_true, Bool.true_and]
      by_cases h2 : 2 ≤ (spa 32 [] tx).length
      · rw [decide_eq_true h2, decide_eq_true (by omega)]
      · rw [decide_eq_false h2, decide_eq_false (by omega)]
theorem num_eqs {tx : List UInt8} {x : List Int × Bool} (hx : rdR (spa 32 [] tx) [] = x) {p q : Bool} (hpq : (p && q) = false) :
    (bif x.2 then (bif (bif p then ((x.1.length : Int) == (4 : Int)) else false) then true else (bif q then ((x.1.length : Int) == (3 : Int)) else false)) else false) = (bif p then cmdS tx 4 else bif q then cmdS tx 3 else false) := by
  unfold cmdS
  rw [hx]
  cases h : x.2
  · cases p <;> cases q <;> rfl
  · have hl := rdR_len (ws := spa 32 [] tx) (by rw [hx]; exact h)
    rw [hx] at hl
    have h4 : ((x.1.length : Int) == (4 : Int)) = decide ((spa 32 [] tx).length = 4) := by rw [← hl]; exact beq1 _ 4
    have h3 : ((x.1.length : Int) == (3 : Int)) = decide ((spa 32 [] tx).length = 3) := by rw [← hl]; exact beq1 _ 3
    rw [h4, h3]
    cases p
    · simp only [cond_false, cond_true, Bool.true_and]
    · have hq : q = false := by simpa using hpq
      subst hq
      simp only [cond_false, cond_true, Bool.true_and]
      cases decide ((spa 32 [] tx).length = 4) <;> rfl
theorem spa_big {tx : List UInt8} (h : tx.length ≤ 1048576) : (∀ x ∈ spa 32 [] tx, x.length ≤ 1048576) ∧ (spa 32 [] tx).length ≤ 1048577 ∧ 1 ≤ (spa 32 [] tx).length := by
  obtain ⟨h1, h2⟩ := spa_len 32 tx []
  exact ⟨fun x hx => by have := spa_size 32 tx [] x hx; simp at this; omega, by omega, h2⟩
theorem spl32 {tx : List UInt8} (h : tx.length ≤ 1048576) : f8G KK (mk tx) (32 : Int) = some ((spa 32 [] tx).map mk) := split_eq (c := 32) h
theorem parse_hit {a r : List UInt8} (hl : (a ++ 32 :: r).length ≤ 1048576) (ha : 32 ∉ a) : ∃ x, f6G KK (mk (a ++ 32 :: r)) = some x ∧ x.2.2.2 = okS (Ws.idxOf a) r true := by
  have hll : (a ++ 32 :: r).length = a.length + r.length + 1 := by simp; omega
  obtain ⟨L, h1⟩ := parse_skip hl (p := a.length) (by omega) (fun j h hj => by
    rw [List.getElem_append_left hj]
    exact fun e => ha (e ▸ List.getElem_mem hj)) KK 0 (Nat.zero_le _) (by simp only [KK]; omega)
  unfold f6G f6_g
  have z : ((0 : Nat) : Int) = 0 := rfl
  rw [z] at h1
  show ∃ x, f6_l5 KK (mk (a ++ 32 :: r)) KK 0 = some x ∧ x.2.2.2 = okS (Ws.idxOf a) r true
  rw [h1]
  unfold f6_b5
  have hge : (mk (a ++ 32 :: r)).data.getD ((a.length : Int)).toNat 0 = 32 := by
    rw [Int.toNat_natCast, mk_get, get_in (by omega), List.getElem_append_right (Nat.le_refl _)]
    simp
  have e1 : (mk (a ++ 32 :: r)).extract 0 ((a.length : Int)).toNat = mk a := by
    rw [Int.toNat_natCast, mk_ext]
    simp
  have e2 : (mk (a ++ 32 :: r)).extract (w ((a.length : Int) + 1)).toNat (((a ++ 32 :: r).length : Int)).toNat = mk r := by
    rw [w_succ (by omega), Int.toNat_natCast, Int.toNat_natCast, mk_ext, List.take_length]
    congr 1
    rw [show a ++ 32 :: r = (a ++ [32]) ++ r by simp, List.drop_left' (by simp)]
  have e3 : (((32 : UInt8).toNat : Int) == (32 : Int)) = true := rfl
  have hws := spa_big (tx := r) (by omega)
  have g1 : (decide (0 ≤ (0 : Int)) && decide ((0 : Int) ≤ (a.length : Int)) && decide ((a.length : Int) ≤ ((a ++ 32 :: r).length : Int))) = true := by
    simp only [Bool.and_eq_true, decide_eq_true_eq]
    omega
  have g2 : (decide (0 ≤ (w ((a.length : Int) + 1))) && decide ((w ((a.length : Int) + 1)) ≤ ((a ++ 32 :: r).length : Int)) && decide (((a ++ 32 :: r).length : Int) ≤ ((a ++ 32 :: r).length : Int))) = true := by
    rw [w_succ (by omega)]
    simp only [Bool.and_eq_true, decide_eq_true_eq]
    omega
  have k0 : (mk a == bs [112, 97, 116, 116, 101, 114, 110]) = decide (Ws.idxOf a = 0) := key_of 0 (by decide)
  have k1 : (mk a == bs [112, 114, 111, 103, 114, 97, 109]) = decide (Ws.idxOf a = 1) := key_of 1 (by decide)
  have k2 : (mk a == bs [109, 111, 118, 101]) = decide (Ws.idxOf a = 2) := key_of 2 (by decide)
  have k3 : (mk a == bs [115, 121, 109, 109, 101, 116, 114, 121]) = decide (Ws.idxOf a = 3) := key_of 3 (by decide)
  have k4 : (mk a == bs [102, 114, 105, 101, 122, 101]) = decide (Ws.idxOf a = 4) := key_of 4 (by decide)
  have k5 : (mk a == bs [116, 105, 108, 101]) = decide (Ws.idxOf a = 5) := key_of 5 (by decide)
  have k6 : (mk a == bs [108, 101, 97, 110]) = decide (Ws.idxOf a = 6) := key_of 6 (by decide)
  have k7 : (mk a == bs [99, 97, 110, 111, 110, 105, 99, 97, 108]) = decide (Ws.idxOf a = 7) := key_of 7 (by decide)
  have k8 : (mk a == bs [116, 101, 120, 116]) = decide (Ws.idxOf a = 8) := key_of 8 (by decide)
  have k9 : (mk a == bs [110, 97, 109, 101]) = decide (Ws.idxOf a = 9) := key_of 9 (by decide)
  have k10 : (mk a == bs [99, 111, 117, 110, 116]) = decide (Ws.idxOf a = 10) := key_of 10 (by decide)
  have k11 : (mk a == bs [102, 105, 110, 100]) = decide (Ws.idxOf a = 11) := key_of 11 (by decide)
  have k12 : (mk a == bs [101, 110, 116, 114, 105, 101, 115]) = decide (Ws.idxOf a = 12) := key_of 12 (by decide)
  have k13 : (mk a == bs [115, 97, 118, 101]) = decide (Ws.idxOf a = 13) := key_of 13 (by decide)
  have k14 : (mk a == bs [108, 111, 97, 100]) = decide (Ws.idxOf a = 14) := key_of 14 (by decide)
  have k15 : (mk a == bs [100, 114, 111, 112]) = decide (Ws.idxOf a = 15) := key_of 15 (by decide)
  have k16 : (mk a == bs [115, 116, 97, 110, 100, 97, 114, 100]) = decide (Ws.idxOf a = 16) := key_of 16 (by decide)
  have k17 : (mk a == bs [119, 105, 110, 100, 111, 119]) = decide (Ws.idxOf a = 17) := key_of 17 (by decide)
  have k18 : (mk a == bs [112, 97, 110, 101, 108, 115]) = decide (Ws.idxOf a = 18) := key_of 18 (by decide)
  rw [sz_mk, in1 (show a.length < (a ++ 32 :: r).length by omega), g1, g2, in0, hge, e3]
  simp only [Bool.and_self, cond_true, e1, e2, spl32 (show r.length ≤ 1048576 by omega), Option.bind_some, k0, k1, k2, k3, k4, k5, k6, k7, k8, k9, k10, k11, k12, k13, k14, k15, k16, k17, k18, Bool.or_true, len_map, tail_mk, gA hws.2.2, gB hws.2.2, head_mk hws.2.2, numbers_eq hws.1 hws.2.1, numbers_eq (ws := (spa 32 [] r).tail) (fun x hx => hws.1 x (List.mem_of_mem_tail hx)) (by rw [List.length_tail]; omega), mk_nil, mk_bne, beqA]
  generalize hk : Ws.idxOf a = k
  clear hk k0 k1 k2 k3 k4 k5 k6 k7 k8 k9 k10 k11 k12 k13 k14 k15 k16 k17 k18
  rcases (by omega : k = 0 ∨ k = 1 ∨ k = 2 ∨ k = 3 ∨ k = 4 ∨ k = 5 ∨ k = 6 ∨ k = 7 ∨ k = 8 ∨ k = 9 ∨ k = 10 ∨ k = 11 ∨ k = 12 ∨ k = 13 ∨ k = 14 ∨ k = 15 ∨ k = 16 ∨ k = 17 ∨ k = 18 ∨ 19 ≤ k) with rfl | rfl | rfl | rfl | rfl | rfl | rfl | rfl | rfl | rfl | rfl | rfl | rfl | rfl | rfl | rfl | rfl | rfl | rfl | hk
  · exact ⟨_, rfl, rfl⟩
  · exact ⟨_, rfl, rfl⟩
  · exact ⟨_, rfl, rfl⟩
  · exact ⟨_, rfl, rfl⟩
  · exact ⟨_, rfl, rfl⟩
  · exact ⟨_, rfl, rfl⟩
  · exact ⟨_, rfl, rfl⟩
  · exact ⟨_, rfl, rfl⟩
  · exact ⟨_, rfl, rfl⟩
  · exact ⟨_, rfl, rfl⟩
  · exact ⟨_, rfl, rfl⟩
  · exact ⟨_, rfl, rfl⟩
  · exact ⟨_, rfl, rfl⟩
  · exact ⟨_, rfl, sav_eq (tx := r)⟩
  · exact ⟨_, rfl, sav_eq (tx := r)⟩
  · exact ⟨_, rfl, sav_eq (tx := r)⟩
  · refine ⟨_, rfl, ?_⟩
    exact std_eq (tx := r) rfl
  · refine ⟨_, rfl, ?_⟩
    exact num_eqs (tx := r) (p := true) (q := false) rfl rfl
  · refine ⟨_, rfl, ?_⟩
    exact num_eqs (tx := r) (p := false) (q := true) rfl rfl
  · have d : ∀ j, j < 19 → decide (k = j) = false := fun j hj => decide_eq_false (by omega)
    simp only [d 0 (by omega), d 1 (by omega), d 2 (by omega), d 3 (by omega), d 4 (by omega), d 5 (by omega), d 6 (by omega), d 7 (by omega), d 8 (by omega), d 9 (by omega), d 10 (by omega), d 11 (by omega), d 12 (by omega), d 13 (by omega), d 14 (by omega), d 15 (by omega), d 16 (by omega), d 17 (by omega), d 18 (by omega), cond_false]
    refine ⟨_, rfl, ?_⟩
    have e : okS k r true = false := by
      unfold okS
      rw [if_neg (by omega), if_neg (by omega), if_neg (by omega), if_neg (by omega), if_neg (by omega), if_neg (by omega)]
    rw [e]
    exact num_eqs (tx := r) (p := false) (q := false) rfl rfl
theorem parse_no {a : List UInt8} (hl : a.length ≤ 1048576) (ha : 32 ∉ a) : ∃ x, f6G KK (mk a) = some x ∧ x.2.2.2 = okS (Ws.idxOf a) [] false := by
  obtain ⟨L, h1⟩ := parse_skip hl (p := a.length) (by omega) (fun j h hj => fun e => ha (e ▸ List.getElem_mem h)) KK 0 (Nat.zero_le _) (by simp only [KK]; omega)
  unfold f6G f6_g
  have z : ((0 : Nat) : Int) = 0 := rfl
  rw [z] at h1
  show ∃ x, f6_l5 KK (mk a) KK 0 = some x ∧ x.2.2.2 = okS (Ws.idxOf a) [] false
  rw [h1]
  unfold f6_b5
  have hws := spa_big (tx := []) (by simp)
  have k0 : (mk a == bs [112, 97, 116, 116, 101, 114, 110]) = decide (Ws.idxOf a = 0) := key_of 0 (by decide)
  have k1 : (mk a == bs [112, 114, 111, 103, 114, 97, 109]) = decide (Ws.idxOf a = 1) := key_of 1 (by decide)
  have k2 : (mk a == bs [109, 111, 118, 101]) = decide (Ws.idxOf a = 2) := key_of 2 (by decide)
  have k3 : (mk a == bs [115, 121, 109, 109, 101, 116, 114, 121]) = decide (Ws.idxOf a = 3) := key_of 3 (by decide)
  have k4 : (mk a == bs [102, 114, 105, 101, 122, 101]) = decide (Ws.idxOf a = 4) := key_of 4 (by decide)
  have k5 : (mk a == bs [116, 105, 108, 101]) = decide (Ws.idxOf a = 5) := key_of 5 (by decide)
  have k6 : (mk a == bs [108, 101, 97, 110]) = decide (Ws.idxOf a = 6) := key_of 6 (by decide)
  have k7 : (mk a == bs [99, 97, 110, 111, 110, 105, 99, 97, 108]) = decide (Ws.idxOf a = 7) := key_of 7 (by decide)
  have k8 : (mk a == bs [116, 101, 120, 116]) = decide (Ws.idxOf a = 8) := key_of 8 (by decide)
  have k9 : (mk a == bs [110, 97, 109, 101]) = decide (Ws.idxOf a = 9) := key_of 9 (by decide)
  have k10 : (mk a == bs [99, 111, 117, 110, 116]) = decide (Ws.idxOf a = 10) := key_of 10 (by decide)
  have k11 : (mk a == bs [102, 105, 110, 100]) = decide (Ws.idxOf a = 11) := key_of 11 (by decide)
  have k12 : (mk a == bs [101, 110, 116, 114, 105, 101, 115]) = decide (Ws.idxOf a = 12) := key_of 12 (by decide)
  have k13 : (mk a == bs [115, 97, 118, 101]) = decide (Ws.idxOf a = 13) := key_of 13 (by decide)
  have k14 : (mk a == bs [108, 111, 97, 100]) = decide (Ws.idxOf a = 14) := key_of 14 (by decide)
  have k15 : (mk a == bs [100, 114, 111, 112]) = decide (Ws.idxOf a = 15) := key_of 15 (by decide)
  have k16 : (mk a == bs [115, 116, 97, 110, 100, 97, 114, 100]) = decide (Ws.idxOf a = 16) := key_of 16 (by decide)
  have k17 : (mk a == bs [119, 105, 110, 100, 111, 119]) = decide (Ws.idxOf a = 17) := key_of 17 (by decide)
  have k18 : (mk a == bs [112, 97, 110, 101, 108, 115]) = decide (Ws.idxOf a = 18) := key_of 18 (by decide)
  rw [sz_mk, out1, mk_nil]
  simp only [Bool.and_self, cond_true, cond_false, spl32 (show ([] : List UInt8).length ≤ 1048576 by simp), Option.bind_some, k0, k1, k2, k3, k4, k5, k6, k7, k8, k9, k10, k11, k12, k13, k14, k15, k16, k17, k18, Bool.or_true, len_map, tail_mk, gA hws.2.2, gB hws.2.2, head_mk hws.2.2, numbers_eq hws.1 hws.2.1, numbers_eq (ws := (spa 32 [] []).tail) (fun x hx => hws.1 x (List.mem_of_mem_tail hx)) (by rw [List.length_tail]; omega), mk_bne, beqA]
  generalize hk : Ws.idxOf a = k
  clear hk k0 k1 k2 k3 k4 k5 k6 k7 k8 k9 k10 k11 k12 k13 k14 k15 k16 k17 k18
  rcases (by omega : k = 0 ∨ k = 1 ∨ k = 2 ∨ k = 3 ∨ k = 4 ∨ k = 5 ∨ k = 6 ∨ k = 7 ∨ k = 8 ∨ k = 9 ∨ k = 10 ∨ k = 11 ∨ k = 12 ∨ k = 13 ∨ k = 14 ∨ k = 15 ∨ k = 16 ∨ k = 17 ∨ k = 18 ∨ 19 ≤ k) with rfl | rfl | rfl | rfl | rfl | rfl | rfl | rfl | rfl | rfl | rfl | rfl | rfl | rfl | rfl | rfl | rfl | rfl | rfl | hk
  · exact ⟨_, rfl, rfl⟩
  · exact ⟨_, rfl, rfl⟩
  · exact ⟨_, rfl, rfl⟩
  · exact ⟨_, rfl, rfl⟩
  · exact ⟨_, rfl, rfl⟩
  · exact ⟨_, rfl, rfl⟩
  · exact ⟨_, rfl, rfl⟩
  · exact ⟨_, rfl, rfl⟩
  · exact ⟨_, rfl, rfl⟩
  · exact ⟨_, rfl, rfl⟩
  · exact ⟨_, rfl, rfl⟩
  · exact ⟨_, rfl, rfl⟩
  · exact ⟨_, rfl, rfl⟩
  · exact ⟨_, rfl, sav_eq (tx := [])⟩
  · exact ⟨_, rfl, sav_eq (tx := [])⟩
  · exact ⟨_, rfl, sav_eq (tx := [])⟩
  · refine ⟨_, rfl, ?_⟩
    exact std_eq (tx := []) rfl
  · refine ⟨_, rfl, ?_⟩
    exact num_eqs (tx := []) (p := true) (q := false) rfl rfl
  · refine ⟨_, rfl, ?_⟩
    exact num_eqs (tx := []) (p := false) (q := true) rfl rfl
  · have d : ∀ j, j < 19 → decide (k = j) = false := fun j hj => decide_eq_false (by omega)
    simp only [d 0 (by omega), d 1 (by omega), d 2 (by omega), d 3 (by omega), d 4 (by omega), d 5 (by omega), d 6 (by omega), d 7 (by omega), d 8 (by omega), d 9 (by omega), d 10 (by omega), d 11 (by omega), d 12 (by omega), d 13 (by omega), d 14 (by omega), d 15 (by omega), d 16 (by omega), d 17 (by omega), d 18 (by omega), cond_false]
    refine ⟨_, rfl, ?_⟩
    have e : okS k [] false = false := by
      unfold okS
      rw [if_neg (by omega), if_neg (by omega), if_neg (by omega), if_neg (by omega), if_neg (by omega), if_neg (by omega)]
    rw [e]
    exact num_eqs (tx := []) (p := false) (q := false) rfl rfl
/-! ### the program's reading -/
theorem index_no {c : UInt8} : ∀ {a : List UInt8}, c ∉ a → Lib.index a [c] = -1
  | [], _ => rfl
  | b :: a, h => by
    have h1 : c ≠ b := fun e => h (by simp [e])
    have ha : c ∉ a := fun e => h (List.mem_cons_of_mem _ e)
    unfold Lib.index
    rw [index_no ha]
    simp [h1]
theorem cut_hit {c : UInt8} {a r : List UInt8} (hl : (a ++ c :: r).length ≤ 1048576) (h : c ∉ a) : cutF (mk (a ++ c :: r)) (mk [c]) = some (mk a, mk r, true) := by
  have e : Lib.cut (a ++ c :: r) [c] = (a, r, true) := by
    unfold Lib.cut
    rw [index_hit1 h, if_pos (by omega), Int.toNat_natCast]
    simp
  unfold cutF
  rw [mk_size, mk_list, mk_list, e, show Nat.blt (a ++ c :: r).length 4294967281 = true by rw [Nat.blt_eq]; omega]
  rfl
theorem cut_no {c : UInt8} {a : List UInt8} (hl : a.length ≤ 1048576) (h : c ∉ a) : cutF (mk a) (mk [c]) = some (mk a, mk [], false) := by
  have e : Lib.cut a [c] = (a, [], false) := by
    unfold Lib.cut
    rw [index_no h, if_neg (by omega)]
  unfold cutF
  rw [mk_size, mk_list, mk_list, e, show Nat.blt a.length 4294967281 = true by rw [Nat.blt_eq]; omega]
  rfl
theorem beqD (n : Nat) : (((n : Nat) : Int) == (4 : Int)) = decide (n = 4) := beq1 n 4
theorem beqC (n : Nat) : (((n : Nat) : Int) == (3 : Int)) = decide (n = 3) := beq1 n 3
theorem sav_eqB {tx : List UInt8} : (bif decide (tx ≠ []) then decide ((spa 32 [] tx).length = 1) else false) = (decide ((spa 32 [] tx).length = 1) && decide (tx ≠ [])) := by
  cases decide ((spa 32 [] tx).length = 1) <;> cases decide (tx ≠ []) <;> rfl
theorem cmd_eq {tx : List UInt8} {m : Nat} : (bif (rdR (spa 32 [] tx) []).2 then decide ((spa 32 [] tx).length = m) else false) = cmdS tx m := by
  unfold cmdS
  cases (rdR (spa 32 [] tx) []).2 <;> rfl
theorem read_hit {a r : List UInt8} (hl : (a ++ 32 :: r).length ≤ 1048576) (ha : 32 ∉ a) : ∃ x, f7G KK (mk (a ++ 32 :: r)) = some x ∧ x.2 = okS (Ws.idxOf a) r true := by
  unfold f7G f10G f11G
  have e32 : bs [32] = mk [32] := rfl
  rw [e32, cut_hit hl ha, Option.bind_some, splitF_eq (c := 32) (l := r) (by simp at hl ⊢; omega), Option.bind_some]
  have hws := spa_big (tx := r) (by simp at hl ⊢; omega)
  have k0 : (mk a == bs [112, 97, 116, 116, 101, 114, 110]) = decide (Ws.idxOf a = 0) := key_of 0 (by decide)
  have k1 : (mk a == bs [112, 114, 111, 103, 114, 97, 109]) = decide (Ws.idxOf a = 1) := key_of 1 (by decide)
  have k2 : (mk a == bs [109, 111, 118, 101]) = decide (Ws.idxOf a = 2) := key_of 2 (by decide)
  have k3 : (mk a == bs [115, 121, 109, 109, 101, 116, 114, 121]) = decide (Ws.idxOf a = 3) := key_of 3 (by decide)
  have k4 : (mk a == bs [102, 114, 105, 101, 122, 101]) = decide (Ws.idxOf a = 4) := key_of 4 (by decide)
  have k5 : (mk a == bs [116, 105, 108, 101]) = decide (Ws.idxOf a = 5) := key_of 5 (by decide)
  have k6 : (mk a == bs [108, 101, 97, 110]) = decide (Ws.idxOf a = 6) := key_of 6 (by decide)
  have k7 : (mk a == bs [99, 97, 110, 111, 110, 105, 99, 97, 108]) = decide (Ws.idxOf a = 7) := key_of 7 (by decide)
  have k8 : (mk a == bs [116, 101, 120, 116]) = decide (Ws.idxOf a = 8) := key_of 8 (by decide)
  have k9 : (mk a == bs [110, 97, 109, 101]) = decide (Ws.idxOf a = 9) := key_of 9 (by decide)
  have k10 : (mk a == bs [99, 111, 117, 110, 116]) = decide (Ws.idxOf a = 10) := key_of 10 (by decide)
  have k11 : (mk a == bs [102, 105, 110, 100]) = decide (Ws.idxOf a = 11) := key_of 11 (by decide)
  have k12 : (mk a == bs [101, 110, 116, 114, 105, 101, 115]) = decide (Ws.idxOf a = 12) := key_of 12 (by decide)
  have k13 : (mk a == bs [115, 97, 118, 101]) = decide (Ws.idxOf a = 13) := key_of 13 (by decide)
  have k14 : (mk a == bs [108, 111, 97, 100]) = decide (Ws.idxOf a = 14) := key_of 14 (by decide)
  have k15 : (mk a == bs [100, 114, 111, 112]) = decide (Ws.idxOf a = 15) := key_of 15 (by decide)
  have k16 : (mk a == bs [115, 116, 97, 110, 100, 97, 114, 100]) = decide (Ws.idxOf a = 16) := key_of 16 (by decide)
  have k17 : (mk a == bs [119, 105, 110, 100, 111, 119]) = decide (Ws.idxOf a = 17) := key_of 17 (by decide)
  have k18 : (mk a == bs [112, 97, 110, 101, 108, 115]) = decide (Ws.idxOf a = 18) := key_of 18 (by decide)
  simp only [Option.bind_some, k0, k1, k2, k3, k4, k5, k6, k7, k8, k9, k10, k11, k12, k13, k14, k15, k16, k17, k18, Bool.or_true, len_map, tail_mk, gA hws.2.2, gB hws.2.2, head_mk hws.2.2, short_eq hws.1 hws.2.1, short_eq (ws := (spa 32 [] r).tail) (fun x hx => hws.1 x (List.mem_of_mem_tail hx)) (by rw [List.length_tail]; omega), mk_nil, mk_bne, beqA, beqD, beqC, Bool.not_true, Bool.not_false, cond_true, cond_false]
  generalize hk : Ws.idxOf a = k
  clear hk k0 k1 k2 k3 k4 k5 k6 k7 k8 k9 k10 k11 k12 k13 k14 k15 k16 k17 k18
  rcases (by omega : k = 0 ∨ k = 1 ∨ k = 2 ∨ k = 3 ∨ k = 4 ∨ k = 5 ∨ k = 6 ∨ k = 7 ∨ k = 8 ∨ k = 9 ∨ k = 10 ∨ k = 11 ∨ k = 12 ∨ k = 13 ∨ k = 14 ∨ k = 15 ∨ k = 16 ∨ k = 17 ∨ k = 18 ∨ 19 ≤ k) with rfl | rfl | rfl | rfl | rfl | rfl | rfl | rfl | rfl | rfl | rfl | rfl | rfl | rfl | rfl | rfl | rfl | rfl | rfl | hk
  · exact ⟨_, rfl, rfl⟩
  · exact ⟨_, rfl, rfl⟩
  · exact ⟨_, rfl, rfl⟩
  · exact ⟨_, rfl, rfl⟩
  · exact ⟨_, rfl, rfl⟩
  · exact ⟨_, rfl, rfl⟩
  · exact ⟨_, rfl, rfl⟩
  · exact ⟨_, rfl, rfl⟩
  · exact ⟨_, rfl, rfl⟩
  · exact ⟨_, rfl, rfl⟩
  · exact ⟨_, rfl, rfl⟩
  · exact ⟨_, rfl, rfl⟩
  · exact ⟨_, rfl, rfl⟩
  · exact ⟨_, rfl, sav_eqB (tx := r)⟩
  · exact ⟨_, rfl, sav_eqB (tx := r)⟩
  · exact ⟨_, rfl, sav_eqB (tx := r)⟩
  · refine ⟨_, rfl, ?_⟩
    exact std_eq (tx := r) rfl
  · refine ⟨_, rfl, ?_⟩
    exact cmd_eq (tx := r) (m := 4)
  · refine ⟨_, rfl, ?_⟩
    exact cmd_eq (tx := r) (m := 3)
  · have d : ∀ j, j < 19 → decide (k = j) = false := fun j hj => decide_eq_false (by omega)
    simp only [d 0 (by omega), d 1 (by omega), d 2 (by omega), d 3 (by omega), d 4 (by omega), d 5 (by omega), d 6 (by omega), d 7 (by omega), d 8 (by omega), d 9 (by omega), d 10 (by omega), d 11 (by omega), d 12 (by omega), d 13 (by omega), d 14 (by omega), d 15 (by omega), d 16 (by omega), d 17 (by omega), d 18 (by omega), cond_false]
    refine ⟨_, rfl, ?_⟩
    have e : okS k r true = false := by
      unfold okS
      rw [if_neg (by omega), if_neg (by omega), if_neg (by omega), if_neg (by omega), if_neg (by omega), if_neg (by omega)]
    exact e.symm
theorem read_no {a : List UInt8} (hl : (a).length ≤ 1048576) (ha : 32 ∉ a) : ∃ x, f7G KK (mk (a)) = some x ∧ x.2 = okS (Ws.idxOf a) [] false := by
  unfold f7G f10G f11G
  have e32 : bs [32] = mk [32] := rfl
  rw [e32, cut_no hl ha, Option.bind_some, splitF_eq (c := 32) (l := []) (by simp), Option.bind_some]
  have hws := spa_big (tx := []) (by simp)
  have k0 : (mk a == bs [112, 97, 116, 116, 101, 114, 110]) = decide (Ws.idxOf a = 0) := key_of 0 (by decide)
  have k1 : (mk a == bs [112, 114, 111, 103, 114, 97, 109]) = decide (Ws.idxOf a = 1) := key_of 1 (by decide)
  have k2 : (mk a == bs [109, 111, 118, 101]) = decide (Ws.idxOf a = 2) := key_of 2 (by decide)
  have k3 : (mk a == bs [115, 121, 109, 109, 101, 116, 114, 121]) = decide (Ws.idxOf a = 3) := key_of 3 (by decide)
  have k4 : (mk a == bs [102, 114, 105, 101, 122, 101]) = decide (Ws.idxOf a = 4) := key_of 4 (by decide)
  have k5 : (mk a == bs [116, 105, 108, 101]) = decide (Ws.idxOf a = 5) := key_of 5 (by decide)
  have k6 : (mk a == bs [108, 101, 97, 110]) = decide (Ws.idxOf a = 6) := key_of 6 (by decide)
  have k7 : (mk a == bs [99, 97, 110, 111, 110, 105, 99, 97, 108]) = decide (Ws.idxOf a = 7) := key_of 7 (by decide)
  have k8 : (mk a == bs [116, 101, 120, 116]) = decide (Ws.idxOf a = 8) := key_of 8 (by decide)
  have k9 : (mk a == bs [110, 97, 109, 101]) = decide (Ws.idxOf a = 9) := key_of 9 (by decide)
  have k10 : (mk a == bs [99, 111, 117, 110, 116]) = decide (Ws.idxOf a = 10) := key_of 10 (by decide)
  have k11 : (mk a == bs [102, 105, 110, 100]) = decide (Ws.idxOf a = 11) := key_of 11 (by decide)
  have k12 : (mk a == bs [101, 110, 116, 114, 105, 101, 115]) = decide (Ws.idxOf a = 12) := key_of 12 (by decide)
  have k13 : (mk a == bs [115, 97, 118, 101]) = decide (Ws.idxOf a = 13) := key_of 13 (by decide)
  have k14 : (mk a == bs [108, 111, 97, 100]) = decide (Ws.idxOf a = 14) := key_of 14 (by decide)
  have k15 : (mk a == bs [100, 114, 111, 112]) = decide (Ws.idxOf a = 15) := key_of 15 (by decide)
  have k16 : (mk a == bs [115, 116, 97, 110, 100, 97, 114, 100]) = decide (Ws.idxOf a = 16) := key_of 16 (by decide)
  have k17 : (mk a == bs [119, 105, 110, 100, 111, 119]) = decide (Ws.idxOf a = 17) := key_of 17 (by decide)
  have k18 : (mk a == bs [112, 97, 110, 101, 108, 115]) = decide (Ws.idxOf a = 18) := key_of 18 (by decide)
  simp only [Option.bind_some, k0, k1, k2, k3, k4, k5, k6, k7, k8, k9, k10, k11, k12, k13, k14, k15, k16, k17, k18, Bool.or_true, len_map, tail_mk, gA hws.2.2, gB hws.2.2, head_mk hws.2.2, short_eq hws.1 hws.2.1, short_eq (ws := (spa 32 [] []).tail) (fun x hx => hws.1 x (List.mem_of_mem_tail hx)) (by rw [List.length_tail]; omega), mk_nil, mk_bne, beqA, beqD, beqC, Bool.not_true, Bool.not_false, cond_true, cond_false]
  generalize hk : Ws.idxOf a = k
  clear hk k0 k1 k2 k3 k4 k5 k6 k7 k8 k9 k10 k11 k12 k13 k14 k15 k16 k17 k18
  rcases (by omega : k = 0 ∨ k = 1 ∨ k = 2 ∨ k = 3 ∨ k = 4 ∨ k = 5 ∨ k = 6 ∨ k = 7 ∨ k = 8 ∨ k = 9 ∨ k = 10 ∨ k = 11 ∨ k = 12 ∨ k = 13 ∨ k = 14 ∨ k = 15 ∨ k = 16 ∨ k = 17 ∨ k = 18 ∨ 19 ≤ k) with rfl | rfl | rfl | rfl | rfl | rfl | rfl | rfl | rfl | rfl | rfl | rfl | rfl | rfl | rfl | rfl | rfl | rfl | rfl | hk
  · exact ⟨_, rfl, rfl⟩
  · exact ⟨_, rfl, rfl⟩
  · exact ⟨_, rfl, rfl⟩
  · exact ⟨_, rfl, rfl⟩
  · exact ⟨_, rfl, rfl⟩
  · exact ⟨_, rfl, rfl⟩
  · exact ⟨_, rfl, rfl⟩
  · exact ⟨_, rfl, rfl⟩
  · exact ⟨_, rfl, rfl⟩
  · exact ⟨_, rfl, rfl⟩
  · exact ⟨_, rfl, rfl⟩
  · exact ⟨_, rfl, rfl⟩
  · exact ⟨_, rfl, rfl⟩
  · exact ⟨_, rfl, sav_eqB (tx := [])⟩
  · exact ⟨_, rfl, sav_eqB (tx := [])⟩
  · exact ⟨_, rfl, sav_eqB (tx := [])⟩
  · refine ⟨_, rfl, ?_⟩
    exact std_eq (tx := []) rfl
  · refine ⟨_, rfl, ?_⟩
    exact cmd_eq (tx := []) (m := 4)
  · refine ⟨_, rfl, ?_⟩
    exact cmd_eq (tx := []) (m := 3)
  · have d : ∀ j, j < 19 → decide (k = j) = false := fun j hj => decide_eq_false (by omega)
    simp only [d 0 (by omega), d 1 (by omega), d 2 (by omega), d 3 (by omega), d 4 (by omega), d 5 (by omega), d 6 (by omega), d 7 (by omega), d 8 (by omega), d 9 (by omega), d 10 (by omega), d 11 (by omega), d 12 (by omega), d 13 (by omega), d 14 (by omega), d 15 (by omega), d 16 (by omega), d 17 (by omega), d 18 (by omega), cond_false]
    refine ⟨_, rfl, ?_⟩
    have e : okS k [] false = false := by
      unfold okS
      rw [if_neg (by omega), if_neg (by omega), if_neg (by omega), if_neg (by omega), if_neg (by omega), if_neg (by omega)]
    exact e.symm
theorem FnExactIsDeskCommand_pure (a0 : ByteArray) (h : WfA [.str] (a0, ())) : ∃ K, f3G K a0 = some true := by
  refine ⟨KK, ?_⟩
  obtain ⟨l, rfl⟩ := ex_mk a0
  unfold f3G
  rw [mk_size]
  by_cases hl : l.length ≤ 1048576
  · rw [decide_eq_false (show ¬ (l.length : Int) > 1048576 by omega), cond_false]
    unfold f4G f5G
    by_cases hm : 32 ∈ l
    · obtain ⟨a, r, rfl, ha⟩ := List.eq_append_cons_of_mem hm
      obtain ⟨x, hx, hx2⟩ := parse_hit hl ha
      obtain ⟨y, hy, hy2⟩ := read_hit hl ha
      rw [hx, Option.bind_some, hy]
      simp only [Option.bind_some, hx2, hy2, bne_self_eq_false, cond_false]
    · obtain ⟨x, hx, hx2⟩ := parse_no hl hm
      obtain ⟨y, hy, hy2⟩ := read_no hl hm
      rw [hx, Option.bind_some, hy]
      simp only [Option.bind_some, hx2, hy2, bne_self_eq_false, cond_false]
  · rw [decide_eq_true (show (l.length : Int) > 1048576 by omega), cond_true]
end Go.Proofs.YtloicbfdofgggaaDoor.X
