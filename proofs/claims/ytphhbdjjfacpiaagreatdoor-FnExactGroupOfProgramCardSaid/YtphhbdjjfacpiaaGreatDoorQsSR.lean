/- Splitting a text into words, and reading numbers from words, as the reference does it. -/
import Derived.Test.YtphhbdjjfacpiaaGreatDoorQsSA
import Derived.Test.YtphhbdjjfacpiaaGreatDoorQzXRow
namespace Go.Proofs.YtphhbdjjfacpiaaGreatDoor.X
open Go
set_option linter.unusedSimpArgs false
set_option linter.unusedVariables false
theorem get_in {l : List UInt8} {i : Nat} (h : i < l.length) : l.getD i 0 = l[i] := by simp [List.getD, h]
theorem le1 {q n : Nat} (h : q ≤ n) : decide ((q : Int) ≤ (n : Int)) = true := by simp; omega
theorem sz_mk (l : List UInt8) : ((mk l).size : Int) = (l.length : Int) := by rw [mk_size]
theorem ex_nat (l : List UInt8) (i j : Nat) : (mk l).extract ((i : Int)).toNat ((j : Int)).toNat = mk ((l.take j).drop i) := by
 rw [Int.toNat_natCast, Int.toNat_natCast, mk_ext]
theorem take_snoc {l : List UInt8} {i fr : Nat} (h : i < l.length) (hf : fr ≤ i) : (l.take (i + 1)).drop fr = (l.take i).drop fr ++ [l[i]] := by
 rw [List.take_add_one, List.getElem?_eq_getElem h, Option.toList_some, List.drop_append_of_le_length (by rw [List.length_take]; omega)]
theorem split_loop {c : UInt8} {l : List UInt8} (hl : l.length ≤ 1048576) : ∀ (n i fr : Nat) (out : List ByteArray), fr ≤ i → i ≤ l.length → out.length ≤ i → l.length + 1 - i < n →
  f14_l2 KK (mk l) ((c.toNat : Nat) : Int) n (fr : Int) (i : Int) out = some (out ++ (spa c ((l.take i).drop fr) (l.drop i)).map mk)
 | 0, i, fr, out, _, _, _, hn => by omega
 | n + 1, i, fr, out, hf, hi, ho, hn => by
  show f14_b2 KK (mk l) ((c.toNat : Nat) : Int) (fun v0 v1 v2 => f14_l2 KK (mk l) ((c.toNat : Nat) : Int) n v0 v1 v2) (fr : Int) (i : Int) out = _
  unfold f14_b2
  rw [sz_mk, le1 hi, cT]
  have hlim : Nat.ble (out.length + [(mk l).extract ((fr : Int)).toNat ((i : Int)).toNat].length) (lim 16) = true := blim16 (by simp; omega)
  have hw : w ((i : Int) + 1) = ((i + 1 : Nat) : Int) := w_succ (by omega)
  by_cases hlt : i < l.length
  ·have hne : ((i : Int) == (l.length : Int)) = false := by rw [bN]; omega
   have hge : (mk l).data.getD ((i : Int)).toNat 0 = l[i] := by rw [Int.toNat_natCast, mk_get, get_in hlt]
   simp only [hne, nF, nT, Bool.false_or, Bool.or_false, oT, tO, in0, in1 hlt, le1 hf, aS, Bool.and_true, cT, cF, hge]
   rw [dC hlt, spa]
   by_cases hc : l[i] = c
   ·rw [if_pos hc, hc]
    have : (((c.toNat : Nat) : Int) == ((c.toNat : Nat) : Int)) = true := by simp
    rw [this, cT, hlim, cT, hw, split_loop hl n (i + 1) (i + 1) _ (by omega) (by omega) (by simp; omega) (by omega), ex_nat]
    have e : (l.take (i + 1)).drop (i + 1) = [] := by rw [List.drop_eq_nil_iff, List.length_take]; omega
    rw [e, List.map_cons, List.append_assoc]
    rfl
   ·rw [if_neg hc]
    have : (((l[i].toNat : Nat) : Int) == ((c.toNat : Nat) : Int)) = false := by
     rw [bN]
     intro e
     exact hc (UInt8.toNat_inj.1 (by omega))
    rw [this, cF, hw, split_loop hl n (i + 1) fr out (by omega) (by omega) (by omega) (by omega), take_snoc hlt hf]
  ·have hil : i = l.length := by omega
   subst hil
   have heq : ((l.length : Int) == (l.length : Int)) = true := by simp
   simp only [heq, in0, le1 hf, aS, Bool.and_true, nT, nF, tO, oT, cT]
   rw [hlim, cT, hw, ex_nat, List.drop_length, spa]
   cases n with
   | zero => omega
   | succ n =>
    show f14_b2 KK (mk l) ((c.toNat : Nat) : Int) (fun v0 v1 v2 => f14_l2 KK (mk l) ((c.toNat : Nat) : Int) n v0 v1 v2) ((l.length + 1 : Nat) : Int) ((l.length + 1 : Nat) : Int) _ = _
    unfold f14_b2
    rw [sz_mk, show decide (((l.length + 1 : Nat) : Int) ≤ (l.length : Int)) = false by simp; omega, cF]
    rfl
theorem split_eq {c : UInt8} {l : List UInt8} (hl : l.length ≤ 1048576) : f14G KK (mk l) ((c.toNat : Nat) : Int) = some ((spa c [] l).map mk) := by
 have := split_loop (c := c) hl KK 0 0 [] (Nat.le_refl _) (Nat.zero_le _) (Nat.le_refl _) (by simp only [KK]; omega)
 unfold f14G f14_g
 exact this
theorem dig_str {n : Nat} (h : n < 10) : strOfNums [(IntKind.u8.wrap (w ((48 : Int) + (n : Int))))] = mk [UInt8.ofNat (48 + n)] := by
 rw [w_id (by omega) (by omega)]
 have e : IntKind.u8.wrap (48 + (n : Int)) = ((48 + n : Nat) : Int) := by
  rw [IntKind.wrap_u8]
  omega
 rw [e]
 rfl
theorem dec_run : ∀ (k f n : Nat), n < 10 ^ (k + 1) → k < f → k < 12 → f71R KK f (n : Int) = some (mk (Lib.decDigits n))
 | k, 0, n, _, hf, _ => by omega
 | k, f + 1, n, hn, hf, hk => by
  show f71_s KK (f71R KK f) (n : Int) = _
  unfold f71_s
  by_cases h : n < 10
  ·rw [dT (show (n : Int) < 10 by omega), cT, dig_str h, dec_one h]
  ·rw [dF (show ¬ (n : Int) < 10 by omega), cF]
   have hp : (10 : Nat) ^ (k + 1) ≤ 10 ^ 12 := Nat.pow_le_pow_right (by decide) (by omega)
   have hp2 : (10 : Nat) ^ 12 = 1000000000000 := by decide
   have e1 : (n : Int).tdiv 10 = ((n / 10 : Nat) : Int) := by rw [Int.tdiv_eq_ediv_of_nonneg (by omega)]; omega
   have e2 : (n : Int).tmod 10 = ((n % 10 : Nat) : Int) := by rw [Int.tmod_eq_emod_of_nonneg (by omega)]; omega
   rw [e1, e2, w_id (n := ((n / 10 : Nat) : Int)) (by omega) (by omega), dig_str (by omega)]
   cases k with
   | zero => omega
   | succ k =>
    have hl := dec_lt k (n / 10) (by rw [Nat.pow_succ] at hn; omega)
    rw [dec_run k f (n / 10) (by rw [Nat.pow_succ] at hn; omega) (by omega) (by omega), oB, mk_size, mk_size, show Nat.ble ((Lib.decDigits (n / 10)).length + [UInt8.ofNat (48 + n % 10)].length) 9223372036854775807 = true by rw [Nat.ble_eq]; simp only [List.length_singleton]; omega, cT, mk_app, dec_step h]
theorem ten11 : (10 : Nat) ^ (10 + 1) = 100000000000 := by decide
theorem dec_eq {n : Nat} (h : n < 100000000000) : f71G KK (n : Int) = some (mk (Lib.decDigits n)) :=
 dec_run 10 KK n (by rw [ten11]; exact h) (by simp only [KK]; omega) (by omega)
theorem isD_cmp (b : UInt8) : (bif decide (((b.toNat : Nat) : Int) < (48 : Int)) then true else decide (((b.toNat : Nat) : Int) > (57 : Int))) = !isD b := by
 unfold isD
 by_cases h1 : b.toNat < 48
 ·rw [dT (show ((b.toNat : Nat) : Int) < 48 by omega), dF (show ¬ 48 ≤ b.toNat by omega)]
  rfl
 ·rw [dF (show ¬ ((b.toNat : Nat) : Int) < 48 by omega), dT (show 48 ≤ b.toNat by omega), cF]
  by_cases h2 : b.toNat ≤ 57
  ·rw [dT h2, dF (by omega)]
   rfl
  ·rw [dF h2, dT (by omega)]
   rfl
theorem digits_loop {l : List UInt8} (hl : l.length ≤ 10) : ∀ (n i v : Nat), i ≤ l.length → v < 10 ^ i → l.length - i < n →
  f34_l2 KK (mk l) n (v : Int) (i : Int) = some (bif (l.drop i).all isD then ((((l.drop i).foldl addD v : Nat) : Int), decide (Lib.decDigits ((l.drop i).foldl addD v) = l)) else (0, false))
 | 0, i, v, _, _, hn => by omega
 | n + 1, i, v, hi, hv, hn => by
  show f34_b2 KK (mk l) (fun v0 v1 => f34_l2 KK (mk l) n v0 v1) (v : Int) (i : Int) = _
  unfold f34_b2
  rw [sz_mk]
  have hp : (10 : Nat) ^ i ≤ 10 ^ 10 := Nat.pow_le_pow_right (by decide) (by omega)
  have hp2 : (10 : Nat) ^ 10 = 10000000000 := by decide
  by_cases hlt : i < l.length
  ·have hge : (mk l).data.getD ((i : Int)).toNat 0 = l[i] := by rw [Int.toNat_natCast, mk_get, get_in hlt]
   rw [dC hlt]
   simp only [hge, in1 hlt, in0, aS, oT, tO, cT, isD_cmp]
   rw [List.all_cons, List.foldl_cons]
   cases hb : isD l[i]
   ·simp
   ·have hbb := hb
    unfold isD at hbb
    simp only [aT, dE] at hbb
    have e1 : IntKind.u8.wrap (((l[i].toNat : Nat) : Int) - 48) = ((l[i].toNat - 48 : Nat) : Int) := by
     rw [IntKind.wrap_u8]
     omega
    have e2 : w (10 * (v : Int)) = ((10 * v : Nat) : Int) := by rw [w_id (by omega) (by omega)]; omega
    have e3 : w ((l[i].toNat - 48 : Nat) : Int) = ((l[i].toNat - 48 : Nat) : Int) := w_id (by omega) (by omega)
    have e4 : w (((10 * v : Nat) : Int) + ((l[i].toNat - 48 : Nat) : Int)) = ((addD v l[i] : Nat) : Int) := by
     rw [w_id (by omega) (by omega)]
     unfold addD
     omega
    simp only [nT, cF, Bool.true_and]
    rw [e1, e2, e3, e4, w_succ (by omega), digits_loop hl n (i + 1) (addD v l[i]) (by omega) (by
     unfold addD
     rw [Nat.pow_succ]
     omega) (by omega)]
  ·have hil : i = l.length := by omega
   subst hil
   rw [out1, cF, List.drop_length, dec_eq (by omega), oB, mk_beq]
   rfl
theorem digits_eq {l : List UInt8} (hl : l.length ≤ 1048576) : ∃ n : Int, f34G KK (mk l) = some (n, (digs l).isSome) ∧ ∀ v, digs l = some v → n = (v : Int) := by
 unfold f34G f34_g
 rw [sz_mk]
 simp only [oT, tO, cT]
 by_cases h1 : l.length < 1
 ·rw [dT (show (l.length : Int) < 1 by omega)]
  refine ⟨0, ?_, fun v hv => ?_⟩
  ·unfold digs
   rw [if_neg (by omega)]
   rfl
  ·unfold digs at hv
   rw [if_neg (by omega)] at hv
   cases hv
 ·rw [dF (show ¬ (l.length : Int) < 1 by omega), cF]
  by_cases h2 : l.length ≤ 10
  ·rw [dF (show ¬ (l.length : Int) > 10 by omega), cF]
   have := digits_loop h2 KK 0 0 (Nat.zero_le _) (by decide) (by simp only [KK]; omega)
   refine ⟨if l.all isD then ((valD l : Nat) : Int) else 0, this.trans ?_, ?_⟩
   ·rw [List.drop_zero]
    unfold digs
    cases ha : l.all isD
    ·rw [cF, if_neg (by simp), if_neg (by simp)]
     rfl
    ·rw [cT, if_pos rfl]
     by_cases hd : Lib.decDigits (valD l) = l
     ·rw [if_pos ⟨by omega, h2, rfl, hd⟩]
      show some (((valD l : Nat) : Int), decide (Lib.decDigits (valD l) = l)) = _
      rw [dT hd]
      rfl
     ·rw [if_neg (fun h => hd h.2.2.2)]
      show some (((valD l : Nat) : Int), decide (Lib.decDigits (valD l) = l)) = _
      rw [dF hd]
      rfl
   ·intro v hv
    unfold digs at hv
    split at hv
    ·rename_i hh
     cases hv
     rw [if_pos hh.2.2.1]
    ·cases hv
  ·rw [dT (show (l.length : Int) > 10 by omega), cT]
   refine ⟨0, ?_, fun v hv => ?_⟩
   ·unfold digs
    rw [if_neg (by omega)]
    rfl
   ·unfold digs at hv
    rw [if_neg (by omega)] at hv
    cases hv
theorem signed_eq {l : List UInt8} (hl : l.length ≤ 1048576) : ∃ n : Int, f102G KK (mk l) = some (n, (rd l).isSome) ∧ ∀ v, rd l = some v → n = v := by
 unfold f102G
 rw [sz_mk]
 cases l with
 | nil =>
  obtain ⟨n, h1, h2⟩ := digits_eq (l := []) (by simp)
  have e : decide ((([] : List UInt8).length : Int) > 0) = false := rfl
  rw [e]
  simp only [nF, tO, oT, cT, cF, h1, oB]
  exact ⟨n, by rfl, fun v hv => by cases hv⟩
 | cons b r =>
  have e : decide (((b :: r).length : Int) > 0) = true := by simp
  have e0 : decide (0 ≤ (0 : Int)) = true := rfl
  have hg : (mk (b :: r)).data.getD 0 0 = b := by rw [mk_get]; rfl
  rw [e, hg]
  simp only [e0, aS, nT, oT, tO, cT]
  simp only [rd]
  by_cases hb : b = 45
  ·rw [if_pos hb, hb]
   have e1 : (((45 : UInt8).toNat : Int) == 45) = true := rfl
   have e2 : (decide (0 ≤ (1 : Int)) && decide ((1 : Int) ≤ (((45 : UInt8) :: r).length : Int)) && decide ((((45 : UInt8) :: r).length : Int) ≤ (((45 : UInt8) :: r).length : Int))) = true := by simp; omega
   rw [e1, cT, e2, cT, mk_ext]
   have e3 : ((((45 : UInt8) :: r).take ((((45 : UInt8) :: r).length : Int)).toNat).drop 1) = r := by
    rw [Int.toNat_natCast, List.take_length]
    rfl
   rw [e3]
   obtain ⟨n, h1, h2⟩ := digits_eq (l := r) (by simp at hl; omega)
   rw [h1, oB]
   simp only [oT, tO, cT]
   cases hd : digs r with
   | none =>
    exact ⟨_, rfl, fun v hv => by cases hv⟩
   | some v =>
    have hn := h2 v hd
    have hs := (digs_some hd).2.2
    rw [Option.isSome_some, cT, hn]
    simp only
    by_cases hv : 0 < v
    ·rw [dT (show ((v : Nat) : Int) > 0 by omega), if_pos hv]
     refine ⟨_, rfl, fun u hu => ?_⟩
     cases hu
     rw [w_id (by omega) (by omega)]
     omega
    ·rw [dF (show ¬ ((v : Nat) : Int) > 0 by omega), if_neg hv]
     exact ⟨_, rfl, fun u hu => by cases hu⟩
  ·rw [if_neg hb]
   have e1 : (((b.toNat : Nat) : Int) == 45) = false := by
    rw [bN]
    intro e
    exact hb (UInt8.toNat_inj.1 (by have : (45 : UInt8).toNat = 45 := rfl; omega))
   rw [e1, cF]
   obtain ⟨n, h1, h2⟩ := digits_eq (l := b :: r) hl
   rw [h1, oB]
   refine ⟨n, by rw [Option.isSome_map], fun v hv => ?_⟩
   obtain ⟨u, hu, rfl⟩ := Option.map_eq_some_iff.1 hv
   exact h2 u hu
def rds : List (List UInt8) → Option (List Int)
 | [] => some []
 | x :: r => match rd x, rds r with
  | some v, some vs => some (v :: vs)
  | _, _ => none
def rdR (ws : List (List UInt8)) (out : List Int) : List Int × Bool := match rds ws with
 | some vs => (out ++ vs, true)
 | none => ([], false)
theorem rdR_cons {x : List UInt8} {r : List (List UInt8)} {out : List Int} : rdR (x :: r) out = match rd x with
  | some v => rdR r (out ++ [v])
  | none => ([], false) := by
 unfold rdR
 rw [rds]
 cases rd x with
 | none => rfl
 | some v =>
  cases rds r with
  | none => rfl
  | some vs => simp
theorem rds_len : ∀ {ws : List (List UInt8)} {vs : List Int}, rds ws = some vs → vs.length = ws.length
 | [], vs, h => by cases h; rfl
 | x :: r, vs, h => by
  rw [rds] at h
  split at h
  ·rename_i v us h1 h2
   cases h
   simp [rds_len h2]
  ·cases h
theorem gd_map {ws : List (List UInt8)} {q : Nat} (h : q < ws.length) : (ws.map mk).getD ((0 : Int) + (q : Int)).toNat ByteArray.empty = mk ws[q] := by
 rw [gd (by rw [List.length_map]; exact h), List.getElem_map]
theorem len_map (ws : List (List UInt8)) : ((ws.map mk).length : Int) = (ws.length : Int) := by rw [List.length_map]
theorem numbers_loop {ws : List (List UInt8)} (hw : ∀ x ∈ ws, x.length ≤ 1048576) (hn : ws.length ≤ 1048577) : ∀ (n i : Nat) (out : List Int), i ≤ ws.length → out.length = i → ws.length - i < n →
  f63_l3 KK (ws.map mk) n (i : Int) out = some (rdR (ws.drop i) out)
 | 0, i, out, _, _, h => by omega
 | n + 1, i, out, hi, ho, h => by
  show f63_b3 KK (ws.map mk) (fun v0 v1 => f63_l3 KK (ws.map mk) n v0 v1) (i : Int) out = _
  unfold f63_b3
  rw [len_map]
  by_cases hlt : i < ws.length
  ·obtain ⟨v, h1, h2⟩ := signed_eq (hw _ (gM hlt))
   rw [in1 hlt, in0, gd_map hlt, h1]
   simp only [aS, cT, oB]
   rw [dC hlt, rdR_cons]
   cases hr : rd ws[i] with
   | none => rfl
   | some u =>
    rw [h2 u hr, Option.isSome_some]
    simp only [nT, cF]
    rw [blim8 (by simp; omega), cT, w_succ (by omega), numbers_loop hw hn n (i + 1) (out ++ [u]) (by omega) (by simp; omega) (by omega)]
  ·have : i = ws.length := by omega
   subst this
   rw [out1, cF, List.drop_length]
   simp [rdR, rds]
theorem numbers_eq {ws : List (List UInt8)} (hw : ∀ x ∈ ws, x.length ≤ 1048576) (hn : ws.length ≤ 1048577) : f63G KK (ws.map mk) = some (rdR ws []) := by
 have := numbers_loop hw hn KK 0 [] (Nat.zero_le _) rfl (by simp only [KK]; omega)
 unfold f63G f63_g
 exact this
end Go.Proofs.YtphhbdjjfacpiaaGreatDoor.X
