/- The plain law of PrintProgram: both sides write the frame, the lattice, and a line for each cell with a colour. -/
import Derived.Test.YtnbghfbpidalhaaDoorME
import Derived.Test.YtnbghfbpidalhaaDoorXRow
namespace Go.Proofs.YtnbghfbpidalhaaDoor.X
open Go
set_option linter.unusedSimpArgs false
set_option linter.unusedVariables false
def mk (l : List UInt8) : ByteArray := ⟨l.toArray⟩
theorem mk_app (a b : List UInt8) : mk a ++ mk b = mk (a ++ b) := by
  unfold mk
  apply ByteArray.ext
  simp
theorem mk_size (a : List UInt8) : (mk a).size = a.length := by
  unfold mk ByteArray.size
  simp
theorem mk_list (a : List UInt8) : (mk a).data.toList = a := by
  unfold mk
  simp
theorem mk_data (b : ByteArray) : mk b.data.toList = b := by
  unfold mk
  apply ByteArray.ext
  simp
theorem ba_eq (a : ByteArray) : (a != a) = false := by
  unfold bne
  rw [beq_toListBytes]
  simp
theorem okSize {n : Nat} (h : n ≤ 1000000) : Nat.ble n 9223372036854775807 = true := by
  rw [Nat.ble_eq]; omega
/-! ### numbers -/
theorem decF_len (n : Nat) : (decF n).length ≤ 2 := by
  unfold decF
  cases Nat.blt n 10 <;> simp
theorem fmt_eq {n : Nat} (h : n < 100) : f33G KK (n : Int) = some (mk (decF n)) := by
  unfold f33G f48G fmtF
  rw [decide_eq_true (show (0 : Int) ≤ (n : Int) by omega), decide_eq_true (show (n : Int) < 100 by omega)]
  rfl
noncomputable def decK (n : Nat) : Bool := match f26G KK (n : Int) with | some b => b.data.toList == decF n | none => false
theorem dec_all : ((List.range 100).all decK) = true := by kernel_rfl
theorem dec_eq {n : Nat} (h : n < 100) : f26G KK (n : Int) = some (mk (decF n)) := by
  have h1 := List.all_eq_true.1 dec_all n (List.mem_range.2 h)
  unfold decK at h1
  split at h1
  · rename_i b hb
    have e := beq_iff_eq.1 h1
    rw [hb, ← e, mk_data]
  · cases h1
theorem num_eq {n : Nat} (h : n < 100) : f40G KK (n : Int) = some (mk (decF n)) := by
  unfold f40G
  rw [decide_eq_false (show ¬ (n : Int) < 0 by omega), cond_false, dec_eq h, Option.bind_some]
/-! ### vectors and lattices -/
def vecL (v : Vc) : List UInt8 := decF v.1.toNat ++ [44] ++ decF v.2.toNat
def latL (l : Lt) : List UInt8 := decF l.1.toNat ++ [44] ++ decF l.2.1.toNat ++ [44] ++ decF l.2.2.toNat
theorem vecL_len (v : Vc) : (vecL v).length ≤ 5 := by
  have := decF_len v.1.toNat
  have := decF_len v.2.toNat
  simp only [vecL, List.length_append, List.length_singleton]
  omega
theorem latL_len (l : Lt) : (latL l).length ≤ 8 := by
  have := decF_len l.1.toNat
  have := decF_len l.2.1.toNat
  have := decF_len l.2.2.toNat
  simp only [latL, List.length_append, List.length_singleton]
  omega
theorem bs_c : bs [44] = mk [44] := rfl
/-- numbers of a vector of a pattern -/
def smallV (v : Vc) : Prop := (0 ≤ v.1 ∧ v.1 < 100) ∧ 0 ≤ v.2 ∧ v.2 < 100
theorem small_vecB {v : Vc} (h : smallV v) : vecB v = true := by
  obtain ⟨a, b⟩ := h
  exact vecB_iff.2 ⟨by omega, by omega⟩
theorem nat_of {n : Int} (h : 0 ≤ n) : ((n.toNat : Nat) : Int) = n := Int.toNat_of_nonneg h
theorem specVT_eq {v : Vc} (h : smallV v) : f25G KK v = some (mk (vecL v)) := by
  unfold f25G
  rw [specIsVec_eq, small_vecB h, Option.bind_some]
  simp only [Bool.not_true, cond_false]
  have e1 := num_eq (n := v.1.toNat) (by have := h.1; omega)
  have e2 := num_eq (n := v.2.toNat) (by have := h.2; omega)
  rw [nat_of h.1.1] at e1
  rw [nat_of h.2.1] at e2
  have l1 := decF_len v.1.toNat
  have l2 := decF_len v.2.toNat
  rw [e1, Option.bind_some, bs_c, mk_size, mk_size, okSize (by simp; omega), cond_true, e2, Option.bind_some, mk_app, mk_size, mk_size, okSize (by simp; omega), cond_true, mk_app]
  rfl
theorem joined_loop {sep : ByteArray} {ns : List Nat} (h : ∀ n ∈ ns, n < 100) (hl : ns.length ≤ 100) : ∀ (k q : Nat) (s : List ByteArray), s.length = q → q ≤ ns.length → ns.length - q < k →
    f47_l3 KK sep (ns.map fun (n : Nat) => (n : Int)) k (q : Int) s = joinF (s ++ (ns.drop q).map fun (n : Nat) => mk (decF n)) sep
  | 0, q, _, _, _, hk => by omega
  | k + 1, q, s, hs, hq, hk => by
    show f47_b3 KK sep (ns.map fun (n : Nat) => (n : Int)) (fun v0 v1 => f47_l3 KK sep (ns.map fun (n : Nat) => (n : Int)) k v0 v1) (q : Int) s = _
    unfold f47_b3
    by_cases hlt : q < ns.length
    · have hlt' : q < (ns.map fun (n : Nat) => (n : Int)).length := by rw [List.length_map]; exact hlt
      rw [in1 hlt', in0, gd hlt', List.getElem_map]
      simp only [Bool.and_self, cond_true]
      rw [fmt_eq (h _ (List.getElem_mem hlt)), Option.bind_some, blim16 (by simp; omega), cond_true, w_succ (by omega), joined_loop h hl k (q + 1) _ (by simp; omega) (by omega) (by omega), List.drop_eq_getElem_cons hlt, List.map_cons, List.append_assoc]
      rfl
    · have : q = ns.length := by omega
      subst this
      rw [show (ns.length : Int) = ((ns.map fun (n : Nat) => (n : Int)).length : Int) by rw [List.length_map], out1, cond_false, List.drop_length, List.map_nil, List.append_nil]
      unfold f52G
      cases joinF s sep <;> rfl
theorem joined_eq {sep : ByteArray} {ns : List Nat} (h : ∀ n ∈ ns, n < 100) (hl : ns.length ≤ 100) : f47G KK sep (ns.map fun (n : Nat) => (n : Int)) = joinF (ns.map fun (n : Nat) => mk (decF n)) sep := by
  have := joined_loop (sep := sep) h hl KK 0 [] rfl (by omega) (by simp only [KK]; omega)
  have z : ((0 : Nat) : Int) = 0 := rfl
  rw [z, List.drop_zero, List.nil_append] at this
  unfold f47G f47_g
  exact this
theorem join_two (a b : List UInt8) (ha : a.length ≤ 10) (hb : b.length ≤ 10) : joinF [mk a, mk b] (mk [44]) = some (mk (a ++ [44] ++ b)) := by
  have e : Lib.join ([mk a, mk b].map (·.data.toList)) (mk [44]).data.toList = a ++ [44] ++ b := by
    simp [Lib.join, List.intercalate, mk]
  have g : Nat.ble (a ++ [44] ++ b).length 1000000 = true := by rw [Nat.ble_eq]; simp only [List.length_append, List.length_cons, List.length_nil]; omega
  unfold joinF joinB
  rw [e, g]
  rfl
theorem join_three (a b c : List UInt8) (ha : a.length ≤ 10) (hb : b.length ≤ 10) (hc : c.length ≤ 10) : joinF [mk a, mk b, mk c] (mk [44]) = some (mk (a ++ [44] ++ b ++ [44] ++ c)) := by
  have e : Lib.join ([mk a, mk b, mk c].map (·.data.toList)) (mk [44]).data.toList = a ++ [44] ++ b ++ [44] ++ c := by
    simp [Lib.join, List.intercalate, mk]
  have g : Nat.ble (a ++ [44] ++ b ++ [44] ++ c).length 1000000 = true := by rw [Nat.ble_eq]; simp only [List.length_append, List.length_cons, List.length_nil]; omega
  unfold joinF joinB
  rw [e, g]
  rfl
theorem implVT_eq {v : Vc} (h : smallV v) : f32G KK v = some (mk (vecL v)) := by
  unfold f32G
  rw [isVec_eq, small_vecB h, Option.bind_some]
  simp only [Bool.not_true, cond_false]
  have e := joined_eq (sep := bs [44]) (ns := [v.1.toNat, v.2.toNat]) (fun n hn => by
    obtain ⟨a, b⟩ := h
    simp only [List.mem_cons, List.not_mem_nil, or_false] at hn
    omega) (by simp)
  simp only [List.map_cons, List.map_nil] at e
  rw [nat_of h.1.1, nat_of h.2.1] at e
  have l1 := decF_len v.1.toNat
  have l2 := decF_len v.2.toNat
  rw [e, bs_c, join_two _ _ (by omega) (by omega)]
  rfl
theorem lat_small {l : Lt} (hl : IsL l) : (0 ≤ l.1 ∧ l.1 < 100) ∧ (0 ≤ l.2.1 ∧ l.2.1 < 100) ∧ 0 ≤ l.2.2 ∧ l.2.2 < 100 := by
  obtain ⟨a1, a2, c1, c2, b1, b2, ix⟩ := hl
  omega
theorem implLT_eq {l : Lt} (hl : IsL l) : f34G KK l = some (mk (latL l)) := by
  unfold f34G
  rw [isLattice_eq, okL_iff.2 hl, Option.bind_some]
  simp only [Bool.not_true, cond_false]
  have hs := lat_small hl
  have e := joined_eq (sep := bs [44]) (ns := [l.1.toNat, l.2.1.toNat, l.2.2.toNat]) (fun n hn => by
    simp only [List.mem_cons, List.not_mem_nil, or_false] at hn
    omega) (by simp)
  simp only [List.map_cons, List.map_nil] at e
  rw [nat_of hs.1.1, nat_of hs.2.1.1, nat_of hs.2.2.1] at e
  have l1 := decF_len l.1.toNat
  have l2 := decF_len l.2.1.toNat
  have l3 := decF_len l.2.2.toNat
  rw [e, bs_c, join_three _ _ _ (by omega) (by omega) (by omega)]
  rfl
theorem mk_nil : ByteArray.empty = mk [] := rfl
def sepF : Nat → List UInt8
  | 0 => []
  | _ + 1 => [44]
theorem sepF_len (q : Nat) : (sepF q).length ≤ 1 := by
  cases q <;> simp [sepF]
theorem sjoin_three {a b c : Nat} (ha : a < 100) (hb : b < 100) (hc : c < 100) : f38G KK [(a : Int), (b : Int), (c : Int)] (bs [44]) = some (mk (decF a ++ [44] ++ decF b ++ [44] ++ decF c)) := by
  have l1 := decF_len a
  have l2 := decF_len b
  have l3 := decF_len c
  have step : ∀ (L : ByteArray → Int → Option ByteArray) (q : Nat) (s : List UInt8) (n : Nat), q < 3 → n < 100 → s.length ≤ 100 → ([(a : Int), (b : Int), (c : Int)].getD ((0 : Int) + (q : Int)).toNat (0 : Int)) = (n : Int) →
      f38_b3 KK [(a : Int), (b : Int), (c : Int)] (bs [44]) L (mk s) (q : Int) = L (mk (s ++ sepF q ++ decF n)) ((q + 1 : Nat) : Int) := fun L q s n hq hn hs he => by
    have ln := decF_len n
    unfold f38_b3
    rw [in1 (show q < ([(a : Int), (b : Int), (c : Int)]).length from hq), in0, he, num_eq hn, w_succ (by omega), bs_c]
    cases q with
    | zero =>
      rw [decide_eq_false (show ¬ ((0 : Nat) : Int) > 0 by omega)]
      simp only [cond_false, Bool.and_self, cond_true, Option.bind_some]
      rw [mk_size, mk_size, okSize (by omega), cond_true, mk_app]
      show _ = L (mk (s ++ [] ++ decF n)) _
      rw [List.append_nil]
    | succ q =>
      rw [decide_eq_true (show ((q + 1 : Nat) : Int) > 0 by omega)]
      simp only [Bool.and_self, cond_true, Option.bind_some]
      rw [mk_size, mk_size, okSize (by simp; omega), cond_true, mk_app, mk_size, mk_size, okSize (by simp; omega), cond_true, mk_app]
      rfl
  have un : ∀ (n : Nat) (s : ByteArray) (q : Int), f38_l3 KK [(a : Int), (b : Int), (c : Int)] (bs [44]) (n + 1) s q = f38_b3 KK [(a : Int), (b : Int), (c : Int)] (bs [44]) (fun v0 v1 => f38_l3 KK [(a : Int), (b : Int), (c : Int)] (bs [44]) n v0 v1) s q := fun n s q => rfl
  have main : ∀ n, f38_l3 KK [(a : Int), (b : Int), (c : Int)] (bs [44]) (n + 4) (mk []) ((0 : Nat) : Int) = some (mk (decF a ++ [44] ++ decF b ++ [44] ++ decF c)) := fun n => by
    rw [un, step _ 0 [] a (by omega) ha (by simp) rfl, un, step _ 1 _ b (by omega) hb (by simp only [List.length_append, List.length_nil, sepF]; omega) rfl, un, step _ 2 _ c (by omega) hc (by simp only [List.length_append, List.length_nil, List.length_cons, sepF]; omega) rfl, un]
    unfold f38_b3
    rw [show decide (((2 + 1 : Nat) : Int) < (([(a : Int), (b : Int), (c : Int)]).length : Int)) = false by simp, cond_false]
    rfl
  have hK : KK = 2097148 + 4 := rfl
  unfold f38G f38_g
  have := main 2097148
  rw [← hK] at this
  exact this
theorem specLT_eq {l : Lt} (hl : IsL l) : f24G KK l = some (mk (latL l)) := by
  unfold f24G
  rw [specIsLattice_eq, okL_iff.2 hl, Option.bind_some]
  simp only [Bool.not_true, cond_false]
  have hs := lat_small hl
  have e := sjoin_three (a := l.1.toNat) (b := l.2.1.toNat) (c := l.2.2.toNat) (by omega) (by omega) (by omega)
  rw [nat_of hs.1.1, nat_of hs.2.1.1, nat_of hs.2.2.1] at e
  rw [e, Option.bind_some]
  rfl
/-! ### the head and the marks -/
def frL (f : Int) : List UInt8 := bif f == 0 then [83] else [72]
def headL (f : Int) (l : Lt) : List UInt8 := [102, 114, 97, 109, 101, 32] ++ frL f ++ [10, 108, 97, 116, 116, 105, 99, 101, 32] ++ latL l ++ [10]
theorem fr_ok {f : Int} (h : okF f = true) : (decide (0 ≤ f) && decide (f ≤ (w (f + (1 : Int)))) && decide ((w (f + (1 : Int))) ≤ ((bs [83, 72]).size : Int))) = true ∧ (bs [83, 72]).extract f.toNat (w (f + (1 : Int))).toNat = mk (frL f) := by
  have hf' : 0 ≤ f ∧ f ≤ 1 := by simpa [okF] using h
  have : f = 0 ∨ f = 1 := by omega
  rcases this with rfl | rfl
  · exact ⟨by decide +kernel, by decide +kernel⟩
  · exact ⟨by decide +kernel, by decide +kernel⟩
theorem bs_frame : bs [102, 114, 97, 109, 101, 32] = mk [102, 114, 97, 109, 101, 32] := rfl
theorem bs_lat : bs [10, 108, 97, 116, 116, 105, 99, 101, 32] = mk [10, 108, 97, 116, 116, 105, 99, 101, 32] := rfl
theorem bs_nl : bs [10] = mk [10] := rfl
theorem bs_mark : bs [109, 97, 114, 107, 32] = mk [109, 97, 114, 107, 32] := rfl
theorem bs_sp : bs [32] = mk [32] := rfl
theorem frL_len (f : Int) : (frL f).length = 1 := by
  unfold frL
  cases f == 0 <;> rfl
theorem headL_len (f : Int) (l : Lt) : (headL f l).length ≤ 100 := by
  have := frL_len f
  have := latL_len l
  simp only [headL, List.length_append, List.length_cons, List.length_nil]
  omega
theorem specHead_eq {p : Pt} (hf : okF p.1 = true) (hl : IsL p.2.1) : f12G KK p = some (mk (headL p.1 p.2.1)) := by
  obtain ⟨e1, e2⟩ := fr_ok hf
  have h1 := frL_len p.1
  have h2 := latL_len p.2.1
  unfold f12G
  rw [e1, e2, cond_true, bs_frame, bs_lat, bs_nl, mk_app, mk_app, specLT_eq hl, Option.bind_some, mk_app, mk_app]
  simp only [mk_size, List.length_append, List.length_cons, List.length_nil]
  rw [okSize (by omega), okSize (by omega), okSize (by omega), okSize (by omega)]
  rfl
theorem implHead_eq {p : Pt} (hf : okF p.1 = true) (hl : IsL p.2.1) : f19G KK p = some (mk (headL p.1 p.2.1)) := by
  obtain ⟨e1, e2⟩ := fr_ok hf
  have h1 := frL_len p.1
  have h2 := latL_len p.2.1
  unfold f19G
  rw [e1, e2, cond_true, bs_frame, bs_lat, bs_nl, mk_app, mk_app, implLT_eq hl, Option.bind_some, mk_app, mk_app]
  simp only [mk_size, List.length_append, List.length_cons, List.length_nil]
  rw [okSize (by omega), okSize (by omega), okSize (by omega), okSize (by omega)]
  rfl
def markL (v : Vc) (c : Int) : List UInt8 := [109, 97, 114, 107, 32] ++ vecL v ++ [32] ++ decF c.toNat ++ [10]
theorem markL_len (v : Vc) (c : Int) : (markL v c).length ≤ 20 := by
  have := vecL_len v
  have := decF_len c.toNat
  simp only [markL, List.length_append, List.length_cons, List.length_nil]
  omega
theorem specMark_eq {v : Vc} (h : smallV v) {c : Int} (h1 : 0 ≤ c) (h2 : c ≤ 9) : f13G KK v c = some (mk (markL v c)) := by
  have e := dec_eq (n := c.toNat) (by omega)
  rw [nat_of h1] at e
  have l1 := vecL_len v
  have l2 := decF_len c.toNat
  unfold f13G
  rw [specVT_eq h, Option.bind_some, bs_mark, bs_sp, bs_nl, mk_app, mk_app, e, Option.bind_some, mk_app, mk_app]
  simp only [mk_size, List.length_append, List.length_cons, List.length_nil]
  rw [okSize (by omega), okSize (by omega), okSize (by omega), okSize (by omega)]
  rfl
/-- a text and how many lines -/
def stpP (p : Pt) (s : List UInt8 × Nat) (v : Vc) : List UInt8 × Nat := bif atS p v == 0 then s else (s.1 ++ markL v (atS p v), s.2 + 1)
theorem stpP_pre (p : Pt) (H : List UInt8) : ∀ (C : List Vc) (s : List UInt8 × Nat), C.foldl (stpP p) (H ++ s.1, s.2) = (H ++ (C.foldl (stpP p) s).1, (C.foldl (stpP p) s).2)
  | [], _ => rfl
  | v :: C, s => by
    rw [List.foldl_cons, List.foldl_cons]
    have e : stpP p (H ++ s.1, s.2) v = (H ++ (stpP p s v).1, (stpP p s v).2) := by
      unfold stpP
      cases atS p v == 0
      · simp
      · rfl
    rw [e, stpP_pre p H C]
theorem cell_small {l : Lt} (hl : IsL l) {v : Vc} (h : v ∈ cellsS l) : smallV v := by
  have h1 := mem_cellsS h
  have := lat_small hl
  exact ⟨by omega, by omega⟩
theorem okC_in {c : Int} (h : okC c = true) : 0 ≤ c ∧ c ≤ 9 := by
  unfold okC at h
  exact of_decide_eq_true h
theorem atC {p : Pt} (h : okP p = true) (v : Vc) : 0 ≤ atS p v ∧ atS p v ≤ 9 := by
  refine okC_in ?_
  unfold okP at h
  simp only [Bool.and_eq_true] at h
  have ha := List.all_eq_true.1 h.2
  unfold atS
  rw [List.getD_eq_getElem?_getD]
  cases he : p.2.2[numS p.2.1 v]? with
  | none => rfl
  | some x => exact ha x (List.mem_of_getElem? he)
theorem col_len {p : Pt} (h : okP p = true) : p.2.2.length = (cellsS p.2.1).length := by
  unfold okP at h
  simp only [Bool.and_eq_true, decide_eq_true_eq] at h
  have e := h.1.2
  have hl := okL_iff.1 h.1.1.2
  rw [cellsS_len hl]
  have := hl.a1
  have := hl.c1
  have e2 : ((p.2.1.1.toNat * p.2.1.2.2.toNat : Nat) : Int) = p.2.1.1 * p.2.1.2.2 := by rw [Int.natCast_mul, Int.toNat_of_nonneg (by omega), Int.toNat_of_nonneg (by omega)]
  omega
theorem col_at {p : Pt} (h : okP p = true) {q : Nat} (hq : q < (cellsS p.2.1).length) : p.2.2.getD ((0 : Int) + (q : Int)).toNat (0 : Int) = atS p (cellsS p.2.1)[q] := by
  have hl := (okP_P h).l
  have e : ((0 : Int) + (q : Int)).toNat = q := by omega
  unfold atS
  rw [cellsS_num hl hq, e]
def endT (T : List UInt8 × Nat) : ByteArray × Int := bif decide (40 < T.2) then (ByteArray.empty, 3) else (mk T.1, 0)
theorem g40 (n : Nat) : decide ((n : Int) > (40 : Int)) = decide (40 < n) := by
  rw [decide_eq_decide]; omega
theorem stp_bd {p : Pt} {v : Vc} {s : List UInt8 × Nat} : (stpP p s v).1.length ≤ s.1.length + 20 ∧ (stpP p s v).2 ≤ s.2 + 1 := by
  unfold stpP
  have := markL_len v (atS p v)
  cases atS p v == 0
  · simp only [cond_false, List.length_append]; omega
  · simp only [cond_true]; omega
theorem sprint_loop {p : Pt} (h : okP p = true) {y1 : Bool} {s0 : List UInt8 × Nat} (hs0 : s0.1.length ≤ 100 ∧ s0.2 = 0) :
    f5_l6 KK p y1 (cellsS p.2.1) KK (mk s0.1) ((s0.2 : Nat) : Int) ((0 : Nat) : Int) = some (endT ((cellsS p.2.1).foldl (stpP p) s0)) := by
  have hl := (okP_P h).l
  have hN := cellsS_le hl
  have hc := col_len h
  have hh := iter_fold (R := ByteArray × Int) (body := fun L x => f5_b6 KK p y1 (cellsS p.2.1) (fun v0 v1 v2 => L (v0, v1, v2)) x.1 x.2.1 x.2.2) (cellsS p.2.1) (fun q (s : List UInt8 × Nat) => (mk s.1, ((s.2 : Nat) : Int), (q : Int))) (stpP p) (fun s => some (endT s)) (fun q s => s.1.length ≤ 100 + 20 * q ∧ s.2 ≤ q)
    (fun L q s hq hi => by
      have hb := stp_bd (p := p) (v := (cellsS p.2.1)[q]) (s := s)
      refine ⟨by omega, ?_⟩
      show f5_b6 KK p y1 (cellsS p.2.1) (fun v0 v1 v2 => L (v0, v1, v2)) (mk s.1) ((s.2 : Nat) : Int) (q : Int) = _
      unfold f5_b6
      have ha := atC h (cellsS p.2.1)[q]
      have hm := markL_len (cellsS p.2.1)[q] (atS p (cellsS p.2.1)[q])
      rw [in1 hq, in0, in1 (show q < p.2.2.length by omega), col_at h hq, gd hq, specMark_eq (cell_small hl (List.getElem_mem hq)) ha.1 ha.2, w_succ (by omega), w_succ (by omega)]
      simp only [Bool.and_self, cond_true, Option.bind_some]
      rw [mk_size, mk_size, okSize (by omega), mk_app]
      unfold stpP
      have e3 : decide (atS p (cellsS p.2.1)[q] > (0 : Int)) = !(atS p (cellsS p.2.1)[q] == 0) := by
        rw [Bool.eq_iff_iff, decide_eq_true_eq, Bool.not_eq_true', beq_eq_false_iff_ne]
        omega
      rw [e3]
      cases atS p (cellsS p.2.1)[q] == 0 <;> rfl)
    (fun L s hi => by
      show f5_b6 KK p y1 (cellsS p.2.1) (fun v0 v1 v2 => L (v0, v1, v2)) (mk s.1) ((s.2 : Nat) : Int) ((cellsS p.2.1).length : Int) = _
      unfold f5_b6 endT
      rw [out1, cond_false, g40]
      cases decide (40 < s.2) <;> rfl) KK 0 s0 (by omega) (by simp only [KK]; omega) (by omega)
  rw [List.drop_zero] at hh
  exact hh
theorem imark_loop {p : Pt} (h : okP p = true) : f17_l5 KK p (cellsS p.2.1) KK (mk []) ((0 : Nat) : Int) ((0 : Nat) : Int) = some (endT ((cellsS p.2.1).foldl (stpP p) ([], 0))) := by
  have hp := okP_P h
  have hl := hp.l
  have hN := cellsS_le hl
  have hh := iter_fold (R := ByteArray × Int) (body := fun L x => f17_b5 KK p (cellsS p.2.1) (fun v0 v1 v2 => L (v0, v1, v2)) x.1 x.2.1 x.2.2) (cellsS p.2.1) (fun q (s : List UInt8 × Nat) => (mk s.1, ((s.2 : Nat) : Int), (q : Int))) (stpP p) (fun s => some (endT s)) (fun q s => s.1.length ≤ 100 + 20 * q ∧ s.2 ≤ q)
    (fun L q s hq hi => by
      have hb := stp_bd (p := p) (v := (cellsS p.2.1)[q]) (s := s)
      refine ⟨by omega, ?_⟩
      show f17_b5 KK p (cellsS p.2.1) (fun v0 v1 v2 => L (v0, v1, v2)) (mk s.1) ((s.2 : Nat) : Int) (q : Int) = _
      unfold f17_b5
      have ha := atC h (cellsS p.2.1)[q]
      have hsm := cell_small hl (List.getElem_mem hq)
      have hv := vecL_len (cellsS p.2.1)[q]
      have hd := decF_len (atS p (cellsS p.2.1)[q]).toNat
      have e := fmt_eq (n := (atS p (cellsS p.2.1)[q]).toNat) (by omega)
      rw [nat_of ha.1] at e
      rw [in1 hq, in0, gd hq, at_eq hp (v := (cellsS p.2.1)[q]) (by unfold Sm; obtain ⟨a, b⟩ := hsm; omega), implVT_eq hsm, w_succ (by omega), w_succ (by omega)]
      simp only [Bool.and_self, cond_true, Option.bind_some]
      rw [bs_mark, bs_sp, bs_nl, mk_app, mk_app, e, Option.bind_some, mk_app, mk_app, mk_app]
      simp only [mk_size, List.length_append, List.length_cons, List.length_nil]
      rw [okSize (by omega), okSize (by omega), okSize (by omega), okSize (by omega), okSize (by omega)]
      unfold stpP bne
      cases atS p (cellsS p.2.1)[q] == 0 <;> rfl)
    (fun L s hi => by
      show f17_b5 KK p (cellsS p.2.1) (fun v0 v1 v2 => L (v0, v1, v2)) (mk s.1) ((s.2 : Nat) : Int) ((cellsS p.2.1).length : Int) = _
      unfold f17_b5 endT
      rw [out1, cond_false, g40]
      cases decide (40 < s.2) <;> rfl) KK 0 ([], 0) (by omega) (by simp only [KK]; omega) (by simp)
  rw [List.drop_zero] at hh
  exact hh
theorem fold_len (p : Pt) : ∀ (C : List Vc) (s : List UInt8 × Nat), (C.foldl (stpP p) s).1.length ≤ s.1.length + 20 * C.length
  | [], s => by simp
  | v :: C, s => by
    have h1 := (stp_bd (p := p) (v := v) (s := s)).1
    have h2 := fold_len p C (stpP p s v)
    rw [List.foldl_cons, List.length_cons]
    omega
def resPP (p : Pt) : ByteArray × Int := bif okP p then endT ((cellsS p.2.1).foldl (stpP p) (headL p.1 p.2.1, 0)) else (ByteArray.empty, 1)
theorem specPP_eq (p : Pt) : f5G KK p = some (resPP p) := by
  unfold f5G f5_g resPP
  rw [specIsPattern_eq, Option.bind_some]
  cases h : okP p
  · rfl
  · have hp := okP_P h
    have hf : okF p.1 = true := by
      unfold okP at h
      simp only [Bool.and_eq_true] at h
      exact h.1.1.1
    simp only [Bool.not_true, cond_false, cond_true]
    rw [l03Cells_eq hp.l, Option.bind_some, specHead_eq hf hp.l, Option.bind_some]
    have := sprint_loop h (y1 := true) (s0 := (headL p.1 p.2.1, 0)) ⟨headL_len _ _, rfl⟩
    exact this
theorem implPP_eq (p : Pt) : f7G KK p = some (resPP p) := by
  unfold f7G resPP
  rw [isPattern_eq, Option.bind_some]
  cases h : okP p
  · rfl
  · have hp := okP_P h
    have hf : okF p.1 = true := by
      unfold okP at h
      simp only [Bool.and_eq_true] at h
      exact h.1.1.1
    have hm : f17G KK p (cellsS p.2.1) = some (endT ((cellsS p.2.1).foldl (stpP p) ([], 0))) := by
      unfold f17G f17_g
      exact imark_loop h
    have hN := cellsS_le hp.l
    have hfl := fold_len p (cellsS p.2.1) ([], 0)
    have hhl := headL_len p.1 p.2.1
    have hpre := stpP_pre p (headL p.1 p.2.1) (cellsS p.2.1) ([], 0)
    rw [List.append_nil] at hpre
    simp only [Bool.not_true, cond_false, cond_true]
    rw [cells_eq hp.l, Option.bind_some, hm, Option.bind_some, hpre]
    unfold endT
    simp only
    cases hk : decide (40 < ((cellsS p.2.1).foldl (stpP p) ([], 0)).2)
    · simp only [cond_false, bne_self_eq_false]
      simp only [List.length_nil] at hfl
      rw [implHead_eq hf hp.l, Option.bind_some, mk_size, mk_size, okSize (by omega), cond_true, mk_app]
    · rfl
theorem FnExactPrintProgram_pure (a0 : Int × (Int × Int × Int) × List Int) (h : WfA [(.cons (.int .i64) (.cons (.cons (.int .i64) (.cons (.int .i64) (.int .i64))) (.list 2 (.int .i64))))] (a0, ())) : ∃ K, f3G K a0 = some true := by
  refine ⟨KK, ?_⟩
  have hm : a0.2.2.length ≤ maxLen := by
    simp only [WfA, Wf] at h
    exact h.1.2.2.1
  unfold f3G
  by_cases hb : a0.2.2.length ≤ 1048576
  · obtain ⟨y, hy, hy0⟩ := szPattern_eq hb
    rw [hy, Option.bind_some, decide_eq_false (by omega), cond_false, toPattern_eq hb]
    simp only [Option.bind_some]
    rw [specPP_eq, implPP_eq]
    simp only [Option.bind_some]
    rw [ba_eq]
    simp only [bne_self_eq_false, Bool.not_false, Bool.not_true, Bool.or_true, cond_true, cond_false]
    rw [eqPattern_eq hb, Option.bind_some]
    rfl
  · by_cases hm2 : a0.2.2.length ≤ 4611686018427387904
    · rw [szPattern_big (by omega) hm2, Option.bind_some]
      rfl
    · have : w (1048576 - (a0.2.2.length : Int)) = 1048576 - (a0.2.2.length : Int) := by
        simp only [maxLen] at hm
        exact w_id (by omega) (by omega)
      unfold f4G f9G
      rw [this, decide_eq_true (by omega), cond_true, Option.bind_some]
      rfl
end Go.Proofs.YtnbghfbpidalhaaDoor.X
