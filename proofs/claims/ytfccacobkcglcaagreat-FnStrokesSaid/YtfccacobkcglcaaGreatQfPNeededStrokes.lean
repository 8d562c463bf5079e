/- The plain law of NeededStrokes: both sides keep the last stroke of each orbit. -/
import Derived.Test.YtfccacobkcglcaaGreatQfNT
namespace Go.Proofs.YtfccacobkcglcaaGreat.X
open Go
set_option linter.unusedSimpArgs false
set_option linter.unusedVariables false
def hasN (l : Lt) (ns : List Int) (x : Ma) (ms : List Ma) : Bool := ms.any fun y => nmS l ns y == nmS l ns x
def needS (l : Lt) (ns : List Int) : List Ma → List Ma
 | [] => []
 | x :: ms => bif hasN l ns x ms then needS l ns ms else x :: needS l ns ms
theorem needS_len (l : Lt) (ns : List Int) : ∀ ms : List Ma, (needS l ns ms).length ≤ ms.length
 | [] => by simp [needS]
 | x :: ms => by
  have := needS_len l ns ms
  unfold needS
  cases hasN l ns x ms <;> simp <;> omega
theorem needS_mem {l : Lt} {ns : List Int} : ∀ {ms : List Ma} {x : Ma}, x ∈ needS l ns ms → x ∈ ms
 | [], _, h => h
 | y :: ms, x, h => by
  unfold needS at h
  cases hb : hasN l ns y ms
  ·rw [hb, cond_false] at h
   rcases List.mem_cons.1 h with rfl | h
   ·simp
   ·exact List.mem_cons_of_mem _ (needS_mem h)
  ·rw [hb, cond_true] at h
   exact List.mem_cons_of_mem _ (needS_mem h)
theorem sneed_in {a : ByteArray} {n : Int} {y2 : Bool} {ms : List Ma} {f : Int} {l : Lt} {g : List Mo} {e0 : Int} (h : OrbG f l g) (hm : cellsB l ms) (hn : ms.length ≤ 1000) {j : Nat} (hj : j < ms.length) {s : List Ma} (hs : s.length ≤ 1000) {L : Int → List Ma → Option (List Ma × Int)} : ∀ (k i : Nat) (b : Bool), i ≤ ms.length → ms.length - i < k →
  f26_l25 KK a n ms (j : Int) s (f, l, g, e0) y2 (numsF l g) L k b (i : Int) = L ((j + 1 : Nat) : Int) (bif b && !hasN l (numsF l g) ms[j] (ms.drop i) then s ++ [ms[j]] else s)
 | 0, i, b, _, hk => by omega
 | k + 1, i, b, hi, hk => by
  have hL := numsF_len' l g
  show f26_b25 KK a n ms (j : Int) s (f, l, g, e0) y2 (numsF l g) L (fun d0 d1 => f26_l25 KK a n ms (j : Int) s (f, l, g, e0) y2 (numsF l g) L k d0 d1) b (i : Int) = _
  unfold f26_b25
  by_cases hlt : i < ms.length
  ·have n1 : numS l ms[j].1 < (numsF l g).length := by rw [hL]; exact numS_lt h.la _
   have n2 : numS l ms[i].1 < (numsF l g).length := by rw [hL]; exact numS_lt h.la _
   have c1 := hm _ (List.getElem_mem hj)
   have c2 := hm _ (List.getElem_mem hlt)
   rw [in1 hlt, in1 hj, in0, in0, gd hlt, gd hj, w_succ (by omega)]
   simp only [Bool.and_self, cond_true, Bool.or_true]
   rw [l03Number_gen h.la (Sv_Sm (cellB_Sv h.la c2)), l03Number_gen h.la (Sv_Sm (cellB_Sv h.la c1))]
   cases b
   ·simp only [Bool.not_false, Bool.true_or, cond_true, cond_false, Option.bind_some, Bool.false_and]
    rw [sneed_in h hm hn hj hs k (i + 1) false (by omega) (by omega)]
    rfl
   ·simp only [Bool.not_true, Bool.false_or, cond_true, Option.bind_some, Bool.true_and]
    rw [in0, in1 n2, in0, in1 n1, getZ, getZ]
    simp only [Bool.and_self, cond_true]
    rw [sneed_in h hm hn hj hs k (i + 1) _ (by omega) (by omega), List.drop_eq_getElem_cons hlt]
    unfold hasN nmS
    rw [List.any_cons, Bool.not_or]
    rfl
  ·have : i = ms.length := by omega
   subst this
   rw [out1, cond_false, in0, in1 hj, gd hj, w_succ (by omega), blim24 (by simp; omega), List.drop_length]
   cases b <;> rfl
theorem sneed_loop {a : ByteArray} {n : Int} {y2 : Bool} {ms : List Ma} {f : Int} {l : Lt} {g : List Mo} {e0 : Int} (h : OrbG f l g) (hm : cellsB l ms) (hn : ms.length ≤ 1000) : ∀ (k j : Nat) (s : List Ma), s.length ≤ j → j ≤ ms.length → ms.length - j < k →
  f26_l22 KK a n ms (f, l, g, e0) y2 (numsF l g) k (j : Int) s = some (s ++ needS l (numsF l g) (ms.drop j), 0)
 | 0, j, s, _, _, hk => by omega
 | k + 1, j, s, hs, hj, hk => by
  show f26_b22 KK a n ms (f, l, g, e0) y2 (numsF l g) (fun c0 c1 d0 d1 => f26_l25 KK a n ms c0 c1 (f, l, g, e0) y2 (numsF l g) (fun d0 d1 => f26_l22 KK a n ms (f, l, g, e0) y2 (numsF l g) k d0 d1) KK d0 d1) (fun d0 d1 => f26_l22 KK a n ms (f, l, g, e0) y2 (numsF l g) k d0 d1) (j : Int) s = _
  unfold f26_b22
  by_cases hlt : j < ms.length
  ·rw [in1 hlt, cond_true, w_succ (by omega)]
   refine (sneed_in h hm hn hlt (by omega) KK (j + 1) true (by omega) (by simp only [KK]; omega)).trans ?_
   rw [List.drop_eq_getElem_cons hlt]
   show f26_l22 KK a n ms (f, l, g, e0) y2 (numsF l g) k _ _ = some (s ++ (bif hasN l (numsF l g) ms[j] (ms.drop (j + 1)) then _ else _), 0)
   cases hasN l (numsF l g) ms[j] (ms.drop (j + 1))
   ·simp only [Bool.not_false, Bool.and_self, cond_true, cond_false]
    rw [sneed_loop h hm hn k (j + 1) _ (by simp; omega) (by omega) (by omega), List.append_assoc]
    rfl
   ·simp only [Bool.not_true, Bool.and_false, cond_true, cond_false]
    rw [sneed_loop h hm hn k (j + 1) _ (by omega) (by omega) (by omega)]
  ·have : j = ms.length := by omega
   subst this
   rw [out1, cond_false, List.drop_length]
   simp [needS]
theorem needAgain_eq {l : Lt} (hl : IsL l) {ns : List Int} (hns : ns.length = (cellsS l).length) {x y : Ma} (hx : cellB l x.1 = true) (hy : cellB l y.1 = true) : f129G KK y ns l x = some (nmS l ns y == nmS l ns x) := by
 unfold f129G
 have n1 : numS l x.1 < ns.length := by rw [hns]; exact numS_lt hl _
 have n2 : numS l y.1 < ns.length := by rw [hns]; exact numS_lt hl _
 rw [number_eq hl hy, Option.bind_some, in0, in1 n2, number_eq hl hx]
 simp only [Bool.and_self, cond_true, Option.bind_some]
 rw [in0, in1 n1, getZ, getZ]
 rfl
theorem ineed_loop {a : ByteArray} {n : Int} {ms : List Ma} {f : Int} {l : Lt} {g : List Mo} {e0 : Int} {o : List (List Vc)} (h : OrbG f l g) (hm : cellsB l ms) (hn : ms.length ≤ 1000) : ∀ (k j : Nat) (s : List Ma), s.length ≤ j → j ≤ ms.length → ms.length - j < k →
  f27_l6 KK a n ms (f, l, g, e0) (o, numsF l g) k (j : Int) s = some (s ++ needS l (numsF l g) (ms.drop j), 0)
 | 0, j, s, _, _, hk => by omega
 | k + 1, j, s, hs, hj, hk => by
  show f27_b6 KK a n ms (f, l, g, e0) (o, numsF l g) (fun d0 d1 => f27_l6 KK a n ms (f, l, g, e0) (o, numsF l g) k d0 d1) (j : Int) s = _
  unfold f27_b6
  by_cases hlt : j < ms.length
  ·have hz : ((0 : Int) + (ms.length : Int)).toNat = ms.length := by omega
   have hz2 : ((0 : Int) + ((j + 1 : Nat) : Int)).toNat = j + 1 := by omega
   have c1 := hm _ (List.getElem_mem hlt)
   rw [in1 hlt, in0, w_succ (by omega), in0, decide_eq_true (show ((j + 1 : Nat) : Int) ≤ (ms.length : Int) by omega), decide_eq_true (show (ms.length : Int) ≤ (ms.length : Int) by omega), gd hlt, hz, hz2, List.take_length]
   simp only [Bool.and_self, cond_true]
   rw [containsFuncSt_eq (by rw [List.length_drop]; omega) (fun z9 => f129G KK z9 (numsF l g) l (ms[j].1, ms[j].2)) (fun y => nmS l (numsF l g) y == nmS l (numsF l g) ms[j]) (fun y hy => needAgain_eq h.la (numsF_len' l g) c1 (hm y (List.mem_of_mem_drop hy))), Option.bind_some, List.drop_eq_getElem_cons hlt]
   show _ = some (s ++ (bif hasN l (numsF l g) ms[j] (ms.drop (j + 1)) then _ else _), 0)
   unfold hasN
   cases (ms.drop (j + 1)).any fun y => nmS l (numsF l g) y == nmS l (numsF l g) ms[j]
   ·simp only [Bool.not_false, cond_true, cond_false]
    rw [blim24 (by simp; omega), cond_true, ineed_loop h hm hn k (j + 1) _ (by simp; omega) (by omega) (by omega), List.append_assoc]
    rfl
   ·simp only [Bool.not_true, cond_true, cond_false]
    rw [ineed_loop h hm hn k (j + 1) _ (by omega) (by omega) (by omega)]
  ·have : j = ms.length := by omega
   subst this
   rw [out1, cond_false, List.drop_length]
   simp [needS]
def resNS (r : Sgr) (ms : List Ma) : List Ma × Int := bif r.2.2.2 != 0 then ([], r.2.2.2) else bif strB r.2.1 ms then (needS r.2.1 (numsF r.2.1 r.2.2.1) ms, 0) else ([], 2)
theorem specNS_eq {a : ByteArray} {n : Int} {r : Sgr} (hr : Std a n r) {ms : List Ma} (hm : ms.length ≤ 1048576) : f26G KK a n ms = some (resNS r ms) := by
 unfold f26G f26_g resNS
 rw [l27Canvas_eq hr, Option.bind_some]
 cases hc : r.2.2.2 != 0
 ·have h0 : r.2.2.2 = 0 := by simpa using hc
  have hG := hr.orb h0
  have e : (r.2.2.2 == 0) = true := by simpa using h0
  simp only [e, Bool.not_true, Bool.or_true, cond_true, cond_false]
  rw [l27Strokes_eq hG.la hm, Option.bind_some]
  cases hb : strB r.2.1 ms
  ·rfl
  ·obtain ⟨hv, hl, _⟩ := str_in hb
   simp only [Bool.not_true, cond_true, cond_false]
   rw [l07Numbers_eq hG, Option.bind_some]
   refine (sneed_loop hG hv (by omega) KK 0 [] (by simp) (by omega) (by simp only [KK]; omega)).trans ?_
   rfl
 ·have e : (r.2.2.2 == 0) = false := by simpa using hc
  simp only [e, Bool.not_false, Bool.or_true, cond_true, cond_false, Option.bind_some, hc]
theorem implNS_eq {a : ByteArray} {n : Int} {r : Sgr} (hr : Std a n r) (ms : List Ma) : f27G KK a n ms = some (resNS r ms) := by
 unfold f27G f27_g resNS
 rw [canvas_eq hr.im hr.ok (by simp), Option.bind_some, cvB_code]
 cases hc : r.2.2.2 != 0
 ·have h0 : r.2.2.2 = 0 := by simpa using hc
  have hG := hr.orb h0
  simp only [cond_false, List.all_cons, List.all_nil, Bool.and_true]
  cases hb : strB r.2.1 ms
  ·rfl
  ·obtain ⟨hv, hl, _⟩ := str_in hb
   have e : cvB r [ms] = r := cvB_ok h0 (by simp [hb])
   rw [e]
   show (f128G KK r.2.1 r.2.2.1).bind _ = _
   rw [orbitsOf_eq hG, Option.bind_some]
   refine (ineed_loop hG hv (by omega) KK 0 [] (by simp) (by omega) (by simp only [KK]; omega)).trans ?_
   rfl
 ·simp only [cond_true, hc]
theorem resNS_len {a : ByteArray} {n : Int} {r : Sgr} (hr : Std a n r) {ms : List Ma} : (resNS r ms).1.length ≤ 1000 := by
 unfold resNS
 cases hc : r.2.2.2 != 0
 ·rw [cond_false]
  cases hb : strB r.2.1 ms
  ·simp
  ·obtain ⟨hv, hl, _⟩ := str_in hb
   have := needS_len r.2.1 (numsF r.2.1 r.2.2.1) ms
   simp only [cond_true]
   omega
 ·simp
end Go.Proofs.YtfccacobkcglcaaGreat.X
