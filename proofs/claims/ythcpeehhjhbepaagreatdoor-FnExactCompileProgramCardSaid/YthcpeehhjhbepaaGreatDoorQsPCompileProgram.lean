/- The plain law of CompileProgram: both sides give each cell the colour of the last mark in its orbit. -/
import Derived.Test.YthcpeehhjhbepaaGreatDoorQsSI
namespace Go.Proofs.YthcpeehhjhbepaaGreatDoor.X
open Go
set_option linter.unusedSimpArgs false
set_option linter.unusedVariables false
def fillS (ns o : List Int) (v c : Int) : List Int := List.zipWith (fun n y => bif n == v then c else y) ns o
theorem fill_len {ns o : List Int} (h : o.length = ns.length) (v c : Int) : (fillS ns o v c).length = ns.length := by
 unfold fillS
 rw [List.length_zipWith]
 omega
theorem fill_get {ns o : List Int} (h : o.length = ns.length) {v c : Int} {i : Nat} (hi : i < ns.length) (hi' : i < (fillS ns o v c).length) : (fillS ns o v c)[i] = bif ns[i] == v then c else o[i] := List.getElem_zipWith ..
theorem part_set {α : Type} {F o : List α} {i : Nat} (h1 : i < F.length) (h2 : F.length = o.length) : (F.take i ++ o.drop i).set i F[i] = F.take (i + 1) ++ o.drop (i + 1) := by
 have h3 : i < o.length := by omega
 have ht : (F.take i).length = i := by rw [List.length_take]; omega
 rw [dC h3, List.set_append_right _ _ (by omega), ht, Nat.sub_self, List.set_cons_zero, tS h1, List.append_assoc]
 rfl
theorem part_same {α : Type} {F o : List α} {i : Nat} (h1 : i < F.length) (h2 : F.length = o.length) (h : F[i] = o[i]) : F.take i ++ o.drop i = F.take (i + 1) ++ o.drop (i + 1) := by
 have h3 : i < o.length := by omega
 rw [dC h3, tS h1, List.append_assoc, h]
 rfl
theorem scp_in {s : Int × Lt × Int × List Mo × List Ma} (hl : IsL s.2.1) {ns : List Int} (hns : ns.length = (cellsS s.2.1).length) (hm : ∀ x ∈ s.2.2.2.2, vecB x.1 = true) (hn : s.2.2.2.2.length ≤ 1000) {a0 : ByteArray} {y1 : SpC} {j : Nat} (hj : j < s.2.2.2.2.length) {L : Int → List Int → Option (Pt × Int × Int)} {o : List Int} (ho : o.length = ns.length) :
  ∀ (n i : Nat), i ≤ ns.length → ns.length - i < n → f4_l15 KK a0 (j : Int) y1 ns s L n (i : Int) ((fillS ns o (nmS s.2.1 ns s.2.2.2.2[j]) s.2.2.2.2[j].2).take i ++ o.drop i) = L ((j + 1 : Nat) : Int) (fillS ns o (nmS s.2.1 ns s.2.2.2.2[j]) s.2.2.2.2[j].2)
 | 0, i, _, h => by omega
 | n + 1, i, hi, h => by
  have hc := cellsS_le hl
  have hF := fill_len ho (nmS s.2.1 ns s.2.2.2.2[j]) s.2.2.2.2[j].2
  show f4_b15 KK a0 (j : Int) y1 ns s L (fun v0 v1 => f4_l15 KK a0 (j : Int) y1 ns s L n v0 v1) (i : Int) _ = _
  unfold f4_b15
  by_cases hlt : i < ns.length
  ·have hx := hm _ (gM hj)
   have hnum := l03Number_gen hl (vec_Sm hx)
   have hb := (num_calc hl s.2.2.2.2[j].1).2
   have hnl : numS s.2.1 s.2.2.2.2[j].1 < ns.length := by
    have : ((numS s.2.1 s.2.2.2.2[j].1 : Nat) : Int) < ((ns.length : Nat) : Int) := by
     rw [hns, cellsS_len hl, idx_nat hl]
     exact hb
    omega
   have hlen : ((fillS ns o (nmS s.2.1 ns s.2.2.2.2[j]) s.2.2.2.2[j].2).take i ++ o.drop i).length = ns.length := by
    rw [lA, List.length_take, List.length_drop]
    omega
   rw [in1 hlt, in0, in1 hj, gd hj, hlen, in1 hlt]
   simp only [aS, cT]
   rw [hnum, oB, in1 hnl, in0, getZ, getZ, w_succ (by omega)]
   simp only [aS, cT]
   have e1 : ns.getD i 0 = ns[i] := by simp [List.getD, hlt]
   have hg := fill_get ho (v := nmS s.2.1 ns s.2.2.2.2[j]) (c := s.2.2.2.2[j].2) hlt (by omega)
   have z : ((0 : Int) + (i : Int)).toNat = i := by omega
   show (bif (ns.getD i 0 == nmS s.2.1 ns s.2.2.2.2[j]) then _ else _) = _
   rw [e1, z]
   cases hq : ns[i] == nmS s.2.1 ns s.2.2.2.2[j]
   ·rw [hq, cF] at hg
    rw [cF, part_same (by omega) (by omega) hg]
    exact scp_in hl hns hm hn hj ho n (i + 1) (by omega) (by omega)
   ·rw [hq, cT] at hg
    have hset := part_set (F := fillS ns o (nmS s.2.1 ns s.2.2.2.2[j]) s.2.2.2.2[j].2) (o := o) (i := i) (by omega) (by omega)
    rw [hg] at hset
    rw [cT, hset]
    exact scp_in hl hns hm hn hj ho n (i + 1) (by omega) (by omega)
  ·have : i = ns.length := by omega
   subst this
   rw [out1, cF, w_succ (by omega), List.drop_eq_nil_of_le (by omega), List.append_nil, List.take_of_length_le (by omega)]
theorem scp_loop {s : Int × Lt × Int × List Mo × List Ma} (hl : IsL s.2.1) {ns : List Int} (hns : ns.length = (cellsS s.2.1).length) (hm : ∀ x ∈ s.2.2.2.2, vecB x.1 = true) (hn : s.2.2.2.2.length ≤ 1000) {a0 : ByteArray} {y1 : SpC} :
  ∀ (n j : Nat) (o : List Int), o.length = ns.length → j ≤ s.2.2.2.2.length → s.2.2.2.2.length - j < n → f4_l12 KK a0 y1 ns s n (j : Int) o = some ((s.1, s.2.1, (s.2.2.2.2.drop j).foldl (fun o x => fillS ns o (nmS s.2.1 ns x) x.2) o), 0, 0)
 | 0, j, _, _, _, h => by omega
 | n + 1, j, o, ho, hj, h => by
  have hc := cellsS_le hl
  show f4_b12 KK a0 y1 ns s (fun c0 d0 d1 => f4_l15 KK a0 c0 y1 ns s (fun v0 v1 => f4_l12 KK a0 y1 ns s n v0 v1) KK d0 d1) (fun v0 v1 => f4_l12 KK a0 y1 ns s n v0 v1) (j : Int) o = _
  unfold f4_b12
  by_cases hlt : j < s.2.2.2.2.length
  ·rw [in1 hlt, cT, dC hlt, List.foldl_cons]
   have h1 := scp_in hl hns hm hn (a0 := a0) (y1 := y1) hlt (L := fun v0 v1 => f4_l12 KK a0 y1 ns s n v0 v1) ho KK 0 (by omega) (by simp only [KK]; omega)
   have z : ((0 : Nat) : Int) = 0 := rfl
   rw [List.take_zero, List.nil_append, List.drop_zero, z] at h1
   refine h1.trans ?_
   exact scp_loop hl hns hm hn n (j + 1) _ (fill_len ho _ _) (by omega) (by omega)
  ·have : j = s.2.2.2.2.length := by omega
   subst this
   rw [out1, cF, List.drop_length]
   rfl
theorem fill_map (ns : List Int) (φ : Int → Int) (v c : Int) : fillS ns (ns.map φ) v c = ns.map fun n => bif v == n then c else φ n := by
 unfold fillS
 induction ns with
 | nil => rfl
 | cons n ns ih =>
  rw [List.map_cons, List.zipWith_cons_cons, ih, List.map_cons]
  congr 1
  have : (n == v) = (v == n) := by rw [Bool.eq_iff_iff, beq_iff_eq, beq_iff_eq]; exact eq_comm
  rw [this]
theorem fold_fill (l : Lt) (ns : List Int) : ∀ (ms : List Ma) (φ : Int → Int), ms.foldl (fun o x => fillS ns o (nmS l ns x) x.2) (ns.map φ) = ns.map fun k => ms.foldl (fun c x => bif nmS l ns x == k then x.2 else c) (φ k)
 | [], φ => rfl
 | x :: ms, φ => by
  rw [List.foldl_cons, fill_map, fold_fill l ns ms]
  rfl
noncomputable def resCP (l : List UInt8) : Pt × Int × Int := match cmpS l with
 | .inl (a, c) => (dP, a, c)
 | .inr s => (patS s, 0, 0)
theorem specCP_eq {l : List UInt8} (hl : l.length ≤ 1048576) : f4G KK (mk l) = some (resCP l) := by
 obtain ⟨r, e, h⟩ := specC_eq l hl
 unfold f4G f4_g resCP
 rw [e, oB]
 cases hc : cmpS l with
 | inl x =>
  rw [hc] at h
  obtain ⟨h1, h2⟩ := h
  have hb : (r.2.2 != (0 : Int)) = true := by rw [h1, bne_iff_ne]; exact h2
  rw [hb, h1]
  cases r.1 <;> rfl
 | inr s =>
  rw [hc] at h
  obtain ⟨h1, h2, h3⟩ := h
  subst h1
  obtain ⟨g1, g2, g3⟩ := grS_ok h2 h3
  have hla := h2.la (by omega)
  have hlen := numsF_len' s.2.2.1 (grS s)
  have hcl := cellsS_le hla
  show (f11G KK s.2.2.1 s.2.2.2.1).bind _ = _
  rw [g1, oB]
  have g4 : f10G KK (tupS s).2.1 (grS s) = some (numsF s.2.2.1 (grS s)) := l07Numbers_eq g3.orb
  rw [g4, oB]
  have hk : (decide (0 ≤ ((numsF s.2.2.1 (grS s)).length : Int)) && Nat.ble (((numsF s.2.2.1 (grS s)).length : Int)).toNat (lim 8) && (((numsF s.2.2.1 (grS s)).length : Int) == ((numsF s.2.2.1 (grS s)).length : Int))) = true := by
   rw [in0, Int.toNat_natCast, blim8 (by omega)]
   simp
  rw [hk, cT]
  have hrep : List.replicate (((numsF s.2.2.1 (grS s)).length : Int)).toNat (0 : Int) = (numsF s.2.2.1 (grS s)).map fun _ => 0 := by
   rw [Int.toNat_natCast, List.map_const']
  have hmm : ∀ x ∈ s.2.2.2.2, vecB x.1 = true := fun x hx => (h2.ma x hx).1
  have hkl := h2.kl
  have := scp_loop (s := tupS s) hla hlen hmm (by simp only; omega) (a0 := mk l) (y1 := (some (tupS s), 0, 0)) KK 0 ((numsF s.2.2.1 (grS s)).map fun _ => 0) (by rw [List.length_map]) (by omega) (by simp only [KK]; omega)
  rw [List.drop_zero] at this
  have hf : (tupS s).2.2.2.2.foldl (fun o x => fillS (numsF s.2.2.1 (grS s)) o (nmS (tupS s).2.1 (numsF s.2.2.1 (grS s)) x) x.2) ((numsF s.2.2.1 (grS s)).map fun _ => 0) = compS s.2.2.1 (grS s) s.2.2.2.2 0 := fold_fill s.2.2.1 (numsF s.2.2.1 (grS s)) s.2.2.2.2 fun _ => 0
  rw [hf] at this
  rw [hrep]
  exact this
theorem implCP_eq {l : List UInt8} (hl : l.length ≤ 1048576) : f5G KK (mk l) = some (resCP l) := by
 unfold f5G resCP
 rw [implC_eq l hl, oB]
 cases hc : cmpS l with
 | inl x => rfl
 | inr s => rfl
theorem resCP_len {l : List UInt8} (hl : l.length ≤ 1048576) : (resCP l).1.2.2.length ≤ 1000 := by
 obtain ⟨r, e, h⟩ := specC_eq l hl
 unfold resCP
 cases hc : cmpS l with
 | inl x => simp [dP]
 | inr s =>
  rw [hc] at h
  obtain ⟨h1, h2, h3⟩ := h
  have hla := h2.la (by omega)
  have hcl := cellsS_le hla
  have hlen := numsF_len' s.2.2.1 (grS s)
  simp only [patS, compS, List.length_map]
  omega
theorem FnExactCompileProgram_pure (a0 : ByteArray) (h : WfA [.str] (a0, ())) : ∃ K, f3G K a0 = some true := by
 refine ⟨KK, ?_⟩
 obtain ⟨l, rfl⟩ := ex_mk a0
 unfold f3G
 rw [sz_mk]
 by_cases hl : 1048576 < l.length
 ·rw [dT (show (l.length : Int) > 1048576 by omega)]
  rfl
 ·rw [dF (show ¬ (l.length : Int) > 1048576 by omega), cF, specCP_eq (by omega), implCP_eq (by omega)]
  have hr := resCP_len (l := l) (by omega)
  obtain ⟨r3, ⟨m3, m4, m5⟩, hm3⟩ := markInt64S_gen (resCP l).1.2.2 (k := 1) (by omega) (by omega) (by omega)
  have hh := heldInt64S_gen r3.1 (k := 1) (by omega) (by omega) (by omega) (by rw [m4]; exact m5)
  have hmp : f7G KK (resCP l).1 1 = some (((resCP l).1.1, (resCP l).1.2.1, r3.1), r3.2) := by
   unfold f7G
   rw [hm3]
   rfl
  have hhp : f8G KK ((resCP l).1.1, (resCP l).1.2.1, r3.1) 1 = some r3.2 := by
   unfold f8G
   simp only
   rw [hh, oB, dF (by omega), cF, m3, m4]
  simp only [oB]
  rw [eqPattern_eq (by omega)]
  simp only [oB, oT, tO, cT, nT, bne_self_eq_false, cF]
  rw [hmp]
  simp only [oB]
  rw [hhp, oB, dF (show ¬ r3.2 < 0 by omega)]
  simp only [oB, oT, tO, cT, nT, bne_self_eq_false, cF]
  rw [dF (show ¬ r3.2 < 0 by omega)]
  rfl
end Go.Proofs.YthcpeehhjhbepaaGreatDoor.X
