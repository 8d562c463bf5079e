/- The plain law of TilingPattern: both sides give each cell the number of its copy, modulo 10. -/
import Derived.Test.YtfccacobkcglcaaGreatQhMJ
import Derived.Test.YtfccacobkcglcaaGreatQzXRow
namespace Go.Proofs.YtfccacobkcglcaaGreat.X
open Go
set_option linter.unusedSimpArgs false
set_option linter.unusedVariables false
def setC (c : Int) (ns : List Nat) (o : List Int) : List Int := ns.foldl (fun s n => s.set n c) o
def colF : List (List Nat) → Nat → List Int → List Int
 | [], _, o => o
 | c :: r, i, o => colF r (i + 1) (setC ((i : Int).tmod 10) c o)
theorem setC_len (c : Int) : ∀ (ns : List Nat) (o : List Int), (setC c ns o).length = o.length
 | [], o => rfl
 | n :: ns, o => by
  unfold setC
  rw [List.foldl_cons]
  exact (setC_len c ns _).trans (by simp)
theorem setC_get (c : Int) : ∀ (ns : List Nat) (o : List Int) (k : Nat), (∀ n ∈ ns, n < o.length) → (setC c ns o).getD k 0 = if k ∈ ns then c else o.getD k 0
 | [], o, k, _ => by simp [setC]
 | n :: ns, o, k, h => by
  have hn := h n (by simp)
  unfold setC
  rw [List.foldl_cons]
  refine (setC_get c ns (o.set n c) k (fun m hm => by rw [List.length_set]; exact h m (by simp [hm]))).trans ?_
  by_cases h1 : k ∈ ns
  ·simp [h1]
  ·by_cases h2 : n = k
   ·subst h2; simp [h1, List.getD, hn]
   ·simp [h1, List.getD, List.getElem?_set, h2, Ne.symm h2]
theorem colF_len : ∀ (C : List (List Nat)) (i : Nat) (o : List Int), (colF C i o).length = o.length
 | [], _, _ => rfl
 | c :: r, i, o => by
  simp only [colF]
  rw [colF_len r, setC_len]
theorem ownS_none : ∀ (C : List (List Nat)) (i k : Nat), k ∉ C.flatten → ownS C i k = none
 | [], _, _, _ => rfl
 | c :: r, i, k, h => by
  rw [List.flatten_cons, List.mem_append] at h
  simp only [ownS]
  rw [if_neg (fun hh => h (.inl hh)), ownS_none r _ _ (fun hh => h (.inr hh))]
theorem colF_get : ∀ (C : List (List Nat)) (i : Nat) (o : List Int) (k : Nat), (∀ c ∈ C, ∀ n ∈ c, n < o.length) → C.flatten.Nodup → (colF C i o).getD k 0 = match ownS C i k with | some j => (j : Int).tmod 10 | none => o.getD k 0
 | [], _, _, _, _, _ => rfl
 | c :: r, i, o, k, h, hnd => by
  rw [List.flatten_cons, List.nodup_append] at hnd
  simp only [colF, ownS]
  rw [colF_get r (i + 1) _ k (fun c' hc' n hn => by rw [setC_len]; exact h c' (by simp [hc']) n hn) hnd.2.1]
  by_cases hk : k ∈ c
  ·rw [if_pos hk, ownS_none r (i + 1) k (fun hm => hnd.2.2 k hk k hm rfl)]
   simp only
   rw [setC_get _ c o k (h c (by simp)), if_pos hk]
  ·rw [if_neg hk]
   cases ownS r (i + 1) k with
   | some j => rfl
   | none => simp only; rw [setC_get _ c o k (h c (by simp)), if_neg hk]
theorem col_in {f : Int} {l : Lt} (hl : IsL l) {g : List Mo} {t : List Vc} {y1 : Int} {y2 : Bool} {y3 : Pt} {C : List (List Vc)} (hC : C.length ≤ 1000) {L : Int → List Int → Option (Pt × Int)} {x : Nat} (hx : x < C.length) (hn : C[x].length ≤ 1000) (hc : ∀ v ∈ C[x], cellB l v = true) {o : List Int} (ho : o.length = (cellsS l).length) :
  f57_l15 KK f l g t (x : Int) y1 y2 y3 C L KK 0 o = L ((x + 1 : Nat) : Int) (setC ((x : Int).tmod 10) (C[x].map (numS l)) o) := by
 have h := iter_fold (X := Int × List Int) (body := fun L15 z => f57_b15 KK f l g t (x : Int) y1 y2 y3 C L (fun v0 v1 => L15 (v0, v1)) z.1 z.2) C[x] (fun q s => ((q : Int), s)) (fun s v => s.set (numS l v) ((x : Int).tmod 10)) (fun s => L ((x + 1 : Nat) : Int) s) (fun q s => s.length = (cellsS l).length)
  (fun L15 q s hq hi => by
   refine ⟨by rw [List.length_set]; exact hi, ?_⟩
   unfold f57_b15
   simp only
   rw [getC hx, in1 hq, in0, gd hq]
   simp only [Bool.and_self, cT]
   rw [number_eq hl (hc _ (gM hq)), oB]
   have hlt : numS l C[x][q] < s.length := by rw [hi]; exact numS_lt hl _
   rw [in0, in1 hlt, w_succ (by omega)]
   simp only [Bool.and_self, cT]
   have e0 : ((0 : Int) + (numS l C[x][q] : Int)).toNat = numS l C[x][q] := by omega
   rw [e0])
  (fun L15 s hi => by
   unfold f57_b15
   simp only
   rw [getC hx, out1, cF, w_succ (by omega)]) KK 0 o (by omega) (by have := KKlt (n := C[x].length) (by omega); omega) ho
 unfold f57_l15
 refine Eq.trans h ?_
 rw [List.drop_zero]
 unfold setC
 rw [List.foldl_map]
theorem col_out {f : Int} {l : Lt} (hl : IsL l) {g : List Mo} {t : List Vc} {y1 : Int} {y2 : Bool} {y3 : Pt} {C : List (List Vc)} (hC : C.length ≤ 1000) (hn : ∀ c ∈ C, c.length ≤ 1000) (hc : ∀ c ∈ C, ∀ v ∈ c, cellB l v = true) : ∀ (n q : Nat) (o : List Int), q ≤ C.length → C.length - q < n → o.length = (cellsS l).length →
  f57_l12 KK f l g t y1 y2 y3 C n (q : Int) o = some ((y3.1, y3.2.1, colF ((cnS l C).drop q) q o), 0)
 | 0, q, o, _, h, _ => by omega
 | n + 1, q, o, hq, h, ho => by
  show f57_b12 KK f l g t y1 y2 y3 C (fun c0 d0 d1 => f57_l15 KK f l g t c0 y1 y2 y3 C (fun v0 v1 => f57_l12 KK f l g t y1 y2 y3 C n v0 v1) KK d0 d1) (fun v0 v1 => f57_l12 KK f l g t y1 y2 y3 C n v0 v1) (q : Int) o = _
  unfold f57_b12
  by_cases hlt : q < C.length
  ·have hq3 : q < (cnS l C).length := by unfold cnS; simpa using hlt
   rw [in1 hlt, in0]
   simp only [Bool.and_self, cT]
   refine Eq.trans (col_in hl hC hlt (hn _ (gM hlt)) (hc _ (gM hlt)) ho) ?_
   rw [List.drop_eq_getElem_cons hq3]
   have e : (cnS l C)[q] = C[q].map (numS l) := by simp [cnS]
   rw [e]
   simp only [colF]
   exact col_out hl hC hn hc n (q + 1) _ hlt (by omega) (by rw [setC_len]; exact ho)
  ·have e : q = C.length := by omega
   subst e
   rw [out1, cF, List.drop_eq_nil_of_le (by unfold cnS; simp)]
   rfl
theorem marked_none (f : Int) {l : Lt} (hl : IsL l) : f177G KK f l [] 0 = some (f, l, List.replicate (cellsS l).length 0) := by
 unfold f177G f177_g f238G
 have hcl := cellsS_le hl
 rw [oB, len_eq hl, in0, show (((cellsS l).length : Int)).toNat = (cellsS l).length by omega, blim8 (by omega)]
 simp only [Bool.and_self, beq_self_eq_true, cT]
 have h := iter_fold (X := Int × List Int) (body := fun L4 z => f177_b4 KK f l [] 0 (fun v0 v1 => L4 (v0, v1)) z.1 z.2) ([] : List Vc) (fun q s => ((q : Int), s)) (fun s _ => s) (fun s => some (f, l, s)) (fun _ _ => True)
  (fun L4 q s hq _ => by simp at hq)
  (fun L4 s _ => by
   unfold f177_b4
   rfl) KK 0 (List.replicate (cellsS l).length 0) (by omega) (by simp [KK]) trivial
 unfold f177_l4
 exact h
def colT (l : Lt) (g : List Mo) (t : List Vc) : List Int := (List.range (cellsS l).length).map fun k => (((ownS (cnS l (cpsS l g t)) 0 k).getD 0 : Nat) : Int).tmod 10
def resTP (f : Int) (l : Lt) (g : List Mo) (t : List Vc) : Pt × Int :=
 bif codeT f l g t != 0 then ((0, (0, 0, 0), []), codeT f l g t) else bif !decide (tilesP l g t) then ((0, (0, 0, 0), []), 5) else ((f, l, colT l g t), 0)
theorem list_ext0 {a b : List Int} (hl : a.length = b.length) (h : ∀ k, k < b.length → a.getD k 0 = b.getD k 0) : a = b := by
 apply List.ext_getElem hl
 intro k h1 h2
 have := h k h2
 simpa [List.getD, h1, h2] using this
theorem own_get {l : Lt} (hl : IsL l) {g : List Mo} {t : List Vc} (ht : tilesP l g t) {k : Nat} (hk : k < (cellsS l).length) : ∃ j, ownS (cnS l (cpsS l g t)) 0 k = some j := by
 have hcov := (cells_cover hl (cpsS l g t).flatten fun v hv => cps_cell hl hv).1 ht.2 k hk
 rw [← cn_flat] at hcov
 obtain ⟨j, h1, _⟩ := ownS_some (i := 0) hcov
 exact ⟨_, h1⟩
theorem implTP_eq (f : Int) (l : Lt) {g : List Mo} (hn : g.length ≤ 1048576) {t : List Vc} (ht : t.length ≤ 1048576) : f57G KK f l g t = some (resTP f l g t) := by
 unfold f57G f57_g resTP
 rw [tileCode_eq f l hn ht, oB]
 cases hc : codeT f l g t != 0
 ·have h0 : codeT f l g t = 0 := by simpa using hc
  have hT := codeT_0 h0
  have hl := hT.la
  rw [cF, cF, tilesByGroup_eq hT, oB]
  by_cases htl : tilesP l g t
  ·simp only [dT htl, Bool.not_true, cF]
   rw [marked_none f hl, oB, copiesOf_eq hT, oB]
   have hle := hT.pr.len hl
   have ht2 := hT.t2
   have hC := cpsS_length l g t
   have hcell : ∀ c ∈ cpsS l g t, ∀ v ∈ c, cellB l v = true := fun c hc v hv => cps_cell hl (List.mem_flatten.2 ⟨c, hc, hv⟩)
   refine (col_out hl (by omega) (fun c hc => by
    obtain ⟨x, hx, rfl⟩ := List.getElem_of_mem hc
    rw [cps_get hx]; omega) hcell KK 0 _ (by omega) (by have := KKlt (n := (cpsS l g t).length) (by omega); omega) (by simp)).trans ?_
   rw [List.drop_zero]
   congr 3
   refine congrArg (fun x => (l, x)) (list_ext0 ?_ ?_)
   ·rw [colF_len]; simp [colT]
   ·intro k hk
    have hk : k < (cellsS l).length := by simpa [colT] using hk
    have hnd : (cnS l (cpsS l g t)).flatten.Nodup := by
     rw [cn_flat]
     exact (nodup_map_num hl _ fun v hv => cps_cell hl hv).2 htl.1
    rw [colF_get _ _ _ _ (fun c hc n hn => by
     rw [List.length_replicate]
     have : n ∈ (cnS l (cpsS l g t)).flatten := List.mem_flatten.2 ⟨c, hc, hn⟩
     rw [cn_flat] at this
     obtain ⟨v, _, rfl⟩ := List.mem_map.1 this
     exact numS_lt hl v) hnd]
    obtain ⟨j, hj⟩ := own_get hl htl hk
    rw [hj]
    simp [colT, List.getD, hk, hj]
  ·rw [dF htl]
   rfl
 ·rfl
theorem specTP_eq (f : Int) (l : Lt) {g : List Mo} (hn : g.length ≤ 1048576) {t : List Vc} (ht : t.length ≤ 1048576) : f58G KK f l g t = some (resTP f l g t) := by
 unfold f58G f58_g resTP
 rw [l23Code_eq f l hn ht, oB]
 cases hc : codeT f l g t != 0
 ·have h0 : codeT f l g t = 0 := by simpa using hc
  have hT := codeT_0 h0
  have hl := hT.la
  have hcl := cellsS_le hl
  obtain ⟨o, ho, hval⟩ := owners_eq hT
  rw [cF, cF, ho, oB]
  by_cases htl : tilesP l g t
  ·obtain ⟨h1, h2⟩ := hval htl
   simp only [dT htl, Bool.not_true, cF]
   have h := iter_fold (X := Int × List Int) (body := fun L4 z => f58_b4 KK f l g t (codeT f l g t) (o, true) (fun v0 v1 => L4 (v0, v1)) z.1 z.2) o (fun q s => ((q : Int), s)) (fun s a => s ++ [a.tmod 10]) (fun s => some ((f, l, s), 0)) (fun q s => s.length = q)
    (fun L4 q s hq hi => by
     refine ⟨by simp; omega, ?_⟩
     unfold f58_b4
     simp only
     rw [in1 hq, in0, gd hq, blim8 (by simp; omega), w_succ (by omega)]
     rfl)
    (fun L4 s hi => by
     unfold f58_b4
     simp only
     rw [out1, cF]) KK 0 [] (by omega) (by have := KKlt (n := o.length) (by omega); omega) rfl
   unfold f58_l4
   refine Eq.trans h ?_
   rw [List.drop_zero, foldl_push, List.nil_append]
   congr 3
   refine congrArg (fun x => (l, x)) (list_ext0 (by simp [colT, h1]) ?_)
   intro k hk
   have hk : k < (cellsS l).length := by simpa [colT] using hk
   obtain ⟨j, h3, h4⟩ := h2 k hk
   have hk2 : k < o.length := by omega
   have h5 : o[k] = (j : Int) := by rw [← h3]; simp [List.getD, hk2]
   simp [colT, List.getD, hk, h4, hk2, h5]
  ·rw [dF htl]
   rfl
 ·rfl
theorem resTP_len {f : Int} {l : Lt} {g : List Mo} {t : List Vc} : (resTP f l g t).1.2.2.length ≤ 64 := by
 unfold resTP
 cases hc : codeT f l g t != 0
 ·have h0 : codeT f l g t = 0 := by simpa using hc
  have hcl := cellsS_le (codeT_0 h0).la
  cases decide (tilesP l g t)
  ·simp
  ·simp [colT]; omega
 ·simp
end Go.Proofs.YtfccacobkcglcaaGreat.X
