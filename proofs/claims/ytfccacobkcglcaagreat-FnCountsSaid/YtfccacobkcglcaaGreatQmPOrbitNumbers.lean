/- Plain facts: marks in lists of lists of vectors. -/
import Derived.Test.YtfccacobkcglcaaGreatQmMJ
import Derived.Test.YtfccacobkcglcaaGreatQzXRow
namespace Go.Proofs.YtfccacobkcglcaaGreat.X
open Go
set_option linter.unusedSimpArgs false
set_option linter.unusedVariables false
def tot : List (List Vc) → Int
 | [] => 0
 | o :: r => 2 * (o.length : Int) + tot r
def Mk2 (k : Int) : List (List Vc) → Prop
 | [] => True
 | o :: r => MkV2 k o o.length ∧ Mk2 (k + 2 * (o.length : Int)) r
end Go.Proofs.YtfccacobkcglcaaGreat.X
namespace Go.Proofs.YtfccacobkcglcaaGreat.X
open Go
set_option linter.unusedVariables false
theorem pm_mul : ((pmQ.all fun m => pmQ.all fun n => pmQ.contains (mmS m n)) && (pmH.all fun m => pmH.all fun n => pmH.contains (mmS m n))) = true := by decide +kernel
theorem pmS_mul {f : Int} {m n : Mt} (hm : m ∈ pmS f) (hn : n ∈ pmS f) : mmS m n ∈ pmS f := by
 have h := pm_mul
 rw [Bool.and_eq_true] at h
 unfold pmS at *
 split
 ·rename_i e
  rw [if_pos e] at hm hn
  exact List.contains_iff_mem.1 (List.all_eq_true.1 (List.all_eq_true.1 h.1 m hm) n hn)
 ·rename_i e
  rw [if_neg e] at hm hn
  exact List.contains_iff_mem.1 (List.all_eq_true.1 (List.all_eq_true.1 h.2 m hm) n hn)
theorem pmS_one (f : Int) : ((1, 0, 0, 1) : Mt) ∈ pmS f := by
 unfold pmS
 split <;> decide
theorem stayL {l : Lt} (hl : IsL l) {m : Mt} : stayS l m = true ↔ InL l (mulS m (l.1, 0)) ∧ InL l (mulS m l.2) := by
 unfold stayS
 rw [Bool.and_eq_true, beq_iff_eq, beq_iff_eq, redS_InL hl, redS_InL hl]
theorem InL_b1 (l : Lt) : InL l (l.1, 0) := ⟨1, 0, by simp⟩
theorem InL_b2 (l : Lt) : InL l l.2 := ⟨0, 1, by simp⟩
theorem stab_mul {f : Int} {l : Lt} (hl : IsL l) {m n : Mt} (hm : m ∈ stabS f l) (hn : n ∈ stabS f l) : mmS m n ∈ stabS f l := by
 have hm1 := stab_stay hm
 have hn1 := (stayL hl).1 (stab_stay hn)
 refine List.mem_filter.2 ⟨pmS_mul (List.mem_filter.1 hm).1 (List.mem_filter.1 hn).1, (stayL hl).2 ⟨?_, ?_⟩⟩
 ·rw [mulS_mm]; exact InL_mul hl hm1 hn1.1
 ·rw [mulS_mm]; exact InL_mul hl hm1 hn1.2
theorem stab_one {f : Int} {l : Lt} (hl : IsL l) : ((1, 0, 0, 1) : Mt) ∈ stabS f l :=
 List.mem_filter.2 ⟨pmS_one f, (stayL hl).2 ⟨by rw [mulS_one]; exact InL_b1 l, by rw [mulS_one]; exact InL_b2 l⟩⟩
theorem allFrom_of {α : Type} {p : Nat → α → Bool} : ∀ {l : List α} {q : Nat}, (∀ i (h : i < l.length), p (q + i) l[i] = true) → allFrom p q l = true
 | [], _, _ => rfl
 | a :: l, q, h => by
  have h0 := h 0 (by simp)
  have h1 := allFrom_of (p := p) (l := l) (q := q + 1) fun i hi => by
   have := h (i + 1) (by simp; omega)
   have e : q + (i + 1) = q + 1 + i := by omega
   rw [e] at this
   simpa using this
  simp only [allFrom]
  simp only [Nat.add_zero, List.getElem_cons_zero] at h0
  rw [h0, h1]
  rfl
theorem grpB_of {f : Int} {l : Lt} (hl : IsL l) {g : List Mo} (h1 : ∀ m ∈ g, m.1 ∈ stabS f l ∧ cellB l m.2 = true) (h2 : g.Pairwise fun a b => ltM a b = true) (h3 : uMo ∈ g) (h4 : ∀ m ∈ g, ∀ n ∈ g, mulG l m n ∈ g) : grpB f l g = true := by
 unfold grpB
 rw [Bool.and_eq_true, Bool.and_eq_true]
 refine ⟨allFrom_of fun i hi => ?_, List.contains_iff_mem.2 h3, List.all_eq_true.2 fun m hm => List.all_eq_true.2 fun n hn => List.contains_iff_mem.2 (h4 m hm n hn)⟩
 obtain ⟨a1, a2⟩ := h1 _ (List.getElem_mem hi)
 unfold preP
 rw [List.contains_iff_mem.2 a1, a2, Nat.zero_add]
 cases i with
 | zero => rfl
 | succ j =>
  have := List.pairwise_iff_getElem.1 h2 j (j + 1) (by omega) hi (by omega)
  have e : (g.getD (j + 1 - 1) dMo) = g[j] := by simp [List.getD, show j < g.length by omega]
  rw [e, this]
  simp
end Go.Proofs.YtfccacobkcglcaaGreat.X
namespace Go.Proofs.YtfccacobkcglcaaGreat.X
open Go
set_option linter.unusedVariables false
def dP : Pt := (0, (0, 0, 0), [])
theorem codeG_C (f : Int) (l : Lt) (g : List Mo) : codeG f l g = codeC f l g true := by
 unfold codeG codeC
 rw [Bool.true_and]
theorem groupCode_C (f : Int) (l : Lt) {g : List Mo} (hn : g.length ≤ 1048576) : f257G KK f l [g] = some (codeC f l g true) := by
 rw [groupCode_eq f l hn, codeG_C]
def codeK (p : Pt) (g : List Mo) : Int := bif okP p then (if grpB p.1 p.2.1 g then 0 else 2) else 1
def keptS (p : Pt) (g : List Mo) : Bool := g.all (keepsS p)
end Go.Proofs.YtfccacobkcglcaaGreat.X
namespace Go.Proofs.YtfccacobkcglcaaGreat.X
open Go
set_option linter.unusedVariables false
def resOrb (f : Int) (l : Lt) (g : List Mo) (v : Vc) : List Vc × Int := bif codeC f l g (cellB l v) != 0 then ([], codeC f l g (cellB l v)) else (orbS l g v, 0)
end Go.Proofs.YtfccacobkcglcaaGreat.X
namespace Go.Proofs.YtfccacobkcglcaaGreat.X
open Go
set_option linter.unusedVariables false
def seedS (l : Lt) (o : List Vc) : List Int := setAll l 1 o (List.replicate (cellsS l).length 0)
def resSP (f : Int) (l : Lt) (g : List Mo) (v : Vc) : Pt × Int := bif codeC f l g (cellB l v) != 0 then ((0, (0, 0, 0), []), codeC f l g (cellB l v)) else ((f, l, seedS l (orbS l g v)), 0)
end Go.Proofs.YtfccacobkcglcaaGreat.X
namespace Go.Proofs.YtfccacobkcglcaaGreat.X
open Go
set_option linter.unusedVariables false
def resON (f : Int) (l : Lt) (g : List Mo) : List Int × Int := bif codeC f l g true != 0 then ([], codeC f l g true) else (numsF l g, 0)
end Go.Proofs.YtfccacobkcglcaaGreat.X
