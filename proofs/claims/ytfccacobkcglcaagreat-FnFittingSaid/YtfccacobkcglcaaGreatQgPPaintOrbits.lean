/- The plain law of PaintOrbits: both sides give each cell the colour of its orbit. -/
import Derived.Test.YtfccacobkcglcaaGreatQgPOrbitNumbers
namespace Go.Proofs.YtfccacobkcglcaaGreat.X
open Go
set_option linter.unusedSimpArgs false
set_option linter.unusedVariables false
theorem num_in {f : Int} {l : Lt} {g : List Mo} (h : OrbG f l g) {k : Int} (hk : k ∈ numsF l g) : 0 ≤ k ∧ k < ((orbsS l g).length : Int) := by
 obtain ⟨v, hv, rfl⟩ := List.mem_map.1 hk
 rcases idxS_spec (fun o : List Vc => o.contains v) (orbsS l g) 0 with ⟨_, h2⟩ | ⟨j, h1, h2, _⟩
 ·have := orbs_all h (cellsS_cell hv)
  obtain ⟨o, ho, hc⟩ := List.any_eq_true.1 this
  rw [h2 o ho] at hc
  cases hc
 ·rw [h2]; omega
theorem numsF_len (l : Lt) (g : List Mo) : (numsF l g).length = (cellsS l).length := by simp [numsF]
def paintS (l : Lt) (g : List Mo) (c : List Int) : List Int := (numsF l g).map fun k => c.getD k.toNat 0
theorem fold_map {α β : Type} (φ : α → β) : ∀ (l : List α) (s : List β), l.foldl (fun s a => s ++ [φ a]) s = s ++ l.map φ
 | [], s => by simp
 | a :: l, s => by simp [fold_map φ l]
theorem spaint_eq {f : Int} {l : Lt} {g : List Mo} (h : OrbG f l g) {c : List Int} (hc : c.length = (orbsS l g).length) : f201G KK f l g c = some (f, l, paintS l g c) := by
 have hN := cellsS_le h.la
 have hL := numsF_len l g
 have hO := orbs_len h.la g
 have hh := iter_fold (R := Pt) (body := fun L x => f201_b3 KK f l g c (numsF l g) (fun v0 v1 => L (v0, v1)) x.1 x.2) (numsF l g) (fun q s => ((q : Int), s)) (fun s k => s ++ [c.getD k.toNat 0]) (fun s => some (f, l, s)) (fun q s => s.length = q)
  (fun L q s hq hi => by
   refine ⟨by simp [hi], ?_⟩
   obtain ⟨k1, k2⟩ := num_in h (gM hq)
   show f201_b3 KK f l g c (numsF l g) (fun v0 v1 => L (v0, v1)) (q : Int) s = _
   unfold f201_b3
   have e0 : ((0 : Int) + (numsF l g)[q]).toNat = ((numsF l g)[q]).toNat := by omega
   simp only [in1 hq, in0, gd hq, aS, cT, e0]
   rw [dT k1, dT (show (numsF l g)[q] < (c.length : Int) by omega), w_succ (by omega)]
   simp only [aS, cT]
   rw [blim8 (by simp; omega), cT])
  (fun L s hi => by
   show f201_b3 KK f l g c (numsF l g) (fun v0 v1 => L (v0, v1)) ((numsF l g).length : Int) s = _
   unfold f201_b3
   rw [out1, cF]) KK 0 [] (by omega) (by simp only [KK]; omega) rfl
 unfold f201G f201_g
 rw [l07Numbers_eq h, oB]
 rw [List.drop_zero, fold_map, List.nil_append] at hh
 exact hh
def resPO (f : Int) (l : Lt) (g : List Mo) (c : List Int) : Pt × Int := bif codeC f l g true != 0 then (dP, codeC f l g true) else bif (c.length == (orbsS l g).length) && c.all okC then ((f, l, paintS l g c), 0) else (dP, 2)
end Go.Proofs.YtfccacobkcglcaaGreat.X
