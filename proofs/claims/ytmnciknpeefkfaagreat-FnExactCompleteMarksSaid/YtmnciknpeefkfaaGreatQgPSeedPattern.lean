/- The plain law of SeedPattern: both sides mark the cells of the orbit. -/
import Derived.Test.YtmnciknpeefkfaaGreatQgPOrbitOf
import Derived.Test.YtmnciknpeefkfaaGreatQgMN
namespace Go.Proofs.YtmnciknpeefkfaaGreat.X
open Go
set_option linter.unusedVariables false
def seedS (l : Lt) (o : List Vc) : List Int := setAll l 1 o (List.replicate (cellsS l).length 0)
theorem seedS_len (l : Lt) (o : List Vc) : (seedS l o).length = (cellsS l).length := by unfold seedS; rw [setAll_len]; simp
theorem make_ok {l : Lt} (hl : IsL l) : (decide (0 ≤ w (l.1 * l.2.2)) && Nat.ble (w (l.1 * l.2.2)).toNat (lim 8) && (w (l.1 * l.2.2) == w (l.1 * l.2.2))) = true ∧ (w (l.1 * l.2.2)).toNat = (cellsS l).length := by
  have hN := cellsS_le hl
  rw [len_eq hl]
  have e5 : (((cellsS l).length : Nat) : Int).toNat = (cellsS l).length := by omega
  rw [e5, in0, blim8 (by omega)]
  simp
theorem marked_eq {l : Lt} (hl : IsL l) (f : Int) {o : List Vc} (ho : ∀ u ∈ o, cellB l u = true) (hn : o.length ≤ 1000) : f81G KK f l o 1 = some (f, l, seedS l o) := by
  have hh := iter_fold (R := Pt) (body := fun L x => f81_b4 KK f l o 1 (fun v0 v1 => L (v0, v1)) x.1 x.2) o (fun q s => ((q : Int), s)) (fun s u => s.set (numS l u) 1) (fun s => some (f, l, s)) (fun q s => s.length = (cellsS l).length)
    (fun L q s hq hi => by
      refine ⟨by rw [List.length_set]; exact hi, ?_⟩
      show f81_b4 KK f l o 1 (fun v0 v1 => L (v0, v1)) (q : Int) s = _
      unfold f81_b4
      have hlt := numS_lt hl o[q]
      rw [in1 hq, in0, gd hq]
      simp only [Bool.and_self, cond_true]
      rw [number_eq hl (ho _ (List.getElem_mem hq)), Option.bind_some, in0, in1 (show numS l o[q] < s.length by omega), w_succ (by omega)]
      have e1 : ((0 : Int) + ((numS l o[q] : Nat) : Int)).toNat = numS l o[q] := by omega
      simp only [Bool.and_self, cond_true, e1])
    (fun L s hi => by
      show f81_b4 KK f l o 1 (fun v0 v1 => L (v0, v1)) (o.length : Int) s = _
      unfold f81_b4
      rw [out1, cond_false]) KK 0 (List.replicate (cellsS l).length 0) (by omega) (by simp only [KK]; omega) (by simp)
  unfold f81G f81_g f140G
  simp only [Option.bind_some]
  obtain ⟨e1, e2⟩ := make_ok hl
  rw [e1, cond_true, e2]
  rw [List.drop_zero] at hh
  exact hh
def resSP (f : Int) (l : Lt) (g : List Mo) (v : Vc) : Pt × Int := bif codeC f l g (cellB l v) != 0 then ((0, (0, 0, 0), []), codeC f l g (cellB l v)) else ((f, l, seedS l (orbS l g v)), 0)
theorem resSP_len {f : Int} {l : Lt} {g : List Mo} {v : Vc} : (resSP f l g v).1.2.2.length ≤ 1000 := by
  unfold resSP
  cases h : codeC f l g (cellB l v) != 0
  · have h0 : codeC f l g (cellB l v) = 0 := by simpa using h
    have := cellsS_le (codeC_0 h0).1.la
    have := seedS_len l (orbS l g v)
    rw [cond_false]
    simp only
    omega
  · simp
end Go.Proofs.YtmnciknpeefkfaaGreat.X
