/- Plain facts: the standard groups, which both sides tell alike. -/
import Derived.Test.YtfccacobkcglcaaGreatQeNC
namespace Go.Proofs.YtfccacobkcglcaaGreat.X
open Go
set_option linter.unusedSimpArgs false
set_option linter.unusedVariables false
def stdT (n : Int) : List (Int × List Mo) :=
  [(0, []), (0, [((-1, 0, 0, -1), 0, 0)]), (0, [((1, 0, 0, -1), 0, 0)]), (0, [((1, 0, 0, -1), n, 0)]), (0, [((0, 1, 1, 0), 0, 0)]),
   (0, [((1, 0, 0, -1), 0, 0), ((-1, 0, 0, -1), 0, 0)]), (0, [((1, 0, 0, -1), n, 0), ((-1, 0, 0, -1), 0, 0)]), (0, [((1, 0, 0, -1), n, n), ((-1, 0, 0, -1), 0, 0)]),
   (0, [((0, 1, 1, 0), 0, 0), ((-1, 0, 0, -1), 0, 0)]), (0, [((0, -1, 1, 0), 0, 0)]), (0, [((0, -1, 1, 0), 0, 0), ((1, 0, 0, -1), 0, 0)]), (0, [((0, -1, 1, 0), 0, 0), ((1, 0, 0, -1), n, n)]),
   (1, [((-1, -1, 1, 0), 0, 0)]), (1, [((-1, -1, 1, 0), 0, 0), ((0, 1, 1, 0), 0, 0)]), (1, [((-1, -1, 1, 0), 0, 0), ((1, 1, 0, -1), 0, 0)]), (1, [((0, -1, 1, 1), 0, 0)]), (1, [((0, -1, 1, 1), 0, 0), ((0, 1, 1, 0), 0, 0)])]
def stdL (n : Int) : Lt := (w ((2 : Int) * n), 0, w ((2 : Int) * n))
def stdOk (n : Int) (m : Int × List Mo) : Bool := (m.2.all fun x => (stabS m.1 (stdL n)).contains x.1 && cellB (stdL n) x.2) && (okF m.1 && okL (stdL n))
theorem std_1 : (stdT 1).all (stdOk 1) = true := by kernel_rfl
theorem std_2 : (stdT 2).all (stdOk 2) = true := by kernel_rfl
theorem std_3 : (stdT 3).all (stdOk 3) = true := by kernel_rfl
theorem std_4 : (stdT 4).all (stdOk 4) = true := by kernel_rfl
theorem stdT_len {n : Int} {m : Int × List Mo} (hm : m ∈ stdT n) : m.2.length ≤ 2 := by
  have h : ((stdT n).all fun m => decide (m.2.length ≤ 2)) = true := rfl
  exact of_decide_eq_true (List.all_eq_true.1 h m hm)
theorem std_close {n : Int} (h1 : 1 ≤ n) (h2 : n ≤ 4) {m : Int × List Mo} (hm : m ∈ stdT n) : ∃ g, f205G KK (stdL n) m.2 = some g ∧ f253G KK (stdL n) m.2 = some g ∧ codeC m.1 (stdL n) g true = 0 := by
  have h : stdOk n m = true := by
    have : n = 1 ∨ n = 2 ∨ n = 3 ∨ n = 4 := by omega
    rcases this with rfl | rfl | rfl | rfl
    · exact List.all_eq_true.1 std_1 m hm
    · exact List.all_eq_true.1 std_2 m hm
    · exact List.all_eq_true.1 std_3 m hm
    · exact List.all_eq_true.1 std_4 m hm
  unfold stdOk at h
  simp only [Bool.and_eq_true] at h
  have hl := okL_iff.1 h.2.2
  have hg : ∀ x ∈ m.2, OkM m.1 (stdL n) x := fun x hx => by
    have := List.all_eq_true.1 h.1 x hx
    rw [Bool.and_eq_true, List.contains_iff_mem] at this
    exact this
  have hn := stdT_len hm
  obtain ⟨g, e1, e2, _⟩ := closeG_ok h.2.1 hl hg (by omega)
  exact ⟨g, (close_same hl hg (by omega)).trans e1, e1, e2⟩
theorem cndT {α : Type} (P : α → Prop) (b : Bool) {x y : α} (hx : P x) (hy : P y) : P (bif b then x else y) := by
  cases b
  · exact hy
  · exact hx
def stdP (n : Int) (o : Option (Int × List Mo × Bool)) : Prop := (∃ m ∈ stdT n, o = some (m.1, m.2, true)) ∨ o = some (0, [], false)
theorem stdP_in {n : Int} {f : Int} {ms : List Mo} (h : (f, ms) ∈ stdT n) : stdP n (some (f, ms, true)) := Or.inl ⟨(f, ms), h, rfl⟩
theorem std_tell (a : ByteArray) (n : Int) : stdP n (f252G KK a n) := by
  unfold f252G
  iterate 17 refine cndT (stdP n) _ (stdP_in (by simp [stdT])) ?_
  exact Or.inr rfl
theorem std_same (a : ByteArray) (n : Int) : f204G KK a n = f252G KK a n := by
  unfold f204G f252G
  rfl
abbrev Sgr := Int × Lt × List Mo × Int
theorem std_main (a : ByteArray) (n : Int) : ∃ r : Sgr, f143G KK a n = some r ∧ f86G KK a n = some r ∧ ((r.2.2.2 = 0 ∧ codeC r.1 r.2.1 r.2.2.1 true = 0 ∧ 1 ≤ n ∧ n ≤ 4) ∨ (r.2.2.2 ≠ 0 ∧ r.1 = 0 ∧ r.2.1 = (0, 0, 0) ∧ r.2.2.1 = [])) := by
  unfold f143G f86G
  rw [std_same]
  rcases std_tell a n with ⟨m, hm, e⟩ | e
  · rw [e]
    simp only [Option.bind_some, Bool.not_true, cond_false]
    rw [in_eq, within_eq]
    simp only [Option.bind_some]
    by_cases hn : 1 ≤ n ∧ n ≤ 4
    · obtain ⟨g, e1, e2, e3⟩ := std_close hn.1 hn.2 hm
      rw [decide_eq_true hn]
      simp only [Bool.not_true, cond_false]
      have e1' : f205G KK (w ((2 : Int) * n), 0, w ((2 : Int) * n)) m.2 = some g := e1
      have e2' : f253G KK (w ((2 : Int) * n), 0, w ((2 : Int) * n)) m.2 = some g := e2
      rw [e1', e2']
      exact ⟨_, rfl, rfl, Or.inl ⟨rfl, e3, hn.1, hn.2⟩⟩
    · rw [decide_eq_false hn]
      exact ⟨_, rfl, rfl, Or.inr ⟨by simp, rfl, rfl, rfl⟩⟩
  · rw [e]
    exact ⟨_, rfl, rfl, Or.inr ⟨by simp, rfl, rfl, rfl⟩⟩
end Go.Proofs.YtfccacobkcglcaaGreat.X
