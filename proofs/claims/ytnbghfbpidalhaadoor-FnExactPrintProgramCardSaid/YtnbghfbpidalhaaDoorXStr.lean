/- Functions on strings that have contracts in the kit: numbers below 100 as text, and strings joined. -/
import Derived.Test.YtnbghfbpidalhaaDoorXStep
import Derived.Shelf.Strconv.Itoa4
import Derived.Shelf.Strings.OnBuilder
set_option linter.unusedSimpArgs false
set_option linter.unusedVariables false
namespace Go.Proofs.YtnbghfbpidalhaaDoor.X
open Go Go.RowKit Go.Shelf
def decF (u : Nat) : List UInt8 := bif Nat.blt u 10 then [UInt8.ofNat (48 + u)] else [UInt8.ofNat (48 + u / 10), UInt8.ofNat (48 + u % 10)]
theorem decF_eq {u : Nat} (h : u < 100) : Lib.decDigits u = decF u := by
 unfold decF
 by_cases h1 : u < 10
 ·rw [show Nat.blt u 10 = true by rw [Nat.blt_eq]; exact h1, cond_true, Lib.decDigits, dif_pos h1]
 ·have h2 : Nat.blt u 10 = false := by
   cases hb : Nat.blt u 10
   ·rfl
   ·rw [Nat.blt_eq] at hb; omega
  rw [h2, cond_false, Lib.decDigits, dif_neg h1, Lib.decDigits, dif_pos (show u / 10 < 10 by omega)]
  rfl
def fmtF (n b : Int) : Option ByteArray := bif decide (0 ≤ n) && (decide (n < 100) && (b == 10)) then some ⟨(decF n.toNat).toArray⟩ else none
def fmtM : Mdl := ⟨[(.ro, .int .i64), (.ro, .int .i64)], [.str], fun x => fmtF x.1 x.2.1⟩
theorem fmt_sound {P : Program} {ρ : Go.Shelf.Ren} {f : Nat} (L : Lays.n173 P ρ) (hf : ρ.f 173 = f) : Sound P f fmtM := by
 subst hf
 intro w x us Fs hA hap
 refine fun (y : ByteArray) hy => ?_
 obtain ⟨u1, us1, F1, Fs1, rfl, rfl, hlt1, ⟨cs1, rfl, h1⟩, u2, us2, F2, Fs2, rfl, rfl, hlt2, ⟨cs2, rfl, h2⟩, rfl, rfl⟩ := hA
 obtain ⟨a, b, x0⟩ := x
 have h1 : cs1 = [.int .i64 a] := h1
 have h2 : cs2 = [.int .i64 b] := h2
 subst h1 h2
 change fmtF a b = some y at hy
 unfold fmtF at hy
 cases hc : decide (0 ≤ a) && (decide (a < 100) && (b == 10))
 ·rw [hc] at hy; cases hy
 ·rw [hc, cond_true, Option.some.injEq] at hy
  simp only [Bool.and_eq_true, decide_eq_true_eq, beq_iff_eq] at hc
  obtain ⟨ha, hb, rfl⟩ := hc
  subst hy
  obtain ⟨n, rfl⟩ : ∃ n : Nat, a = (n : Int) := ⟨Int.toNat a, (Int.toNat_of_nonneg ha).symm⟩
  have hb' : (n : Int) < 100 := hb
  have hn : n < 100 := by omega
  refine (Any.strconv_FormatInt_10_small L n hn w).mono fun e' w' ⟨he, hw⟩ => ⟨_, he, ?_⟩
  subst hw
  rw [decF_eq hn]
  refine ⟨[_], [fun _ => False], rfl, Moves.refl _ _, ⟨_, _, _, _, [_], rfl, rfl, rfl, rfl, fun _ h => h.elim, ⟨rfl, rfl⟩⟩, fun G hG k hk => ?_⟩
  simp only [List.mem_cons, List.not_mem_nil, or_false] at hG
  subst hG
  exact hk.elim
def joinB (xs : List ByteArray) (sep : ByteArray) : ByteArray := ⟨(Lib.join (xs.map (·.data.toList)) sep.data.toList).toArray⟩
def joinF (xs : List ByteArray) (sep : ByteArray) : Option ByteArray := bif Nat.blt 0 xs.length && (Nat.ble xs.length 1000 && Nat.ble (Lib.join (xs.map (·.data.toList)) sep.data.toList).length 1000000) then some (joinB xs sep) else none
def joinM (e : Nat) : Mdl := ⟨[(.mv, .list e .str), (.ro, .str)], [.str], fun x => joinF x.1 x.2.1⟩
theorem join_sound {P : Program} {ρ : Go.Shelf.Ren} {f e : Nat} (L : Lays.n156 P ρ) (X : Builder.Extra P ρ) (hf : ρ.f 156 = f) : Sound P f (joinM e) := by
 subst hf
 intro w x us Fs hA hap
 refine fun (y : ByteArray) hy => ?_
 obtain ⟨u1, us1, F1, Fs1, rfl, rfl, hlt1, ⟨cs1, rfl, v, rfl, hOw⟩, u2, us2, F2, Fs2, rfl, rfl, hlt2, ⟨cs2, rfl, h2⟩, rfl, rfl⟩ := hA
 obtain ⟨xs, sep, x0⟩ := x
 have h2 : cs2 = [.string sep] := h2
 subst h2
 change joinF xs sep = some y at hy
 obtain ⟨css, ho, hl, hc, hb, G, hG, hd, hm⟩ := hOw
 unfold joinF at hy
 cases hcond : Nat.blt 0 xs.length && (Nat.ble xs.length 1000 && Nat.ble (Lib.join (xs.map (·.data.toList)) sep.data.toList).length 1000000)
 ·rw [hcond] at hy; cases hy
 ·rw [hcond, cond_true, Option.some.injEq] at hy
  simp only [Bool.and_eq_true, Nat.blt_eq, Nat.ble_eq] at hcond
  obtain ⟨h0, h3, h4⟩ := hcond
  subst hy
  rcases ho.2 with ⟨rfl, hn⟩ | ⟨gb, cap, cur, rfl, _, hheap, hncap, hcapm, hcs, htk⟩
  ·simp only at hn
   omega
  ·have hF1 : F1 gb := hb gb rfl
   have hblk : gb < w.heap.size := hlt1 gb hF1
   have hcells : ∀ (j : Nat) x, xs[j]? = some x → w.cell? ⟨gb, 0 + j, none⟩ = some (.string x) := fun j x hx => by
    have hj : j < css.length := by rw [hl]; exact (List.getElem?_eq_some_iff.1 hx).1
    have hr : css[j] = [.string x] := hm j x _ hx (List.getElem?_eq_getElem hj)
    have hf := flatten_get (sz := 1) (fun c hc' => (hc c hc').1) (j := j) (c := css[j]) (List.getElem?_eq_getElem hj) 0 (.string x) (by rw [hr]; rfl)
    have := ho.cells (g := gb) rfl j (.string x) (by
     rw [Nat.mul_one, Nat.add_zero] at hf
     exact hf)
    rw [add_plain] at this
    rw [Nat.zero_add]
    exact this
   refine (Any.strings_Join L X gb 0 cap xs sep w hcells hblk (Nat.le_trans h3 (by decide)) hncap (Nat.le_trans h4 (by decide))).mono fun e' w' ⟨he, hw⟩ => ⟨_, he, ?_⟩
   refine ⟨[_], [fun _ => False], rfl, ⟨Nat.le_refl 0, hw.os, hw.tape, hw.output, hw.size, fun k hk _ => hw.block k hk⟩, ⟨_, _, _, _, [_], rfl, rfl, rfl, rfl, fun _ h => h.elim, ⟨rfl, rfl⟩⟩, fun G hG k hk => ?_⟩
   simp only [List.mem_cons, List.not_mem_nil, or_false] at hG
   subst hG
   exact hk.elim
end Go.Proofs.YtnbghfbpidalhaaDoor.X
