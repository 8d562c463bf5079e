/- Functions on strings that have contracts in the kit: numbers as text and back, strings joined, split, cut and searched. -/
import Derived.Test.YthlpehmnjanmnaaGreatDoorQyXStep
import Derived.Shelf.Strconv.Itoa4
import Derived.Shelf.Strconv.ParseIntPublic10
import Derived.Shelf.Strings.Split
import Derived.Shelf.Strings.Cut
import Derived.Shelf.Strings.Search3
import Derived.Shelf.Strings.OnBuilder
set_option linter.unusedSimpArgs false
set_option linter.unusedVariables false
set_option linter.unusedSectionVars false
namespace Go.Proofs.YthlpehmnjanmnaaGreatDoor.X
open Go Go.RowKit Go.Shelf
def inI64 (n : Int) : Bool := decide (-9223372036854775808 ≤ n) && decide (n ≤ 9223372036854775807)
def itoaB (n : Int) : ByteArray := ⟨(Lib.itoa n).toArray⟩
def fmtF (n b : Int) : Option ByteArray := bif inI64 n && (b == 10) then some (itoaB n) else none
def fmtM : Mdl := ⟨[(.ro, .int .i64), (.ro, .int .i64)], [.str], fun x => fmtF x.1 x.2.1⟩
theorem moves_grow [CW] {D : FP} (w : World) (k : Nat) (os : Array Obj) : Moves D w (Sort.grow (w.drewN k) os) := by
 refine ⟨CW.mono (show w.drawn ≤ w.drawn + k by omega), rfl, rfl, rfl, ?_, fun j hj _ => ?_⟩
 ·show w.heap.size ≤ (w.heap ++ os).size
  rw [Array.size_append]
  omega
 ·show (w.heap ++ os)[j]? = w.heap[j]?
  rw [Array.getElem?_append_left hj]
theorem str_post [CW] {w w' : World} {a b : Sh} {F : AT [(.ro, a), (.ro, b)] → Option ByteArray} {us : List Value} {Fs : List FP} (hu : ∃ u v, us = [u, v]) (hF : ∃ G H, Fs = [G, H]) {y : ByteArray} (hM : Moves (fun _ => False) w w') : Post w ⟨[(.ro, a), (.ro, b)], [.str], F⟩ us Fs y (.string y) w' := by
 obtain ⟨u, v, rfl⟩ := hu
 obtain ⟨G, H, rfl⟩ := hF
 refine ⟨[_], [fun _ => False], rfl, ⟨hM.drawn, hM.os, hM.tape, hM.output, hM.size, fun k hk _ => hM.block k hk id⟩, ⟨_, _, _, _, [_], rfl, rfl, rfl, rfl, fun _ h => h.elim, ⟨rfl, rfl⟩⟩, fun G hG k hk => ?_⟩
 simp only [List.mem_cons, List.not_mem_nil, or_false] at hG
 subst hG
 exact hk.elim
theorem fmt_sound [CW] {P : Program} {ρ : Go.Shelf.Ren} {f : Nat} (L : LaysM.n173 P ρ) (hf : ρ.f 173 = f) (ht : ∀ w, Tabs w → Lib.TabIs P w "internal/strconv.uint64pow10" .u64 Lib.pow10Tab) : Sound P f fmtM := by
 subst hf
 intro w x us Fs hW hgf hA hap
 refine fun (y : ByteArray) hy => ?_
 obtain ⟨u1, us1, F1, Fs1, rfl, rfl, hlt1, ⟨cs1, rfl, h1⟩, u2, us2, F2, Fs2, rfl, rfl, hlt2, ⟨cs2, rfl, h2⟩, rfl, rfl⟩ := hA
 obtain ⟨a, b, x0⟩ := x
 have h1 : cs1 = [.int .i64 a] := h1
 have h2 : cs2 = [.int .i64 b] := h2
 subst h1 h2
 change fmtF a b = some y at hy
 unfold fmtF at hy
 cases hc : inI64 a && (b == 10)
 ·rw [hc] at hy; cases hy
 ·rw [hc, cond_true, Option.some.injEq] at hy
  simp only [inI64, Bool.and_eq_true, decide_eq_true_eq, beq_iff_eq] at hc
  obtain ⟨⟨ha, hb⟩, rfl⟩ := hc
  subst hy
  refine (Any.strconv_FormatInt_10 L a ha hb w (ht w hW)).mono fun e' w' ⟨he, k, os, hw⟩ => ⟨_, he, ?_⟩
  subst hw
  exact str_post ⟨_, _, rfl⟩ ⟨_, _, rfl⟩ (moves_grow w k os)
def idxF (s t : ByteArray) : Option Int := bif Nat.blt s.size 4294967281 then some (Lib.index s.data.toList t.data.toList) else none
def idxM : Mdl := ⟨[(.ro, .str), (.ro, .str)], [.int .i64], fun x => idxF x.1 x.2.1⟩
def cutF (s t : ByteArray) : Option (ByteArray × ByteArray × Bool) := bif Nat.blt s.size 4294967281 then some (⟨(Lib.cut s.data.toList t.data.toList).1.toArray⟩, ⟨(Lib.cut s.data.toList t.data.toList).2.1.toArray⟩, (Lib.cut s.data.toList t.data.toList).2.2) else none
def cutM : Mdl := ⟨[(.ro, .str), (.ro, .str)], [.str, .str, .bool], fun x => cutF x.1 x.2.1⟩
def splitF (s t : ByteArray) : Option (List ByteArray) := bif Nat.blt s.size 4294967281 && Nat.ble 1 t.size then some (Lib.splitB t 0 (Lib.countB s t) s) else none
def splitM (e : Nat) : Mdl := ⟨[(.ro, .str), (.ro, .str)], [.list e .str], fun x => splitF x.1 x.2.1⟩
def numF (s : ByteArray) : Option (Int × Bool) := bif Nat.ble s.size 140737488355328 then (match Lib.parseIntB 64 s.data.toList with
 | .ok v => some (v, itoaB v == s)
 | .range => some (Lib.intSat 64 s.data.toList, false)
 | _ => some (0, false)) else none
def joinB (xs : List ByteArray) (sep : ByteArray) : ByteArray := ⟨(Lib.join (xs.map (·.data.toList)) sep.data.toList).toArray⟩
def joinF (xs : List ByteArray) (sep : ByteArray) : Option ByteArray := bif Nat.blt 0 xs.length && (Nat.ble xs.length 1000 && Nat.ble (Lib.join (xs.map (·.data.toList)) sep.data.toList).length 1000000) then some (joinB xs sep) else none
def joinM (e : Nat) : Mdl := ⟨[(.mv, .list e .str), (.ro, .str)], [.str], fun x => joinF x.1 x.2.1⟩
theorem join_sound {P : Program} {ρ : Go.Shelf.Ren} {f e : Nat} (L : Lays.n156 P ρ) (X : Builder.Extra P ρ) (hf : ρ.f 156 = f) : @Sound cwZ P f (joinM e) := by
 subst hf
 intro w x us Fs hW hgf hA hap
 refine fun (y : ByteArray) hy => ?_
 obtain ⟨u1, us1, F1, Fs1, rfl, rfl, hlt1, ⟨cs1, rfl, v, rfl, hOw⟩, u2, us2, F2, Fs2, rfl, rfl, hlt2, ⟨cs2, rfl, h2⟩, rfl, rfl⟩ := hA
 obtain ⟨xs, sep, x0⟩ := x
 have h2 : cs2 = [.string sep] := h2
 subst h2
 change joinF xs sep = some y at hy
 obtain ⟨css, ho, hl, hc, hb, G, hG, hd, hm⟩ := hOw
 unfold joinF at hy
 cases hcond : Nat.blt 0 xs.length && (Nat.ble xs.length 1000 && Nat.ble (Lib.join (xs.map (·.data.toList)) sep.data.toList).length 1000000)
 ·rw [hcond] at hy; cases hy
 ·rw [hcond, cond_true, Option.some.injEq] at hy
  simp only [Bool.and_eq_true, Nat.blt_eq, Nat.ble_eq] at hcond
  obtain ⟨h0, h3, h4⟩ := hcond
  subst hy
  rcases ho.2 with ⟨rfl, hn⟩ | ⟨gb, cap, cur, rfl, _, hheap, hncap, hcapm, hcs, htk⟩
  ·simp only at hn
   omega
  ·have hF1 : F1 gb := hb gb rfl
   have hblk : gb < w.heap.size := hlt1 gb hF1
   have hcells : ∀ (j : Nat) x, xs[j]? = some x → w.cell? ⟨gb, 0 + j, none⟩ = some (.string x) := fun j x hx => by
    have hj : j < css.length := by rw [hl]; exact (List.getElem?_eq_some_iff.1 hx).1
    have hr : css[j] = [.string x] := hm j x _ hx (List.getElem?_eq_getElem hj)
    have hf := flatten_get (sz := 1) (fun c hc' => (hc c hc').1) (j := j) (c := css[j]) (List.getElem?_eq_getElem hj) 0 (.string x) (by rw [hr]; rfl)
    have := ho.cells (g := gb) rfl j (.string x) (by
     rw [Nat.mul_one, Nat.add_zero] at hf
     exact hf)
    rw [add_plain] at this
    rw [Nat.zero_add]
    exact this
   refine (Any.strings_Join L X gb 0 cap xs sep w hcells hblk (Nat.le_trans h3 (by decide)) hncap (Nat.le_trans h4 (by decide))).mono fun e' w' ⟨he, hw⟩ => ⟨_, he, ?_⟩
   refine ⟨[_], [fun _ => False], rfl, @Moves.mk cwZ _ _ _ (Nat.le_refl 0) hw.os hw.tape hw.output hw.size fun k hk _ => hw.block k hk, ⟨_, _, _, _, [_], rfl, rfl, rfl, rfl, fun _ h => h.elim, ⟨rfl, rfl⟩⟩, fun G hG k hk => ?_⟩
   simp only [List.mem_cons, List.not_mem_nil, or_false] at hG
   subst hG
   exact hk.elim
end Go.Proofs.YthlpehmnjanmnaaGreatDoor.X
