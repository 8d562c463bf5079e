/- Plain facts: tiles, copies of tiles, and whether they tile. -/
import Derived.Test.YtniidcalfhhciaaGreatQfME
namespace Go.Proofs.YtniidcalfhhciaaGreat.X
open Go
set_option linter.unusedSimpArgs false
set_option linter.unusedVariables false
def tileP (t : List Vc) (q : Nat) (v : Vc) : Bool := vecB v && (Nat.beq q 0 || ltV (t.getD (q - 1) (0, 0)) v)
def tileB (t : List Vc) : Bool := allFrom (tileP t) 0 t && (decide (1 ≤ t.length) && decide (t.length ≤ 16))
def codeT (f : Int) (l : Lt) (g : List Mo) (t : List Vc) : Int := if okF f && okL l && tileB t then (if grpB f l g then 0 else 2) else 1
/-- what code 0 says -/
structure TileG (f : Int) (l : Lt) (g : List Mo) (t : List Vc) : Prop where
  fr : okF f = true
  la : IsL l
  pr : Pre f l g
  vec : ∀ v ∈ t, vecB v = true
  t1 : 1 ≤ t.length
  t2 : t.length ≤ 16
theorem vecB_Sv {v : Vc} (h : vecB v = true) : Sv v := by
  rw [vecB_iff] at h
  simp only [Sv]; omega
def mvS (l : Lt) (m : Mo) (v : Vc) : Vc := redS l (appS m v)
theorem l07Move_gen {l : Lt} (hl : IsL l) {m : Mo} (hm : GoodG m) {v : Vc} (hv : Sv v) : f171G KK l m v = some (mvS l m v) := by
  unfold f171G
  rw [l05Apply_eq (pm_sm hm.1) hv hm.2, Option.bind_some, l03Reduce_eq hl (appS_Sm (pm_sm hm.1) hv hm.2)]
  rfl
theorem take_gen {l : Lt} (hl : IsL l) {m : Mo} (hm : GoodG m) {v : Vc} (hv : Sv v) : f188G KK l m v = some (mvS l m v) := by
  unfold f188G
  rw [motApply_eq (pm_sm hm.1) hv hm.2, Option.bind_some, reduce_eq hl (appS_Sm (pm_sm hm.1) hv hm.2)]
  rfl
def cpsS (l : Lt) (g : List Mo) (t : List Vc) : List (List Vc) := g.map fun m => t.map (mvS l m)
end Go.Proofs.YtniidcalfhhciaaGreat.X
/-! Plain facts: whether copies tile, by the owners of cells and by the set of cells. -/
namespace Go.Proofs.YtniidcalfhhciaaGreat.X
open Go
set_option linter.unusedVariables false
/-! ### owners -/
def putR (i : Int) : List Nat → List Int → Option (List Int)
  | [], o => some o
  | n :: r, o => bif decide (o.getD n 0 ≥ 0) then none else putR i r (o.set n i)
def putA : List (List Nat) → Nat → List Int → Option (List Int)
  | [], _, o => some o
  | c :: r, i, o => match putR (i : Int) c o with | some o' => putA r (i + 1) o' | none => none
/-- the first copy that has a cell -/
def ownS : List (List Nat) → Nat → Nat → Option Nat
  | [], _, _ => none
  | c :: r, i, k => if k ∈ c then some i else ownS r (i + 1) k
/-! ### the set of cells -/
theorem full_of_len {α : Type} [DecidableEq α] (l m : List α) (hm : m.Nodup) (h1 : ∀ x ∈ m, x ∈ l) (h2 : l.length ≤ m.length) : ∀ x ∈ l, x ∈ m := fun x hx => by
  refine Decidable.byContradiction fun hn => ?_
  have := nodup_len m (l.erase x) hm fun y hy => (List.mem_erase_of_ne (fun (e : y = x) => hn (e ▸ hy))).2 (h1 y hy)
  rw [List.length_erase_of_mem hx] at this
  have := List.length_pos_of_mem hx
  omega
abbrev shV : Sh := .cons (.int .i64) (.int .i64)
def setV (xs : List (Vc × Bool)) (vs : List Vc) : List (Vc × Bool) := vs.foldl (fun s a => mput (eqSh shV) s a true) xs
/-- copies tile: no cell twice, and every cell -/
def tilesP (l : Lt) (g : List Mo) (t : List Vc) : Prop := (cpsS l g t).flatten.Nodup ∧ ∀ v ∈ cellsS l, v ∈ (cpsS l g t).flatten
instance (l : Lt) (g : List Mo) (t : List Vc) : Decidable (tilesP l g t) := by unfold tilesP; infer_instance
end Go.Proofs.YtniidcalfhhciaaGreat.X
/-! Plain facts: tilesByGroup and the owners decide the same. -/
namespace Go.Proofs.YtniidcalfhhciaaGreat.X
open Go
set_option linter.unusedVariables false
/-! ### the owners -/
def cnS (l : Lt) (C : List (List Vc)) : List (List Nat) := C.map fun c => c.map (numS l)
end Go.Proofs.YtniidcalfhhciaaGreat.X
