/- Plain facts: tiles, copies of tiles, and whether they tile. -/
import Derived.Test.YtfccacobkcglcaaGreatQeME
namespace Go.Proofs.YtfccacobkcglcaaGreat.X
open Go
set_option linter.unusedSimpArgs false
set_option linter.unusedVariables false
def tileP (t : List Vc) (q : Nat) (v : Vc) : Bool := vecB v && (Nat.beq q 0 || ltV (t.getD (q - 1) (0, 0)) v)
def tileB (t : List Vc) : Bool := allFrom (tileP t) 0 t && (decide (1 ≤ t.length) && decide (t.length ≤ 16))
def codeT (f : Int) (l : Lt) (g : List Mo) (t : List Vc) : Int := if okF f && okL l && tileB t then (if grpB f l g then 0 else 2) else 1
/-- what code 0 says -/
structure TileG (f : Int) (l : Lt) (g : List Mo) (t : List Vc) : Prop where
  fr : okF f = true
  la : IsL l
  pr : Pre f l g
  vec : ∀ v ∈ t, vecB v = true
  t1 : 1 ≤ t.length
  t2 : t.length ≤ 16
theorem vecB_Sv {v : Vc} (h : vecB v = true) : Sv v := by
  rw [vecB_iff] at h
  simp only [Sv]; omega
def mvS (l : Lt) (m : Mo) (v : Vc) : Vc := redS l (appS m v)
theorem l07Move_gen {l : Lt} (hl : IsL l) {m : Mo} (hm : GoodG m) {v : Vc} (hv : Sv v) : f185G KK l m v = some (mvS l m v) := by
  unfold f185G
  rw [l05Apply_eq (pm_sm hm.1) hv hm.2, Option.bind_some, l03Reduce_eq hl (appS_Sm (pm_sm hm.1) hv hm.2)]
  rfl
theorem take_gen {l : Lt} (hl : IsL l) {m : Mo} (hm : GoodG m) {v : Vc} (hv : Sv v) : f267G KK l m v = some (mvS l m v) := by
  unfold f267G
  rw [motApply_eq (pm_sm hm.1) hv hm.2, Option.bind_some, reduce_eq hl (appS_Sm (pm_sm hm.1) hv hm.2)]
  rfl
def cpsS (l : Lt) (g : List Mo) (t : List Vc) : List (List Vc) := g.map fun m => t.map (mvS l m)
theorem blim24 {n : Nat} (h : n ≤ 1000000) : Nat.ble n (lim 24) = true := by
  simp only [lim, Nat.ble_eq]; omega
end Go.Proofs.YtfccacobkcglcaaGreat.X
/-! Plain facts: whether copies tile, by the owners of cells and by the set of cells. -/
namespace Go.Proofs.YtfccacobkcglcaaGreat.X
open Go
set_option linter.unusedVariables false
/-! ### owners -/
def putR (i : Int) : List Nat → List Int → Option (List Int)
  | [], o => some o
  | n :: r, o => bif decide (o.getD n 0 ≥ 0) then none else putR i r (o.set n i)
def putA : List (List Nat) → Nat → List Int → Option (List Int)
  | [], _, o => some o
  | c :: r, i, o => match putR (i : Int) c o with | some o' => putA r (i + 1) o' | none => none
/-- the first copy that has a cell -/
def ownS : List (List Nat) → Nat → Nat → Option Nat
  | [], _, _ => none
  | c :: r, i, k => if k ∈ c then some i else ownS r (i + 1) k
/-! ### the set of cells -/
theorem full_of_len {α : Type} [DecidableEq α] (l m : List α) (hm : m.Nodup) (h1 : ∀ x ∈ m, x ∈ l) (h2 : l.length ≤ m.length) : ∀ x ∈ l, x ∈ m := fun x hx => by
  refine Decidable.byContradiction fun hn => ?_
  have := nodup_len m (l.erase x) hm fun y hy => (List.mem_erase_of_ne (fun (e : y = x) => hn (e ▸ hy))).2 (h1 y hy)
  rw [List.length_erase_of_mem hx] at this
  have := List.length_pos_of_mem hx
  omega
abbrev shV : Sh := .cons (.int .i64) (.int .i64)
def setV (xs : List (Vc × Bool)) (vs : List Vc) : List (Vc × Bool) := vs.foldl (fun s a => mput (eqSh shV) s a true) xs
/-- copies tile: no cell twice, and every cell -/
def tilesP (l : Lt) (g : List Mo) (t : List Vc) : Prop := (cpsS l g t).flatten.Nodup ∧ ∀ v ∈ cellsS l, v ∈ (cpsS l g t).flatten
instance (l : Lt) (g : List Mo) (t : List Vc) : Decidable (tilesP l g t) := by unfold tilesP; infer_instance
theorem cellsS_nodup {l : Lt} (hl : IsL l) : (cellsS l).Nodup := by
  rw [List.Nodup, List.pairwise_iff_getElem]
  intro i j hi hj hij e
  have h1 := cellsS_num hl hi
  have h2 := cellsS_num hl hj
  rw [e, h2] at h1
  omega
end Go.Proofs.YtfccacobkcglcaaGreat.X
/-! Plain facts: tilesByGroup and the owners decide the same. -/
namespace Go.Proofs.YtfccacobkcglcaaGreat.X
open Go
set_option linter.unusedVariables false
theorem len_eq {l : Lt} (hl : IsL l) : w (l.1 * l.2.2) = ((cellsS l).length : Int) := by
  rw [cellsS_len hl, idx_nat hl]
  have := hl.ix
  have : 0 ≤ l.1 * l.2.2 := Int.mul_nonneg (by have := hl.a1; omega) (by have := hl.c1; omega)
  exact w_id (by omega) (by omega)
/-! ### the owners -/
theorem l03Number_eq {l : Lt} (hl : IsL l) {v : Vc} (hv : cellB l v = true) : f127G KK l v = some ((numS l v : Nat) : Int) := by
  unfold f127G
  rw [l03Reduce_eq hl (Sv_Sm (cellB_Sv hl hv)), Option.bind_some, (num_calc hl v).1]
theorem numS_lt {l : Lt} (hl : IsL l) (v : Vc) : numS l v < (cellsS l).length := by
  have h1 := (num_calc hl v).2
  rw [cellsS_len hl]
  have := idx_nat hl
  omega
def cnS (l : Lt) (C : List (List Vc)) : List (List Nat) := C.map fun c => c.map (numS l)
theorem num_inj {l : Lt} (hl : IsL l) {u v : Vc} (hu : cellB l u = true) (hv : cellB l v = true) (h : numS l u = numS l v) : u = v := by
  obtain ⟨i, hi, e1⟩ := List.getElem_of_mem (cellB_mem hl hu)
  obtain ⟨j, hj, e2⟩ := List.getElem_of_mem (cellB_mem hl hv)
  have h1 := cellsS_num hl hi
  have h2 := cellsS_num hl hj
  rw [e1] at h1
  rw [e2] at h2
  have : i = j := by omega
  subst this
  rw [← e1, ← e2]
end Go.Proofs.YtfccacobkcglcaaGreat.X
