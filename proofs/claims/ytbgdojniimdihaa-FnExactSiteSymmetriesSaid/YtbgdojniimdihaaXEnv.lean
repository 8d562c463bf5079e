/- What is told of the program's types, and what the machine does with them. -/
import Derived.Test.YtbgdojniimdihaaXGrow
import Derived.Laws.StructEq
import Derived.Laws.Concat
namespace Go.Proofs.Ytbgdojniimdihaa.X
open Go Go.RowKit
variable {P : Program}
/-- the cells of a zero value -/
def zerosV : Sh → Option (List Value)
  | .int k => some [.int k 0]
  | .bool => some [.bool false]
  | .str => some [.string ByteArray.empty]
  | .list _ _ => some [.slice none 0 0]
  | .cons a b => match zerosV a, zerosV b with | some x, some y => some (x ++ y) | _, _ => none
  | _ => none
def aggOf (P : Program) (t : Nat) : Option Bool :=
  match P.underlying t with
  | some (.struct _) | some (.array _ _) => some true
  | some _ => some false
  | none => none
structure TyOK (P : Program) (t : Nat) (s : Sh) : Prop where
  info : ∃ i z, P.info? t = some i ∧ i.size = s.n ∧ i.zero = some z ∧ ∃ cs, zerosV s = some cs ∧ z = packB s.agg cs
  agg : aggOf P t = some s.agg
def DescOK (P : Program) (t : Nat) : Ty → Prop
  | .sc (.int k) => P.underlying t = some (.int k)
  | .sc .bool => P.underlying t = some .bool
  | .sc .str => P.underlying t = some .string
  | .sc _ => False
  | .st s fs => s.agg = true ∧ ∃ fds, P.underlying t = some (.struct fds) ∧ fds.toList.mapM (fun f => (P.info? f.type).map fun i => (f.offset, i.size)) = some fs ∧ ∀ (j off n : Nat), fs[j]? = some (off, n) → ∃ fd i, fds[j]? = some fd ∧ fd.offset = off ∧ P.info? fd.type = some i ∧ i.size = n ∧ 0 < n ∧ aggOf P fd.type = some (Nat.blt 1 n)
  | .sl e s b => P.underlying t = some (.slice e) ∧ TyOK P e s ∧ (∀ i, P.info? e = some i → i.bytes = b)
structure TypeOK (P : Program) (t : Nat) (ty : Ty) : Prop where
  ok : TyOK P t ty.sh
  desc : DescOK P t ty
theorem run_isAgg {t : Nat} {b : Bool} (h : aggOf P t = some b) (w : World) : (isAgg t).run P w = .ok b w := by
  unfold aggOf at h
  cases hu : P.underlying t with
  | none => rw [hu] at h; cases h
  | some d =>
    rw [hu] at h
    simp only [isAgg, Sem.run_bind, run_underlying hu, Result.andThen_ok]
    cases d <;> simp at h <;> subst h <;> rfl
theorem TyOK.sizeOf {t : Nat} {s : Sh} (h : TyOK P t s) (w : World) : (sizeOf t).run P w = .ok s.n w := by
  obtain ⟨i, z, hi, hs, _⟩ := h.info
  simp [Go.sizeOf, typeInfo, hi, hs]
theorem TyOK.isAgg {t : Nat} {s : Sh} (h : TyOK P t s) (w : World) : (isAgg t).run P w = .ok s.agg w := run_isAgg h.agg w
theorem TyOK.zero {t : Nat} {s : Sh} (h : TyOK P t s) {cs : List Value} (hz : zerosV s = some cs) (w : World) : (zeroValue t).run P w = .ok (packB s.agg cs) w := by
  obtain ⟨i, z, hi, hs, hz', cs', h1, h2⟩ := h.info
  rw [hz] at h1
  cases h1
  rw [← h2]
  simp [zeroValue, typeInfo, hi, hz']
theorem zerosV_len : (s : Sh) → ∀ {cs}, zerosV s = some cs → cs.length = s.n
  | .int _, _, h | .bool, _, h | .str, _, h | .list _ _, _, h => by cases h; rfl
  | .cons a b, cs, h => by
    simp only [zerosV] at h
    split at h
    · rename_i x y hx hy
      cases h
      simp [Sh.n, zerosV_len a hx, zerosV_len b hy]
    · cases h
theorem zerosV_one : (s : Sh) → ∀ {cs}, zerosV s = some cs → ∀ u ∈ cs, u.oneCell' = true
  | .int _, _, h | .bool, _, h | .str, _, h | .list _ _, _, h => by cases h; simp [Value.oneCell']
  | .cons a b, cs, h => by
    simp only [zerosV] at h
    split at h
    · rename_i x y hx hy
      cases h
      intro u hu
      rcases List.mem_append.1 hu with hu | hu
      · exact zerosV_one a hx u hu
      · exact zerosV_one b hy u hu
    · cases h
theorem zeroSh_rel {C : Cx} {g : Sg} : (s : Sh) → ∀ {ls}, zeroSh s = some ls → ∃ cs, zerosV s = some cs ∧ LfsR C g ls cs
  | .int k, _, h => by cases h; exact ⟨_, rfl, _, _, rfl, rfl, rfl⟩
  | .bool, _, h => by cases h; exact ⟨_, rfl, _, _, rfl, rfl, rfl⟩
  | .str, _, h => by cases h; exact ⟨_, rfl, _, _, rfl, rfl, rfl⟩
  | .list _ _, _, h => by cases h; exact ⟨_, rfl, _, _, rfl, rfl, rfl⟩
  | .cons a b, _, h => by
    simp only [zeroSh] at h
    split at h
    · rename_i x y hx hy
      cases h
      obtain ⟨c1, e1, r1⟩ := zeroSh_rel (C := C) (g := g) a hx
      obtain ⟨c2, e2, r2⟩ := zeroSh_rel (C := C) (g := g) b hy
      exact ⟨c1 ++ c2, by simp [zerosV, e1, e2], r1.append r2⟩
    · cases h
theorem Sh.n_one {s : Sh} (h : s.agg = false) : s.n = 1 := by cases s <;> simp_all [Sh.agg, Sh.n]
theorem packB_cells {b : Bool} {cs : List Value} (hb : b = false → cs.length = 1) (h1 : ∀ u ∈ cs, u.oneCell' = true) : (packB b cs).cells.toList = cs := by
  cases b with
  | true => simp [packB, Value.cells]
  | false =>
    have := hb rfl
    match cs, this with
    | [u], _ =>
      have := h1 u (by simp)
      simp only [packB, cond_false, List.headD_cons]
      cases u <;> simp_all [Value.cells, Value.oneCell']
theorem packB_size {b : Bool} {cs : List Value} (hb : b = false → cs.length = 1) (h1 : ∀ u ∈ cs, u.oneCell' = true) : (packB b cs).cells.size = cs.length := by
  rw [← Array.length_toList, packB_cells hb h1]
theorem zeros_cells {s : Sh} {cs : List Value} (h : zerosV s = some cs) : (packB s.agg cs).cells.toList = cs := packB_cells (fun hb => by rw [zerosV_len s h, Sh.n_one hb]) (zerosV_one s h)
/-- a variable is read -/
theorem run_loadVar_list {t : Nat} {s : Sh} (h : TyOK P t s) (w : World) (A : Addr) (cs : List Value) (hl : cs.length = s.n) (hc : ∀ i u, cs[i]? = some u → w.cell? (A.add i) = some u) :
    (loadVar t A).run P w = .ok (packB s.agg cs) w := by
  simp only [loadVar, Sem.run_bind, h.isAgg, Result.andThen_ok]
  cases ha : s.agg with
  | true =>
    have hr := run_loadCells_list (P := P) w A cs hc
    rw [hl] at hr
    simp [h.sizeOf, hr, packB]
  | false =>
    rw [Sh.n_one ha] at hl
    match cs, hl with
    | [u], _ =>
      have := hc 0 u rfl
      rw [Addr.add_zero'] at this
      simp [load, Sem.run, this, packB]
/-- a variable is written -/
theorem run_storeVar_at {t : Nat} {s : Sh} (h : TyOK P t s) (w : World) (k off : Nat) (old : Array Value) (ty : TypeId) (hk : w.heap[k]? = some (.cells old ty (0, 0))) (v : Value) (cs : List Value)
    (hv : v.cells.toList = cs) (hl : cs.length = s.n) (h1 : ∀ u ∈ cs, u.oneCell' = true) (hf : off + s.n ≤ old.size) :
    (storeVar t ⟨k, off, none⟩ v).run P w = .ok () (w.setRow k (old.toList.take off ++ cs ++ old.toList.drop (off + cs.length)).toArray) := by
  have hsz : v.cells.size = s.n := by rw [← hl, ← hv]; simp
  have hst := run_storeCells_at P k off ty cs 0 old w hk (by omega) h1
  simp only [Nat.add_zero] at hst
  simp [storeVar, h.sizeOf, hsz, hv, hst]
/-- a type whose values may be compared cell by cell: how many cells it has -/
def eqFs (f : TypeId → Option Nat) (P : Program) : List Field → Nat → Option Nat
  | [], off => some off
  | fd :: r, off => if fd.name ≠ "_" ∧ fd.offset = off then (match f fd.type, P.info? fd.type, aggOf P fd.type with
      | some n, some i, some ag => if i.size = n ∧ (ag = false → n = 1) then eqFs f P r (off + n) else none
      | _, _, _ => none) else none
def eqT (P : Program) : Nat → TypeId → Option Nat
  | 0, _ => none
  | m + 1, t => match P.underlying t with
    | some (.int _) | some .bool | some .string => some 1
    | some (.struct fs) => if P.stoodInHeld t = false ∧ P.eqGuardType P.depth t = false then eqFs (eqT P m) P fs.toList 0 else none
    | _ => none
/-- the kinds of a type's cells -/
inductive Kd where | int (k : IntKind) | bool | str
def Kd.of : Kd → Value → Prop
  | .int k, v => ∃ n, v = .int k n
  | .bool, v => ∃ n, v = .bool n
  | .str, v => ∃ n, v = .string n
def kdsF (f : TypeId → List Kd) : List Field → List Kd
  | [] => []
  | fd :: r => f fd.type ++ kdsF f r
def kds (P : Program) : Nat → TypeId → List Kd
  | 0, _ => []
  | m + 1, t => match P.underlying t with
    | some (.int k) => [.int k]
    | some .bool => [.bool]
    | some .string => [.str]
    | some (.struct fs) => kdsF (kds P m) fs.toList
    | _ => []
def kdSh : Sh → Option Kd
  | .int k => some (.int k) | .bool => some .bool | .str => some .str | _ => none
def kdShs : List Sh → Option (List Kd)
  | [] => some []
  | s :: r => match kdSh s, kdShs r with | some a, some b => some (a :: b) | _, _ => none
end Go.Proofs.Ytbgdojniimdihaa.X
