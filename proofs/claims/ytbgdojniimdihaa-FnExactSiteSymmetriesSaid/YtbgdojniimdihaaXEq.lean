/- Structs that are compared; and the operators with two operands. -/
import Derived.Test.YtbgdojniimdihaaXOp
namespace Go.Proofs.Ytbgdojniimdihaa.X
open Go Go.RowKit
variable {P : Program}
theorem run_part {t : TypeId} {ag : Bool} {n : Nat} {i : TypeInfo} (hag : aggOf P t = some ag) (hi : P.info? t = some i) (hn : i.size = n) (h1 : ag = false → n = 1) (us : List Value) (off : Nat) (hle : off + n ≤ us.length) (w : World) :
    (part t us.toArray off).run P w = .ok (packB ag ((us.drop off).take n)) w := by
  simp only [part, Sem.run_bind, run_isAgg hag, Result.andThen_ok]
  cases ag with
  | true =>
    simp only [if_true, Sem.run_bind, sizeOf, typeInfo]
    simp [hi, hn, packB, List.extract_eq_take_drop]
  | false =>
    have h1 := h1 rfl
    subst h1
    have hlt : off < us.length := by omega
    have e2 : (us.drop off).take 1 = [us[off]] := by rw [List.drop_eq_getElem_cons hlt]; rfl
    simp [packB, e2, hlt]
def eqV : Value → Value → Option Bool
  | .int k a, .int k' b => if k = k' then some (a == b) else none
  | .bool a, .bool b => some (a == b)
  | .string a, .string b => some (a == b)
  | _, _ => none
def eqVs : List Value → List Value → Option Bool
  | [], [] => some true
  | x :: r, y :: r' => match eqV x y, eqVs r r' with
    | some s, some t => some (s && t)
    | _, _ => none
  | _, _ => none
theorem eqVs_append : ∀ {a b : List Value} (c d : List Value), a.length = b.length → eqVs (a ++ c) (b ++ d) = match eqVs a b, eqVs c d with | some s, some t => some (s && t) | _, _ => none
  | [], [], c, d, _ => by cases h : eqVs c d <;> simp [eqVs, h]
  | x :: a, y :: b, c, d, h => by
    have ih := eqVs_append (a := a) (b := b) c d (by simpa using h)
    simp only [List.cons_append, eqVs]
    rw [ih]
    cases eqV x y <;> cases eqVs a b <;> cases eqVs c d <;> simp [Bool.and_assoc]
theorem eqV_run {t : TypeId} (d : Nat) {x y : Value} {b : Bool} (h : eqV x y = some b) (hu : (∃ k, P.underlying t = some (.int k) ∧ ∃ n, x = .int k n) ∨ (P.underlying t = some .bool ∧ ∃ n, x = .bool n) ∨ (P.underlying t = some .string ∧ ∃ n, x = .string n)) (w : World) : (Op.equalIn (d + 1) t x y).run P w = .ok b w := by
  unfold eqV at h
  split at h
  · split at h
    · rename_i e
      subst e
      cases h
      rcases hu with ⟨k, hu, _⟩ | ⟨_, n, e⟩ | ⟨_, n, e⟩
      · exact run_equalIn_int w d t _ _ _ _ hu
      · cases e
      · cases e
    · cases h
  · cases h
    rcases hu with ⟨k, _, n, e⟩ | ⟨hu, _⟩ | ⟨_, n, e⟩
    · cases e
    · exact run_equalIn_bool w d t _ _ hu
    · cases e
  · cases h
    rcases hu with ⟨k, _, n, e⟩ | ⟨_, n, e⟩ | ⟨hu, _⟩
    · cases e
    · cases e
    · rw [beq_toListBytes]; exact run_equalIn_string w d t _ _ hu
  · cases h
def OfKds : List Kd → List Value → Prop
  | [], us => us = []
  | k :: r, us => ∃ u t, us = u :: t ∧ k.of u ∧ OfKds r t
theorem OfKds.append : ∀ {a b : List Kd} {us : List Value}, OfKds (a ++ b) us → ∃ u v, us = u ++ v ∧ OfKds a u ∧ OfKds b v
  | [], _, us, h => ⟨[], us, rfl, rfl, h⟩
  | _ :: _, _, _, ⟨u, t, e, hk, h⟩ => by
    obtain ⟨x, y, rfl, h1, h2⟩ := OfKds.append h
    exact ⟨u :: x, y, by simp [e], ⟨u, x, rfl, hk, h1⟩, h2⟩
theorem OfKds.len : ∀ {a : List Kd} {us : List Value}, OfKds a us → us.length = a.length
  | [], _, h => by cases h; rfl
  | _ :: _, _, ⟨u, t, e, _, h⟩ => by subst e; simp [OfKds.len h]
theorem eqFs_run (m d : Nat) (f : TypeId → Option Nat) (kf : TypeId → List Kd)
    (ih : ∀ t n, f t = some n → ∀ ag, aggOf P t = some ag → (ag = false → n = 1) → (kf t).length = n ∧ ∀ xs ys b (w : World), OfKds (kf t) xs → OfKds (kf t) ys → eqVs xs ys = some b → (Op.equalIn d t (packB ag xs) (packB ag ys)).run P w = .ok b w) :
    ∀ (fs : List Field) (off n : Nat), eqFs f P fs off = some n → ∀ (px py xs ys : List Value) (b : Bool) (w : World), px.length = off → py.length = off → OfKds (kdsF kf fs) xs → OfKds (kdsF kf fs) ys → eqVs xs ys = some b →
      off + (kdsF kf fs).length = n ∧ (Op.eqFields d (px ++ xs).toArray (py ++ ys).toArray fs).run P w = .ok b w
  | [], off, n, h, px, py, xs, ys, b, w, hx, hy, kx, ky, hb => by
    cases h
    cases kx
    cases ky
    cases hb
    exact ⟨by simp [kdsF], rfl⟩
  | fd :: r, off, n, h, px, py, xs, ys, b, w, hx, hy, kx, ky, hb => by
    unfold eqFs at h
    split at h
    · rename_i hc
      split at h
      · rename_i n1 i ag h1 h2 h3
        split at h
        · rename_i hsz
          obtain ⟨u1, v1, rfl, ku1, kv1⟩ := OfKds.append kx
          obtain ⟨u2, v2, rfl, ku2, kv2⟩ := OfKds.append ky
          obtain ⟨hlen, hrun⟩ := ih _ _ h1 ag h3 hsz.2
          have l1 := ku1.len
          have l2 := ku2.len
          rw [eqVs_append _ _ (l1.trans l2.symm)] at hb
          split at hb
          · rename_i s t hs ht
            cases hb
            obtain ⟨hl, hrec⟩ := eqFs_run m d f kf ih r (off + n1) n h (px ++ u1) (py ++ u2) v1 v2 t w (by simp; omega) (by simp; omega) kv1 kv2 ht
            refine ⟨by simp only [kdsF, List.length_append]; omega, ?_⟩
            have p1 := run_part h3 h2 hsz.1 hsz.2 (px ++ (u1 ++ v1)) fd.offset (by simp; omega) w
            have p2 := run_part h3 h2 hsz.1 hsz.2 (py ++ (u2 ++ v2)) fd.offset (by simp; omega) w
            have e1 : ((px ++ (u1 ++ v1)).drop fd.offset).take n1 = u1 := by
              rw [hc.2, ← hx, List.drop_left, ← hlen, ← l1, List.take_left]
            have e2 : ((py ++ (u2 ++ v2)).drop fd.offset).take n1 = u2 := by
              rw [hc.2, ← hy, List.drop_left, ← hlen, ← l2, List.take_left]
            rw [e1] at p1
            rw [e2] at p2
            have p3 := hrun u1 u2 s w ku1 ku2 hs
            simp only [Op.eqFields, hc.1, ne_eq, not_false_eq_true, if_true, Sem.run_bind, p1, p2, p3, Result.andThen_ok, Sem.run_ite, Sem.run_pure]
            cases s with
            | true => simpa [List.append_assoc] using hrec
            | false => simp
          · cases hb
        · cases h
      · cases h
    · cases h
theorem eqT_run : ∀ (m : Nat) (t : TypeId) (n : Nat), eqT P m t = some n → ∀ ag, aggOf P t = some ag → (ag = false → n = 1) → (kds P m t).length = n ∧
    ∀ (d : Nat) (xs ys : List Value) (b : Bool) (w : World), OfKds (kds P m t) xs → OfKds (kds P m t) ys → eqVs xs ys = some b → (Op.equalIn (d + m) t (packB ag xs) (packB ag ys)).run P w = .ok b w
  | m + 1, t, n, h, ag, hag, h1 => by
    have one : ∀ (x y : Value) (b : Bool), eqVs [x] [y] = some b → eqV x y = some b := by
      intro x y b h
      simp only [eqVs] at h
      cases he : eqV x y with
      | none => rw [he] at h; cases h
      | some s => rw [he] at h; simpa using h
    unfold eqT at h
    unfold aggOf at hag
    cases hu : P.underlying t with
    | none => rw [hu] at h; cases h
    | some desc =>
      rw [hu] at h hag
      have hsc : ∀ (kd : Kd), kds P (m + 1) t = [kd] → ag = false → n = 1 → (∀ x, kd.of x → (∃ k, P.underlying t = some (.int k) ∧ ∃ n, x = .int k n) ∨ (P.underlying t = some .bool ∧ ∃ n, x = .bool n) ∨ (P.underlying t = some .string ∧ ∃ n, x = .string n)) →
          (kds P (m + 1) t).length = n ∧ ∀ (d : Nat) (xs ys : List Value) (b : Bool) (w : World), OfKds (kds P (m + 1) t) xs → OfKds (kds P (m + 1) t) ys → eqVs xs ys = some b → (Op.equalIn (d + (m + 1)) t (packB ag xs) (packB ag ys)).run P w = .ok b w := by
        intro kd hk ha hn hof
        subst ha
        subst hn
        rw [hk]
        refine ⟨rfl, ?_⟩
        rintro d xs ys b w ⟨x, tx, rfl, kx, hx⟩ ⟨y, ty, rfl, ky, hy⟩ hb
        cases hx
        cases hy
        exact eqV_run (d + m) (one _ _ _ hb) (hof x kx) w
      cases desc with
      | int k => cases h; cases hag; exact hsc (.int k) (by simp [kds, hu]) rfl rfl fun x hx => .inl ⟨k, hu, hx⟩
      | bool => cases h; cases hag; exact hsc .bool (by simp [kds, hu]) rfl rfl fun x hx => .inr (.inl ⟨hu, hx⟩)
      | string => cases h; cases hag; exact hsc .str (by simp [kds, hu]) rfl rfl fun x hx => .inr (.inr ⟨hu, hx⟩)
      | struct fs =>
        cases hag
        simp only at h
        split at h
        · rename_i hc
          have hf : P.underlying t = some (.struct (P.fieldsOf t)) := by simp [Program.fieldsOf, hu]
          have hfo : P.fieldsOf t = fs := by simp [Program.fieldsOf, hu]
          have hk : kds P (m + 1) t = kdsF (kds P m) fs.toList := by simp [kds, hu]
          rw [hk]
          have key : ∀ (d : Nat) (xs ys : List Value) (b : Bool) (w : World), OfKds (kdsF (kds P m) fs.toList) xs → OfKds (kdsF (kds P m) fs.toList) ys → eqVs xs ys = some b → 0 + (kdsF (kds P m) fs.toList).length = n ∧ (Op.eqFields (d + m) ([] ++ xs).toArray ([] ++ ys).toArray fs.toList).run P w = .ok b w := by
            intro d xs ys b w kx ky hb
            refine eqFs_run m (d + m) (eqT P m) (kds P m) (fun t' n' h' ag' ha' h1' => ?_) fs.toList 0 n h [] [] xs ys b w rfl rfl kx ky hb
            obtain ⟨hl, hr⟩ := eqT_run m t' n' h' ag' ha' h1'
            exact ⟨hl, fun xs ys b w => hr d xs ys b w⟩
          refine ⟨?_, fun d xs ys b w kx ky hb => ?_⟩
          · obtain ⟨xs, hx, hxx⟩ := ofKds_some (kdsF (kds P m) fs.toList)
            have := (key 0 xs xs true default hx hx hxx).1
            omega
          · have := (key d xs ys b w kx ky hb).2
            rw [packB_true, packB_true, ← Nat.add_assoc, run_equalIn_agg w (d + m) t _ _ hf hc.1, hfo]
            simpa using this
        · cases h
      | _ => cases h
  where
  ofKds_some : (l : List Kd) → ∃ xs, OfKds l xs ∧ eqVs xs xs = some true
    | [] => ⟨[], rfl, rfl⟩
    | k :: r => by
      obtain ⟨xs, h1, h2⟩ := ofKds_some r
      cases k with
      | int k => exact ⟨.int k 0 :: xs, ⟨_, _, rfl, ⟨0, rfl⟩, h1⟩, by simp [eqVs, eqV, h2]⟩
      | bool => exact ⟨.bool true :: xs, ⟨_, _, rfl, ⟨true, rfl⟩, h1⟩, by simp [eqVs, eqV, h2]⟩
      | str => exact ⟨.string ByteArray.empty :: xs, ⟨_, _, rfl, ⟨_, rfl⟩, h1⟩, by simp [eqVs, eqV, h2, beq_toListBytes]⟩

variable {C : Cx} {fr : Fr} {big : FF} {g : Sg} {a : Act} {w : World} {ch : List (Nat × Bool)} {E : Env}
theorem eqLf_ok {s : Sh} {x y : Lf} {u v : Value} (hx : LfR C g x u) (hy : LfR C g y v) {t : Bool} {k : Kd} (hk : kdSh s = some k) (h : eqLf s x y = some t) : eqV u v = some t ∧ k.of u ∧ k.of v := by
  unfold eqLf at h
  split at h
  · split at h
    · rename_i k0 k1 m k2 n e
      obtain ⟨rfl, rfl⟩ := e
      cases h
      cases hk
      cases hx
      cases hy
      exact ⟨by simp [eqV], ⟨_, rfl⟩, ⟨_, rfl⟩⟩
    · cases h
  · cases h; cases hk; cases hx; cases hy; exact ⟨rfl, ⟨_, rfl⟩, ⟨_, rfl⟩⟩
  · cases h; cases hk; cases hx; cases hy; exact ⟨rfl, ⟨_, rfl⟩, ⟨_, rfl⟩⟩
  · cases h
theorem eqCells_cons {s : Sh} {q : List Sh} {x y : Lf} {r r' : List Lf} {t : Bool} (h : eqCells (s :: q) (x :: r) (y :: r') = some t) : ∃ t1 t2, eqLf s x y = some t1 ∧ eqCells q r r' = some t2 ∧ t = (t1 && t2) := by
  unfold eqCells at h
  split at h
  · rename_i e1 e2 e3; cases e1
  · rename_i e1 e2 e3
    cases e1; cases e2; cases e3
    exact ⟨t, true, h, rfl, by simp⟩
  · rename_i e1 e2 e3
    cases e1; cases e2; cases e3
    split at h
    · rename_i h1 h2
      cases h
      exact ⟨_, _, h1, h2, rfl⟩
    · cases h
  · cases h
theorem eqCells_ok : ∀ {q : List Sh} {ks : List Kd} {xs ys : List Lf} {us vs : List Value} {t : Bool}, kdShs q = some ks → LfsR C g xs us → LfsR C g ys vs → eqCells q xs ys = some t → eqVs us vs = some t ∧ OfKds ks us ∧ OfKds ks vs
  | [], ks, [], [], us, vs, t, hk, hx, hy, h => by
    cases hk
    cases hx
    cases hy
    simp [eqCells] at h
    subst h
    exact ⟨rfl, rfl, rfl⟩
  | [], ks, _ :: _, ys, us, vs, t, hk, hx, hy, h => by simp [eqCells] at h
  | [], ks, [], _ :: _, us, vs, t, hk, hx, hy, h => by simp [eqCells] at h
  | s :: q, ks, [], ys, us, vs, t, hk, hx, hy, h => by simp [eqCells] at h
  | s :: q, ks, _ :: _, [], us, vs, t, hk, hx, hy, h => by simp [eqCells] at h
  | s :: q, ks, x :: xs, y :: ys, us, vs, t, hk, ⟨u, us', e1, hu, hx⟩, ⟨v, vs', e2, hv, hy⟩, h => by
    subst e1
    subst e2
    obtain ⟨t1, t2, h1, h2, rfl⟩ := eqCells_cons h
    unfold kdShs at hk
    split at hk
    · rename_i k ks' hk1 hk2
      cases hk
      obtain ⟨a1, a2, a3⟩ := eqLf_ok hu hv hk1 h1
      obtain ⟨b1, b2, b3⟩ := eqCells_ok hk2 hx hy h2
      exact ⟨by simp [eqVs, a1, b1], ⟨u, us', rfl, a2, b2⟩, ⟨v, vs', rfl, a3, b3⟩⟩
    · cases hk
theorem VR.single {x : Lf} {u : Value} (h : VR C g false [x] u) : LfR C g x u := h.to1
theorem stBin_ok (hE : EnvOK C.P E) (hs : Sim C big g a w) (hsub : Sub fr big) (hc : Holds a ch) (o : Oper) (op : BinOp) (t : TypeId) (x y : Operand) (p : TypeId) (ho : o.op = .binOp op t x y p) : Good C g a fr big ((execOp a.eval o).run C.P w) (stBin E fr ch op t x y) := by
  unfold stBin
  split
  · rename_i v u h1 h2
    split
    · rename_i req l hb
      obtain ⟨ag1, l1⟩ := v
      obtain ⟨ag2, l2⟩ := u
      have r1 := opl_rel (hs.sub hsub) hc h1
      have r2 := opl_rel (hs.sub hsub) hc h2
      refine Good.val hs fun hreq => ?_
      unfold bin at hb
      split at hb
      · rename_i k m k' n e1 e2
        cases e1; cases e2
        split at hb
        · rename_i e
          subst e
          have e1 : a.eval x = .int k m := r1.to1
          have e2 : a.eval y = .int k n := r2.to1
          obtain ⟨u, hr, hl⟩ := binI_run (C := C) (g := g) hb hreq t w
          refine ⟨u, ?_, hl⟩
          simp only [execOp, ho, e1, e2, Sem.run_bind, eqGuard_at_int, Sem.run_pure, Result.andThen_ok, hr]
        · cases hb
      · rename_i m n e1 e2
        cases e1; cases e2
        have e1 : a.eval x = .bool m := r1.to1
        have e2 : a.eval y = .bool n := r2.to1
        split at hb
        · rename_i ht
          cases hb
          have hu : C.P.underlying t = some .bool := (hE.ty _ _ ht).desc
          refine ⟨.bool (m == n), ?_, rfl⟩
          simp only [execOp, ho, e1, e2, Sem.run_bind, eqGuard_at_bool, Sem.run_pure, Result.andThen_ok, binOp, Op.equal, Op.maxDepth, run_equalIn_bool w 9999 t m n hu]
        · rename_i ht
          cases hb
          have hu : C.P.underlying t = some .bool := (hE.ty _ _ ht).desc
          refine ⟨.bool (m != n), ?_, rfl⟩
          simp only [execOp, ho, e1, e2, Sem.run_bind, eqGuard_at_bool, Sem.run_pure, Result.andThen_ok, binOp, Op.equal, Op.maxDepth, run_equalIn_bool w 9999 t m n hu]
          rfl
        · cases hb
      · rename_i m n e1 e2
        cases e1; cases e2
        have e1 : a.eval x = .string m := r1.to1
        have e2 : a.eval y = .string n := r2.to1
        split at hb
        · cases hb
          refine ⟨.bool (m == n), ?_, rfl⟩
          simp only [execOp, ho, e1, e2, Sem.run_bind, eqGuard_at_string, Sem.run_pure, Result.andThen_ok, binOp, Op.stringOp, beq_toListBytes]
        · cases hb
          refine ⟨.bool (m != n), ?_, rfl⟩
          simp only [execOp, ho, e1, e2, Sem.run_bind, eqGuard_at_string, Sem.run_pure, Result.andThen_ok, binOp, Op.stringOp, bne, beq_toListBytes]
        · cases hb
          have hle : m.size + n.size ≤ 9223372036854775807 := ble_le hreq
          refine ⟨.string (m ++ n), ?_, rfl⟩
          simp only [execOp, ho, e1, e2, Sem.run_bind, eqGuard_at_string, Sem.run_pure, Result.andThen_ok, binOp, run_string_add_sum (P := C.P) w m n hle]
        · cases hb
      · rename_i e1 e2
        cases e1; cases e2
        obtain ⟨us, e1, q1, _⟩ := r1
        obtain ⟨vs, e2, q2, _⟩ := r2
        split at hb
        · rename_i ks hks
          obtain ⟨m, n, hT, hm, hk, hag, hgd⟩ := hE.eq t ks hks
          have fin : ∀ b, eqCells ks l1 l2 = some b → (Op.equalIn 10000 t (.agg us.toArray) (.agg vs.toArray)).run C.P w = .ok b w := by
            intro b hb
            obtain ⟨a1, a2, a3⟩ := eqCells_ok hk q1 q2 hb
            have := (eqT_run m t n hT true hag (by simp)).2 (10000 - m) us vs b w a2 a3 a1
            rwa [Nat.sub_add_cancel hm] at this
          split at hb
          · rename_i b hq
            cases hb
            refine ⟨.bool b, ?_, rfl⟩
            simp only [execOp, ho, e1, e2, packB_true, Sem.run_bind, run_eqGuard_agg w _ t x y _ _ hgd, Result.andThen_ok, run_eql_struct, fin b hq, Sem.run_pure]
          · rename_i b hq
            cases hb
            refine ⟨.bool (!b), ?_, rfl⟩
            simp only [execOp, ho, e1, e2, packB_true, Sem.run_bind, run_eqGuard_agg w _ t x y _ _ hgd, Result.andThen_ok, run_neq_struct, fin b hq, Sem.run_pure]
          · cases hb
        · cases hb
      · cases hb
    · trivial
  · trivial
end Go.Proofs.Ytbgdojniimdihaa.X
