/- Functions of the program as plain Lean functions, and that the program does what they say. Printed by gen.py. -/
import Derived.Test.YtbgdojniimdihaaGreatXLoop
import Derived.Test.YtbgdojniimdihaaGreatProg
namespace Go.Proofs.YtbgdojniimdihaaGreat.X
open Go
set_option maxRecDepth 100000
set_option linter.unusedVariables false
noncomputable def tys : List (Nat × Ty) := [(2, .sc (.int .i64)), (3, .sc (.int .i64)), (4, .sc .bool), (23, .st (.cons (.int .i64) (.cons (.int .i64) (.int .i64))) [(0, 1), (1, 1), (2, 1)]), (31, .st (.cons (.int .i64) (.cons (.int .i64) (.cons (.int .i64) (.int .i64)))) [(0, 1), (1, 1), (2, 1), (3, 1)]), (32, .st (.cons (.int .i64) (.int .i64)) [(0, 1), (1, 1)]), (34, .st (.cons (.cons (.int .i64) (.cons (.int .i64) (.cons (.int .i64) (.int .i64)))) (.cons (.int .i64) (.int .i64))) [(0, 4), (4, 2)]), (37, .st (.cons (.int .i64) (.cons (.int .i64) (.int .i64))) [(0, 1), (1, 1), (2, 1)]), (39, .sl 34 (.cons (.cons (.int .i64) (.cons (.int .i64) (.cons (.int .i64) (.int .i64)))) (.cons (.int .i64) (.int .i64))) 48), (41, .sl 32 (.cons (.int .i64) (.int .i64)) 16), (57, .sl 2 (.int .i64) 8), (59, .st (.cons (.int .i64) (.cons (.cons (.int .i64) (.cons (.int .i64) (.int .i64))) (.list 2 (.int .i64)))) [(0, 1), (1, 3), (4, 1)]), (64, .st (.cons (.int .i64) (.cons (.cons (.int .i64) (.cons (.int .i64) (.int .i64))) (.list 2 (.int .i64)))) [(0, 1), (1, 3), (4, 1)]), (130, .sl 31 (.cons (.int .i64) (.cons (.int .i64) (.cons (.int .i64) (.int .i64)))) 32)]
noncomputable def eqs : List (Nat × List Sh) := [(31, [(.int .i64), (.int .i64), (.int .i64), (.int .i64)]), (32, [(.int .i64), (.int .i64)]), (37, [(.int .i64), (.int .i64), (.int .i64)])]
theorem tab_ok : tabB Tryz.prog tys eqs = true := by kernel_rfl
theorem mixed_ok : Tryz.prog.follows .mixedOrders = true := by kernel_rfl
/-! laws.szInt64S -/
noncomputable def f52E (K : Nat) : Env := ⟨[], tys, eqs, K, [0, 1, 4, 10]⟩
noncomputable def f52G (K : Nat) (a0 : List Int) (a1 : Int) : Option Int :=
  (bif (decide ((w (a1 - (a0.length : Int))) < (0 : Int))) then some (-1 : Int) else some (w (a1 - (a0.length : Int))))
noncomputable def f52M (K : Nat) : Mdl := ⟨[(.ro, (.list 2 (.int .i64))), (.ro, (.int .i64))], [(.int .i64)], fun x => f52G K x.1 x.2.1⟩
/-! laws.szPattern -/
noncomputable def f27E (K : Nat) : Env := ⟨[(52, f52M K)], tys, eqs, K, [0, 1, 2, 4, 10]⟩
noncomputable def f27G (K : Nat) (a0 : Int × (Int × Int × Int) × List Int) (a1 : Int) : Option Int :=
  (f52G K a0.2.2 a1).bind fun y1 => (bif (decide (y1 < (0 : Int))) then some (-1 : Int) else some y1)
noncomputable def f27M (K : Nat) : Mdl := ⟨[(.ro, (.cons (.int .i64) (.cons (.cons (.int .i64) (.cons (.int .i64) (.int .i64))) (.list 2 (.int .i64))))), (.ro, (.int .i64))], [(.int .i64)], fun x => f27G K x.1 x.2.1⟩
/-! laws.toLattice -/
noncomputable def f11E (K : Nat) : Env := ⟨[], tys, eqs, K, [0, 1, 2, 3]⟩
noncomputable def f11G (K : Nat) (a0 : Int × Int × Int) : Option (Int × Int × Int) :=
  some a0
noncomputable def f11M (K : Nat) : Mdl := ⟨[(.ro, (.cons (.int .i64) (.cons (.int .i64) (.int .i64))))], [(.cons (.int .i64) (.cons (.int .i64) (.int .i64)))], fun x => f11G K x.1⟩
/-! laws.toInt64S -/
noncomputable def f56C : Code := codeOf Tryz.f56
noncomputable def f56E (K : Nat) : Env := ⟨[], tys, eqs, K, [0, 2, 3, 4, 11]⟩
noncomputable def f56_b2 (K : Nat) (a0 : List Int) (L2 : Int → (List Int) → Option (List Int)) (q3 : Int) (q4 : List Int) : Option (List Int) :=
  (bif (decide (q3 < (a0.length : Int))) then (bif (decide (0 ≤ q3) && decide (q3 < (a0.length : Int))) then (bif (decide (0 ≤ q3) && decide (q3 < (q4.length : Int))) then L2 (w (q3 + (1 : Int))) (q4.set ((0 : Int) + q3).toNat (a0.getD ((0 : Int) + q3).toNat (0 : Int))) else none) else none) else some q4)
noncomputable def f56_l2 (K : Nat) (a0 : List Int) (n : Nat) (q3 : Int) (q4 : List Int) : Option (List Int) :=
  iter (X := Int × List Int) (fun L x => (fun L2 => f56_b2 K a0 L2 x.1 x.2) (fun v0 v1 => L (v0, v1))) n (q3, q4)
noncomputable def f56_fr2 (a0 : List Int) (q3 : Int) (q4 : List Int) : Fr := ⟨22, [(0, .v false [.row 0]), (2, .v false [.row 1]), (3, .v false [.row 2]), (4, .v false [.int .i64 q3])], [], [some ⟨2, (.int .i64), a0, .ro⟩, some ⟨2, (.int .i64), [], .own⟩, some ⟨2, (.int .i64), q4, .own⟩]⟩
noncomputable def f56_k2 (K : Nat) (a0 : List Int) (lr : LR (List Int)) : Ex → Fr → Option (List Int) :=
  contC (f56E K) 1 lr f56C [1, 1, 0, 1, 0] (finK (f56E K) Tryz.f56 [(.ro, (.list 2 (.int .i64)))] [(.list 2 (.int .i64))] (a0, ()))
noncomputable def f56_g (K : Nat) (a0 : List Int) (I2 : Int → (List Int) → Option (List Int)) : Option (List Int) :=
  (bif (decide (0 ≤ (a0.length : Int)) && Nat.ble (a0.length : Int).toNat (lim 8) && ((a0.length : Int) == (a0.length : Int))) then I2 (0 : Int) (List.replicate (a0.length : Int).toNat (0 : Int)) else none)
noncomputable def f56G (K : Nat) (a0 : List Int) : Option (List Int) :=
  f56_g K a0 (fun d0 d1 => f56_l2 K a0 K d0 d1)
noncomputable def f56M (K : Nat) : Mdl := ⟨[(.ro, (.list 2 (.int .i64)))], [(.list 2 (.int .i64))], fun x => f56G K x.1⟩
/-! laws.toPattern -/
noncomputable def f29E (K : Nat) : Env := ⟨[(11, f11M K), (56, f56M K)], tys, eqs, K, [0, 1, 2, 3]⟩
noncomputable def f29G (K : Nat) (a0 : Int × (Int × Int × Int) × List Int) : Option (Int × (Int × Int × Int) × List Int) :=
  (f11G K a0.2.1).bind fun y1 => (f56G K a0.2.2).bind fun y2 => some (a0.1, y1, y2)
noncomputable def f29M (K : Nat) : Mdl := ⟨[(.ro, (.cons (.int .i64) (.cons (.cons (.int .i64) (.cons (.int .i64) (.int .i64))) (.list 2 (.int .i64)))))], [(.cons (.int .i64) (.cons (.cons (.int .i64) (.cons (.int .i64) (.int .i64))) (.list 2 (.int .i64))))], fun x => f29G K x.1⟩
/-! spec.IsFrame -/
noncomputable def f96E (K : Nat) : Env := ⟨[], tys, eqs, K, [0, 2]⟩
noncomputable def f96G (K : Nat) (a0 : Int) : Option Bool :=
  (bif ((!(!(a0 == (0 : Int)))) || true) then (bif ((!(!(a0 == (0 : Int)))) || true) then some (bif (a0 == (0 : Int)) then true else (a0 == (1 : Int))) else none) else none)
noncomputable def f96M (K : Nat) : Mdl := ⟨[(.ro, (.int .i64))], [.bool], fun x => f96G K x.1⟩
/-! spec.l01In -/
noncomputable def f69E (K : Nat) : Env := ⟨[], tys, eqs, K, [0, 1, 2, 6]⟩
noncomputable def f69G (K : Nat) (a0 : Int) (a1 : Int) (a2 : Int) : Option Bool :=
  (bif ((!(decide (a0 ≥ a1))) || true) then (bif ((!(decide (a0 ≥ a1))) || true) then (bif ((!(decide (a0 ≥ a1))) || true) then some (bif (decide (a0 ≥ a1)) then (decide (a0 ≤ a2)) else false) else none) else none) else none)
noncomputable def f69M (K : Nat) : Mdl := ⟨[(.ro, (.int .i64)), (.ro, (.int .i64)), (.ro, (.int .i64))], [.bool], fun x => f69G K x.1 x.2.1 x.2.2.1⟩
/-! spec.IsLattice -/
noncomputable def f97E (K : Nat) : Env := ⟨[(69, f69M K)], tys, eqs, K, [0, 1, 2]⟩
noncomputable def f97G (K : Nat) (a0 : Int × Int × Int) : Option Bool :=
  (f69G K a0.1 (1 : Int) (64 : Int)).bind fun y1 => (bif ((!y1) || true) then (bif ((!y1) || true) then ((bif y1 then f69G K a0.2.2 (1 : Int) (64 : Int) else some false)).bind fun y2 => (bif ((!(bif y1 then y2 else false)) || true) then (bif ((!(bif y1 then y2 else false)) || true) then (bif ((!(bif y1 then y2 else false)) || true) then (bif ((!(bif y1 then y2 else false)) || true) then (bif ((!(bif y1 then y2 else false)) || true) then ((bif (bif y1 then y2 else false) then f69G K a0.2.1 (0 : Int) (w (a0.1 - (1 : Int))) else some false)).bind fun y3 => (bif ((!(bif (bif y1 then y2 else false) then y3 else false)) || true) then (bif ((!(bif (bif y1 then y2 else false) then y3 else false)) || true) then (bif ((!(bif (bif y1 then y2 else false) then y3 else false)) || true) then (bif ((!(bif (bif y1 then y2 else false) then y3 else false)) || true) then (bif ((!(bif (bif y1 then y2 else false) then y3 else false)) || true) then (bif ((!(bif (bif y1 then y2 else false) then y3 else false)) || true) then some (bif (bif (bif y1 then y2 else false) then y3 else false) then (decide ((w (a0.1 * a0.2.2)) ≤ (64 : Int))) else false) else none) else none) else none) else none) else none) else none) else none) else none) else none) else none) else none) else none) else none)
noncomputable def f97M (K : Nat) : Mdl := ⟨[(.ro, (.cons (.int .i64) (.cons (.int .i64) (.int .i64))))], [.bool], fun x => f97G K x.1⟩
/-! spec.l04Code -/
noncomputable def f66E (K : Nat) : Env := ⟨[(96, f96M K), (97, f97M K)], tys, eqs, K, [0, 1, 3, 4, 12]⟩
noncomputable def f66G (K : Nat) (a0 : Int) (a1 : Int × Int × Int) : Option Int :=
  (f96G K a0).bind fun y1 => (bif ((!(!(!y1))) || true) then ((bif (!(!y1)) then f97G K a1 else some false)).bind fun y2 => (bif ((!(!(!y1))) || true) then (bif (bif (!y1) then true else (!y2)) then some (1 : Int) else some (0 : Int)) else none) else none)
noncomputable def f66M (K : Nat) : Mdl := ⟨[(.ro, (.int .i64)), (.ro, (.cons (.int .i64) (.cons (.int .i64) (.int .i64))))], [(.int .i64)], fun x => f66G K x.1 x.2.1⟩
/-! spec.l01Within -/
noncomputable def f80C : Code := codeOf Tryz.f80
noncomputable def f80E (K : Nat) : Env := ⟨[(69, f69M K)], tys, eqs, K, [0, 1, 2, 3, 8, 9, 13, 23]⟩
noncomputable def f80_b3 (K : Nat) (a0 : List Int) (a1 : Int) (a2 : Int) (a3 : Int) (L3 : Int → Option Bool) (q4 : Int) : Option Bool :=
  (bif (decide (q4 < (a0.length : Int))) then (bif (decide (0 ≤ q4) && decide (q4 < (a0.length : Int))) then (f69G K (a0.getD ((0 : Int) + q4).toNat (0 : Int)) a2 a3).bind fun y5 => (bif (!y5) then some false else L3 (w (q4 + (1 : Int)))) else none) else some (decide ((a0.length : Int) ≤ a1)))
noncomputable def f80_l3 (K : Nat) (a0 : List Int) (a1 : Int) (a2 : Int) (a3 : Int) (n : Nat) (q4 : Int) : Option Bool :=
  iter (X := Int) (fun L x => (fun L3 => f80_b3 K a0 a1 a2 a3 L3 x) (fun v0 => L v0)) n q4
noncomputable def f80_fr3 (a0 : List Int) (a1 : Int) (a2 : Int) (a3 : Int) (q4 : Int) : Fr := ⟨28, [(0, .v false [.row 0]), (1, .v false [.int .i64 a1]), (2, .v false [.int .i64 a2]), (3, .v false [.int .i64 a3]), (8, .v false [.bool false]), (9, .v false [.int .i64 q4])], [], [some ⟨2, (.int .i64), a0, .ro⟩]⟩
noncomputable def f80_k3 (K : Nat) (a0 : List Int) (a1 : Int) (a2 : Int) (a3 : Int) (lr : LR Bool) : Ex → Fr → Option Bool :=
  contC (f80E K) 1 lr f80C [1, 0, 1, 0] (finK (f80E K) Tryz.f80 [(.ro, (.list 2 (.int .i64))), (.ro, (.int .i64)), (.ro, (.int .i64)), (.ro, (.int .i64))] [.bool] (a0, a1, a2, a3, ()))
noncomputable def f80_g (K : Nat) (a0 : List Int) (a1 : Int) (a2 : Int) (a3 : Int) (I3 : Int → Option Bool) : Option Bool :=
  I3 (0 : Int)
noncomputable def f80G (K : Nat) (a0 : List Int) (a1 : Int) (a2 : Int) (a3 : Int) : Option Bool :=
  f80_g K a0 a1 a2 a3 (fun d0 => f80_l3 K a0 a1 a2 a3 K d0)
noncomputable def f80M (K : Nat) : Mdl := ⟨[(.ro, (.list 2 (.int .i64))), (.ro, (.int .i64)), (.ro, (.int .i64)), (.ro, (.int .i64))], [.bool], fun x => f80G K x.1 x.2.1 x.2.2.1 x.2.2.2.1⟩
/-! spec.IsPattern -/
noncomputable def f53E (K : Nat) : Env := ⟨[(66, f66M K), (80, f80M K)], tys, eqs, K, [0, 1, 2]⟩
noncomputable def f53G (K : Nat) (a0 : Int × (Int × Int × Int) × List Int) : Option Bool :=
  (f66G K a0.1 a0.2.1).bind fun y1 => (bif ((!(y1 == (0 : Int))) || true) then (bif ((!(y1 == (0 : Int))) || true) then (bif ((!(y1 == (0 : Int))) || true) then (bif ((!(y1 == (0 : Int))) || true) then (bif ((!(y1 == (0 : Int))) || true) then (bif ((!(y1 == (0 : Int))) || true) then (bif ((!(y1 == (0 : Int))) || true) then (bif ((!(y1 == (0 : Int))) || true) then (bif ((!(y1 == (0 : Int))) || true) then (bif ((!(y1 == (0 : Int))) || true) then (bif ((!(y1 == (0 : Int))) || true) then (bif ((!(bif (y1 == (0 : Int)) then ((a0.2.2.length : Int) == (w (a0.2.1.1 * a0.2.1.2.2))) else false)) || true) then (bif ((!(bif (y1 == (0 : Int)) then ((a0.2.2.length : Int) == (w (a0.2.1.1 * a0.2.1.2.2))) else false)) || true) then ((bif (bif (y1 == (0 : Int)) then ((a0.2.2.length : Int) == (w (a0.2.1.1 * a0.2.1.2.2))) else false) then f80G K a0.2.2 (64 : Int) (0 : Int) (9 : Int) else some false)).bind fun y2 => some (bif (bif (y1 == (0 : Int)) then ((a0.2.2.length : Int) == (w (a0.2.1.1 * a0.2.1.2.2))) else false) then y2 else false) else none) else none) else none) else none) else none) else none) else none) else none) else none) else none) else none) else none) else none)
noncomputable def f53M (K : Nat) : Mdl := ⟨[(.ro, (.cons (.int .i64) (.cons (.cons (.int .i64) (.cons (.int .i64) (.int .i64))) (.list 2 (.int .i64)))))], [.bool], fun x => f53G K x.1⟩
/-! spec.l03Cells -/
noncomputable def f111C : Code := codeOf Tryz.f111
noncomputable def f111E (K : Nat) : Env := ⟨[], tys, eqs, K, [0, 1, 2, 3, 4, 5, 10, 16]⟩
noncomputable def f111_b9 (K : Nat) (a0 : Int × Int × Int) (q7 : Int) (L6 : Int → (List (Int × Int)) → Option (List (Int × Int))) (L9 : Int → (List (Int × Int)) → Option (List (Int × Int))) (q10 : Int) (q11 : List (Int × Int)) : Option (List (Int × Int)) :=
  (bif (decide (q10 < a0.2.2)) then (bif (Nat.ble (q11.length + [(q7, q10)].length) (lim 16)) then L9 (w (q10 + (1 : Int))) (q11 ++ [(q7, q10)]) else none) else L6 (w (q7 + (1 : Int))) q11)
noncomputable def f111_l9 (K : Nat) (a0 : Int × Int × Int) (q7 : Int) (L6 : Int → (List (Int × Int)) → Option (List (Int × Int))) (n : Nat) (q10 : Int) (q11 : List (Int × Int)) : Option (List (Int × Int)) :=
  iter (X := Int × List (Int × Int)) (fun L x => (fun L9 => f111_b9 K a0 q7 L6 L9 x.1 x.2) (fun v0 v1 => L (v0, v1))) n (q10, q11)
noncomputable def f111_fr9 (a0 : Int × Int × Int) (q7 : Int) (q10 : Int) (q11 : List (Int × Int)) : Fr := ⟨26, [(0, .v true [.int .i64 a0.1, .int .i64 a0.2.1, .int .i64 a0.2.2]), (1, .v false [.box 0 0]), (2, .v false [.row 0]), (3, .v false [.row 1]), (4, .v false [.int .i64 q7]), (5, .v false [.int .i64 q10]), (10, .v false [.bool (decide (q7 < a0.1))])], [some ⟨true, [.int .i64 a0.1, .int .i64 a0.2.1, .int .i64 a0.2.2]⟩], [some ⟨32, (.cons (.int .i64) (.int .i64)), [], .own⟩, some ⟨32, (.cons (.int .i64) (.int .i64)), q11, .own⟩]⟩
noncomputable def f111_b6 (K : Nat) (a0 : Int × Int × Int) (I9 : Int → Int → (List (Int × Int)) → Option (List (Int × Int))) (L6 : Int → (List (Int × Int)) → Option (List (Int × Int))) (q7 : Int) (q8 : List (Int × Int)) : Option (List (Int × Int)) :=
  (bif (decide (q7 < a0.1)) then I9 q7 (0 : Int) q8 else some q8)
noncomputable def f111_l6 (K : Nat) (a0 : Int × Int × Int) (n : Nat) (q7 : Int) (q8 : List (Int × Int)) : Option (List (Int × Int)) :=
  iter (X := Int × List (Int × Int)) (fun L x => (fun L6 => f111_b6 K a0 (fun c0 d0 d1 => f111_l9 K a0 c0 L6 K d0 d1) L6 x.1 x.2) (fun v0 v1 => L (v0, v1))) n (q7, q8)
noncomputable def f111_fr6 (a0 : Int × Int × Int) (q7 : Int) (q8 : List (Int × Int)) : Fr := ⟨26, [(0, .v true [.int .i64 a0.1, .int .i64 a0.2.1, .int .i64 a0.2.2]), (1, .v false [.box 0 0]), (2, .v false [.row 0]), (3, .v false [.row 1]), (4, .v false [.int .i64 q7])], [some ⟨true, [.int .i64 a0.1, .int .i64 a0.2.1, .int .i64 a0.2.2]⟩], [some ⟨32, (.cons (.int .i64) (.int .i64)), [], .own⟩, some ⟨32, (.cons (.int .i64) (.int .i64)), q8, .own⟩]⟩
noncomputable def f111_k6 (K : Nat) (a0 : Int × Int × Int) (lr : LR (List (Int × Int))) : Ex → Fr → Option (List (Int × Int)) :=
  contC (f111E K) 0 lr f111C [1, 1, 0, 1, 0] (finK (f111E K) Tryz.f111 [(.ro, (.cons (.int .i64) (.cons (.int .i64) (.int .i64))))] [(.list 32 (.cons (.int .i64) (.int .i64)))] (a0, ()))
noncomputable def f111_k9 (K : Nat) (a0 : Int × Int × Int) (F6 : Fr → Option (List (Int × Int))) (bq7 : Int) (bq8 : List (Int × Int)) (lr : LR (List (Int × Int))) : Ex → Fr → Option (List (Int × Int)) :=
  contC (f111E K) 0 lr (selC f111C [1, 1, 0, 1, 0, 0]) [1, 0, 0, 1, 0] (loopK 0 (f111_fr6 a0 bq7 bq8) F6 (f111_k6 K a0 lr))
noncomputable def f111_g (K : Nat) (a0 : Int × Int × Int) (I6 : Int → (List (Int × Int)) → Option (List (Int × Int))) : Option (List (Int × Int)) :=
  I6 (0 : Int) []
noncomputable def f111G (K : Nat) (a0 : Int × Int × Int) : Option (List (Int × Int)) :=
  f111_g K a0 (fun d0 d1 => f111_l6 K a0 K d0 d1)
noncomputable def f111M (K : Nat) : Mdl := ⟨[(.ro, (.cons (.int .i64) (.cons (.int .i64) (.int .i64))))], [(.list 32 (.cons (.int .i64) (.int .i64)))], fun x => f111G K x.1⟩
/-! spec.l03Basis -/
noncomputable def f119E (K : Nat) : Env := ⟨[], tys, eqs, K, [0, 1, 2]⟩
noncomputable def f119G (K : Nat) (a0 : Int × Int × Int) : Option (List (Int × Int)) :=
  some [(a0.1, (0 : Int)), a0.2]
noncomputable def f119M (K : Nat) : Mdl := ⟨[(.ro, (.cons (.int .i64) (.cons (.int .i64) (.int .i64))))], [(.list 32 (.cons (.int .i64) (.int .i64)))], fun x => f119G K x.1⟩
/-! spec.l02Unit -/
noncomputable def f120E (K : Nat) : Env := ⟨[], tys, eqs, K, [0]⟩
noncomputable def f120G (K : Nat) : Option (Int × Int × Int × Int) :=
  some ((1 : Int), (0 : Int), (0 : Int), (1 : Int))
noncomputable def f120M (K : Nat) : Mdl := ⟨[], [(.cons (.int .i64) (.cons (.int .i64) (.cons (.int .i64) (.int .i64))))], fun x => f120G K ⟩
/-! spec.l02Apply -/
noncomputable def f104E (K : Nat) : Env := ⟨[], tys, eqs, K, [0, 1, 2, 3, 4]⟩
noncomputable def f104G (K : Nat) (a0 : Int × Int × Int × Int) (a1 : Int × Int) : Option (Int × Int) :=
  some ((w ((w (a0.1 * a1.1)) + (w (a0.2.1 * a1.2)))), (w ((w (a0.2.2.1 * a1.1)) + (w (a0.2.2.2 * a1.2)))))
noncomputable def f104M (K : Nat) : Mdl := ⟨[(.ro, (.cons (.int .i64) (.cons (.int .i64) (.cons (.int .i64) (.int .i64))))), (.ro, (.cons (.int .i64) (.int .i64)))], [(.cons (.int .i64) (.int .i64))], fun x => f104G K x.1 x.2.1⟩
/-! spec.l01Add -/
noncomputable def f103E (K : Nat) : Env := ⟨[], tys, eqs, K, [0, 1, 2, 3, 4]⟩
noncomputable def f103G (K : Nat) (a0 : Int × Int) (a1 : Int × Int) : Option (Int × Int) :=
  some ((w (a0.1 + a1.1)), (w (a0.2 + a1.2)))
noncomputable def f103M (K : Nat) : Mdl := ⟨[(.ro, (.cons (.int .i64) (.int .i64))), (.ro, (.cons (.int .i64) (.int .i64)))], [(.cons (.int .i64) (.int .i64))], fun x => f103G K x.1 x.2.1⟩
/-! spec.l05Apply -/
noncomputable def f72E (K : Nat) : Env := ⟨[(103, f103M K), (104, f104M K)], tys, eqs, K, [0, 1, 2, 3, 4]⟩
noncomputable def f72G (K : Nat) (a0 : (Int × Int × Int × Int) × Int × Int) (a1 : Int × Int) : Option (Int × Int) :=
  (f104G K a0.1 a1).bind fun y1 => (f103G K y1 a0.2).bind fun y2 => some y2
noncomputable def f72M (K : Nat) : Mdl := ⟨[(.ro, (.cons (.cons (.int .i64) (.cons (.int .i64) (.cons (.int .i64) (.int .i64)))) (.cons (.int .i64) (.int .i64)))), (.ro, (.cons (.int .i64) (.int .i64)))], [(.cons (.int .i64) (.int .i64))], fun x => f72G K x.1 x.2.1⟩
/-! spec.l01Mod -/
noncomputable def f102E (K : Nat) : Env := ⟨[], tys, eqs, K, [0, 1, 4, 9]⟩
noncomputable def f102G (K : Nat) (a0 : Int) (a1 : Int) : Option Int :=
  (bif (a1 != 0) then (bif (decide ((a0.tmod a1) < (0 : Int))) then some (w ((a0.tmod a1) + a1)) else some (a0.tmod a1)) else none)
noncomputable def f102M (K : Nat) : Mdl := ⟨[(.ro, (.int .i64)), (.ro, (.int .i64))], [(.int .i64)], fun x => f102G K x.1 x.2.1⟩
/-! spec.l03Reduce -/
noncomputable def f71E (K : Nat) : Env := ⟨[(102, f102M K)], tys, eqs, K, [0, 1, 2, 3, 4, 5, 6]⟩
noncomputable def f71G (K : Nat) (a0 : Int × Int × Int) (a1 : Int × Int) : Option (Int × Int) :=
  (f102G K a1.2 a0.2.2).bind fun y1 => (bif (a0.2.2 != 0) then (f102G K (w (a1.1 - (w ((w ((w (a1.2 - y1)).tdiv a0.2.2)) * a0.2.1)))) a0.1).bind fun y2 => some (y2, y1) else none)
noncomputable def f71M (K : Nat) : Mdl := ⟨[(.ro, (.cons (.int .i64) (.cons (.int .i64) (.int .i64)))), (.ro, (.cons (.int .i64) (.int .i64)))], [(.cons (.int .i64) (.int .i64))], fun x => f71G K x.1 x.2.1⟩
/-! spec.l03Number -/
noncomputable def f41E (K : Nat) : Env := ⟨[(71, f71M K)], tys, eqs, K, [0, 1, 2, 3, 4]⟩
noncomputable def f41G (K : Nat) (a0 : Int × Int × Int) (a1 : Int × Int) : Option Int :=
  (f71G K a0 a1).bind fun y1 => some (w ((w (y1.1 * a0.2.2)) + y1.2))
noncomputable def f41M (K : Nat) : Mdl := ⟨[(.ro, (.cons (.int .i64) (.cons (.int .i64) (.int .i64)))), (.ro, (.cons (.int .i64) (.int .i64)))], [(.int .i64)], fun x => f41G K x.1 x.2.1⟩
/-! spec.l09At -/
noncomputable def f118E (K : Nat) : Env := ⟨[(41, f41M K)], tys, eqs, K, [0, 1, 2, 3, 4]⟩
noncomputable def f118G (K : Nat) (a0 : Int × (Int × Int × Int) × List Int) (a1 : Int × Int) : Option Int :=
  (f41G K a0.2.1 a1).bind fun y1 => (bif (decide (0 ≤ y1) && decide (y1 < (a0.2.2.length : Int))) then some (a0.2.2.getD ((0 : Int) + y1).toNat (0 : Int)) else none)
noncomputable def f118M (K : Nat) : Mdl := ⟨[(.ro, (.cons (.int .i64) (.cons (.cons (.int .i64) (.cons (.int .i64) (.int .i64))) (.list 2 (.int .i64))))), (.ro, (.cons (.int .i64) (.int .i64)))], [(.int .i64)], fun x => f118G K x.1 x.2.1⟩
/-! spec.l09Keeps -/
noncomputable def f112C : Code := codeOf Tryz.f112
noncomputable def f112E (K : Nat) : Env := ⟨[(72, f72M K), (111, f111M K), (118, f118M K)], tys, eqs, K, [0, 1, 2, 3, 4, 5, 6, 13, 30]⟩
noncomputable def f112_b6 (K : Nat) (a0 : Int × (Int × Int × Int) × List Int) (a1 : (Int × Int × Int × Int) × Int × Int) (y1 : List (Int × Int)) (L6 : Int → Option Bool) (q7 : Int) : Option Bool :=
  (bif (decide (q7 < (y1.length : Int))) then (bif (decide (0 ≤ q7) && decide (q7 < (y1.length : Int))) then (f72G K a1 (y1.getD ((0 : Int) + q7).toNat ((0 : Int), (0 : Int)))).bind fun y8 => (f118G K a0 y8).bind fun y9 => (bif (decide (0 ≤ q7) && decide (q7 < (y1.length : Int))) then (f118G K a0 (y1.getD ((0 : Int) + q7).toNat ((0 : Int), (0 : Int)))).bind fun y10 => (bif (y9 != y10) then some false else L6 (w (q7 + (1 : Int)))) else none) else none) else some true)
noncomputable def f112_l6 (K : Nat) (a0 : Int × (Int × Int × Int) × List Int) (a1 : (Int × Int × Int × Int) × Int × Int) (y1 : List (Int × Int)) (n : Nat) (q7 : Int) : Option Bool :=
  iter (X := Int) (fun L x => (fun L6 => f112_b6 K a0 a1 y1 L6 x) (fun v0 => L v0)) n q7
noncomputable def f112_fr6 (a0 : Int × (Int × Int × Int) × List Int) (a1 : (Int × Int × Int × Int) × Int × Int) (y1 : List (Int × Int)) (q7 : Int) : Fr := ⟨31, [(0, .v true [.int .i64 a0.1, .int .i64 a0.2.1.1, .int .i64 a0.2.1.2.1, .int .i64 a0.2.1.2.2, .row 0]), (1, .v true [.int .i64 a1.1.1, .int .i64 a1.1.2.1, .int .i64 a1.1.2.2.1, .int .i64 a1.1.2.2.2, .int .i64 a1.2.1, .int .i64 a1.2.2]), (2, .v false [.box 0 0]), (3, .v false [.box 1 0]), (4, .v false [.bool false]), (5, .v false [.row 1]), (6, .v false [.int .i64 q7])], [some ⟨true, [.int .i64 a0.1, .int .i64 a0.2.1.1, .int .i64 a0.2.1.2.1, .int .i64 a0.2.1.2.2, .row 0]⟩, some ⟨true, [.int .i64 a1.1.1, .int .i64 a1.1.2.1, .int .i64 a1.1.2.2.1, .int .i64 a1.1.2.2.2, .int .i64 a1.2.1, .int .i64 a1.2.2]⟩], [some ⟨2, (.int .i64), a0.2.2, .ro⟩, some ⟨32, (.cons (.int .i64) (.int .i64)), y1, .own⟩]⟩
noncomputable def f112_k6 (K : Nat) (a0 : Int × (Int × Int × Int) × List Int) (a1 : (Int × Int × Int × Int) × Int × Int) (lr : LR Bool) : Ex → Fr → Option Bool :=
  contC (f112E K) 1 lr f112C [1, 1, 0, 1, 0] (finK (f112E K) Tryz.f112 [(.ro, (.cons (.int .i64) (.cons (.cons (.int .i64) (.cons (.int .i64) (.int .i64))) (.list 2 (.int .i64))))), (.ro, (.cons (.cons (.int .i64) (.cons (.int .i64) (.cons (.int .i64) (.int .i64)))) (.cons (.int .i64) (.int .i64))))] [.bool] (a0, a1, ()))
noncomputable def f112_g (K : Nat) (a0 : Int × (Int × Int × Int) × List Int) (a1 : (Int × Int × Int × Int) × Int × Int) (I6 : (List (Int × Int)) → Int → Option Bool) : Option Bool :=
  (f111G K a0.2.1).bind fun y1 => I6 y1 (0 : Int)
noncomputable def f112G (K : Nat) (a0 : Int × (Int × Int × Int) × List Int) (a1 : (Int × Int × Int × Int) × Int × Int) : Option Bool :=
  f112_g K a0 a1 (fun c0 d0 => f112_l6 K a0 a1 c0 K d0)
noncomputable def f112M (K : Nat) : Mdl := ⟨[(.ro, (.cons (.int .i64) (.cons (.cons (.int .i64) (.cons (.int .i64) (.int .i64))) (.list 2 (.int .i64))))), (.ro, (.cons (.cons (.int .i64) (.cons (.int .i64) (.cons (.int .i64) (.int .i64)))) (.cons (.int .i64) (.int .i64))))], [.bool], fun x => f112G K x.1 x.2.1⟩
/-! spec.l01Divisor -/
noncomputable def f116E (K : Nat) (rec : Int → Int → Option Int) : Env := ⟨[(116, ⟨[(.ro, (.int .i64)), (.ro, (.int .i64))], [(.int .i64)], fun x => rec x.1 x.2.1⟩)], tys, eqs, K, [0, 1, 4, 6]⟩
noncomputable def f116_s (K : Nat) (rec : Int → Int → Option Int) (a0 : Int) (a1 : Int) : Option Int :=
  (bif (a1 == (0 : Int)) then some (if (w (0 - a0)) > a0 then (w (0 - a0)) else a0) else (bif (a1 != 0) then (rec a1 (a0.tmod a1)).bind fun y1 => some y1 else none))
noncomputable def f116R (K : Nat) : Nat → Int → Int → Option Int
  | 0 => fun _ _ => none
  | n + 1 => fun a0 a1 => f116_s K (f116R K n) a0 a1
noncomputable def f116G (K : Nat) (a0 : Int) (a1 : Int) : Option Int := f116R K K a0 a1
noncomputable def f116M (K : Nat) : Mdl := ⟨[(.ro, (.int .i64)), (.ro, (.int .i64))], [(.int .i64)], fun x => f116G K x.1 x.2.1⟩
/-! spec.l01Scale -/
noncomputable def f114E (K : Nat) : Env := ⟨[], tys, eqs, K, [0, 1, 2, 4]⟩
noncomputable def f114G (K : Nat) (a0 : Int × Int) (a1 : Int) : Option (Int × Int) :=
  some ((w (a1 * a0.1)), (w (a1 * a0.2)))
noncomputable def f114M (K : Nat) : Mdl := ⟨[(.ro, (.cons (.int .i64) (.int .i64))), (.ro, (.int .i64))], [(.cons (.int .i64) (.int .i64))], fun x => f114G K x.1 x.2.1⟩
/-! spec.l03Hermite -/
noncomputable def f121C : Code := codeOf Tryz.f121
noncomputable def f121E (K : Nat) : Env := ⟨[(102, f102M K), (114, f114M K), (116, f116M K)], tys, eqs, K, [0, 2, 3, 4, 5, 6, 7, 8, 13, 22, 50, 58, 62]⟩
noncomputable def f121_b15 (K : Nat) (a0 : List (Int × Int)) (q11 : Int) (q12 : Int) (L10 : Int → Int → Int → Int → Option (Int × Int × Int)) (L15 : Int → Int → Int → Int → Option (Int × Int × Int)) (q16 : Int) (q17 : Int) (q18 : Int) (q19 : Int) : Option (Int × Int × Int) :=
  (bif (q19 != (0 : Int)) then (bif (q19 != 0) then L15 q18 q19 (w (q16 - (w ((w (q17.tdiv q19)) * q18)))) (w (q17 - (w ((w (q17.tdiv q19)) * q19)))) else none) else (f116G K q11 q18).bind fun y20 => (bif (decide (y20 > (0 : Int))) then (f102G K q16 y20).bind fun y21 => L10 y20 (w (q12 + (1 : Int))) y21 q17 else L10 y20 (w (q12 + (1 : Int))) q16 q17))
noncomputable def f121_l15 (K : Nat) (a0 : List (Int × Int)) (q11 : Int) (q12 : Int) (L10 : Int → Int → Int → Int → Option (Int × Int × Int)) (n : Nat) (q16 : Int) (q17 : Int) (q18 : Int) (q19 : Int) : Option (Int × Int × Int) :=
  iter (X := Int × Int × Int × Int) (fun L x => (fun L15 => f121_b15 K a0 q11 q12 L10 L15 x.1 x.2.1 x.2.2.1 x.2.2.2) (fun v0 v1 v2 v3 => L (v0, v1, v2, v3))) n (q16, q17, q18, q19)
noncomputable def f121_fr15 (a0 : List (Int × Int)) (q11 : Int) (q12 : Int) (q16 : Int) (q17 : Int) (q18 : Int) (q19 : Int) : Fr := ⟨74, [(0, .v false [.row 0]), (2, .v false [.box 0 0]), (3, .v false [.box 1 0]), (4, .v false [.int .i64 q11]), (5, .v false [.int .i64 q12]), (6, .v false [.box 2 0]), (13, .v false [.bool (decide (q12 < (a0.length : Int)))])], [some ⟨true, [.int .i64 (0 : Int), .int .i64 (0 : Int), .int .i64 (0 : Int)]⟩, some ⟨true, [.int .i64 q16, .int .i64 q17]⟩, some ⟨true, [.int .i64 q18, .int .i64 q19]⟩], [some ⟨32, (.cons (.int .i64) (.int .i64)), a0, .ro⟩]⟩
noncomputable def f121_b10 (K : Nat) (a0 : List (Int × Int)) (I15 : Int → Int → Int → Int → Int → Int → Option (Int × Int × Int)) (L10 : Int → Int → Int → Int → Option (Int × Int × Int)) (q11 : Int) (q12 : Int) (q13 : Int) (q14 : Int) : Option (Int × Int × Int) :=
  (bif (decide (q12 < (a0.length : Int))) then (bif (decide (0 ≤ q12) && decide (q12 < (a0.length : Int))) then I15 q11 q12 q13 q14 ((a0.getD ((0 : Int) + q12).toNat ((0 : Int), (0 : Int))).1) ((a0.getD ((0 : Int) + q12).toNat ((0 : Int), (0 : Int))).2) else none) else (bif (decide (q14 < (0 : Int))) then (f114G K (q13, q14) (-1 : Int)).bind fun y22 => (bif (decide (q11 > (0 : Int))) then (f102G K y22.1 q11).bind fun y23 => some (q11, y23, y22.2) else some (q11, y22)) else (bif (decide (q11 > (0 : Int))) then (f102G K q13 q11).bind fun y24 => some (q11, y24, q14) else some (q11, q13, q14))))
noncomputable def f121_l10 (K : Nat) (a0 : List (Int × Int)) (n : Nat) (q11 : Int) (q12 : Int) (q13 : Int) (q14 : Int) : Option (Int × Int × Int) :=
  iter (X := Int × Int × Int × Int) (fun L x => (fun L10 => f121_b10 K a0 (fun c0 c1 d0 d1 d2 d3 => f121_l15 K a0 c0 c1 L10 K d0 d1 d2 d3) L10 x.1 x.2.1 x.2.2.1 x.2.2.2) (fun v0 v1 v2 v3 => L (v0, v1, v2, v3))) n (q11, q12, q13, q14)
noncomputable def f121_fr10 (a0 : List (Int × Int)) (q11 : Int) (q12 : Int) (q13 : Int) (q14 : Int) : Fr := ⟨74, [(0, .v false [.row 0]), (2, .v false [.box 0 0]), (3, .v false [.box 1 0]), (4, .v false [.int .i64 q11]), (5, .v false [.int .i64 q12])], [some ⟨true, [.int .i64 (0 : Int), .int .i64 (0 : Int), .int .i64 (0 : Int)]⟩, some ⟨true, [.int .i64 q13, .int .i64 q14]⟩], [some ⟨32, (.cons (.int .i64) (.int .i64)), a0, .ro⟩]⟩
noncomputable def f121_k10 (K : Nat) (a0 : List (Int × Int)) (lr : LR (Int × Int × Int)) : Ex → Fr → Option (Int × Int × Int) :=
  contC (f121E K) 1 lr f121C [1, 1, 0, 1, 0] (finK (f121E K) Tryz.f121 [(.ro, (.list 32 (.cons (.int .i64) (.int .i64))))] [(.cons (.int .i64) (.cons (.int .i64) (.int .i64)))] (a0, ()))
noncomputable def f121_k15 (K : Nat) (a0 : List (Int × Int)) (F10 : Fr → Option (Int × Int × Int)) (bq11 : Int) (bq12 : Int) (bq13 : Int) (bq14 : Int) (lr : LR (Int × Int × Int)) : Ex → Fr → Option (Int × Int × Int) :=
  contC (f121E K) 1 lr (selC f121C [1, 1, 0, 1, 0, 0]) [1, 0, 0, 1, 0, 0] (loopK 1 (f121_fr10 a0 bq11 bq12 bq13 bq14) F10 (f121_k10 K a0 lr))
noncomputable def f121_g (K : Nat) (a0 : List (Int × Int)) (I10 : Int → Int → Int → Int → Option (Int × Int × Int)) : Option (Int × Int × Int) :=
  I10 (0 : Int) (0 : Int) (0 : Int) (0 : Int)
noncomputable def f121G (K : Nat) (a0 : List (Int × Int)) : Option (Int × Int × Int) :=
  f121_g K a0 (fun d0 d1 d2 d3 => f121_l10 K a0 K d0 d1 d2 d3)
noncomputable def f121M (K : Nat) : Mdl := ⟨[(.ro, (.list 32 (.cons (.int .i64) (.int .i64))))], [(.cons (.int .i64) (.cons (.int .i64) (.int .i64)))], fun x => f121G K x.1⟩
/-! spec.l09Full -/
noncomputable def f86C : Code := codeOf Tryz.f86
noncomputable def f86E (K : Nat) : Env := ⟨[(111, f111M K), (112, f112M K), (119, f119M K), (120, f120M K), (121, f121M K)], tys, eqs, K, [0, 1, 2, 3, 4, 5, 15, 25]⟩
noncomputable def f86_b6 (K : Nat) (a0 : Int × (Int × Int × Int) × List Int) (y1 : List (Int × Int)) (L6 : Int → (List (Int × Int)) → Option (Int × Int × Int)) (q7 : Int) (q8 : List (Int × Int)) : Option (Int × Int × Int) :=
  (bif (decide (q7 < (y1.length : Int))) then (f120G K).bind fun y9 => (bif (decide (0 ≤ q7) && decide (q7 < (y1.length : Int))) then (f112G K a0 (y9, (y1.getD ((0 : Int) + q7).toNat ((0 : Int), (0 : Int))))).bind fun y10 => (bif y10 then (bif (decide (0 ≤ q7) && decide (q7 < (y1.length : Int))) then (bif (Nat.ble (q8.length + [(y1.getD ((0 : Int) + q7).toNat ((0 : Int), (0 : Int)))].length) (lim 16)) then L6 (w (q7 + (1 : Int))) (q8 ++ [(y1.getD ((0 : Int) + q7).toNat ((0 : Int), (0 : Int)))]) else none) else none) else L6 (w (q7 + (1 : Int))) q8) else none) else (f121G K q8).bind fun y11 => some y11)
noncomputable def f86_l6 (K : Nat) (a0 : Int × (Int × Int × Int) × List Int) (y1 : List (Int × Int)) (n : Nat) (q7 : Int) (q8 : List (Int × Int)) : Option (Int × Int × Int) :=
  iter (X := Int × List (Int × Int)) (fun L x => (fun L6 => f86_b6 K a0 y1 L6 x.1 x.2) (fun v0 v1 => L (v0, v1))) n (q7, q8)
noncomputable def f86_fr6 (a0 : Int × (Int × Int × Int) × List Int) (y1 : List (Int × Int)) (q7 : Int) (q8 : List (Int × Int)) : Fr := ⟨35, [(0, .v true [.int .i64 a0.1, .int .i64 a0.2.1.1, .int .i64 a0.2.1.2.1, .int .i64 a0.2.1.2.2, .row 0]), (1, .v false [.box 0 0]), (2, .v false [.box 1 0]), (3, .v false [.row 1]), (4, .v false [.row 2]), (5, .v false [.int .i64 q7])], [some ⟨true, [.int .i64 a0.1, .int .i64 a0.2.1.1, .int .i64 a0.2.1.2.1, .int .i64 a0.2.1.2.2, .row 0]⟩, some ⟨true, [.int .i64 (0 : Int), .int .i64 (0 : Int), .int .i64 (0 : Int)]⟩], [some ⟨2, (.int .i64), a0.2.2, .ro⟩, some ⟨32, (.cons (.int .i64) (.int .i64)), y1, .own⟩, some ⟨32, (.cons (.int .i64) (.int .i64)), q8, .own⟩]⟩
noncomputable def f86_k6 (K : Nat) (a0 : Int × (Int × Int × Int) × List Int) (lr : LR (Int × Int × Int)) : Ex → Fr → Option (Int × Int × Int) :=
  contC (f86E K) 1 lr f86C [1, 1, 1, 0, 1, 0] (finK (f86E K) Tryz.f86 [(.ro, (.cons (.int .i64) (.cons (.cons (.int .i64) (.cons (.int .i64) (.int .i64))) (.list 2 (.int .i64)))))] [(.cons (.int .i64) (.cons (.int .i64) (.int .i64)))] (a0, ()))
noncomputable def f86_g (K : Nat) (a0 : Int × (Int × Int × Int) × List Int) (I6 : (List (Int × Int)) → Int → (List (Int × Int)) → Option (Int × Int × Int)) : Option (Int × Int × Int) :=
  (f111G K a0.2.1).bind fun y1 => (f119G K a0.2.1).bind fun y2 => I6 y1 (0 : Int) y2
noncomputable def f86G (K : Nat) (a0 : Int × (Int × Int × Int) × List Int) : Option (Int × Int × Int) :=
  f86_g K a0 (fun c0 d0 d1 => f86_l6 K a0 c0 K d0 d1)
noncomputable def f86M (K : Nat) : Mdl := ⟨[(.ro, (.cons (.int .i64) (.cons (.cons (.int .i64) (.cons (.int .i64) (.int .i64))) (.list 2 (.int .i64)))))], [(.cons (.int .i64) (.cons (.int .i64) (.int .i64)))], fun x => f86G K x.1⟩
/-! spec.l09On -/
noncomputable def f85C : Code := codeOf Tryz.f85
noncomputable def f85E (K : Nat) : Env := ⟨[(111, f111M K), (118, f118M K)], tys, eqs, K, [0, 1, 2, 3, 4, 5, 6, 7, 18]⟩
noncomputable def f85_b4 (K : Nat) (a0 : Int × (Int × Int × Int) × List Int) (a1 : Int × Int × Int) (y1 : List (Int × Int)) (L4 : Int → (List Int) → Option (Int × (Int × Int × Int) × List Int)) (q5 : Int) (q6 : List Int) : Option (Int × (Int × Int × Int) × List Int) :=
  (bif (decide (q5 < (y1.length : Int))) then (bif (decide (0 ≤ q5) && decide (q5 < (y1.length : Int))) then (f118G K a0 (y1.getD ((0 : Int) + q5).toNat ((0 : Int), (0 : Int)))).bind fun y7 => (bif (Nat.ble (q6.length + [y7].length) (lim 8)) then L4 (w (q5 + (1 : Int))) (q6 ++ [y7]) else none) else none) else some (a0.1, a1, q6))
noncomputable def f85_l4 (K : Nat) (a0 : Int × (Int × Int × Int) × List Int) (a1 : Int × Int × Int) (y1 : List (Int × Int)) (n : Nat) (q5 : Int) (q6 : List Int) : Option (Int × (Int × Int × Int) × List Int) :=
  iter (X := Int × List Int) (fun L x => (fun L4 => f85_b4 K a0 a1 y1 L4 x.1 x.2) (fun v0 v1 => L (v0, v1))) n (q5, q6)
noncomputable def f85_fr4 (a0 : Int × (Int × Int × Int) × List Int) (a1 : Int × Int × Int) (y1 : List (Int × Int)) (q5 : Int) (q6 : List Int) : Fr := ⟨33, [(0, .v true [.int .i64 a0.1, .int .i64 a0.2.1.1, .int .i64 a0.2.1.2.1, .int .i64 a0.2.1.2.2, .row 0]), (1, .v true [.int .i64 a1.1, .int .i64 a1.2.1, .int .i64 a1.2.2]), (2, .v false [.box 0 0]), (3, .v false [.box 1 0]), (4, .v false [.box 2 0]), (5, .v false [.row 1]), (6, .v false [.box 3 0]), (7, .v false [.int .i64 q5])], [some ⟨true, [.int .i64 a0.1, .int .i64 a0.2.1.1, .int .i64 a0.2.1.2.1, .int .i64 a0.2.1.2.2, .row 0]⟩, some ⟨true, [.int .i64 a1.1, .int .i64 a1.2.1, .int .i64 a1.2.2]⟩, some ⟨true, [.int .i64 (0 : Int), .int .i64 (0 : Int), .int .i64 (0 : Int), .int .i64 (0 : Int), .row 2]⟩, some ⟨true, [.int .i64 a0.1, .int .i64 a1.1, .int .i64 a1.2.1, .int .i64 a1.2.2, .row 3]⟩], [some ⟨2, (.int .i64), a0.2.2, .ro⟩, some ⟨32, (.cons (.int .i64) (.int .i64)), y1, .own⟩, some ⟨2, (.int .i64), [], .own⟩, some ⟨2, (.int .i64), q6, .own⟩]⟩
noncomputable def f85_k4 (K : Nat) (a0 : Int × (Int × Int × Int) × List Int) (a1 : Int × Int × Int) (lr : LR (Int × (Int × Int × Int) × List Int)) : Ex → Fr → Option (Int × (Int × Int × Int) × List Int) :=
  contC (f85E K) 1 lr f85C [1, 1, 1, 0, 1, 0] (finK (f85E K) Tryz.f85 [(.ro, (.cons (.int .i64) (.cons (.cons (.int .i64) (.cons (.int .i64) (.int .i64))) (.list 2 (.int .i64))))), (.ro, (.cons (.int .i64) (.cons (.int .i64) (.int .i64))))] [(.cons (.int .i64) (.cons (.cons (.int .i64) (.cons (.int .i64) (.int .i64))) (.list 2 (.int .i64))))] (a0, a1, ()))
noncomputable def f85_g (K : Nat) (a0 : Int × (Int × Int × Int) × List Int) (a1 : Int × Int × Int) (I4 : (List (Int × Int)) → Int → (List Int) → Option (Int × (Int × Int × Int) × List Int)) : Option (Int × (Int × Int × Int) × List Int) :=
  (f111G K a1).bind fun y1 => I4 y1 (0 : Int) []
noncomputable def f85G (K : Nat) (a0 : Int × (Int × Int × Int) × List Int) (a1 : Int × Int × Int) : Option (Int × (Int × Int × Int) × List Int) :=
  f85_g K a0 a1 (fun c0 d0 d1 => f85_l4 K a0 a1 c0 K d0 d1)
noncomputable def f85M (K : Nat) : Mdl := ⟨[(.ro, (.cons (.int .i64) (.cons (.cons (.int .i64) (.cons (.int .i64) (.int .i64))) (.list 2 (.int .i64))))), (.ro, (.cons (.int .i64) (.cons (.int .i64) (.int .i64))))], [(.cons (.int .i64) (.cons (.cons (.int .i64) (.cons (.int .i64) (.int .i64))) (.list 2 (.int .i64))))], fun x => f85G K x.1 x.2.1⟩
/-! spec.l09Lean -/
noncomputable def f55E (K : Nat) : Env := ⟨[(85, f85M K), (86, f86M K)], tys, eqs, K, [0, 1, 2]⟩
noncomputable def f55G (K : Nat) (a0 : Int × (Int × Int × Int) × List Int) : Option (Int × (Int × Int × Int) × List Int) :=
  (f86G K a0).bind fun y1 => (f85G K a0 y1).bind fun y2 => some y2
noncomputable def f55M (K : Nat) : Mdl := ⟨[(.ro, (.cons (.int .i64) (.cons (.cons (.int .i64) (.cons (.int .i64) (.int .i64))) (.list 2 (.int .i64)))))], [(.cons (.int .i64) (.cons (.cons (.int .i64) (.cons (.int .i64) (.int .i64))) (.list 2 (.int .i64))))], fun x => f55G K x.1⟩
/-! spec.l04Norm -/
noncomputable def f180E (K : Nat) : Env := ⟨[], tys, eqs, K, [0, 1, 3, 4, 5, 18]⟩
noncomputable def f180G (K : Nat) (a0 : Int) (a1 : Int × Int) : Option Int :=
  (bif (a0 == (1 : Int)) then some (w ((w ((w (a1.1 * a1.1)) + (w (a1.2 * a1.2)))) + (w (a1.1 * a1.2)))) else some (w ((w (a1.1 * a1.1)) + (w (a1.2 * a1.2)))))
noncomputable def f180M (K : Nat) : Mdl := ⟨[(.ro, (.int .i64)), (.ro, (.cons (.int .i64) (.int .i64)))], [(.int .i64)], fun x => f180G K x.1 x.2.1⟩
/-! spec.l04Keeps -/
noncomputable def f172E (K : Nat) : Env := ⟨[(103, f103M K), (180, f180M K)], tys, eqs, K, [0, 1, 3, 4, 5, 6]⟩
noncomputable def f172G (K : Nat) (a0 : Int) (a1 : Int × Int × Int × Int) : Option Bool :=
  (f180G K a0 (a1.1, a1.2.2.1)).bind fun y1 => (bif ((!(y1 == (1 : Int))) || true) then (bif ((!(y1 == (1 : Int))) || true) then ((bif (y1 == (1 : Int)) then f180G K a0 (a1.2.1, a1.2.2.2) else some (0 : Int))).bind fun y2 => (bif ((!(y1 == (1 : Int))) || true) then (bif ((!(bif (y1 == (1 : Int)) then (y2 == (1 : Int)) else false)) || true) then (bif ((!(bif (y1 == (1 : Int)) then (y2 == (1 : Int)) else false)) || true) then (bif ((!(bif (y1 == (1 : Int)) then (y2 == (1 : Int)) else false)) || true) then ((bif (bif (y1 == (1 : Int)) then (y2 == (1 : Int)) else false) then f103G K (a1.1, a1.2.2.1) (a1.2.1, a1.2.2.2) else some ((0 : Int), (0 : Int)))).bind fun y3 => ((bif (bif (y1 == (1 : Int)) then (y2 == (1 : Int)) else false) then f180G K a0 y3 else some (0 : Int))).bind fun y4 => (bif ((!(bif (y1 == (1 : Int)) then (y2 == (1 : Int)) else false)) || true) then (bif ((!(bif (y1 == (1 : Int)) then (y2 == (1 : Int)) else false)) || true) then (bif ((!(bif (y1 == (1 : Int)) then (y2 == (1 : Int)) else false)) || true) then some (bif (bif (y1 == (1 : Int)) then (y2 == (1 : Int)) else false) then (y4 == (w ((2 : Int) + a0))) else false) else none) else none) else none) else none) else none) else none) else none) else none) else none)
noncomputable def f172M (K : Nat) : Mdl := ⟨[(.ro, (.int .i64)), (.ro, (.cons (.int .i64) (.cons (.int .i64) (.cons (.int .i64) (.int .i64)))))], [.bool], fun x => f172G K x.1 x.2.1⟩
/-! spec.l04Mats -/
noncomputable def f153C : Code := codeOf Tryz.f153
noncomputable def f153E (K : Nat) : Env := ⟨[(172, f172M K)], tys, eqs, K, [0, 2, 3, 4, 5, 8, 28]⟩
noncomputable def f153_b3 (K : Nat) (a0 : Int) (L3 : Int → (List (Int × Int × Int × Int)) → Option (List (Int × Int × Int × Int))) (q4 : Int) (q5 : List (Int × Int × Int × Int)) : Option (List (Int × Int × Int × Int)) :=
  (bif (decide (q4 < (81 : Int))) then (f172G K a0 ((w ((w (q4.tdiv (27 : Int))) - (1 : Int))), (w (((w (q4.tdiv (9 : Int))).tmod (3 : Int)) - (1 : Int))), (w (((w (q4.tdiv (3 : Int))).tmod (3 : Int)) - (1 : Int))), (w ((q4.tmod (3 : Int)) - (1 : Int))))).bind fun y6 => (bif y6 then (bif (Nat.ble (q5.length + [((w ((w (q4.tdiv (27 : Int))) - (1 : Int))), (w (((w (q4.tdiv (9 : Int))).tmod (3 : Int)) - (1 : Int))), (w (((w (q4.tdiv (3 : Int))).tmod (3 : Int)) - (1 : Int))), (w ((q4.tmod (3 : Int)) - (1 : Int))))].length) (lim 32)) then L3 (w (q4 + (1 : Int))) (q5 ++ [((w ((w (q4.tdiv (27 : Int))) - (1 : Int))), (w (((w (q4.tdiv (9 : Int))).tmod (3 : Int)) - (1 : Int))), (w (((w (q4.tdiv (3 : Int))).tmod (3 : Int)) - (1 : Int))), (w ((q4.tmod (3 : Int)) - (1 : Int))))]) else none) else L3 (w (q4 + (1 : Int))) q5) else some q5)
noncomputable def f153_l3 (K : Nat) (a0 : Int) (n : Nat) (q4 : Int) (q5 : List (Int × Int × Int × Int)) : Option (List (Int × Int × Int × Int)) :=
  iter (X := Int × List (Int × Int × Int × Int)) (fun L x => (fun L3 => f153_b3 K a0 L3 x.1 x.2) (fun v0 v1 => L (v0, v1))) n (q4, q5)
noncomputable def f153_fr3 (a0 : Int) (q4 : Int) (q5 : List (Int × Int × Int × Int)) : Fr := ⟨34, [(0, .v false [.int .i64 a0]), (2, .v false [.row 0]), (3, .v false [.row 1]), (4, .v false [.int .i64 q4])], [], [some ⟨31, (.cons (.int .i64) (.cons (.int .i64) (.cons (.int .i64) (.int .i64)))), [], .own⟩, some ⟨31, (.cons (.int .i64) (.cons (.int .i64) (.cons (.int .i64) (.int .i64)))), q5, .own⟩]⟩
noncomputable def f153_k3 (K : Nat) (a0 : Int) (lr : LR (List (Int × Int × Int × Int))) : Ex → Fr → Option (List (Int × Int × Int × Int)) :=
  contC (f153E K) 0 lr f153C [1, 1, 0, 1, 0] (finK (f153E K) Tryz.f153 [(.ro, (.int .i64))] [(.list 31 (.cons (.int .i64) (.cons (.int .i64) (.cons (.int .i64) (.int .i64)))))] (a0, ()))
noncomputable def f153_g (K : Nat) (a0 : Int) (I3 : Int → (List (Int × Int × Int × Int)) → Option (List (Int × Int × Int × Int))) : Option (List (Int × Int × Int × Int)) :=
  I3 (0 : Int) []
noncomputable def f153G (K : Nat) (a0 : Int) : Option (List (Int × Int × Int × Int)) :=
  f153_g K a0 (fun d0 d1 => f153_l3 K a0 K d0 d1)
noncomputable def f153M (K : Nat) : Mdl := ⟨[(.ro, (.int .i64))], [(.list 31 (.cons (.int .i64) (.cons (.int .i64) (.cons (.int .i64) (.int .i64)))))], fun x => f153G K x.1⟩
/-! spec.l04Image -/
noncomputable def f154E (K : Nat) : Env := ⟨[(104, f104M K), (119, f119M K), (121, f121M K)], tys, eqs, K, [0, 1, 2, 3, 4, 5]⟩
noncomputable def f154G (K : Nat) (a0 : Int × Int × Int × Int) (a1 : Int × Int × Int) : Option (Int × Int × Int) :=
  (f119G K a1).bind fun y1 => (bif (decide (0 ≤ (0 : Int)) && decide ((0 : Int) < (y1.length : Int))) then (f104G K a0 (y1.getD ((0 : Int) + (0 : Int)).toNat ((0 : Int), (0 : Int)))).bind fun y2 => (bif (decide (0 ≤ (1 : Int)) && decide ((1 : Int) < (y1.length : Int))) then (f104G K a0 (y1.getD ((0 : Int) + (1 : Int)).toNat ((0 : Int), (0 : Int)))).bind fun y3 => (f121G K [y2, y3]).bind fun y4 => some y4 else none) else none)
noncomputable def f154M (K : Nat) : Mdl := ⟨[(.ro, (.cons (.int .i64) (.cons (.int .i64) (.cons (.int .i64) (.int .i64))))), (.ro, (.cons (.int .i64) (.cons (.int .i64) (.int .i64))))], [(.cons (.int .i64) (.cons (.int .i64) (.int .i64)))], fun x => f154G K x.1 x.2.1⟩
/-! spec.l04Stable -/
noncomputable def f110C : Code := codeOf Tryz.f110
noncomputable def f110E (K : Nat) : Env := ⟨[(153, f153M K), (154, f154M K)], tys, eqs, K, [0, 1, 3, 4, 5, 6, 7, 14, 24]⟩
noncomputable def f110_b4 (K : Nat) (a0 : Int) (a1 : Int × Int × Int) (y1 : List (Int × Int × Int × Int)) (L4 : Int → (List (Int × Int × Int × Int)) → Option (List (Int × Int × Int × Int))) (q5 : Int) (q6 : List (Int × Int × Int × Int)) : Option (List (Int × Int × Int × Int)) :=
  (bif (decide (q5 < (y1.length : Int))) then (bif (decide (0 ≤ q5) && decide (q5 < (y1.length : Int))) then (f154G K ((y1.getD ((0 : Int) + q5).toNat ((0 : Int), ((0 : Int), ((0 : Int), (0 : Int))))).1, ((y1.getD ((0 : Int) + q5).toNat ((0 : Int), ((0 : Int), ((0 : Int), (0 : Int))))).2).1, (((y1.getD ((0 : Int) + q5).toNat ((0 : Int), ((0 : Int), ((0 : Int), (0 : Int))))).2).2)) a1).bind fun y7 => (bif ((y7.1 == a1.1) && ((y7.2.1 == a1.2.1) && (y7.2.2 == a1.2.2))) then (bif (decide (0 ≤ q5) && decide (q5 < (y1.length : Int))) then (bif (Nat.ble (q6.length + [((y1.getD ((0 : Int) + q5).toNat ((0 : Int), ((0 : Int), ((0 : Int), (0 : Int))))).1, ((y1.getD ((0 : Int) + q5).toNat ((0 : Int), ((0 : Int), ((0 : Int), (0 : Int))))).2).1, (((y1.getD ((0 : Int) + q5).toNat ((0 : Int), ((0 : Int), ((0 : Int), (0 : Int))))).2).2))].length) (lim 32)) then L4 (w (q5 + (1 : Int))) (q6 ++ [((y1.getD ((0 : Int) + q5).toNat ((0 : Int), ((0 : Int), ((0 : Int), (0 : Int))))).1, ((y1.getD ((0 : Int) + q5).toNat ((0 : Int), ((0 : Int), ((0 : Int), (0 : Int))))).2).1, (((y1.getD ((0 : Int) + q5).toNat ((0 : Int), ((0 : Int), ((0 : Int), (0 : Int))))).2).2))]) else none) else none) else L4 (w (q5 + (1 : Int))) q6) else none) else some q6)
noncomputable def f110_l4 (K : Nat) (a0 : Int) (a1 : Int × Int × Int) (y1 : List (Int × Int × Int × Int)) (n : Nat) (q5 : Int) (q6 : List (Int × Int × Int × Int)) : Option (List (Int × Int × Int × Int)) :=
  iter (X := Int × List (Int × Int × Int × Int)) (fun L x => (fun L4 => f110_b4 K a0 a1 y1 L4 x.1 x.2) (fun v0 v1 => L (v0, v1))) n (q5, q6)
noncomputable def f110_fr4 (a0 : Int) (a1 : Int × Int × Int) (y1 : List (Int × Int × Int × Int)) (q5 : Int) (q6 : List (Int × Int × Int × Int)) : Fr := ⟨33, [(0, .v false [.int .i64 a0]), (1, .v true [.int .i64 a1.1, .int .i64 a1.2.1, .int .i64 a1.2.2]), (3, .v false [.box 0 0]), (4, .v false [.row 0]), (5, .v false [.row 1]), (6, .v false [.row 2]), (7, .v false [.int .i64 q5])], [some ⟨true, [.int .i64 a1.1, .int .i64 a1.2.1, .int .i64 a1.2.2]⟩], [some ⟨31, (.cons (.int .i64) (.cons (.int .i64) (.cons (.int .i64) (.int .i64)))), [], .own⟩, some ⟨31, (.cons (.int .i64) (.cons (.int .i64) (.cons (.int .i64) (.int .i64)))), y1, .own⟩, some ⟨31, (.cons (.int .i64) (.cons (.int .i64) (.cons (.int .i64) (.int .i64)))), q6, .own⟩]⟩
noncomputable def f110_k4 (K : Nat) (a0 : Int) (a1 : Int × Int × Int) (lr : LR (List (Int × Int × Int × Int))) : Ex → Fr → Option (List (Int × Int × Int × Int)) :=
  contC (f110E K) 0 lr f110C [1, 1, 1, 0, 1, 0] (finK (f110E K) Tryz.f110 [(.ro, (.int .i64)), (.ro, (.cons (.int .i64) (.cons (.int .i64) (.int .i64))))] [(.list 31 (.cons (.int .i64) (.cons (.int .i64) (.cons (.int .i64) (.int .i64)))))] (a0, a1, ()))
noncomputable def f110_g (K : Nat) (a0 : Int) (a1 : Int × Int × Int) (I4 : (List (Int × Int × Int × Int)) → Int → (List (Int × Int × Int × Int)) → Option (List (Int × Int × Int × Int))) : Option (List (Int × Int × Int × Int)) :=
  (f153G K a0).bind fun y1 => I4 y1 (0 : Int) []
noncomputable def f110G (K : Nat) (a0 : Int) (a1 : Int × Int × Int) : Option (List (Int × Int × Int × Int)) :=
  f110_g K a0 a1 (fun c0 d0 d1 => f110_l4 K a0 a1 c0 K d0 d1)
noncomputable def f110M (K : Nat) : Mdl := ⟨[(.ro, (.int .i64)), (.ro, (.cons (.int .i64) (.cons (.int .i64) (.int .i64))))], [(.list 31 (.cons (.int .i64) (.cons (.int .i64) (.cons (.int .i64) (.int .i64)))))], fun x => f110G K x.1 x.2.1⟩
/-! spec.l10Group -/
noncomputable def f81C : Code := codeOf Tryz.f81
noncomputable def f81E (K : Nat) : Env := ⟨[(110, f110M K), (111, f111M K), (112, f112M K)], tys, eqs, K, [0, 1, 2, 3, 4, 5, 6, 7, 8, 21, 27, 41]⟩
noncomputable def f81_b13 (K : Nat) (a0 : Int × (Int × Int × Int) × List Int) (q11 : Int) (y1 : List (Int × Int × Int × Int)) (y2 : List (Int × Int)) (L10 : Int → (List ((Int × Int × Int × Int) × Int × Int)) → Option (List ((Int × Int × Int × Int) × Int × Int))) (L13 : Int → (List ((Int × Int × Int × Int) × Int × Int)) → Option (List ((Int × Int × Int × Int) × Int × Int))) (q14 : Int) (q15 : List ((Int × Int × Int × Int) × Int × Int)) : Option (List ((Int × Int × Int × Int) × Int × Int)) :=
  (bif (decide (q14 < (y2.length : Int))) then (bif (decide (0 ≤ q11) && decide (q11 < (y1.length : Int))) then (bif (decide (0 ≤ q14) && decide (q14 < (y2.length : Int))) then (f112G K a0 (((y1.getD ((0 : Int) + q11).toNat ((0 : Int), ((0 : Int), ((0 : Int), (0 : Int))))).1, ((y1.getD ((0 : Int) + q11).toNat ((0 : Int), ((0 : Int), ((0 : Int), (0 : Int))))).2).1, (((y1.getD ((0 : Int) + q11).toNat ((0 : Int), ((0 : Int), ((0 : Int), (0 : Int))))).2).2)), (y2.getD ((0 : Int) + q14).toNat ((0 : Int), (0 : Int))))).bind fun y16 => (bif y16 then (bif (Nat.ble (q15.length + [(((y1.getD ((0 : Int) + q11).toNat ((0 : Int), ((0 : Int), ((0 : Int), (0 : Int))))).1, ((y1.getD ((0 : Int) + q11).toNat ((0 : Int), ((0 : Int), ((0 : Int), (0 : Int))))).2).1, (((y1.getD ((0 : Int) + q11).toNat ((0 : Int), ((0 : Int), ((0 : Int), (0 : Int))))).2).2)), (y2.getD ((0 : Int) + q14).toNat ((0 : Int), (0 : Int))))].length) (lim 48)) then L13 (w (q14 + (1 : Int))) (q15 ++ [(((y1.getD ((0 : Int) + q11).toNat ((0 : Int), ((0 : Int), ((0 : Int), (0 : Int))))).1, ((y1.getD ((0 : Int) + q11).toNat ((0 : Int), ((0 : Int), ((0 : Int), (0 : Int))))).2).1, (((y1.getD ((0 : Int) + q11).toNat ((0 : Int), ((0 : Int), ((0 : Int), (0 : Int))))).2).2)), (y2.getD ((0 : Int) + q14).toNat ((0 : Int), (0 : Int))))]) else none) else L13 (w (q14 + (1 : Int))) q15) else none) else none) else L10 (w (q11 + (1 : Int))) q15)
noncomputable def f81_l13 (K : Nat) (a0 : Int × (Int × Int × Int) × List Int) (q11 : Int) (y1 : List (Int × Int × Int × Int)) (y2 : List (Int × Int)) (L10 : Int → (List ((Int × Int × Int × Int) × Int × Int)) → Option (List ((Int × Int × Int × Int) × Int × Int))) (n : Nat) (q14 : Int) (q15 : List ((Int × Int × Int × Int) × Int × Int)) : Option (List ((Int × Int × Int × Int) × Int × Int)) :=
  iter (X := Int × List ((Int × Int × Int × Int) × Int × Int)) (fun L x => (fun L13 => f81_b13 K a0 q11 y1 y2 L10 L13 x.1 x.2) (fun v0 v1 => L (v0, v1))) n (q14, q15)
noncomputable def f81_fr13 (a0 : Int × (Int × Int × Int) × List Int) (q11 : Int) (y1 : List (Int × Int × Int × Int)) (y2 : List (Int × Int)) (q14 : Int) (q15 : List ((Int × Int × Int × Int) × Int × Int)) : Fr := ⟨47, [(0, .v true [.int .i64 a0.1, .int .i64 a0.2.1.1, .int .i64 a0.2.1.2.1, .int .i64 a0.2.1.2.2, .row 0]), (1, .v false [.box 0 0]), (2, .v false [.row 1]), (3, .v false [.row 2]), (4, .v false [.row 3]), (5, .v false [.row 4]), (6, .v false [.int .i64 q11]), (7, .v false [.int .i64 q14]), (21, .v false [.bool (decide (q11 < (y1.length : Int)))])], [some ⟨true, [.int .i64 a0.1, .int .i64 a0.2.1.1, .int .i64 a0.2.1.2.1, .int .i64 a0.2.1.2.2, .row 0]⟩], [some ⟨2, (.int .i64), a0.2.2, .ro⟩, some ⟨34, (.cons (.cons (.int .i64) (.cons (.int .i64) (.cons (.int .i64) (.int .i64)))) (.cons (.int .i64) (.int .i64))), [], .own⟩, some ⟨31, (.cons (.int .i64) (.cons (.int .i64) (.cons (.int .i64) (.int .i64)))), y1, .own⟩, some ⟨32, (.cons (.int .i64) (.int .i64)), y2, .own⟩, some ⟨34, (.cons (.cons (.int .i64) (.cons (.int .i64) (.cons (.int .i64) (.int .i64)))) (.cons (.int .i64) (.int .i64))), q15, .own⟩]⟩
noncomputable def f81_b10 (K : Nat) (a0 : Int × (Int × Int × Int) × List Int) (y1 : List (Int × Int × Int × Int)) (y2 : List (Int × Int)) (I13 : Int → Int → (List ((Int × Int × Int × Int) × Int × Int)) → Option (List ((Int × Int × Int × Int) × Int × Int))) (L10 : Int → (List ((Int × Int × Int × Int) × Int × Int)) → Option (List ((Int × Int × Int × Int) × Int × Int))) (q11 : Int) (q12 : List ((Int × Int × Int × Int) × Int × Int)) : Option (List ((Int × Int × Int × Int) × Int × Int)) :=
  (bif (decide (q11 < (y1.length : Int))) then I13 q11 (0 : Int) q12 else some q12)
noncomputable def f81_l10 (K : Nat) (a0 : Int × (Int × Int × Int) × List Int) (y1 : List (Int × Int × Int × Int)) (y2 : List (Int × Int)) (n : Nat) (q11 : Int) (q12 : List ((Int × Int × Int × Int) × Int × Int)) : Option (List ((Int × Int × Int × Int) × Int × Int)) :=
  iter (X := Int × List ((Int × Int × Int × Int) × Int × Int)) (fun L x => (fun L10 => f81_b10 K a0 y1 y2 (fun c0 d0 d1 => f81_l13 K a0 c0 y1 y2 L10 K d0 d1) L10 x.1 x.2) (fun v0 v1 => L (v0, v1))) n (q11, q12)
noncomputable def f81_fr10 (a0 : Int × (Int × Int × Int) × List Int) (y1 : List (Int × Int × Int × Int)) (y2 : List (Int × Int)) (q11 : Int) (q12 : List ((Int × Int × Int × Int) × Int × Int)) : Fr := ⟨47, [(0, .v true [.int .i64 a0.1, .int .i64 a0.2.1.1, .int .i64 a0.2.1.2.1, .int .i64 a0.2.1.2.2, .row 0]), (1, .v false [.box 0 0]), (2, .v false [.row 1]), (3, .v false [.row 2]), (4, .v false [.row 3]), (5, .v false [.row 4]), (6, .v false [.int .i64 q11])], [some ⟨true, [.int .i64 a0.1, .int .i64 a0.2.1.1, .int .i64 a0.2.1.2.1, .int .i64 a0.2.1.2.2, .row 0]⟩], [some ⟨2, (.int .i64), a0.2.2, .ro⟩, some ⟨34, (.cons (.cons (.int .i64) (.cons (.int .i64) (.cons (.int .i64) (.int .i64)))) (.cons (.int .i64) (.int .i64))), [], .own⟩, some ⟨31, (.cons (.int .i64) (.cons (.int .i64) (.cons (.int .i64) (.int .i64)))), y1, .own⟩, some ⟨32, (.cons (.int .i64) (.int .i64)), y2, .own⟩, some ⟨34, (.cons (.cons (.int .i64) (.cons (.int .i64) (.cons (.int .i64) (.int .i64)))) (.cons (.int .i64) (.int .i64))), q12, .own⟩]⟩
noncomputable def f81_k10 (K : Nat) (a0 : Int × (Int × Int × Int) × List Int) (lr : LR (List ((Int × Int × Int × Int) × Int × Int))) : Ex → Fr → Option (List ((Int × Int × Int × Int) × Int × Int)) :=
  contC (f81E K) 1 lr f81C [1, 1, 1, 0, 1, 0] (finK (f81E K) Tryz.f81 [(.ro, (.cons (.int .i64) (.cons (.cons (.int .i64) (.cons (.int .i64) (.int .i64))) (.list 2 (.int .i64)))))] [(.list 34 (.cons (.cons (.int .i64) (.cons (.int .i64) (.cons (.int .i64) (.int .i64)))) (.cons (.int .i64) (.int .i64))))] (a0, ()))
noncomputable def f81_k13 (K : Nat) (a0 : Int × (Int × Int × Int) × List Int) (y1 : List (Int × Int × Int × Int)) (y2 : List (Int × Int)) (F10 : Fr → Option (List ((Int × Int × Int × Int) × Int × Int))) (bq11 : Int) (bq12 : List ((Int × Int × Int × Int) × Int × Int)) (lr : LR (List ((Int × Int × Int × Int) × Int × Int))) : Ex → Fr → Option (List ((Int × Int × Int × Int) × Int × Int)) :=
  contC (f81E K) 1 lr (selC f81C [1, 1, 1, 0, 1, 0, 0]) [1, 0, 0, 1, 0] (loopK 1 (f81_fr10 a0 y1 y2 bq11 bq12) F10 (f81_k10 K a0 lr))
noncomputable def f81_g (K : Nat) (a0 : Int × (Int × Int × Int) × List Int) (I10 : (List (Int × Int × Int × Int)) → (List (Int × Int)) → Int → (List ((Int × Int × Int × Int) × Int × Int)) → Option (List ((Int × Int × Int × Int) × Int × Int))) : Option (List ((Int × Int × Int × Int) × Int × Int)) :=
  (f110G K a0.1 a0.2.1).bind fun y1 => (f111G K a0.2.1).bind fun y2 => I10 y1 y2 (0 : Int) []
noncomputable def f81G (K : Nat) (a0 : Int × (Int × Int × Int) × List Int) : Option (List ((Int × Int × Int × Int) × Int × Int)) :=
  f81_g K a0 (fun c0 c1 d0 d1 => f81_l10 K a0 c0 c1 K d0 d1)
noncomputable def f81M (K : Nat) : Mdl := ⟨[(.ro, (.cons (.int .i64) (.cons (.cons (.int .i64) (.cons (.int .i64) (.int .i64))) (.list 2 (.int .i64)))))], [(.list 34 (.cons (.cons (.int .i64) (.cons (.int .i64) (.cons (.int .i64) (.int .i64)))) (.cons (.int .i64) (.int .i64))))], fun x => f81G K x.1⟩
/-! spec.l02Det -/
noncomputable def f82E (K : Nat) : Env := ⟨[], tys, eqs, K, [0, 1, 2]⟩
noncomputable def f82G (K : Nat) (a0 : Int × Int × Int × Int) : Option Int :=
  some (w ((w (a0.1 * a0.2.2.2)) - (w (a0.2.1 * a0.2.2.1))))
noncomputable def f82M (K : Nat) : Mdl := ⟨[(.ro, (.cons (.int .i64) (.cons (.int .i64) (.cons (.int .i64) (.int .i64)))))], [(.int .i64)], fun x => f82G K x.1⟩
/-! spec.l01Less -/
noncomputable def f99E (K : Nat) : Env := ⟨[], tys, eqs, K, [0, 1, 2, 3, 4]⟩
noncomputable def f99G (K : Nat) (a0 : Int × Int) (a1 : Int × Int) : Option Bool :=
  (bif ((!(!(decide (a0.1 < a1.1)))) || true) then (bif ((!(!(decide (a0.1 < a1.1)))) || true) then (bif ((!(!(decide (a0.1 < a1.1)))) || true) then (bif ((!(!(decide (a0.1 < a1.1)))) || true) then (bif ((!(!(decide (a0.1 < a1.1)))) || true) then (bif ((!(!(decide (a0.1 < a1.1)))) || true) then (bif ((!((!(decide (a0.1 < a1.1))) && (a0.1 == a1.1))) || true) then (bif ((!((!(decide (a0.1 < a1.1))) && (a0.1 == a1.1))) || true) then (bif ((!((!(decide (a0.1 < a1.1))) && (a0.1 == a1.1))) || true) then (bif ((!((!(decide (a0.1 < a1.1))) && (a0.1 == a1.1))) || true) then (bif ((!((!(decide (a0.1 < a1.1))) && (a0.1 == a1.1))) || true) then (bif ((!(!(decide (a0.1 < a1.1)))) || true) then some (bif (decide (a0.1 < a1.1)) then true else (bif (a0.1 == a1.1) then (decide (a0.2 < a1.2)) else false)) else none) else none) else none) else none) else none) else none) else none) else none) else none) else none) else none) else none)
noncomputable def f99M (K : Nat) : Mdl := ⟨[(.ro, (.cons (.int .i64) (.int .i64))), (.ro, (.cons (.int .i64) (.int .i64)))], [.bool], fun x => f99G K x.1 x.2.1⟩
/-! spec.l02Axis -/
noncomputable def f155E (K : Nat) : Env := ⟨[(99, f99M K), (114, f114M K), (116, f116M K)], tys, eqs, K, [0, 1, 2, 3, 4, 13, 36]⟩
noncomputable def f155G (K : Nat) (a0 : Int × Int × Int × Int) : Option (Int × Int) :=
  (bif (((w (a0.1 + (1 : Int))) == (0 : Int)) && (a0.2.2.1 == (0 : Int))) then (f116G K a0.2.1 (w (a0.2.2.2 + (1 : Int)))).bind fun y1 => (bif (y1 != 0) then (bif (y1 != 0) then (f99G K ((w (a0.2.1.tdiv y1)), (w ((w (a0.2.2.2 + (1 : Int))).tdiv y1))) ((0 : Int), (0 : Int))).bind fun y2 => (bif y2 then (f114G K ((w (a0.2.1.tdiv y1)), (w ((w (a0.2.2.2 + (1 : Int))).tdiv y1))) (-1 : Int)).bind fun y3 => some y3 else some ((w (a0.2.1.tdiv y1)), (w ((w (a0.2.2.2 + (1 : Int))).tdiv y1)))) else none) else none) else (f116G K (w (a0.1 + (1 : Int))) a0.2.2.1).bind fun y4 => (bif (y4 != 0) then (bif (y4 != 0) then (f99G K ((w ((w (a0.1 + (1 : Int))).tdiv y4)), (w (a0.2.2.1.tdiv y4))) ((0 : Int), (0 : Int))).bind fun y5 => (bif y5 then (f114G K ((w ((w (a0.1 + (1 : Int))).tdiv y4)), (w (a0.2.2.1.tdiv y4))) (-1 : Int)).bind fun y6 => some y6 else some ((w ((w (a0.1 + (1 : Int))).tdiv y4)), (w (a0.2.2.1.tdiv y4)))) else none) else none))
noncomputable def f155M (K : Nat) : Mdl := ⟨[(.ro, (.cons (.int .i64) (.cons (.int .i64) (.cons (.int .i64) (.int .i64)))))], [(.cons (.int .i64) (.int .i64))], fun x => f155G K x.1⟩
/-! spec.l03Has -/
noncomputable def f156E (K : Nat) : Env := ⟨[(71, f71M K)], tys, eqs, K, [0, 1, 2, 3, 4]⟩
noncomputable def f156G (K : Nat) (a0 : Int × Int × Int) (a1 : Int × Int) : Option Bool :=
  (f71G K a0 a1).bind fun y1 => some ((y1.1 == (0 : Int)) && (y1.2 == (0 : Int)))
noncomputable def f156M (K : Nat) : Mdl := ⟨[(.ro, (.cons (.int .i64) (.cons (.int .i64) (.int .i64)))), (.ro, (.cons (.int .i64) (.int .i64)))], [.bool], fun x => f156G K x.1 x.2.1⟩
/-! spec.l11Invariant -/
noncomputable def f113C : Code := codeOf Tryz.f113
noncomputable def f113E (K : Nat) : Env := ⟨[(114, f114M K), (155, f155M K), (156, f156M K)], tys, eqs, K, [0, 1, 2, 3, 4, 6, 7, 8, 9, 10, 37]⟩
noncomputable def f113_b5 (K : Nat) (a0 : Int × Int × Int) (a1 : Int × Int × Int × Int) (a2 : Int) (y1 : Int × Int) (L5 : Int → Option (Int × Int)) (q6 : Int) : Option (Int × Int) :=
  (f114G K y1 q6).bind fun y7 => (f156G K a0 y7).bind fun y8 => (bif y8 then some y7 else L5 (w (q6 + (1 : Int))))
noncomputable def f113_l5 (K : Nat) (a0 : Int × Int × Int) (a1 : Int × Int × Int × Int) (a2 : Int) (y1 : Int × Int) (n : Nat) (q6 : Int) : Option (Int × Int) :=
  iter (X := Int) (fun L x => (fun L5 => f113_b5 K a0 a1 a2 y1 L5 x) (fun v0 => L v0)) n q6
noncomputable def f113_fr5 (a0 : Int × Int × Int) (a1 : Int × Int × Int × Int) (a2 : Int) (y1 : Int × Int) (q6 : Int) : Fr := ⟨39, [(0, .v true [.int .i64 a0.1, .int .i64 a0.2.1, .int .i64 a0.2.2]), (1, .v true [.int .i64 a1.1, .int .i64 a1.2.1, .int .i64 a1.2.2.1, .int .i64 a1.2.2.2]), (2, .v false [.int .i64 a2]), (3, .v false [.box 0 0]), (4, .v false [.box 1 0]), (6, .v false [.box 2 0]), (7, .v false [.box 3 0]), (8, .v false [.box 4 0]), (9, .v false [.int .i64 q6])], [some ⟨true, [.int .i64 a0.1, .int .i64 a0.2.1, .int .i64 a0.2.2]⟩, some ⟨true, [.int .i64 a1.1, .int .i64 a1.2.1, .int .i64 a1.2.2.1, .int .i64 a1.2.2.2]⟩, some ⟨true, [.int .i64 (0 : Int), .int .i64 (0 : Int)]⟩, some ⟨true, [.int .i64 (w (a2 * a1.1)), .int .i64 (w (a2 * a1.2.1)), .int .i64 (w (a2 * a1.2.2.1)), .int .i64 (w (a2 * a1.2.2.2))]⟩, some ⟨true, [.int .i64 y1.1, .int .i64 y1.2]⟩], []⟩
noncomputable def f113_k5 (K : Nat) (a0 : Int × Int × Int) (a1 : Int × Int × Int × Int) (a2 : Int) (lr : LR (Int × Int)) : Ex → Fr → Option (Int × Int) :=
  contC (f113E K) 0 lr f113C [1, 1, 1, 1, 0] (finK (f113E K) Tryz.f113 [(.ro, (.cons (.int .i64) (.cons (.int .i64) (.int .i64)))), (.ro, (.cons (.int .i64) (.cons (.int .i64) (.cons (.int .i64) (.int .i64))))), (.ro, (.int .i64))] [(.cons (.int .i64) (.int .i64))] (a0, a1, a2, ()))
noncomputable def f113_g (K : Nat) (a0 : Int × Int × Int) (a1 : Int × Int × Int × Int) (a2 : Int) (I5 : (Int × Int) → Int → Option (Int × Int)) : Option (Int × Int) :=
  (f155G K ((w (a2 * a1.1)), (w (a2 * a1.2.1)), (w (a2 * a1.2.2.1)), (w (a2 * a1.2.2.2)))).bind fun y1 => I5 y1 (1 : Int)
noncomputable def f113G (K : Nat) (a0 : Int × Int × Int) (a1 : Int × Int × Int × Int) (a2 : Int) : Option (Int × Int) :=
  f113_g K a0 a1 a2 (fun c0 d0 => f113_l5 K a0 a1 a2 c0 K d0)
noncomputable def f113M (K : Nat) : Mdl := ⟨[(.ro, (.cons (.int .i64) (.cons (.int .i64) (.int .i64)))), (.ro, (.cons (.int .i64) (.cons (.int .i64) (.cons (.int .i64) (.int .i64))))), (.ro, (.int .i64))], [(.cons (.int .i64) (.int .i64))], fun x => f113G K x.1 x.2.1 x.2.2.1⟩
/-! spec.l01Det -/
noncomputable def f117E (K : Nat) : Env := ⟨[], tys, eqs, K, [0, 1, 2, 3, 4]⟩
noncomputable def f117G (K : Nat) (a0 : Int × Int) (a1 : Int × Int) : Option Int :=
  some (w ((w (a0.1 * a1.2)) - (w (a0.2 * a1.1))))
noncomputable def f117M (K : Nat) : Mdl := ⟨[(.ro, (.cons (.int .i64) (.int .i64))), (.ro, (.cons (.int .i64) (.int .i64)))], [(.int .i64)], fun x => f117G K x.1 x.2.1⟩
/-! spec.l11Centred -/
noncomputable def f84E (K : Nat) : Env := ⟨[(113, f113M K), (117, f117M K)], tys, eqs, K, [0, 1, 2, 3, 4, 5]⟩
noncomputable def f84G (K : Nat) (a0 : Int × Int × Int) (a1 : Int × Int × Int × Int) : Option Bool :=
  (f113G K a0 a1 (1 : Int)).bind fun y1 => (f113G K a0 a1 (-1 : Int)).bind fun y2 => (f117G K y1 y2).bind fun y3 => some ((if (w (0 - y3)) > y3 then (w (0 - y3)) else y3) != (w (a0.1 * a0.2.2)))
noncomputable def f84M (K : Nat) : Mdl := ⟨[(.ro, (.cons (.int .i64) (.cons (.int .i64) (.int .i64)))), (.ro, (.cons (.int .i64) (.cons (.int .i64) (.cons (.int .i64) (.int .i64)))))], [.bool], fun x => f84G K x.1 x.2.1⟩
/-! spec.l05Twice -/
noncomputable def f115E (K : Nat) : Env := ⟨[(103, f103M K), (104, f104M K)], tys, eqs, K, [0, 1, 2]⟩
noncomputable def f115G (K : Nat) (a0 : (Int × Int × Int × Int) × Int × Int) : Option (Int × Int) :=
  (f104G K a0.1 a0.2).bind fun y1 => (f103G K y1 a0.2).bind fun y2 => some y2
noncomputable def f115M (K : Nat) : Mdl := ⟨[(.ro, (.cons (.cons (.int .i64) (.cons (.int .i64) (.cons (.int .i64) (.int .i64)))) (.cons (.int .i64) (.int .i64))))], [(.cons (.int .i64) (.int .i64))], fun x => f115G K x.1⟩
/-! spec.l11Reflects -/
noncomputable def f83E (K : Nat) : Env := ⟨[(84, f84M K), (102, f102M K), (113, f113M K), (114, f114M K), (115, f115M K), (116, f116M K)], tys, eqs, K, [0, 1, 2, 3, 4, 5, 6, 7, 16]⟩
noncomputable def f83G (K : Nat) (a0 : Int × Int × Int) (a1 : (Int × Int × Int × Int) × Int × Int) : Option Bool :=
  (f113G K a0 a1.1 (1 : Int)).bind fun y1 => (f84G K a0 a1.1).bind fun y2 => (bif (!y2) then (f114G K y1 (2 : Int)).bind fun y3 => (f115G K a1).bind fun y4 => (f116G K y3.1 y3.2).bind fun y5 => (f116G K y4.1 y4.2).bind fun y6 => (f102G K y6 y5).bind fun y7 => some (y7 == (0 : Int)) else (f115G K a1).bind fun y8 => (f116G K y1.1 y1.2).bind fun y9 => (f116G K y8.1 y8.2).bind fun y10 => (f102G K y10 y9).bind fun y11 => some (y11 == (0 : Int)))
noncomputable def f83M (K : Nat) : Mdl := ⟨[(.ro, (.cons (.int .i64) (.cons (.int .i64) (.int .i64)))), (.ro, (.cons (.cons (.int .i64) (.cons (.int .i64) (.cons (.int .i64) (.int .i64)))) (.cons (.int .i64) (.int .i64))))], [.bool], fun x => f83G K x.1 x.2.1⟩
/-! spec.l14Lines -/
noncomputable def f54C : Code := codeOf Tryz.f54
noncomputable def f54E (K : Nat) : Env := ⟨[(81, f81M K), (82, f82M K), (83, f83M K), (84, f84M K)], tys, eqs, K, [0, 1, 2, 3, 4, 5, 6, 7, 8, 14, 23, 28, 36]⟩
noncomputable def f54_b14 (K : Nat) (a0 : Int × (Int × Int × Int) × List Int) (y1 : List ((Int × Int × Int × Int) × Int × Int)) (L14 : Int → Int → Int → Option (Int × Int)) (q15 : Int) (q16 : Int) (q17 : Int) : Option (Int × Int) :=
  (bif (decide (q15 < (y1.length : Int))) then (bif (decide (0 ≤ q15) && decide (q15 < (y1.length : Int))) then (f82G K (((y1.getD ((0 : Int) + q15).toNat (((0 : Int), ((0 : Int), ((0 : Int), (0 : Int)))), ((0 : Int), (0 : Int)))).1).1, (((y1.getD ((0 : Int) + q15).toNat (((0 : Int), ((0 : Int), ((0 : Int), (0 : Int)))), ((0 : Int), (0 : Int)))).1).2).1, ((((y1.getD ((0 : Int) + q15).toNat (((0 : Int), ((0 : Int), ((0 : Int), (0 : Int)))), ((0 : Int), (0 : Int)))).1).2).2))).bind fun y18 => (bif (y18 == (1 : Int)) then L14 (w (q15 + (1 : Int))) q16 q17 else (f83G K a0.2.1 ((((y1.getD ((0 : Int) + q15).toNat (((0 : Int), ((0 : Int), ((0 : Int), (0 : Int)))), ((0 : Int), (0 : Int)))).1).1, (((y1.getD ((0 : Int) + q15).toNat (((0 : Int), ((0 : Int), ((0 : Int), (0 : Int)))), ((0 : Int), (0 : Int)))).1).2).1, ((((y1.getD ((0 : Int) + q15).toNat (((0 : Int), ((0 : Int), ((0 : Int), (0 : Int)))), ((0 : Int), (0 : Int)))).1).2).2)), ((y1.getD ((0 : Int) + q15).toNat (((0 : Int), ((0 : Int), ((0 : Int), (0 : Int)))), ((0 : Int), (0 : Int)))).2))).bind fun y19 => (bif (!y19) then L14 (w (q15 + (1 : Int))) (w (q16 + (2 : Int))) q17 else (f84G K a0.2.1 (((y1.getD ((0 : Int) + q15).toNat (((0 : Int), ((0 : Int), ((0 : Int), (0 : Int)))), ((0 : Int), (0 : Int)))).1).1, (((y1.getD ((0 : Int) + q15).toNat (((0 : Int), ((0 : Int), ((0 : Int), (0 : Int)))), ((0 : Int), (0 : Int)))).1).2).1, ((((y1.getD ((0 : Int) + q15).toNat (((0 : Int), ((0 : Int), ((0 : Int), (0 : Int)))), ((0 : Int), (0 : Int)))).1).2).2))).bind fun y20 => (bif y20 then L14 (w (q15 + (1 : Int))) (w (q16 + (1 : Int))) (w (q17 + (1 : Int))) else L14 (w (q15 + (1 : Int))) q16 (w (q17 + (2 : Int)))))) else none) else some (q17, q16))
noncomputable def f54_l14 (K : Nat) (a0 : Int × (Int × Int × Int) × List Int) (y1 : List ((Int × Int × Int × Int) × Int × Int)) (n : Nat) (q15 : Int) (q16 : Int) (q17 : Int) : Option (Int × Int) :=
  iter (X := Int × Int × Int) (fun L x => (fun L14 => f54_b14 K a0 y1 L14 x.1 x.2.1 x.2.2) (fun v0 v1 v2 => L (v0, v1, v2))) n (q15, q16, q17)
noncomputable def f54_fr14 (a0 : Int × (Int × Int × Int) × List Int) (y1 : List ((Int × Int × Int × Int) × Int × Int)) (q15 : Int) (q16 : Int) (q17 : Int) : Fr := ⟨48, [(0, .v true [.int .i64 a0.1, .int .i64 a0.2.1.1, .int .i64 a0.2.1.2.1, .int .i64 a0.2.1.2.2, .row 0]), (1, .v false [.box 0 0]), (2, .v false [.int .i64 (0 : Int)]), (3, .v false [.int .i64 (0 : Int)]), (4, .v false [.row 1]), (5, .v false [.int .i64 q17]), (6, .v false [.int .i64 q16]), (7, .v false [.int .i64 q15])], [some ⟨true, [.int .i64 a0.1, .int .i64 a0.2.1.1, .int .i64 a0.2.1.2.1, .int .i64 a0.2.1.2.2, .row 0]⟩], [some ⟨2, (.int .i64), a0.2.2, .ro⟩, some ⟨34, (.cons (.cons (.int .i64) (.cons (.int .i64) (.cons (.int .i64) (.int .i64)))) (.cons (.int .i64) (.int .i64))), y1, .own⟩]⟩
noncomputable def f54_k14 (K : Nat) (a0 : Int × (Int × Int × Int) × List Int) (lr : LR (Int × Int)) : Ex → Fr → Option (Int × Int) :=
  contC (f54E K) 1 lr f54C [1, 1, 1, 0, 1, 0] (finK (f54E K) Tryz.f54 [(.ro, (.cons (.int .i64) (.cons (.cons (.int .i64) (.cons (.int .i64) (.int .i64))) (.list 2 (.int .i64)))))] [(.int .i64), (.int .i64)] (a0, ()))
noncomputable def f54_g (K : Nat) (a0 : Int × (Int × Int × Int) × List Int) (I14 : (List ((Int × Int × Int × Int) × Int × Int)) → Int → Int → Int → Option (Int × Int)) : Option (Int × Int) :=
  (f81G K a0).bind fun y1 => I14 y1 (0 : Int) (0 : Int) (0 : Int)
noncomputable def f54G (K : Nat) (a0 : Int × (Int × Int × Int) × List Int) : Option (Int × Int) :=
  f54_g K a0 (fun c0 d0 d1 d2 => f54_l14 K a0 c0 K d0 d1 d2)
noncomputable def f54M (K : Nat) : Mdl := ⟨[(.ro, (.cons (.int .i64) (.cons (.cons (.int .i64) (.cons (.int .i64) (.int .i64))) (.list 2 (.int .i64)))))], [(.int .i64), (.int .i64)], fun x => f54G K x.1⟩
/-! spec.CountMirrorLines -/
noncomputable def f32E (K : Nat) : Env := ⟨[(53, f53M K), (54, f54M K), (55, f55M K)], tys, eqs, K, [0, 1, 2, 3, 4, 8]⟩
noncomputable def f32G (K : Nat) (a0 : Int × (Int × Int × Int) × List Int) : Option (Int × Int) :=
  (f53G K a0).bind fun y1 => (bif (!y1) then some ((0 : Int), (1 : Int)) else (f55G K a0).bind fun y2 => (f54G K y2).bind fun y3 => some (y3.1, (0 : Int)))
noncomputable def f32M (K : Nat) : Mdl := ⟨[(.ro, (.cons (.int .i64) (.cons (.cons (.int .i64) (.cons (.int .i64) (.int .i64))) (.list 2 (.int .i64)))))], [(.int .i64), (.int .i64)], fun x => f32G K x.1⟩
/-! impl.within -/
noncomputable def f77E (K : Nat) : Env := ⟨[], tys, eqs, K, [0, 1, 2, 6]⟩
noncomputable def f77G (K : Nat) (a0 : Int) (a1 : Int) (a2 : Int) : Option Bool :=
  (bif ((!(decide (a0 ≥ a1))) || true) then (bif ((!(decide (a0 ≥ a1))) || true) then (bif ((!(decide (a0 ≥ a1))) || true) then some (bif (decide (a0 ≥ a1)) then (decide (a0 ≤ a2)) else false) else none) else none) else none)
noncomputable def f77M (K : Nat) : Mdl := ⟨[(.ro, (.int .i64)), (.ro, (.int .i64)), (.ro, (.int .i64))], [.bool], fun x => f77G K x.1 x.2.1 x.2.2.1⟩
/-! impl.IsFrame -/
noncomputable def f87E (K : Nat) : Env := ⟨[(77, f77M K)], tys, eqs, K, [0, 2]⟩
noncomputable def f87G (K : Nat) (a0 : Int) : Option Bool :=
  (f77G K a0 (0 : Int) (1 : Int)).bind fun y1 => some y1
noncomputable def f87M (K : Nat) : Mdl := ⟨[(.ro, (.int .i64))], [.bool], fun x => f87G K x.1⟩
/-! (impl.Lattice).index -/
noncomputable def f78E (K : Nat) : Env := ⟨[], tys, eqs, K, [0, 1, 2]⟩
noncomputable def f78G (K : Nat) (a0 : Int × Int × Int) : Option Int :=
  some (w (a0.1 * a0.2.2))
noncomputable def f78M (K : Nat) : Mdl := ⟨[(.ro, (.cons (.int .i64) (.cons (.int .i64) (.int .i64))))], [(.int .i64)], fun x => f78G K x.1⟩
/-! impl.IsLattice -/
noncomputable def f88E (K : Nat) : Env := ⟨[(77, f77M K), (78, f78M K)], tys, eqs, K, [0, 1, 2]⟩
noncomputable def f88G (K : Nat) (a0 : Int × Int × Int) : Option Bool :=
  (f77G K a0.1 (1 : Int) (64 : Int)).bind fun y1 => (bif ((!y1) || true) then (bif ((!y1) || true) then ((bif y1 then f77G K a0.2.2 (1 : Int) (64 : Int) else some false)).bind fun y2 => (bif ((!(bif y1 then y2 else false)) || true) then (bif ((!(bif y1 then y2 else false)) || true) then (bif ((!(bif y1 then y2 else false)) || true) then (bif ((!(bif y1 then y2 else false)) || true) then (bif ((!(bif y1 then y2 else false)) || true) then ((bif (bif y1 then y2 else false) then f77G K a0.2.1 (0 : Int) (w (a0.1 - (1 : Int))) else some false)).bind fun y3 => (bif ((!(bif (bif y1 then y2 else false) then y3 else false)) || true) then ((bif (bif (bif y1 then y2 else false) then y3 else false) then f78G K a0 else some (0 : Int))).bind fun y4 => (bif ((!(bif (bif y1 then y2 else false) then y3 else false)) || true) then some (bif (bif (bif y1 then y2 else false) then y3 else false) then (decide (y4 ≤ (64 : Int))) else false) else none) else none) else none) else none) else none) else none) else none) else none) else none)
noncomputable def f88M (K : Nat) : Mdl := ⟨[(.ro, (.cons (.int .i64) (.cons (.int .i64) (.int .i64))))], [.bool], fun x => f88G K x.1⟩
/-! impl.allWithin$1 -/
noncomputable def f123E (K : Nat) : Env := ⟨[(77, f77M K)], tys, eqs, K, [0, 1, 2, 4]⟩
noncomputable def f123G (K : Nat) (a0 : Int) (a1 : Int) (a2 : Int) : Option Bool :=
  (f77G K a0 a1 a2).bind fun y1 => some (!y1)
noncomputable def f123M (K : Nat) : Mdl := ⟨[(.ro, (.int .i64)), (.cap, (.int .i64)), (.cap, (.int .i64))], [.bool], fun x => f123G K x.1 x.2.1 x.2.2.1⟩
/-! slices.IndexFunc[[]int64,int64] -/
noncomputable def f157C : Code := codeOf Tryz.f157
noncomputable def f157E (K : Nat) : Env := ⟨[], tys, eqs, K, [0, 1, 4, 5, 7, 8, 9, 16]⟩
noncomputable def f157_b3 (K : Nat) (a0 : List Int) (a1 : (Int → Option Bool)) (L3 : Int → Option Int) (q4 : Int) : Option Int :=
  (bif (decide (q4 < (a0.length : Int))) then (bif (decide (0 ≤ q4) && decide (q4 < (a0.length : Int))) then (a1 (a0.getD ((0 : Int) + q4).toNat (0 : Int))).bind fun y5 => (bif y5 then some q4 else L3 (w (q4 + (1 : Int)))) else none) else some (-1 : Int))
noncomputable def f157_l3 (K : Nat) (a0 : List Int) (a1 : (Int → Option Bool)) (n : Nat) (q4 : Int) : Option Int :=
  iter (X := Int) (fun L x => (fun L3 => f157_b3 K a0 a1 L3 x) (fun v0 => L v0)) n q4
noncomputable def f157_fr3 (a0 : List Int) (a1 : (Int → Option Bool)) (q4 : Int) : Fr := ⟨19, [(0, .v false [.row 0]), (1, .v false [.fv1 (.int .i64) .bool a1]), (4, .v false [.int .i64 (0 : Int)]), (7, .v false [.int .i64 (a0.length : Int)]), (8, .v false [.int .i64 q4])], [], [some ⟨2, (.int .i64), a0, .ro⟩]⟩
noncomputable def f157_k3 (K : Nat) (a0 : List Int) (a1 : (Int → Option Bool)) (lr : LR Int) : Ex → Fr → Option Int :=
  contC (f157E K) 1 lr f157C [1, 0, 1, 0] (finK (f157E K) Tryz.f157 [(.ro, (.list 2 (.int .i64))), (.ro, (.fn1 (.int .i64) .bool))] [(.int .i64)] (a0, a1, ()))
noncomputable def f157_g (K : Nat) (a0 : List Int) (a1 : (Int → Option Bool)) (I3 : Int → Option Int) : Option Int :=
  I3 (0 : Int)
noncomputable def f157G (K : Nat) (a0 : List Int) (a1 : (Int → Option Bool)) : Option Int :=
  f157_g K a0 a1 (fun d0 => f157_l3 K a0 a1 K d0)
noncomputable def f157M (K : Nat) : Mdl := ⟨[(.ro, (.list 2 (.int .i64))), (.ro, (.fn1 (.int .i64) .bool))], [(.int .i64)], fun x => f157G K x.1 x.2.1⟩
/-! slices.ContainsFunc[[]int64,int64] -/
noncomputable def f122E (K : Nat) : Env := ⟨[(157, f157M K)], tys, eqs, K, [0, 1, 4]⟩
noncomputable def f122G (K : Nat) (a0 : List Int) (a1 : (Int → Option Bool)) : Option Bool :=
  (f157G K a0 a1).bind fun y1 => some (decide (y1 ≥ (0 : Int)))
noncomputable def f122M (K : Nat) : Mdl := ⟨[(.ro, (.list 2 (.int .i64))), (.ro, (.fn1 (.int .i64) .bool))], [.bool], fun x => f122G K x.1 x.2.1⟩
/-! impl.allWithin -/
noncomputable def f89E (K : Nat) : Env := ⟨[(122, f122M K), (123, f123M K)], tys, eqs, K, [0, 1, 2, 4, 5, 6]⟩
noncomputable def f89G (K : Nat) (a0 : List Int) (a1 : Int) (a2 : Int) : Option Bool :=
  (f122G K a0 (fun z1 => f123G K z1 a1 a2)).bind fun y2 => some (!y2)
noncomputable def f89M (K : Nat) : Mdl := ⟨[(.ro, (.list 2 (.int .i64))), (.ro, (.int .i64)), (.ro, (.int .i64))], [.bool], fun x => f89G K x.1 x.2.1 x.2.2.1⟩
/-! impl.IsPattern -/
noncomputable def f57E (K : Nat) : Env := ⟨[(78, f78M K), (87, f87M K), (88, f88M K), (89, f89M K)], tys, eqs, K, [0, 1, 2]⟩
noncomputable def f57G (K : Nat) (a0 : Int × (Int × Int × Int) × List Int) : Option Bool :=
  (f87G K a0.1).bind fun y1 => (bif ((!y1) || true) then (bif ((!y1) || true) then ((bif y1 then f88G K a0.2.1 else some false)).bind fun y2 => (bif ((!(bif y1 then y2 else false)) || true) then (bif ((!(bif y1 then y2 else false)) || true) then (bif ((!(bif y1 then y2 else false)) || true) then (bif ((!(bif y1 then y2 else false)) || true) then (bif ((!(bif y1 then y2 else false)) || true) then ((bif (bif y1 then y2 else false) then f78G K a0.2.1 else some (0 : Int))).bind fun y3 => (bif ((!(bif y1 then y2 else false)) || true) then (bif ((!(bif (bif y1 then y2 else false) then ((a0.2.2.length : Int) == y3) else false)) || true) then (bif ((!(bif (bif y1 then y2 else false) then ((a0.2.2.length : Int) == y3) else false)) || true) then ((bif (bif (bif y1 then y2 else false) then ((a0.2.2.length : Int) == y3) else false) then f89G K a0.2.2 (0 : Int) (9 : Int) else some false)).bind fun y4 => some (bif (bif (bif y1 then y2 else false) then ((a0.2.2.length : Int) == y3) else false) then y4 else false) else none) else none) else none) else none) else none) else none) else none) else none) else none) else none)
noncomputable def f57M (K : Nat) : Mdl := ⟨[(.ro, (.cons (.int .i64) (.cons (.cons (.int .i64) (.cons (.int .i64) (.int .i64))) (.list 2 (.int .i64)))))], [.bool], fun x => f57G K x.1⟩
/-! (impl.Lattice).basis -/
noncomputable def f126E (K : Nat) : Env := ⟨[], tys, eqs, K, [0, 1, 2, 3]⟩
noncomputable def f126G (K : Nat) (a0 : Int × Int × Int) : Option ((Int × Int) × Int × Int) :=
  some ((a0.1, (0 : Int)), a0.2)
noncomputable def f126M (K : Nat) : Mdl := ⟨[(.ro, (.cons (.int .i64) (.cons (.int .i64) (.int .i64))))], [(.cons (.int .i64) (.int .i64)), (.cons (.int .i64) (.int .i64))], fun x => f126G K x.1⟩
/-! (impl.Lattice).cells -/
noncomputable def f124C : Code := codeOf Tryz.f124
noncomputable def f124E (K : Nat) : Env := ⟨[], tys, eqs, K, [0, 1, 2, 3, 4, 5, 8, 9, 10, 13, 14, 15]⟩
noncomputable def f124_b9 (K : Nat) (a0 : Int × Int × Int) (q7 : Int) (L6 : Int → (List (Int × Int)) → Option (List (Int × Int))) (L9 : Int → (List (Int × Int)) → Option (List (Int × Int))) (q10 : Int) (q11 : List (Int × Int)) : Option (List (Int × Int)) :=
  (bif (decide (q10 < a0.2.2)) then (bif (Nat.ble (q11.length + [(q7, q10)].length) (lim 16)) then L9 (w (q10 + (1 : Int))) (q11 ++ [(q7, q10)]) else none) else L6 (w (q7 + (1 : Int))) q11)
noncomputable def f124_l9 (K : Nat) (a0 : Int × Int × Int) (q7 : Int) (L6 : Int → (List (Int × Int)) → Option (List (Int × Int))) (n : Nat) (q10 : Int) (q11 : List (Int × Int)) : Option (List (Int × Int)) :=
  iter (X := Int × List (Int × Int)) (fun L x => (fun L9 => f124_b9 K a0 q7 L6 L9 x.1 x.2) (fun v0 v1 => L (v0, v1))) n (q10, q11)
noncomputable def f124_fr9 (a0 : Int × Int × Int) (q7 : Int) (q10 : Int) (q11 : List (Int × Int)) : Fr := ⟨26, [(0, .v true [.int .i64 a0.1, .int .i64 a0.2.1, .int .i64 a0.2.2]), (1, .v false [.box 0 0]), (2, .v false [.row 0]), (3, .v false [.row 1]), (4, .v false [.int .i64 q7]), (8, .v false [.int .i64 a0.1]), (9, .v false [.int .i64 q7]), (10, .v false [.bool (decide (q7 < a0.1))]), (13, .v false [.int .i64 a0.2.2]), (14, .v false [.int .i64 q10])], [some ⟨true, [.int .i64 a0.1, .int .i64 a0.2.1, .int .i64 a0.2.2]⟩], [some ⟨32, (.cons (.int .i64) (.int .i64)), [], .own⟩, some ⟨32, (.cons (.int .i64) (.int .i64)), q11, .own⟩]⟩
noncomputable def f124_b6 (K : Nat) (a0 : Int × Int × Int) (I9 : Int → Int → (List (Int × Int)) → Option (List (Int × Int))) (L6 : Int → (List (Int × Int)) → Option (List (Int × Int))) (q7 : Int) (q8 : List (Int × Int)) : Option (List (Int × Int)) :=
  (bif (decide (q7 < a0.1)) then I9 q7 (0 : Int) q8 else some q8)
noncomputable def f124_l6 (K : Nat) (a0 : Int × Int × Int) (n : Nat) (q7 : Int) (q8 : List (Int × Int)) : Option (List (Int × Int)) :=
  iter (X := Int × List (Int × Int)) (fun L x => (fun L6 => f124_b6 K a0 (fun c0 d0 d1 => f124_l9 K a0 c0 L6 K d0 d1) L6 x.1 x.2) (fun v0 v1 => L (v0, v1))) n (q7, q8)
noncomputable def f124_fr6 (a0 : Int × Int × Int) (q7 : Int) (q8 : List (Int × Int)) : Fr := ⟨26, [(0, .v true [.int .i64 a0.1, .int .i64 a0.2.1, .int .i64 a0.2.2]), (1, .v false [.box 0 0]), (2, .v false [.row 0]), (3, .v false [.row 1]), (8, .v false [.int .i64 a0.1]), (9, .v false [.int .i64 q7])], [some ⟨true, [.int .i64 a0.1, .int .i64 a0.2.1, .int .i64 a0.2.2]⟩], [some ⟨32, (.cons (.int .i64) (.int .i64)), [], .own⟩, some ⟨32, (.cons (.int .i64) (.int .i64)), q8, .own⟩]⟩
noncomputable def f124_k6 (K : Nat) (a0 : Int × Int × Int) (lr : LR (List (Int × Int))) : Ex → Fr → Option (List (Int × Int)) :=
  contC (f124E K) 0 lr f124C [1, 1, 0, 1, 0] (finK (f124E K) Tryz.f124 [(.ro, (.cons (.int .i64) (.cons (.int .i64) (.int .i64))))] [(.list 32 (.cons (.int .i64) (.int .i64)))] (a0, ()))
noncomputable def f124_k9 (K : Nat) (a0 : Int × Int × Int) (F6 : Fr → Option (List (Int × Int))) (bq7 : Int) (bq8 : List (Int × Int)) (lr : LR (List (Int × Int))) : Ex → Fr → Option (List (Int × Int)) :=
  contC (f124E K) 0 lr (selC f124C [1, 1, 0, 1, 0, 0]) [1, 1, 0, 0, 1, 1, 0] (loopK 0 (f124_fr6 a0 bq7 bq8) F6 (f124_k6 K a0 lr))
noncomputable def f124_g (K : Nat) (a0 : Int × Int × Int) (I6 : Int → (List (Int × Int)) → Option (List (Int × Int))) : Option (List (Int × Int)) :=
  I6 (0 : Int) []
noncomputable def f124G (K : Nat) (a0 : Int × Int × Int) : Option (List (Int × Int)) :=
  f124_g K a0 (fun d0 d1 => f124_l6 K a0 K d0 d1)
noncomputable def f124M (K : Nat) : Mdl := ⟨[(.ro, (.cons (.int .i64) (.cons (.int .i64) (.int .i64))))], [(.list 32 (.cons (.int .i64) (.int .i64)))], fun x => f124G K x.1⟩
/-! impl.unit -/
noncomputable def f128E (K : Nat) : Env := ⟨[], tys, eqs, K, [0]⟩
noncomputable def f128G (K : Nat) : Option (Int × Int × Int × Int) :=
  some ((1 : Int), (0 : Int), (0 : Int), (1 : Int))
noncomputable def f128M (K : Nat) : Mdl := ⟨[], [(.cons (.int .i64) (.cons (.int .i64) (.cons (.int .i64) (.int .i64))))], fun x => f128G K ⟩
/-! (impl.Mat).apply -/
noncomputable def f151E (K : Nat) : Env := ⟨[], tys, eqs, K, [0, 1, 2, 3, 4]⟩
noncomputable def f151G (K : Nat) (a0 : Int × Int × Int × Int) (a1 : Int × Int) : Option (Int × Int) :=
  some ((w ((w (a0.1 * a1.1)) + (w (a0.2.1 * a1.2)))), (w ((w (a0.2.2.1 * a1.1)) + (w (a0.2.2.2 * a1.2)))))
noncomputable def f151M (K : Nat) : Mdl := ⟨[(.ro, (.cons (.int .i64) (.cons (.int .i64) (.cons (.int .i64) (.int .i64))))), (.ro, (.cons (.int .i64) (.int .i64)))], [(.cons (.int .i64) (.int .i64))], fun x => f151G K x.1 x.2.1⟩
/-! (impl.Vec).add -/
noncomputable def f152E (K : Nat) : Env := ⟨[], tys, eqs, K, [0, 1, 2, 3, 4]⟩
noncomputable def f152G (K : Nat) (a0 : Int × Int) (a1 : Int × Int) : Option (Int × Int) :=
  some ((w (a0.1 + a1.1)), (w (a0.2 + a1.2)))
noncomputable def f152M (K : Nat) : Mdl := ⟨[(.ro, (.cons (.int .i64) (.int .i64))), (.ro, (.cons (.int .i64) (.int .i64)))], [(.cons (.int .i64) (.int .i64))], fun x => f152G K x.1 x.2.1⟩
/-! (impl.Motion).apply -/
noncomputable def f109E (K : Nat) : Env := ⟨[(151, f151M K), (152, f152M K)], tys, eqs, K, [0, 1, 2, 3, 4]⟩
noncomputable def f109G (K : Nat) (a0 : (Int × Int × Int × Int) × Int × Int) (a1 : Int × Int) : Option (Int × Int) :=
  (f151G K a0.1 a1).bind fun y1 => (f152G K y1 a0.2).bind fun y2 => some y2
noncomputable def f109M (K : Nat) : Mdl := ⟨[(.ro, (.cons (.cons (.int .i64) (.cons (.int .i64) (.cons (.int .i64) (.int .i64)))) (.cons (.int .i64) (.int .i64)))), (.ro, (.cons (.int .i64) (.int .i64)))], [(.cons (.int .i64) (.int .i64))], fun x => f109G K x.1 x.2.1⟩
/-! impl.mod -/
noncomputable def f150E (K : Nat) : Env := ⟨[], tys, eqs, K, [0, 1, 4]⟩
noncomputable def f150G (K : Nat) (a0 : Int) (a1 : Int) : Option Int :=
  (bif (a1 != 0) then (bif (a1 != 0) then some ((w ((a0.tmod a1) + a1)).tmod a1) else none) else none)
noncomputable def f150M (K : Nat) : Mdl := ⟨[(.ro, (.int .i64)), (.ro, (.int .i64))], [(.int .i64)], fun x => f150G K x.1 x.2.1⟩
/-! (impl.Lattice).reduce -/
noncomputable def f108E (K : Nat) : Env := ⟨[(150, f150M K)], tys, eqs, K, [0, 1, 2, 3, 4, 5]⟩
noncomputable def f108G (K : Nat) (a0 : Int × Int × Int) (a1 : Int × Int) : Option (Int × Int) :=
  (f150G K a1.2 a0.2.2).bind fun y1 => (bif (a0.2.2 != 0) then (f150G K (w (a1.1 - (w ((w ((w (a1.2 - y1)).tdiv a0.2.2)) * a0.2.1)))) a0.1).bind fun y2 => some (y2, y1) else none)
noncomputable def f108M (K : Nat) : Mdl := ⟨[(.ro, (.cons (.int .i64) (.cons (.int .i64) (.int .i64)))), (.ro, (.cons (.int .i64) (.int .i64)))], [(.cons (.int .i64) (.int .i64))], fun x => f108G K x.1 x.2.1⟩
/-! (impl.Lattice).number -/
noncomputable def f63E (K : Nat) : Env := ⟨[], tys, eqs, K, [0, 1, 2, 3, 4]⟩
noncomputable def f63G (K : Nat) (a0 : Int × Int × Int) (a1 : Int × Int) : Option Int :=
  some (w ((w (a1.1 * a0.2.2)) + a1.2))
noncomputable def f63M (K : Nat) : Mdl := ⟨[(.ro, (.cons (.int .i64) (.cons (.int .i64) (.int .i64)))), (.ro, (.cons (.int .i64) (.int .i64)))], [(.int .i64)], fun x => f63G K x.1 x.2.1⟩
/-! (impl.Pattern).at -/
noncomputable def f125E (K : Nat) : Env := ⟨[(63, f63M K), (108, f108M K)], tys, eqs, K, [0, 1, 2, 3, 4]⟩
noncomputable def f125G (K : Nat) (a0 : Int × (Int × Int × Int) × List Int) (a1 : Int × Int) : Option Int :=
  (f108G K a0.2.1 a1).bind fun y1 => (f63G K a0.2.1 y1).bind fun y2 => (bif (decide (0 ≤ y2) && decide (y2 < (a0.2.2.length : Int))) then some (a0.2.2.getD ((0 : Int) + y2).toNat (0 : Int)) else none)
noncomputable def f125M (K : Nat) : Mdl := ⟨[(.ro, (.cons (.int .i64) (.cons (.cons (.int .i64) (.cons (.int .i64) (.int .i64))) (.list 2 (.int .i64))))), (.ro, (.cons (.int .i64) (.int .i64)))], [(.int .i64)], fun x => f125G K x.1 x.2.1⟩
/-! (impl.Pattern).keeps -/
noncomputable def f127C : Code := codeOf Tryz.f127
noncomputable def f127E (K : Nat) : Env := ⟨[(109, f109M K), (124, f124M K), (125, f125M K)], tys, eqs, K, [0, 1, 2, 3, 4, 5, 6, 9, 10, 11, 12, 26]⟩
noncomputable def f127_b5 (K : Nat) (a0 : Int × (Int × Int × Int) × List Int) (a1 : (Int × Int × Int × Int) × Int × Int) (y1 : List (Int × Int)) (L5 : Int → Option Bool) (q6 : Int) : Option Bool :=
  (bif (decide (q6 < (y1.length : Int))) then (bif (decide (0 ≤ q6) && decide (q6 < (y1.length : Int))) then (f109G K a1 (y1.getD ((0 : Int) + q6).toNat ((0 : Int), (0 : Int)))).bind fun y7 => (f125G K a0 y7).bind fun y8 => (bif (decide (0 ≤ q6) && decide (q6 < (a0.2.2.length : Int))) then (bif (y8 != (a0.2.2.getD ((0 : Int) + q6).toNat (0 : Int))) then some false else L5 (w (q6 + (1 : Int)))) else none) else none) else some true)
noncomputable def f127_l5 (K : Nat) (a0 : Int × (Int × Int × Int) × List Int) (a1 : (Int × Int × Int × Int) × Int × Int) (y1 : List (Int × Int)) (n : Nat) (q6 : Int) : Option Bool :=
  iter (X := Int) (fun L x => (fun L5 => f127_b5 K a0 a1 y1 L5 x) (fun v0 => L v0)) n q6
noncomputable def f127_fr5 (a0 : Int × (Int × Int × Int) × List Int) (a1 : (Int × Int × Int × Int) × Int × Int) (y1 : List (Int × Int)) (q6 : Int) : Fr := ⟨28, [(0, .v true [.int .i64 a0.1, .int .i64 a0.2.1.1, .int .i64 a0.2.1.2.1, .int .i64 a0.2.1.2.2, .row 0]), (1, .v true [.int .i64 a1.1.1, .int .i64 a1.1.2.1, .int .i64 a1.1.2.2.1, .int .i64 a1.1.2.2.2, .int .i64 a1.2.1, .int .i64 a1.2.2]), (2, .v false [.box 0 0]), (3, .v false [.box 1 0]), (4, .v false [.bool false]), (9, .v false [.row 1]), (10, .v false [.int .i64 (y1.length : Int)]), (11, .v false [.int .i64 q6])], [some ⟨true, [.int .i64 a0.1, .int .i64 a0.2.1.1, .int .i64 a0.2.1.2.1, .int .i64 a0.2.1.2.2, .row 0]⟩, some ⟨true, [.int .i64 a1.1.1, .int .i64 a1.1.2.1, .int .i64 a1.1.2.2.1, .int .i64 a1.1.2.2.2, .int .i64 a1.2.1, .int .i64 a1.2.2]⟩], [some ⟨2, (.int .i64), a0.2.2, .ro⟩, some ⟨32, (.cons (.int .i64) (.int .i64)), y1, .own⟩]⟩
noncomputable def f127_k5 (K : Nat) (a0 : Int × (Int × Int × Int) × List Int) (a1 : (Int × Int × Int × Int) × Int × Int) (lr : LR Bool) : Ex → Fr → Option Bool :=
  contC (f127E K) 1 lr f127C [1, 0, 1, 0] (finK (f127E K) Tryz.f127 [(.ro, (.cons (.int .i64) (.cons (.cons (.int .i64) (.cons (.int .i64) (.int .i64))) (.list 2 (.int .i64))))), (.ro, (.cons (.cons (.int .i64) (.cons (.int .i64) (.cons (.int .i64) (.int .i64)))) (.cons (.int .i64) (.int .i64))))] [.bool] (a0, a1, ()))
noncomputable def f127_g (K : Nat) (a0 : Int × (Int × Int × Int) × List Int) (a1 : (Int × Int × Int × Int) × Int × Int) (I5 : (List (Int × Int)) → Int → Option Bool) : Option Bool :=
  (f124G K a0.2.1).bind fun y1 => I5 y1 (0 : Int)
noncomputable def f127G (K : Nat) (a0 : Int × (Int × Int × Int) × List Int) (a1 : (Int × Int × Int × Int) × Int × Int) : Option Bool :=
  f127_g K a0 a1 (fun c0 d0 => f127_l5 K a0 a1 c0 K d0)
noncomputable def f127M (K : Nat) : Mdl := ⟨[(.ro, (.cons (.int .i64) (.cons (.cons (.int .i64) (.cons (.int .i64) (.int .i64))) (.list 2 (.int .i64))))), (.ro, (.cons (.cons (.int .i64) (.cons (.int .i64) (.cons (.int .i64) (.int .i64)))) (.cons (.int .i64) (.int .i64))))], [.bool], fun x => f127G K x.1 x.2.1⟩
/-! (impl.Vec).times -/
noncomputable def f158E (K : Nat) : Env := ⟨[], tys, eqs, K, [0, 1, 2, 4]⟩
noncomputable def f158G (K : Nat) (a0 : Int × Int) (a1 : Int) : Option (Int × Int) :=
  some ((w (a1 * a0.1)), (w (a1 * a0.2)))
noncomputable def f158M (K : Nat) : Mdl := ⟨[(.ro, (.cons (.int .i64) (.int .i64))), (.ro, (.int .i64))], [(.cons (.int .i64) (.int .i64))], fun x => f158G K x.1 x.2.1⟩
/-! impl.gcd -/
noncomputable def f133C : Code := codeOf Tryz.f133
noncomputable def f133E (K : Nat) : Env := ⟨[], tys, eqs, K, [0, 1, 4, 6]⟩
noncomputable def f133_b2 (K : Nat) (L2 : Int → Int → Option Int) (q3 : Int) (q4 : Int) : Option Int :=
  (bif (q4 != (0 : Int)) then (bif (q4 != 0) then L2 q4 (q3.tmod q4) else none) else some (if (w (0 - q3)) > q3 then (w (0 - q3)) else q3))
noncomputable def f133_l2 (K : Nat) (n : Nat) (q3 : Int) (q4 : Int) : Option Int :=
  iter (X := Int × Int) (fun L x => (fun L2 => f133_b2 K L2 x.1 x.2) (fun v0 v1 => L (v0, v1))) n (q3, q4)
noncomputable def f133_fr2 (q3 : Int) (q4 : Int) : Fr := ⟨15, [(0, .v false [.int .i64 q3]), (1, .v false [.int .i64 q4]), (4, .v false [.int .i64 (0 : Int)])], [], []⟩
noncomputable def f133_k2 (K : Nat) (a0 : Int) (a1 : Int) (lr : LR Int) : Ex → Fr → Option Int :=
  contC (f133E K) 0 lr f133C [1, 0, 0] (finK (f133E K) Tryz.f133 [(.ro, (.int .i64)), (.ro, (.int .i64))] [(.int .i64)] (a0, a1, ()))
noncomputable def f133_g (K : Nat) (a0 : Int) (a1 : Int) (I2 : Int → Int → Option Int) : Option Int :=
  I2 a0 a1
noncomputable def f133G (K : Nat) (a0 : Int) (a1 : Int) : Option Int :=
  f133_g K a0 a1 (fun d0 d1 => f133_l2 K K d0 d1)
noncomputable def f133M (K : Nat) : Mdl := ⟨[(.ro, (.int .i64)), (.ro, (.int .i64))], [(.int .i64)], fun x => f133G K x.1 x.2.1⟩
/-! impl.latticeOf -/
noncomputable def f129C : Code := codeOf Tryz.f129
noncomputable def f129E (K : Nat) : Env := ⟨[(133, f133M K), (150, f150M K), (152, f152M K), (158, f158M K)], tys, eqs, K, [0, 2, 3, 4, 6, 7, 9, 10, 11, 12, 17, 37]⟩
noncomputable def f129_b18 (K : Nat) (a0 : List (Int × Int)) (q14 : Int) (q15 : Int) (L13 : Int → Int → Int → Int → Option (Int × Int × Int)) (L18 : Int → Int → Int → Int → Option (Int × Int × Int)) (q19 : Int) (q20 : Int) (q21 : Int) (q22 : Int) : Option (Int × Int × Int) :=
  (bif (q22 != (0 : Int)) then (bif (q22 != 0) then (f158G K (q21, q22) (w (0 - (w (q20.tdiv q22))))).bind fun y23 => (f152G K (q19, q20) y23).bind fun y24 => L18 q21 q22 y24.1 y24.2 else none) else (f133G K q14 q21).bind fun y25 => L13 y25 (w (q15 + (1 : Int))) q19 q20)
noncomputable def f129_l18 (K : Nat) (a0 : List (Int × Int)) (q14 : Int) (q15 : Int) (L13 : Int → Int → Int → Int → Option (Int × Int × Int)) (n : Nat) (q19 : Int) (q20 : Int) (q21 : Int) (q22 : Int) : Option (Int × Int × Int) :=
  iter (X := Int × Int × Int × Int) (fun L x => (fun L18 => f129_b18 K a0 q14 q15 L13 L18 x.1 x.2.1 x.2.2.1 x.2.2.2) (fun v0 v1 v2 v3 => L (v0, v1, v2, v3))) n (q19, q20, q21, q22)
noncomputable def f129_fr18 (a0 : List (Int × Int)) (q14 : Int) (q15 : Int) (q19 : Int) (q20 : Int) (q21 : Int) (q22 : Int) : Fr := ⟨48, [(0, .v false [.row 0]), (2, .v false [.box 0 0]), (3, .v false [.int .i64 q14]), (4, .v false [.box 1 0]), (6, .v false [.box 2 0]), (9, .v false [.row 0]), (10, .v false [.int .i64 (a0.length : Int)]), (11, .v false [.int .i64 q15]), (12, .v false [.bool (decide (q15 < (a0.length : Int)))])], [some ⟨true, [.int .i64 (0 : Int), .int .i64 (0 : Int), .int .i64 (0 : Int)]⟩, some ⟨true, [.int .i64 q19, .int .i64 q20]⟩, some ⟨true, [.int .i64 q21, .int .i64 q22]⟩], [some ⟨32, (.cons (.int .i64) (.int .i64)), a0, .ro⟩]⟩
noncomputable def f129_b13 (K : Nat) (a0 : List (Int × Int)) (I18 : Int → Int → Int → Int → Int → Int → Option (Int × Int × Int)) (L13 : Int → Int → Int → Int → Option (Int × Int × Int)) (q14 : Int) (q15 : Int) (q16 : Int) (q17 : Int) : Option (Int × Int × Int) :=
  (bif (decide (q15 < (a0.length : Int))) then (bif (decide (0 ≤ q15) && decide (q15 < (a0.length : Int))) then I18 q14 q15 q16 q17 ((a0.getD ((0 : Int) + q15).toNat ((0 : Int), (0 : Int))).1) ((a0.getD ((0 : Int) + q15).toNat ((0 : Int), (0 : Int))).2) else none) else (bif (decide (q17 < (0 : Int))) then (f158G K (q16, q17) (-1 : Int)).bind fun y26 => (f150G K y26.1 q14).bind fun y27 => some (q14, y27, y26.2) else (f150G K q16 q14).bind fun y28 => some (q14, y28, q17)))
noncomputable def f129_l13 (K : Nat) (a0 : List (Int × Int)) (n : Nat) (q14 : Int) (q15 : Int) (q16 : Int) (q17 : Int) : Option (Int × Int × Int) :=
  iter (X := Int × Int × Int × Int) (fun L x => (fun L13 => f129_b13 K a0 (fun c0 c1 d0 d1 d2 d3 => f129_l18 K a0 c0 c1 L13 K d0 d1 d2 d3) L13 x.1 x.2.1 x.2.2.1 x.2.2.2) (fun v0 v1 v2 v3 => L (v0, v1, v2, v3))) n (q14, q15, q16, q17)
noncomputable def f129_fr13 (a0 : List (Int × Int)) (q14 : Int) (q15 : Int) (q16 : Int) (q17 : Int) : Fr := ⟨48, [(0, .v false [.row 0]), (2, .v false [.box 0 0]), (3, .v false [.int .i64 q14]), (4, .v false [.box 1 0]), (9, .v false [.row 0]), (10, .v false [.int .i64 (a0.length : Int)]), (11, .v false [.int .i64 q15])], [some ⟨true, [.int .i64 (0 : Int), .int .i64 (0 : Int), .int .i64 (0 : Int)]⟩, some ⟨true, [.int .i64 q16, .int .i64 q17]⟩], [some ⟨32, (.cons (.int .i64) (.int .i64)), a0, .ro⟩]⟩
noncomputable def f129_k13 (K : Nat) (a0 : List (Int × Int)) (lr : LR (Int × Int × Int)) : Ex → Fr → Option (Int × Int × Int) :=
  contC (f129E K) 1 lr f129C [1, 1, 0, 1, 0] (finK (f129E K) Tryz.f129 [(.ro, (.list 32 (.cons (.int .i64) (.int .i64))))] [(.cons (.int .i64) (.cons (.int .i64) (.int .i64)))] (a0, ()))
noncomputable def f129_k18 (K : Nat) (a0 : List (Int × Int)) (F13 : Fr → Option (Int × Int × Int)) (bq14 : Int) (bq15 : Int) (bq16 : Int) (bq17 : Int) (lr : LR (Int × Int × Int)) : Ex → Fr → Option (Int × Int × Int) :=
  contC (f129E K) 1 lr (selC f129C [1, 1, 0, 1, 0, 0]) [1, 1, 0, 0, 1, 0, 0] (loopK 1 (f129_fr13 a0 bq14 bq15 bq16 bq17) F13 (f129_k13 K a0 lr))
noncomputable def f129_g (K : Nat) (a0 : List (Int × Int)) (I13 : Int → Int → Int → Int → Option (Int × Int × Int)) : Option (Int × Int × Int) :=
  I13 (0 : Int) (0 : Int) (0 : Int) (0 : Int)
noncomputable def f129G (K : Nat) (a0 : List (Int × Int)) : Option (Int × Int × Int) :=
  f129_g K a0 (fun d0 d1 d2 d3 => f129_l13 K a0 K d0 d1 d2 d3)
noncomputable def f129M (K : Nat) : Mdl := ⟨[(.ro, (.list 32 (.cons (.int .i64) (.int .i64))))], [(.cons (.int .i64) (.cons (.int .i64) (.int .i64)))], fun x => f129G K x.1⟩
/-! (impl.Pattern).fullLattice -/
noncomputable def f91C : Code := codeOf Tryz.f91
noncomputable def f91E (K : Nat) : Env := ⟨[(124, f124M K), (126, f126M K), (127, f127M K), (128, f128M K), (129, f129M K)], tys, eqs, K, [0, 1, 2, 3, 4, 5, 7, 19, 20, 21, 22, 29]⟩
noncomputable def f91_b6 (K : Nat) (a0 : Int × (Int × Int × Int) × List Int) (y1 : (Int × Int) × Int × Int) (y2 : List (Int × Int)) (L6 : Int → (List (Int × Int)) → Option (Int × Int × Int)) (q7 : Int) (q8 : List (Int × Int)) : Option (Int × Int × Int) :=
  (bif (decide (q7 < (y2.length : Int))) then (bif (decide (0 ≤ q7) && decide (q7 < (y2.length : Int))) then (f128G K).bind fun y9 => (f127G K a0 (y9, (y2.getD ((0 : Int) + q7).toNat ((0 : Int), (0 : Int))))).bind fun y10 => (bif y10 then (bif (Nat.ble (q8.length + [(y2.getD ((0 : Int) + q7).toNat ((0 : Int), (0 : Int)))].length) (lim 16)) then L6 (w (q7 + (1 : Int))) (q8 ++ [(y2.getD ((0 : Int) + q7).toNat ((0 : Int), (0 : Int)))]) else none) else L6 (w (q7 + (1 : Int))) q8) else none) else (f129G K q8).bind fun y11 => some y11)
noncomputable def f91_l6 (K : Nat) (a0 : Int × (Int × Int × Int) × List Int) (y1 : (Int × Int) × Int × Int) (y2 : List (Int × Int)) (n : Nat) (q7 : Int) (q8 : List (Int × Int)) : Option (Int × Int × Int) :=
  iter (X := Int × List (Int × Int)) (fun L x => (fun L6 => f91_b6 K a0 y1 y2 L6 x.1 x.2) (fun v0 v1 => L (v0, v1))) n (q7, q8)
noncomputable def f91_fr6 (a0 : Int × (Int × Int × Int) × List Int) (y1 : (Int × Int) × Int × Int) (y2 : List (Int × Int)) (q7 : Int) (q8 : List (Int × Int)) : Fr := ⟨37, [(0, .v true [.int .i64 a0.1, .int .i64 a0.2.1.1, .int .i64 a0.2.1.2.1, .int .i64 a0.2.1.2.2, .row 0]), (1, .v false [.box 0 0]), (2, .v false [.box 1 0]), (3, .v false [.box 2 0]), (4, .v false [.box 3 0]), (5, .v false [.row 1]), (19, .v false [.row 2]), (20, .v false [.int .i64 (y2.length : Int)]), (21, .v false [.int .i64 q7])], [some ⟨true, [.int .i64 a0.1, .int .i64 a0.2.1.1, .int .i64 a0.2.1.2.1, .int .i64 a0.2.1.2.2, .row 0]⟩, some ⟨true, [.int .i64 (0 : Int), .int .i64 (0 : Int), .int .i64 (0 : Int)]⟩, some ⟨true, [.int .i64 y1.1.1, .int .i64 y1.1.2]⟩, some ⟨true, [.int .i64 y1.2.1, .int .i64 y1.2.2]⟩], [some ⟨2, (.int .i64), a0.2.2, .ro⟩, some ⟨32, (.cons (.int .i64) (.int .i64)), q8, .own⟩, some ⟨32, (.cons (.int .i64) (.int .i64)), y2, .own⟩]⟩
noncomputable def f91_k6 (K : Nat) (a0 : Int × (Int × Int × Int) × List Int) (lr : LR (Int × Int × Int)) : Ex → Fr → Option (Int × Int × Int) :=
  contC (f91E K) 1 lr f91C [1, 1, 1, 0, 1, 0] (finK (f91E K) Tryz.f91 [(.ro, (.cons (.int .i64) (.cons (.cons (.int .i64) (.cons (.int .i64) (.int .i64))) (.list 2 (.int .i64)))))] [(.cons (.int .i64) (.cons (.int .i64) (.int .i64)))] (a0, ()))
noncomputable def f91_g (K : Nat) (a0 : Int × (Int × Int × Int) × List Int) (I6 : ((Int × Int) × Int × Int) → (List (Int × Int)) → Int → (List (Int × Int)) → Option (Int × Int × Int)) : Option (Int × Int × Int) :=
  (f126G K a0.2.1).bind fun y1 => (f124G K a0.2.1).bind fun y2 => I6 y1 y2 (0 : Int) [y1.1, y1.2]
noncomputable def f91G (K : Nat) (a0 : Int × (Int × Int × Int) × List Int) : Option (Int × Int × Int) :=
  f91_g K a0 (fun c0 c1 d0 d1 => f91_l6 K a0 c0 c1 K d0 d1)
noncomputable def f91M (K : Nat) : Mdl := ⟨[(.ro, (.cons (.int .i64) (.cons (.cons (.int .i64) (.cons (.int .i64) (.int .i64))) (.list 2 (.int .i64)))))], [(.cons (.int .i64) (.cons (.int .i64) (.int .i64)))], fun x => f91G K x.1⟩
/-! (impl.Pattern).spread -/
noncomputable def f90C : Code := codeOf Tryz.f90
noncomputable def f90E (K : Nat) : Env := ⟨[(124, f124M K), (125, f125M K)], tys, eqs, K, [0, 1, 2, 3, 4, 5, 7, 13, 14, 15, 16]⟩
noncomputable def f90_b4 (K : Nat) (a0 : Int × (Int × Int × Int) × List Int) (a1 : Int × Int × Int) (y1 : List (Int × Int)) (L4 : Int → (List Int) → Option (Int × (Int × Int × Int) × List Int)) (q5 : Int) (q6 : List Int) : Option (Int × (Int × Int × Int) × List Int) :=
  (bif (decide (q5 < (y1.length : Int))) then (bif (decide (0 ≤ q5) && decide (q5 < (y1.length : Int))) then (f125G K a0 (y1.getD ((0 : Int) + q5).toNat ((0 : Int), (0 : Int)))).bind fun y7 => (bif (Nat.ble (q6.length + [y7].length) (lim 8)) then L4 (w (q5 + (1 : Int))) (q6 ++ [y7]) else none) else none) else some (a0.1, a1, q6))
noncomputable def f90_l4 (K : Nat) (a0 : Int × (Int × Int × Int) × List Int) (a1 : Int × Int × Int) (y1 : List (Int × Int)) (n : Nat) (q5 : Int) (q6 : List Int) : Option (Int × (Int × Int × Int) × List Int) :=
  iter (X := Int × List Int) (fun L x => (fun L4 => f90_b4 K a0 a1 y1 L4 x.1 x.2) (fun v0 v1 => L (v0, v1))) n (q5, q6)
noncomputable def f90_fr4 (a0 : Int × (Int × Int × Int) × List Int) (a1 : Int × Int × Int) (y1 : List (Int × Int)) (q5 : Int) (q6 : List Int) : Fr := ⟨29, [(0, .v true [.int .i64 a0.1, .int .i64 a0.2.1.1, .int .i64 a0.2.1.2.1, .int .i64 a0.2.1.2.2, .row 0]), (1, .v true [.int .i64 a1.1, .int .i64 a1.2.1, .int .i64 a1.2.2]), (2, .v false [.box 0 0]), (3, .v false [.box 1 0]), (4, .v false [.box 2 0]), (5, .v false [.box 3 0]), (13, .v false [.row 1]), (14, .v false [.int .i64 (y1.length : Int)]), (15, .v false [.int .i64 q5])], [some ⟨true, [.int .i64 a0.1, .int .i64 a0.2.1.1, .int .i64 a0.2.1.2.1, .int .i64 a0.2.1.2.2, .row 0]⟩, some ⟨true, [.int .i64 a1.1, .int .i64 a1.2.1, .int .i64 a1.2.2]⟩, some ⟨true, [.int .i64 (0 : Int), .int .i64 (0 : Int), .int .i64 (0 : Int), .int .i64 (0 : Int), .row 2]⟩, some ⟨true, [.int .i64 a0.1, .int .i64 a1.1, .int .i64 a1.2.1, .int .i64 a1.2.2, .row 3]⟩], [some ⟨2, (.int .i64), a0.2.2, .ro⟩, some ⟨32, (.cons (.int .i64) (.int .i64)), y1, .own⟩, some ⟨2, (.int .i64), [], .own⟩, some ⟨2, (.int .i64), q6, .own⟩]⟩
noncomputable def f90_k4 (K : Nat) (a0 : Int × (Int × Int × Int) × List Int) (a1 : Int × Int × Int) (lr : LR (Int × (Int × Int × Int) × List Int)) : Ex → Fr → Option (Int × (Int × Int × Int) × List Int) :=
  contC (f90E K) 1 lr f90C [1, 1, 0, 1, 0] (finK (f90E K) Tryz.f90 [(.ro, (.cons (.int .i64) (.cons (.cons (.int .i64) (.cons (.int .i64) (.int .i64))) (.list 2 (.int .i64))))), (.ro, (.cons (.int .i64) (.cons (.int .i64) (.int .i64))))] [(.cons (.int .i64) (.cons (.cons (.int .i64) (.cons (.int .i64) (.int .i64))) (.list 2 (.int .i64))))] (a0, a1, ()))
noncomputable def f90_g (K : Nat) (a0 : Int × (Int × Int × Int) × List Int) (a1 : Int × Int × Int) (I4 : (List (Int × Int)) → Int → (List Int) → Option (Int × (Int × Int × Int) × List Int)) : Option (Int × (Int × Int × Int) × List Int) :=
  (f124G K a1).bind fun y1 => I4 y1 (0 : Int) []
noncomputable def f90G (K : Nat) (a0 : Int × (Int × Int × Int) × List Int) (a1 : Int × Int × Int) : Option (Int × (Int × Int × Int) × List Int) :=
  f90_g K a0 a1 (fun c0 d0 d1 => f90_l4 K a0 a1 c0 K d0 d1)
noncomputable def f90M (K : Nat) : Mdl := ⟨[(.ro, (.cons (.int .i64) (.cons (.cons (.int .i64) (.cons (.int .i64) (.int .i64))) (.list 2 (.int .i64))))), (.ro, (.cons (.int .i64) (.cons (.int .i64) (.int .i64))))], [(.cons (.int .i64) (.cons (.cons (.int .i64) (.cons (.int .i64) (.int .i64))) (.list 2 (.int .i64))))], fun x => f90G K x.1 x.2.1⟩
/-! (impl.Pattern).lean -/
noncomputable def f58E (K : Nat) : Env := ⟨[(90, f90M K), (91, f91M K)], tys, eqs, K, [0, 1, 2]⟩
noncomputable def f58G (K : Nat) (a0 : Int × (Int × Int × Int) × List Int) : Option (Int × (Int × Int × Int) × List Int) :=
  (f91G K a0).bind fun y1 => (f90G K a0 y1).bind fun y2 => some y2
noncomputable def f58M (K : Nat) : Mdl := ⟨[(.ro, (.cons (.int .i64) (.cons (.cons (.int .i64) (.cons (.int .i64) (.int .i64))) (.list 2 (.int .i64)))))], [(.cons (.int .i64) (.cons (.cons (.int .i64) (.cons (.int .i64) (.int .i64))) (.list 2 (.int .i64))))], fun x => f58G K x.1⟩
/-! impl.norm -/
noncomputable def f174E (K : Nat) : Env := ⟨[], tys, eqs, K, [0, 1, 3, 4]⟩
noncomputable def f174G (K : Nat) (a0 : Int) (a1 : Int × Int) : Option Int :=
  some (w ((w ((w (a1.1 * a1.1)) + (w ((w (a0 * a1.1)) * a1.2)))) + (w (a1.2 * a1.2))))
noncomputable def f174M (K : Nat) : Mdl := ⟨[(.ro, (.int .i64)), (.ro, (.cons (.int .i64) (.int .i64)))], [(.int .i64)], fun x => f174G K x.1 x.2.1⟩
/-! impl.pointMats -/
noncomputable def f160C : Code := codeOf Tryz.f160
noncomputable def f160E (K : Nat) : Env := ⟨[(151, f151M K), (174, f174M K)], tys, eqs, K, [0, 2, 3, 4, 5, 6, 7, 8, 10, 11, 54]⟩
noncomputable def f160_b8 (K : Nat) (a0 : Int) (L8 : Int → (List (Int × Int × Int × Int)) → Option (List (Int × Int × Int × Int))) (q9 : Int) (q10 : List (Int × Int × Int × Int)) : Option (List (Int × Int × Int × Int)) :=
  (bif (decide (q9 < (81 : Int))) then (f151G K ((w ((w (q9.tdiv (27 : Int))) - (1 : Int))), (w (((w (q9.tdiv (9 : Int))).tmod (3 : Int)) - (1 : Int))), (w (((w (q9.tdiv (3 : Int))).tmod (3 : Int)) - (1 : Int))), (w ((q9.tmod (3 : Int)) - (1 : Int)))) ((1 : Int), (0 : Int))).bind fun y11 => (f151G K ((w ((w (q9.tdiv (27 : Int))) - (1 : Int))), (w (((w (q9.tdiv (9 : Int))).tmod (3 : Int)) - (1 : Int))), (w (((w (q9.tdiv (3 : Int))).tmod (3 : Int)) - (1 : Int))), (w ((q9.tmod (3 : Int)) - (1 : Int)))) ((0 : Int), (1 : Int))).bind fun y12 => (f151G K ((w ((w (q9.tdiv (27 : Int))) - (1 : Int))), (w (((w (q9.tdiv (9 : Int))).tmod (3 : Int)) - (1 : Int))), (w (((w (q9.tdiv (3 : Int))).tmod (3 : Int)) - (1 : Int))), (w ((q9.tmod (3 : Int)) - (1 : Int)))) ((1 : Int), (1 : Int))).bind fun y13 => (f174G K a0 y11).bind fun y14 => (bif ((!(y14 == (1 : Int))) || true) then (bif ((!(y14 == (1 : Int))) || true) then ((bif (y14 == (1 : Int)) then f174G K a0 y12 else some (0 : Int))).bind fun y15 => (bif ((!(y14 == (1 : Int))) || true) then (bif ((!(bif (y14 == (1 : Int)) then (y15 == (1 : Int)) else false)) || true) then (bif ((!(bif (y14 == (1 : Int)) then (y15 == (1 : Int)) else false)) || true) then ((bif (bif (y14 == (1 : Int)) then (y15 == (1 : Int)) else false) then f174G K a0 y13 else some (0 : Int))).bind fun y16 => (bif ((!(bif (y14 == (1 : Int)) then (y15 == (1 : Int)) else false)) || true) then (bif ((!(bif (y14 == (1 : Int)) then (y15 == (1 : Int)) else false)) || true) then (bif ((!(bif (y14 == (1 : Int)) then (y15 == (1 : Int)) else false)) || true) then (bif (bif (bif (y14 == (1 : Int)) then (y15 == (1 : Int)) else false) then (y16 == (w ((2 : Int) + a0))) else false) then (bif (Nat.ble (q10.length + [((w ((w (q9.tdiv (27 : Int))) - (1 : Int))), (w (((w (q9.tdiv (9 : Int))).tmod (3 : Int)) - (1 : Int))), (w (((w (q9.tdiv (3 : Int))).tmod (3 : Int)) - (1 : Int))), (w ((q9.tmod (3 : Int)) - (1 : Int))))].length) (lim 32)) then L8 (w (q9 + (1 : Int))) (q10 ++ [((w ((w (q9.tdiv (27 : Int))) - (1 : Int))), (w (((w (q9.tdiv (9 : Int))).tmod (3 : Int)) - (1 : Int))), (w (((w (q9.tdiv (3 : Int))).tmod (3 : Int)) - (1 : Int))), (w ((q9.tmod (3 : Int)) - (1 : Int))))]) else none) else L8 (w (q9 + (1 : Int))) q10) else none) else none) else none) else none) else none) else none) else none) else none) else some q10)
noncomputable def f160_l8 (K : Nat) (a0 : Int) (n : Nat) (q9 : Int) (q10 : List (Int × Int × Int × Int)) : Option (List (Int × Int × Int × Int)) :=
  iter (X := Int × List (Int × Int × Int × Int)) (fun L x => (fun L8 => f160_b8 K a0 L8 x.1 x.2) (fun v0 v1 => L (v0, v1))) n (q9, q10)
noncomputable def f160_fr8 (a0 : Int) (q9 : Int) (q10 : List (Int × Int × Int × Int)) : Fr := ⟨61, [(0, .v false [.int .i64 a0]), (2, .v false [.row 0]), (3, .v false [.row 1]), (10, .v false [.int .i64 q9])], [], [some ⟨31, (.cons (.int .i64) (.cons (.int .i64) (.cons (.int .i64) (.int .i64)))), [], .own⟩, some ⟨31, (.cons (.int .i64) (.cons (.int .i64) (.cons (.int .i64) (.int .i64)))), q10, .own⟩]⟩
noncomputable def f160_k8 (K : Nat) (a0 : Int) (lr : LR (List (Int × Int × Int × Int))) : Ex → Fr → Option (List (Int × Int × Int × Int)) :=
  contC (f160E K) 0 lr f160C [1, 1, 0, 1, 0] (finK (f160E K) Tryz.f160 [(.ro, (.int .i64))] [(.list 31 (.cons (.int .i64) (.cons (.int .i64) (.cons (.int .i64) (.int .i64)))))] (a0, ()))
noncomputable def f160_g (K : Nat) (a0 : Int) (I8 : Int → (List (Int × Int × Int × Int)) → Option (List (Int × Int × Int × Int))) : Option (List (Int × Int × Int × Int)) :=
  I8 (0 : Int) []
noncomputable def f160G (K : Nat) (a0 : Int) : Option (List (Int × Int × Int × Int)) :=
  f160_g K a0 (fun d0 d1 => f160_l8 K a0 K d0 d1)
noncomputable def f160M (K : Nat) : Mdl := ⟨[(.ro, (.int .i64))], [(.list 31 (.cons (.int .i64) (.cons (.int .i64) (.cons (.int .i64) (.int .i64)))))], fun x => f160G K x.1⟩
/-! (impl.Lattice).has -/
noncomputable def f162E (K : Nat) : Env := ⟨[(108, f108M K)], tys, eqs, K, [0, 1, 2, 3, 4]⟩
noncomputable def f162G (K : Nat) (a0 : Int × Int × Int) (a1 : Int × Int) : Option Bool :=
  (f108G K a0 a1).bind fun y1 => some ((y1.1 == (0 : Int)) && (y1.2 == (0 : Int)))
noncomputable def f162M (K : Nat) : Mdl := ⟨[(.ro, (.cons (.int .i64) (.cons (.int .i64) (.int .i64)))), (.ro, (.cons (.int .i64) (.int .i64)))], [.bool], fun x => f162G K x.1 x.2.1⟩
/-! impl.latticeMats$1 -/
noncomputable def f161E (K : Nat) : Env := ⟨[(151, f151M K), (162, f162M K)], tys, eqs, K, [0, 1, 2, 3, 4, 5]⟩
noncomputable def f161G (K : Nat) (a0 : Int × Int × Int × Int) (a1 : Int × Int × Int) (a2 : Int × Int) (a3 : Int × Int) : Option Bool :=
  (f151G K a0 a2).bind fun y1 => (f162G K a1 y1).bind fun y2 => (bif ((!(!(!y2))) || true) then (bif ((!(!(!y2))) || true) then (bif ((!(!(!y2))) || true) then ((bif (!(!y2)) then f151G K a0 a3 else some ((0 : Int), (0 : Int)))).bind fun y3 => ((bif (!(!y2)) then f162G K a1 y3 else some false)).bind fun y4 => (bif ((!(!(!y2))) || true) then some (bif (!y2) then true else (!y4)) else none) else none) else none) else none)
noncomputable def f161M (K : Nat) : Mdl := ⟨[(.ro, (.cons (.int .i64) (.cons (.int .i64) (.cons (.int .i64) (.int .i64))))), (.cap, (.cons (.int .i64) (.cons (.int .i64) (.int .i64)))), (.cap, (.cons (.int .i64) (.int .i64))), (.cap, (.cons (.int .i64) (.int .i64)))], [.bool], fun x => f161G K x.1 x.2.1 x.2.2.1 x.2.2.2.1⟩
/-! slices.IndexFunc[[]impl.Mat,impl.Mat] -/
noncomputable def f173C : Code := codeOf Tryz.f173
noncomputable def f173E (K : Nat) : Env := ⟨[], tys, eqs, K, [0, 1, 4, 5, 7, 8, 9, 16]⟩
noncomputable def f173_b3 (K : Nat) (a0 : List (Int × Int × Int × Int)) (a1 : ((Int × Int × Int × Int) → Option Bool)) (L3 : Int → Option Int) (q4 : Int) : Option Int :=
  (bif (decide (q4 < (a0.length : Int))) then (bif (decide (0 ≤ q4) && decide (q4 < (a0.length : Int))) then (a1 ((a0.getD ((0 : Int) + q4).toNat ((0 : Int), ((0 : Int), ((0 : Int), (0 : Int))))).1, ((a0.getD ((0 : Int) + q4).toNat ((0 : Int), ((0 : Int), ((0 : Int), (0 : Int))))).2).1, (((a0.getD ((0 : Int) + q4).toNat ((0 : Int), ((0 : Int), ((0 : Int), (0 : Int))))).2).2))).bind fun y5 => (bif y5 then some q4 else L3 (w (q4 + (1 : Int)))) else none) else some (-1 : Int))
noncomputable def f173_l3 (K : Nat) (a0 : List (Int × Int × Int × Int)) (a1 : ((Int × Int × Int × Int) → Option Bool)) (n : Nat) (q4 : Int) : Option Int :=
  iter (X := Int) (fun L x => (fun L3 => f173_b3 K a0 a1 L3 x) (fun v0 => L v0)) n q4
noncomputable def f173_fr3 (a0 : List (Int × Int × Int × Int)) (a1 : ((Int × Int × Int × Int) → Option Bool)) (q4 : Int) : Fr := ⟨19, [(0, .v false [.row 0]), (1, .v false [.fv1 (.cons (.int .i64) (.cons (.int .i64) (.cons (.int .i64) (.int .i64)))) .bool a1]), (4, .v false [.int .i64 (0 : Int)]), (7, .v false [.int .i64 (a0.length : Int)]), (8, .v false [.int .i64 q4])], [], [some ⟨31, (.cons (.int .i64) (.cons (.int .i64) (.cons (.int .i64) (.int .i64)))), a0, .ro⟩]⟩
noncomputable def f173_k3 (K : Nat) (a0 : List (Int × Int × Int × Int)) (a1 : ((Int × Int × Int × Int) → Option Bool)) (lr : LR Int) : Ex → Fr → Option Int :=
  contC (f173E K) 1 lr f173C [1, 0, 1, 0] (finK (f173E K) Tryz.f173 [(.ro, (.list 31 (.cons (.int .i64) (.cons (.int .i64) (.cons (.int .i64) (.int .i64)))))), (.ro, (.fn1 (.cons (.int .i64) (.cons (.int .i64) (.cons (.int .i64) (.int .i64)))) .bool))] [(.int .i64)] (a0, a1, ()))
noncomputable def f173_g (K : Nat) (a0 : List (Int × Int × Int × Int)) (a1 : ((Int × Int × Int × Int) → Option Bool)) (I3 : Int → Option Int) : Option Int :=
  I3 (0 : Int)
noncomputable def f173G (K : Nat) (a0 : List (Int × Int × Int × Int)) (a1 : ((Int × Int × Int × Int) → Option Bool)) : Option Int :=
  f173_g K a0 a1 (fun d0 => f173_l3 K a0 a1 K d0)
noncomputable def f173M (K : Nat) : Mdl := ⟨[(.ro, (.list 31 (.cons (.int .i64) (.cons (.int .i64) (.cons (.int .i64) (.int .i64)))))), (.ro, (.fn1 (.cons (.int .i64) (.cons (.int .i64) (.cons (.int .i64) (.int .i64)))) .bool))], [(.int .i64)], fun x => f173G K x.1 x.2.1⟩
/-! slices.DeleteFunc[[]impl.Mat,impl.Mat] -/
noncomputable def f159C : Code := codeOf Tryz.f159
noncomputable def f159E (K : Nat) : Env := ⟨[(173, f173M K)], tys, eqs, K, [0, 1, 4, 5, 6, 7, 12, 19, 29]⟩
noncomputable def f159_b4 (K : Nat) (a1 : ((Int × Int × Int × Int) → Option Bool)) (y1 : Int) (L4 : Int → Int → (List (Int × Int × Int × Int)) → Option (List (Int × Int × Int × Int))) (q5 : Int) (q6 : Int) (q7 : List (Int × Int × Int × Int)) : Option (List (Int × Int × Int × Int)) :=
  (bif (decide (q6 < (q7.length : Int))) then (bif (decide (0 ≤ q6) && decide (q6 < (q7.length : Int))) then (a1 ((q7.getD ((0 : Int) + q6).toNat ((0 : Int), ((0 : Int), ((0 : Int), (0 : Int))))).1, ((q7.getD ((0 : Int) + q6).toNat ((0 : Int), ((0 : Int), ((0 : Int), (0 : Int))))).2).1, (((q7.getD ((0 : Int) + q6).toNat ((0 : Int), ((0 : Int), ((0 : Int), (0 : Int))))).2).2))).bind fun y8 => (bif (!y8) then (bif (decide (0 ≤ q5) && decide (q5 < (q7.length : Int))) then L4 (w (q5 + (1 : Int))) (w (q6 + (1 : Int))) (q7.set ((0 : Int) + q5).toNat ((q7.getD ((0 : Int) + q6).toNat ((0 : Int), ((0 : Int), ((0 : Int), (0 : Int))))).1, ((q7.getD ((0 : Int) + q6).toNat ((0 : Int), ((0 : Int), ((0 : Int), (0 : Int))))).2).1, (((q7.getD ((0 : Int) + q6).toNat ((0 : Int), ((0 : Int), ((0 : Int), (0 : Int))))).2).2))) else none) else L4 q5 (w (q6 + (1 : Int))) q7) else none) else (bif (decide (0 ≤ q5) && decide (q5 ≤ (q7.length : Int)) && decide ((q7.length : Int) ≤ (q7.length : Int))) then (bif (decide (0 ≤ (0 : Int)) && decide ((0 : Int) ≤ q5) && decide (q5 ≤ ((clr q7 ((0 : Int) + q5).toNat (((0 : Int) + q5) + (((0 : Int) + (q7.length : Int)) - ((0 : Int) + q5))).toNat ((0 : Int), ((0 : Int), ((0 : Int), (0 : Int))))).length : Int))) then some ((clr q7 ((0 : Int) + q5).toNat (((0 : Int) + q5) + (((0 : Int) + (q7.length : Int)) - ((0 : Int) + q5))).toNat ((0 : Int), ((0 : Int), ((0 : Int), (0 : Int))))).take ((0 : Int) + q5).toNat) else none) else none))
noncomputable def f159_l4 (K : Nat) (a1 : ((Int × Int × Int × Int) → Option Bool)) (y1 : Int) (n : Nat) (q5 : Int) (q6 : Int) (q7 : List (Int × Int × Int × Int)) : Option (List (Int × Int × Int × Int)) :=
  iter (X := Int × Int × List (Int × Int × Int × Int)) (fun L x => (fun L4 => f159_b4 K a1 y1 L4 x.1 x.2.1 x.2.2) (fun v0 v1 v2 => L (v0, v1, v2))) n (q5, q6, q7)
noncomputable def f159_fr4 (a1 : ((Int × Int × Int × Int) → Option Bool)) (y1 : Int) (q5 : Int) (q6 : Int) (q7 : List (Int × Int × Int × Int)) : Fr := ⟨42, [(0, .v false [.row 0]), (1, .v false [.fv1 (.cons (.int .i64) (.cons (.int .i64) (.cons (.int .i64) (.int .i64)))) .bool a1]), (4, .v false [.row 1]), (5, .v false [.int .i64 q5]), (6, .v false [.int .i64 q6]), (12, .v false [.bool (y1 == (-1 : Int))])], [], [some ⟨31, (.cons (.int .i64) (.cons (.int .i64) (.cons (.int .i64) (.int .i64)))), q7, .own⟩, some ⟨31, (.cons (.int .i64) (.cons (.int .i64) (.cons (.int .i64) (.int .i64)))), [], .own⟩]⟩
noncomputable def f159_k4 (K : Nat) (a0 : List (Int × Int × Int × Int)) (a1 : ((Int × Int × Int × Int) → Option Bool)) (lr : LR (List (Int × Int × Int × Int))) : Ex → Fr → Option (List (Int × Int × Int × Int)) :=
  contC (f159E K) 1 lr f159C [1, 1, 1, 0, 1, 0] (finK (f159E K) Tryz.f159 [(.mv, (.list 31 (.cons (.int .i64) (.cons (.int .i64) (.cons (.int .i64) (.int .i64)))))), (.ro, (.fn1 (.cons (.int .i64) (.cons (.int .i64) (.cons (.int .i64) (.int .i64)))) .bool))] [(.list 31 (.cons (.int .i64) (.cons (.int .i64) (.cons (.int .i64) (.int .i64)))))] (a0, a1, ()))
noncomputable def f159_g (K : Nat) (a0 : List (Int × Int × Int × Int)) (a1 : ((Int × Int × Int × Int) → Option Bool)) (I4 : Int → Int → Int → (List (Int × Int × Int × Int)) → Option (List (Int × Int × Int × Int))) : Option (List (Int × Int × Int × Int)) :=
  (f173G K a0 a1).bind fun y1 => (bif (y1 == (-1 : Int)) then some a0 else I4 y1 y1 (w (y1 + (1 : Int))) a0)
noncomputable def f159G (K : Nat) (a0 : List (Int × Int × Int × Int)) (a1 : ((Int × Int × Int × Int) → Option Bool)) : Option (List (Int × Int × Int × Int)) :=
  f159_g K a0 a1 (fun c0 d0 d1 d2 => f159_l4 K a1 c0 K d0 d1 d2)
noncomputable def f159M (K : Nat) : Mdl := ⟨[(.mv, (.list 31 (.cons (.int .i64) (.cons (.int .i64) (.cons (.int .i64) (.int .i64)))))), (.ro, (.fn1 (.cons (.int .i64) (.cons (.int .i64) (.cons (.int .i64) (.int .i64)))) .bool))], [(.list 31 (.cons (.int .i64) (.cons (.int .i64) (.cons (.int .i64) (.int .i64)))))], fun x => f159G K x.1 x.2.1⟩
/-! impl.latticeMats -/
noncomputable def f130E (K : Nat) : Env := ⟨[(126, f126M K), (159, f159M K), (160, f160M K), (161, f161M K)], tys, eqs, K, [0, 1, 3, 4, 5, 6]⟩
noncomputable def f130G (K : Nat) (a0 : Int) (a1 : Int × Int × Int) : Option (List (Int × Int × Int × Int)) :=
  (f126G K a1).bind fun y1 => (f160G K a0).bind fun y2 => (f159G K y2 (fun z3 => f161G K z3 a1 y1.1 y1.2)).bind fun y4 => some y4
noncomputable def f130M (K : Nat) : Mdl := ⟨[(.ro, (.int .i64)), (.ro, (.cons (.int .i64) (.cons (.int .i64) (.int .i64))))], [(.list 31 (.cons (.int .i64) (.cons (.int .i64) (.cons (.int .i64) (.int .i64)))))], fun x => f130G K x.1 x.2.1⟩
/-! (impl.Pattern).groupOf -/
noncomputable def f92C : Code := codeOf Tryz.f92
noncomputable def f92E (K : Nat) : Env := ⟨[(124, f124M K), (127, f127M K), (130, f130M K)], tys, eqs, K, [0, 1, 2, 3, 5, 7, 13, 14, 15, 16, 21, 22, 23, 24, 31]⟩
noncomputable def f92_b14 (K : Nat) (a0 : Int × (Int × Int × Int) × List Int) (q11 : Int) (y1 : List (Int × Int × Int × Int)) (y13 : List (Int × Int)) (L10 : Int → (List ((Int × Int × Int × Int) × Int × Int)) → Option (List ((Int × Int × Int × Int) × Int × Int))) (L14 : Int → (List ((Int × Int × Int × Int) × Int × Int)) → Option (List ((Int × Int × Int × Int) × Int × Int))) (q15 : Int) (q16 : List ((Int × Int × Int × Int) × Int × Int)) : Option (List ((Int × Int × Int × Int) × Int × Int)) :=
  (bif (decide (q15 < (y13.length : Int))) then (bif (decide (0 ≤ q15) && decide (q15 < (y13.length : Int))) then (f127G K a0 (((y1.getD ((0 : Int) + q11).toNat ((0 : Int), ((0 : Int), ((0 : Int), (0 : Int))))).1, ((y1.getD ((0 : Int) + q11).toNat ((0 : Int), ((0 : Int), ((0 : Int), (0 : Int))))).2).1, (((y1.getD ((0 : Int) + q11).toNat ((0 : Int), ((0 : Int), ((0 : Int), (0 : Int))))).2).2)), (y13.getD ((0 : Int) + q15).toNat ((0 : Int), (0 : Int))))).bind fun y17 => (bif y17 then (bif (Nat.ble (q16.length + [(((y1.getD ((0 : Int) + q11).toNat ((0 : Int), ((0 : Int), ((0 : Int), (0 : Int))))).1, ((y1.getD ((0 : Int) + q11).toNat ((0 : Int), ((0 : Int), ((0 : Int), (0 : Int))))).2).1, (((y1.getD ((0 : Int) + q11).toNat ((0 : Int), ((0 : Int), ((0 : Int), (0 : Int))))).2).2)), (y13.getD ((0 : Int) + q15).toNat ((0 : Int), (0 : Int))))].length) (lim 48)) then L14 (w (q15 + (1 : Int))) (q16 ++ [(((y1.getD ((0 : Int) + q11).toNat ((0 : Int), ((0 : Int), ((0 : Int), (0 : Int))))).1, ((y1.getD ((0 : Int) + q11).toNat ((0 : Int), ((0 : Int), ((0 : Int), (0 : Int))))).2).1, (((y1.getD ((0 : Int) + q11).toNat ((0 : Int), ((0 : Int), ((0 : Int), (0 : Int))))).2).2)), (y13.getD ((0 : Int) + q15).toNat ((0 : Int), (0 : Int))))]) else none) else L14 (w (q15 + (1 : Int))) q16) else none) else L10 (w (q11 + (1 : Int))) q16)
noncomputable def f92_l14 (K : Nat) (a0 : Int × (Int × Int × Int) × List Int) (q11 : Int) (y1 : List (Int × Int × Int × Int)) (y13 : List (Int × Int)) (L10 : Int → (List ((Int × Int × Int × Int) × Int × Int)) → Option (List ((Int × Int × Int × Int) × Int × Int))) (n : Nat) (q15 : Int) (q16 : List ((Int × Int × Int × Int) × Int × Int)) : Option (List ((Int × Int × Int × Int) × Int × Int)) :=
  iter (X := Int × List ((Int × Int × Int × Int) × Int × Int)) (fun L x => (fun L14 => f92_b14 K a0 q11 y1 y13 L10 L14 x.1 x.2) (fun v0 v1 => L (v0, v1))) n (q15, q16)
noncomputable def f92_fr14 (a0 : Int × (Int × Int × Int) × List Int) (q11 : Int) (y1 : List (Int × Int × Int × Int)) (y13 : List (Int × Int)) (q15 : Int) (q16 : List ((Int × Int × Int × Int) × Int × Int)) : Fr := ⟨41, [(0, .v true [.int .i64 a0.1, .int .i64 a0.2.1.1, .int .i64 a0.2.1.2.1, .int .i64 a0.2.1.2.2, .row 0]), (1, .v false [.box 0 0]), (2, .v false [.row 1]), (3, .v false [.row 2]), (5, .v false [.box 1 0]), (13, .v false [.row 3]), (14, .v false [.int .i64 (y1.length : Int)]), (15, .v false [.int .i64 q11]), (16, .v false [.bool (decide (q11 < (y1.length : Int)))]), (21, .v false [.row 4]), (22, .v false [.int .i64 (y13.length : Int)]), (23, .v false [.int .i64 q15])], [some ⟨true, [.int .i64 a0.1, .int .i64 a0.2.1.1, .int .i64 a0.2.1.2.1, .int .i64 a0.2.1.2.2, .row 0]⟩, some ⟨true, [.int .i64 ((y1.getD ((0 : Int) + q11).toNat ((0 : Int), ((0 : Int), ((0 : Int), (0 : Int))))).1), .int .i64 (((y1.getD ((0 : Int) + q11).toNat ((0 : Int), ((0 : Int), ((0 : Int), (0 : Int))))).2).1), .int .i64 ((((y1.getD ((0 : Int) + q11).toNat ((0 : Int), ((0 : Int), ((0 : Int), (0 : Int))))).2).2).1), .int .i64 ((((y1.getD ((0 : Int) + q11).toNat ((0 : Int), ((0 : Int), ((0 : Int), (0 : Int))))).2).2).2)]⟩], [some ⟨2, (.int .i64), a0.2.2, .ro⟩, some ⟨34, (.cons (.cons (.int .i64) (.cons (.int .i64) (.cons (.int .i64) (.int .i64)))) (.cons (.int .i64) (.int .i64))), [], .own⟩, some ⟨34, (.cons (.cons (.int .i64) (.cons (.int .i64) (.cons (.int .i64) (.int .i64)))) (.cons (.int .i64) (.int .i64))), q16, .own⟩, some ⟨31, (.cons (.int .i64) (.cons (.int .i64) (.cons (.int .i64) (.int .i64)))), y1, .own⟩, some ⟨32, (.cons (.int .i64) (.int .i64)), y13, .own⟩]⟩
noncomputable def f92_b10 (K : Nat) (a0 : Int × (Int × Int × Int) × List Int) (y1 : List (Int × Int × Int × Int)) (I14 : Int → (List (Int × Int)) → Int → (List ((Int × Int × Int × Int) × Int × Int)) → Option (List ((Int × Int × Int × Int) × Int × Int))) (L10 : Int → (List ((Int × Int × Int × Int) × Int × Int)) → Option (List ((Int × Int × Int × Int) × Int × Int))) (q11 : Int) (q12 : List ((Int × Int × Int × Int) × Int × Int)) : Option (List ((Int × Int × Int × Int) × Int × Int)) :=
  (bif (decide (q11 < (y1.length : Int))) then (bif (decide (0 ≤ q11) && decide (q11 < (y1.length : Int))) then (f124G K a0.2.1).bind fun y13 => I14 q11 y13 (0 : Int) q12 else none) else some q12)
noncomputable def f92_l10 (K : Nat) (a0 : Int × (Int × Int × Int) × List Int) (y1 : List (Int × Int × Int × Int)) (n : Nat) (q11 : Int) (q12 : List ((Int × Int × Int × Int) × Int × Int)) : Option (List ((Int × Int × Int × Int) × Int × Int)) :=
  iter (X := Int × List ((Int × Int × Int × Int) × Int × Int)) (fun L x => (fun L10 => f92_b10 K a0 y1 (fun c0 c1 d0 d1 => f92_l14 K a0 c0 y1 c1 L10 K d0 d1) L10 x.1 x.2) (fun v0 v1 => L (v0, v1))) n (q11, q12)
noncomputable def f92_fr10 (a0 : Int × (Int × Int × Int) × List Int) (y1 : List (Int × Int × Int × Int)) (q11 : Int) (q12 : List ((Int × Int × Int × Int) × Int × Int)) : Fr := ⟨41, [(0, .v true [.int .i64 a0.1, .int .i64 a0.2.1.1, .int .i64 a0.2.1.2.1, .int .i64 a0.2.1.2.2, .row 0]), (1, .v false [.box 0 0]), (2, .v false [.row 1]), (3, .v false [.row 2]), (13, .v false [.row 3]), (14, .v false [.int .i64 (y1.length : Int)]), (15, .v false [.int .i64 q11])], [some ⟨true, [.int .i64 a0.1, .int .i64 a0.2.1.1, .int .i64 a0.2.1.2.1, .int .i64 a0.2.1.2.2, .row 0]⟩], [some ⟨2, (.int .i64), a0.2.2, .ro⟩, some ⟨34, (.cons (.cons (.int .i64) (.cons (.int .i64) (.cons (.int .i64) (.int .i64)))) (.cons (.int .i64) (.int .i64))), [], .own⟩, some ⟨34, (.cons (.cons (.int .i64) (.cons (.int .i64) (.cons (.int .i64) (.int .i64)))) (.cons (.int .i64) (.int .i64))), q12, .own⟩, some ⟨31, (.cons (.int .i64) (.cons (.int .i64) (.cons (.int .i64) (.int .i64)))), y1, .own⟩]⟩
noncomputable def f92_k10 (K : Nat) (a0 : Int × (Int × Int × Int) × List Int) (lr : LR (List ((Int × Int × Int × Int) × Int × Int))) : Ex → Fr → Option (List ((Int × Int × Int × Int) × Int × Int)) :=
  contC (f92E K) 1 lr f92C [1, 1, 0, 1, 0] (finK (f92E K) Tryz.f92 [(.ro, (.cons (.int .i64) (.cons (.cons (.int .i64) (.cons (.int .i64) (.int .i64))) (.list 2 (.int .i64)))))] [(.list 34 (.cons (.cons (.int .i64) (.cons (.int .i64) (.cons (.int .i64) (.int .i64)))) (.cons (.int .i64) (.int .i64))))] (a0, ()))
noncomputable def f92_k14 (K : Nat) (a0 : Int × (Int × Int × Int) × List Int) (y1 : List (Int × Int × Int × Int)) (F10 : Fr → Option (List ((Int × Int × Int × Int) × Int × Int))) (bq11 : Int) (bq12 : List ((Int × Int × Int × Int) × Int × Int)) (lr : LR (List ((Int × Int × Int × Int) × Int × Int))) : Ex → Fr → Option (List ((Int × Int × Int × Int) × Int × Int)) :=
  contC (f92E K) 1 lr (selC f92C [1, 1, 0, 1, 0, 0]) [1, 1, 0, 0, 1, 1, 0] (loopK 1 (f92_fr10 a0 y1 bq11 bq12) F10 (f92_k10 K a0 lr))
noncomputable def f92_g (K : Nat) (a0 : Int × (Int × Int × Int) × List Int) (I10 : (List (Int × Int × Int × Int)) → Int → (List ((Int × Int × Int × Int) × Int × Int)) → Option (List ((Int × Int × Int × Int) × Int × Int))) : Option (List ((Int × Int × Int × Int) × Int × Int)) :=
  (f130G K a0.1 a0.2.1).bind fun y1 => I10 y1 (0 : Int) []
noncomputable def f92G (K : Nat) (a0 : Int × (Int × Int × Int) × List Int) : Option (List ((Int × Int × Int × Int) × Int × Int)) :=
  f92_g K a0 (fun c0 d0 d1 => f92_l10 K a0 c0 K d0 d1)
noncomputable def f92M (K : Nat) : Mdl := ⟨[(.ro, (.cons (.int .i64) (.cons (.cons (.int .i64) (.cons (.int .i64) (.int .i64))) (.list 2 (.int .i64)))))], [(.list 34 (.cons (.cons (.int .i64) (.cons (.int .i64) (.cons (.int .i64) (.int .i64)))) (.cons (.int .i64) (.int .i64))))], fun x => f92G K x.1⟩
/-! (impl.Mat).det -/
noncomputable def f93E (K : Nat) : Env := ⟨[], tys, eqs, K, [0, 1, 2]⟩
noncomputable def f93G (K : Nat) (a0 : Int × Int × Int × Int) : Option Int :=
  some (w ((w (a0.1 * a0.2.2.2)) - (w (a0.2.1 * a0.2.2.1))))
noncomputable def f93M (K : Nat) : Mdl := ⟨[(.ro, (.cons (.int .i64) (.cons (.int .i64) (.cons (.int .i64) (.int .i64)))))], [(.int .i64)], fun x => f93G K x.1⟩
/-! (impl.Mat).order -/
noncomputable def f163E (K : Nat) : Env := ⟨[(93, f93M K), (128, f128M K)], tys, eqs, K, [0, 1, 2, 3, 9, 13, 24, 32, 40]⟩
noncomputable def f163G (K : Nat) (a0 : Int × Int × Int × Int) : Option Int :=
  (f128G K).bind fun y1 => (bif ((a0.1 == y1.1) && ((a0.2.1 == y1.2.1) && ((a0.2.2.1 == y1.2.2.1) && (a0.2.2.2 == y1.2.2.2)))) then some (1 : Int) else (f93G K a0).bind fun y2 => (bif ((!(y2 == (-1 : Int))) || true) then (bif ((!(y2 == (-1 : Int))) || true) then (bif (bif (y2 == (-1 : Int)) then ((w (a0.1 + a0.2.2.2)) == (0 : Int)) else false) then (bif (bif (y2 == (-1 : Int)) then ((w (a0.1 + a0.2.2.2)) == (0 : Int)) else false) then some (2 : Int) else (f93G K a0).bind fun y3 => (bif ((!(y3 == (1 : Int))) || true) then (bif ((!(y3 == (1 : Int))) || true) then (bif (bif (y3 == (1 : Int)) then ((w (a0.1 + a0.2.2.2)) == (-1 : Int)) else false) then some (3 : Int) else (f93G K a0).bind fun y4 => (bif ((!(y4 == (1 : Int))) || true) then (bif ((!(y4 == (1 : Int))) || true) then (bif (bif (y4 == (1 : Int)) then ((w (a0.1 + a0.2.2.2)) == (0 : Int)) else false) then some (4 : Int) else (f93G K a0).bind fun y5 => (bif ((!(y5 == (1 : Int))) || true) then (bif ((!(y5 == (1 : Int))) || true) then (bif (bif (y5 == (1 : Int)) then ((w (a0.1 + a0.2.2.2)) == (1 : Int)) else false) then some (6 : Int) else some (0 : Int)) else none) else none)) else none) else none)) else none) else none)) else (bif ((a0.1 == (-1 : Int)) && ((a0.2.1 == (0 : Int)) && ((a0.2.2.1 == (0 : Int)) && (a0.2.2.2 == (-1 : Int))))) then some (2 : Int) else (f93G K a0).bind fun y6 => (bif ((!(y6 == (1 : Int))) || true) then (bif ((!(y6 == (1 : Int))) || true) then (bif (bif (y6 == (1 : Int)) then ((w (a0.1 + a0.2.2.2)) == (-1 : Int)) else false) then some (3 : Int) else (f93G K a0).bind fun y7 => (bif ((!(y7 == (1 : Int))) || true) then (bif ((!(y7 == (1 : Int))) || true) then (bif (bif (y7 == (1 : Int)) then ((w (a0.1 + a0.2.2.2)) == (0 : Int)) else false) then some (4 : Int) else (f93G K a0).bind fun y8 => (bif ((!(y8 == (1 : Int))) || true) then (bif ((!(y8 == (1 : Int))) || true) then (bif (bif (y8 == (1 : Int)) then ((w (a0.1 + a0.2.2.2)) == (1 : Int)) else false) then some (6 : Int) else some (0 : Int)) else none) else none)) else none) else none)) else none) else none))) else none) else none))
noncomputable def f163M (K : Nat) : Mdl := ⟨[(.ro, (.cons (.int .i64) (.cons (.int .i64) (.cons (.int .i64) (.int .i64)))))], [(.int .i64)], fun x => f163G K x.1⟩
/-! (impl.Mat).isReflection -/
noncomputable def f131E (K : Nat) : Env := ⟨[(93, f93M K), (163, f163M K)], tys, eqs, K, [0, 1, 2]⟩
noncomputable def f131G (K : Nat) (a0 : Int × Int × Int × Int) : Option Bool :=
  (f93G K a0).bind fun y1 => (bif ((!(y1 == (-1 : Int))) || true) then ((bif (y1 == (-1 : Int)) then f163G K a0 else some (0 : Int))).bind fun y2 => (bif ((!(y1 == (-1 : Int))) || true) then some (bif (y1 == (-1 : Int)) then (y2 == (2 : Int)) else false) else none) else none)
noncomputable def f131M (K : Nat) : Mdl := ⟨[(.ro, (.cons (.int .i64) (.cons (.int .i64) (.cons (.int .i64) (.int .i64)))))], [.bool], fun x => f131G K x.1⟩
/-! impl.isCoordinate -/
noncomputable def f144E (K : Nat) : Env := ⟨[(77, f77M K)], tys, eqs, K, [0, 2]⟩
noncomputable def f144G (K : Nat) (a0 : Int) : Option Bool :=
  (f77G K a0 (-1000 : Int) (1000 : Int)).bind fun y1 => some y1
noncomputable def f144M (K : Nat) : Mdl := ⟨[(.ro, (.int .i64))], [.bool], fun x => f144G K x.1⟩
/-! (impl.Mat).isSmall -/
noncomputable def f181E (K : Nat) : Env := ⟨[(144, f144M K)], tys, eqs, K, [0, 1, 2]⟩
noncomputable def f181G (K : Nat) (a0 : Int × Int × Int × Int) : Option Bool :=
  (f144G K a0.1).bind fun y1 => (bif ((!y1) || true) then (bif ((!y1) || true) then ((bif y1 then f144G K a0.2.1 else some false)).bind fun y2 => (bif ((!(bif y1 then y2 else false)) || true) then (bif ((!(bif y1 then y2 else false)) || true) then ((bif (bif y1 then y2 else false) then f144G K a0.2.2.1 else some false)).bind fun y3 => (bif ((!(bif (bif y1 then y2 else false) then y3 else false)) || true) then (bif ((!(bif (bif y1 then y2 else false) then y3 else false)) || true) then ((bif (bif (bif y1 then y2 else false) then y3 else false) then f144G K a0.2.2.2 else some false)).bind fun y4 => some (bif (bif (bif y1 then y2 else false) then y3 else false) then y4 else false) else none) else none) else none) else none) else none) else none)
noncomputable def f181M (K : Nat) : Mdl := ⟨[(.ro, (.cons (.int .i64) (.cons (.int .i64) (.cons (.int .i64) (.int .i64)))))], [.bool], fun x => f181G K x.1⟩
/-! impl.IsMat -/
noncomputable def f175E (K : Nat) : Env := ⟨[(93, f93M K), (181, f181M K)], tys, eqs, K, [0, 1, 2]⟩
noncomputable def f175G (K : Nat) (a0 : Int × Int × Int × Int) : Option Bool :=
  (f181G K a0).bind fun y1 => (bif ((!y1) || true) then ((bif y1 then f93G K a0 else some (0 : Int))).bind fun y2 => (bif ((!y1) || true) then (bif ((!y1) || true) then (bif ((!(y1 && (!(y2 == (1 : Int))))) || true) then ((bif (y1 && (!(y2 == (1 : Int)))) then f93G K a0 else some (0 : Int))).bind fun y3 => (bif ((!(y1 && (!(y2 == (1 : Int))))) || true) then (bif ((!y1) || true) then some (bif y1 then (bif (y2 == (1 : Int)) then true else (y3 == (-1 : Int))) else false) else none) else none) else none) else none) else none) else none)
noncomputable def f175M (K : Nat) : Mdl := ⟨[(.ro, (.cons (.int .i64) (.cons (.int .i64) (.cons (.int .i64) (.int .i64)))))], [.bool], fun x => f175G K x.1⟩
/-! impl.compareNumbers -/
noncomputable def f145C : Code := codeOf Tryz.f145
noncomputable def f145E (K : Nat) : Env := ⟨[], tys, eqs, K, [0, 1, 4, 5, 7, 8, 9, 19, 28]⟩
noncomputable def f145_b2 (K : Nat) (a0 : List Int) (a1 : List Int) (L2 : Int → Option Int) (q3 : Int) : Option Int :=
  (bif (decide (q3 < (a0.length : Int))) then (bif (decide (0 ≤ q3) && decide (q3 < (a0.length : Int))) then (bif (decide (0 ≤ q3) && decide (q3 < (a1.length : Int))) then (bif ((a0.getD ((0 : Int) + q3).toNat (0 : Int)) != (a1.getD ((0 : Int) + q3).toNat (0 : Int))) then (bif (decide (0 ≤ q3) && decide (q3 < (a0.length : Int))) then (bif (decide (0 ≤ q3) && decide (q3 < (a1.length : Int))) then (bif (decide ((a0.getD ((0 : Int) + q3).toNat (0 : Int)) < (a1.getD ((0 : Int) + q3).toNat (0 : Int)))) then some (-1 : Int) else some (1 : Int)) else none) else none) else L2 (w (q3 + (1 : Int)))) else none) else none) else some (0 : Int))
noncomputable def f145_l2 (K : Nat) (a0 : List Int) (a1 : List Int) (n : Nat) (q3 : Int) : Option Int :=
  iter (X := Int) (fun L x => (fun L2 => f145_b2 K a0 a1 L2 x) (fun v0 => L v0)) n q3
noncomputable def f145_fr2 (a0 : List Int) (a1 : List Int) (q3 : Int) : Fr := ⟨30, [(0, .v false [.row 0]), (1, .v false [.row 1]), (4, .v false [.int .i64 (0 : Int)]), (7, .v false [.int .i64 (a0.length : Int)]), (8, .v false [.int .i64 q3])], [], [some ⟨2, (.int .i64), a0, .ro⟩, some ⟨2, (.int .i64), a1, .ro⟩]⟩
noncomputable def f145_k2 (K : Nat) (a0 : List Int) (a1 : List Int) (lr : LR Int) : Ex → Fr → Option Int :=
  contC (f145E K) 2 lr f145C [1, 0, 1, 0] (finK (f145E K) Tryz.f145 [(.ro, (.list 2 (.int .i64))), (.ro, (.list 2 (.int .i64)))] [(.int .i64)] (a0, a1, ()))
noncomputable def f145_g (K : Nat) (a0 : List Int) (a1 : List Int) (I2 : Int → Option Int) : Option Int :=
  I2 (0 : Int)
noncomputable def f145G (K : Nat) (a0 : List Int) (a1 : List Int) : Option Int :=
  f145_g K a0 a1 (fun d0 => f145_l2 K a0 a1 K d0)
noncomputable def f145M (K : Nat) : Mdl := ⟨[(.ro, (.list 2 (.int .i64))), (.ro, (.list 2 (.int .i64)))], [(.int .i64)], fun x => f145G K x.1 x.2.1⟩
/-! impl.compareVecs -/
noncomputable def f106E (K : Nat) : Env := ⟨[(145, f145M K)], tys, eqs, K, [0, 1, 2, 3, 4]⟩
noncomputable def f106G (K : Nat) (a0 : Int × Int) (a1 : Int × Int) : Option Int :=
  (f145G K [a0.1, a0.2] [a1.1, a1.2]).bind fun y1 => some y1
noncomputable def f106M (K : Nat) : Mdl := ⟨[(.ro, (.cons (.int .i64) (.int .i64))), (.ro, (.cons (.int .i64) (.int .i64)))], [(.int .i64)], fun x => f106G K x.1 x.2.1⟩
/-! impl.IsVec -/
noncomputable def f105E (K : Nat) : Env := ⟨[(144, f144M K)], tys, eqs, K, [0, 1, 2]⟩
noncomputable def f105G (K : Nat) (a0 : Int × Int) : Option Bool :=
  (f144G K a0.1).bind fun y1 => (bif ((!y1) || true) then (bif ((!y1) || true) then ((bif y1 then f144G K a0.2 else some false)).bind fun y2 => some (bif y1 then y2 else false) else none) else none)
noncomputable def f105M (K : Nat) : Mdl := ⟨[(.ro, (.cons (.int .i64) (.int .i64)))], [.bool], fun x => f105G K x.1⟩
/-! impl.limited -/
noncomputable def f176E (K : Nat) : Env := ⟨[(105, f105M K)], tys, eqs, K, [0, 1, 2, 3, 6]⟩
noncomputable def f176G (K : Nat) (a0 : Int × Int) : Option ((Int × Int) × Int) :=
  (f105G K a0).bind fun y1 => (bif (!y1) then some (((0 : Int), (0 : Int)), (3 : Int)) else some (a0, (0 : Int)))
noncomputable def f176M (K : Nat) : Mdl := ⟨[(.ro, (.cons (.int .i64) (.int .i64)))], [(.cons (.int .i64) (.int .i64)), (.int .i64)], fun x => f176G K x.1⟩
/-! impl.AxisOf -/
noncomputable def f164E (K : Nat) : Env := ⟨[(106, f106M K), (131, f131M K), (133, f133M K), (158, f158M K), (175, f175M K), (176, f176M K)], tys, eqs, K, [0, 1, 2, 3, 4, 5, 8, 12, 22, 46]⟩
noncomputable def f164G (K : Nat) (a0 : Int × Int × Int × Int) : Option ((Int × Int) × Int) :=
  (f175G K a0).bind fun y1 => (bif (!y1) then some (((0 : Int), (0 : Int)), (1 : Int)) else (f131G K a0).bind fun y2 => (bif (!y2) then some (((0 : Int), (0 : Int)), (5 : Int)) else (bif ((a0.2.1 == (0 : Int)) && ((w ((1 : Int) - a0.1)) == (0 : Int))) then (f133G K (w ((1 : Int) - a0.2.2.2)) a0.2.2.1).bind fun y3 => (bif (y3 != 0) then (bif (y3 != 0) then (f106G K ((w ((w ((1 : Int) - a0.2.2.2)).tdiv y3)), (w (a0.2.2.1.tdiv y3))) ((0 : Int), (0 : Int))).bind fun y4 => (bif (decide (y4 < (0 : Int))) then (f158G K ((w ((w ((1 : Int) - a0.2.2.2)).tdiv y3)), (w (a0.2.2.1.tdiv y3))) (-1 : Int)).bind fun y5 => (f176G K y5).bind fun y6 => some y6 else (f176G K ((w ((w ((1 : Int) - a0.2.2.2)).tdiv y3)), (w (a0.2.2.1.tdiv y3)))).bind fun y7 => some y7) else none) else none) else (f133G K a0.2.1 (w ((1 : Int) - a0.1))).bind fun y8 => (bif (y8 != 0) then (bif (y8 != 0) then (f106G K ((w (a0.2.1.tdiv y8)), (w ((w ((1 : Int) - a0.1)).tdiv y8))) ((0 : Int), (0 : Int))).bind fun y9 => (bif (decide (y9 < (0 : Int))) then (f158G K ((w (a0.2.1.tdiv y8)), (w ((w ((1 : Int) - a0.1)).tdiv y8))) (-1 : Int)).bind fun y10 => (f176G K y10).bind fun y11 => some y11 else (f176G K ((w (a0.2.1.tdiv y8)), (w ((w ((1 : Int) - a0.1)).tdiv y8)))).bind fun y12 => some y12) else none) else none))))
noncomputable def f164M (K : Nat) : Mdl := ⟨[(.ro, (.cons (.int .i64) (.cons (.int .i64) (.cons (.int .i64) (.int .i64)))))], [(.cons (.int .i64) (.int .i64)), (.int .i64)], fun x => f164G K x.1⟩
/-! (impl.Mat).axis -/
noncomputable def f136E (K : Nat) : Env := ⟨[(164, f164M K)], tys, eqs, K, [0, 1, 2, 3]⟩
noncomputable def f136G (K : Nat) (a0 : Int × Int × Int × Int) : Option (Int × Int) :=
  (f164G K a0).bind fun y1 => some y1.1
noncomputable def f136M (K : Nat) : Mdl := ⟨[(.ro, (.cons (.int .i64) (.cons (.int .i64) (.cons (.int .i64) (.int .i64)))))], [(.cons (.int .i64) (.int .i64))], fun x => f136G K x.1⟩
/-! impl.alongAxis -/
noncomputable def f132E (K : Nat) : Env := ⟨[(136, f136M K), (151, f151M K), (152, f152M K)], tys, eqs, K, [0, 1, 2, 3, 4, 5, 6, 16]⟩
noncomputable def f132G (K : Nat) (a0 : Int × Int × Int × Int) (a1 : Int × Int) : Option Int :=
  (f151G K a0 a1).bind fun y1 => (f152G K a1 y1).bind fun y2 => (f136G K a0).bind fun y3 => (bif (y3.1 != (0 : Int)) then (bif (y3.1 != 0) then some (w (y2.1.tdiv y3.1)) else none) else (bif (y3.2 != 0) then some (w (y2.2.tdiv y3.2)) else none))
noncomputable def f132M (K : Nat) : Mdl := ⟨[(.ro, (.cons (.int .i64) (.cons (.int .i64) (.cons (.int .i64) (.int .i64))))), (.ro, (.cons (.int .i64) (.int .i64)))], [(.int .i64)], fun x => f132G K x.1 x.2.1⟩
/-! (impl.Lattice).mayReflect -/
noncomputable def f94E (K : Nat) : Env := ⟨[(126, f126M K), (131, f131M K), (132, f132M K), (133, f133M K)], tys, eqs, K, [0, 1, 2, 3, 4, 5, 6, 10]⟩
noncomputable def f94G (K : Nat) (a0 : Int × Int × Int) (a1 : (Int × Int × Int × Int) × Int × Int) : Option Bool :=
  (f131G K a1.1).bind fun y1 => (bif (!y1) then some false else (f126G K a0).bind fun y2 => (f132G K a1.1 a1.2).bind fun y3 => (f132G K a1.1 y2.1).bind fun y4 => (f132G K a1.1 y2.2).bind fun y5 => (f133G K y4 y5).bind fun y6 => (bif (y6 != 0) then some ((y3.tmod y6) == (0 : Int)) else none))
noncomputable def f94M (K : Nat) : Mdl := ⟨[(.ro, (.cons (.int .i64) (.cons (.int .i64) (.int .i64)))), (.ro, (.cons (.cons (.int .i64) (.cons (.int .i64) (.cons (.int .i64) (.int .i64)))) (.cons (.int .i64) (.int .i64))))], [.bool], fun x => f94G K x.1 x.2.1⟩
/-! (impl.Lattice).multipleIn -/
noncomputable def f135C : Code := codeOf Tryz.f135
noncomputable def f135E (K : Nat) : Env := ⟨[(152, f152M K), (162, f162M K)], tys, eqs, K, [0, 1, 2, 3, 4, 5, 10]⟩
noncomputable def f135_b4 (K : Nat) (a0 : Int × Int × Int) (a1 : Int × Int) (L4 : Int → Int → Option (Int × Int)) (q5 : Int) (q6 : Int) : Option (Int × Int) :=
  (f162G K a0 (q5, q6)).bind fun y7 => (bif (!y7) then (f152G K (q5, q6) a1).bind fun y8 => L4 y8.1 y8.2 else some (q5, q6))
noncomputable def f135_l4 (K : Nat) (a0 : Int × Int × Int) (a1 : Int × Int) (n : Nat) (q5 : Int) (q6 : Int) : Option (Int × Int) :=
  iter (X := Int × Int) (fun L x => (fun L4 => f135_b4 K a0 a1 L4 x.1 x.2) (fun v0 v1 => L (v0, v1))) n (q5, q6)
noncomputable def f135_fr4 (a0 : Int × Int × Int) (a1 : Int × Int) (q5 : Int) (q6 : Int) : Fr := ⟨15, [(0, .v true [.int .i64 a0.1, .int .i64 a0.2.1, .int .i64 a0.2.2]), (1, .v true [.int .i64 a1.1, .int .i64 a1.2]), (2, .v false [.box 0 0]), (3, .v false [.box 1 0]), (4, .v false [.box 2 0]), (5, .v false [.box 3 0])], [some ⟨true, [.int .i64 a0.1, .int .i64 a0.2.1, .int .i64 a0.2.2]⟩, some ⟨true, [.int .i64 a1.1, .int .i64 a1.2]⟩, some ⟨true, [.int .i64 (0 : Int), .int .i64 (0 : Int)]⟩, some ⟨true, [.int .i64 q5, .int .i64 q6]⟩], []⟩
noncomputable def f135_k4 (K : Nat) (a0 : Int × Int × Int) (a1 : Int × Int) (lr : LR (Int × Int)) : Ex → Fr → Option (Int × Int) :=
  contC (f135E K) 0 lr f135C [1, 1, 0, 0] (finK (f135E K) Tryz.f135 [(.ro, (.cons (.int .i64) (.cons (.int .i64) (.int .i64)))), (.ro, (.cons (.int .i64) (.int .i64)))] [(.cons (.int .i64) (.int .i64))] (a0, a1, ()))
noncomputable def f135_g (K : Nat) (a0 : Int × Int × Int) (a1 : Int × Int) (I4 : Int → Int → Option (Int × Int)) : Option (Int × Int) :=
  I4 a1.1 a1.2
noncomputable def f135G (K : Nat) (a0 : Int × Int × Int) (a1 : Int × Int) : Option (Int × Int) :=
  f135_g K a0 a1 (fun d0 d1 => f135_l4 K a0 a1 K d0 d1)
noncomputable def f135M (K : Nat) : Mdl := ⟨[(.ro, (.cons (.int .i64) (.cons (.int .i64) (.int .i64)))), (.ro, (.cons (.int .i64) (.int .i64)))], [(.cons (.int .i64) (.int .i64))], fun x => f135G K x.1 x.2.1⟩
/-! (impl.Mat).negative -/
noncomputable def f137E (K : Nat) : Env := ⟨[], tys, eqs, K, [0, 1, 2]⟩
noncomputable def f137G (K : Nat) (a0 : Int × Int × Int × Int) : Option (Int × Int × Int × Int) :=
  some ((w (0 - a0.1)), (w (0 - a0.2.1)), (w (0 - a0.2.2.1)), (w (0 - a0.2.2.2)))
noncomputable def f137M (K : Nat) : Mdl := ⟨[(.ro, (.cons (.int .i64) (.cons (.int .i64) (.cons (.int .i64) (.int .i64)))))], [(.cons (.int .i64) (.cons (.int .i64) (.cons (.int .i64) (.int .i64))))], fun x => f137G K x.1⟩
/-! impl.det -/
noncomputable def f134E (K : Nat) : Env := ⟨[], tys, eqs, K, [0, 1, 2, 3, 4]⟩
noncomputable def f134G (K : Nat) (a0 : Int × Int) (a1 : Int × Int) : Option Int :=
  some (w ((w (a0.1 * a1.2)) - (w (a0.2 * a1.1))))
noncomputable def f134M (K : Nat) : Mdl := ⟨[(.ro, (.cons (.int .i64) (.int .i64))), (.ro, (.cons (.int .i64) (.int .i64)))], [(.int .i64)], fun x => f134G K x.1 x.2.1⟩
/-! (impl.Lattice).isCentred -/
noncomputable def f95E (K : Nat) : Env := ⟨[(78, f78M K), (134, f134M K), (135, f135M K), (136, f136M K), (137, f137M K)], tys, eqs, K, [0, 1, 2, 3, 4, 5]⟩
noncomputable def f95G (K : Nat) (a0 : Int × Int × Int) (a1 : Int × Int × Int × Int) : Option Bool :=
  (f136G K a1).bind fun y1 => (f135G K a0 y1).bind fun y2 => (f137G K a1).bind fun y3 => (f136G K y3).bind fun y4 => (f135G K a0 y4).bind fun y5 => (f134G K y2 y5).bind fun y6 => (f78G K a0).bind fun y7 => some ((if (w (0 - y6)) > y6 then (w (0 - y6)) else y6) != y7)
noncomputable def f95M (K : Nat) : Mdl := ⟨[(.ro, (.cons (.int .i64) (.cons (.int .i64) (.int .i64)))), (.ro, (.cons (.int .i64) (.cons (.int .i64) (.cons (.int .i64) (.int .i64)))))], [.bool], fun x => f95G K x.1 x.2.1⟩
/-! (impl.Pattern).lines -/
noncomputable def f59C : Code := codeOf Tryz.f59
noncomputable def f59E (K : Nat) : Env := ⟨[(92, f92M K), (93, f93M K), (94, f94M K), (95, f95M K)], tys, eqs, K, [0, 1, 2, 3, 4, 5, 7, 9, 10, 11, 12, 17, 22, 30]⟩
noncomputable def f59_b14 (K : Nat) (a0 : Int × (Int × Int × Int) × List Int) (y1 : List ((Int × Int × Int × Int) × Int × Int)) (L14 : Int → Int → Int → Option (Int × Int)) (q15 : Int) (q16 : Int) (q17 : Int) : Option (Int × Int) :=
  (bif (decide (q15 < (y1.length : Int))) then (bif (decide (0 ≤ q15) && decide (q15 < (y1.length : Int))) then (f93G K (((y1.getD ((0 : Int) + q15).toNat (((0 : Int), ((0 : Int), ((0 : Int), (0 : Int)))), ((0 : Int), (0 : Int)))).1).1, (((y1.getD ((0 : Int) + q15).toNat (((0 : Int), ((0 : Int), ((0 : Int), (0 : Int)))), ((0 : Int), (0 : Int)))).1).2).1, ((((y1.getD ((0 : Int) + q15).toNat (((0 : Int), ((0 : Int), ((0 : Int), (0 : Int)))), ((0 : Int), (0 : Int)))).1).2).2))).bind fun y18 => (bif (y18 == (1 : Int)) then L14 (w (q15 + (1 : Int))) q16 q17 else (f94G K a0.2.1 ((((y1.getD ((0 : Int) + q15).toNat (((0 : Int), ((0 : Int), ((0 : Int), (0 : Int)))), ((0 : Int), (0 : Int)))).1).1, (((y1.getD ((0 : Int) + q15).toNat (((0 : Int), ((0 : Int), ((0 : Int), (0 : Int)))), ((0 : Int), (0 : Int)))).1).2).1, ((((y1.getD ((0 : Int) + q15).toNat (((0 : Int), ((0 : Int), ((0 : Int), (0 : Int)))), ((0 : Int), (0 : Int)))).1).2).2)), ((y1.getD ((0 : Int) + q15).toNat (((0 : Int), ((0 : Int), ((0 : Int), (0 : Int)))), ((0 : Int), (0 : Int)))).2))).bind fun y19 => (bif (!y19) then L14 (w (q15 + (1 : Int))) (w (q16 + (2 : Int))) q17 else (f95G K a0.2.1 (((y1.getD ((0 : Int) + q15).toNat (((0 : Int), ((0 : Int), ((0 : Int), (0 : Int)))), ((0 : Int), (0 : Int)))).1).1, (((y1.getD ((0 : Int) + q15).toNat (((0 : Int), ((0 : Int), ((0 : Int), (0 : Int)))), ((0 : Int), (0 : Int)))).1).2).1, ((((y1.getD ((0 : Int) + q15).toNat (((0 : Int), ((0 : Int), ((0 : Int), (0 : Int)))), ((0 : Int), (0 : Int)))).1).2).2))).bind fun y20 => (bif y20 then L14 (w (q15 + (1 : Int))) (w (q16 + (1 : Int))) (w (q17 + (1 : Int))) else L14 (w (q15 + (1 : Int))) q16 (w (q17 + (2 : Int)))))) else none) else some (q17, q16))
noncomputable def f59_l14 (K : Nat) (a0 : Int × (Int × Int × Int) × List Int) (y1 : List ((Int × Int × Int × Int) × Int × Int)) (n : Nat) (q15 : Int) (q16 : Int) (q17 : Int) : Option (Int × Int) :=
  iter (X := Int × Int × Int) (fun L x => (fun L14 => f59_b14 K a0 y1 L14 x.1 x.2.1 x.2.2) (fun v0 v1 v2 => L (v0, v1, v2))) n (q15, q16, q17)
noncomputable def f59_fr14 (a0 : Int × (Int × Int × Int) × List Int) (y1 : List ((Int × Int × Int × Int) × Int × Int)) (q15 : Int) (q16 : Int) (q17 : Int) : Fr := ⟨43, [(0, .v true [.int .i64 a0.1, .int .i64 a0.2.1.1, .int .i64 a0.2.1.2.1, .int .i64 a0.2.1.2.2, .row 0]), (1, .v false [.box 0 0]), (2, .v false [.int .i64 (0 : Int)]), (3, .v false [.int .i64 (0 : Int)]), (4, .v false [.int .i64 q17]), (5, .v false [.int .i64 q16]), (9, .v false [.row 1]), (10, .v false [.int .i64 (y1.length : Int)]), (11, .v false [.int .i64 q15])], [some ⟨true, [.int .i64 a0.1, .int .i64 a0.2.1.1, .int .i64 a0.2.1.2.1, .int .i64 a0.2.1.2.2, .row 0]⟩], [some ⟨2, (.int .i64), a0.2.2, .ro⟩, some ⟨34, (.cons (.cons (.int .i64) (.cons (.int .i64) (.cons (.int .i64) (.int .i64)))) (.cons (.int .i64) (.int .i64))), y1, .own⟩]⟩
noncomputable def f59_k14 (K : Nat) (a0 : Int × (Int × Int × Int) × List Int) (lr : LR (Int × Int)) : Ex → Fr → Option (Int × Int) :=
  contC (f59E K) 1 lr f59C [1, 1, 0, 1, 0] (finK (f59E K) Tryz.f59 [(.ro, (.cons (.int .i64) (.cons (.cons (.int .i64) (.cons (.int .i64) (.int .i64))) (.list 2 (.int .i64)))))] [(.int .i64), (.int .i64)] (a0, ()))
noncomputable def f59_g (K : Nat) (a0 : Int × (Int × Int × Int) × List Int) (I14 : (List ((Int × Int × Int × Int) × Int × Int)) → Int → Int → Int → Option (Int × Int)) : Option (Int × Int) :=
  (f92G K a0).bind fun y1 => I14 y1 (0 : Int) (0 : Int) (0 : Int)
noncomputable def f59G (K : Nat) (a0 : Int × (Int × Int × Int) × List Int) : Option (Int × Int) :=
  f59_g K a0 (fun c0 d0 d1 d2 => f59_l14 K a0 c0 K d0 d1 d2)
noncomputable def f59M (K : Nat) : Mdl := ⟨[(.ro, (.cons (.int .i64) (.cons (.cons (.int .i64) (.cons (.int .i64) (.int .i64))) (.list 2 (.int .i64)))))], [(.int .i64), (.int .i64)], fun x => f59G K x.1⟩
/-! impl.CountMirrorLines -/
noncomputable def f33E (K : Nat) : Env := ⟨[(57, f57M K), (58, f58M K), (59, f59M K)], tys, eqs, K, [0, 1, 2, 3, 4, 8]⟩
noncomputable def f33G (K : Nat) (a0 : Int × (Int × Int × Int) × List Int) : Option (Int × Int) :=
  (f57G K a0).bind fun y1 => (bif (!y1) then some ((0 : Int), (1 : Int)) else (f58G K a0).bind fun y2 => (f59G K y2).bind fun y3 => some (y3.1, (0 : Int)))
noncomputable def f33M (K : Nat) : Mdl := ⟨[(.ro, (.cons (.int .i64) (.cons (.cons (.int .i64) (.cons (.int .i64) (.int .i64))) (.list 2 (.int .i64)))))], [(.int .i64), (.int .i64)], fun x => f33G K x.1⟩
/-! laws.eqLattice -/
noncomputable def f60E (K : Nat) : Env := ⟨[], tys, eqs, K, [0, 1, 2, 3, 4, 9, 14, 19]⟩
noncomputable def f60G (K : Nat) (a0 : Int × Int × Int) (a1 : Int × Int × Int) : Option Bool :=
  (bif (a0.1 != a1.1) then some false else (bif (a0.2.1 != a1.2.1) then some false else (bif (a0.2.2 != a1.2.2) then some false else some true)))
noncomputable def f60M (K : Nat) : Mdl := ⟨[(.ro, (.cons (.int .i64) (.cons (.int .i64) (.int .i64)))), (.ro, (.cons (.int .i64) (.cons (.int .i64) (.int .i64))))], [.bool], fun x => f60G K x.1 x.2.1⟩
/-! laws.eqInt64S -/
noncomputable def f61C : Code := codeOf Tryz.f61
noncomputable def f61E (K : Nat) : Env := ⟨[], tys, eqs, K, [0, 1, 4, 5, 10, 14, 25]⟩
noncomputable def f61_b2 (K : Nat) (a0 : List Int) (a1 : List Int) (L2 : Int → Option Bool) (q3 : Int) : Option Bool :=
  (bif (decide (q3 < (a0.length : Int))) then (bif (decide (0 ≤ q3) && decide (q3 < (a0.length : Int))) then (bif (decide (0 ≤ q3) && decide (q3 < (a1.length : Int))) then (bif ((a0.getD ((0 : Int) + q3).toNat (0 : Int)) != (a1.getD ((0 : Int) + q3).toNat (0 : Int))) then some false else L2 (w (q3 + (1 : Int)))) else none) else none) else some true)
noncomputable def f61_l2 (K : Nat) (a0 : List Int) (a1 : List Int) (n : Nat) (q3 : Int) : Option Bool :=
  iter (X := Int) (fun L x => (fun L2 => f61_b2 K a0 a1 L2 x) (fun v0 => L v0)) n q3
noncomputable def f61_fr2 (a0 : List Int) (a1 : List Int) (q3 : Int) : Fr := ⟨26, [(0, .v false [.row 0]), (1, .v false [.row 1]), (4, .v false [.bool false]), (5, .v false [.int .i64 q3]), (10, .v false [.bool ((a0.length : Int) != (a1.length : Int))])], [], [some ⟨2, (.int .i64), a0, .ro⟩, some ⟨2, (.int .i64), a1, .ro⟩]⟩
noncomputable def f61_k2 (K : Nat) (a0 : List Int) (a1 : List Int) (lr : LR Bool) : Ex → Fr → Option Bool :=
  contC (f61E K) 2 lr f61C [1, 1, 0, 1, 0] (finK (f61E K) Tryz.f61 [(.ro, (.list 2 (.int .i64))), (.ro, (.list 2 (.int .i64)))] [.bool] (a0, a1, ()))
noncomputable def f61_g (K : Nat) (a0 : List Int) (a1 : List Int) (I2 : Int → Option Bool) : Option Bool :=
  (bif ((a0.length : Int) != (a1.length : Int)) then some false else I2 (0 : Int))
noncomputable def f61G (K : Nat) (a0 : List Int) (a1 : List Int) : Option Bool :=
  f61_g K a0 a1 (fun d0 => f61_l2 K a0 a1 K d0)
noncomputable def f61M (K : Nat) : Mdl := ⟨[(.ro, (.list 2 (.int .i64))), (.ro, (.list 2 (.int .i64)))], [.bool], fun x => f61G K x.1 x.2.1⟩
/-! laws.eqPattern -/
noncomputable def f31E (K : Nat) : Env := ⟨[(60, f60M K), (61, f61M K)], tys, eqs, K, [0, 1, 2, 3, 4, 9, 15, 21]⟩
noncomputable def f31G (K : Nat) (a0 : Int × (Int × Int × Int) × List Int) (a1 : Int × (Int × Int × Int) × List Int) : Option Bool :=
  (bif (a0.1 != a1.1) then some false else (f60G K a0.2.1 a1.2.1).bind fun y1 => (bif (!y1) then some false else (f61G K a0.2.2 a1.2.2).bind fun y2 => (bif (!y2) then some false else some true)))
noncomputable def f31M (K : Nat) : Mdl := ⟨[(.ro, (.cons (.int .i64) (.cons (.cons (.int .i64) (.cons (.int .i64) (.int .i64))) (.list 2 (.int .i64))))), (.ro, (.cons (.int .i64) (.cons (.cons (.int .i64) (.cons (.int .i64) (.int .i64))) (.list 2 (.int .i64)))))], [.bool], fun x => f31G K x.1 x.2.1⟩
/-! laws.FnExactCountMirrorLines -/
noncomputable def f6E (K : Nat) : Env := ⟨[(27, f27M K), (29, f29M K), (31, f31M K), (32, f32M K), (33, f33M K)], tys, eqs, K, [0, 1, 2, 3, 4, 5, 6, 7, 8, 13, 34, 39]⟩
noncomputable def f6G (K : Nat) (a0 : Int × (Int × Int × Int) × List Int) : Option Bool :=
  (f27G K a0 (1048576 : Int)).bind fun y1 => (bif (decide (y1 < (0 : Int))) then some true else (f29G K a0).bind fun y2 => (f32G K y2).bind fun y3 => (f29G K a0).bind fun y4 => (f33G K y4).bind fun y5 => (bif ((!(!(y5.1 != y3.1))) || true) then (bif ((!(!(y5.1 != y3.1))) || true) then (bif ((!(!(y5.1 != y3.1))) || true) then (bif (bif (y5.1 != y3.1) then true else (y5.2 != y3.2)) then some false else (f29G K a0).bind fun y6 => (f31G K y4 y6).bind fun y7 => (bif (!y7) then some false else some true)) else none) else none) else none))
noncomputable def f6M (K : Nat) : Mdl := ⟨[(.ro, (.cons (.int .i64) (.cons (.cons (.int .i64) (.cons (.int .i64) (.int .i64))) (.list 2 (.int .i64)))))], [.bool], fun x => f6G K x.1⟩
/-! spec.CountGlideLines -/
noncomputable def f28E (K : Nat) : Env := ⟨[(53, f53M K), (54, f54M K), (55, f55M K)], tys, eqs, K, [0, 1, 2, 3, 5, 8]⟩
noncomputable def f28G (K : Nat) (a0 : Int × (Int × Int × Int) × List Int) : Option (Int × Int) :=
  (f53G K a0).bind fun y1 => (bif (!y1) then some ((0 : Int), (1 : Int)) else (f55G K a0).bind fun y2 => (f54G K y2).bind fun y3 => some (y3.2, (0 : Int)))
noncomputable def f28M (K : Nat) : Mdl := ⟨[(.ro, (.cons (.int .i64) (.cons (.cons (.int .i64) (.cons (.int .i64) (.int .i64))) (.list 2 (.int .i64)))))], [(.int .i64), (.int .i64)], fun x => f28G K x.1⟩
/-! impl.CountGlideLines -/
noncomputable def f30E (K : Nat) : Env := ⟨[(57, f57M K), (58, f58M K), (59, f59M K)], tys, eqs, K, [0, 1, 2, 3, 5, 8]⟩
noncomputable def f30G (K : Nat) (a0 : Int × (Int × Int × Int) × List Int) : Option (Int × Int) :=
  (f57G K a0).bind fun y1 => (bif (!y1) then some ((0 : Int), (1 : Int)) else (f58G K a0).bind fun y2 => (f59G K y2).bind fun y3 => some (y3.2, (0 : Int)))
noncomputable def f30M (K : Nat) : Mdl := ⟨[(.ro, (.cons (.int .i64) (.cons (.cons (.int .i64) (.cons (.int .i64) (.int .i64))) (.list 2 (.int .i64)))))], [(.int .i64), (.int .i64)], fun x => f30G K x.1⟩
/-! laws.FnExactCountGlideLines -/
noncomputable def f5E (K : Nat) : Env := ⟨[(27, f27M K), (28, f28M K), (29, f29M K), (30, f30M K), (31, f31M K)], tys, eqs, K, [0, 1, 2, 3, 4, 5, 6, 7, 8, 13, 34, 39]⟩
noncomputable def f5G (K : Nat) (a0 : Int × (Int × Int × Int) × List Int) : Option Bool :=
  (f27G K a0 (1048576 : Int)).bind fun y1 => (bif (decide (y1 < (0 : Int))) then some true else (f29G K a0).bind fun y2 => (f28G K y2).bind fun y3 => (f29G K a0).bind fun y4 => (f30G K y4).bind fun y5 => (bif ((!(!(y5.1 != y3.1))) || true) then (bif ((!(!(y5.1 != y3.1))) || true) then (bif ((!(!(y5.1 != y3.1))) || true) then (bif (bif (y5.1 != y3.1) then true else (y5.2 != y3.2)) then some false else (f29G K a0).bind fun y6 => (f31G K y4 y6).bind fun y7 => (bif (!y7) then some false else some true)) else none) else none) else none))
noncomputable def f5M (K : Nat) : Mdl := ⟨[(.ro, (.cons (.int .i64) (.cons (.cons (.int .i64) (.cons (.int .i64) (.int .i64))) (.list 2 (.int .i64)))))], [.bool], fun x => f5G K x.1⟩
end Go.Proofs.YtbgdojniimdihaaGreat.X
