/- Functions of the program as plain Lean functions, and that the program does what they say. Printed by gen.py. -/
import Derived.Test.YtmnciknpeefkfaaXLoop
import Derived.Test.YtmnciknpeefkfaaXLib
import Derived.Test.YtmnciknpeefkfaaProg
namespace Go.Proofs.Ytmnciknpeefkfaa.X
open Go
set_option maxRecDepth 100000
set_option linter.unusedVariables false
noncomputable def tys : List (Nat × Ty) := [(2, .sc (.int .i64)), (3, .sc (.int .i64)), (4, .sc .bool), (9, .sc .str), (22, .sl 49 (.cons (.cons (.int .i64) (.int .i64)) (.int .i64)) 24), (25, .st (.cons (.int .i64) (.cons (.int .i64) (.int .i64))) [(0, 1), (1, 1), (2, 1)]), (28, .sl 45 (.cons (.cons (.int .i64) (.int .i64)) (.int .i64)) 24), (33, .sl 25 (.cons (.int .i64) (.cons (.int .i64) (.int .i64))) 24), (43, .st (.cons (.int .i64) (.int .i64)) [(0, 1), (1, 1)]), (45, .st (.cons (.cons (.int .i64) (.int .i64)) (.int .i64)) [(0, 2), (2, 1)]), (47, .st (.cons (.int .i64) (.int .i64)) [(0, 1), (1, 1)]), (49, .st (.cons (.cons (.int .i64) (.int .i64)) (.int .i64)) [(0, 2), (2, 1)]), (60, .st (.cons (.int .i64) (.cons (.int .i64) (.cons (.int .i64) (.int .i64)))) [(0, 1), (1, 1), (2, 1), (3, 1)]), (63, .st (.cons (.cons (.int .i64) (.cons (.int .i64) (.cons (.int .i64) (.int .i64)))) (.cons (.int .i64) (.int .i64))) [(0, 4), (4, 2)]), (64, .sl 63 (.cons (.cons (.int .i64) (.cons (.int .i64) (.cons (.int .i64) (.int .i64)))) (.cons (.int .i64) (.int .i64))) 48), (74, .sl 84 (.list 43 (.cons (.int .i64) (.int .i64))) 24), (75, .sl 2 (.int .i64) 8), (84, .sl 43 (.cons (.int .i64) (.int .i64)) 16), (88, .sc (.int .u64))]
noncomputable def eqs : List (Nat × List Sh) := [(43, [(.int .i64), (.int .i64)])]
noncomputable def mts : List (Nat × MTy) := []
theorem tab_ok : tabB Try.prog tys eqs mts = true := by kernel_rfl
theorem mixed_ok : Try.prog.follows .mixedOrders = true := by kernel_rfl
/-! laws.szMarkS -/
noncomputable def f5E (K : Nat) : Env := ⟨[], tys, eqs, mts, K, [0, 1, 4, 10], [], []⟩
noncomputable def f5G (K : Nat) (a0 : List ((Int × Int) × Int)) (a1 : Int) : Option Int :=
  (bif (decide ((w (a1 - (a0.length : Int))) < (0 : Int))) then some (-1 : Int) else some (w (a1 - (a0.length : Int))))
noncomputable def f5M (K : Nat) : Mdl := ⟨[(.ro, (.list 49 (.cons (.cons (.int .i64) (.int .i64)) (.int .i64)))), (.ro, (.int .i64))], [(.int .i64)], fun x => f5G K x.1 x.2.1⟩
/-! laws.toVec -/
noncomputable def f28E (K : Nat) : Env := ⟨[], tys, eqs, mts, K, [0, 1, 2, 3], [], []⟩
noncomputable def f28G (K : Nat) (a0 : Int × Int) : Option (Int × Int) :=
  some a0
noncomputable def f28M (K : Nat) : Mdl := ⟨[(.ro, (.cons (.int .i64) (.int .i64)))], [(.cons (.int .i64) (.int .i64))], fun x => f28G K x.1⟩
/-! laws.toMark -/
noncomputable def f19E (K : Nat) : Env := ⟨[(28, f28M K)], tys, eqs, mts, K, [0, 1, 2, 3], [], []⟩
noncomputable def f19G (K : Nat) (a0 : (Int × Int) × Int) : Option ((Int × Int) × Int) :=
  (f28G K a0.1).bind fun y1 => some (y1, a0.2)
noncomputable def f19M (K : Nat) : Mdl := ⟨[(.ro, (.cons (.cons (.int .i64) (.int .i64)) (.int .i64)))], [(.cons (.cons (.int .i64) (.int .i64)) (.int .i64))], fun x => f19G K x.1⟩
/-! laws.toMarkS -/
noncomputable def f7C : Code := codeOf Try.f7
noncomputable def f7E (K : Nat) : Env := ⟨[(19, f19M K)], tys, eqs, mts, K, [0, 2, 3, 4, 11], [], []⟩
noncomputable def f7_b3 (K : Nat) (a0 : List ((Int × Int) × Int)) (L3 : Int → (List ((Int × Int) × Int)) → Option (List ((Int × Int) × Int))) (q4 : Int) (q5 : List ((Int × Int) × Int)) : Option (List ((Int × Int) × Int)) :=
  (bif (decide (q4 < (a0.length : Int))) then (bif (decide (0 ≤ q4) && decide (q4 < (a0.length : Int))) then (f19G K (((a0.getD ((0 : Int) + q4).toNat (((0 : Int), (0 : Int)), (0 : Int))).1), (a0.getD ((0 : Int) + q4).toNat (((0 : Int), (0 : Int)), (0 : Int))).2)).bind fun y6 => (bif (decide (0 ≤ q4) && decide (q4 < (q5.length : Int))) then L3 (w (q4 + (1 : Int))) (q5.set ((0 : Int) + q4).toNat y6) else none) else none) else some q5)
noncomputable def f7_l3 (K : Nat) (a0 : List ((Int × Int) × Int)) (n : Nat) (q4 : Int) (q5 : List ((Int × Int) × Int)) : Option (List ((Int × Int) × Int)) :=
  iter (X := Int × List ((Int × Int) × Int)) (fun L x => (fun L3 => f7_b3 K a0 L3 x.1 x.2) (fun v0 v1 => L (v0, v1))) n (q4, q5)
noncomputable def f7_fr3 (a0 : List ((Int × Int) × Int)) (q4 : Int) (q5 : List ((Int × Int) × Int)) : Fr := ⟨23, [(0, .v false [.row 0]), (2, .v false [.row 1]), (3, .v false [.row 2]), (4, .v false [.int .i64 q4])], [], [some ⟨49, (.cons (.cons (.int .i64) (.int .i64)) (.int .i64)), a0, .ro⟩, some ⟨45, (.cons (.cons (.int .i64) (.int .i64)) (.int .i64)), [], .own⟩, some ⟨45, (.cons (.cons (.int .i64) (.int .i64)) (.int .i64)), q5, .own⟩]⟩
noncomputable def f7_k3 (K : Nat) (a0 : List ((Int × Int) × Int)) (lr : LR (List ((Int × Int) × Int))) : Ex → Fr → Option (List ((Int × Int) × Int)) :=
  contC (f7E K) 1 lr f7C [1, 1, 0, 1, 0] (finK (f7E K) Try.f7 [(.ro, (.list 49 (.cons (.cons (.int .i64) (.int .i64)) (.int .i64))))] [(.list 45 (.cons (.cons (.int .i64) (.int .i64)) (.int .i64)))] (a0, ()))
noncomputable def f7_g (K : Nat) (a0 : List ((Int × Int) × Int)) (I3 : Int → (List ((Int × Int) × Int)) → Option (List ((Int × Int) × Int))) : Option (List ((Int × Int) × Int)) :=
  (bif (decide (0 ≤ (a0.length : Int)) && Nat.ble (a0.length : Int).toNat (lim 24) && ((a0.length : Int) == (a0.length : Int))) then I3 (0 : Int) (List.replicate (a0.length : Int).toNat (((0 : Int), (0 : Int)), (0 : Int))) else none)
noncomputable def f7G (K : Nat) (a0 : List ((Int × Int) × Int)) : Option (List ((Int × Int) × Int)) :=
  f7_g K a0 (fun d0 d1 => f7_l3 K a0 K d0 d1)
noncomputable def f7M (K : Nat) : Mdl := ⟨[(.ro, (.list 49 (.cons (.cons (.int .i64) (.int .i64)) (.int .i64))))], [(.list 45 (.cons (.cons (.int .i64) (.int .i64)) (.int .i64)))], fun x => f7G K x.1⟩
/-! spec.l01In -/
noncomputable def f23E (K : Nat) : Env := ⟨[], tys, eqs, mts, K, [0, 1, 2, 6], [], []⟩
noncomputable def f23G (K : Nat) (a0 : Int) (a1 : Int) (a2 : Int) : Option Bool :=
  (bif ((!(decide (a0 ≥ a1))) || true) then (bif ((!(decide (a0 ≥ a1))) || true) then (bif ((!(decide (a0 ≥ a1))) || true) then some (bif (decide (a0 ≥ a1)) then (decide (a0 ≤ a2)) else false) else none) else none) else none)
noncomputable def f23M (K : Nat) : Mdl := ⟨[(.ro, (.int .i64)), (.ro, (.int .i64)), (.ro, (.int .i64))], [.bool], fun x => f23G K x.1 x.2.1 x.2.2.1⟩
/-! spec.IsVec -/
noncomputable def f25E (K : Nat) : Env := ⟨[(23, f23M K)], tys, eqs, mts, K, [0, 1, 2], [], []⟩
noncomputable def f25G (K : Nat) (a0 : Int × Int) : Option Bool :=
  (f23G K a0.1 (-1000 : Int) (1000 : Int)).bind fun y1 => (bif ((!y1) || true) then (bif ((!y1) || true) then ((bif y1 then f23G K a0.2 (-1000 : Int) (1000 : Int) else some false)).bind fun y2 => some (bif y1 then y2 else false) else none) else none)
noncomputable def f25M (K : Nat) : Mdl := ⟨[(.ro, (.cons (.int .i64) (.int .i64)))], [.bool], fun x => f25G K x.1⟩
/-! spec.AreMarks -/
noncomputable def f17C : Code := codeOf Try.f17
noncomputable def f17E (K : Nat) : Env := ⟨[(23, f23M K), (25, f25M K)], tys, eqs, mts, K, [0, 2, 3, 7, 25], [], []⟩
noncomputable def f17_b4 (K : Nat) (a0 : List ((Int × Int) × Int)) (L4 : Int → Option Bool) (q5 : Int) : Option Bool :=
  (bif (decide (q5 < (a0.length : Int))) then (bif (decide (0 ≤ q5) && decide (q5 < (a0.length : Int))) then (f25G K ((a0.getD ((0 : Int) + q5).toNat (((0 : Int), (0 : Int)), (0 : Int))).1)).bind fun y6 => (bif ((!(!(!y6))) || true) then (bif ((!(!(!y6))) || true) then (bif ((!(!(!y6))) || (decide (0 ≤ q5) && decide (q5 < (a0.length : Int)))) then (bif ((!(!(!y6))) || true) then (bif ((!(!(!y6))) || true) then ((bif (!(!y6)) then f23G K ((a0.getD ((0 : Int) + q5).toNat (((0 : Int), (0 : Int)), (0 : Int))).2) (0 : Int) (9 : Int) else some false)).bind fun y7 => (bif ((!(!(!y6))) || true) then (bif (bif (!y6) then true else (!y7)) then some false else L4 (w (q5 + (1 : Int)))) else none) else none) else none) else none) else none) else none) else none) else some (decide ((a0.length : Int) ≤ (40 : Int))))
noncomputable def f17_l4 (K : Nat) (a0 : List ((Int × Int) × Int)) (n : Nat) (q5 : Int) : Option Bool :=
  iter (X := Int) (fun L x => (fun L4 => f17_b4 K a0 L4 x) (fun v0 => L v0)) n q5
noncomputable def f17_fr4 (a0 : List ((Int × Int) × Int)) (q5 : Int) : Fr := ⟨29, [(0, .v false [.row 0]), (2, .v false [.bool false]), (3, .v false [.int .i64 q5])], [], [some ⟨45, (.cons (.cons (.int .i64) (.int .i64)) (.int .i64)), a0, .ro⟩]⟩
noncomputable def f17_k4 (K : Nat) (a0 : List ((Int × Int) × Int)) (lr : LR Bool) : Ex → Fr → Option Bool :=
  contC (f17E K) 1 lr f17C [1, 0, 1, 0] (finK (f17E K) Try.f17 [(.ro, (.list 45 (.cons (.cons (.int .i64) (.int .i64)) (.int .i64))))] [.bool] (a0, ()))
noncomputable def f17_g (K : Nat) (a0 : List ((Int × Int) × Int)) (I4 : Int → Option Bool) : Option Bool :=
  I4 (0 : Int)
noncomputable def f17G (K : Nat) (a0 : List ((Int × Int) × Int)) : Option Bool :=
  f17_g K a0 (fun d0 => f17_l4 K a0 K d0)
noncomputable def f17M (K : Nat) : Mdl := ⟨[(.ro, (.list 45 (.cons (.cons (.int .i64) (.int .i64)) (.int .i64))))], [.bool], fun x => f17G K x.1⟩
/-! spec.SublatticesOf -/
noncomputable def f26C : Code := codeOf Try.f26
noncomputable def f26E (K : Nat) : Env := ⟨[(23, f23M K)], tys, eqs, mts, K, [0, 2, 3, 4, 5, 6, 9, 13, 24], [], []⟩
noncomputable def f26_b10 (K : Nat) (a0 : Int) (q8 : Int) (y1 : Bool) (L7 : Int → (List (Int × Int × Int)) → Option ((List (Int × Int × Int)) × Int)) (L10 : Int → (List (Int × Int × Int)) → Option ((List (Int × Int × Int)) × Int)) (q11 : Int) (q12 : List (Int × Int × Int)) : Option ((List (Int × Int × Int)) × Int) :=
  (bif (q8 != 0) then (bif ((!((a0.tmod q8) == (0 : Int))) || true) then (bif ((!((a0.tmod q8) == (0 : Int))) || true) then (bif ((!((a0.tmod q8) == (0 : Int))) || true) then (bif (bif ((a0.tmod q8) == (0 : Int)) then (decide (q11 < q8)) else false) then (bif (q8 != 0) then (bif (Nat.ble (q12.length + [(q8, q11, (w (a0.tdiv q8)))].length) (lim 24)) then L10 (w (q11 + (1 : Int))) (q12 ++ [(q8, q11, (w (a0.tdiv q8)))]) else none) else none) else L7 (w (q8 + (1 : Int))) q12) else none) else none) else none) else none)
noncomputable def f26_l10 (K : Nat) (a0 : Int) (q8 : Int) (y1 : Bool) (L7 : Int → (List (Int × Int × Int)) → Option ((List (Int × Int × Int)) × Int)) (n : Nat) (q11 : Int) (q12 : List (Int × Int × Int)) : Option ((List (Int × Int × Int)) × Int) :=
  iter (X := Int × List (Int × Int × Int)) (fun L x => (fun L10 => f26_b10 K a0 q8 y1 L7 L10 x.1 x.2) (fun v0 v1 => L (v0, v1))) n (q11, q12)
noncomputable def f26_fr10 (a0 : Int) (q8 : Int) (y1 : Bool) (q11 : Int) (q12 : List (Int × Int × Int)) : Fr := ⟨37, [(0, .v false [.int .i64 a0]), (2, .v false [.row 0]), (3, .v false [.int .i64 (0 : Int)]), (4, .v false [.row 1]), (5, .v false [.int .i64 q8]), (6, .v false [.int .i64 q11]), (9, .v false [.bool (!y1)]), (13, .v false [.bool (decide (q8 ≤ a0))])], [], [some ⟨25, (.cons (.int .i64) (.cons (.int .i64) (.int .i64))), [], .own⟩, some ⟨25, (.cons (.int .i64) (.cons (.int .i64) (.int .i64))), q12, .own⟩]⟩
noncomputable def f26_b7 (K : Nat) (a0 : Int) (y1 : Bool) (I10 : Int → Int → (List (Int × Int × Int)) → Option ((List (Int × Int × Int)) × Int)) (L7 : Int → (List (Int × Int × Int)) → Option ((List (Int × Int × Int)) × Int)) (q8 : Int) (q9 : List (Int × Int × Int)) : Option ((List (Int × Int × Int)) × Int) :=
  (bif (decide (q8 ≤ a0)) then I10 q8 (0 : Int) q9 else some (q9, (0 : Int)))
noncomputable def f26_l7 (K : Nat) (a0 : Int) (y1 : Bool) (n : Nat) (q8 : Int) (q9 : List (Int × Int × Int)) : Option ((List (Int × Int × Int)) × Int) :=
  iter (X := Int × List (Int × Int × Int)) (fun L x => (fun L7 => f26_b7 K a0 y1 (fun c0 d0 d1 => f26_l10 K a0 c0 y1 L7 K d0 d1) L7 x.1 x.2) (fun v0 v1 => L (v0, v1))) n (q8, q9)
noncomputable def f26_fr7 (a0 : Int) (y1 : Bool) (q8 : Int) (q9 : List (Int × Int × Int)) : Fr := ⟨37, [(0, .v false [.int .i64 a0]), (2, .v false [.row 0]), (3, .v false [.int .i64 (0 : Int)]), (4, .v false [.row 1]), (5, .v false [.int .i64 q8]), (9, .v false [.bool (!y1)])], [], [some ⟨25, (.cons (.int .i64) (.cons (.int .i64) (.int .i64))), [], .own⟩, some ⟨25, (.cons (.int .i64) (.cons (.int .i64) (.int .i64))), q9, .own⟩]⟩
noncomputable def f26_k7 (K : Nat) (a0 : Int) (lr : LR ((List (Int × Int × Int)) × Int)) : Ex → Fr → Option ((List (Int × Int × Int)) × Int) :=
  contC (f26E K) 0 lr f26C [1, 1, 1, 0, 1, 0] (finK (f26E K) Try.f26 [(.ro, (.int .i64))] [(.list 25 (.cons (.int .i64) (.cons (.int .i64) (.int .i64)))), (.int .i64)] (a0, ()))
noncomputable def f26_k10 (K : Nat) (a0 : Int) (y1 : Bool) (F7 : Fr → Option ((List (Int × Int × Int)) × Int)) (bq8 : Int) (bq9 : List (Int × Int × Int)) (lr : LR ((List (Int × Int × Int)) × Int)) : Ex → Fr → Option ((List (Int × Int × Int)) × Int) :=
  contC (f26E K) 0 lr (selC f26C [1, 1, 1, 0, 1, 0, 0]) [1, 0, 0, 1, 0] (loopK 0 (f26_fr7 a0 y1 bq8 bq9) F7 (f26_k7 K a0 lr))
noncomputable def f26_g (K : Nat) (a0 : Int) (I7 : Bool → Int → (List (Int × Int × Int)) → Option ((List (Int × Int × Int)) × Int)) : Option ((List (Int × Int × Int)) × Int) :=
  (f23G K a0 (1 : Int) (64 : Int)).bind fun y1 => (bif (!y1) then some ([], (2 : Int)) else I7 y1 (1 : Int) [])
noncomputable def f26G (K : Nat) (a0 : Int) : Option ((List (Int × Int × Int)) × Int) :=
  f26_g K a0 (fun c0 d0 d1 => f26_l7 K a0 c0 K d0 d1)
noncomputable def f26M (K : Nat) : Mdl := ⟨[(.ro, (.int .i64))], [(.list 25 (.cons (.int .i64) (.cons (.int .i64) (.int .i64)))), (.int .i64)], fun x => f26G K x.1⟩
/-! spec.l01Mod -/
noncomputable def f53E (K : Nat) : Env := ⟨[], tys, eqs, mts, K, [0, 1, 4, 9], [], []⟩
noncomputable def f53G (K : Nat) (a0 : Int) (a1 : Int) : Option Int :=
  (bif (a1 != 0) then (bif (decide ((a0.tmod a1) < (0 : Int))) then some (w ((a0.tmod a1) + a1)) else some (a0.tmod a1)) else none)
noncomputable def f53M (K : Nat) : Mdl := ⟨[(.ro, (.int .i64)), (.ro, (.int .i64))], [(.int .i64)], fun x => f53G K x.1 x.2.1⟩
/-! spec.l03Reduce -/
noncomputable def f47E (K : Nat) : Env := ⟨[(53, f53M K)], tys, eqs, mts, K, [0, 1, 2, 3, 4, 5, 6], [], []⟩
noncomputable def f47G (K : Nat) (a0 : Int × Int × Int) (a1 : Int × Int) : Option (Int × Int) :=
  (f53G K a1.2 a0.2.2).bind fun y1 => (bif (a0.2.2 != 0) then (f53G K (w (a1.1 - (w ((w ((w (a1.2 - y1)).tdiv a0.2.2)) * a0.2.1)))) a0.1).bind fun y2 => some (y2, y1) else none)
noncomputable def f47M (K : Nat) : Mdl := ⟨[(.ro, (.cons (.int .i64) (.cons (.int .i64) (.int .i64)))), (.ro, (.cons (.int .i64) (.int .i64)))], [(.cons (.int .i64) (.int .i64))], fun x => f47G K x.1 x.2.1⟩
/-! spec.l03Number -/
noncomputable def f39E (K : Nat) : Env := ⟨[(47, f47M K)], tys, eqs, mts, K, [0, 1, 2, 3, 4], [], []⟩
noncomputable def f39G (K : Nat) (a0 : Int × Int × Int) (a1 : Int × Int) : Option Int :=
  (f47G K a0 a1).bind fun y1 => some (w ((w (y1.1 * a0.2.2)) + y1.2))
noncomputable def f39M (K : Nat) : Mdl := ⟨[(.ro, (.cons (.int .i64) (.cons (.int .i64) (.int .i64)))), (.ro, (.cons (.int .i64) (.int .i64)))], [(.int .i64)], fun x => f39G K x.1 x.2.1⟩
/-! spec.l19Fits -/
noncomputable def f27C : Code := codeOf Try.f27
noncomputable def f27E (K : Nat) : Env := ⟨[(39, f39M K)], tys, eqs, mts, K, [0, 1, 2, 4, 5, 6, 10, 15, 45], [], []⟩
noncomputable def f27_b11 (K : Nat) (a0 : Int × Int × Int) (a1 : List ((Int × Int) × Int)) (q10 : Int) (L9 : Int → Option Bool) (L11 : Int → Option Bool) (q12 : Int) : Option Bool :=
  (bif (decide (q12 < q10)) then (bif (decide (0 ≤ q12) && decide (q12 < (a1.length : Int))) then (bif (decide (0 ≤ q10) && decide (q10 < (a1.length : Int))) then (bif ((!((a1.getD ((0 : Int) + q12).toNat (((0 : Int), (0 : Int)), (0 : Int))).2 != (a1.getD ((0 : Int) + q10).toNat (((0 : Int), (0 : Int)), (0 : Int))).2)) || true) then (bif ((!((a1.getD ((0 : Int) + q12).toNat (((0 : Int), (0 : Int)), (0 : Int))).2 != (a1.getD ((0 : Int) + q10).toNat (((0 : Int), (0 : Int)), (0 : Int))).2)) || true) then (bif ((!((a1.getD ((0 : Int) + q12).toNat (((0 : Int), (0 : Int)), (0 : Int))).2 != (a1.getD ((0 : Int) + q10).toNat (((0 : Int), (0 : Int)), (0 : Int))).2)) || true) then (bif ((!((a1.getD ((0 : Int) + q12).toNat (((0 : Int), (0 : Int)), (0 : Int))).2 != (a1.getD ((0 : Int) + q10).toNat (((0 : Int), (0 : Int)), (0 : Int))).2)) || (decide (0 ≤ q12) && decide (q12 < (a1.length : Int)))) then (bif ((!((a1.getD ((0 : Int) + q12).toNat (((0 : Int), (0 : Int)), (0 : Int))).2 != (a1.getD ((0 : Int) + q10).toNat (((0 : Int), (0 : Int)), (0 : Int))).2)) || true) then (bif ((!((a1.getD ((0 : Int) + q12).toNat (((0 : Int), (0 : Int)), (0 : Int))).2 != (a1.getD ((0 : Int) + q10).toNat (((0 : Int), (0 : Int)), (0 : Int))).2)) || true) then ((bif ((a1.getD ((0 : Int) + q12).toNat (((0 : Int), (0 : Int)), (0 : Int))).2 != (a1.getD ((0 : Int) + q10).toNat (((0 : Int), (0 : Int)), (0 : Int))).2) then f39G K a0 ((a1.getD ((0 : Int) + q12).toNat (((0 : Int), (0 : Int)), (0 : Int))).1) else some (0 : Int))).bind fun y13 => (bif ((!((a1.getD ((0 : Int) + q12).toNat (((0 : Int), (0 : Int)), (0 : Int))).2 != (a1.getD ((0 : Int) + q10).toNat (((0 : Int), (0 : Int)), (0 : Int))).2)) || true) then (bif ((!((a1.getD ((0 : Int) + q12).toNat (((0 : Int), (0 : Int)), (0 : Int))).2 != (a1.getD ((0 : Int) + q10).toNat (((0 : Int), (0 : Int)), (0 : Int))).2)) || true) then (bif ((!((a1.getD ((0 : Int) + q12).toNat (((0 : Int), (0 : Int)), (0 : Int))).2 != (a1.getD ((0 : Int) + q10).toNat (((0 : Int), (0 : Int)), (0 : Int))).2)) || true) then (bif ((!((a1.getD ((0 : Int) + q12).toNat (((0 : Int), (0 : Int)), (0 : Int))).2 != (a1.getD ((0 : Int) + q10).toNat (((0 : Int), (0 : Int)), (0 : Int))).2)) || (decide (0 ≤ q10) && decide (q10 < (a1.length : Int)))) then (bif ((!((a1.getD ((0 : Int) + q12).toNat (((0 : Int), (0 : Int)), (0 : Int))).2 != (a1.getD ((0 : Int) + q10).toNat (((0 : Int), (0 : Int)), (0 : Int))).2)) || true) then (bif ((!((a1.getD ((0 : Int) + q12).toNat (((0 : Int), (0 : Int)), (0 : Int))).2 != (a1.getD ((0 : Int) + q10).toNat (((0 : Int), (0 : Int)), (0 : Int))).2)) || true) then ((bif ((a1.getD ((0 : Int) + q12).toNat (((0 : Int), (0 : Int)), (0 : Int))).2 != (a1.getD ((0 : Int) + q10).toNat (((0 : Int), (0 : Int)), (0 : Int))).2) then f39G K a0 ((a1.getD ((0 : Int) + q10).toNat (((0 : Int), (0 : Int)), (0 : Int))).1) else some (0 : Int))).bind fun y14 => (bif ((!((a1.getD ((0 : Int) + q12).toNat (((0 : Int), (0 : Int)), (0 : Int))).2 != (a1.getD ((0 : Int) + q10).toNat (((0 : Int), (0 : Int)), (0 : Int))).2)) || true) then (bif (bif ((a1.getD ((0 : Int) + q12).toNat (((0 : Int), (0 : Int)), (0 : Int))).2 != (a1.getD ((0 : Int) + q10).toNat (((0 : Int), (0 : Int)), (0 : Int))).2) then (y13 == y14) else false) then some false else L11 (w (q12 + (1 : Int)))) else none) else none) else none) else none) else none) else none) else none) else none) else none) else none) else none) else none) else none) else none) else none) else L9 (w (q10 + (1 : Int))))
noncomputable def f27_l11 (K : Nat) (a0 : Int × Int × Int) (a1 : List ((Int × Int) × Int)) (q10 : Int) (L9 : Int → Option Bool) (n : Nat) (q12 : Int) : Option Bool :=
  iter (X := Int) (fun L x => (fun L11 => f27_b11 K a0 a1 q10 L9 L11 x) (fun v0 => L v0)) n q12
noncomputable def f27_fr11 (a0 : Int × Int × Int) (a1 : List ((Int × Int) × Int)) (q10 : Int) (q12 : Int) : Fr := ⟨46, [(0, .v true [.int .i64 a0.1, .int .i64 a0.2.1, .int .i64 a0.2.2]), (1, .v false [.row 0]), (2, .v false [.box 0 0]), (4, .v false [.bool false]), (5, .v false [.int .i64 q10]), (6, .v false [.int .i64 q12]), (10, .v false [.bool (decide (q10 < (a1.length : Int)))])], [some ⟨true, [.int .i64 a0.1, .int .i64 a0.2.1, .int .i64 a0.2.2]⟩], [some ⟨45, (.cons (.cons (.int .i64) (.int .i64)) (.int .i64)), a1, .ro⟩]⟩
noncomputable def f27_b9 (K : Nat) (a0 : Int × Int × Int) (a1 : List ((Int × Int) × Int)) (I11 : Int → Int → Option Bool) (L9 : Int → Option Bool) (q10 : Int) : Option Bool :=
  (bif (decide (q10 < (a1.length : Int))) then I11 q10 (0 : Int) else some true)
noncomputable def f27_l9 (K : Nat) (a0 : Int × Int × Int) (a1 : List ((Int × Int) × Int)) (n : Nat) (q10 : Int) : Option Bool :=
  iter (X := Int) (fun L x => (fun L9 => f27_b9 K a0 a1 (fun c0 d0 => f27_l11 K a0 a1 c0 L9 K d0) L9 x) (fun v0 => L v0)) n q10
noncomputable def f27_fr9 (a0 : Int × Int × Int) (a1 : List ((Int × Int) × Int)) (q10 : Int) : Fr := ⟨46, [(0, .v true [.int .i64 a0.1, .int .i64 a0.2.1, .int .i64 a0.2.2]), (1, .v false [.row 0]), (2, .v false [.box 0 0]), (4, .v false [.bool false]), (5, .v false [.int .i64 q10])], [some ⟨true, [.int .i64 a0.1, .int .i64 a0.2.1, .int .i64 a0.2.2]⟩], [some ⟨45, (.cons (.cons (.int .i64) (.int .i64)) (.int .i64)), a1, .ro⟩]⟩
noncomputable def f27_k9 (K : Nat) (a0 : Int × Int × Int) (a1 : List ((Int × Int) × Int)) (lr : LR Bool) : Ex → Fr → Option Bool :=
  contC (f27E K) 1 lr f27C [1, 0, 1, 0] (finK (f27E K) Try.f27 [(.ro, (.cons (.int .i64) (.cons (.int .i64) (.int .i64)))), (.ro, (.list 45 (.cons (.cons (.int .i64) (.int .i64)) (.int .i64))))] [.bool] (a0, a1, ()))
noncomputable def f27_k11 (K : Nat) (a0 : Int × Int × Int) (a1 : List ((Int × Int) × Int)) (F9 : Fr → Option Bool) (bq10 : Int) (lr : LR Bool) : Ex → Fr → Option Bool :=
  contC (f27E K) 1 lr (selC f27C [1, 0, 1, 0, 0]) [1, 0, 0, 1, 0] (loopK 1 (f27_fr9 a0 a1 bq10) F9 (f27_k9 K a0 a1 lr))
noncomputable def f27_g (K : Nat) (a0 : Int × Int × Int) (a1 : List ((Int × Int) × Int)) (I9 : Int → Option Bool) : Option Bool :=
  I9 (0 : Int)
noncomputable def f27G (K : Nat) (a0 : Int × Int × Int) (a1 : List ((Int × Int) × Int)) : Option Bool :=
  f27_g K a0 a1 (fun d0 => f27_l9 K a0 a1 K d0)
noncomputable def f27M (K : Nat) : Mdl := ⟨[(.ro, (.cons (.int .i64) (.cons (.int .i64) (.int .i64)))), (.ro, (.list 45 (.cons (.cons (.int .i64) (.int .i64)) (.int .i64))))], [.bool], fun x => f27G K x.1 x.2.1⟩
/-! spec.l19Lattices -/
noncomputable def f18C : Code := codeOf Try.f18
noncomputable def f18E (K : Nat) : Env := ⟨[(26, f26M K), (27, f27M K)], tys, eqs, mts, K, [0, 1, 4, 5, 7, 8, 18, 26], [], []⟩
noncomputable def f18_b4 (K : Nat) (a0 : List ((Int × Int) × Int)) (a1 : Int) (y1 : (List (Int × Int × Int)) × Int) (L4 : Int → (List (Int × Int × Int)) → Option (List (Int × Int × Int))) (q5 : Int) (q6 : List (Int × Int × Int)) : Option (List (Int × Int × Int)) :=
  (bif (decide (q5 < (y1.1.length : Int))) then (bif (decide (0 ≤ q5) && decide (q5 < (y1.1.length : Int))) then (f27G K ((y1.1.getD ((0 : Int) + q5).toNat ((0 : Int), ((0 : Int), (0 : Int)))).1, ((y1.1.getD ((0 : Int) + q5).toNat ((0 : Int), ((0 : Int), (0 : Int)))).2)) a0).bind fun y7 => (bif y7 then (bif (decide (0 ≤ q5) && decide (q5 < (y1.1.length : Int))) then (bif (Nat.ble (q6.length + [((y1.1.getD ((0 : Int) + q5).toNat ((0 : Int), ((0 : Int), (0 : Int)))).1, ((y1.1.getD ((0 : Int) + q5).toNat ((0 : Int), ((0 : Int), (0 : Int)))).2))].length) (lim 24)) then L4 (w (q5 + (1 : Int))) (q6 ++ [((y1.1.getD ((0 : Int) + q5).toNat ((0 : Int), ((0 : Int), (0 : Int)))).1, ((y1.1.getD ((0 : Int) + q5).toNat ((0 : Int), ((0 : Int), (0 : Int)))).2))]) else none) else none) else L4 (w (q5 + (1 : Int))) q6) else none) else some q6)
noncomputable def f18_l4 (K : Nat) (a0 : List ((Int × Int) × Int)) (a1 : Int) (y1 : (List (Int × Int × Int)) × Int) (n : Nat) (q5 : Int) (q6 : List (Int × Int × Int)) : Option (List (Int × Int × Int)) :=
  iter (X := Int × List (Int × Int × Int)) (fun L x => (fun L4 => f18_b4 K a0 a1 y1 L4 x.1 x.2) (fun v0 v1 => L (v0, v1))) n (q5, q6)
noncomputable def f18_fr4 (a0 : List ((Int × Int) × Int)) (a1 : Int) (y1 : (List (Int × Int × Int)) × Int) (q5 : Int) (q6 : List (Int × Int × Int)) : Fr := ⟨35, [(0, .v false [.row 0]), (1, .v false [.int .i64 a1]), (4, .v false [.row 1]), (5, .v false [.row 2]), (7, .v false [.row 3]), (8, .v false [.int .i64 q5])], [], [some ⟨45, (.cons (.cons (.int .i64) (.int .i64)) (.int .i64)), a0, .ro⟩, some ⟨25, (.cons (.int .i64) (.cons (.int .i64) (.int .i64))), [], .own⟩, some ⟨25, (.cons (.int .i64) (.cons (.int .i64) (.int .i64))), y1.1, .own⟩, some ⟨25, (.cons (.int .i64) (.cons (.int .i64) (.int .i64))), q6, .own⟩]⟩
noncomputable def f18_k4 (K : Nat) (a0 : List ((Int × Int) × Int)) (a1 : Int) (lr : LR (List (Int × Int × Int))) : Ex → Fr → Option (List (Int × Int × Int)) :=
  contC (f18E K) 1 lr f18C [1, 1, 1, 0, 1, 0] (finK (f18E K) Try.f18 [(.ro, (.list 45 (.cons (.cons (.int .i64) (.int .i64)) (.int .i64)))), (.ro, (.int .i64))] [(.list 25 (.cons (.int .i64) (.cons (.int .i64) (.int .i64))))] (a0, a1, ()))
noncomputable def f18_g (K : Nat) (a0 : List ((Int × Int) × Int)) (a1 : Int) (I4 : ((List (Int × Int × Int)) × Int) → Int → (List (Int × Int × Int)) → Option (List (Int × Int × Int))) : Option (List (Int × Int × Int)) :=
  (f26G K a1).bind fun y1 => I4 y1 (0 : Int) []
noncomputable def f18G (K : Nat) (a0 : List ((Int × Int) × Int)) (a1 : Int) : Option (List (Int × Int × Int)) :=
  f18_g K a0 a1 (fun c0 d0 d1 => f18_l4 K a0 a1 c0 K d0 d1)
noncomputable def f18M (K : Nat) : Mdl := ⟨[(.ro, (.list 45 (.cons (.cons (.int .i64) (.int .i64)) (.int .i64)))), (.ro, (.int .i64))], [(.list 25 (.cons (.int .i64) (.cons (.int .i64) (.int .i64))))], fun x => f18G K x.1 x.2.1⟩
/-! spec.LeastFitting -/
noncomputable def f6C : Code := codeOf Try.f6
noncomputable def f6E (K : Nat) : Env := ⟨[(17, f17M K), (18, f18M K)], tys, eqs, mts, K, [0, 2, 3, 4, 5, 8, 11, 19], [], []⟩
noncomputable def f6_b4 (K : Nat) (a0 : List ((Int × Int) × Int)) (y1 : Bool) (L4 : Int → Option ((Int × Int × Int) × Int)) (q5 : Int) : Option ((Int × Int × Int) × Int) :=
  (bif (decide (q5 ≤ (64 : Int))) then (f18G K a0 q5).bind fun y6 => (bif (decide ((y6.length : Int) > (0 : Int))) then (bif (decide (0 ≤ (0 : Int)) && decide ((0 : Int) < (y6.length : Int))) then some (((y6.getD ((0 : Int) + (0 : Int)).toNat ((0 : Int), ((0 : Int), (0 : Int)))).1, ((y6.getD ((0 : Int) + (0 : Int)).toNat ((0 : Int), ((0 : Int), (0 : Int)))).2)), (0 : Int)) else none) else L4 (w (q5 + (1 : Int)))) else some (((0 : Int), (0 : Int), (0 : Int)), (4 : Int)))
noncomputable def f6_l4 (K : Nat) (a0 : List ((Int × Int) × Int)) (y1 : Bool) (n : Nat) (q5 : Int) : Option ((Int × Int × Int) × Int) :=
  iter (X := Int) (fun L x => (fun L4 => f6_b4 K a0 y1 L4 x) (fun v0 => L v0)) n q5
noncomputable def f6_fr4 (a0 : List ((Int × Int) × Int)) (y1 : Bool) (q5 : Int) : Fr := ⟨24, [(0, .v false [.row 0]), (2, .v false [.box 0 0]), (3, .v false [.int .i64 (0 : Int)]), (4, .v false [.int .i64 q5]), (8, .v false [.bool (!y1)])], [some ⟨true, [.int .i64 (0 : Int), .int .i64 (0 : Int), .int .i64 (0 : Int)]⟩], [some ⟨45, (.cons (.cons (.int .i64) (.int .i64)) (.int .i64)), a0, .ro⟩]⟩
noncomputable def f6_k4 (K : Nat) (a0 : List ((Int × Int) × Int)) (lr : LR ((Int × Int × Int) × Int)) : Ex → Fr → Option ((Int × Int × Int) × Int) :=
  contC (f6E K) 1 lr f6C [1, 1, 0, 1, 0] (finK (f6E K) Try.f6 [(.ro, (.list 45 (.cons (.cons (.int .i64) (.int .i64)) (.int .i64))))] [(.cons (.int .i64) (.cons (.int .i64) (.int .i64))), (.int .i64)] (a0, ()))
noncomputable def f6_g (K : Nat) (a0 : List ((Int × Int) × Int)) (I4 : Bool → Int → Option ((Int × Int × Int) × Int)) : Option ((Int × Int × Int) × Int) :=
  (f17G K a0).bind fun y1 => (bif (!y1) then some (((0 : Int), (0 : Int), (0 : Int)), (2 : Int)) else I4 y1 (1 : Int))
noncomputable def f6G (K : Nat) (a0 : List ((Int × Int) × Int)) : Option ((Int × Int × Int) × Int) :=
  f6_g K a0 (fun c0 d0 => f6_l4 K a0 c0 K d0)
noncomputable def f6M (K : Nat) : Mdl := ⟨[(.ro, (.list 45 (.cons (.cons (.int .i64) (.int .i64)) (.int .i64))))], [(.cons (.int .i64) (.cons (.int .i64) (.int .i64))), (.int .i64)], fun x => f6G K x.1⟩
/-! impl.within -/
noncomputable def f24E (K : Nat) : Env := ⟨[], tys, eqs, mts, K, [0, 1, 2, 6], [], []⟩
noncomputable def f24G (K : Nat) (a0 : Int) (a1 : Int) (a2 : Int) : Option Bool :=
  (bif ((!(decide (a0 ≥ a1))) || true) then (bif ((!(decide (a0 ≥ a1))) || true) then (bif ((!(decide (a0 ≥ a1))) || true) then some (bif (decide (a0 ≥ a1)) then (decide (a0 ≤ a2)) else false) else none) else none) else none)
noncomputable def f24M (K : Nat) : Mdl := ⟨[(.ro, (.int .i64)), (.ro, (.int .i64)), (.ro, (.int .i64))], [.bool], fun x => f24G K x.1 x.2.1 x.2.2.1⟩
/-! impl.isCoordinate -/
noncomputable def f41E (K : Nat) : Env := ⟨[(24, f24M K)], tys, eqs, mts, K, [0, 2], [], []⟩
noncomputable def f41G (K : Nat) (a0 : Int) : Option Bool :=
  (f24G K a0 (-1000 : Int) (1000 : Int)).bind fun y1 => some y1
noncomputable def f41M (K : Nat) : Mdl := ⟨[(.ro, (.int .i64))], [.bool], fun x => f41G K x.1⟩
/-! impl.IsVec -/
noncomputable def f31E (K : Nat) : Env := ⟨[(41, f41M K)], tys, eqs, mts, K, [0, 1, 2], [], []⟩
noncomputable def f31G (K : Nat) (a0 : Int × Int) : Option Bool :=
  (f41G K a0.1).bind fun y1 => (bif ((!y1) || true) then (bif ((!y1) || true) then ((bif y1 then f41G K a0.2 else some false)).bind fun y2 => some (bif y1 then y2 else false) else none) else none)
noncomputable def f31M (K : Nat) : Mdl := ⟨[(.ro, (.cons (.int .i64) (.int .i64)))], [.bool], fun x => f31G K x.1⟩
/-! impl.isColour -/
noncomputable def f32E (K : Nat) : Env := ⟨[(24, f24M K)], tys, eqs, mts, K, [0, 2], [], []⟩
noncomputable def f32G (K : Nat) (a0 : Int) : Option Bool :=
  (f24G K a0 (0 : Int) (9 : Int)).bind fun y1 => some y1
noncomputable def f32M (K : Nat) : Mdl := ⟨[(.ro, (.int .i64))], [.bool], fun x => f32G K x.1⟩
/-! impl.AreMarks$1 -/
noncomputable def f30E (K : Nat) : Env := ⟨[(31, f31M K), (32, f32M K)], tys, eqs, mts, K, [0, 1, 2], [], []⟩
noncomputable def f30G (K : Nat) (a0 : (Int × Int) × Int) : Option Bool :=
  (f31G K a0.1).bind fun y1 => (bif ((!(!(!y1))) || true) then (bif ((!(!(!y1))) || true) then ((bif (!(!y1)) then f32G K a0.2 else some false)).bind fun y2 => (bif ((!(!(!y1))) || true) then some (bif (!y1) then true else (!y2)) else none) else none) else none)
noncomputable def f30M (K : Nat) : Mdl := ⟨[(.ro, (.cons (.cons (.int .i64) (.int .i64)) (.int .i64)))], [.bool], fun x => f30G K x.1⟩
/-! slices.IndexFunc[[]impl.Mark,impl.Mark] -/
noncomputable def f40C : Code := codeOf Try.f40
noncomputable def f40E (K : Nat) : Env := ⟨[], tys, eqs, mts, K, [0, 1, 4, 5, 7, 8, 9, 16], [], []⟩
noncomputable def f40_b3 (K : Nat) (a0 : List ((Int × Int) × Int)) (a1 : (((Int × Int) × Int) → Option Bool)) (L3 : Int → Option Int) (q4 : Int) : Option Int :=
  (bif (decide (q4 < (a0.length : Int))) then (bif (decide (0 ≤ q4) && decide (q4 < (a0.length : Int))) then (a1 (((a0.getD ((0 : Int) + q4).toNat (((0 : Int), (0 : Int)), (0 : Int))).1), (a0.getD ((0 : Int) + q4).toNat (((0 : Int), (0 : Int)), (0 : Int))).2)).bind fun y5 => (bif y5 then some q4 else L3 (w (q4 + (1 : Int)))) else none) else some (-1 : Int))
noncomputable def f40_l3 (K : Nat) (a0 : List ((Int × Int) × Int)) (a1 : (((Int × Int) × Int) → Option Bool)) (n : Nat) (q4 : Int) : Option Int :=
  iter (X := Int) (fun L x => (fun L3 => f40_b3 K a0 a1 L3 x) (fun v0 => L v0)) n q4
noncomputable def f40_fr3 (a0 : List ((Int × Int) × Int)) (a1 : (((Int × Int) × Int) → Option Bool)) (q4 : Int) : Fr := ⟨19, [(0, .v false [.row 0]), (1, .v false [.fv1 (.cons (.cons (.int .i64) (.int .i64)) (.int .i64)) .bool a1]), (4, .v false [.int .i64 (0 : Int)]), (7, .v false [.int .i64 (a0.length : Int)]), (8, .v false [.int .i64 q4])], [], [some ⟨45, (.cons (.cons (.int .i64) (.int .i64)) (.int .i64)), a0, .ro⟩]⟩
noncomputable def f40_k3 (K : Nat) (a0 : List ((Int × Int) × Int)) (a1 : (((Int × Int) × Int) → Option Bool)) (lr : LR Int) : Ex → Fr → Option Int :=
  contC (f40E K) 1 lr f40C [1, 0, 1, 0] (finK (f40E K) Try.f40 [(.ro, (.list 45 (.cons (.cons (.int .i64) (.int .i64)) (.int .i64)))), (.ro, (.fn1 (.cons (.cons (.int .i64) (.int .i64)) (.int .i64)) .bool))] [(.int .i64)] (a0, a1, ()))
noncomputable def f40_g (K : Nat) (a0 : List ((Int × Int) × Int)) (a1 : (((Int × Int) × Int) → Option Bool)) (I3 : Int → Option Int) : Option Int :=
  I3 (0 : Int)
noncomputable def f40G (K : Nat) (a0 : List ((Int × Int) × Int)) (a1 : (((Int × Int) × Int) → Option Bool)) : Option Int :=
  f40_g K a0 a1 (fun d0 => f40_l3 K a0 a1 K d0)
noncomputable def f40M (K : Nat) : Mdl := ⟨[(.ro, (.list 45 (.cons (.cons (.int .i64) (.int .i64)) (.int .i64)))), (.ro, (.fn1 (.cons (.cons (.int .i64) (.int .i64)) (.int .i64)) .bool))], [(.int .i64)], fun x => f40G K x.1 x.2.1⟩
/-! slices.ContainsFunc[[]impl.Mark,impl.Mark] -/
noncomputable def f29E (K : Nat) : Env := ⟨[(40, f40M K)], tys, eqs, mts, K, [0, 1, 4], [], []⟩
noncomputable def f29G (K : Nat) (a0 : List ((Int × Int) × Int)) (a1 : (((Int × Int) × Int) → Option Bool)) : Option Bool :=
  (f40G K a0 a1).bind fun y1 => some (decide (y1 ≥ (0 : Int)))
noncomputable def f29M (K : Nat) : Mdl := ⟨[(.ro, (.list 45 (.cons (.cons (.int .i64) (.int .i64)) (.int .i64)))), (.ro, (.fn1 (.cons (.cons (.int .i64) (.int .i64)) (.int .i64)) .bool))], [.bool], fun x => f29G K x.1 x.2.1⟩
/-! impl.AreMarks -/
noncomputable def f20E (K : Nat) : Env := ⟨[(29, f29M K), (30, f30M K)], tys, eqs, mts, K, [0, 2], [], []⟩
noncomputable def f20G (K : Nat) (a0 : List ((Int × Int) × Int)) : Option Bool :=
  (bif ((!(decide ((a0.length : Int) ≤ (40 : Int)))) || true) then ((bif (decide ((a0.length : Int) ≤ (40 : Int))) then f29G K a0 (fun z1 => f30G K z1) else some false)).bind fun y2 => (bif ((!(decide ((a0.length : Int) ≤ (40 : Int)))) || true) then some (bif (decide ((a0.length : Int) ≤ (40 : Int))) then (!y2) else false) else none) else none)
noncomputable def f20M (K : Nat) : Mdl := ⟨[(.ro, (.list 45 (.cons (.cons (.int .i64) (.int .i64)) (.int .i64))))], [.bool], fun x => f20G K x.1⟩
/-! impl.unit -/
noncomputable def f33E (K : Nat) : Env := ⟨[], tys, eqs, mts, K, [0], [], []⟩
noncomputable def f33G (K : Nat) : Option (Int × Int × Int × Int) :=
  some ((1 : Int), (0 : Int), (0 : Int), (1 : Int))
noncomputable def f33M (K : Nat) : Mdl := ⟨[], [(.cons (.int .i64) (.cons (.int .i64) (.cons (.int .i64) (.int .i64))))], fun x => f33G K ⟩
/-! impl.sublattices -/
noncomputable def f35C : Code := codeOf Try.f35
noncomputable def f35E (K : Nat) : Env := ⟨[], tys, eqs, mts, K, [0, 2, 3, 4, 5, 9, 12, 13, 14, 19], [], []⟩
noncomputable def f35_b9 (K : Nat) (a0 : Int) (q7 : Int) (L6 : Int → (List (Int × Int × Int)) → Option (List (Int × Int × Int))) (L9 : Int → (List (Int × Int × Int)) → Option (List (Int × Int × Int))) (q10 : Int) (q11 : List (Int × Int × Int)) : Option (List (Int × Int × Int)) :=
  (bif (decide (q10 < q7)) then (bif (q7 != 0) then (bif ((a0.tmod q7) == (0 : Int)) then (bif (q7 != 0) then (bif (Nat.ble (q11.length + [(q7, q10, (w (a0.tdiv q7)))].length) (lim 24)) then L9 (w (q10 + (1 : Int))) (q11 ++ [(q7, q10, (w (a0.tdiv q7)))]) else none) else none) else L9 (w (q10 + (1 : Int))) q11) else none) else L6 (w (q7 + (1 : Int))) q11)
noncomputable def f35_l9 (K : Nat) (a0 : Int) (q7 : Int) (L6 : Int → (List (Int × Int × Int)) → Option (List (Int × Int × Int))) (n : Nat) (q10 : Int) (q11 : List (Int × Int × Int)) : Option (List (Int × Int × Int)) :=
  iter (X := Int × List (Int × Int × Int)) (fun L x => (fun L9 => f35_b9 K a0 q7 L6 L9 x.1 x.2) (fun v0 v1 => L (v0, v1))) n (q10, q11)
noncomputable def f35_fr9 (a0 : Int) (q7 : Int) (q10 : Int) (q11 : List (Int × Int × Int)) : Fr := ⟨31, [(0, .v false [.int .i64 a0]), (2, .v false [.row 0]), (3, .v false [.row 1]), (4, .v false [.int .i64 q7]), (9, .v false [.bool (decide (q7 ≤ a0))]), (12, .v false [.int .i64 q7]), (13, .v false [.int .i64 q10])], [], [some ⟨25, (.cons (.int .i64) (.cons (.int .i64) (.int .i64))), [], .own⟩, some ⟨25, (.cons (.int .i64) (.cons (.int .i64) (.int .i64))), q11, .own⟩]⟩
noncomputable def f35_b6 (K : Nat) (a0 : Int) (I9 : Int → Int → (List (Int × Int × Int)) → Option (List (Int × Int × Int))) (L6 : Int → (List (Int × Int × Int)) → Option (List (Int × Int × Int))) (q7 : Int) (q8 : List (Int × Int × Int)) : Option (List (Int × Int × Int)) :=
  (bif (decide (q7 ≤ a0)) then I9 q7 (0 : Int) q8 else some q8)
noncomputable def f35_l6 (K : Nat) (a0 : Int) (n : Nat) (q7 : Int) (q8 : List (Int × Int × Int)) : Option (List (Int × Int × Int)) :=
  iter (X := Int × List (Int × Int × Int)) (fun L x => (fun L6 => f35_b6 K a0 (fun c0 d0 d1 => f35_l9 K a0 c0 L6 K d0 d1) L6 x.1 x.2) (fun v0 v1 => L (v0, v1))) n (q7, q8)
noncomputable def f35_fr6 (a0 : Int) (q7 : Int) (q8 : List (Int × Int × Int)) : Fr := ⟨31, [(0, .v false [.int .i64 a0]), (2, .v false [.row 0]), (3, .v false [.row 1]), (4, .v false [.int .i64 q7])], [], [some ⟨25, (.cons (.int .i64) (.cons (.int .i64) (.int .i64))), [], .own⟩, some ⟨25, (.cons (.int .i64) (.cons (.int .i64) (.int .i64))), q8, .own⟩]⟩
noncomputable def f35_k6 (K : Nat) (a0 : Int) (lr : LR (List (Int × Int × Int))) : Ex → Fr → Option (List (Int × Int × Int)) :=
  contC (f35E K) 0 lr f35C [1, 1, 0, 1, 0] (finK (f35E K) Try.f35 [(.ro, (.int .i64))] [(.list 25 (.cons (.int .i64) (.cons (.int .i64) (.int .i64))))] (a0, ()))
noncomputable def f35_k9 (K : Nat) (a0 : Int) (F6 : Fr → Option (List (Int × Int × Int))) (bq7 : Int) (bq8 : List (Int × Int × Int)) (lr : LR (List (Int × Int × Int))) : Ex → Fr → Option (List (Int × Int × Int)) :=
  contC (f35E K) 0 lr (selC f35C [1, 1, 0, 1, 0, 0]) [1, 0, 0, 1, 0] (loopK 0 (f35_fr6 a0 bq7 bq8) F6 (f35_k6 K a0 lr))
noncomputable def f35_g (K : Nat) (a0 : Int) (I6 : Int → (List (Int × Int × Int)) → Option (List (Int × Int × Int))) : Option (List (Int × Int × Int)) :=
  I6 (1 : Int) []
noncomputable def f35G (K : Nat) (a0 : Int) : Option (List (Int × Int × Int)) :=
  f35_g K a0 (fun d0 d1 => f35_l6 K a0 K d0 d1)
noncomputable def f35M (K : Nat) : Mdl := ⟨[(.ro, (.int .i64))], [(.list 25 (.cons (.int .i64) (.cons (.int .i64) (.int .i64))))], fun x => f35G K x.1⟩
/-! (impl.Lattice).index -/
noncomputable def f49E (K : Nat) : Env := ⟨[], tys, eqs, mts, K, [0, 1, 2], [], []⟩
noncomputable def f49G (K : Nat) (a0 : Int × Int × Int) : Option Int :=
  some (w (a0.1 * a0.2.2))
noncomputable def f49M (K : Nat) : Mdl := ⟨[(.ro, (.cons (.int .i64) (.cons (.int .i64) (.int .i64))))], [(.int .i64)], fun x => f49G K x.1⟩
/-! math/bits.Mul -/
noncomputable def f54G (K : Nat) (a0 : Int) (a1 : Int) : Option (Int × Int) := mulF a0 a1
noncomputable def f54M (K : Nat) : Mdl := ⟨[(.ro, (.int .u64)), (.ro, (.int .u64))], [(.int .u64), (.int .u64)], fun x => f54G K x.1 x.2.1⟩
/-! slices.Repeat[[]int64,int64] -/
noncomputable def f48C : Code := codeOf Try.f48
noncomputable def f48E (K : Nat) : Env := ⟨[(54, f54M K)], tys, eqs, mts, K, [0, 1, 4, 5, 6, 7, 8, 10, 26, 37], [], []⟩
noncomputable def f48_b3 (K : Nat) (a0 : List Int) (a1 : Int) (y1 : Int × Int) (L3 : Int → (List Int) → Option (List Int)) (q4 : Int) (q5 : List Int) : Option (List Int) :=
  (bif (decide (q4 < (q5.length : Int))) then (bif (decide (0 ≤ q4) && decide (q4 ≤ (q5.length : Int)) && decide ((q5.length : Int) ≤ (q5.length : Int))) then (bif (decide (0 ≤ (0 : Int)) && decide ((0 : Int) ≤ q4) && decide (q4 ≤ (q5.length : Int))) then L3 (w (q4 + (bif decide ((((0 : Int) + (q5.length : Int)) - ((0 : Int) + q4)) ≤ (((0 : Int) + q4) - (0 : Int))) then (((0 : Int) + (q5.length : Int)) - ((0 : Int) + q4)) else (((0 : Int) + q4) - (0 : Int))))) (q5.take ((0 : Int) + q4).toNat ++ ((q5.take ((0 : Int) + (((0 : Int) + q4) - (0 : Int))).toNat).drop 0).take (bif decide ((((0 : Int) + (q5.length : Int)) - ((0 : Int) + q4)) ≤ (((0 : Int) + q4) - (0 : Int))) then (((0 : Int) + (q5.length : Int)) - ((0 : Int) + q4)) else (((0 : Int) + q4) - (0 : Int))).toNat ++ q5.drop (((0 : Int) + q4).toNat + (bif decide ((((0 : Int) + (q5.length : Int)) - ((0 : Int) + q4)) ≤ (((0 : Int) + q4) - (0 : Int))) then (((0 : Int) + (q5.length : Int)) - ((0 : Int) + q4)) else (((0 : Int) + q4) - (0 : Int))).toNat)) else none) else none) else some q5)
noncomputable def f48_l3 (K : Nat) (a0 : List Int) (a1 : Int) (y1 : Int × Int) (n : Nat) (q4 : Int) (q5 : List Int) : Option (List Int) :=
  iter (X := Int × List Int) (fun L x => (fun L3 => f48_b3 K a0 a1 y1 L3 x.1 x.2) (fun v0 v1 => L (v0, v1))) n (q4, q5)
noncomputable def f48_fr3 (a0 : List Int) (a1 : Int) (y1 : Int × Int) (q4 : Int) (q5 : List Int) : Fr := ⟨48, [(0, .v false [.row 0]), (1, .v false [.int .i64 a1]), (4, .v false [.row 1]), (5, .v false [.int .u64 y1.1]), (6, .v false [.int .u64 y1.2]), (7, .v false [.row 2]), (8, .v false [.int .i64 q4]), (10, .v false [.bool (decide (a1 < (0 : Int)))]), (26, .v false [.bool (bif (decide (y1.1 > (0 : Int))) then true else (decide (y1.2 > (9223372036854775807 : Int))))])], [], [some ⟨2, (.int .i64), a0, .ro⟩, some ⟨2, (.int .i64), [], .own⟩, some ⟨2, (.int .i64), q5, .own⟩]⟩
noncomputable def f48_k3 (K : Nat) (a0 : List Int) (a1 : Int) (lr : LR (List Int)) : Ex → Fr → Option (List Int) :=
  contC (f48E K) 1 lr f48C [1, 1, 1, 1, 1, 1, 0, 0] (finK (f48E K) Try.f48 [(.ro, (.list 2 (.int .i64))), (.ro, (.int .i64))] [(.list 2 (.int .i64))] (a0, a1, ()))
noncomputable def f48_g (K : Nat) (a0 : List Int) (a1 : Int) (I3 : (Int × Int) → Int → (List Int) → Option (List Int)) : Option (List Int) :=
  (bif (decide (a1 < (0 : Int))) then none else (f54G K (IntKind.u64.wrap (a0.length : Int)) (IntKind.u64.wrap a1)).bind fun y1 => (bif ((!(!(decide (y1.1 > (0 : Int))))) || true) then (bif ((!(!(decide (y1.1 > (0 : Int))))) || true) then (bif (bif (decide (y1.1 > (0 : Int))) then true else (decide (y1.2 > (9223372036854775807 : Int)))) then none else (bif (decide (0 ≤ (w y1.2)) && Nat.ble (w y1.2).toNat (lim 8) && ((w y1.2) == (w y1.2))) then I3 y1 (bif decide (((List.replicate (w y1.2).toNat (0 : Int)).length : Int) ≤ (a0.length : Int)) then ((List.replicate (w y1.2).toNat (0 : Int)).length : Int) else (a0.length : Int)) ((List.replicate (w y1.2).toNat (0 : Int)).take 0 ++ ((a0.take ((0 : Int) + (a0.length : Int)).toNat).drop 0).take (bif decide (((List.replicate (w y1.2).toNat (0 : Int)).length : Int) ≤ (a0.length : Int)) then ((List.replicate (w y1.2).toNat (0 : Int)).length : Int) else (a0.length : Int)).toNat ++ (List.replicate (w y1.2).toNat (0 : Int)).drop (0 + (bif decide (((List.replicate (w y1.2).toNat (0 : Int)).length : Int) ≤ (a0.length : Int)) then ((List.replicate (w y1.2).toNat (0 : Int)).length : Int) else (a0.length : Int)).toNat)) else none)) else none) else none))
noncomputable def f48G (K : Nat) (a0 : List Int) (a1 : Int) : Option (List Int) :=
  f48_g K a0 a1 (fun c0 d0 d1 => f48_l3 K a0 a1 c0 K d0 d1)
noncomputable def f48M (K : Nat) : Mdl := ⟨[(.ro, (.list 2 (.int .i64))), (.ro, (.int .i64))], [(.list 2 (.int .i64))], fun x => f48G K x.1 x.2.1⟩
/-! (impl.Lattice).cells -/
noncomputable def f50C : Code := codeOf Try.f50
noncomputable def f50E (K : Nat) : Env := ⟨[], tys, eqs, mts, K, [0, 1, 2, 3, 4, 5, 8, 9, 10, 13, 14, 15], [], []⟩
noncomputable def f50_b9 (K : Nat) (a0 : Int × Int × Int) (q7 : Int) (L6 : Int → (List (Int × Int)) → Option (List (Int × Int))) (L9 : Int → (List (Int × Int)) → Option (List (Int × Int))) (q10 : Int) (q11 : List (Int × Int)) : Option (List (Int × Int)) :=
  (bif (decide (q10 < a0.2.2)) then (bif (Nat.ble (q11.length + [(q7, q10)].length) (lim 16)) then L9 (w (q10 + (1 : Int))) (q11 ++ [(q7, q10)]) else none) else L6 (w (q7 + (1 : Int))) q11)
noncomputable def f50_l9 (K : Nat) (a0 : Int × Int × Int) (q7 : Int) (L6 : Int → (List (Int × Int)) → Option (List (Int × Int))) (n : Nat) (q10 : Int) (q11 : List (Int × Int)) : Option (List (Int × Int)) :=
  iter (X := Int × List (Int × Int)) (fun L x => (fun L9 => f50_b9 K a0 q7 L6 L9 x.1 x.2) (fun v0 v1 => L (v0, v1))) n (q10, q11)
noncomputable def f50_fr9 (a0 : Int × Int × Int) (q7 : Int) (q10 : Int) (q11 : List (Int × Int)) : Fr := ⟨26, [(0, .v true [.int .i64 a0.1, .int .i64 a0.2.1, .int .i64 a0.2.2]), (1, .v false [.box 0 0]), (2, .v false [.row 0]), (3, .v false [.row 1]), (4, .v false [.int .i64 q7]), (8, .v false [.int .i64 a0.1]), (9, .v false [.int .i64 q7]), (10, .v false [.bool (decide (q7 < a0.1))]), (13, .v false [.int .i64 a0.2.2]), (14, .v false [.int .i64 q10])], [some ⟨true, [.int .i64 a0.1, .int .i64 a0.2.1, .int .i64 a0.2.2]⟩], [some ⟨43, (.cons (.int .i64) (.int .i64)), [], .own⟩, some ⟨43, (.cons (.int .i64) (.int .i64)), q11, .own⟩]⟩
noncomputable def f50_b6 (K : Nat) (a0 : Int × Int × Int) (I9 : Int → Int → (List (Int × Int)) → Option (List (Int × Int))) (L6 : Int → (List (Int × Int)) → Option (List (Int × Int))) (q7 : Int) (q8 : List (Int × Int)) : Option (List (Int × Int)) :=
  (bif (decide (q7 < a0.1)) then I9 q7 (0 : Int) q8 else some q8)
noncomputable def f50_l6 (K : Nat) (a0 : Int × Int × Int) (n : Nat) (q7 : Int) (q8 : List (Int × Int)) : Option (List (Int × Int)) :=
  iter (X := Int × List (Int × Int)) (fun L x => (fun L6 => f50_b6 K a0 (fun c0 d0 d1 => f50_l9 K a0 c0 L6 K d0 d1) L6 x.1 x.2) (fun v0 v1 => L (v0, v1))) n (q7, q8)
noncomputable def f50_fr6 (a0 : Int × Int × Int) (q7 : Int) (q8 : List (Int × Int)) : Fr := ⟨26, [(0, .v true [.int .i64 a0.1, .int .i64 a0.2.1, .int .i64 a0.2.2]), (1, .v false [.box 0 0]), (2, .v false [.row 0]), (3, .v false [.row 1]), (8, .v false [.int .i64 a0.1]), (9, .v false [.int .i64 q7])], [some ⟨true, [.int .i64 a0.1, .int .i64 a0.2.1, .int .i64 a0.2.2]⟩], [some ⟨43, (.cons (.int .i64) (.int .i64)), [], .own⟩, some ⟨43, (.cons (.int .i64) (.int .i64)), q8, .own⟩]⟩
noncomputable def f50_k6 (K : Nat) (a0 : Int × Int × Int) (lr : LR (List (Int × Int))) : Ex → Fr → Option (List (Int × Int)) :=
  contC (f50E K) 0 lr f50C [1, 1, 0, 1, 0] (finK (f50E K) Try.f50 [(.ro, (.cons (.int .i64) (.cons (.int .i64) (.int .i64))))] [(.list 43 (.cons (.int .i64) (.int .i64)))] (a0, ()))
noncomputable def f50_k9 (K : Nat) (a0 : Int × Int × Int) (F6 : Fr → Option (List (Int × Int))) (bq7 : Int) (bq8 : List (Int × Int)) (lr : LR (List (Int × Int))) : Ex → Fr → Option (List (Int × Int)) :=
  contC (f50E K) 0 lr (selC f50C [1, 1, 0, 1, 0, 0]) [1, 1, 0, 0, 1, 1, 0] (loopK 0 (f50_fr6 a0 bq7 bq8) F6 (f50_k6 K a0 lr))
noncomputable def f50_g (K : Nat) (a0 : Int × Int × Int) (I6 : Int → (List (Int × Int)) → Option (List (Int × Int))) : Option (List (Int × Int)) :=
  I6 (0 : Int) []
noncomputable def f50G (K : Nat) (a0 : Int × Int × Int) : Option (List (Int × Int)) :=
  f50_g K a0 (fun d0 d1 => f50_l6 K a0 K d0 d1)
noncomputable def f50M (K : Nat) : Mdl := ⟨[(.ro, (.cons (.int .i64) (.cons (.int .i64) (.int .i64))))], [(.list 43 (.cons (.int .i64) (.int .i64)))], fun x => f50G K x.1⟩
/-! (impl.Lattice).number -/
noncomputable def f45E (K : Nat) : Env := ⟨[], tys, eqs, mts, K, [0, 1, 2, 3, 4], [], []⟩
noncomputable def f45G (K : Nat) (a0 : Int × Int × Int) (a1 : Int × Int) : Option Int :=
  some (w ((w (a1.1 * a0.2.2)) + a1.2))
noncomputable def f45M (K : Nat) : Mdl := ⟨[(.ro, (.cons (.int .i64) (.cons (.int .i64) (.int .i64)))), (.ro, (.cons (.int .i64) (.int .i64)))], [(.int .i64)], fun x => f45G K x.1 x.2.1⟩
/-! (impl.Mat).apply -/
noncomputable def f65E (K : Nat) : Env := ⟨[], tys, eqs, mts, K, [0, 1, 2, 3, 4], [], []⟩
noncomputable def f65G (K : Nat) (a0 : Int × Int × Int × Int) (a1 : Int × Int) : Option (Int × Int) :=
  some ((w ((w (a0.1 * a1.1)) + (w (a0.2.1 * a1.2)))), (w ((w (a0.2.2.1 * a1.1)) + (w (a0.2.2.2 * a1.2)))))
noncomputable def f65M (K : Nat) : Mdl := ⟨[(.ro, (.cons (.int .i64) (.cons (.int .i64) (.cons (.int .i64) (.int .i64))))), (.ro, (.cons (.int .i64) (.int .i64)))], [(.cons (.int .i64) (.int .i64))], fun x => f65G K x.1 x.2.1⟩
/-! (impl.Vec).add -/
noncomputable def f66E (K : Nat) : Env := ⟨[], tys, eqs, mts, K, [0, 1, 2, 3, 4], [], []⟩
noncomputable def f66G (K : Nat) (a0 : Int × Int) (a1 : Int × Int) : Option (Int × Int) :=
  some ((w (a0.1 + a1.1)), (w (a0.2 + a1.2)))
noncomputable def f66M (K : Nat) : Mdl := ⟨[(.ro, (.cons (.int .i64) (.int .i64))), (.ro, (.cons (.int .i64) (.int .i64)))], [(.cons (.int .i64) (.int .i64))], fun x => f66G K x.1 x.2.1⟩
/-! (impl.Motion).apply -/
noncomputable def f61E (K : Nat) : Env := ⟨[(65, f65M K), (66, f66M K)], tys, eqs, mts, K, [0, 1, 2, 3, 4], [], []⟩
noncomputable def f61G (K : Nat) (a0 : (Int × Int × Int × Int) × Int × Int) (a1 : Int × Int) : Option (Int × Int) :=
  (f65G K a0.1 a1).bind fun y1 => (f66G K y1 a0.2).bind fun y2 => some y2
noncomputable def f61M (K : Nat) : Mdl := ⟨[(.ro, (.cons (.cons (.int .i64) (.cons (.int .i64) (.cons (.int .i64) (.int .i64)))) (.cons (.int .i64) (.int .i64)))), (.ro, (.cons (.int .i64) (.int .i64)))], [(.cons (.int .i64) (.int .i64))], fun x => f61G K x.1 x.2.1⟩
/-! impl.mod -/
noncomputable def f52E (K : Nat) : Env := ⟨[], tys, eqs, mts, K, [0, 1, 4], [], []⟩
noncomputable def f52G (K : Nat) (a0 : Int) (a1 : Int) : Option Int :=
  (bif (a1 != 0) then (bif (a1 != 0) then some ((w ((a0.tmod a1) + a1)).tmod a1) else none) else none)
noncomputable def f52M (K : Nat) : Mdl := ⟨[(.ro, (.int .i64)), (.ro, (.int .i64))], [(.int .i64)], fun x => f52G K x.1 x.2.1⟩
/-! (impl.Lattice).reduce -/
noncomputable def f46E (K : Nat) : Env := ⟨[(52, f52M K)], tys, eqs, mts, K, [0, 1, 2, 3, 4, 5], [], []⟩
noncomputable def f46G (K : Nat) (a0 : Int × Int × Int) (a1 : Int × Int) : Option (Int × Int) :=
  (f52G K a1.2 a0.2.2).bind fun y1 => (bif (a0.2.2 != 0) then (f52G K (w (a1.1 - (w ((w ((w (a1.2 - y1)).tdiv a0.2.2)) * a0.2.1)))) a0.1).bind fun y2 => some (y2, y1) else none)
noncomputable def f46M (K : Nat) : Mdl := ⟨[(.ro, (.cons (.int .i64) (.cons (.int .i64) (.int .i64)))), (.ro, (.cons (.int .i64) (.int .i64)))], [(.cons (.int .i64) (.int .i64))], fun x => f46G K x.1 x.2.1⟩
/-! (impl.Lattice).take -/
noncomputable def f55E (K : Nat) : Env := ⟨[(46, f46M K), (61, f61M K)], tys, eqs, mts, K, [0, 1, 2, 3, 4, 5, 6], [], []⟩
noncomputable def f55G (K : Nat) (a0 : Int × Int × Int) (a1 : (Int × Int × Int × Int) × Int × Int) (a2 : Int × Int) : Option (Int × Int) :=
  (f61G K a1 a2).bind fun y1 => (f46G K a0 y1).bind fun y2 => some y2
noncomputable def f55M (K : Nat) : Mdl := ⟨[(.ro, (.cons (.int .i64) (.cons (.int .i64) (.int .i64)))), (.ro, (.cons (.cons (.int .i64) (.cons (.int .i64) (.cons (.int .i64) (.int .i64)))) (.cons (.int .i64) (.int .i64)))), (.ro, (.cons (.int .i64) (.int .i64)))], [(.cons (.int .i64) (.int .i64))], fun x => f55G K x.1 x.2.1 x.2.2.1⟩
/-! impl.compareNumbers -/
noncomputable def f64C : Code := codeOf Try.f64
noncomputable def f64E (K : Nat) : Env := ⟨[], tys, eqs, mts, K, [0, 1, 4, 5, 7, 8, 9, 19, 28], [], []⟩
noncomputable def f64_b2 (K : Nat) (a0 : List Int) (a1 : List Int) (L2 : Int → Option Int) (q3 : Int) : Option Int :=
  (bif (decide (q3 < (a0.length : Int))) then (bif (decide (0 ≤ q3) && decide (q3 < (a0.length : Int))) then (bif (decide (0 ≤ q3) && decide (q3 < (a1.length : Int))) then (bif ((a0.getD ((0 : Int) + q3).toNat (0 : Int)) != (a1.getD ((0 : Int) + q3).toNat (0 : Int))) then (bif (decide (0 ≤ q3) && decide (q3 < (a0.length : Int))) then (bif (decide (0 ≤ q3) && decide (q3 < (a1.length : Int))) then (bif (decide ((a0.getD ((0 : Int) + q3).toNat (0 : Int)) < (a1.getD ((0 : Int) + q3).toNat (0 : Int)))) then some (-1 : Int) else some (1 : Int)) else none) else none) else L2 (w (q3 + (1 : Int)))) else none) else none) else some (0 : Int))
noncomputable def f64_l2 (K : Nat) (a0 : List Int) (a1 : List Int) (n : Nat) (q3 : Int) : Option Int :=
  iter (X := Int) (fun L x => (fun L2 => f64_b2 K a0 a1 L2 x) (fun v0 => L v0)) n q3
noncomputable def f64_fr2 (a0 : List Int) (a1 : List Int) (q3 : Int) : Fr := ⟨30, [(0, .v false [.row 0]), (1, .v false [.row 1]), (4, .v false [.int .i64 (0 : Int)]), (7, .v false [.int .i64 (a0.length : Int)]), (8, .v false [.int .i64 q3])], [], [some ⟨2, (.int .i64), a0, .ro⟩, some ⟨2, (.int .i64), a1, .ro⟩]⟩
noncomputable def f64_k2 (K : Nat) (a0 : List Int) (a1 : List Int) (lr : LR Int) : Ex → Fr → Option Int :=
  contC (f64E K) 2 lr f64C [1, 0, 1, 0] (finK (f64E K) Try.f64 [(.ro, (.list 2 (.int .i64))), (.ro, (.list 2 (.int .i64)))] [(.int .i64)] (a0, a1, ()))
noncomputable def f64_g (K : Nat) (a0 : List Int) (a1 : List Int) (I2 : Int → Option Int) : Option Int :=
  I2 (0 : Int)
noncomputable def f64G (K : Nat) (a0 : List Int) (a1 : List Int) : Option Int :=
  f64_g K a0 a1 (fun d0 => f64_l2 K a0 a1 K d0)
noncomputable def f64M (K : Nat) : Mdl := ⟨[(.ro, (.list 2 (.int .i64))), (.ro, (.list 2 (.int .i64)))], [(.int .i64)], fun x => f64G K x.1 x.2.1⟩
/-! impl.compareVecs -/
noncomputable def f57E (K : Nat) : Env := ⟨[(64, f64M K)], tys, eqs, mts, K, [0, 1, 2, 3, 4], [], []⟩
noncomputable def f57G (K : Nat) (a0 : Int × Int) (a1 : Int × Int) : Option Int :=
  (f64G K [a0.1, a0.2] [a1.1, a1.2]).bind fun y1 => some y1
noncomputable def f57M (K : Nat) : Mdl := ⟨[(.ro, (.cons (.int .i64) (.int .i64))), (.ro, (.cons (.int .i64) (.int .i64)))], [(.int .i64)], fun x => f57G K x.1 x.2.1⟩
/-! slices.SortFunc[[]impl.Vec,impl.Vec] -/
noncomputable def f56G (K : Nat) (a0 : List (Int × Int)) (a1 : (Int × Int) → (Int × Int) → Option Int) : Option (List (Int × Int)) := sortF (.cons (.int .i64) (.int .i64)) a0 a1
noncomputable def f56M (K : Nat) : Mdl := ⟨[(.io, (.list 43 (.cons (.int .i64) (.int .i64)))), (.ro, (.fn2 (.cons (.int .i64) (.int .i64)) (.cons (.int .i64) (.int .i64)) (.int .i64)))], [], fun x => f56G K x.1 x.2.1⟩
/-! slices.Compact[[]impl.Vec,impl.Vec] -/
noncomputable def f58C : Code := codeOf Try.f58
noncomputable def f58E (K : Nat) : Env := ⟨[], tys, eqs, mts, K, [0, 2, 3, 4, 5, 8, 13, 25, 32, 44], [], []⟩
noncomputable def f58_b9 (K : Nat) (a0 : List (Int × Int)) (q8 : Int) (L9 : Int → Int → (List (Int × Int)) → Option (List (Int × Int))) (q10 : Int) (q11 : Int) (q12 : List (Int × Int)) : Option (List (Int × Int)) :=
  (bif (decide (q11 < (((0 : Int) + (a0.length : Int)) - ((0 : Int) + q8)))) then (bif (decide (0 ≤ q11) && decide (q11 < (((0 : Int) + (a0.length : Int)) - ((0 : Int) + q8)))) then (bif (decide (0 ≤ (w (q11 - (1 : Int)))) && decide ((w (q11 - (1 : Int))) < (((0 : Int) + (a0.length : Int)) - ((0 : Int) + q8)))) then (bif (!(((q12.getD (((0 : Int) + q8) + q11).toNat ((0 : Int), (0 : Int))).1 == (q12.getD (((0 : Int) + q8) + (w (q11 - (1 : Int)))).toNat ((0 : Int), (0 : Int))).1) && ((q12.getD (((0 : Int) + q8) + q11).toNat ((0 : Int), (0 : Int))).2 == (q12.getD (((0 : Int) + q8) + (w (q11 - (1 : Int)))).toNat ((0 : Int), (0 : Int))).2))) then (bif (decide (0 ≤ q11) && decide (q11 < (((0 : Int) + (a0.length : Int)) - ((0 : Int) + q8)))) then (bif (decide (0 ≤ q10) && decide (q10 < (q12.length : Int))) then L9 (w (q10 + (1 : Int))) (w (q11 + (1 : Int))) (q12.set ((0 : Int) + q10).toNat (q12.getD (((0 : Int) + q8) + q11).toNat ((0 : Int), (0 : Int)))) else none) else none) else L9 q10 (w (q11 + (1 : Int))) q12) else none) else none) else (bif (decide (0 ≤ q10) && decide (q10 ≤ (q12.length : Int)) && decide ((q12.length : Int) ≤ (q12.length : Int))) then (bif (decide (0 ≤ (0 : Int)) && decide ((0 : Int) ≤ q10) && decide (q10 ≤ ((clr q12 ((0 : Int) + q10).toNat (((0 : Int) + q10) + (((0 : Int) + (q12.length : Int)) - ((0 : Int) + q10))).toNat ((0 : Int), (0 : Int))).length : Int))) then some ((clr q12 ((0 : Int) + q10).toNat (((0 : Int) + q10) + (((0 : Int) + (q12.length : Int)) - ((0 : Int) + q10))).toNat ((0 : Int), (0 : Int))).take ((0 : Int) + q10).toNat) else none) else none))
noncomputable def f58_l9 (K : Nat) (a0 : List (Int × Int)) (q8 : Int) (n : Nat) (q10 : Int) (q11 : Int) (q12 : List (Int × Int)) : Option (List (Int × Int)) :=
  iter (X := Int × Int × List (Int × Int)) (fun L x => (fun L9 => f58_b9 K a0 q8 L9 x.1 x.2.1 x.2.2) (fun v0 v1 v2 => L (v0, v1, v2))) n (q10, q11, q12)
noncomputable def f58_fr9 (a0 : List (Int × Int)) (q8 : Int) (q10 : Int) (q11 : Int) (q12 : List (Int × Int)) : Fr := ⟨61, [(0, .v false [.row 0]), (2, .v false [.row 1]), (3, .v false [.int .i64 q10]), (4, .v false [.view 0 ((0 : Int) + q8) ((0 : Int) + (a0.length : Int))]), (5, .v false [.int .i64 q11]), (8, .v false [.bool (decide ((a0.length : Int) < (2 : Int)))]), (13, .v false [.bool (decide (q8 < (a0.length : Int)))]), (25, .v false [.bool (((a0.getD ((0 : Int) + q8).toNat ((0 : Int), (0 : Int))).1 == (a0.getD ((0 : Int) + (w (q8 - (1 : Int)))).toNat ((0 : Int), (0 : Int))).1) && ((a0.getD ((0 : Int) + q8).toNat ((0 : Int), (0 : Int))).2 == (a0.getD ((0 : Int) + (w (q8 - (1 : Int)))).toNat ((0 : Int), (0 : Int))).2))])], [], [some ⟨43, (.cons (.int .i64) (.int .i64)), q12, .own⟩, some ⟨43, (.cons (.int .i64) (.int .i64)), [], .own⟩]⟩
noncomputable def f58_b7 (K : Nat) (a0 : List (Int × Int)) (I9 : Int → Int → Int → (List (Int × Int)) → Option (List (Int × Int))) (L7 : Int → Option (List (Int × Int))) (q8 : Int) : Option (List (Int × Int)) :=
  (bif (decide (q8 < (a0.length : Int))) then (bif (decide (0 ≤ q8) && decide (q8 < (a0.length : Int))) then (bif (decide (0 ≤ (w (q8 - (1 : Int)))) && decide ((w (q8 - (1 : Int))) < (a0.length : Int))) then (bif (((a0.getD ((0 : Int) + q8).toNat ((0 : Int), (0 : Int))).1 == (a0.getD ((0 : Int) + (w (q8 - (1 : Int)))).toNat ((0 : Int), (0 : Int))).1) && ((a0.getD ((0 : Int) + q8).toNat ((0 : Int), (0 : Int))).2 == (a0.getD ((0 : Int) + (w (q8 - (1 : Int)))).toNat ((0 : Int), (0 : Int))).2)) then (bif (decide (0 ≤ q8) && decide (q8 ≤ (a0.length : Int)) && decide ((a0.length : Int) ≤ (a0.length : Int))) then I9 q8 q8 (1 : Int) a0 else none) else L7 (w (q8 + (1 : Int)))) else none) else none) else some a0)
noncomputable def f58_l7 (K : Nat) (a0 : List (Int × Int)) (n : Nat) (q8 : Int) : Option (List (Int × Int)) :=
  iter (X := Int) (fun L x => (fun L7 => f58_b7 K a0 (fun c0 d0 d1 d2 => f58_l9 K a0 c0 K d0 d1 d2) L7 x) (fun v0 => L v0)) n q8
noncomputable def f58_fr7 (a0 : List (Int × Int)) (q8 : Int) : Fr := ⟨61, [(0, .v false [.row 0]), (2, .v false [.row 1]), (3, .v false [.int .i64 q8]), (8, .v false [.bool (decide ((a0.length : Int) < (2 : Int)))])], [], [some ⟨43, (.cons (.int .i64) (.int .i64)), a0, .own⟩, some ⟨43, (.cons (.int .i64) (.int .i64)), [], .own⟩]⟩
noncomputable def f58_k7 (K : Nat) (a0 : List (Int × Int)) (lr : LR (List (Int × Int))) : Ex → Fr → Option (List (Int × Int)) :=
  contC (f58E K) 1 lr f58C [1, 1, 0, 1, 0] (finK (f58E K) Try.f58 [(.mv, (.list 43 (.cons (.int .i64) (.int .i64))))] [(.list 43 (.cons (.int .i64) (.int .i64)))] (a0, ()))
noncomputable def f58_k9 (K : Nat) (a0 : List (Int × Int)) (F7 : Fr → Option (List (Int × Int))) (bq8 : Int) (lr : LR (List (Int × Int))) : Ex → Fr → Option (List (Int × Int)) :=
  contC (f58E K) 1 lr (selC f58C [1, 1, 0, 1, 0, 0]) [1, 0, 0, 1, 0, 1, 0, 1, 0] (loopK 1 (f58_fr7 a0 bq8) F7 (f58_k7 K a0 lr))
noncomputable def f58_g (K : Nat) (a0 : List (Int × Int)) (I7 : Int → Option (List (Int × Int))) : Option (List (Int × Int)) :=
  (bif (decide ((a0.length : Int) < (2 : Int))) then some a0 else I7 (1 : Int))
noncomputable def f58G (K : Nat) (a0 : List (Int × Int)) : Option (List (Int × Int)) :=
  f58_g K a0 (fun d0 => f58_l7 K a0 K d0)
noncomputable def f58M (K : Nat) : Mdl := ⟨[(.mv, (.list 43 (.cons (.int .i64) (.int .i64))))], [(.list 43 (.cons (.int .i64) (.int .i64)))], fun x => f58G K x.1⟩
/-! impl.orbitOf -/
noncomputable def f51C : Code := codeOf Try.f51
noncomputable def f51E (K : Nat) : Env := ⟨[(55, f55M K), (56, f56M K), (57, f57M K), (58, f58M K)], tys, eqs, mts, K, [0, 1, 2, 3, 5, 6, 7, 9, 11, 12, 13, 14], [], []⟩
noncomputable def f51_b3 (K : Nat) (a0 : Int × Int × Int) (a1 : List ((Int × Int × Int × Int) × Int × Int)) (a2 : Int × Int) (L3 : Int → (List (Int × Int)) → Option (List (Int × Int))) (q4 : Int) (q5 : List (Int × Int)) : Option (List (Int × Int)) :=
  (bif (decide (q4 < (a1.length : Int))) then (bif (decide (0 ≤ q4) && decide (q4 < (a1.length : Int))) then (f55G K a0 ((((a1.getD ((0 : Int) + q4).toNat (((0 : Int), ((0 : Int), ((0 : Int), (0 : Int)))), ((0 : Int), (0 : Int)))).1).1, (((a1.getD ((0 : Int) + q4).toNat (((0 : Int), ((0 : Int), ((0 : Int), (0 : Int)))), ((0 : Int), (0 : Int)))).1).2).1, ((((a1.getD ((0 : Int) + q4).toNat (((0 : Int), ((0 : Int), ((0 : Int), (0 : Int)))), ((0 : Int), (0 : Int)))).1).2).2)), ((a1.getD ((0 : Int) + q4).toNat (((0 : Int), ((0 : Int), ((0 : Int), (0 : Int)))), ((0 : Int), (0 : Int)))).2)) a2).bind fun y6 => (bif (Nat.ble (q5.length + [y6].length) (lim 16)) then L3 (w (q4 + (1 : Int))) (q5 ++ [y6]) else none) else none) else (f56G K q5 (fun z7 z8 => f57G K z7 z8)).bind fun y9 => (f58G K y9).bind fun y10 => some y10)
noncomputable def f51_l3 (K : Nat) (a0 : Int × Int × Int) (a1 : List ((Int × Int × Int × Int) × Int × Int)) (a2 : Int × Int) (n : Nat) (q4 : Int) (q5 : List (Int × Int)) : Option (List (Int × Int)) :=
  iter (X := Int × List (Int × Int)) (fun L x => (fun L3 => f51_b3 K a0 a1 a2 L3 x.1 x.2) (fun v0 v1 => L (v0, v1))) n (q4, q5)
noncomputable def f51_fr3 (a0 : Int × Int × Int) (a1 : List ((Int × Int × Int × Int) × Int × Int)) (a2 : Int × Int) (q4 : Int) (q5 : List (Int × Int)) : Fr := ⟨29, [(0, .v true [.int .i64 a0.1, .int .i64 a0.2.1, .int .i64 a0.2.2]), (1, .v false [.row 0]), (2, .v true [.int .i64 a2.1, .int .i64 a2.2]), (3, .v false [.box 0 0]), (5, .v false [.box 1 0]), (6, .v false [.row 1]), (7, .v false [.row 2]), (11, .v false [.row 0]), (12, .v false [.int .i64 (a1.length : Int)]), (13, .v false [.int .i64 q4])], [some ⟨true, [.int .i64 a0.1, .int .i64 a0.2.1, .int .i64 a0.2.2]⟩, some ⟨true, [.int .i64 a2.1, .int .i64 a2.2]⟩], [some ⟨63, (.cons (.cons (.int .i64) (.cons (.int .i64) (.cons (.int .i64) (.int .i64)))) (.cons (.int .i64) (.int .i64))), a1, .ro⟩, some ⟨43, (.cons (.int .i64) (.int .i64)), [], .own⟩, some ⟨43, (.cons (.int .i64) (.int .i64)), q5, .own⟩]⟩
noncomputable def f51_k3 (K : Nat) (a0 : Int × Int × Int) (a1 : List ((Int × Int × Int × Int) × Int × Int)) (a2 : Int × Int) (lr : LR (List (Int × Int))) : Ex → Fr → Option (List (Int × Int)) :=
  contC (f51E K) 1 lr f51C [1, 1, 0, 1, 0] (finK (f51E K) Try.f51 [(.ro, (.cons (.int .i64) (.cons (.int .i64) (.int .i64)))), (.ro, (.list 63 (.cons (.cons (.int .i64) (.cons (.int .i64) (.cons (.int .i64) (.int .i64)))) (.cons (.int .i64) (.int .i64))))), (.ro, (.cons (.int .i64) (.int .i64)))] [(.list 43 (.cons (.int .i64) (.int .i64)))] (a0, a1, a2, ()))
noncomputable def f51_g (K : Nat) (a0 : Int × Int × Int) (a1 : List ((Int × Int × Int × Int) × Int × Int)) (a2 : Int × Int) (I3 : Int → (List (Int × Int)) → Option (List (Int × Int))) : Option (List (Int × Int)) :=
  I3 (0 : Int) []
noncomputable def f51G (K : Nat) (a0 : Int × Int × Int) (a1 : List ((Int × Int × Int × Int) × Int × Int)) (a2 : Int × Int) : Option (List (Int × Int)) :=
  f51_g K a0 a1 a2 (fun d0 d1 => f51_l3 K a0 a1 a2 K d0 d1)
noncomputable def f51M (K : Nat) : Mdl := ⟨[(.ro, (.cons (.int .i64) (.cons (.int .i64) (.int .i64)))), (.ro, (.list 63 (.cons (.cons (.int .i64) (.cons (.int .i64) (.cons (.int .i64) (.int .i64)))) (.cons (.int .i64) (.int .i64))))), (.ro, (.cons (.int .i64) (.int .i64)))], [(.list 43 (.cons (.int .i64) (.int .i64)))], fun x => f51G K x.1 x.2.1 x.2.2.1⟩
/-! impl.orbitsOf -/
noncomputable def f43C : Code := codeOf Try.f43
noncomputable def f43E (K : Nat) : Env := ⟨[(45, f45M K), (48, f48M K), (49, f49M K), (50, f50M K), (51, f51M K)], tys, eqs, mts, K, [0, 1, 2, 4, 5, 6, 7, 9, 10, 12, 19, 20, 21, 22, 31, 36, 37, 38, 39], [], []⟩
noncomputable def f43_b22 (K : Nat) (a0 : Int × Int × Int) (a1 : List ((Int × Int × Int × Int) × Int × Int)) (q17 : Int) (q18 : List (List (Int × Int))) (q19 : List Int) (y3 : List (Int × Int)) (y20 : Int) (y21 : List (Int × Int)) (L16 : Int → (List (List (Int × Int))) → (List Int) → Option ((List (List (Int × Int))) × List Int)) (L22 : Int → (List Int) → Option ((List (List (Int × Int))) × List Int)) (q23 : Int) (q24 : List Int) : Option ((List (List (Int × Int))) × List Int) :=
  (bif (decide (q23 < (y21.length : Int))) then (bif (decide (0 ≤ q23) && decide (q23 < (y21.length : Int))) then (f45G K a0 (y21.getD ((0 : Int) + q23).toNat ((0 : Int), (0 : Int)))).bind fun y25 => (bif (decide (0 ≤ y25) && decide (y25 < (q24.length : Int))) then L22 (w (q23 + (1 : Int))) (q24.set ((0 : Int) + y25).toNat (q18.length : Int)) else none) else none) else (bif (Nat.ble (q18.length + [y21].length) (lim 24)) then L16 (w (q17 + (1 : Int))) (q18 ++ [y21]) q24 else none))
noncomputable def f43_l22 (K : Nat) (a0 : Int × Int × Int) (a1 : List ((Int × Int × Int × Int) × Int × Int)) (q17 : Int) (q18 : List (List (Int × Int))) (q19 : List Int) (y3 : List (Int × Int)) (y20 : Int) (y21 : List (Int × Int)) (L16 : Int → (List (List (Int × Int))) → (List Int) → Option ((List (List (Int × Int))) × List Int)) (n : Nat) (q23 : Int) (q24 : List Int) : Option ((List (List (Int × Int))) × List Int) :=
  iter (X := Int × List Int) (fun L x => (fun L22 => f43_b22 K a0 a1 q17 q18 q19 y3 y20 y21 L16 L22 x.1 x.2) (fun v0 v1 => L (v0, v1))) n (q23, q24)
noncomputable def f43_fr22 (a0 : Int × Int × Int) (a1 : List ((Int × Int × Int × Int) × Int × Int)) (q17 : Int) (q18 : List (List (Int × Int))) (q19 : List Int) (y3 : List (Int × Int)) (y20 : Int) (y21 : List (Int × Int)) (q23 : Int) (q24 : List Int) : Fr := ⟨57, [(0, .v true [.int .i64 a0.1, .int .i64 a0.2.1, .int .i64 a0.2.2]), (1, .v false [.row 0]), (2, .v false [.box 0 0]), (4, .v false [.row 1]), (5, .v false [.row 2]), (6, .v false [.row 3]), (7, .v false [.row 4]), (9, .v false [.box 1 0]), (10, .v false [.row 5]), (19, .v false [.row 6]), (20, .v false [.int .i64 (y3.length : Int)]), (21, .v false [.int .i64 q17]), (22, .v false [.bool (decide (q17 < (y3.length : Int)))]), (31, .v false [.bool (decide ((q19.getD ((0 : Int) + y20).toNat (0 : Int)) ≥ (0 : Int)))]), (36, .v false [.row 5]), (37, .v false [.int .i64 (y21.length : Int)]), (38, .v false [.int .i64 q23])], [some ⟨true, [.int .i64 a0.1, .int .i64 a0.2.1, .int .i64 a0.2.2]⟩, some ⟨true, [.int .i64 ((y3.getD ((0 : Int) + q17).toNat ((0 : Int), (0 : Int))).1), .int .i64 ((y3.getD ((0 : Int) + q17).toNat ((0 : Int), (0 : Int))).2)]⟩], [some ⟨63, (.cons (.cons (.int .i64) (.cons (.int .i64) (.cons (.int .i64) (.int .i64)))) (.cons (.int .i64) (.int .i64))), a1, .ro⟩, some ⟨84, (.list 43 (.cons (.int .i64) (.int .i64))), [], .own⟩, some ⟨2, (.int .i64), [], .own⟩, some ⟨84, (.list 43 (.cons (.int .i64) (.int .i64))), q18, .own⟩, some ⟨2, (.int .i64), q24, .own⟩, some ⟨43, (.cons (.int .i64) (.int .i64)), y21, .own⟩, some ⟨43, (.cons (.int .i64) (.int .i64)), y3, .own⟩]⟩
noncomputable def f43_b16 (K : Nat) (a0 : Int × Int × Int) (a1 : List ((Int × Int × Int × Int) × Int × Int)) (y3 : List (Int × Int)) (I22 : Int → (List (List (Int × Int))) → (List Int) → Int → (List (Int × Int)) → Int → (List Int) → Option ((List (List (Int × Int))) × List Int)) (L16 : Int → (List (List (Int × Int))) → (List Int) → Option ((List (List (Int × Int))) × List Int)) (q17 : Int) (q18 : List (List (Int × Int))) (q19 : List Int) : Option ((List (List (Int × Int))) × List Int) :=
  (bif (decide (q17 < (y3.length : Int))) then (bif (decide (0 ≤ q17) && decide (q17 < (y3.length : Int))) then (f45G K a0 (y3.getD ((0 : Int) + q17).toNat ((0 : Int), (0 : Int)))).bind fun y20 => (bif (decide (0 ≤ y20) && decide (y20 < (q19.length : Int))) then (bif (decide ((q19.getD ((0 : Int) + y20).toNat (0 : Int)) ≥ (0 : Int))) then L16 (w (q17 + (1 : Int))) q18 q19 else (f51G K a0 a1 (y3.getD ((0 : Int) + q17).toNat ((0 : Int), (0 : Int)))).bind fun y21 => I22 q17 q18 q19 y20 y21 (0 : Int) q19) else none) else none) else some (q18, q19))
noncomputable def f43_l16 (K : Nat) (a0 : Int × Int × Int) (a1 : List ((Int × Int × Int × Int) × Int × Int)) (y3 : List (Int × Int)) (n : Nat) (q17 : Int) (q18 : List (List (Int × Int))) (q19 : List Int) : Option ((List (List (Int × Int))) × List Int) :=
  iter (X := Int × List (List (Int × Int)) × List Int) (fun L x => (fun L16 => f43_b16 K a0 a1 y3 (fun c0 c1 c2 c3 c4 d0 d1 => f43_l22 K a0 a1 c0 c1 c2 y3 c3 c4 L16 K d0 d1) L16 x.1 x.2.1 x.2.2) (fun v0 v1 v2 => L (v0, v1, v2))) n (q17, q18, q19)
noncomputable def f43_fr16 (a0 : Int × Int × Int) (a1 : List ((Int × Int × Int × Int) × Int × Int)) (y3 : List (Int × Int)) (q17 : Int) (q18 : List (List (Int × Int))) (q19 : List Int) : Fr := ⟨57, [(0, .v true [.int .i64 a0.1, .int .i64 a0.2.1, .int .i64 a0.2.2]), (1, .v false [.row 0]), (2, .v false [.box 0 0]), (4, .v false [.row 1]), (5, .v false [.row 2]), (6, .v false [.row 3]), (7, .v false [.row 4]), (19, .v false [.row 5]), (20, .v false [.int .i64 (y3.length : Int)]), (21, .v false [.int .i64 q17])], [some ⟨true, [.int .i64 a0.1, .int .i64 a0.2.1, .int .i64 a0.2.2]⟩], [some ⟨63, (.cons (.cons (.int .i64) (.cons (.int .i64) (.cons (.int .i64) (.int .i64)))) (.cons (.int .i64) (.int .i64))), a1, .ro⟩, some ⟨84, (.list 43 (.cons (.int .i64) (.int .i64))), [], .own⟩, some ⟨2, (.int .i64), [], .own⟩, some ⟨84, (.list 43 (.cons (.int .i64) (.int .i64))), q18, .own⟩, some ⟨2, (.int .i64), q19, .own⟩, some ⟨43, (.cons (.int .i64) (.int .i64)), y3, .own⟩]⟩
noncomputable def f43_k16 (K : Nat) (a0 : Int × Int × Int) (a1 : List ((Int × Int × Int × Int) × Int × Int)) (lr : LR ((List (List (Int × Int))) × List Int)) : Ex → Fr → Option ((List (List (Int × Int))) × List Int) :=
  contC (f43E K) 1 lr f43C [1, 1, 0, 1, 0] (finK (f43E K) Try.f43 [(.ro, (.cons (.int .i64) (.cons (.int .i64) (.int .i64)))), (.ro, (.list 63 (.cons (.cons (.int .i64) (.cons (.int .i64) (.cons (.int .i64) (.int .i64)))) (.cons (.int .i64) (.int .i64)))))] [(.list 84 (.list 43 (.cons (.int .i64) (.int .i64)))), (.list 2 (.int .i64))] (a0, a1, ()))
noncomputable def f43_k22 (K : Nat) (a0 : Int × Int × Int) (a1 : List ((Int × Int × Int × Int) × Int × Int)) (y3 : List (Int × Int)) (F16 : Fr → Option ((List (List (Int × Int))) × List Int)) (bq17 : Int) (bq18 : List (List (Int × Int))) (bq19 : List Int) (lr : LR ((List (List (Int × Int))) × List Int)) : Ex → Fr → Option ((List (List (Int × Int))) × List Int) :=
  contC (f43E K) 1 lr (selC f43C [1, 1, 0, 1, 0, 0]) [1, 1, 0, 0, 1, 1, 1, 0, 1, 0] (loopK 1 (f43_fr16 a0 a1 y3 bq17 bq18 bq19) F16 (f43_k16 K a0 a1 lr))
noncomputable def f43_g (K : Nat) (a0 : Int × Int × Int) (a1 : List ((Int × Int × Int × Int) × Int × Int)) (I16 : (List (Int × Int)) → Int → (List (List (Int × Int))) → (List Int) → Option ((List (List (Int × Int))) × List Int)) : Option ((List (List (Int × Int))) × List Int) :=
  (f49G K a0).bind fun y1 => (f48G K [(-1 : Int)] y1).bind fun y2 => (f50G K a0).bind fun y3 => I16 y3 (0 : Int) [] y2
noncomputable def f43G (K : Nat) (a0 : Int × Int × Int) (a1 : List ((Int × Int × Int × Int) × Int × Int)) : Option ((List (List (Int × Int))) × List Int) :=
  f43_g K a0 a1 (fun c0 d0 d1 d2 => f43_l16 K a0 a1 c0 K d0 d1 d2)
noncomputable def f43M (K : Nat) : Mdl := ⟨[(.ro, (.cons (.int .i64) (.cons (.int .i64) (.int .i64)))), (.ro, (.list 63 (.cons (.cons (.int .i64) (.cons (.int .i64) (.cons (.int .i64) (.int .i64)))) (.cons (.int .i64) (.int .i64)))))], [(.list 84 (.list 43 (.cons (.int .i64) (.int .i64)))), (.list 2 (.int .i64))], fun x => f43G K x.1 x.2.1⟩
/-! impl.conflictOf$1 -/
noncomputable def f44E (K : Nat) : Env := ⟨[(45, f45M K), (46, f46M K)], tys, eqs, mts, K, [0, 1, 2, 3, 4], [], []⟩
noncomputable def f44G (K : Nat) (a0 : (Int × Int) × Int) (a1 : List Int) (a2 : Int × Int × Int) : Option Int :=
  (f46G K a2 a0.1).bind fun y1 => (f45G K a2 y1).bind fun y2 => (bif (decide (0 ≤ y2) && decide (y2 < (a1.length : Int))) then some (a1.getD ((0 : Int) + y2).toNat (0 : Int)) else none)
noncomputable def f44M (K : Nat) : Mdl := ⟨[(.ro, (.cons (.cons (.int .i64) (.int .i64)) (.int .i64))), (.cap, (.list 2 (.int .i64))), (.cap, (.cons (.int .i64) (.cons (.int .i64) (.int .i64))))], [(.int .i64)], fun x => f44G K x.1 x.2.1 x.2.2.1⟩
/-! impl.conflictOf -/
noncomputable def f37C : Code := codeOf Try.f37
noncomputable def f37E (K : Nat) : Env := ⟨[(43, f43M K), (44, f44M K)], tys, eqs, mts, K, [0, 1, 2, 3, 6, 7, 8, 10, 11, 12, 13, 14, 15, 23, 24, 25, 26, 32, 33, 34, 35, 52], [], []⟩
noncomputable def f37_b12 (K : Nat) (a0 : Int × Int × Int) (a1 : List ((Int × Int × Int × Int) × Int × Int)) (a2 : List ((Int × Int) × Int)) (q11 : Int) (y1 : (List (List (Int × Int))) × List Int) (L10 : Int → Option (Int × Int × Bool)) (L12 : Int → Option (Int × Int × Bool)) (q13 : Int) : Option (Int × Int × Bool) :=
  (bif (decide (q13 < (((0 : Int) + q11) - (0 : Int)))) then (bif (decide (0 ≤ q13) && decide (q13 < (((0 : Int) + q11) - (0 : Int)))) then (bif ((!((a2.getD ((0 : Int) + q13).toNat (((0 : Int), (0 : Int)), (0 : Int))).2 != (a2.getD ((0 : Int) + q11).toNat (((0 : Int), (0 : Int)), (0 : Int))).2)) || true) then (bif ((!((a2.getD ((0 : Int) + q13).toNat (((0 : Int), (0 : Int)), (0 : Int))).2 != (a2.getD ((0 : Int) + q11).toNat (((0 : Int), (0 : Int)), (0 : Int))).2)) || true) then ((bif ((a2.getD ((0 : Int) + q13).toNat (((0 : Int), (0 : Int)), (0 : Int))).2 != (a2.getD ((0 : Int) + q11).toNat (((0 : Int), (0 : Int)), (0 : Int))).2) then f44G K (((a2.getD ((0 : Int) + q13).toNat (((0 : Int), (0 : Int)), (0 : Int))).1), (a2.getD ((0 : Int) + q13).toNat (((0 : Int), (0 : Int)), (0 : Int))).2) y1.2 a0 else some (0 : Int))).bind fun y14 => (bif ((!((a2.getD ((0 : Int) + q13).toNat (((0 : Int), (0 : Int)), (0 : Int))).2 != (a2.getD ((0 : Int) + q11).toNat (((0 : Int), (0 : Int)), (0 : Int))).2)) || true) then (bif ((!((a2.getD ((0 : Int) + q13).toNat (((0 : Int), (0 : Int)), (0 : Int))).2 != (a2.getD ((0 : Int) + q11).toNat (((0 : Int), (0 : Int)), (0 : Int))).2)) || true) then ((bif ((a2.getD ((0 : Int) + q13).toNat (((0 : Int), (0 : Int)), (0 : Int))).2 != (a2.getD ((0 : Int) + q11).toNat (((0 : Int), (0 : Int)), (0 : Int))).2) then f44G K (((a2.getD ((0 : Int) + q11).toNat (((0 : Int), (0 : Int)), (0 : Int))).1), (a2.getD ((0 : Int) + q11).toNat (((0 : Int), (0 : Int)), (0 : Int))).2) y1.2 a0 else some (0 : Int))).bind fun y15 => (bif ((!((a2.getD ((0 : Int) + q13).toNat (((0 : Int), (0 : Int)), (0 : Int))).2 != (a2.getD ((0 : Int) + q11).toNat (((0 : Int), (0 : Int)), (0 : Int))).2)) || true) then (bif (bif ((a2.getD ((0 : Int) + q13).toNat (((0 : Int), (0 : Int)), (0 : Int))).2 != (a2.getD ((0 : Int) + q11).toNat (((0 : Int), (0 : Int)), (0 : Int))).2) then (y14 == y15) else false) then some (q13, q11, true) else L12 (w (q13 + (1 : Int)))) else none) else none) else none) else none) else none) else none) else L10 (w (q11 + (1 : Int))))
noncomputable def f37_l12 (K : Nat) (a0 : Int × Int × Int) (a1 : List ((Int × Int × Int × Int) × Int × Int)) (a2 : List ((Int × Int) × Int)) (q11 : Int) (y1 : (List (List (Int × Int))) × List Int) (L10 : Int → Option (Int × Int × Bool)) (n : Nat) (q13 : Int) : Option (Int × Int × Bool) :=
  iter (X := Int) (fun L x => (fun L12 => f37_b12 K a0 a1 a2 q11 y1 L10 L12 x) (fun v0 => L v0)) n q13
noncomputable def f37_fr12 (a0 : Int × Int × Int) (a1 : List ((Int × Int × Int × Int) × Int × Int)) (a2 : List ((Int × Int) × Int)) (q11 : Int) (y1 : (List (List (Int × Int))) × List Int) (q13 : Int) : Fr := ⟨57, [(0, .v true [.int .i64 a0.1, .int .i64 a0.2.1, .int .i64 a0.2.2]), (1, .v false [.row 0]), (2, .v false [.row 1]), (3, .v false [.box 0 0]), (6, .v false [.int .i64 (0 : Int)]), (7, .v false [.int .i64 (0 : Int)]), (8, .v false [.bool false]), (10, .v false [.box 1 0]), (11, .v false [.fn 44 [1, 0]]), (12, .v false [.int .i64 q11]), (13, .v false [.box 2 0]), (23, .v false [.row 1]), (24, .v false [.int .i64 (a2.length : Int)]), (25, .v false [.int .i64 q11]), (26, .v false [.bool (decide (q11 < (a2.length : Int)))]), (32, .v false [.view 1 (0 : Int) ((0 : Int) + q11)]), (33, .v false [.int .i64 (((0 : Int) + q11) - (0 : Int))]), (34, .v false [.int .i64 q13])], [some ⟨true, [.int .i64 a0.1, .int .i64 a0.2.1, .int .i64 a0.2.2]⟩, some ⟨true, [.row 2]⟩, some ⟨true, [.int .i64 (((a2.getD ((0 : Int) + q11).toNat (((0 : Int), (0 : Int)), (0 : Int))).1).1), .int .i64 (((a2.getD ((0 : Int) + q11).toNat (((0 : Int), (0 : Int)), (0 : Int))).1).2), .int .i64 ((a2.getD ((0 : Int) + q11).toNat (((0 : Int), (0 : Int)), (0 : Int))).2)]⟩], [some ⟨63, (.cons (.cons (.int .i64) (.cons (.int .i64) (.cons (.int .i64) (.int .i64)))) (.cons (.int .i64) (.int .i64))), a1, .ro⟩, some ⟨45, (.cons (.cons (.int .i64) (.int .i64)) (.int .i64)), a2, .ro⟩, some ⟨2, (.int .i64), y1.2, .own⟩]⟩
noncomputable def f37_b10 (K : Nat) (a0 : Int × Int × Int) (a1 : List ((Int × Int × Int × Int) × Int × Int)) (a2 : List ((Int × Int) × Int)) (y1 : (List (List (Int × Int))) × List Int) (I12 : Int → Int → Option (Int × Int × Bool)) (L10 : Int → Option (Int × Int × Bool)) (q11 : Int) : Option (Int × Int × Bool) :=
  (bif (decide (q11 < (a2.length : Int))) then (bif (decide (0 ≤ q11) && decide (q11 < (a2.length : Int))) then (bif (decide (0 ≤ (0 : Int)) && decide ((0 : Int) ≤ q11) && decide (q11 ≤ (a2.length : Int))) then I12 q11 (0 : Int) else none) else none) else some ((0 : Int), (0 : Int), false))
noncomputable def f37_l10 (K : Nat) (a0 : Int × Int × Int) (a1 : List ((Int × Int × Int × Int) × Int × Int)) (a2 : List ((Int × Int) × Int)) (y1 : (List (List (Int × Int))) × List Int) (n : Nat) (q11 : Int) : Option (Int × Int × Bool) :=
  iter (X := Int) (fun L x => (fun L10 => f37_b10 K a0 a1 a2 y1 (fun c0 d0 => f37_l12 K a0 a1 a2 c0 y1 L10 K d0) L10 x) (fun v0 => L v0)) n q11
noncomputable def f37_fr10 (a0 : Int × Int × Int) (a1 : List ((Int × Int × Int × Int) × Int × Int)) (a2 : List ((Int × Int) × Int)) (y1 : (List (List (Int × Int))) × List Int) (q11 : Int) : Fr := ⟨57, [(0, .v true [.int .i64 a0.1, .int .i64 a0.2.1, .int .i64 a0.2.2]), (1, .v false [.row 0]), (2, .v false [.row 1]), (3, .v false [.box 0 0]), (6, .v false [.int .i64 (0 : Int)]), (7, .v false [.int .i64 (0 : Int)]), (8, .v false [.bool false]), (10, .v false [.box 1 0]), (11, .v false [.fn 44 [1, 0]]), (23, .v false [.row 1]), (24, .v false [.int .i64 (a2.length : Int)]), (25, .v false [.int .i64 q11])], [some ⟨true, [.int .i64 a0.1, .int .i64 a0.2.1, .int .i64 a0.2.2]⟩, some ⟨true, [.row 2]⟩], [some ⟨63, (.cons (.cons (.int .i64) (.cons (.int .i64) (.cons (.int .i64) (.int .i64)))) (.cons (.int .i64) (.int .i64))), a1, .ro⟩, some ⟨45, (.cons (.cons (.int .i64) (.int .i64)) (.int .i64)), a2, .ro⟩, some ⟨2, (.int .i64), y1.2, .own⟩]⟩
noncomputable def f37_k10 (K : Nat) (a0 : Int × Int × Int) (a1 : List ((Int × Int × Int × Int) × Int × Int)) (a2 : List ((Int × Int) × Int)) (lr : LR (Int × Int × Bool)) : Ex → Fr → Option (Int × Int × Bool) :=
  contC (f37E K) 2 lr f37C [1, 1, 1, 0, 1, 0] (finK (f37E K) Try.f37 [(.ro, (.cons (.int .i64) (.cons (.int .i64) (.int .i64)))), (.ro, (.list 63 (.cons (.cons (.int .i64) (.cons (.int .i64) (.cons (.int .i64) (.int .i64)))) (.cons (.int .i64) (.int .i64))))), (.ro, (.list 45 (.cons (.cons (.int .i64) (.int .i64)) (.int .i64))))] [(.int .i64), (.int .i64), .bool] (a0, a1, a2, ()))
noncomputable def f37_k12 (K : Nat) (a0 : Int × Int × Int) (a1 : List ((Int × Int × Int × Int) × Int × Int)) (a2 : List ((Int × Int) × Int)) (y1 : (List (List (Int × Int))) × List Int) (F10 : Fr → Option (Int × Int × Bool)) (bq11 : Int) (lr : LR (Int × Int × Bool)) : Ex → Fr → Option (Int × Int × Bool) :=
  contC (f37E K) 2 lr (selC f37C [1, 1, 1, 0, 1, 0, 0]) [1, 1, 0, 0, 1, 1, 0] (loopK 2 (f37_fr10 a0 a1 a2 y1 bq11) F10 (f37_k10 K a0 a1 a2 lr))
noncomputable def f37_g (K : Nat) (a0 : Int × Int × Int) (a1 : List ((Int × Int × Int × Int) × Int × Int)) (a2 : List ((Int × Int) × Int)) (I10 : ((List (List (Int × Int))) × List Int) → Int → Option (Int × Int × Bool)) : Option (Int × Int × Bool) :=
  (f43G K a0 a1).bind fun y1 => I10 y1 (0 : Int)
noncomputable def f37G (K : Nat) (a0 : Int × Int × Int) (a1 : List ((Int × Int × Int × Int) × Int × Int)) (a2 : List ((Int × Int) × Int)) : Option (Int × Int × Bool) :=
  f37_g K a0 a1 a2 (fun c0 d0 => f37_l10 K a0 a1 a2 c0 K d0)
noncomputable def f37M (K : Nat) : Mdl := ⟨[(.ro, (.cons (.int .i64) (.cons (.int .i64) (.int .i64)))), (.ro, (.list 63 (.cons (.cons (.int .i64) (.cons (.int .i64) (.cons (.int .i64) (.int .i64)))) (.cons (.int .i64) (.int .i64))))), (.ro, (.list 45 (.cons (.cons (.int .i64) (.int .i64)) (.int .i64))))], [(.int .i64), (.int .i64), .bool], fun x => f37G K x.1 x.2.1 x.2.2.1⟩
/-! impl.fittingLattices$1 -/
noncomputable def f36E (K : Nat) : Env := ⟨[(37, f37M K)], tys, eqs, mts, K, [0, 1, 2, 3, 4, 7], [], []⟩
noncomputable def f36G (K : Nat) (a0 : Int × Int × Int) (a1 : List ((Int × Int × Int × Int) × Int × Int)) (a2 : List ((Int × Int) × Int)) : Option Bool :=
  (f37G K a0 a1 a2).bind fun y1 => some y1.2.2
noncomputable def f36M (K : Nat) : Mdl := ⟨[(.ro, (.cons (.int .i64) (.cons (.int .i64) (.int .i64)))), (.cap, (.list 63 (.cons (.cons (.int .i64) (.cons (.int .i64) (.cons (.int .i64) (.int .i64)))) (.cons (.int .i64) (.int .i64))))), (.cap, (.list 45 (.cons (.cons (.int .i64) (.int .i64)) (.int .i64))))], [.bool], fun x => f36G K x.1 x.2.1 x.2.2.1⟩
/-! slices.IndexFunc[[]impl.Lattice,impl.Lattice] -/
noncomputable def f42C : Code := codeOf Try.f42
noncomputable def f42E (K : Nat) : Env := ⟨[], tys, eqs, mts, K, [0, 1, 4, 5, 7, 8, 9, 16], [], []⟩
noncomputable def f42_b3 (K : Nat) (a0 : List (Int × Int × Int)) (a1 : ((Int × Int × Int) → Option Bool)) (L3 : Int → Option Int) (q4 : Int) : Option Int :=
  (bif (decide (q4 < (a0.length : Int))) then (bif (decide (0 ≤ q4) && decide (q4 < (a0.length : Int))) then (a1 ((a0.getD ((0 : Int) + q4).toNat ((0 : Int), ((0 : Int), (0 : Int)))).1, ((a0.getD ((0 : Int) + q4).toNat ((0 : Int), ((0 : Int), (0 : Int)))).2))).bind fun y5 => (bif y5 then some q4 else L3 (w (q4 + (1 : Int)))) else none) else some (-1 : Int))
noncomputable def f42_l3 (K : Nat) (a0 : List (Int × Int × Int)) (a1 : ((Int × Int × Int) → Option Bool)) (n : Nat) (q4 : Int) : Option Int :=
  iter (X := Int) (fun L x => (fun L3 => f42_b3 K a0 a1 L3 x) (fun v0 => L v0)) n q4
noncomputable def f42_fr3 (a0 : List (Int × Int × Int)) (a1 : ((Int × Int × Int) → Option Bool)) (q4 : Int) : Fr := ⟨19, [(0, .v false [.row 0]), (1, .v false [.fv1 (.cons (.int .i64) (.cons (.int .i64) (.int .i64))) .bool a1]), (4, .v false [.int .i64 (0 : Int)]), (7, .v false [.int .i64 (a0.length : Int)]), (8, .v false [.int .i64 q4])], [], [some ⟨25, (.cons (.int .i64) (.cons (.int .i64) (.int .i64))), a0, .ro⟩]⟩
noncomputable def f42_k3 (K : Nat) (a0 : List (Int × Int × Int)) (a1 : ((Int × Int × Int) → Option Bool)) (lr : LR Int) : Ex → Fr → Option Int :=
  contC (f42E K) 1 lr f42C [1, 0, 1, 0] (finK (f42E K) Try.f42 [(.ro, (.list 25 (.cons (.int .i64) (.cons (.int .i64) (.int .i64))))), (.ro, (.fn1 (.cons (.int .i64) (.cons (.int .i64) (.int .i64))) .bool))] [(.int .i64)] (a0, a1, ()))
noncomputable def f42_g (K : Nat) (a0 : List (Int × Int × Int)) (a1 : ((Int × Int × Int) → Option Bool)) (I3 : Int → Option Int) : Option Int :=
  I3 (0 : Int)
noncomputable def f42G (K : Nat) (a0 : List (Int × Int × Int)) (a1 : ((Int × Int × Int) → Option Bool)) : Option Int :=
  f42_g K a0 a1 (fun d0 => f42_l3 K a0 a1 K d0)
noncomputable def f42M (K : Nat) : Mdl := ⟨[(.ro, (.list 25 (.cons (.int .i64) (.cons (.int .i64) (.int .i64))))), (.ro, (.fn1 (.cons (.int .i64) (.cons (.int .i64) (.int .i64))) .bool))], [(.int .i64)], fun x => f42G K x.1 x.2.1⟩
/-! slices.DeleteFunc[[]impl.Lattice,impl.Lattice] -/
noncomputable def f34C : Code := codeOf Try.f34
noncomputable def f34E (K : Nat) : Env := ⟨[(42, f42M K)], tys, eqs, mts, K, [0, 1, 4, 5, 6, 7, 12, 19, 29], [], []⟩
noncomputable def f34_b4 (K : Nat) (a1 : ((Int × Int × Int) → Option Bool)) (y1 : Int) (L4 : Int → Int → (List (Int × Int × Int)) → Option (List (Int × Int × Int))) (q5 : Int) (q6 : Int) (q7 : List (Int × Int × Int)) : Option (List (Int × Int × Int)) :=
  (bif (decide (q6 < (q7.length : Int))) then (bif (decide (0 ≤ q6) && decide (q6 < (q7.length : Int))) then (a1 ((q7.getD ((0 : Int) + q6).toNat ((0 : Int), ((0 : Int), (0 : Int)))).1, ((q7.getD ((0 : Int) + q6).toNat ((0 : Int), ((0 : Int), (0 : Int)))).2))).bind fun y8 => (bif (!y8) then (bif (decide (0 ≤ q5) && decide (q5 < (q7.length : Int))) then L4 (w (q5 + (1 : Int))) (w (q6 + (1 : Int))) (q7.set ((0 : Int) + q5).toNat ((q7.getD ((0 : Int) + q6).toNat ((0 : Int), ((0 : Int), (0 : Int)))).1, ((q7.getD ((0 : Int) + q6).toNat ((0 : Int), ((0 : Int), (0 : Int)))).2))) else none) else L4 q5 (w (q6 + (1 : Int))) q7) else none) else (bif (decide (0 ≤ q5) && decide (q5 ≤ (q7.length : Int)) && decide ((q7.length : Int) ≤ (q7.length : Int))) then (bif (decide (0 ≤ (0 : Int)) && decide ((0 : Int) ≤ q5) && decide (q5 ≤ ((clr q7 ((0 : Int) + q5).toNat (((0 : Int) + q5) + (((0 : Int) + (q7.length : Int)) - ((0 : Int) + q5))).toNat ((0 : Int), ((0 : Int), (0 : Int)))).length : Int))) then some ((clr q7 ((0 : Int) + q5).toNat (((0 : Int) + q5) + (((0 : Int) + (q7.length : Int)) - ((0 : Int) + q5))).toNat ((0 : Int), ((0 : Int), (0 : Int)))).take ((0 : Int) + q5).toNat) else none) else none))
noncomputable def f34_l4 (K : Nat) (a1 : ((Int × Int × Int) → Option Bool)) (y1 : Int) (n : Nat) (q5 : Int) (q6 : Int) (q7 : List (Int × Int × Int)) : Option (List (Int × Int × Int)) :=
  iter (X := Int × Int × List (Int × Int × Int)) (fun L x => (fun L4 => f34_b4 K a1 y1 L4 x.1 x.2.1 x.2.2) (fun v0 v1 v2 => L (v0, v1, v2))) n (q5, q6, q7)
noncomputable def f34_fr4 (a1 : ((Int × Int × Int) → Option Bool)) (y1 : Int) (q5 : Int) (q6 : Int) (q7 : List (Int × Int × Int)) : Fr := ⟨42, [(0, .v false [.row 0]), (1, .v false [.fv1 (.cons (.int .i64) (.cons (.int .i64) (.int .i64))) .bool a1]), (4, .v false [.row 1]), (5, .v false [.int .i64 q5]), (6, .v false [.int .i64 q6]), (12, .v false [.bool (y1 == (-1 : Int))])], [], [some ⟨25, (.cons (.int .i64) (.cons (.int .i64) (.int .i64))), q7, .own⟩, some ⟨25, (.cons (.int .i64) (.cons (.int .i64) (.int .i64))), [], .own⟩]⟩
noncomputable def f34_k4 (K : Nat) (a0 : List (Int × Int × Int)) (a1 : ((Int × Int × Int) → Option Bool)) (lr : LR (List (Int × Int × Int))) : Ex → Fr → Option (List (Int × Int × Int)) :=
  contC (f34E K) 1 lr f34C [1, 1, 1, 0, 1, 0] (finK (f34E K) Try.f34 [(.mv, (.list 25 (.cons (.int .i64) (.cons (.int .i64) (.int .i64))))), (.ro, (.fn1 (.cons (.int .i64) (.cons (.int .i64) (.int .i64))) .bool))] [(.list 25 (.cons (.int .i64) (.cons (.int .i64) (.int .i64))))] (a0, a1, ()))
noncomputable def f34_g (K : Nat) (a0 : List (Int × Int × Int)) (a1 : ((Int × Int × Int) → Option Bool)) (I4 : Int → Int → Int → (List (Int × Int × Int)) → Option (List (Int × Int × Int))) : Option (List (Int × Int × Int)) :=
  (f42G K a0 a1).bind fun y1 => (bif (y1 == (-1 : Int)) then some a0 else I4 y1 y1 (w (y1 + (1 : Int))) a0)
noncomputable def f34G (K : Nat) (a0 : List (Int × Int × Int)) (a1 : ((Int × Int × Int) → Option Bool)) : Option (List (Int × Int × Int)) :=
  f34_g K a0 a1 (fun c0 d0 d1 d2 => f34_l4 K a1 c0 K d0 d1 d2)
noncomputable def f34M (K : Nat) : Mdl := ⟨[(.mv, (.list 25 (.cons (.int .i64) (.cons (.int .i64) (.int .i64))))), (.ro, (.fn1 (.cons (.int .i64) (.cons (.int .i64) (.int .i64))) .bool))], [(.list 25 (.cons (.int .i64) (.cons (.int .i64) (.int .i64))))], fun x => f34G K x.1 x.2.1⟩
/-! impl.fittingLattices -/
noncomputable def f21E (K : Nat) : Env := ⟨[(33, f33M K), (34, f34M K), (35, f35M K), (36, f36M K)], tys, eqs, mts, K, [0, 1, 2, 4, 5], [], []⟩
noncomputable def f21G (K : Nat) (a0 : List ((Int × Int) × Int)) (a1 : Int) : Option (List (Int × Int × Int)) :=
  (f33G K).bind fun y1 => (f35G K a1).bind fun y2 => (f34G K y2 (fun z3 => f36G K z3 [(y1, (0 : Int), (0 : Int))] a0)).bind fun y4 => some y4
noncomputable def f21M (K : Nat) : Mdl := ⟨[(.ro, (.list 45 (.cons (.cons (.int .i64) (.int .i64)) (.int .i64)))), (.ro, (.int .i64))], [(.list 25 (.cons (.int .i64) (.cons (.int .i64) (.int .i64))))], fun x => f21G K x.1 x.2.1⟩
/-! impl.LeastFitting -/
noncomputable def f8C : Code := codeOf Try.f8
noncomputable def f8E (K : Nat) : Env := ⟨[(20, f20M K), (21, f21M K)], tys, eqs, mts, K, [0, 2, 3, 4, 5, 8, 11, 19], [], []⟩
noncomputable def f8_b4 (K : Nat) (a0 : List ((Int × Int) × Int)) (y1 : Bool) (L4 : Int → Option ((Int × Int × Int) × Int)) (q5 : Int) : Option ((Int × Int × Int) × Int) :=
  (bif (decide (q5 ≤ (64 : Int))) then (f21G K a0 q5).bind fun y6 => (bif (decide ((y6.length : Int) > (0 : Int))) then (bif (decide (0 ≤ (0 : Int)) && decide ((0 : Int) < (y6.length : Int))) then some (((y6.getD ((0 : Int) + (0 : Int)).toNat ((0 : Int), ((0 : Int), (0 : Int)))).1, ((y6.getD ((0 : Int) + (0 : Int)).toNat ((0 : Int), ((0 : Int), (0 : Int)))).2)), (0 : Int)) else none) else L4 (w (q5 + (1 : Int)))) else some (((0 : Int), (0 : Int), (0 : Int)), (4 : Int)))
noncomputable def f8_l4 (K : Nat) (a0 : List ((Int × Int) × Int)) (y1 : Bool) (n : Nat) (q5 : Int) : Option ((Int × Int × Int) × Int) :=
  iter (X := Int) (fun L x => (fun L4 => f8_b4 K a0 y1 L4 x) (fun v0 => L v0)) n q5
noncomputable def f8_fr4 (a0 : List ((Int × Int) × Int)) (y1 : Bool) (q5 : Int) : Fr := ⟨24, [(0, .v false [.row 0]), (2, .v false [.box 0 0]), (3, .v false [.int .i64 (0 : Int)]), (4, .v false [.int .i64 q5]), (8, .v false [.bool (!y1)])], [some ⟨true, [.int .i64 (0 : Int), .int .i64 (0 : Int), .int .i64 (0 : Int)]⟩], [some ⟨45, (.cons (.cons (.int .i64) (.int .i64)) (.int .i64)), a0, .ro⟩]⟩
noncomputable def f8_k4 (K : Nat) (a0 : List ((Int × Int) × Int)) (lr : LR ((Int × Int × Int) × Int)) : Ex → Fr → Option ((Int × Int × Int) × Int) :=
  contC (f8E K) 1 lr f8C [1, 1, 0, 1, 0] (finK (f8E K) Try.f8 [(.ro, (.list 45 (.cons (.cons (.int .i64) (.int .i64)) (.int .i64))))] [(.cons (.int .i64) (.cons (.int .i64) (.int .i64))), (.int .i64)] (a0, ()))
noncomputable def f8_g (K : Nat) (a0 : List ((Int × Int) × Int)) (I4 : Bool → Int → Option ((Int × Int × Int) × Int)) : Option ((Int × Int × Int) × Int) :=
  (f20G K a0).bind fun y1 => (bif (!y1) then some (((0 : Int), (0 : Int), (0 : Int)), (2 : Int)) else I4 y1 (1 : Int))
noncomputable def f8G (K : Nat) (a0 : List ((Int × Int) × Int)) : Option ((Int × Int × Int) × Int) :=
  f8_g K a0 (fun c0 d0 => f8_l4 K a0 c0 K d0)
noncomputable def f8M (K : Nat) : Mdl := ⟨[(.ro, (.list 45 (.cons (.cons (.int .i64) (.int .i64)) (.int .i64))))], [(.cons (.int .i64) (.cons (.int .i64) (.int .i64))), (.int .i64)], fun x => f8G K x.1⟩
/-! laws.eqLattice -/
noncomputable def f9E (K : Nat) : Env := ⟨[], tys, eqs, mts, K, [0, 1, 2, 3, 4, 9, 14, 19], [], []⟩
noncomputable def f9G (K : Nat) (a0 : Int × Int × Int) (a1 : Int × Int × Int) : Option Bool :=
  (bif (a0.1 != a1.1) then some false else (bif (a0.2.1 != a1.2.1) then some false else (bif (a0.2.2 != a1.2.2) then some false else some true)))
noncomputable def f9M (K : Nat) : Mdl := ⟨[(.ro, (.cons (.int .i64) (.cons (.int .i64) (.int .i64)))), (.ro, (.cons (.int .i64) (.cons (.int .i64) (.int .i64))))], [.bool], fun x => f9G K x.1 x.2.1⟩
/-! laws.eqVec -/
noncomputable def f38E (K : Nat) : Env := ⟨[], tys, eqs, mts, K, [0, 1, 2, 3, 4, 9, 14], [], []⟩
noncomputable def f38G (K : Nat) (a0 : Int × Int) (a1 : Int × Int) : Option Bool :=
  (bif (a0.1 != a1.1) then some false else (bif (a0.2 != a1.2) then some false else some true))
noncomputable def f38M (K : Nat) : Mdl := ⟨[(.ro, (.cons (.int .i64) (.int .i64))), (.ro, (.cons (.int .i64) (.int .i64)))], [.bool], fun x => f38G K x.1 x.2.1⟩
/-! laws.eqMark -/
noncomputable def f22E (K : Nat) : Env := ⟨[(38, f38M K)], tys, eqs, mts, K, [0, 1, 2, 3, 4, 10, 15], [], []⟩
noncomputable def f22G (K : Nat) (a0 : (Int × Int) × Int) (a1 : (Int × Int) × Int) : Option Bool :=
  (f38G K a0.1 a1.1).bind fun y1 => (bif (!y1) then some false else (bif (a0.2 != a1.2) then some false else some true))
noncomputable def f22M (K : Nat) : Mdl := ⟨[(.ro, (.cons (.cons (.int .i64) (.int .i64)) (.int .i64))), (.ro, (.cons (.cons (.int .i64) (.int .i64)) (.int .i64)))], [.bool], fun x => f22G K x.1 x.2.1⟩
/-! laws.eqMarkS -/
noncomputable def f10C : Code := codeOf Try.f10
noncomputable def f10E (K : Nat) : Env := ⟨[(22, f22M K)], tys, eqs, mts, K, [0, 1, 4, 5, 10, 14, 26], [], []⟩
noncomputable def f10_b3 (K : Nat) (a0 : List ((Int × Int) × Int)) (a1 : List ((Int × Int) × Int)) (L3 : Int → Option Bool) (q4 : Int) : Option Bool :=
  (bif (decide (q4 < (a0.length : Int))) then (bif (decide (0 ≤ q4) && decide (q4 < (a0.length : Int))) then (bif (decide (0 ≤ q4) && decide (q4 < (a1.length : Int))) then (f22G K (((a0.getD ((0 : Int) + q4).toNat (((0 : Int), (0 : Int)), (0 : Int))).1), (a0.getD ((0 : Int) + q4).toNat (((0 : Int), (0 : Int)), (0 : Int))).2) (((a1.getD ((0 : Int) + q4).toNat (((0 : Int), (0 : Int)), (0 : Int))).1), (a1.getD ((0 : Int) + q4).toNat (((0 : Int), (0 : Int)), (0 : Int))).2)).bind fun y5 => (bif (!y5) then some false else L3 (w (q4 + (1 : Int)))) else none) else none) else some true)
noncomputable def f10_l3 (K : Nat) (a0 : List ((Int × Int) × Int)) (a1 : List ((Int × Int) × Int)) (n : Nat) (q4 : Int) : Option Bool :=
  iter (X := Int) (fun L x => (fun L3 => f10_b3 K a0 a1 L3 x) (fun v0 => L v0)) n q4
noncomputable def f10_fr3 (a0 : List ((Int × Int) × Int)) (a1 : List ((Int × Int) × Int)) (q4 : Int) : Fr := ⟨27, [(0, .v false [.row 0]), (1, .v false [.row 1]), (4, .v false [.bool false]), (5, .v false [.int .i64 q4]), (10, .v false [.bool ((a0.length : Int) != (a1.length : Int))])], [], [some ⟨45, (.cons (.cons (.int .i64) (.int .i64)) (.int .i64)), a0, .ro⟩, some ⟨45, (.cons (.cons (.int .i64) (.int .i64)) (.int .i64)), a1, .ro⟩]⟩
noncomputable def f10_k3 (K : Nat) (a0 : List ((Int × Int) × Int)) (a1 : List ((Int × Int) × Int)) (lr : LR Bool) : Ex → Fr → Option Bool :=
  contC (f10E K) 2 lr f10C [1, 1, 0, 1, 0] (finK (f10E K) Try.f10 [(.ro, (.list 45 (.cons (.cons (.int .i64) (.int .i64)) (.int .i64)))), (.ro, (.list 45 (.cons (.cons (.int .i64) (.int .i64)) (.int .i64))))] [.bool] (a0, a1, ()))
noncomputable def f10_g (K : Nat) (a0 : List ((Int × Int) × Int)) (a1 : List ((Int × Int) × Int)) (I3 : Int → Option Bool) : Option Bool :=
  (bif ((a0.length : Int) != (a1.length : Int)) then some false else I3 (0 : Int))
noncomputable def f10G (K : Nat) (a0 : List ((Int × Int) × Int)) (a1 : List ((Int × Int) × Int)) : Option Bool :=
  f10_g K a0 a1 (fun d0 => f10_l3 K a0 a1 K d0)
noncomputable def f10M (K : Nat) : Mdl := ⟨[(.ro, (.list 45 (.cons (.cons (.int .i64) (.int .i64)) (.int .i64)))), (.ro, (.list 45 (.cons (.cons (.int .i64) (.int .i64)) (.int .i64))))], [.bool], fun x => f10G K x.1 x.2.1⟩
/-! laws.FnExactLeastFitting -/
noncomputable def f3E (K : Nat) : Env := ⟨[(5, f5M K), (6, f6M K), (7, f7M K), (8, f8M K), (9, f9M K), (10, f10M K)], tys, eqs, mts, K, [0, 2, 3, 4, 5, 6, 7, 8, 13, 35, 40], [], []⟩
noncomputable def f3G (K : Nat) (a0 : List ((Int × Int) × Int)) : Option Bool :=
  (f5G K a0 (1048576 : Int)).bind fun y1 => (bif (decide (y1 < (0 : Int))) then some true else (f7G K a0).bind fun y2 => (f6G K y2).bind fun y3 => (f7G K a0).bind fun y4 => (f8G K y4).bind fun y5 => (f9G K y5.1 y3.1).bind fun y6 => (bif ((!(!(!y6))) || true) then (bif ((!(!(!y6))) || true) then (bif ((!(!(!y6))) || true) then (bif (bif (!y6) then true else (y5.2 != y3.2)) then some false else (f7G K a0).bind fun y7 => (f10G K y4 y7).bind fun y8 => (bif (!y8) then some false else some true)) else none) else none) else none))
noncomputable def f3M (K : Nat) : Mdl := ⟨[(.ro, (.list 49 (.cons (.cons (.int .i64) (.int .i64)) (.int .i64))))], [.bool], fun x => f3G K x.1⟩
/-! spec.FittingLattices -/
noncomputable def f11E (K : Nat) : Env := ⟨[(17, f17M K), (18, f18M K), (23, f23M K)], tys, eqs, mts, K, [0, 1, 4, 5, 13], [], []⟩
noncomputable def f11G (K : Nat) (a0 : List ((Int × Int) × Int)) (a1 : Int) : Option ((List (Int × Int × Int)) × Int) :=
  (f17G K a0).bind fun y1 => (bif ((!(!(!y1))) || true) then ((bif (!(!y1)) then f23G K a1 (1 : Int) (64 : Int) else some false)).bind fun y2 => (bif ((!(!(!y1))) || true) then (bif (bif (!y1) then true else (!y2)) then some ([], (2 : Int)) else (f18G K a0 a1).bind fun y3 => some (y3, (0 : Int))) else none) else none)
noncomputable def f11M (K : Nat) : Mdl := ⟨[(.ro, (.list 45 (.cons (.cons (.int .i64) (.int .i64)) (.int .i64)))), (.ro, (.int .i64))], [(.list 25 (.cons (.int .i64) (.cons (.int .i64) (.int .i64)))), (.int .i64)], fun x => f11G K x.1 x.2.1⟩
/-! impl.FittingLattices -/
noncomputable def f12E (K : Nat) : Env := ⟨[(20, f20M K), (21, f21M K), (24, f24M K)], tys, eqs, mts, K, [0, 1, 4, 5, 13], [], []⟩
noncomputable def f12G (K : Nat) (a0 : List ((Int × Int) × Int)) (a1 : Int) : Option ((List (Int × Int × Int)) × Int) :=
  (f20G K a0).bind fun y1 => (bif ((!(!(!y1))) || true) then ((bif (!(!y1)) then f24G K a1 (1 : Int) (64 : Int) else some false)).bind fun y2 => (bif ((!(!(!y1))) || true) then (bif (bif (!y1) then true else (!y2)) then some ([], (2 : Int)) else (f21G K a0 a1).bind fun y3 => some (y3, (0 : Int))) else none) else none)
noncomputable def f12M (K : Nat) : Mdl := ⟨[(.ro, (.list 45 (.cons (.cons (.int .i64) (.int .i64)) (.int .i64)))), (.ro, (.int .i64))], [(.list 25 (.cons (.int .i64) (.cons (.int .i64) (.int .i64)))), (.int .i64)], fun x => f12G K x.1 x.2.1⟩
/-! laws.eqLatticeS -/
noncomputable def f13C : Code := codeOf Try.f13
noncomputable def f13E (K : Nat) : Env := ⟨[(9, f9M K)], tys, eqs, mts, K, [0, 1, 4, 5, 10, 14, 26], [], []⟩
noncomputable def f13_b3 (K : Nat) (a0 : List (Int × Int × Int)) (a1 : List (Int × Int × Int)) (L3 : Int → Option Bool) (q4 : Int) : Option Bool :=
  (bif (decide (q4 < (a0.length : Int))) then (bif (decide (0 ≤ q4) && decide (q4 < (a0.length : Int))) then (bif (decide (0 ≤ q4) && decide (q4 < (a1.length : Int))) then (f9G K ((a0.getD ((0 : Int) + q4).toNat ((0 : Int), ((0 : Int), (0 : Int)))).1, ((a0.getD ((0 : Int) + q4).toNat ((0 : Int), ((0 : Int), (0 : Int)))).2)) ((a1.getD ((0 : Int) + q4).toNat ((0 : Int), ((0 : Int), (0 : Int)))).1, ((a1.getD ((0 : Int) + q4).toNat ((0 : Int), ((0 : Int), (0 : Int)))).2))).bind fun y5 => (bif (!y5) then some false else L3 (w (q4 + (1 : Int)))) else none) else none) else some true)
noncomputable def f13_l3 (K : Nat) (a0 : List (Int × Int × Int)) (a1 : List (Int × Int × Int)) (n : Nat) (q4 : Int) : Option Bool :=
  iter (X := Int) (fun L x => (fun L3 => f13_b3 K a0 a1 L3 x) (fun v0 => L v0)) n q4
noncomputable def f13_fr3 (a0 : List (Int × Int × Int)) (a1 : List (Int × Int × Int)) (q4 : Int) : Fr := ⟨27, [(0, .v false [.row 0]), (1, .v false [.row 1]), (4, .v false [.bool false]), (5, .v false [.int .i64 q4]), (10, .v false [.bool ((a0.length : Int) != (a1.length : Int))])], [], [some ⟨25, (.cons (.int .i64) (.cons (.int .i64) (.int .i64))), a0, .ro⟩, some ⟨25, (.cons (.int .i64) (.cons (.int .i64) (.int .i64))), a1, .ro⟩]⟩
noncomputable def f13_k3 (K : Nat) (a0 : List (Int × Int × Int)) (a1 : List (Int × Int × Int)) (lr : LR Bool) : Ex → Fr → Option Bool :=
  contC (f13E K) 2 lr f13C [1, 1, 0, 1, 0] (finK (f13E K) Try.f13 [(.ro, (.list 25 (.cons (.int .i64) (.cons (.int .i64) (.int .i64))))), (.ro, (.list 25 (.cons (.int .i64) (.cons (.int .i64) (.int .i64)))))] [.bool] (a0, a1, ()))
noncomputable def f13_g (K : Nat) (a0 : List (Int × Int × Int)) (a1 : List (Int × Int × Int)) (I3 : Int → Option Bool) : Option Bool :=
  (bif ((a0.length : Int) != (a1.length : Int)) then some false else I3 (0 : Int))
noncomputable def f13G (K : Nat) (a0 : List (Int × Int × Int)) (a1 : List (Int × Int × Int)) : Option Bool :=
  f13_g K a0 a1 (fun d0 => f13_l3 K a0 a1 K d0)
noncomputable def f13M (K : Nat) : Mdl := ⟨[(.ro, (.list 25 (.cons (.int .i64) (.cons (.int .i64) (.int .i64))))), (.ro, (.list 25 (.cons (.int .i64) (.cons (.int .i64) (.int .i64)))))], [.bool], fun x => f13G K x.1 x.2.1⟩
/-! laws.markMarkS -/
noncomputable def f14C : Code := codeOf Try.f14
noncomputable def f14E (K : Nat) : Env := ⟨[], tys, eqs, mts, K, [0, 1, 4, 5, 9], [], []⟩
noncomputable def f14_b2 (K : Nat) (L2 : Int → Int → (List ((Int × Int) × Int)) → Option ((List ((Int × Int) × Int)) × Int)) (q3 : Int) (q4 : Int) (q5 : List ((Int × Int) × Int)) : Option ((List ((Int × Int) × Int)) × Int) :=
  (bif (decide (q4 < (q5.length : Int))) then (bif (decide (0 ≤ q4) && decide (q4 < (q5.length : Int))) then (bif (decide (0 ≤ q4) && decide (q4 < ((q5.set ((0 : Int) + q4).toNat ((q3, ((q5.getD ((0 : Int) + q4).toNat (((0 : Int), (0 : Int)), (0 : Int))).1).2), (q5.getD ((0 : Int) + q4).toNat (((0 : Int), (0 : Int)), (0 : Int))).2)).length : Int))) then (bif (decide (0 ≤ q4) && decide (q4 < (((q5.set ((0 : Int) + q4).toNat ((q3, ((q5.getD ((0 : Int) + q4).toNat (((0 : Int), (0 : Int)), (0 : Int))).1).2), (q5.getD ((0 : Int) + q4).toNat (((0 : Int), (0 : Int)), (0 : Int))).2)).set ((0 : Int) + q4).toNat (((((q5.set ((0 : Int) + q4).toNat ((q3, ((q5.getD ((0 : Int) + q4).toNat (((0 : Int), (0 : Int)), (0 : Int))).1).2), (q5.getD ((0 : Int) + q4).toNat (((0 : Int), (0 : Int)), (0 : Int))).2)).getD ((0 : Int) + q4).toNat (((0 : Int), (0 : Int)), (0 : Int))).1).1, (w (q3 + (1 : Int)))), ((q5.set ((0 : Int) + q4).toNat ((q3, ((q5.getD ((0 : Int) + q4).toNat (((0 : Int), (0 : Int)), (0 : Int))).1).2), (q5.getD ((0 : Int) + q4).toNat (((0 : Int), (0 : Int)), (0 : Int))).2)).getD ((0 : Int) + q4).toNat (((0 : Int), (0 : Int)), (0 : Int))).2)).length : Int))) then (let s2 := (((q5.set ((0 : Int) + q4).toNat ((q3, ((q5.getD ((0 : Int) + q4).toNat (((0 : Int), (0 : Int)), (0 : Int))).1).2), (q5.getD ((0 : Int) + q4).toNat (((0 : Int), (0 : Int)), (0 : Int))).2)).set ((0 : Int) + q4).toNat (((((q5.set ((0 : Int) + q4).toNat ((q3, ((q5.getD ((0 : Int) + q4).toNat (((0 : Int), (0 : Int)), (0 : Int))).1).2), (q5.getD ((0 : Int) + q4).toNat (((0 : Int), (0 : Int)), (0 : Int))).2)).getD ((0 : Int) + q4).toNat (((0 : Int), (0 : Int)), (0 : Int))).1).1, (w (q3 + (1 : Int)))), ((q5.set ((0 : Int) + q4).toNat ((q3, ((q5.getD ((0 : Int) + q4).toNat (((0 : Int), (0 : Int)), (0 : Int))).1).2), (q5.getD ((0 : Int) + q4).toNat (((0 : Int), (0 : Int)), (0 : Int))).2)).getD ((0 : Int) + q4).toNat (((0 : Int), (0 : Int)), (0 : Int))).2)).set ((0 : Int) + q4).toNat ((((q5.set ((0 : Int) + q4).toNat ((q3, ((q5.getD ((0 : Int) + q4).toNat (((0 : Int), (0 : Int)), (0 : Int))).1).2), (q5.getD ((0 : Int) + q4).toNat (((0 : Int), (0 : Int)), (0 : Int))).2)).set ((0 : Int) + q4).toNat (((((q5.set ((0 : Int) + q4).toNat ((q3, ((q5.getD ((0 : Int) + q4).toNat (((0 : Int), (0 : Int)), (0 : Int))).1).2), (q5.getD ((0 : Int) + q4).toNat (((0 : Int), (0 : Int)), (0 : Int))).2)).getD ((0 : Int) + q4).toNat (((0 : Int), (0 : Int)), (0 : Int))).1).1, (w (q3 + (1 : Int)))), ((q5.set ((0 : Int) + q4).toNat ((q3, ((q5.getD ((0 : Int) + q4).toNat (((0 : Int), (0 : Int)), (0 : Int))).1).2), (q5.getD ((0 : Int) + q4).toNat (((0 : Int), (0 : Int)), (0 : Int))).2)).getD ((0 : Int) + q4).toNat (((0 : Int), (0 : Int)), (0 : Int))).2)).getD ((0 : Int) + q4).toNat (((0 : Int), (0 : Int)), (0 : Int))).1, (w ((w (q3 + (1 : Int))) + (1 : Int))))); L2 (w ((w ((w (q3 + (1 : Int))) + (1 : Int))) + (1 : Int))) (w (q4 + (1 : Int))) s2) else none) else none) else none) else some (q5, q3))
noncomputable def f14_l2 (K : Nat) (n : Nat) (q3 : Int) (q4 : Int) (q5 : List ((Int × Int) × Int)) : Option ((List ((Int × Int) × Int)) × Int) :=
  iter (X := Int × Int × List ((Int × Int) × Int)) (fun L x => (fun L2 => f14_b2 K L2 x.1 x.2.1 x.2.2) (fun v0 v1 v2 => L (v0, v1, v2))) n (q3, q4, q5)
noncomputable def f14_fr2 (q3 : Int) (q4 : Int) (q5 : List ((Int × Int) × Int)) : Fr := ⟨36, [(0, .v false [.row 0]), (1, .v false [.int .i64 q3]), (4, .v false [.int .i64 (0 : Int)]), (5, .v false [.int .i64 q4])], [], [some ⟨45, (.cons (.cons (.int .i64) (.int .i64)) (.int .i64)), q5, .io⟩]⟩
noncomputable def f14_k2 (K : Nat) (a0 : List ((Int × Int) × Int)) (a1 : Int) (lr : LR ((List ((Int × Int) × Int)) × Int)) : Ex → Fr → Option ((List ((Int × Int) × Int)) × Int) :=
  contC (f14E K) 1 lr f14C [1, 0, 1, 0] (finK (f14E K) Try.f14 [(.io, (.list 45 (.cons (.cons (.int .i64) (.int .i64)) (.int .i64)))), (.ro, (.int .i64))] [(.int .i64)] (a0, a1, ()))
noncomputable def f14_g (K : Nat) (a0 : List ((Int × Int) × Int)) (a1 : Int) (I2 : Int → Int → (List ((Int × Int) × Int)) → Option ((List ((Int × Int) × Int)) × Int)) : Option ((List ((Int × Int) × Int)) × Int) :=
  I2 a1 (0 : Int) a0
noncomputable def f14G (K : Nat) (a0 : List ((Int × Int) × Int)) (a1 : Int) : Option ((List ((Int × Int) × Int)) × Int) :=
  f14_g K a0 a1 (fun d0 d1 d2 => f14_l2 K K d0 d1 d2)
noncomputable def f14M (K : Nat) : Mdl := ⟨[(.io, (.list 45 (.cons (.cons (.int .i64) (.int .i64)) (.int .i64)))), (.ro, (.int .i64))], [(.int .i64)], fun x => f14G K x.1 x.2.1⟩
/-! laws.markLatticeS -/
noncomputable def f15C : Code := codeOf Try.f15
noncomputable def f15E (K : Nat) : Env := ⟨[], tys, eqs, mts, K, [0, 1, 4, 5, 9], [], []⟩
noncomputable def f15_b2 (K : Nat) (L2 : Int → Int → (List (Int × Int × Int)) → Option ((List (Int × Int × Int)) × Int)) (q3 : Int) (q4 : Int) (q5 : List (Int × Int × Int)) : Option ((List (Int × Int × Int)) × Int) :=
  (bif (decide (q4 < (q5.length : Int))) then (bif (decide (0 ≤ q4) && decide (q4 < (q5.length : Int))) then (bif (decide (0 ≤ q4) && decide (q4 < ((q5.set ((0 : Int) + q4).toNat (q3, (q5.getD ((0 : Int) + q4).toNat ((0 : Int), ((0 : Int), (0 : Int)))).2)).length : Int))) then (bif (decide (0 ≤ q4) && decide (q4 < (((q5.set ((0 : Int) + q4).toNat (q3, (q5.getD ((0 : Int) + q4).toNat ((0 : Int), ((0 : Int), (0 : Int)))).2)).set ((0 : Int) + q4).toNat (((q5.set ((0 : Int) + q4).toNat (q3, (q5.getD ((0 : Int) + q4).toNat ((0 : Int), ((0 : Int), (0 : Int)))).2)).getD ((0 : Int) + q4).toNat ((0 : Int), ((0 : Int), (0 : Int)))).1, (w (q3 + (1 : Int))), (((q5.set ((0 : Int) + q4).toNat (q3, (q5.getD ((0 : Int) + q4).toNat ((0 : Int), ((0 : Int), (0 : Int)))).2)).getD ((0 : Int) + q4).toNat ((0 : Int), ((0 : Int), (0 : Int)))).2).2)).length : Int))) then (let s2 := (((q5.set ((0 : Int) + q4).toNat (q3, (q5.getD ((0 : Int) + q4).toNat ((0 : Int), ((0 : Int), (0 : Int)))).2)).set ((0 : Int) + q4).toNat (((q5.set ((0 : Int) + q4).toNat (q3, (q5.getD ((0 : Int) + q4).toNat ((0 : Int), ((0 : Int), (0 : Int)))).2)).getD ((0 : Int) + q4).toNat ((0 : Int), ((0 : Int), (0 : Int)))).1, (w (q3 + (1 : Int))), (((q5.set ((0 : Int) + q4).toNat (q3, (q5.getD ((0 : Int) + q4).toNat ((0 : Int), ((0 : Int), (0 : Int)))).2)).getD ((0 : Int) + q4).toNat ((0 : Int), ((0 : Int), (0 : Int)))).2).2)).set ((0 : Int) + q4).toNat ((((q5.set ((0 : Int) + q4).toNat (q3, (q5.getD ((0 : Int) + q4).toNat ((0 : Int), ((0 : Int), (0 : Int)))).2)).set ((0 : Int) + q4).toNat (((q5.set ((0 : Int) + q4).toNat (q3, (q5.getD ((0 : Int) + q4).toNat ((0 : Int), ((0 : Int), (0 : Int)))).2)).getD ((0 : Int) + q4).toNat ((0 : Int), ((0 : Int), (0 : Int)))).1, (w (q3 + (1 : Int))), (((q5.set ((0 : Int) + q4).toNat (q3, (q5.getD ((0 : Int) + q4).toNat ((0 : Int), ((0 : Int), (0 : Int)))).2)).getD ((0 : Int) + q4).toNat ((0 : Int), ((0 : Int), (0 : Int)))).2).2)).getD ((0 : Int) + q4).toNat ((0 : Int), ((0 : Int), (0 : Int)))).1, ((((q5.set ((0 : Int) + q4).toNat (q3, (q5.getD ((0 : Int) + q4).toNat ((0 : Int), ((0 : Int), (0 : Int)))).2)).set ((0 : Int) + q4).toNat (((q5.set ((0 : Int) + q4).toNat (q3, (q5.getD ((0 : Int) + q4).toNat ((0 : Int), ((0 : Int), (0 : Int)))).2)).getD ((0 : Int) + q4).toNat ((0 : Int), ((0 : Int), (0 : Int)))).1, (w (q3 + (1 : Int))), (((q5.set ((0 : Int) + q4).toNat (q3, (q5.getD ((0 : Int) + q4).toNat ((0 : Int), ((0 : Int), (0 : Int)))).2)).getD ((0 : Int) + q4).toNat ((0 : Int), ((0 : Int), (0 : Int)))).2).2)).getD ((0 : Int) + q4).toNat ((0 : Int), ((0 : Int), (0 : Int)))).2).1, (w ((w (q3 + (1 : Int))) + (1 : Int))))); L2 (w ((w ((w (q3 + (1 : Int))) + (1 : Int))) + (1 : Int))) (w (q4 + (1 : Int))) s2) else none) else none) else none) else some (q5, q3))
noncomputable def f15_l2 (K : Nat) (n : Nat) (q3 : Int) (q4 : Int) (q5 : List (Int × Int × Int)) : Option ((List (Int × Int × Int)) × Int) :=
  iter (X := Int × Int × List (Int × Int × Int)) (fun L x => (fun L2 => f15_b2 K L2 x.1 x.2.1 x.2.2) (fun v0 v1 v2 => L (v0, v1, v2))) n (q3, q4, q5)
noncomputable def f15_fr2 (q3 : Int) (q4 : Int) (q5 : List (Int × Int × Int)) : Fr := ⟨34, [(0, .v false [.row 0]), (1, .v false [.int .i64 q3]), (4, .v false [.int .i64 (0 : Int)]), (5, .v false [.int .i64 q4])], [], [some ⟨25, (.cons (.int .i64) (.cons (.int .i64) (.int .i64))), q5, .io⟩]⟩
noncomputable def f15_k2 (K : Nat) (a0 : List (Int × Int × Int)) (a1 : Int) (lr : LR ((List (Int × Int × Int)) × Int)) : Ex → Fr → Option ((List (Int × Int × Int)) × Int) :=
  contC (f15E K) 1 lr f15C [1, 0, 1, 0] (finK (f15E K) Try.f15 [(.io, (.list 25 (.cons (.int .i64) (.cons (.int .i64) (.int .i64))))), (.ro, (.int .i64))] [(.int .i64)] (a0, a1, ()))
noncomputable def f15_g (K : Nat) (a0 : List (Int × Int × Int)) (a1 : Int) (I2 : Int → Int → (List (Int × Int × Int)) → Option ((List (Int × Int × Int)) × Int)) : Option ((List (Int × Int × Int)) × Int) :=
  I2 a1 (0 : Int) a0
noncomputable def f15G (K : Nat) (a0 : List (Int × Int × Int)) (a1 : Int) : Option ((List (Int × Int × Int)) × Int) :=
  f15_g K a0 a1 (fun d0 d1 d2 => f15_l2 K K d0 d1 d2)
noncomputable def f15M (K : Nat) : Mdl := ⟨[(.io, (.list 25 (.cons (.int .i64) (.cons (.int .i64) (.int .i64))))), (.ro, (.int .i64))], [(.int .i64)], fun x => f15G K x.1 x.2.1⟩
/-! laws.heldLatticeS -/
noncomputable def f16C : Code := codeOf Try.f16
noncomputable def f16E (K : Nat) : Env := ⟨[], tys, eqs, mts, K, [0, 1, 4, 5, 9, 18, 27, 36], [], []⟩
noncomputable def f16_b2 (K : Nat) (a0 : List (Int × Int × Int)) (L2 : Int → Int → Option Int) (q3 : Int) (q4 : Int) : Option Int :=
  (bif (decide (q4 < (a0.length : Int))) then (bif (decide (0 ≤ q4) && decide (q4 < (a0.length : Int))) then (bif ((a0.getD ((0 : Int) + q4).toNat ((0 : Int), ((0 : Int), (0 : Int)))).1 != q3) then some (-1 : Int) else (bif (decide (0 ≤ q4) && decide (q4 < (a0.length : Int))) then (bif (((a0.getD ((0 : Int) + q4).toNat ((0 : Int), ((0 : Int), (0 : Int)))).2).1 != (w (q3 + (1 : Int)))) then some (-1 : Int) else (bif (decide (0 ≤ q4) && decide (q4 < (a0.length : Int))) then (bif (((a0.getD ((0 : Int) + q4).toNat ((0 : Int), ((0 : Int), (0 : Int)))).2).2 != (w ((w (q3 + (1 : Int))) + (1 : Int)))) then some (-1 : Int) else L2 (w ((w ((w (q3 + (1 : Int))) + (1 : Int))) + (1 : Int))) (w (q4 + (1 : Int)))) else none)) else none)) else none) else some q3)
noncomputable def f16_l2 (K : Nat) (a0 : List (Int × Int × Int)) (n : Nat) (q3 : Int) (q4 : Int) : Option Int :=
  iter (X := Int × Int) (fun L x => (fun L2 => f16_b2 K a0 L2 x.1 x.2) (fun v0 v1 => L (v0, v1))) n (q3, q4)
noncomputable def f16_fr2 (a0 : List (Int × Int × Int)) (q3 : Int) (q4 : Int) : Fr := ⟨40, [(0, .v false [.row 0]), (1, .v false [.int .i64 q3]), (4, .v false [.int .i64 (0 : Int)]), (5, .v false [.int .i64 q4])], [], [some ⟨25, (.cons (.int .i64) (.cons (.int .i64) (.int .i64))), a0, .ro⟩]⟩
noncomputable def f16_k2 (K : Nat) (a0 : List (Int × Int × Int)) (a1 : Int) (lr : LR Int) : Ex → Fr → Option Int :=
  contC (f16E K) 1 lr f16C [1, 0, 1, 0] (finK (f16E K) Try.f16 [(.ro, (.list 25 (.cons (.int .i64) (.cons (.int .i64) (.int .i64))))), (.ro, (.int .i64))] [(.int .i64)] (a0, a1, ()))
noncomputable def f16_g (K : Nat) (a0 : List (Int × Int × Int)) (a1 : Int) (I2 : Int → Int → Option Int) : Option Int :=
  I2 a1 (0 : Int)
noncomputable def f16G (K : Nat) (a0 : List (Int × Int × Int)) (a1 : Int) : Option Int :=
  f16_g K a0 a1 (fun d0 d1 => f16_l2 K a0 K d0 d1)
noncomputable def f16M (K : Nat) : Mdl := ⟨[(.ro, (.list 25 (.cons (.int .i64) (.cons (.int .i64) (.int .i64))))), (.ro, (.int .i64))], [(.int .i64)], fun x => f16G K x.1 x.2.1⟩
/-! laws.FnExactFittingLattices -/
noncomputable def f4E (K : Nat) : Env := ⟨[(5, f5M K), (7, f7M K), (10, f10M K), (11, f11M K), (12, f12M K), (13, f13M K), (14, f14M K), (15, f15M K), (16, f16M K)], tys, eqs, mts, K, [0, 1, 4, 5, 6, 7, 8, 9, 10, 11, 12, 13, 14, 15, 20, 44, 49, 65, 73, 76, 92, 97, 100], [], []⟩
noncomputable def f4G (K : Nat) (a0 : List ((Int × Int) × Int)) (a1 : Int) : Option Bool :=
  (f5G K a0 (1048576 : Int)).bind fun y1 => (bif (decide (y1 < (0 : Int))) then some true else (f7G K a0).bind fun y2 => (f11G K y2 a1).bind fun y3 => (f7G K a0).bind fun y4 => (f12G K y4 a1).bind fun y5 => (f13G K y5.1 y3.1).bind fun y6 => (bif ((!(!(!y6))) || true) then (bif ((!(!(!y6))) || true) then (bif ((!(!(!y6))) || true) then (bif (bif (!y6) then true else (y5.2 != y3.2)) then some false else (f7G K a0).bind fun y7 => (f10G K y4 y7).bind fun y8 => (bif (!y8) then some false else (f14G K y4 (1 : Int)).bind fun y9 => (bif ((!(!(decide (y9.2 < (0 : Int))))) || true) then (bif ((!(!(decide (y9.2 < (0 : Int))))) || true) then ((bif (!(decide (y9.2 < (0 : Int)))) then f13G K y5.1 y3.1 else some false)).bind fun y10 => (bif ((!(!(decide (y9.2 < (0 : Int))))) || true) then (bif ((!(!(bif (decide (y9.2 < (0 : Int))) then true else (!y10)))) || true) then (bif ((!(!(bif (decide (y9.2 < (0 : Int))) then true else (!y10)))) || true) then (bif ((!(!(bif (decide (y9.2 < (0 : Int))) then true else (!y10)))) || true) then (bif (bif (bif (decide (y9.2 < (0 : Int))) then true else (!y10)) then true else (y5.2 != y3.2)) then some false else (f15G K y5.1 (1 : Int)).bind fun y11 => (f16G K y11.1 (1 : Int)).bind fun y12 => (bif (decide (y12 < (0 : Int))) then some false else (bif (y12 != y11.2) then some false else (f7G K a0).bind fun y13 => (f12G K y13 a1).bind fun y14 => (f13G K y14.1 y3.1).bind fun y15 => (bif ((!(!(!y15))) || true) then (bif ((!(!(!y15))) || true) then (bif ((!(!(!y15))) || true) then (bif (bif (!y15) then true else (y14.2 != y3.2)) then some false else (f16G K y11.1 (1 : Int)).bind fun y16 => (bif (decide (y16 < (0 : Int))) then some false else (bif (y16 != y11.2) then some false else some true))) else none) else none) else none)))) else none) else none) else none) else none) else none) else none))) else none) else none) else none))
noncomputable def f4M (K : Nat) : Mdl := ⟨[(.ro, (.list 49 (.cons (.cons (.int .i64) (.int .i64)) (.int .i64)))), (.ro, (.int .i64))], [.bool], fun x => f4G K x.1 x.2.1⟩
end Go.Proofs.Ytmnciknpeefkfaa.X
