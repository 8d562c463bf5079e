/- Functions of the program as plain Lean functions, and that the program does what they say. Printed by gen.py. -/
import Derived.Test.YtmnciknpeefkfaaGreatQgD0
namespace Go.Proofs.YtmnciknpeefkfaaGreat.X
open Go
set_option maxRecDepth 100000
set_option linter.unusedVariables false
/-! laws.eqMotionS -/
noncomputable def f18C : Code := codeOf Tryz.f18
noncomputable def f18E (K : Nat) : Env := ⟨[(65, f65M K)], tys, eqs, mts, K, [0, 1, 4, 5, 10, 14, 26], [], []⟩
noncomputable def f18_b3 (K : Nat) (a0 : List tM) (a1 : List tM) (L3 : Int → Option Bool) (q4 : Int) : Option Bool :=
  (bif (decide (q4 < (a0.length : Int))) then (bif (decide (0 ≤ q4) && decide (q4 < (a0.length : Int))) then (bif (decide (0 ≤ q4) && decide (q4 < (a1.length : Int))) then (f65G K ((((a0.getD ((0 : Int) + q4).toNat zM).1).1, (((a0.getD ((0 : Int) + q4).toNat zM).1).2).1, ((((a0.getD ((0 : Int) + q4).toNat zM).1).2).2)), ((a0.getD ((0 : Int) + q4).toNat zM).2)) ((((a1.getD ((0 : Int) + q4).toNat zM).1).1, (((a1.getD ((0 : Int) + q4).toNat zM).1).2).1, ((((a1.getD ((0 : Int) + q4).toNat zM).1).2).2)), ((a1.getD ((0 : Int) + q4).toNat zM).2))).bind fun y5 => (bif (!y5) then some false else L3 (w (q4 + (1 : Int)))) else none) else none) else some true)
noncomputable def f18_l3 (K : Nat) (a0 : List tM) (a1 : List tM) (n : Nat) (q4 : Int) : Option Bool :=
  iter (X := Int) (fun L x => (fun L3 => f18_b3 K a0 a1 L3 x) (fun v0 => L v0)) n q4
noncomputable def f18_fr3 (a0 : List tM) (a1 : List tM) (q4 : Int) : Fr := ⟨27, [(0, .v false [.row 0]), (1, .v false [.row 1]), (4, .v false [.bool false]), (5, .v false [.int .i64 q4]), (10, .v false [.bool ((a0.length : Int) != (a1.length : Int))])], [], [some ⟨91, sM, a0, .ro⟩, some ⟨91, sM, a1, .ro⟩]⟩
noncomputable def f18_k3 (K : Nat) (a0 : List tM) (a1 : List tM) (lr : LR Bool) : Ex → Fr → Option Bool :=
  contC (f18E K) 2 lr f18C [1, 1, 0, 1, 0] (finK (f18E K) Tryz.f18 [(.ro, (.list 91 sM)), (.ro, (.list 91 sM))] [.bool] (a0, a1, ()))
noncomputable def f18_g (K : Nat) (a0 : List tM) (a1 : List tM) (I3 : Int → Option Bool) : Option Bool :=
  (bif ((a0.length : Int) != (a1.length : Int)) then some false else I3 (0 : Int))
noncomputable def f18G (K : Nat) (a0 : List tM) (a1 : List tM) : Option Bool :=
  f18_g K a0 a1 (fun d0 => f18_l3 K a0 a1 K d0)
noncomputable def f18M (K : Nat) : Mdl := ⟨[(.ro, (.list 91 sM)), (.ro, (.list 91 sM))], [.bool], fun x => f18G K x.1 x.2.1⟩
/-! laws.eqMark -/
noncomputable def f89E (K : Nat) : Env := ⟨[(112, f112M K)], tys, eqs, mts, K, [0, 1, 2, 3, 4, 10, 15], [], []⟩
noncomputable def f89G (K : Nat) (a0 : tV × Int) (a1 : tV × Int) : Option Bool :=
  (f112G K a0.1 a1.1).bind fun y1 => (bif (!y1) then some false else (bif (a0.2 != a1.2) then some false else some true))
noncomputable def f89M (K : Nat) : Mdl := ⟨[(.ro, (.cons sV sI)), (.ro, (.cons sV sI))], [.bool], fun x => f89G K x.1 x.2.1⟩
/-! laws.eqMarkS -/
noncomputable def f37C : Code := codeOf Tryz.f37
noncomputable def f37E (K : Nat) : Env := ⟨[(89, f89M K)], tys, eqs, mts, K, [0, 1, 4, 5, 10, 14, 26], [], []⟩
noncomputable def f37_b3 (K : Nat) (a0 : List (tV × Int)) (a1 : List (tV × Int)) (L3 : Int → Option Bool) (q4 : Int) : Option Bool :=
  (bif (decide (q4 < (a0.length : Int))) then (bif (decide (0 ≤ q4) && decide (q4 < (a0.length : Int))) then (bif (decide (0 ≤ q4) && decide (q4 < (a1.length : Int))) then (f89G K (((a0.getD ((0 : Int) + q4).toNat (((0 : Int), (0 : Int)), (0 : Int))).1), (a0.getD ((0 : Int) + q4).toNat (((0 : Int), (0 : Int)), (0 : Int))).2) (((a1.getD ((0 : Int) + q4).toNat (((0 : Int), (0 : Int)), (0 : Int))).1), (a1.getD ((0 : Int) + q4).toNat (((0 : Int), (0 : Int)), (0 : Int))).2)).bind fun y5 => (bif (!y5) then some false else L3 (w (q4 + (1 : Int)))) else none) else none) else some true)
noncomputable def f37_l3 (K : Nat) (a0 : List (tV × Int)) (a1 : List (tV × Int)) (n : Nat) (q4 : Int) : Option Bool :=
  iter (X := Int) (fun L x => (fun L3 => f37_b3 K a0 a1 L3 x) (fun v0 => L v0)) n q4
noncomputable def f37_fr3 (a0 : List (tV × Int)) (a1 : List (tV × Int)) (q4 : Int) : Fr := ⟨27, [(0, .v false [.row 0]), (1, .v false [.row 1]), (4, .v false [.bool false]), (5, .v false [.int .i64 q4]), (10, .v false [.bool ((a0.length : Int) != (a1.length : Int))])], [], [some ⟨119, (.cons sV sI), a0, .ro⟩, some ⟨119, (.cons sV sI), a1, .ro⟩]⟩
noncomputable def f37_k3 (K : Nat) (a0 : List (tV × Int)) (a1 : List (tV × Int)) (lr : LR Bool) : Ex → Fr → Option Bool :=
  contC (f37E K) 2 lr f37C [1, 1, 0, 1, 0] (finK (f37E K) Tryz.f37 [(.ro, (.list 119 (.cons sV sI))), (.ro, (.list 119 (.cons sV sI)))] [.bool] (a0, a1, ()))
noncomputable def f37_g (K : Nat) (a0 : List (tV × Int)) (a1 : List (tV × Int)) (I3 : Int → Option Bool) : Option Bool :=
  (bif ((a0.length : Int) != (a1.length : Int)) then some false else I3 (0 : Int))
noncomputable def f37G (K : Nat) (a0 : List (tV × Int)) (a1 : List (tV × Int)) : Option Bool :=
  f37_g K a0 a1 (fun d0 => f37_l3 K a0 a1 K d0)
noncomputable def f37M (K : Nat) : Mdl := ⟨[(.ro, (.list 119 (.cons sV sI))), (.ro, (.list 119 (.cons sV sI)))], [.bool], fun x => f37G K x.1 x.2.1⟩
/-! laws.markMotionS -/
noncomputable def f31C : Code := codeOf Tryz.f31
noncomputable def f31E (K : Nat) : Env := ⟨[], tys, eqs, mts, K, [0, 1, 4, 5, 9], [], []⟩
noncomputable def f31_b2 (K : Nat) (L2 : Int → Int → (List tM) → Option ((List tM) × Int)) (q3 : Int) (q4 : Int) (q5 : List tM) : Option ((List tM) × Int) :=
  (bif (decide (q4 < (q5.length : Int))) then (bif (decide (0 ≤ q4) && decide (q4 < (q5.length : Int))) then (bif (decide (0 ≤ q4) && decide (q4 < ((q5.set ((0 : Int) + q4).toNat ((q3, ((q5.getD ((0 : Int) + q4).toNat zM).1).2), (q5.getD ((0 : Int) + q4).toNat zM).2)).length : Int))) then (let s4 := ((q5.set ((0 : Int) + q4).toNat ((q3, ((q5.getD ((0 : Int) + q4).toNat zM).1).2), (q5.getD ((0 : Int) + q4).toNat zM).2)).set ((0 : Int) + q4).toNat (((((q5.set ((0 : Int) + q4).toNat ((q3, ((q5.getD ((0 : Int) + q4).toNat zM).1).2), (q5.getD ((0 : Int) + q4).toNat zM).2)).getD ((0 : Int) + q4).toNat zM).1).1, (w (q3 + (1 : Int))), ((((q5.set ((0 : Int) + q4).toNat ((q3, ((q5.getD ((0 : Int) + q4).toNat zM).1).2), (q5.getD ((0 : Int) + q4).toNat zM).2)).getD ((0 : Int) + q4).toNat zM).1).2).2), ((q5.set ((0 : Int) + q4).toNat ((q3, ((q5.getD ((0 : Int) + q4).toNat zM).1).2), (q5.getD ((0 : Int) + q4).toNat zM).2)).getD ((0 : Int) + q4).toNat zM).2)); (bif (decide (0 ≤ q4) && decide (q4 < (s4.length : Int))) then (bif (decide (0 ≤ q4) && decide (q4 < ((s4.set ((0 : Int) + q4).toNat ((((s4.getD ((0 : Int) + q4).toNat zM).1).1, (((s4.getD ((0 : Int) + q4).toNat zM).1).2).1, (w ((w (q3 + (1 : Int))) + (1 : Int))), ((((s4.getD ((0 : Int) + q4).toNat zM).1).2).2).2), (s4.getD ((0 : Int) + q4).toNat zM).2)).length : Int))) then (let s5 := ((s4.set ((0 : Int) + q4).toNat ((((s4.getD ((0 : Int) + q4).toNat zM).1).1, (((s4.getD ((0 : Int) + q4).toNat zM).1).2).1, (w ((w (q3 + (1 : Int))) + (1 : Int))), ((((s4.getD ((0 : Int) + q4).toNat zM).1).2).2).2), (s4.getD ((0 : Int) + q4).toNat zM).2)).set ((0 : Int) + q4).toNat (((((s4.set ((0 : Int) + q4).toNat ((((s4.getD ((0 : Int) + q4).toNat zM).1).1, (((s4.getD ((0 : Int) + q4).toNat zM).1).2).1, (w ((w (q3 + (1 : Int))) + (1 : Int))), ((((s4.getD ((0 : Int) + q4).toNat zM).1).2).2).2), (s4.getD ((0 : Int) + q4).toNat zM).2)).getD ((0 : Int) + q4).toNat zM).1).1, ((((s4.set ((0 : Int) + q4).toNat ((((s4.getD ((0 : Int) + q4).toNat zM).1).1, (((s4.getD ((0 : Int) + q4).toNat zM).1).2).1, (w ((w (q3 + (1 : Int))) + (1 : Int))), ((((s4.getD ((0 : Int) + q4).toNat zM).1).2).2).2), (s4.getD ((0 : Int) + q4).toNat zM).2)).getD ((0 : Int) + q4).toNat zM).1).2).1, (((((s4.set ((0 : Int) + q4).toNat ((((s4.getD ((0 : Int) + q4).toNat zM).1).1, (((s4.getD ((0 : Int) + q4).toNat zM).1).2).1, (w ((w (q3 + (1 : Int))) + (1 : Int))), ((((s4.getD ((0 : Int) + q4).toNat zM).1).2).2).2), (s4.getD ((0 : Int) + q4).toNat zM).2)).getD ((0 : Int) + q4).toNat zM).1).2).2).1, (w ((w ((w (q3 + (1 : Int))) + (1 : Int))) + (1 : Int)))), ((s4.set ((0 : Int) + q4).toNat ((((s4.getD ((0 : Int) + q4).toNat zM).1).1, (((s4.getD ((0 : Int) + q4).toNat zM).1).2).1, (w ((w (q3 + (1 : Int))) + (1 : Int))), ((((s4.getD ((0 : Int) + q4).toNat zM).1).2).2).2), (s4.getD ((0 : Int) + q4).toNat zM).2)).getD ((0 : Int) + q4).toNat zM).2)); (bif (decide (0 ≤ q4) && decide (q4 < (s5.length : Int))) then (bif (decide (0 ≤ q4) && decide (q4 < ((s5.set ((0 : Int) + q4).toNat ((s5.getD ((0 : Int) + q4).toNat zM).1, (w ((w ((w ((w (q3 + (1 : Int))) + (1 : Int))) + (1 : Int))) + (1 : Int))), ((s5.getD ((0 : Int) + q4).toNat zM).2).2)).length : Int))) then (let s6 := ((s5.set ((0 : Int) + q4).toNat ((s5.getD ((0 : Int) + q4).toNat zM).1, (w ((w ((w ((w (q3 + (1 : Int))) + (1 : Int))) + (1 : Int))) + (1 : Int))), ((s5.getD ((0 : Int) + q4).toNat zM).2).2)).set ((0 : Int) + q4).toNat (((s5.set ((0 : Int) + q4).toNat ((s5.getD ((0 : Int) + q4).toNat zM).1, (w ((w ((w ((w (q3 + (1 : Int))) + (1 : Int))) + (1 : Int))) + (1 : Int))), ((s5.getD ((0 : Int) + q4).toNat zM).2).2)).getD ((0 : Int) + q4).toNat zM).1, (((s5.set ((0 : Int) + q4).toNat ((s5.getD ((0 : Int) + q4).toNat zM).1, (w ((w ((w ((w (q3 + (1 : Int))) + (1 : Int))) + (1 : Int))) + (1 : Int))), ((s5.getD ((0 : Int) + q4).toNat zM).2).2)).getD ((0 : Int) + q4).toNat zM).2).1, (w ((w ((w ((w ((w (q3 + (1 : Int))) + (1 : Int))) + (1 : Int))) + (1 : Int))) + (1 : Int))))); L2 (w ((w ((w ((w ((w ((w (q3 + (1 : Int))) + (1 : Int))) + (1 : Int))) + (1 : Int))) + (1 : Int))) + (1 : Int))) (w (q4 + (1 : Int))) s6) else none) else none)) else none) else none)) else none) else none) else some (q5, q3))
noncomputable def f31_l2 (K : Nat) (n : Nat) (q3 : Int) (q4 : Int) (q5 : List tM) : Option ((List tM) × Int) :=
  iter (X := Int × Int × List tM) (fun L x => (fun L2 => f31_b2 K L2 x.1 x.2.1 x.2.2) (fun v0 v1 v2 => L (v0, v1, v2))) n (q3, q4, q5)
noncomputable def f31_fr2 (q3 : Int) (q4 : Int) (q5 : List tM) : Fr := ⟨61, [(0, .v false [.row 0]), (1, .v false [.int .i64 q3]), (4, .v false [.int .i64 (0 : Int)]), (5, .v false [.int .i64 q4])], [], [some ⟨91, sM, q5, .io⟩]⟩
noncomputable def f31_k2 (K : Nat) (a0 : List tM) (a1 : Int) (lr : LR ((List tM) × Int)) : Ex → Fr → Option ((List tM) × Int) :=
  contC (f31E K) 1 lr f31C [1, 0, 1, 0] (finK (f31E K) Tryz.f31 [(.io, (.list 91 sM)), (.ro, sI)] [sI] (a0, a1, ()))
noncomputable def f31_g (K : Nat) (a0 : List tM) (a1 : Int) (I2 : Int → Int → (List tM) → Option ((List tM) × Int)) : Option ((List tM) × Int) :=
  I2 a1 (0 : Int) a0
noncomputable def f31G (K : Nat) (a0 : List tM) (a1 : Int) : Option ((List tM) × Int) :=
  f31_g K a0 a1 (fun d0 d1 d2 => f31_l2 K K d0 d1 d2)
noncomputable def f31M (K : Nat) : Mdl := ⟨[(.io, (.list 91 sM)), (.ro, sI)], [sI], fun x => f31G K x.1 x.2.1⟩
/-! laws.markMarkS -/
noncomputable def f52C : Code := codeOf Tryz.f52
noncomputable def f52E (K : Nat) : Env := ⟨[], tys, eqs, mts, K, [0, 1, 4, 5, 9], [], []⟩
noncomputable def f52_b2 (K : Nat) (L2 : Int → Int → (List (tV × Int)) → Option ((List (tV × Int)) × Int)) (q3 : Int) (q4 : Int) (q5 : List (tV × Int)) : Option ((List (tV × Int)) × Int) :=
  (bif (decide (q4 < (q5.length : Int))) then (bif (decide (0 ≤ q4) && decide (q4 < (q5.length : Int))) then (bif (decide (0 ≤ q4) && decide (q4 < ((q5.set ((0 : Int) + q4).toNat ((q3, ((q5.getD ((0 : Int) + q4).toNat (((0 : Int), (0 : Int)), (0 : Int))).1).2), (q5.getD ((0 : Int) + q4).toNat (((0 : Int), (0 : Int)), (0 : Int))).2)).length : Int))) then (bif (decide (0 ≤ q4) && decide (q4 < (((q5.set ((0 : Int) + q4).toNat ((q3, ((q5.getD ((0 : Int) + q4).toNat (((0 : Int), (0 : Int)), (0 : Int))).1).2), (q5.getD ((0 : Int) + q4).toNat (((0 : Int), (0 : Int)), (0 : Int))).2)).set ((0 : Int) + q4).toNat (((((q5.set ((0 : Int) + q4).toNat ((q3, ((q5.getD ((0 : Int) + q4).toNat (((0 : Int), (0 : Int)), (0 : Int))).1).2), (q5.getD ((0 : Int) + q4).toNat (((0 : Int), (0 : Int)), (0 : Int))).2)).getD ((0 : Int) + q4).toNat (((0 : Int), (0 : Int)), (0 : Int))).1).1, (w (q3 + (1 : Int)))), ((q5.set ((0 : Int) + q4).toNat ((q3, ((q5.getD ((0 : Int) + q4).toNat (((0 : Int), (0 : Int)), (0 : Int))).1).2), (q5.getD ((0 : Int) + q4).toNat (((0 : Int), (0 : Int)), (0 : Int))).2)).getD ((0 : Int) + q4).toNat (((0 : Int), (0 : Int)), (0 : Int))).2)).length : Int))) then (let s2 := (((q5.set ((0 : Int) + q4).toNat ((q3, ((q5.getD ((0 : Int) + q4).toNat (((0 : Int), (0 : Int)), (0 : Int))).1).2), (q5.getD ((0 : Int) + q4).toNat (((0 : Int), (0 : Int)), (0 : Int))).2)).set ((0 : Int) + q4).toNat (((((q5.set ((0 : Int) + q4).toNat ((q3, ((q5.getD ((0 : Int) + q4).toNat (((0 : Int), (0 : Int)), (0 : Int))).1).2), (q5.getD ((0 : Int) + q4).toNat (((0 : Int), (0 : Int)), (0 : Int))).2)).getD ((0 : Int) + q4).toNat (((0 : Int), (0 : Int)), (0 : Int))).1).1, (w (q3 + (1 : Int)))), ((q5.set ((0 : Int) + q4).toNat ((q3, ((q5.getD ((0 : Int) + q4).toNat (((0 : Int), (0 : Int)), (0 : Int))).1).2), (q5.getD ((0 : Int) + q4).toNat (((0 : Int), (0 : Int)), (0 : Int))).2)).getD ((0 : Int) + q4).toNat (((0 : Int), (0 : Int)), (0 : Int))).2)).set ((0 : Int) + q4).toNat ((((q5.set ((0 : Int) + q4).toNat ((q3, ((q5.getD ((0 : Int) + q4).toNat (((0 : Int), (0 : Int)), (0 : Int))).1).2), (q5.getD ((0 : Int) + q4).toNat (((0 : Int), (0 : Int)), (0 : Int))).2)).set ((0 : Int) + q4).toNat (((((q5.set ((0 : Int) + q4).toNat ((q3, ((q5.getD ((0 : Int) + q4).toNat (((0 : Int), (0 : Int)), (0 : Int))).1).2), (q5.getD ((0 : Int) + q4).toNat (((0 : Int), (0 : Int)), (0 : Int))).2)).getD ((0 : Int) + q4).toNat (((0 : Int), (0 : Int)), (0 : Int))).1).1, (w (q3 + (1 : Int)))), ((q5.set ((0 : Int) + q4).toNat ((q3, ((q5.getD ((0 : Int) + q4).toNat (((0 : Int), (0 : Int)), (0 : Int))).1).2), (q5.getD ((0 : Int) + q4).toNat (((0 : Int), (0 : Int)), (0 : Int))).2)).getD ((0 : Int) + q4).toNat (((0 : Int), (0 : Int)), (0 : Int))).2)).getD ((0 : Int) + q4).toNat (((0 : Int), (0 : Int)), (0 : Int))).1, (w ((w (q3 + (1 : Int))) + (1 : Int))))); L2 (w ((w ((w (q3 + (1 : Int))) + (1 : Int))) + (1 : Int))) (w (q4 + (1 : Int))) s2) else none) else none) else none) else some (q5, q3))
noncomputable def f52_l2 (K : Nat) (n : Nat) (q3 : Int) (q4 : Int) (q5 : List (tV × Int)) : Option ((List (tV × Int)) × Int) :=
  iter (X := Int × Int × List (tV × Int)) (fun L x => (fun L2 => f52_b2 K L2 x.1 x.2.1 x.2.2) (fun v0 v1 v2 => L (v0, v1, v2))) n (q3, q4, q5)
noncomputable def f52_fr2 (q3 : Int) (q4 : Int) (q5 : List (tV × Int)) : Fr := ⟨36, [(0, .v false [.row 0]), (1, .v false [.int .i64 q3]), (4, .v false [.int .i64 (0 : Int)]), (5, .v false [.int .i64 q4])], [], [some ⟨119, (.cons sV sI), q5, .io⟩]⟩
noncomputable def f52_k2 (K : Nat) (a0 : List (tV × Int)) (a1 : Int) (lr : LR ((List (tV × Int)) × Int)) : Ex → Fr → Option ((List (tV × Int)) × Int) :=
  contC (f52E K) 1 lr f52C [1, 0, 1, 0] (finK (f52E K) Tryz.f52 [(.io, (.list 119 (.cons sV sI))), (.ro, sI)] [sI] (a0, a1, ()))
noncomputable def f52_g (K : Nat) (a0 : List (tV × Int)) (a1 : Int) (I2 : Int → Int → (List (tV × Int)) → Option ((List (tV × Int)) × Int)) : Option ((List (tV × Int)) × Int) :=
  I2 a1 (0 : Int) a0
noncomputable def f52G (K : Nat) (a0 : List (tV × Int)) (a1 : Int) : Option ((List (tV × Int)) × Int) :=
  f52_g K a0 a1 (fun d0 d1 d2 => f52_l2 K K d0 d1 d2)
noncomputable def f52M (K : Nat) : Mdl := ⟨[(.io, (.list 119 (.cons sV sI))), (.ro, sI)], [sI], fun x => f52G K x.1 x.2.1⟩
/-! laws.markInt64S -/
noncomputable def f42C : Code := codeOf Tryz.f42
noncomputable def f42E (K : Nat) : Env := ⟨[], tys, eqs, mts, K, [0, 1, 4, 5, 9], [], []⟩
noncomputable def f42_b2 (K : Nat) (L2 : Int → Int → (List Int) → Option ((List Int) × Int)) (q3 : Int) (q4 : Int) (q5 : List Int) : Option ((List Int) × Int) :=
  (bif (decide (q4 < (q5.length : Int))) then (bif (decide (0 ≤ q4) && decide (q4 < (q5.length : Int))) then L2 (w (q3 + (1 : Int))) (w (q4 + (1 : Int))) (q5.set ((0 : Int) + q4).toNat q3) else none) else some (q5, q3))
noncomputable def f42_l2 (K : Nat) (n : Nat) (q3 : Int) (q4 : Int) (q5 : List Int) : Option ((List Int) × Int) :=
  iter (X := Int × Int × List Int) (fun L x => (fun L2 => f42_b2 K L2 x.1 x.2.1 x.2.2) (fun v0 v1 v2 => L (v0, v1, v2))) n (q3, q4, q5)
noncomputable def f42_fr2 (q3 : Int) (q4 : Int) (q5 : List Int) : Fr := ⟨19, [(0, .v false [.row 0]), (1, .v false [.int .i64 q3]), (4, .v false [.int .i64 (0 : Int)]), (5, .v false [.int .i64 q4])], [], [some ⟨2, sI, q5, .io⟩]⟩
noncomputable def f42_k2 (K : Nat) (a0 : List Int) (a1 : Int) (lr : LR ((List Int) × Int)) : Ex → Fr → Option ((List Int) × Int) :=
  contC (f42E K) 1 lr f42C [1, 0, 1, 0] (finK (f42E K) Tryz.f42 [(.io, (.list 2 sI)), (.ro, sI)] [sI] (a0, a1, ()))
noncomputable def f42_g (K : Nat) (a0 : List Int) (a1 : Int) (I2 : Int → Int → (List Int) → Option ((List Int) × Int)) : Option ((List Int) × Int) :=
  I2 a1 (0 : Int) a0
noncomputable def f42G (K : Nat) (a0 : List Int) (a1 : Int) : Option ((List Int) × Int) :=
  f42_g K a0 a1 (fun d0 d1 d2 => f42_l2 K K d0 d1 d2)
noncomputable def f42M (K : Nat) : Mdl := ⟨[(.io, (.list 2 sI)), (.ro, sI)], [sI], fun x => f42G K x.1 x.2.1⟩
/-! laws.markPattern -/
noncomputable def f25E (K : Nat) : Env := ⟨[(42, f42M K)], tys, eqs, mts, K, [0, 1, 2, 4], [], []⟩
noncomputable def f25G (K : Nat) (a0 : Int × tL × List Int) (a1 : Int) : Option ((Int × tL × List Int) × Int) :=
  (f42G K a0.2.2 a1).bind fun y1 => some ((a0.1, a0.2.1, y1.1), y1.2)
noncomputable def f25M (K : Nat) : Mdl := ⟨[(.io, (.cons sI (.cons sL (.list 2 sI)))), (.ro, sI)], [sI], fun x => f25G K x.1 x.2.1⟩
/-! laws.heldInt64S -/
noncomputable def f55C : Code := codeOf Tryz.f55
noncomputable def f55E (K : Nat) : Env := ⟨[], tys, eqs, mts, K, [0, 1, 4, 5, 9, 17], [], []⟩
noncomputable def f55_b2 (K : Nat) (a0 : List Int) (L2 : Int → Int → Option Int) (q3 : Int) (q4 : Int) : Option Int :=
  (bif (decide (q4 < (a0.length : Int))) then (bif (decide (0 ≤ q4) && decide (q4 < (a0.length : Int))) then (bif ((a0.getD ((0 : Int) + q4).toNat (0 : Int)) != q3) then some (-1 : Int) else L2 (w (q3 + (1 : Int))) (w (q4 + (1 : Int)))) else none) else some q3)
noncomputable def f55_l2 (K : Nat) (a0 : List Int) (n : Nat) (q3 : Int) (q4 : Int) : Option Int :=
  iter (X := Int × Int) (fun L x => (fun L2 => f55_b2 K a0 L2 x.1 x.2) (fun v0 v1 => L (v0, v1))) n (q3, q4)
noncomputable def f55_fr2 (a0 : List Int) (q3 : Int) (q4 : Int) : Fr := ⟨21, [(0, .v false [.row 0]), (1, .v false [.int .i64 q3]), (4, .v false [.int .i64 (0 : Int)]), (5, .v false [.int .i64 q4])], [], [some ⟨2, sI, a0, .ro⟩]⟩
noncomputable def f55_k2 (K : Nat) (a0 : List Int) (a1 : Int) (lr : LR Int) : Ex → Fr → Option Int :=
  contC (f55E K) 1 lr f55C [1, 0, 1, 0] (finK (f55E K) Tryz.f55 [(.ro, (.list 2 sI)), (.ro, sI)] [sI] (a0, a1, ()))
noncomputable def f55_g (K : Nat) (a0 : List Int) (a1 : Int) (I2 : Int → Int → Option Int) : Option Int :=
  I2 a1 (0 : Int)
noncomputable def f55G (K : Nat) (a0 : List Int) (a1 : Int) : Option Int :=
  f55_g K a0 a1 (fun d0 d1 => f55_l2 K a0 K d0 d1)
noncomputable def f55M (K : Nat) : Mdl := ⟨[(.ro, (.list 2 sI)), (.ro, sI)], [sI], fun x => f55G K x.1 x.2.1⟩
/-! laws.heldPattern -/
noncomputable def f32E (K : Nat) : Env := ⟨[(55, f55M K)], tys, eqs, mts, K, [0, 1, 2, 4, 10], [], []⟩
noncomputable def f32G (K : Nat) (a0 : Int × tL × List Int) (a1 : Int) : Option Int :=
  (f55G K a0.2.2 a1).bind fun y1 => (bif (decide (y1 < (0 : Int))) then some (-1 : Int) else some y1)
noncomputable def f32M (K : Nat) : Mdl := ⟨[(.ro, (.cons sI (.cons sL (.list 2 sI)))), (.ro, sI)], [sI], fun x => f32G K x.1 x.2.1⟩
/-! laws.FnExactCompleteMarks -/
noncomputable def f12E (K : Nat) : Env := ⟨[(13, f13M K), (15, f15M K), (16, f16M K), (18, f18M K), (24, f24M K), (25, f25M K), (31, f31M K), (32, f32M K), (33, f33M K), (35, f35M K), (37, f37M K), (52, f52M K), (56, f56M K), (57, f57M K)], tys, eqs, mts, K, [0, 1, 2, 3, 4, 6, 10, 11, 12, 13, 14, 15, 16, 17, 18, 19, 20, 21, 22, 27, 32, 67, 72, 77, 96, 104, 107, 128, 133, 136], [], []⟩
noncomputable def f12G (K : Nat) (a0 : Int) (a1 : Int × Int × Int) (a2 : List tM) (a3 : List (tV × Int)) (a4 : Int) : Option Bool :=
  (f13G K a2 (1048576 : Int)).bind fun y1 => (bif (decide (y1 < (0 : Int))) then some true else (f33G K a3 y1).bind fun y2 => (bif (decide (y2 < (0 : Int))) then some true else (f15G K a1).bind fun y3 => (f16G K a2).bind fun y4 => (f35G K a3).bind fun y5 => (f56G K a0 y3 y4 y5 a4).bind fun y6 => (f16G K a2).bind fun y7 => (f35G K a3).bind fun y8 => (f15G K a1).bind fun y9 => (f57G K a0 y9 y7 y8 a4).bind fun y10 => (f24G K y10.1 y6.1).bind fun y11 => (bif ((!(!(!y11))) || true) then (bif ((!(!(!y11))) || true) then (bif ((!(!(!y11))) || true) then (bif (bif (!y11) then true else (y10.2 != y6.2)) then some false else (f16G K a2).bind fun y12 => (f18G K y7 y12).bind fun y13 => (bif (!y13) then some false else (f35G K a3).bind fun y14 => (f37G K y8 y14).bind fun y15 => (bif (!y15) then some false else (f31G K y7 (1 : Int)).bind fun y16 => (f52G K y8 y16.2).bind fun y17 => (bif ((!(!(decide (y17.2 < (0 : Int))))) || true) then (bif ((!(!(decide (y17.2 < (0 : Int))))) || true) then ((bif (!(decide (y17.2 < (0 : Int)))) then f24G K y10.1 y6.1 else some false)).bind fun y18 => (bif ((!(!(decide (y17.2 < (0 : Int))))) || true) then (bif ((!(!(bif (decide (y17.2 < (0 : Int))) then true else (!y18)))) || true) then (bif ((!(!(bif (decide (y17.2 < (0 : Int))) then true else (!y18)))) || true) then (bif ((!(!(bif (decide (y17.2 < (0 : Int))) then true else (!y18)))) || true) then (bif (bif (bif (decide (y17.2 < (0 : Int))) then true else (!y18)) then true else (y10.2 != y6.2)) then some false else (f25G K y10.1 (1 : Int)).bind fun y19 => (f32G K (y10.1.1, y10.1.2.1, y19.1.2.2) (1 : Int)).bind fun y20 => (bif (decide (y20 < (0 : Int))) then some false else (bif (y20 != y19.2) then some false else (f15G K a1).bind fun y21 => (f16G K a2).bind fun y22 => (f35G K a3).bind fun y23 => (f57G K a0 y21 y22 y23 a4).bind fun y24 => (f24G K y24.1 y6.1).bind fun y25 => (bif ((!(!(!y25))) || true) then (bif ((!(!(!y25))) || true) then (bif ((!(!(!y25))) || true) then (bif (bif (!y25) then true else (y24.2 != y6.2)) then some false else (f32G K (y10.1.1, y10.1.2.1, y19.1.2.2) (1 : Int)).bind fun y26 => (bif (decide (y26 < (0 : Int))) then some false else (bif (y26 != y19.2) then some false else some true))) else none) else none) else none)))) else none) else none) else none) else none) else none) else none)))) else none) else none) else none)))
noncomputable def f12M (K : Nat) : Mdl := ⟨[(.ro, sI), (.ro, sL), (.ro, (.list 95 sM)), (.ro, (.list 122 (.cons sV sI))), (.ro, sI)], [.bool], fun x => f12G K x.1 x.2.1 x.2.2.1 x.2.2.2.1 x.2.2.2.2.1⟩
end Go.Proofs.YtmnciknpeefkfaaGreat.X
