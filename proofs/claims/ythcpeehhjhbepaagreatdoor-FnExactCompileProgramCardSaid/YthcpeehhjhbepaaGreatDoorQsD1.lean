/- Functions of the program as plain Lean functions, and that the program does what they say. Printed by gen.py. -/
import Derived.Test.YthcpeehhjhbepaaGreatDoorQsD0
namespace Go.Proofs.YthcpeehhjhbepaaGreatDoor.X
open Go
set_option maxRecDepth 100000
attribute [local instance] cwD
set_option linter.unusedVariables false
noncomputable section
variable (K : Nat)
include K
def f13E : Env := ⟨[(28, f28M K), (29, f29M K), (31, f31M K), (32, f32M K)], tys, eqs, mts, K, [0, 2, 3, 4, 5, 6, 7, 8, 10, 11, 12, 13, 16, 28, 33, 35, 36, 37, 38, 45, 57, 78], [], [], [(30, f30M K)], [], [], [], false⟩
def f13_b5 (a0 : ByteArray) (y1 : ByteArray × Bool) (y2 : List ByteArray) (L5 : Int → Int → Int → Int → Int → Int → (List tM) → (List (tV × Int)) → Option (Option (Int × Int × tL × (List tM) × List (tV × Int)) × (Int × tL × List Int) × Int × Int)) (q6 q7 q8 q9 q10 q11 : Int) (q12 : List tM) (q13 : List (tV × Int)) : Option (Option (Int × Int × tL × (List tM) × List (tV × Int)) × (Int × tL × List Int) × Int × Int) :=
  (bif (decide (q6 < (y2.length : Int))) then (bif (decide (0 ≤ q6) && decide (q6 < (y2.length : Int))) then (f30G K (q7, q8, (q9, q10, q11), q12, q13) (y2.getD ((0 : Int) + q6).toNat ByteArray.empty)).bind fun y14 => (bif (y14.2 != (0 : Int)) then some (none, (((0 : Int), ((0 : Int), (0 : Int), (0 : Int)), []), y14.1.1, y14.2)) else L5 (w (q6 + (1 : Int))) y14.1.1 y14.1.2.1 y14.1.2.2.1.1 y14.1.2.2.1.2.1 y14.1.2.2.1.2.2 y14.1.2.2.2.1 y14.1.2.2.2.2) else none) else (bif (decide (q7 < (2 : Int))) then some (none, (((0 : Int), ((0 : Int), (0 : Int), (0 : Int)), []), (0 : Int), (4 : Int))) else (f32G K (q7, q8, (q9, q10, q11), q12, q13)).bind fun y15 => (f31G K q8 (q9, q10, q11) y15 q13 (0 : Int)).bind fun y16 => (bif (y16.2 != (0 : Int)) then some (none, (((0 : Int), ((0 : Int), (0 : Int), (0 : Int)), []), (0 : Int), (1 : Int))) else some ((some (q7, q8, (q9, q10, q11), q12, q13)), (y16.1, (0 : Int), (0 : Int))))))
def f13_l5 (a0 : ByteArray) (y1 : ByteArray × Bool) (y2 : List ByteArray) (n : Nat) (q6 q7 q8 q9 q10 q11 : Int) (q12 : List tM) (q13 : List (tV × Int)) : Option (Option (Int × Int × tL × (List tM) × List (tV × Int)) × (Int × tL × List Int) × Int × Int) :=
  iter (X := Int × Int × Int × Int × Int × Int × List tM × List (tV × Int)) (fun L x => f13_b5 K a0 y1 y2 (fun v0 v1 v2 v3 v4 v5 v6 v7 => L (v0, v1, v2, v3, v4, v5, v6, v7)) x.1 x.2.1 x.2.2.1 x.2.2.2.1 x.2.2.2.2.1 x.2.2.2.2.2.1 x.2.2.2.2.2.2.1 x.2.2.2.2.2.2.2) n (q6, q7, q8, q9, q10, q11, q12, q13)
def f13_g (a0 : ByteArray) (I5 : (ByteArray × Bool) → (List ByteArray) → Int → Int → Int → Int → Int → Int → (List tM) → (List (tV × Int)) → Option (Option (Int × Int × tL × (List tM) × List (tV × Int)) × (Int × tL × List Int) × Int × Int)) : Option (Option (Int × Int × tL × (List tM) × List (tV × Int)) × (Int × tL × List Int) × Int × Int) :=
  (bif (decide ((a0.size : Int) > (3000 : Int))) then some (none, (((0 : Int), ((0 : Int), (0 : Int), (0 : Int)), []), (0 : Int), (3 : Int))) else (f28G K a0 (bs [10])).bind fun y1 => (bif (bif (a0 != ByteArray.empty) then (!y1.2) else false) then some (none, (((0 : Int), ((0 : Int), (0 : Int), (0 : Int)), []), (0 : Int), (6 : Int))) else (bif (a0 != ByteArray.empty) then (f29G K y1.1 (bs [10])).bind fun y2 => I5 y1 y2 (0 : Int) (0 : Int) (0 : Int) (0 : Int) (0 : Int) (0 : Int) [] [] else (bif (decide ((0 : Int) < (2 : Int))) then some (none, (((0 : Int), ((0 : Int), (0 : Int), (0 : Int)), []), (0 : Int), (4 : Int))) else (f32G K ((0 : Int), (0 : Int), ((0 : Int), (0 : Int), (0 : Int)), [], [])).bind fun y17 => (f31G K (0 : Int) ((0 : Int), (0 : Int), (0 : Int)) y17 [] (0 : Int)).bind fun y18 => (bif (y18.2 != (0 : Int)) then some (none, (((0 : Int), ((0 : Int), (0 : Int), (0 : Int)), []), (0 : Int), (1 : Int))) else some ((some ((0 : Int), (0 : Int), ((0 : Int), (0 : Int), (0 : Int)), [], [])), (y18.1, (0 : Int), (0 : Int))))))))
def f13G (a0 : ByteArray) : Option (Option (Int × Int × tL × (List tM) × List (tV × Int)) × (Int × tL × List Int) × Int × Int) :=
  f13_g K a0 (fun c0 c1 d0 d1 d2 d3 d4 d5 d6 d7 => f13_l5 K a0 c0 c1 K d0 d1 d2 d3 d4 d5 d6 d7)
def f13M : CMdl := ⟨(.cons sI (.cons sI (.cons sL (.cons (.list 63 sM) (.list 44 (.cons sV sI)))))), [(.ro, .str)], [(.cons sI (.cons sL (.list 2 sI))), sI, sI], fun x => f13G K x.1⟩
def f13_k5 (a0 : ByteArray) (lr : LR (Option (Int × Int × tL × (List tM) × List (tV × Int)) × (Int × tL × List Int) × Int × Int)) : Ex → Fr → Option (Option (Int × Int × tL × (List tM) × List (tV × Int)) × (Int × tL × List Int) × Int × Int) :=
  contC (f13E K) 0 lr f13C [1, 1, 1, 1, 1, 0, 1, 0, 1, 0] (finC (f13E K) Tryz.f13 (.cons sI (.cons sI (.cons sL (.cons (.list 63 sM) (.list 44 (.cons sV sI)))))) [(.cons sI (.cons sL (.list 2 sI))), sI, sI])
def f13_j5 (a0 : ByteArray) (lr : LR (Option (Int × Int × tL × (List tM) × List (tV × Int)) × (Int × tL × List Int) × Int × Int)) (y1 : ByteArray × Bool) (y2 : List ByteArray) (bq6 bq7 bq8 bq9 bq10 bq11 : Int) (bq12 : List tM) (bq13 : List (tV × Int)) : Option (Option (Int × Int × tL × (List tM) × List (tV × Int)) × (Int × tL × List Int) × Int × Int) :=
  lr (selC f13C [1, 1, 1, 1, 1, 0, 1, 0, 1, 0, 0]) (f13_fr5 a0 y1 y2 bq6 bq7 bq8 bq9 bq10 bq11 bq12 bq13) (f13_k5 K a0 lr)
def f5E : Env := ⟨[], tys, eqs, mts, K, [0, 2, 3, 4, 6, 7, 8], [], [], [], [(13, f13M K)], [], [], false⟩
def f5G (a0 : ByteArray) : Option ((Int × tL × List Int) × Int × Int) :=
  (f13G K a0).bind fun y1 => optK y1.1 (some y1.2) (fun z2 => some y1.2)
def f5M : Mdl := ⟨[(.ro, .str)], [(.cons sI (.cons sL (.list 2 sI))), sI, sI], fun x => f5G K x.1⟩
def f14E : Env := eE K [] [0, 1, 2, 3, 4, 9, 14, 19]
def f14G (K : Nat) (a0 a1 : Int × Int × Int) : Option Bool :=
  (bif (a0.1 != a1.1) then some false else (bif (a0.2.1 != a1.2.1) then some false else (bif (a0.2.2 != a1.2.2) then some false else some true)))
def f14M : Mdl := ⟨[(.ro, sL), (.ro, sL)], [.bool], fun x => f14G K x.1 x.2.1⟩
def f15E : Env := eE K [] [0, 1, 4, 5, 10, 14, 25]
def f15_b2 (K : Nat) (a0 a1 : List Int) (L2 : Int → Option Bool) (q3 : Int) : Option Bool :=
  (bif (decide (q3 < (a0.length : Int))) then (bif (decide (0 ≤ q3) && decide (q3 < (a0.length : Int))) then (bif (decide (0 ≤ q3) && decide (q3 < (a1.length : Int))) then (bif ((a0.getD ((0 : Int) + q3).toNat (0 : Int)) != (a1.getD ((0 : Int) + q3).toNat (0 : Int))) then some false else L2 (w (q3 + (1 : Int)))) else none) else none) else some true)
def f15_l2 (a0 a1 : List Int) (n : Nat) (q3 : Int) : Option Bool :=
  iter (X := Int) (fun L x => f15_b2 K a0 a1 (fun v0 => L v0) x) n q3
def f15_g (K : Nat) (a0 a1 : List Int) (I2 : Int → Option Bool) : Option Bool :=
  (bif ((a0.length : Int) != (a1.length : Int)) then some false else I2 (0 : Int))
def f15G (a0 a1 : List Int) : Option Bool :=
  f15_g K a0 a1 (fun d0 => f15_l2 K a0 a1 K d0)
def f15M : Mdl := ⟨[(.ro, (.list 2 sI)), (.ro, (.list 2 sI))], [.bool], fun x => f15G K x.1 x.2.1⟩
def f15_k2 (a0 a1 : List Int) (lr : LR Bool) : Ex → Fr → Option Bool :=
  contC (f15E K) 2 lr f15C [1, 1, 0, 1, 0] (fM (f15E K) Tryz.f15 (f15M K) (a0, a1, ()))
def f15_j2 (a0 a1 : List Int) (lr : LR Bool) (bq3 : Int) : Option Bool :=
  lr (selC f15C [1, 1, 0, 1, 0, 0]) (f15_fr2 a0 a1 bq3) (f15_k2 K a0 a1 lr)
def f6E : Env := eE K [(14, f14M K), (15, f15M K)] [0, 1, 2, 3, 4, 9, 15, 21]
def f6G (a0 a1 : Int × tL × List Int) : Option Bool :=
  (bif (a0.1 != a1.1) then some false else (f14G K a0.2.1 a1.2.1).bind fun y1 => (bif (!y1) then some false else (f15G K a0.2.2 a1.2.2).bind fun y2 => (bif (!y2) then some false else some true)))
def f6M : Mdl := ⟨[(.ro, (.cons sI (.cons sL (.list 2 sI)))), (.ro, (.cons sI (.cons sL (.list 2 sI))))], [.bool], fun x => f6G K x.1 x.2.1⟩
def f16E : Env := eE K [] [0, 1, 4, 5, 9]
def f16_b2 (K : Nat) (L2 : Int → Int → (List Int) → Option ((List Int) × Int)) (q3 q4 : Int) (q5 : List Int) : Option ((List Int) × Int) :=
  (bif (decide (q4 < (q5.length : Int))) then (bif (decide (0 ≤ q4) && decide (q4 < (q5.length : Int))) then L2 (w (q3 + (1 : Int))) (w (q4 + (1 : Int))) (q5.set ((0 : Int) + q4).toNat q3) else none) else some (q5, q3))
def f16_l2 (n : Nat) (q3 q4 : Int) (q5 : List Int) : Option ((List Int) × Int) :=
  iter (X := Int × Int × List Int) (fun L x => f16_b2 K (fun v0 v1 v2 => L (v0, v1, v2)) x.1 x.2.1 x.2.2) n (q3, q4, q5)
def f16_g (K : Nat) (a0 : List Int) (a1 : Int) (I2 : Int → Int → (List Int) → Option ((List Int) × Int)) : Option ((List Int) × Int) :=
  I2 a1 (0 : Int) a0
def f16G (a0 : List Int) (a1 : Int) : Option ((List Int) × Int) :=
  f16_g K a0 a1 (fun d0 d1 d2 => f16_l2 K K d0 d1 d2)
def f16M : Mdl := ⟨[(.io, (.list 2 sI)), (.ro, sI)], [sI], fun x => f16G K x.1 x.2.1⟩
def f16_k2 (a0 : List Int) (a1 : Int) (lr : LR ((List Int) × Int)) : Ex → Fr → Option ((List Int) × Int) :=
  contC (f16E K) 1 lr f16C [1, 0, 1, 0] (fM (f16E K) Tryz.f16 (f16M K) (a0, a1, ()))
def f16_j2 (a0 : List Int) (a1 : Int) (lr : LR ((List Int) × Int)) (bq3 bq4 : Int) (bq5 : List Int) : Option ((List Int) × Int) :=
  lr (selC f16C [1, 0, 1, 0, 0]) (f16_fr2 bq3 bq4 bq5) (f16_k2 K a0 a1 lr)
def f7E : Env := eE K [(16, f16M K)] [0, 1, 2, 4]
def f7G (a0 : Int × tL × List Int) (a1 : Int) : Option ((Int × tL × List Int) × Int) :=
  (f16G K a0.2.2 a1).bind fun y1 => some ((a0.1, a0.2.1, y1.1), y1.2)
def f7M : Mdl := ⟨[(.io, (.cons sI (.cons sL (.list 2 sI)))), (.ro, sI)], [sI], fun x => f7G K x.1 x.2.1⟩
def f17E : Env := eE K [] [0, 1, 4, 5, 9, 17]
def f17_b2 (K : Nat) (a0 : List Int) (L2 : Int → Int → Option Int) (q3 q4 : Int) : Option Int :=
  (bif (decide (q4 < (a0.length : Int))) then (bif (decide (0 ≤ q4) && decide (q4 < (a0.length : Int))) then (bif ((a0.getD ((0 : Int) + q4).toNat (0 : Int)) != q3) then some (-1 : Int) else L2 (w (q3 + (1 : Int))) (w (q4 + (1 : Int)))) else none) else some q3)
def f17_l2 (a0 : List Int) (n : Nat) (q3 q4 : Int) : Option Int :=
  iter (X := Int × Int) (fun L x => f17_b2 K a0 (fun v0 v1 => L (v0, v1)) x.1 x.2) n (q3, q4)
def f17_g (K : Nat) (a0 : List Int) (a1 : Int) (I2 : Int → Int → Option Int) : Option Int :=
  I2 a1 (0 : Int)
def f17G (a0 : List Int) (a1 : Int) : Option Int :=
  f17_g K a0 a1 (fun d0 d1 => f17_l2 K a0 K d0 d1)
def f17M : Mdl := ⟨[(.ro, (.list 2 sI)), (.ro, sI)], [sI], fun x => f17G K x.1 x.2.1⟩
def f17_k2 (a0 : List Int) (a1 : Int) (lr : LR Int) : Ex → Fr → Option Int :=
  contC (f17E K) 1 lr f17C [1, 0, 1, 0] (fM (f17E K) Tryz.f17 (f17M K) (a0, a1, ()))
def f17_j2 (a0 : List Int) (a1 : Int) (lr : LR Int) (bq3 bq4 : Int) : Option Int :=
  lr (selC f17C [1, 0, 1, 0, 0]) (f17_fr2 a0 bq3 bq4) (f17_k2 K a0 a1 lr)
def f8E : Env := eE K [(17, f17M K)] [0, 1, 2, 4, 10]
def f8G (a0 : Int × tL × List Int) (a1 : Int) : Option Int :=
  (f17G K a0.2.2 a1).bind fun y1 => (bif (decide (y1 < (0 : Int))) then some (-1 : Int) else some y1)
def f8M : Mdl := ⟨[(.ro, (.cons sI (.cons sL (.list 2 sI)))), (.ro, sI)], [sI], fun x => f8G K x.1 x.2.1⟩
def f3E : Env := eE K [(4, f4M K), (5, f5M K), (6, f6M K), (7, f7M K), (8, f8M K)] [0, 2, 3, 4, 5, 6, 7, 8, 9, 10, 11, 12, 13, 16, 42, 50, 53, 73, 78, 81]
def f3G (a0 : ByteArray) : Option Bool :=
  (bif (decide ((a0.size : Int) > (1048576 : Int))) then some true else (f4G K a0).bind fun y1 => (f5G K a0).bind fun y2 => (f6G K y2.1 y1.1).bind fun y3 => (bif (bif (bif (!y3) then true else (y2.2.1 != y1.2.1)) then true else (y2.2.2 != y1.2.2)) then some false else (f7G K y2.1 (1 : Int)).bind fun y4 => (f8G K (y2.1.1, y2.1.2.1, y4.1.2.2) (1 : Int)).bind fun y5 => (bif (decide (y5 < (0 : Int))) then some false else (bif (y5 != y4.2) then some false else (f5G K a0).bind fun y6 => (f6G K y6.1 y1.1).bind fun y7 => (bif (bif (bif (!y7) then true else (y6.2.1 != y1.2.1)) then true else (y6.2.2 != y1.2.2)) then some false else (f8G K (y2.1.1, y2.1.2.1, y4.1.2.2) (1 : Int)).bind fun y8 => (bif (decide (y8 < (0 : Int))) then some false else (bif (y8 != y4.2) then some false else some true)))))))
def f3M : Mdl := ⟨[(.ro, .str)], [.bool], fun x => f3G K x.1⟩
end
end Go.Proofs.YthcpeehhjhbepaaGreatDoor.X
