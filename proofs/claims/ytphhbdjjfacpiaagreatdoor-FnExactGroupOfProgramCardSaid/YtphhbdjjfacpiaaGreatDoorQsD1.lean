/- Functions of the program as plain Lean functions, and that the program does what they say. Printed by gen.py. -/
import Derived.Test.YtphhbdjjfacpiaaGreatDoorQsD0
namespace Go.Proofs.YtphhbdjjfacpiaaGreatDoor.X
open Go
set_option maxRecDepth 100000
attribute [local instance] cwD
set_option linter.unusedVariables false
noncomputable section
variable (K : Nat)
include K
def f13E : Env := eE K [(28, f28M K), (29, f29M K)] [0, 1, 2, 3, 4, 10, 16]
def f13G (a0 a1 : tA × Int × Int) : Option Bool :=
  (f28G K a0.1 a1.1).bind fun y1 => (bif (!y1) then some false else (f29G K a0.2 a1.2).bind fun y2 => (bif (!y2) then some false else some true))
def f13M : Mdl := ⟨[(.ro, sM), (.ro, sM)], [.bool], fun x => f13G K x.1 x.2.1⟩
def f6E : Env := eE K [(13, f13M K)] [0, 1, 4, 5, 10, 14, 26]
def f6_b3 (a0 a1 : List tM) (L3 : Int → Option Bool) (q4 : Int) : Option Bool :=
  (bif (decide (q4 < (a0.length : Int))) then (bif (decide (0 ≤ q4) && decide (q4 < (a0.length : Int))) then (bif (decide (0 ≤ q4) && decide (q4 < (a1.length : Int))) then (f13G K ((((a0.getD ((0 : Int) + q4).toNat zM).1).1, (((a0.getD ((0 : Int) + q4).toNat zM).1).2).1, ((((a0.getD ((0 : Int) + q4).toNat zM).1).2).2)), ((a0.getD ((0 : Int) + q4).toNat zM).2)) ((((a1.getD ((0 : Int) + q4).toNat zM).1).1, (((a1.getD ((0 : Int) + q4).toNat zM).1).2).1, ((((a1.getD ((0 : Int) + q4).toNat zM).1).2).2)), ((a1.getD ((0 : Int) + q4).toNat zM).2))).bind fun y5 => (bif (!y5) then some false else L3 (w (q4 + (1 : Int)))) else none) else none) else some true)
def f6_l3 (a0 a1 : List tM) (n : Nat) (q4 : Int) : Option Bool :=
  iter (X := Int) (fun L x => f6_b3 K a0 a1 (fun v0 => L v0) x) n q4
def f6_g (K : Nat) (a0 a1 : List tM) (I3 : Int → Option Bool) : Option Bool :=
  (bif ((a0.length : Int) != (a1.length : Int)) then some false else I3 (0 : Int))
def f6G (a0 a1 : List tM) : Option Bool :=
  f6_g K a0 a1 (fun d0 => f6_l3 K a0 a1 K d0)
def f6M : Mdl := ⟨[(.ro, (.list 49 sM)), (.ro, (.list 49 sM))], [.bool], fun x => f6G K x.1 x.2.1⟩
def f6_k3 (a0 a1 : List tM) (lr : LR Bool) : Ex → Fr → Option Bool :=
  contC (f6E K) 2 lr f6C [1, 1, 0, 1, 0] (fM (f6E K) Tryz.f6 (f6M K) (a0, a1, ()))
def f6_j3 (a0 a1 : List tM) (lr : LR Bool) (bq4 : Int) : Option Bool :=
  lr (selC f6C [1, 1, 0, 1, 0, 0]) (f6_fr3 a0 a1 bq4) (f6_k3 K a0 a1 lr)
def f7E : Env := eE K [] [0, 1, 4, 5, 9]
def f7_b2 (K : Nat) (L2 : Int → Int → (List tM) → Option ((List tM) × Int)) (q3 q4 : Int) (q5 : List tM) : Option ((List tM) × Int) :=
  (bif (decide (q4 < (q5.length : Int))) then (bif (decide (0 ≤ q4) && decide (q4 < (q5.length : Int))) then (bif (decide (0 ≤ q4) && decide (q4 < ((q5.set ((0 : Int) + q4).toNat ((q3, ((q5.getD ((0 : Int) + q4).toNat zM).1).2), (q5.getD ((0 : Int) + q4).toNat zM).2)).length : Int))) then (let s4 := ((q5.set ((0 : Int) + q4).toNat ((q3, ((q5.getD ((0 : Int) + q4).toNat zM).1).2), (q5.getD ((0 : Int) + q4).toNat zM).2)).set ((0 : Int) + q4).toNat (((((q5.set ((0 : Int) + q4).toNat ((q3, ((q5.getD ((0 : Int) + q4).toNat zM).1).2), (q5.getD ((0 : Int) + q4).toNat zM).2)).getD ((0 : Int) + q4).toNat zM).1).1, (w (q3 + (1 : Int))), ((((q5.set ((0 : Int) + q4).toNat ((q3, ((q5.getD ((0 : Int) + q4).toNat zM).1).2), (q5.getD ((0 : Int) + q4).toNat zM).2)).getD ((0 : Int) + q4).toNat zM).1).2).2), ((q5.set ((0 : Int) + q4).toNat ((q3, ((q5.getD ((0 : Int) + q4).toNat zM).1).2), (q5.getD ((0 : Int) + q4).toNat zM).2)).getD ((0 : Int) + q4).toNat zM).2)); (bif (decide (0 ≤ q4) && decide (q4 < (s4.length : Int))) then (bif (decide (0 ≤ q4) && decide (q4 < ((s4.set ((0 : Int) + q4).toNat ((((s4.getD ((0 : Int) + q4).toNat zM).1).1, (((s4.getD ((0 : Int) + q4).toNat zM).1).2).1, (w ((w (q3 + (1 : Int))) + (1 : Int))), ((((s4.getD ((0 : Int) + q4).toNat zM).1).2).2).2), (s4.getD ((0 : Int) + q4).toNat zM).2)).length : Int))) then (let s5 := ((s4.set ((0 : Int) + q4).toNat ((((s4.getD ((0 : Int) + q4).toNat zM).1).1, (((s4.getD ((0 : Int) + q4).toNat zM).1).2).1, (w ((w (q3 + (1 : Int))) + (1 : Int))), ((((s4.getD ((0 : Int) + q4).toNat zM).1).2).2).2), (s4.getD ((0 : Int) + q4).toNat zM).2)).set ((0 : Int) + q4).toNat (((((s4.set ((0 : Int) + q4).toNat ((((s4.getD ((0 : Int) + q4).toNat zM).1).1, (((s4.getD ((0 : Int) + q4).toNat zM).1).2).1, (w ((w (q3 + (1 : Int))) + (1 : Int))), ((((s4.getD ((0 : Int) + q4).toNat zM).1).2).2).2), (s4.getD ((0 : Int) + q4).toNat zM).2)).getD ((0 : Int) + q4).toNat zM).1).1, ((((s4.set ((0 : Int) + q4).toNat ((((s4.getD ((0 : Int) + q4).toNat zM).1).1, (((s4.getD ((0 : Int) + q4).toNat zM).1).2).1, (w ((w (q3 + (1 : Int))) + (1 : Int))), ((((s4.getD ((0 : Int) + q4).toNat zM).1).2).2).2), (s4.getD ((0 : Int) + q4).toNat zM).2)).getD ((0 : Int) + q4).toNat zM).1).2).1, (((((s4.set ((0 : Int) + q4).toNat ((((s4.getD ((0 : Int) + q4).toNat zM).1).1, (((s4.getD ((0 : Int) + q4).toNat zM).1).2).1, (w ((w (q3 + (1 : Int))) + (1 : Int))), ((((s4.getD ((0 : Int) + q4).toNat zM).1).2).2).2), (s4.getD ((0 : Int) + q4).toNat zM).2)).getD ((0 : Int) + q4).toNat zM).1).2).2).1, (w ((w ((w (q3 + (1 : Int))) + (1 : Int))) + (1 : Int)))), ((s4.set ((0 : Int) + q4).toNat ((((s4.getD ((0 : Int) + q4).toNat zM).1).1, (((s4.getD ((0 : Int) + q4).toNat zM).1).2).1, (w ((w (q3 + (1 : Int))) + (1 : Int))), ((((s4.getD ((0 : Int) + q4).toNat zM).1).2).2).2), (s4.getD ((0 : Int) + q4).toNat zM).2)).getD ((0 : Int) + q4).toNat zM).2)); (bif (decide (0 ≤ q4) && decide (q4 < (s5.length : Int))) then (bif (decide (0 ≤ q4) && decide (q4 < ((s5.set ((0 : Int) + q4).toNat ((s5.getD ((0 : Int) + q4).toNat zM).1, (w ((w ((w ((w (q3 + (1 : Int))) + (1 : Int))) + (1 : Int))) + (1 : Int))), ((s5.getD ((0 : Int) + q4).toNat zM).2).2)).length : Int))) then (let s6 := ((s5.set ((0 : Int) + q4).toNat ((s5.getD ((0 : Int) + q4).toNat zM).1, (w ((w ((w ((w (q3 + (1 : Int))) + (1 : Int))) + (1 : Int))) + (1 : Int))), ((s5.getD ((0 : Int) + q4).toNat zM).2).2)).set ((0 : Int) + q4).toNat (((s5.set ((0 : Int) + q4).toNat ((s5.getD ((0 : Int) + q4).toNat zM).1, (w ((w ((w ((w (q3 + (1 : Int))) + (1 : Int))) + (1 : Int))) + (1 : Int))), ((s5.getD ((0 : Int) + q4).toNat zM).2).2)).getD ((0 : Int) + q4).toNat zM).1, (((s5.set ((0 : Int) + q4).toNat ((s5.getD ((0 : Int) + q4).toNat zM).1, (w ((w ((w ((w (q3 + (1 : Int))) + (1 : Int))) + (1 : Int))) + (1 : Int))), ((s5.getD ((0 : Int) + q4).toNat zM).2).2)).getD ((0 : Int) + q4).toNat zM).2).1, (w ((w ((w ((w ((w (q3 + (1 : Int))) + (1 : Int))) + (1 : Int))) + (1 : Int))) + (1 : Int))))); L2 (w ((w ((w ((w ((w ((w (q3 + (1 : Int))) + (1 : Int))) + (1 : Int))) + (1 : Int))) + (1 : Int))) + (1 : Int))) (w (q4 + (1 : Int))) s6) else none) else none)) else none) else none)) else none) else none) else some (q5, q3))
def f7_l2 (n : Nat) (q3 q4 : Int) (q5 : List tM) : Option ((List tM) × Int) :=
  iter (X := Int × Int × List tM) (fun L x => f7_b2 K (fun v0 v1 v2 => L (v0, v1, v2)) x.1 x.2.1 x.2.2) n (q3, q4, q5)
def f7_g (K : Nat) (a0 : List tM) (a1 : Int) (I2 : Int → Int → (List tM) → Option ((List tM) × Int)) : Option ((List tM) × Int) :=
  I2 a1 (0 : Int) a0
def f7G (a0 : List tM) (a1 : Int) : Option ((List tM) × Int) :=
  f7_g K a0 a1 (fun d0 d1 d2 => f7_l2 K K d0 d1 d2)
def f7M : Mdl := ⟨[(.io, (.list 49 sM)), (.ro, sI)], [sI], fun x => f7G K x.1 x.2.1⟩
def f7_k2 (a0 : List tM) (a1 : Int) (lr : LR ((List tM) × Int)) : Ex → Fr → Option ((List tM) × Int) :=
  contC (f7E K) 1 lr f7C [1, 0, 1, 0] (fM (f7E K) Tryz.f7 (f7M K) (a0, a1, ()))
def f7_j2 (a0 : List tM) (a1 : Int) (lr : LR ((List tM) × Int)) (bq3 bq4 : Int) (bq5 : List tM) : Option ((List tM) × Int) :=
  lr (selC f7C [1, 0, 1, 0, 0]) (f7_fr2 bq3 bq4 bq5) (f7_k2 K a0 a1 lr)
def f8E : Env := eE K [] [0, 1, 4, 5, 9, 19, 29, 39, 49, 59, 69]
def f8_b2 (K : Nat) (a0 : List tM) (L2 : Int → Int → Option Int) (q3 q4 : Int) : Option Int :=
  (bif (decide (q4 < (a0.length : Int))) then (bif (decide (0 ≤ q4) && decide (q4 < (a0.length : Int))) then (bif (((a0.getD ((0 : Int) + q4).toNat zM).1).1 != q3) then some (-1 : Int) else (bif (decide (0 ≤ q4) && decide (q4 < (a0.length : Int))) then (bif ((((a0.getD ((0 : Int) + q4).toNat zM).1).2).1 != (w (q3 + (1 : Int)))) then some (-1 : Int) else (bif (decide (0 ≤ q4) && decide (q4 < (a0.length : Int))) then (bif (((((a0.getD ((0 : Int) + q4).toNat zM).1).2).2).1 != (w ((w (q3 + (1 : Int))) + (1 : Int)))) then some (-1 : Int) else (bif (decide (0 ≤ q4) && decide (q4 < (a0.length : Int))) then (bif (((((a0.getD ((0 : Int) + q4).toNat zM).1).2).2).2 != (w ((w ((w (q3 + (1 : Int))) + (1 : Int))) + (1 : Int)))) then some (-1 : Int) else (bif (decide (0 ≤ q4) && decide (q4 < (a0.length : Int))) then (bif (((a0.getD ((0 : Int) + q4).toNat zM).2).1 != (w ((w ((w ((w (q3 + (1 : Int))) + (1 : Int))) + (1 : Int))) + (1 : Int)))) then some (-1 : Int) else (bif (decide (0 ≤ q4) && decide (q4 < (a0.length : Int))) then (bif (((a0.getD ((0 : Int) + q4).toNat zM).2).2 != (w ((w ((w ((w ((w (q3 + (1 : Int))) + (1 : Int))) + (1 : Int))) + (1 : Int))) + (1 : Int)))) then some (-1 : Int) else L2 (w ((w ((w ((w ((w ((w (q3 + (1 : Int))) + (1 : Int))) + (1 : Int))) + (1 : Int))) + (1 : Int))) + (1 : Int))) (w (q4 + (1 : Int)))) else none)) else none)) else none)) else none)) else none)) else none) else some q3)
def f8_l2 (a0 : List tM) (n : Nat) (q3 q4 : Int) : Option Int :=
  iter (X := Int × Int) (fun L x => f8_b2 K a0 (fun v0 v1 => L (v0, v1)) x.1 x.2) n (q3, q4)
def f8_g (K : Nat) (a0 : List tM) (a1 : Int) (I2 : Int → Int → Option Int) : Option Int :=
  I2 a1 (0 : Int)
def f8G (a0 : List tM) (a1 : Int) : Option Int :=
  f8_g K a0 a1 (fun d0 d1 => f8_l2 K a0 K d0 d1)
def f8M : Mdl := ⟨[(.ro, (.list 49 sM)), (.ro, sI)], [sI], fun x => f8G K x.1 x.2.1⟩
def f8_k2 (a0 : List tM) (a1 : Int) (lr : LR Int) : Ex → Fr → Option Int :=
  contC (f8E K) 1 lr f8C [1, 0, 1, 0] (fM (f8E K) Tryz.f8 (f8M K) (a0, a1, ()))
def f8_j2 (a0 : List tM) (a1 : Int) (lr : LR Int) (bq3 bq4 : Int) : Option Int :=
  lr (selC f8C [1, 0, 1, 0, 0]) (f8_fr2 a0 bq3 bq4) (f8_k2 K a0 a1 lr)
def f3E : Env := eE K [(4, f4M K), (5, f5M K), (6, f6M K), (7, f7M K), (8, f8M K)] [0, 2, 3, 4, 5, 6, 7, 8, 9, 10, 13, 32, 40, 43, 57, 62, 65]
def f3G (a0 : ByteArray) : Option Bool :=
  (bif (decide ((a0.size : Int) > (1048576 : Int))) then some true else (f4G K a0).bind fun y1 => (f5G K a0).bind fun y2 => (f6G K y2.1 y1.1).bind fun y3 => (bif (bif (!y3) then true else (y2.2 != y1.2)) then some false else (f7G K y2.1 (1 : Int)).bind fun y4 => (f8G K y4.1 (1 : Int)).bind fun y5 => (bif (decide (y5 < (0 : Int))) then some false else (bif (y5 != y4.2) then some false else (f5G K a0).bind fun y6 => (f6G K y6.1 y1.1).bind fun y7 => (bif (bif (!y7) then true else (y6.2 != y1.2)) then some false else (f8G K y4.1 (1 : Int)).bind fun y8 => (bif (decide (y8 < (0 : Int))) then some false else (bif (y8 != y4.2) then some false else some true)))))))
def f3M : Mdl := ⟨[(.ro, .str)], [.bool], fun x => f3G K x.1⟩
end
end Go.Proofs.YtphhbdjjfacpiaaGreatDoor.X
