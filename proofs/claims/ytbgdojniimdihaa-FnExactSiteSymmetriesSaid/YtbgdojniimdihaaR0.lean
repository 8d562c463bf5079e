/- Functions of the program as plain Lean functions, and that the program does what they say. Printed by gen.py. -/
import Derived.Test.YtbgdojniimdihaaD0
namespace Go.Proofs.Ytbgdojniimdihaa.X
open Go
set_option maxRecDepth 100000
set_option linter.unusedVariables false
theorem f48_run (K : Nat) (a0 : List Int) (a1 : Int) : runF (f48E K) Try.f48 [(.ro, (.list 2 (.int .i64))), (.ro, (.int .i64))] [(.int .i64)] (a0, a1, ()) = f48G K a0 a1 := by kernel_rfl
theorem f14_run (K : Nat) (a0 : Int × (Int × Int × Int) × List Int) (a1 : Int) : runF (f14E K) Try.f14 [(.ro, (.cons (.int .i64) (.cons (.cons (.int .i64) (.cons (.int .i64) (.int .i64))) (.list 2 (.int .i64))))), (.ro, (.int .i64))] [(.int .i64)] (a0, a1, ()) = f14G K a0 a1 := by kernel_rfl
theorem f22_run (K : Nat) (a0 : Int × Int × Int) : runF (f22E K) Try.f22 [(.ro, (.cons (.int .i64) (.cons (.int .i64) (.int .i64))))] [(.cons (.int .i64) (.cons (.int .i64) (.int .i64)))] (a0, ()) = f22G K a0 := by kernel_rfl
theorem f53_t2 (K : Nat) (a0 : List Int) (bq3 : Int) (bq4 : List Int) : ∀ (n : Nat) (q3 : Int) (q4 : List Int), loopN (exec (f53E K) 1 (selC f53C [1, 1, 0, 1, 0, 0])) 1 (f53_fr2 a0 bq3 bq4) n (f53_fr2 a0 q3 q4) (f53_k2 K a0 (realL (f53E K) 1)) = f53_l2 K a0 n q3 q4 := by
  have key : ∀ (lr : LR (List Int)) (L : Fr → Option (List Int)) (q3 : Int) (q4 : List Int), execG (f53E K) 1 lr (selC f53C [1, 1, 0, 1, 0, 0]) (f53_fr2 a0 q3 q4) (loopK 1 (f53_fr2 a0 bq3 bq4) L (f53_k2 K a0 lr)) = f53_b2 K a0 (fun v0 v1 => L (f53_fr2 a0 v0 v1)) q3 q4 := by
    intro lr L q3 q4; kernel_rfl
  intro n q3 q4
  refine loopN_iter (X := Int × List Int) (frame := fun x => (f53_fr2 a0 x.1 x.2)) (body := (fun L x => (fun L2 => f53_b2 K a0 L2 x.1 x.2) (fun v0 v1 => L (v0, v1)))) (fun L x => ?_) n (q3, q4)
  rw [exec_G]
  exact (key (realL (f53E K) 1) L x.1 x.2).trans (by rfl)
theorem f53_run (K : Nat) (a0 : List Int) : runF (f53E K) Try.f53 [(.ro, (.list 2 (.int .i64)))] [(.list 2 (.int .i64))] (a0, ()) = f53G K a0 := by
  have key : ∀ (lr : LR (List Int)), runG (f53E K) Try.f53 [(.ro, (.list 2 (.int .i64)))] [(.list 2 (.int .i64))] (a0, ()) lr = f53_g K a0 (fun d0 d1 => lr (selC f53C [1, 1, 0, 1, 0, 0]) (f53_fr2 a0 d0 d1) (f53_k2 K a0 lr)) := by intro lr; kernel_rfl
  have h2 : (fun d0 d1 => (realL (f53E K) 1) (selC f53C [1, 1, 0, 1, 0, 0]) (f53_fr2 a0 d0 d1) (f53_k2 K a0 (realL (f53E K) 1))) = fun d0 d1 => f53_l2 K a0 K d0 d1 := by
    funext d0 d1
    exact f53_t2 K a0 d0 d1 K d0 d1
  exact runF_G (n0 := 1) (by rfl) ((key (realL (f53E K) 1)).trans (by rw [h2] <;> rfl))
theorem f16_run (K : Nat) (a0 : Int × (Int × Int × Int) × List Int) : runF (f16E K) Try.f16 [(.ro, (.cons (.int .i64) (.cons (.cons (.int .i64) (.cons (.int .i64) (.int .i64))) (.list 2 (.int .i64)))))] [(.cons (.int .i64) (.cons (.cons (.int .i64) (.cons (.int .i64) (.int .i64))) (.list 2 (.int .i64))))] (a0, ()) = f16G K a0 := by kernel_rfl
theorem f131_run (K : Nat) (a0 : Int) : runF (f131E K) Try.f131 [(.ro, (.int .i64))] [.bool] (a0, ()) = f131G K a0 := by kernel_rfl
theorem f111_run (K : Nat) (a0 : Int) (a1 : Int) (a2 : Int) : runF (f111E K) Try.f111 [(.ro, (.int .i64)), (.ro, (.int .i64)), (.ro, (.int .i64))] [.bool] (a0, a1, a2, ()) = f111G K a0 a1 a2 := by kernel_rfl
theorem f132_run (K : Nat) (a0 : Int × Int × Int) : runF (f132E K) Try.f132 [(.ro, (.cons (.int .i64) (.cons (.int .i64) (.int .i64))))] [.bool] (a0, ()) = f132G K a0 := by kernel_rfl
theorem f87_run (K : Nat) (a0 : Int) (a1 : Int × Int × Int) : runF (f87E K) Try.f87 [(.ro, (.int .i64)), (.ro, (.cons (.int .i64) (.cons (.int .i64) (.int .i64))))] [(.int .i64)] (a0, a1, ()) = f87G K a0 a1 := by kernel_rfl
theorem f88_t3 (K : Nat) (a0 : List Int) (a1 : Int) (a2 : Int) (a3 : Int) (bq4 : Int) : ∀ (n : Nat) (q4 : Int), loopN (exec (f88E K) 1 (selC f88C [1, 0, 1, 0, 0])) 1 (f88_fr3 a0 a1 a2 a3 bq4) n (f88_fr3 a0 a1 a2 a3 q4) (f88_k3 K a0 a1 a2 a3 (realL (f88E K) 1)) = f88_l3 K a0 a1 a2 a3 n q4 := by
  have key : ∀ (lr : LR Bool) (L : Fr → Option Bool) (q4 : Int), execG (f88E K) 1 lr (selC f88C [1, 0, 1, 0, 0]) (f88_fr3 a0 a1 a2 a3 q4) (loopK 1 (f88_fr3 a0 a1 a2 a3 bq4) L (f88_k3 K a0 a1 a2 a3 lr)) = f88_b3 K a0 a1 a2 a3 (fun v0 => L (f88_fr3 a0 a1 a2 a3 v0)) q4 := by
    intro lr L q4; kernel_rfl
  intro n q4
  refine loopN_iter (X := Int) (frame := fun x => (f88_fr3 a0 a1 a2 a3 x)) (body := (fun L x => (fun L3 => f88_b3 K a0 a1 a2 a3 L3 x) (fun v0 => L v0))) (fun L x => ?_) n q4
  rw [exec_G]
  exact (key (realL (f88E K) 1) L x).trans (by rfl)
theorem f88_run (K : Nat) (a0 : List Int) (a1 : Int) (a2 : Int) (a3 : Int) : runF (f88E K) Try.f88 [(.ro, (.list 2 (.int .i64))), (.ro, (.int .i64)), (.ro, (.int .i64)), (.ro, (.int .i64))] [.bool] (a0, a1, a2, a3, ()) = f88G K a0 a1 a2 a3 := by
  have key : ∀ (lr : LR Bool), runG (f88E K) Try.f88 [(.ro, (.list 2 (.int .i64))), (.ro, (.int .i64)), (.ro, (.int .i64)), (.ro, (.int .i64))] [.bool] (a0, a1, a2, a3, ()) lr = f88_g K a0 a1 a2 a3 (fun d0 => lr (selC f88C [1, 0, 1, 0, 0]) (f88_fr3 a0 a1 a2 a3 d0) (f88_k3 K a0 a1 a2 a3 lr)) := by intro lr; kernel_rfl
  have h3 : (fun d0 => (realL (f88E K) 1) (selC f88C [1, 0, 1, 0, 0]) (f88_fr3 a0 a1 a2 a3 d0) (f88_k3 K a0 a1 a2 a3 (realL (f88E K) 1))) = fun d0 => f88_l3 K a0 a1 a2 a3 K d0 := by
    funext d0
    exact f88_t3 K a0 a1 a2 a3 d0 K d0
  exact runF_G (n0 := 1) (by rfl) ((key (realL (f88E K) 1)).trans (by rw [h3] <;> rfl))
theorem f49_run (K : Nat) (a0 : Int × (Int × Int × Int) × List Int) : runF (f49E K) Try.f49 [(.ro, (.cons (.int .i64) (.cons (.cons (.int .i64) (.cons (.int .i64) (.int .i64))) (.list 2 (.int .i64)))))] [.bool] (a0, ()) = f49G K a0 := by kernel_rfl
theorem f72_t9 (K : Nat) (a0 : Int × Int × Int) (q7 : Int) (F6 : Fr → Option (List (Int × Int))) (bq7 : Int) (bq8 : List (Int × Int)) (bq10 : Int) (bq11 : List (Int × Int)) : ∀ (n : Nat) (q10 : Int) (q11 : List (Int × Int)), loopN (exec (f72E K) 0 (selC f72C [1, 1, 0, 1, 0, 0, 1, 0, 0, 1, 0, 0])) 0 (f72_fr9 a0 q7 bq10 bq11) n (f72_fr9 a0 q7 q10 q11) (f72_k9 K a0 F6 bq7 bq8 (realL (f72E K) 0)) = f72_l9 K a0 q7 (fun v0 v1 => F6 (f72_fr6 a0 v0 v1)) n q10 q11 := by
  have key : ∀ (lr : LR (List (Int × Int))) (L : Fr → Option (List (Int × Int))) (q10 : Int) (q11 : List (Int × Int)), execG (f72E K) 0 lr (selC f72C [1, 1, 0, 1, 0, 0, 1, 0, 0, 1, 0, 0]) (f72_fr9 a0 q7 q10 q11) (loopK 0 (f72_fr9 a0 q7 bq10 bq11) L (f72_k9 K a0 F6 bq7 bq8 lr)) = f72_b9 K a0 q7 (fun v0 v1 => F6 (f72_fr6 a0 v0 v1)) (fun v0 v1 => L (f72_fr9 a0 q7 v0 v1)) q10 q11 := by
    intro lr L q10 q11; kernel_rfl
  intro n q10 q11
  refine loopN_iter (X := Int × List (Int × Int)) (frame := fun x => (f72_fr9 a0 q7 x.1 x.2)) (body := (fun L x => (fun L9 => f72_b9 K a0 q7 (fun v0 v1 => F6 (f72_fr6 a0 v0 v1)) L9 x.1 x.2) (fun v0 v1 => L (v0, v1)))) (fun L x => ?_) n (q10, q11)
  rw [exec_G]
  exact (key (realL (f72E K) 0) L x.1 x.2).trans (by rfl)
theorem f72_t6 (K : Nat) (a0 : Int × Int × Int) (bq7 : Int) (bq8 : List (Int × Int)) : ∀ (n : Nat) (q7 : Int) (q8 : List (Int × Int)), loopN (exec (f72E K) 0 (selC f72C [1, 1, 0, 1, 0, 0])) 0 (f72_fr6 a0 bq7 bq8) n (f72_fr6 a0 q7 q8) (f72_k6 K a0 (realL (f72E K) 0)) = f72_l6 K a0 n q7 q8 := by
  have key : ∀ (lr : LR (List (Int × Int))) (L : Fr → Option (List (Int × Int))) (q7 : Int) (q8 : List (Int × Int)), execG (f72E K) 0 lr (selC f72C [1, 1, 0, 1, 0, 0]) (f72_fr6 a0 q7 q8) (loopK 0 (f72_fr6 a0 bq7 bq8) L (f72_k6 K a0 lr)) = f72_b6 K a0 (fun c0 d0 d1 => lr (selC f72C [1, 1, 0, 1, 0, 0, 1, 0, 0, 1, 0, 0]) (f72_fr9 a0 c0 d0 d1) (f72_k9 K a0 L bq7 bq8 lr)) (fun v0 v1 => L (f72_fr6 a0 v0 v1)) q7 q8 := by
    intro lr L q7 q8; kernel_rfl
  intro n q7 q8
  refine loopN_iter (X := Int × List (Int × Int)) (frame := fun x => (f72_fr6 a0 x.1 x.2)) (body := (fun L x => (fun L6 => f72_b6 K a0 (fun c0 d0 d1 => f72_l9 K a0 c0 L6 K d0 d1) L6 x.1 x.2) (fun v0 v1 => L (v0, v1)))) (fun L x => ?_) n (q7, q8)
  rw [exec_G]
  have h9 : (fun c0 d0 d1 => (realL (f72E K) 0) (selC f72C [1, 1, 0, 1, 0, 0, 1, 0, 0, 1, 0, 0]) (f72_fr9 a0 c0 d0 d1) (f72_k9 K a0 L bq7 bq8 (realL (f72E K) 0))) = fun c0 d0 d1 => f72_l9 K a0 c0 (fun v0 v1 => L (f72_fr6 a0 v0 v1)) K d0 d1 := by
    funext c0 d0 d1
    exact f72_t9 K a0 c0 L bq7 bq8 d0 d1 K d0 d1
  exact (key (realL (f72E K) 0) L x.1 x.2).trans (by rw [h9] <;> rfl)
theorem f72_run (K : Nat) (a0 : Int × Int × Int) : runF (f72E K) Try.f72 [(.ro, (.cons (.int .i64) (.cons (.int .i64) (.int .i64))))] [(.list 60 (.cons (.int .i64) (.int .i64)))] (a0, ()) = f72G K a0 := by
  have key : ∀ (lr : LR (List (Int × Int))), runG (f72E K) Try.f72 [(.ro, (.cons (.int .i64) (.cons (.int .i64) (.int .i64))))] [(.list 60 (.cons (.int .i64) (.int .i64)))] (a0, ()) lr = f72_g K a0 (fun d0 d1 => lr (selC f72C [1, 1, 0, 1, 0, 0]) (f72_fr6 a0 d0 d1) (f72_k6 K a0 lr)) := by intro lr; kernel_rfl
  have h6 : (fun d0 d1 => (realL (f72E K) 0) (selC f72C [1, 1, 0, 1, 0, 0]) (f72_fr6 a0 d0 d1) (f72_k6 K a0 (realL (f72E K) 0))) = fun d0 d1 => f72_l6 K a0 K d0 d1 := by
    funext d0 d1
    exact f72_t6 K a0 d0 d1 K d0 d1
  exact runF_G (n0 := 0) (by rfl) ((key (realL (f72E K) 0)).trans (by rw [h6] <;> rfl))
theorem f136_run (K : Nat) (a0 : Int × Int × Int) : runF (f136E K) Try.f136 [(.ro, (.cons (.int .i64) (.cons (.int .i64) (.int .i64))))] [(.list 60 (.cons (.int .i64) (.int .i64)))] (a0, ()) = f136G K a0 := by kernel_rfl
theorem f137_run (K : Nat) : runF (f137E K) Try.f137 [] [(.cons (.int .i64) (.cons (.int .i64) (.cons (.int .i64) (.int .i64))))] (()) = f137G K := by kernel_rfl
theorem f158_run (K : Nat) (a0 : Int × Int × Int × Int) (a1 : Int × Int) : runF (f158E K) Try.f158 [(.ro, (.cons (.int .i64) (.cons (.int .i64) (.cons (.int .i64) (.int .i64))))), (.ro, (.cons (.int .i64) (.int .i64)))] [(.cons (.int .i64) (.int .i64))] (a0, a1, ()) = f158G K a0 a1 := by kernel_rfl
theorem f157_run (K : Nat) (a0 : Int × Int) (a1 : Int × Int) : runF (f157E K) Try.f157 [(.ro, (.cons (.int .i64) (.int .i64))), (.ro, (.cons (.int .i64) (.int .i64)))] [(.cons (.int .i64) (.int .i64))] (a0, a1, ()) = f157G K a0 a1 := by kernel_rfl
theorem f113_run (K : Nat) (a0 : (Int × Int × Int × Int) × Int × Int) (a1 : Int × Int) : runF (f113E K) Try.f113 [(.ro, (.cons (.cons (.int .i64) (.cons (.int .i64) (.cons (.int .i64) (.int .i64)))) (.cons (.int .i64) (.int .i64)))), (.ro, (.cons (.int .i64) (.int .i64)))] [(.cons (.int .i64) (.int .i64))] (a0, a1, ()) = f113G K a0 a1 := by kernel_rfl
theorem f156_run (K : Nat) (a0 : Int) (a1 : Int) : runF (f156E K) Try.f156 [(.ro, (.int .i64)), (.ro, (.int .i64))] [(.int .i64)] (a0, a1, ()) = f156G K a0 a1 := by kernel_rfl
theorem f112_run (K : Nat) (a0 : Int × Int × Int) (a1 : Int × Int) : runF (f112E K) Try.f112 [(.ro, (.cons (.int .i64) (.cons (.int .i64) (.int .i64)))), (.ro, (.cons (.int .i64) (.int .i64)))] [(.cons (.int .i64) (.int .i64))] (a0, a1, ()) = f112G K a0 a1 := by kernel_rfl
theorem f104_run (K : Nat) (a0 : Int × Int × Int) (a1 : Int × Int) : runF (f104E K) Try.f104 [(.ro, (.cons (.int .i64) (.cons (.int .i64) (.int .i64)))), (.ro, (.cons (.int .i64) (.int .i64)))] [(.int .i64)] (a0, a1, ()) = f104G K a0 a1 := by kernel_rfl
theorem f135_run (K : Nat) (a0 : Int × (Int × Int × Int) × List Int) (a1 : Int × Int) : runF (f135E K) Try.f135 [(.ro, (.cons (.int .i64) (.cons (.cons (.int .i64) (.cons (.int .i64) (.int .i64))) (.list 2 (.int .i64))))), (.ro, (.cons (.int .i64) (.int .i64)))] [(.int .i64)] (a0, a1, ()) = f135G K a0 a1 := by kernel_rfl
theorem f90_t6 (K : Nat) (a0 : Int × (Int × Int × Int) × List Int) (a1 : (Int × Int × Int × Int) × Int × Int) (y1 : List (Int × Int)) (bq7 : Int) : ∀ (n : Nat) (q7 : Int), loopN (exec (f90E K) 1 (selC f90C [1, 1, 0, 1, 0, 0])) 1 (f90_fr6 a0 a1 y1 bq7) n (f90_fr6 a0 a1 y1 q7) (f90_k6 K a0 a1 (realL (f90E K) 1)) = f90_l6 K a0 a1 y1 n q7 := by
  have key : ∀ (lr : LR Bool) (L : Fr → Option Bool) (q7 : Int), execG (f90E K) 1 lr (selC f90C [1, 1, 0, 1, 0, 0]) (f90_fr6 a0 a1 y1 q7) (loopK 1 (f90_fr6 a0 a1 y1 bq7) L (f90_k6 K a0 a1 lr)) = f90_b6 K a0 a1 y1 (fun v0 => L (f90_fr6 a0 a1 y1 v0)) q7 := by
    intro lr L q7; kernel_rfl
  intro n q7
  refine loopN_iter (X := Int) (frame := fun x => (f90_fr6 a0 a1 y1 x)) (body := (fun L x => (fun L6 => f90_b6 K a0 a1 y1 L6 x) (fun v0 => L v0))) (fun L x => ?_) n q7
  rw [exec_G]
  exact (key (realL (f90E K) 1) L x).trans (by rfl)
theorem f90_run (K : Nat) (a0 : Int × (Int × Int × Int) × List Int) (a1 : (Int × Int × Int × Int) × Int × Int) : runF (f90E K) Try.f90 [(.ro, (.cons (.int .i64) (.cons (.cons (.int .i64) (.cons (.int .i64) (.int .i64))) (.list 2 (.int .i64))))), (.ro, (.cons (.cons (.int .i64) (.cons (.int .i64) (.cons (.int .i64) (.int .i64)))) (.cons (.int .i64) (.int .i64))))] [.bool] (a0, a1, ()) = f90G K a0 a1 := by
  have key : ∀ (lr : LR Bool), runG (f90E K) Try.f90 [(.ro, (.cons (.int .i64) (.cons (.cons (.int .i64) (.cons (.int .i64) (.int .i64))) (.list 2 (.int .i64))))), (.ro, (.cons (.cons (.int .i64) (.cons (.int .i64) (.cons (.int .i64) (.int .i64)))) (.cons (.int .i64) (.int .i64))))] [.bool] (a0, a1, ()) lr = f90_g K a0 a1 (fun c0 d0 => lr (selC f90C [1, 1, 0, 1, 0, 0]) (f90_fr6 a0 a1 c0 d0) (f90_k6 K a0 a1 lr)) := by intro lr; kernel_rfl
  have h6 : (fun c0 d0 => (realL (f90E K) 1) (selC f90C [1, 1, 0, 1, 0, 0]) (f90_fr6 a0 a1 c0 d0) (f90_k6 K a0 a1 (realL (f90E K) 1))) = fun c0 d0 => f90_l6 K a0 a1 c0 K d0 := by
    funext c0 d0
    exact f90_t6 K a0 a1 c0 d0 K d0
  exact runF_G (n0 := 1) (by rfl) ((key (realL (f90E K) 1)).trans (by rw [h6] <;> rfl))
theorem f175_run (K : Nat) (rec : Int → Int → Option Int) (a0 : Int) (a1 : Int) : runF (f175E K rec) Try.f175 [(.ro, (.int .i64)), (.ro, (.int .i64))] [(.int .i64)] (a0, a1, ()) = f175_s K rec a0 a1 := by kernel_rfl
theorem f176_run (K : Nat) (a0 : Int × Int) (a1 : Int) : runF (f176E K) Try.f176 [(.ro, (.cons (.int .i64) (.int .i64))), (.ro, (.int .i64))] [(.cons (.int .i64) (.int .i64))] (a0, a1, ()) = f176G K a0 a1 := by kernel_rfl
theorem f138_t15 (K : Nat) (a0 : List (Int × Int)) (q11 : Int) (q12 : Int) (F10 : Fr → Option (Int × Int × Int)) (bq11 : Int) (bq12 : Int) (bq13 : Int) (bq14 : Int) (bq16 : Int) (bq17 : Int) (bq18 : Int) (bq19 : Int) : ∀ (n : Nat) (q16 : Int) (q17 : Int) (q18 : Int) (q19 : Int), loopN (exec (f138E K) 1 (selC f138C [1, 1, 0, 1, 0, 0, 1, 0, 0, 1, 0, 0, 0])) 1 (f138_fr15 a0 q11 q12 bq16 bq17 bq18 bq19) n (f138_fr15 a0 q11 q12 q16 q17 q18 q19) (f138_k15 K a0 F10 bq11 bq12 bq13 bq14 (realL (f138E K) 1)) = f138_l15 K a0 q11 q12 (fun v0 v1 v2 v3 => F10 (f138_fr10 a0 v0 v1 v2 v3)) n q16 q17 q18 q19 := by
  have key : ∀ (lr : LR (Int × Int × Int)) (L : Fr → Option (Int × Int × Int)) (q16 : Int) (q17 : Int) (q18 : Int) (q19 : Int), execG (f138E K) 1 lr (selC f138C [1, 1, 0, 1, 0, 0, 1, 0, 0, 1, 0, 0, 0]) (f138_fr15 a0 q11 q12 q16 q17 q18 q19) (loopK 1 (f138_fr15 a0 q11 q12 bq16 bq17 bq18 bq19) L (f138_k15 K a0 F10 bq11 bq12 bq13 bq14 lr)) = f138_b15 K a0 q11 q12 (fun v0 v1 v2 v3 => F10 (f138_fr10 a0 v0 v1 v2 v3)) (fun v0 v1 v2 v3 => L (f138_fr15 a0 q11 q12 v0 v1 v2 v3)) q16 q17 q18 q19 := by
    intro lr L q16 q17 q18 q19; kernel_rfl
  intro n q16 q17 q18 q19
  refine loopN_iter (X := Int × Int × Int × Int) (frame := fun x => (f138_fr15 a0 q11 q12 x.1 x.2.1 x.2.2.1 x.2.2.2)) (body := (fun L x => (fun L15 => f138_b15 K a0 q11 q12 (fun v0 v1 v2 v3 => F10 (f138_fr10 a0 v0 v1 v2 v3)) L15 x.1 x.2.1 x.2.2.1 x.2.2.2) (fun v0 v1 v2 v3 => L (v0, v1, v2, v3)))) (fun L x => ?_) n (q16, q17, q18, q19)
  rw [exec_G]
  exact (key (realL (f138E K) 1) L x.1 x.2.1 x.2.2.1 x.2.2.2).trans (by rfl)
theorem f138_t10 (K : Nat) (a0 : List (Int × Int)) (bq11 : Int) (bq12 : Int) (bq13 : Int) (bq14 : Int) : ∀ (n : Nat) (q11 : Int) (q12 : Int) (q13 : Int) (q14 : Int), loopN (exec (f138E K) 1 (selC f138C [1, 1, 0, 1, 0, 0])) 1 (f138_fr10 a0 bq11 bq12 bq13 bq14) n (f138_fr10 a0 q11 q12 q13 q14) (f138_k10 K a0 (realL (f138E K) 1)) = f138_l10 K a0 n q11 q12 q13 q14 := by
  have key : ∀ (lr : LR (Int × Int × Int)) (L : Fr → Option (Int × Int × Int)) (q11 : Int) (q12 : Int) (q13 : Int) (q14 : Int), execG (f138E K) 1 lr (selC f138C [1, 1, 0, 1, 0, 0]) (f138_fr10 a0 q11 q12 q13 q14) (loopK 1 (f138_fr10 a0 bq11 bq12 bq13 bq14) L (f138_k10 K a0 lr)) = f138_b10 K a0 (fun c0 c1 d0 d1 d2 d3 => lr (selC f138C [1, 1, 0, 1, 0, 0, 1, 0, 0, 1, 0, 0, 0]) (f138_fr15 a0 c0 c1 d0 d1 d2 d3) (f138_k15 K a0 L bq11 bq12 bq13 bq14 lr)) (fun v0 v1 v2 v3 => L (f138_fr10 a0 v0 v1 v2 v3)) q11 q12 q13 q14 := by
    intro lr L q11 q12 q13 q14; kernel_rfl
  intro n q11 q12 q13 q14
  refine loopN_iter (X := Int × Int × Int × Int) (frame := fun x => (f138_fr10 a0 x.1 x.2.1 x.2.2.1 x.2.2.2)) (body := (fun L x => (fun L10 => f138_b10 K a0 (fun c0 c1 d0 d1 d2 d3 => f138_l15 K a0 c0 c1 L10 K d0 d1 d2 d3) L10 x.1 x.2.1 x.2.2.1 x.2.2.2) (fun v0 v1 v2 v3 => L (v0, v1, v2, v3)))) (fun L x => ?_) n (q11, q12, q13, q14)
  rw [exec_G]
  have h15 : (fun c0 c1 d0 d1 d2 d3 => (realL (f138E K) 1) (selC f138C [1, 1, 0, 1, 0, 0, 1, 0, 0, 1, 0, 0, 0]) (f138_fr15 a0 c0 c1 d0 d1 d2 d3) (f138_k15 K a0 L bq11 bq12 bq13 bq14 (realL (f138E K) 1))) = fun c0 c1 d0 d1 d2 d3 => f138_l15 K a0 c0 c1 (fun v0 v1 v2 v3 => L (f138_fr10 a0 v0 v1 v2 v3)) K d0 d1 d2 d3 := by
    funext c0 c1 d0 d1 d2 d3
    exact f138_t15 K a0 c0 c1 L bq11 bq12 bq13 bq14 d0 d1 d2 d3 K d0 d1 d2 d3
  exact (key (realL (f138E K) 1) L x.1 x.2.1 x.2.2.1 x.2.2.2).trans (by rw [h15] <;> rfl)
theorem f138_run (K : Nat) (a0 : List (Int × Int)) : runF (f138E K) Try.f138 [(.ro, (.list 60 (.cons (.int .i64) (.int .i64))))] [(.cons (.int .i64) (.cons (.int .i64) (.int .i64)))] (a0, ()) = f138G K a0 := by
  have key : ∀ (lr : LR (Int × Int × Int)), runG (f138E K) Try.f138 [(.ro, (.list 60 (.cons (.int .i64) (.int .i64))))] [(.cons (.int .i64) (.cons (.int .i64) (.int .i64)))] (a0, ()) lr = f138_g K a0 (fun d0 d1 d2 d3 => lr (selC f138C [1, 1, 0, 1, 0, 0]) (f138_fr10 a0 d0 d1 d2 d3) (f138_k10 K a0 lr)) := by intro lr; kernel_rfl
  have h10 : (fun d0 d1 d2 d3 => (realL (f138E K) 1) (selC f138C [1, 1, 0, 1, 0, 0]) (f138_fr10 a0 d0 d1 d2 d3) (f138_k10 K a0 (realL (f138E K) 1))) = fun d0 d1 d2 d3 => f138_l10 K a0 K d0 d1 d2 d3 := by
    funext d0 d1 d2 d3
    exact f138_t10 K a0 d0 d1 d2 d3 K d0 d1 d2 d3
  exact runF_G (n0 := 1) (by rfl) ((key (realL (f138E K) 1)).trans (by rw [h10] <;> rfl))
theorem f92_t6 (K : Nat) (a0 : Int × (Int × Int × Int) × List Int) (y1 : List (Int × Int)) (bq7 : Int) (bq8 : List (Int × Int)) : ∀ (n : Nat) (q7 : Int) (q8 : List (Int × Int)), loopN (exec (f92E K) 1 (selC f92C [1, 1, 1, 0, 1, 0, 0])) 1 (f92_fr6 a0 y1 bq7 bq8) n (f92_fr6 a0 y1 q7 q8) (f92_k6 K a0 (realL (f92E K) 1)) = f92_l6 K a0 y1 n q7 q8 := by
  have key : ∀ (lr : LR (Int × Int × Int)) (L : Fr → Option (Int × Int × Int)) (q7 : Int) (q8 : List (Int × Int)), execG (f92E K) 1 lr (selC f92C [1, 1, 1, 0, 1, 0, 0]) (f92_fr6 a0 y1 q7 q8) (loopK 1 (f92_fr6 a0 y1 bq7 bq8) L (f92_k6 K a0 lr)) = f92_b6 K a0 y1 (fun v0 v1 => L (f92_fr6 a0 y1 v0 v1)) q7 q8 := by
    intro lr L q7 q8; kernel_rfl
  intro n q7 q8
  refine loopN_iter (X := Int × List (Int × Int)) (frame := fun x => (f92_fr6 a0 y1 x.1 x.2)) (body := (fun L x => (fun L6 => f92_b6 K a0 y1 L6 x.1 x.2) (fun v0 v1 => L (v0, v1)))) (fun L x => ?_) n (q7, q8)
  rw [exec_G]
  exact (key (realL (f92E K) 1) L x.1 x.2).trans (by rfl)
theorem f92_run (K : Nat) (a0 : Int × (Int × Int × Int) × List Int) : runF (f92E K) Try.f92 [(.ro, (.cons (.int .i64) (.cons (.cons (.int .i64) (.cons (.int .i64) (.int .i64))) (.list 2 (.int .i64)))))] [(.cons (.int .i64) (.cons (.int .i64) (.int .i64)))] (a0, ()) = f92G K a0 := by
  have key : ∀ (lr : LR (Int × Int × Int)), runG (f92E K) Try.f92 [(.ro, (.cons (.int .i64) (.cons (.cons (.int .i64) (.cons (.int .i64) (.int .i64))) (.list 2 (.int .i64)))))] [(.cons (.int .i64) (.cons (.int .i64) (.int .i64)))] (a0, ()) lr = f92_g K a0 (fun c0 d0 d1 => lr (selC f92C [1, 1, 1, 0, 1, 0, 0]) (f92_fr6 a0 c0 d0 d1) (f92_k6 K a0 lr)) := by intro lr; kernel_rfl
  have h6 : (fun c0 d0 d1 => (realL (f92E K) 1) (selC f92C [1, 1, 1, 0, 1, 0, 0]) (f92_fr6 a0 c0 d0 d1) (f92_k6 K a0 (realL (f92E K) 1))) = fun c0 d0 d1 => f92_l6 K a0 c0 K d0 d1 := by
    funext c0 d0 d1
    exact f92_t6 K a0 c0 d0 d1 K d0 d1
  exact runF_G (n0 := 1) (by rfl) ((key (realL (f92E K) 1)).trans (by rw [h6] <;> rfl))
theorem f91_t4 (K : Nat) (a0 : Int × (Int × Int × Int) × List Int) (a1 : Int × Int × Int) (y1 : List (Int × Int)) (bq5 : Int) (bq6 : List Int) : ∀ (n : Nat) (q5 : Int) (q6 : List Int), loopN (exec (f91E K) 1 (selC f91C [1, 1, 1, 0, 1, 0, 0])) 1 (f91_fr4 a0 a1 y1 bq5 bq6) n (f91_fr4 a0 a1 y1 q5 q6) (f91_k4 K a0 a1 (realL (f91E K) 1)) = f91_l4 K a0 a1 y1 n q5 q6 := by
  have key : ∀ (lr : LR (Int × (Int × Int × Int) × List Int)) (L : Fr → Option (Int × (Int × Int × Int) × List Int)) (q5 : Int) (q6 : List Int), execG (f91E K) 1 lr (selC f91C [1, 1, 1, 0, 1, 0, 0]) (f91_fr4 a0 a1 y1 q5 q6) (loopK 1 (f91_fr4 a0 a1 y1 bq5 bq6) L (f91_k4 K a0 a1 lr)) = f91_b4 K a0 a1 y1 (fun v0 v1 => L (f91_fr4 a0 a1 y1 v0 v1)) q5 q6 := by
    intro lr L q5 q6; kernel_rfl
  intro n q5 q6
  refine loopN_iter (X := Int × List Int) (frame := fun x => (f91_fr4 a0 a1 y1 x.1 x.2)) (body := (fun L x => (fun L4 => f91_b4 K a0 a1 y1 L4 x.1 x.2) (fun v0 v1 => L (v0, v1)))) (fun L x => ?_) n (q5, q6)
  rw [exec_G]
  exact (key (realL (f91E K) 1) L x.1 x.2).trans (by rfl)
theorem f91_run (K : Nat) (a0 : Int × (Int × Int × Int) × List Int) (a1 : Int × Int × Int) : runF (f91E K) Try.f91 [(.ro, (.cons (.int .i64) (.cons (.cons (.int .i64) (.cons (.int .i64) (.int .i64))) (.list 2 (.int .i64))))), (.ro, (.cons (.int .i64) (.cons (.int .i64) (.int .i64))))] [(.cons (.int .i64) (.cons (.cons (.int .i64) (.cons (.int .i64) (.int .i64))) (.list 2 (.int .i64))))] (a0, a1, ()) = f91G K a0 a1 := by
  have key : ∀ (lr : LR (Int × (Int × Int × Int) × List Int)), runG (f91E K) Try.f91 [(.ro, (.cons (.int .i64) (.cons (.cons (.int .i64) (.cons (.int .i64) (.int .i64))) (.list 2 (.int .i64))))), (.ro, (.cons (.int .i64) (.cons (.int .i64) (.int .i64))))] [(.cons (.int .i64) (.cons (.cons (.int .i64) (.cons (.int .i64) (.int .i64))) (.list 2 (.int .i64))))] (a0, a1, ()) lr = f91_g K a0 a1 (fun c0 d0 d1 => lr (selC f91C [1, 1, 1, 0, 1, 0, 0]) (f91_fr4 a0 a1 c0 d0 d1) (f91_k4 K a0 a1 lr)) := by intro lr; kernel_rfl
  have h4 : (fun c0 d0 d1 => (realL (f91E K) 1) (selC f91C [1, 1, 1, 0, 1, 0, 0]) (f91_fr4 a0 a1 c0 d0 d1) (f91_k4 K a0 a1 (realL (f91E K) 1))) = fun c0 d0 d1 => f91_l4 K a0 a1 c0 K d0 d1 := by
    funext c0 d0 d1
    exact f91_t4 K a0 a1 c0 d0 d1 K d0 d1
  exact runF_G (n0 := 1) (by rfl) ((key (realL (f91E K) 1)).trans (by rw [h4] <;> rfl))
theorem f51_run (K : Nat) (a0 : Int × (Int × Int × Int) × List Int) : runF (f51E K) Try.f51 [(.ro, (.cons (.int .i64) (.cons (.cons (.int .i64) (.cons (.int .i64) (.int .i64))) (.list 2 (.int .i64)))))] [(.cons (.int .i64) (.cons (.cons (.int .i64) (.cons (.int .i64) (.int .i64))) (.list 2 (.int .i64))))] (a0, ()) = f51G K a0 := by kernel_rfl
theorem f197_run (K : Nat) (a0 : Int) (a1 : Int × Int) : runF (f197E K) Try.f197 [(.ro, (.int .i64)), (.ro, (.cons (.int .i64) (.int .i64)))] [(.int .i64)] (a0, a1, ()) = f197G K a0 a1 := by kernel_rfl
theorem f174_run (K : Nat) (a0 : Int) (a1 : Int × Int × Int × Int) : runF (f174E K) Try.f174 [(.ro, (.int .i64)), (.ro, (.cons (.int .i64) (.cons (.int .i64) (.cons (.int .i64) (.int .i64)))))] [.bool] (a0, a1, ()) = f174G K a0 a1 := by kernel_rfl
theorem f133_t3 (K : Nat) (a0 : Int) (bq4 : Int) (bq5 : List (Int × Int × Int × Int)) : ∀ (n : Nat) (q4 : Int) (q5 : List (Int × Int × Int × Int)), loopN (exec (f133E K) 0 (selC f133C [1, 1, 0, 1, 0, 0])) 0 (f133_fr3 a0 bq4 bq5) n (f133_fr3 a0 q4 q5) (f133_k3 K a0 (realL (f133E K) 0)) = f133_l3 K a0 n q4 q5 := by
  have key : ∀ (lr : LR (List (Int × Int × Int × Int))) (L : Fr → Option (List (Int × Int × Int × Int))) (q4 : Int) (q5 : List (Int × Int × Int × Int)), execG (f133E K) 0 lr (selC f133C [1, 1, 0, 1, 0, 0]) (f133_fr3 a0 q4 q5) (loopK 0 (f133_fr3 a0 bq4 bq5) L (f133_k3 K a0 lr)) = f133_b3 K a0 (fun v0 v1 => L (f133_fr3 a0 v0 v1)) q4 q5 := by
    intro lr L q4 q5; kernel_rfl
  intro n q4 q5
  refine loopN_iter (X := Int × List (Int × Int × Int × Int)) (frame := fun x => (f133_fr3 a0 x.1 x.2)) (body := (fun L x => (fun L3 => f133_b3 K a0 L3 x.1 x.2) (fun v0 v1 => L (v0, v1)))) (fun L x => ?_) n (q4, q5)
  rw [exec_G]
  exact (key (realL (f133E K) 0) L x.1 x.2).trans (by rfl)
theorem f133_run (K : Nat) (a0 : Int) : runF (f133E K) Try.f133 [(.ro, (.int .i64))] [(.list 86 (.cons (.int .i64) (.cons (.int .i64) (.cons (.int .i64) (.int .i64)))))] (a0, ()) = f133G K a0 := by
  have key : ∀ (lr : LR (List (Int × Int × Int × Int))), runG (f133E K) Try.f133 [(.ro, (.int .i64))] [(.list 86 (.cons (.int .i64) (.cons (.int .i64) (.cons (.int .i64) (.int .i64)))))] (a0, ()) lr = f133_g K a0 (fun d0 d1 => lr (selC f133C [1, 1, 0, 1, 0, 0]) (f133_fr3 a0 d0 d1) (f133_k3 K a0 lr)) := by intro lr; kernel_rfl
  have h3 : (fun d0 d1 => (realL (f133E K) 0) (selC f133C [1, 1, 0, 1, 0, 0]) (f133_fr3 a0 d0 d1) (f133_k3 K a0 (realL (f133E K) 0))) = fun d0 d1 => f133_l3 K a0 K d0 d1 := by
    funext d0 d1
    exact f133_t3 K a0 d0 d1 K d0 d1
  exact runF_G (n0 := 0) (by rfl) ((key (realL (f133E K) 0)).trans (by rw [h3] <;> rfl))
theorem f134_run (K : Nat) (a0 : Int × Int × Int × Int) (a1 : Int × Int × Int) : runF (f134E K) Try.f134 [(.ro, (.cons (.int .i64) (.cons (.int .i64) (.cons (.int .i64) (.int .i64))))), (.ro, (.cons (.int .i64) (.cons (.int .i64) (.int .i64))))] [(.cons (.int .i64) (.cons (.int .i64) (.int .i64)))] (a0, a1, ()) = f134G K a0 a1 := by kernel_rfl
theorem f89_t4 (K : Nat) (a0 : Int) (a1 : Int × Int × Int) (y1 : List (Int × Int × Int × Int)) (bq5 : Int) (bq6 : List (Int × Int × Int × Int)) : ∀ (n : Nat) (q5 : Int) (q6 : List (Int × Int × Int × Int)), loopN (exec (f89E K) 0 (selC f89C [1, 1, 1, 0, 1, 0, 0])) 0 (f89_fr4 a0 a1 y1 bq5 bq6) n (f89_fr4 a0 a1 y1 q5 q6) (f89_k4 K a0 a1 (realL (f89E K) 0)) = f89_l4 K a0 a1 y1 n q5 q6 := by
  have key : ∀ (lr : LR (List (Int × Int × Int × Int))) (L : Fr → Option (List (Int × Int × Int × Int))) (q5 : Int) (q6 : List (Int × Int × Int × Int)), execG (f89E K) 0 lr (selC f89C [1, 1, 1, 0, 1, 0, 0]) (f89_fr4 a0 a1 y1 q5 q6) (loopK 0 (f89_fr4 a0 a1 y1 bq5 bq6) L (f89_k4 K a0 a1 lr)) = f89_b4 K a0 a1 y1 (fun v0 v1 => L (f89_fr4 a0 a1 y1 v0 v1)) q5 q6 := by
    intro lr L q5 q6; kernel_rfl
  intro n q5 q6
  refine loopN_iter (X := Int × List (Int × Int × Int × Int)) (frame := fun x => (f89_fr4 a0 a1 y1 x.1 x.2)) (body := (fun L x => (fun L4 => f89_b4 K a0 a1 y1 L4 x.1 x.2) (fun v0 v1 => L (v0, v1)))) (fun L x => ?_) n (q5, q6)
  rw [exec_G]
  exact (key (realL (f89E K) 0) L x.1 x.2).trans (by rfl)
theorem f89_run (K : Nat) (a0 : Int) (a1 : Int × Int × Int) : runF (f89E K) Try.f89 [(.ro, (.int .i64)), (.ro, (.cons (.int .i64) (.cons (.int .i64) (.int .i64))))] [(.list 86 (.cons (.int .i64) (.cons (.int .i64) (.cons (.int .i64) (.int .i64)))))] (a0, a1, ()) = f89G K a0 a1 := by
  have key : ∀ (lr : LR (List (Int × Int × Int × Int))), runG (f89E K) Try.f89 [(.ro, (.int .i64)), (.ro, (.cons (.int .i64) (.cons (.int .i64) (.int .i64))))] [(.list 86 (.cons (.int .i64) (.cons (.int .i64) (.cons (.int .i64) (.int .i64)))))] (a0, a1, ()) lr = f89_g K a0 a1 (fun c0 d0 d1 => lr (selC f89C [1, 1, 1, 0, 1, 0, 0]) (f89_fr4 a0 a1 c0 d0 d1) (f89_k4 K a0 a1 lr)) := by intro lr; kernel_rfl
  have h4 : (fun c0 d0 d1 => (realL (f89E K) 0) (selC f89C [1, 1, 1, 0, 1, 0, 0]) (f89_fr4 a0 a1 c0 d0 d1) (f89_k4 K a0 a1 (realL (f89E K) 0))) = fun c0 d0 d1 => f89_l4 K a0 a1 c0 K d0 d1 := by
    funext c0 d0 d1
    exact f89_t4 K a0 a1 c0 d0 d1 K d0 d1
  exact runF_G (n0 := 0) (by rfl) ((key (realL (f89E K) 0)).trans (by rw [h4] <;> rfl))
theorem f50_t13 (K : Nat) (a0 : Int × (Int × Int × Int) × List Int) (y1 : List (Int × Int × Int × Int)) (y2 : List (Int × Int)) (q11 : Int) (F10 : Fr → Option (List ((Int × Int × Int × Int) × Int × Int))) (bq11 : Int) (bq12 : List ((Int × Int × Int × Int) × Int × Int)) (bq14 : Int) (bq15 : List ((Int × Int × Int × Int) × Int × Int)) : ∀ (n : Nat) (q14 : Int) (q15 : List ((Int × Int × Int × Int) × Int × Int)), loopN (exec (f50E K) 1 (selC f50C [1, 1, 1, 0, 1, 0, 0, 1, 0, 0, 1, 0, 0])) 1 (f50_fr13 a0 q11 y1 y2 bq14 bq15) n (f50_fr13 a0 q11 y1 y2 q14 q15) (f50_k13 K a0 y1 y2 F10 bq11 bq12 (realL (f50E K) 1)) = f50_l13 K a0 q11 y1 y2 (fun v0 v1 => F10 (f50_fr10 a0 y1 y2 v0 v1)) n q14 q15 := by
  have key : ∀ (lr : LR (List ((Int × Int × Int × Int) × Int × Int))) (L : Fr → Option (List ((Int × Int × Int × Int) × Int × Int))) (q14 : Int) (q15 : List ((Int × Int × Int × Int) × Int × Int)), execG (f50E K) 1 lr (selC f50C [1, 1, 1, 0, 1, 0, 0, 1, 0, 0, 1, 0, 0]) (f50_fr13 a0 q11 y1 y2 q14 q15) (loopK 1 (f50_fr13 a0 q11 y1 y2 bq14 bq15) L (f50_k13 K a0 y1 y2 F10 bq11 bq12 lr)) = f50_b13 K a0 q11 y1 y2 (fun v0 v1 => F10 (f50_fr10 a0 y1 y2 v0 v1)) (fun v0 v1 => L (f50_fr13 a0 q11 y1 y2 v0 v1)) q14 q15 := by
    intro lr L q14 q15; kernel_rfl
  intro n q14 q15
  refine loopN_iter (X := Int × List ((Int × Int × Int × Int) × Int × Int)) (frame := fun x => (f50_fr13 a0 q11 y1 y2 x.1 x.2)) (body := (fun L x => (fun L13 => f50_b13 K a0 q11 y1 y2 (fun v0 v1 => F10 (f50_fr10 a0 y1 y2 v0 v1)) L13 x.1 x.2) (fun v0 v1 => L (v0, v1)))) (fun L x => ?_) n (q14, q15)
  rw [exec_G]
  exact (key (realL (f50E K) 1) L x.1 x.2).trans (by rfl)
theorem f50_t10 (K : Nat) (a0 : Int × (Int × Int × Int) × List Int) (y1 : List (Int × Int × Int × Int)) (y2 : List (Int × Int)) (bq11 : Int) (bq12 : List ((Int × Int × Int × Int) × Int × Int)) : ∀ (n : Nat) (q11 : Int) (q12 : List ((Int × Int × Int × Int) × Int × Int)), loopN (exec (f50E K) 1 (selC f50C [1, 1, 1, 0, 1, 0, 0])) 1 (f50_fr10 a0 y1 y2 bq11 bq12) n (f50_fr10 a0 y1 y2 q11 q12) (f50_k10 K a0 (realL (f50E K) 1)) = f50_l10 K a0 y1 y2 n q11 q12 := by
  have key : ∀ (lr : LR (List ((Int × Int × Int × Int) × Int × Int))) (L : Fr → Option (List ((Int × Int × Int × Int) × Int × Int))) (q11 : Int) (q12 : List ((Int × Int × Int × Int) × Int × Int)), execG (f50E K) 1 lr (selC f50C [1, 1, 1, 0, 1, 0, 0]) (f50_fr10 a0 y1 y2 q11 q12) (loopK 1 (f50_fr10 a0 y1 y2 bq11 bq12) L (f50_k10 K a0 lr)) = f50_b10 K a0 y1 y2 (fun c0 d0 d1 => lr (selC f50C [1, 1, 1, 0, 1, 0, 0, 1, 0, 0, 1, 0, 0]) (f50_fr13 a0 c0 y1 y2 d0 d1) (f50_k13 K a0 y1 y2 L bq11 bq12 lr)) (fun v0 v1 => L (f50_fr10 a0 y1 y2 v0 v1)) q11 q12 := by
    intro lr L q11 q12; kernel_rfl
  intro n q11 q12
  refine loopN_iter (X := Int × List ((Int × Int × Int × Int) × Int × Int)) (frame := fun x => (f50_fr10 a0 y1 y2 x.1 x.2)) (body := (fun L x => (fun L10 => f50_b10 K a0 y1 y2 (fun c0 d0 d1 => f50_l13 K a0 c0 y1 y2 L10 K d0 d1) L10 x.1 x.2) (fun v0 v1 => L (v0, v1)))) (fun L x => ?_) n (q11, q12)
  rw [exec_G]
  have h13 : (fun c0 d0 d1 => (realL (f50E K) 1) (selC f50C [1, 1, 1, 0, 1, 0, 0, 1, 0, 0, 1, 0, 0]) (f50_fr13 a0 c0 y1 y2 d0 d1) (f50_k13 K a0 y1 y2 L bq11 bq12 (realL (f50E K) 1))) = fun c0 d0 d1 => f50_l13 K a0 c0 y1 y2 (fun v0 v1 => L (f50_fr10 a0 y1 y2 v0 v1)) K d0 d1 := by
    funext c0 d0 d1
    exact f50_t13 K a0 y1 y2 c0 L bq11 bq12 d0 d1 K d0 d1
  exact (key (realL (f50E K) 1) L x.1 x.2).trans (by rw [h13] <;> rfl)
theorem f50_run (K : Nat) (a0 : Int × (Int × Int × Int) × List Int) : runF (f50E K) Try.f50 [(.ro, (.cons (.int .i64) (.cons (.cons (.int .i64) (.cons (.int .i64) (.int .i64))) (.list 2 (.int .i64)))))] [(.list 88 (.cons (.cons (.int .i64) (.cons (.int .i64) (.cons (.int .i64) (.int .i64)))) (.cons (.int .i64) (.int .i64))))] (a0, ()) = f50G K a0 := by
  have key : ∀ (lr : LR (List ((Int × Int × Int × Int) × Int × Int))), runG (f50E K) Try.f50 [(.ro, (.cons (.int .i64) (.cons (.cons (.int .i64) (.cons (.int .i64) (.int .i64))) (.list 2 (.int .i64)))))] [(.list 88 (.cons (.cons (.int .i64) (.cons (.int .i64) (.cons (.int .i64) (.int .i64)))) (.cons (.int .i64) (.int .i64))))] (a0, ()) lr = f50_g K a0 (fun c0 c1 d0 d1 => lr (selC f50C [1, 1, 1, 0, 1, 0, 0]) (f50_fr10 a0 c0 c1 d0 d1) (f50_k10 K a0 lr)) := by intro lr; kernel_rfl
  have h10 : (fun c0 c1 d0 d1 => (realL (f50E K) 1) (selC f50C [1, 1, 1, 0, 1, 0, 0]) (f50_fr10 a0 c0 c1 d0 d1) (f50_k10 K a0 (realL (f50E K) 1))) = fun c0 c1 d0 d1 => f50_l10 K a0 c0 c1 K d0 d1 := by
    funext c0 c1 d0 d1
    exact f50_t10 K a0 c0 c1 d0 d1 K d0 d1
  exact runF_G (n0 := 1) (by rfl) ((key (realL (f50E K) 1)).trans (by rw [h10] <;> rfl))
theorem f52_run (K : Nat) (a0 : Int × Int × Int × Int) : runF (f52E K) Try.f52 [(.ro, (.cons (.int .i64) (.cons (.int .i64) (.cons (.int .i64) (.int .i64)))))] [(.int .i64)] (a0, ()) = f52G K a0 := by kernel_rfl
theorem f15_t6 (K : Nat) (a0 : Int × (Int × Int × Int) × List Int) (y1 : Bool) (y3 : List ((Int × Int × Int × Int) × Int × Int)) (bq7 : Int) : ∀ (n : Nat) (q7 : Int), loopN (exec (f15E K) 1 (selC f15C [1, 1, 1, 0, 1, 0, 0])) 1 (f15_fr6 a0 y1 y3 bq7) n (f15_fr6 a0 y1 y3 q7) (f15_k6 K a0 (realL (f15E K) 1)) = f15_l6 K a0 y1 y3 n q7 := by
  have key : ∀ (lr : LR (Bool × Int)) (L : Fr → Option (Bool × Int)) (q7 : Int), execG (f15E K) 1 lr (selC f15C [1, 1, 1, 0, 1, 0, 0]) (f15_fr6 a0 y1 y3 q7) (loopK 1 (f15_fr6 a0 y1 y3 bq7) L (f15_k6 K a0 lr)) = f15_b6 K a0 y1 y3 (fun v0 => L (f15_fr6 a0 y1 y3 v0)) q7 := by
    intro lr L q7; kernel_rfl
  intro n q7
  refine loopN_iter (X := Int) (frame := fun x => (f15_fr6 a0 y1 y3 x)) (body := (fun L x => (fun L6 => f15_b6 K a0 y1 y3 L6 x) (fun v0 => L v0))) (fun L x => ?_) n q7
  rw [exec_G]
  exact (key (realL (f15E K) 1) L x).trans (by rfl)
theorem f15_run (K : Nat) (a0 : Int × (Int × Int × Int) × List Int) : runF (f15E K) Try.f15 [(.ro, (.cons (.int .i64) (.cons (.cons (.int .i64) (.cons (.int .i64) (.int .i64))) (.list 2 (.int .i64)))))] [.bool, (.int .i64)] (a0, ()) = f15G K a0 := by
  have key : ∀ (lr : LR (Bool × Int)), runG (f15E K) Try.f15 [(.ro, (.cons (.int .i64) (.cons (.cons (.int .i64) (.cons (.int .i64) (.int .i64))) (.list 2 (.int .i64)))))] [.bool, (.int .i64)] (a0, ()) lr = f15_g K a0 (fun c0 c1 d0 => lr (selC f15C [1, 1, 1, 0, 1, 0, 0]) (f15_fr6 a0 c0 c1 d0) (f15_k6 K a0 lr)) := by intro lr; kernel_rfl
  have h6 : (fun c0 c1 d0 => (realL (f15E K) 1) (selC f15C [1, 1, 1, 0, 1, 0, 0]) (f15_fr6 a0 c0 c1 d0) (f15_k6 K a0 (realL (f15E K) 1))) = fun c0 c1 d0 => f15_l6 K a0 c0 c1 K d0 := by
    funext c0 c1 d0
    exact f15_t6 K a0 c0 c1 d0 K d0
  exact runF_G (n0 := 1) (by rfl) ((key (realL (f15E K) 1)).trans (by rw [h6] <;> rfl))
theorem f114_run (K : Nat) (a0 : Int) (a1 : Int) (a2 : Int) : runF (f114E K) Try.f114 [(.ro, (.int .i64)), (.ro, (.int .i64)), (.ro, (.int .i64))] [.bool] (a0, a1, a2, ()) = f114G K a0 a1 a2 := by kernel_rfl
theorem f93_run (K : Nat) (a0 : Int) : runF (f93E K) Try.f93 [(.ro, (.int .i64))] [.bool] (a0, ()) = f93G K a0 := by kernel_rfl
theorem f95_run (K : Nat) (a0 : Int × Int × Int) : runF (f95E K) Try.f95 [(.ro, (.cons (.int .i64) (.cons (.int .i64) (.int .i64))))] [(.int .i64)] (a0, ()) = f95G K a0 := by kernel_rfl
theorem f94_run (K : Nat) (a0 : Int × Int × Int) : runF (f94E K) Try.f94 [(.ro, (.cons (.int .i64) (.cons (.int .i64) (.int .i64))))] [.bool] (a0, ()) = f94G K a0 := by kernel_rfl
theorem f140_run (K : Nat) (a0 : Int) (a1 : Int) (a2 : Int) : runF (f140E K) Try.f140 [(.ro, (.int .i64)), (.cap, (.int .i64)), (.cap, (.int .i64))] [.bool] (a0, a1, a2, ()) = f140G K a0 a1 a2 := by kernel_rfl
theorem f177_t3 (K : Nat) (a0 : List Int) (a1 : (Int → Option Bool)) (bq4 : Int) : ∀ (n : Nat) (q4 : Int), loopN (exec (f177E K) 1 (selC f177C [1, 0, 1, 0, 0])) 1 (f177_fr3 a0 a1 bq4) n (f177_fr3 a0 a1 q4) (f177_k3 K a0 a1 (realL (f177E K) 1)) = f177_l3 K a0 a1 n q4 := by
  have key : ∀ (lr : LR Int) (L : Fr → Option Int) (q4 : Int), execG (f177E K) 1 lr (selC f177C [1, 0, 1, 0, 0]) (f177_fr3 a0 a1 q4) (loopK 1 (f177_fr3 a0 a1 bq4) L (f177_k3 K a0 a1 lr)) = f177_b3 K a0 a1 (fun v0 => L (f177_fr3 a0 a1 v0)) q4 := by
    intro lr L q4; kernel_rfl
  intro n q4
  refine loopN_iter (X := Int) (frame := fun x => (f177_fr3 a0 a1 x)) (body := (fun L x => (fun L3 => f177_b3 K a0 a1 L3 x) (fun v0 => L v0))) (fun L x => ?_) n q4
  rw [exec_G]
  exact (key (realL (f177E K) 1) L x).trans (by rfl)
theorem f177_run (K : Nat) (a0 : List Int) (a1 : (Int → Option Bool)) : runF (f177E K) Try.f177 [(.ro, (.list 2 (.int .i64))), (.ro, (.fn1 (.int .i64) .bool))] [(.int .i64)] (a0, a1, ()) = f177G K a0 a1 := by
  have key : ∀ (lr : LR Int), runG (f177E K) Try.f177 [(.ro, (.list 2 (.int .i64))), (.ro, (.fn1 (.int .i64) .bool))] [(.int .i64)] (a0, a1, ()) lr = f177_g K a0 a1 (fun d0 => lr (selC f177C [1, 0, 1, 0, 0]) (f177_fr3 a0 a1 d0) (f177_k3 K a0 a1 lr)) := by intro lr; kernel_rfl
  have h3 : (fun d0 => (realL (f177E K) 1) (selC f177C [1, 0, 1, 0, 0]) (f177_fr3 a0 a1 d0) (f177_k3 K a0 a1 (realL (f177E K) 1))) = fun d0 => f177_l3 K a0 a1 K d0 := by
    funext d0
    exact f177_t3 K a0 a1 d0 K d0
  exact runF_G (n0 := 1) (by rfl) ((key (realL (f177E K) 1)).trans (by rw [h3] <;> rfl))
theorem f139_run (K : Nat) (a0 : List Int) (a1 : (Int → Option Bool)) : runF (f139E K) Try.f139 [(.ro, (.list 2 (.int .i64))), (.ro, (.fn1 (.int .i64) .bool))] [.bool] (a0, a1, ()) = f139G K a0 a1 := by kernel_rfl
theorem f96_run (K : Nat) (a0 : List Int) (a1 : Int) (a2 : Int) : runF (f96E K) Try.f96 [(.ro, (.list 2 (.int .i64))), (.ro, (.int .i64)), (.ro, (.int .i64))] [.bool] (a0, a1, a2, ()) = f96G K a0 a1 a2 := by kernel_rfl
theorem f54_run (K : Nat) (a0 : Int × (Int × Int × Int) × List Int) : runF (f54E K) Try.f54 [(.ro, (.cons (.int .i64) (.cons (.cons (.int .i64) (.cons (.int .i64) (.int .i64))) (.list 2 (.int .i64)))))] [.bool] (a0, ()) = f54G K a0 := by kernel_rfl
theorem f142_run (K : Nat) (a0 : Int × Int × Int) : runF (f142E K) Try.f142 [(.ro, (.cons (.int .i64) (.cons (.int .i64) (.int .i64))))] [(.cons (.int .i64) (.int .i64)), (.cons (.int .i64) (.int .i64))] (a0, ()) = f142G K a0 := by kernel_rfl
theorem f75_t9 (K : Nat) (a0 : Int × Int × Int) (q7 : Int) (F6 : Fr → Option (List (Int × Int))) (bq7 : Int) (bq8 : List (Int × Int)) (bq10 : Int) (bq11 : List (Int × Int)) : ∀ (n : Nat) (q10 : Int) (q11 : List (Int × Int)), loopN (exec (f75E K) 0 (selC f75C [1, 1, 0, 1, 0, 0, 1, 1, 0, 0, 1, 1, 0, 0])) 0 (f75_fr9 a0 q7 bq10 bq11) n (f75_fr9 a0 q7 q10 q11) (f75_k9 K a0 F6 bq7 bq8 (realL (f75E K) 0)) = f75_l9 K a0 q7 (fun v0 v1 => F6 (f75_fr6 a0 v0 v1)) n q10 q11 := by
  have key : ∀ (lr : LR (List (Int × Int))) (L : Fr → Option (List (Int × Int))) (q10 : Int) (q11 : List (Int × Int)), execG (f75E K) 0 lr (selC f75C [1, 1, 0, 1, 0, 0, 1, 1, 0, 0, 1, 1, 0, 0]) (f75_fr9 a0 q7 q10 q11) (loopK 0 (f75_fr9 a0 q7 bq10 bq11) L (f75_k9 K a0 F6 bq7 bq8 lr)) = f75_b9 K a0 q7 (fun v0 v1 => F6 (f75_fr6 a0 v0 v1)) (fun v0 v1 => L (f75_fr9 a0 q7 v0 v1)) q10 q11 := by
    intro lr L q10 q11; kernel_rfl
  intro n q10 q11
  refine loopN_iter (X := Int × List (Int × Int)) (frame := fun x => (f75_fr9 a0 q7 x.1 x.2)) (body := (fun L x => (fun L9 => f75_b9 K a0 q7 (fun v0 v1 => F6 (f75_fr6 a0 v0 v1)) L9 x.1 x.2) (fun v0 v1 => L (v0, v1)))) (fun L x => ?_) n (q10, q11)
  rw [exec_G]
  exact (key (realL (f75E K) 0) L x.1 x.2).trans (by rfl)
theorem f75_t6 (K : Nat) (a0 : Int × Int × Int) (bq7 : Int) (bq8 : List (Int × Int)) : ∀ (n : Nat) (q7 : Int) (q8 : List (Int × Int)), loopN (exec (f75E K) 0 (selC f75C [1, 1, 0, 1, 0, 0])) 0 (f75_fr6 a0 bq7 bq8) n (f75_fr6 a0 q7 q8) (f75_k6 K a0 (realL (f75E K) 0)) = f75_l6 K a0 n q7 q8 := by
  have key : ∀ (lr : LR (List (Int × Int))) (L : Fr → Option (List (Int × Int))) (q7 : Int) (q8 : List (Int × Int)), execG (f75E K) 0 lr (selC f75C [1, 1, 0, 1, 0, 0]) (f75_fr6 a0 q7 q8) (loopK 0 (f75_fr6 a0 bq7 bq8) L (f75_k6 K a0 lr)) = f75_b6 K a0 (fun c0 d0 d1 => lr (selC f75C [1, 1, 0, 1, 0, 0, 1, 1, 0, 0, 1, 1, 0, 0]) (f75_fr9 a0 c0 d0 d1) (f75_k9 K a0 L bq7 bq8 lr)) (fun v0 v1 => L (f75_fr6 a0 v0 v1)) q7 q8 := by
    intro lr L q7 q8; kernel_rfl
  intro n q7 q8
  refine loopN_iter (X := Int × List (Int × Int)) (frame := fun x => (f75_fr6 a0 x.1 x.2)) (body := (fun L x => (fun L6 => f75_b6 K a0 (fun c0 d0 d1 => f75_l9 K a0 c0 L6 K d0 d1) L6 x.1 x.2) (fun v0 v1 => L (v0, v1)))) (fun L x => ?_) n (q7, q8)
  rw [exec_G]
  have h9 : (fun c0 d0 d1 => (realL (f75E K) 0) (selC f75C [1, 1, 0, 1, 0, 0, 1, 1, 0, 0, 1, 1, 0, 0]) (f75_fr9 a0 c0 d0 d1) (f75_k9 K a0 L bq7 bq8 (realL (f75E K) 0))) = fun c0 d0 d1 => f75_l9 K a0 c0 (fun v0 v1 => L (f75_fr6 a0 v0 v1)) K d0 d1 := by
    funext c0 d0 d1
    exact f75_t9 K a0 c0 L bq7 bq8 d0 d1 K d0 d1
  exact (key (realL (f75E K) 0) L x.1 x.2).trans (by rw [h9] <;> rfl)
theorem f75_run (K : Nat) (a0 : Int × Int × Int) : runF (f75E K) Try.f75 [(.ro, (.cons (.int .i64) (.cons (.int .i64) (.int .i64))))] [(.list 60 (.cons (.int .i64) (.int .i64)))] (a0, ()) = f75G K a0 := by
  have key : ∀ (lr : LR (List (Int × Int))), runG (f75E K) Try.f75 [(.ro, (.cons (.int .i64) (.cons (.int .i64) (.int .i64))))] [(.list 60 (.cons (.int .i64) (.int .i64)))] (a0, ()) lr = f75_g K a0 (fun d0 d1 => lr (selC f75C [1, 1, 0, 1, 0, 0]) (f75_fr6 a0 d0 d1) (f75_k6 K a0 lr)) := by intro lr; kernel_rfl
  have h6 : (fun d0 d1 => (realL (f75E K) 0) (selC f75C [1, 1, 0, 1, 0, 0]) (f75_fr6 a0 d0 d1) (f75_k6 K a0 (realL (f75E K) 0))) = fun d0 d1 => f75_l6 K a0 K d0 d1 := by
    funext d0 d1
    exact f75_t6 K a0 d0 d1 K d0 d1
  exact runF_G (n0 := 0) (by rfl) ((key (realL (f75E K) 0)).trans (by rw [h6] <;> rfl))
theorem f119_run (K : Nat) : runF (f119E K) Try.f119 [] [(.cons (.int .i64) (.cons (.int .i64) (.cons (.int .i64) (.int .i64))))] (()) = f119G K := by kernel_rfl
theorem f165_run (K : Nat) (a0 : Int × Int × Int × Int) (a1 : Int × Int) : runF (f165E K) Try.f165 [(.ro, (.cons (.int .i64) (.cons (.int .i64) (.cons (.int .i64) (.int .i64))))), (.ro, (.cons (.int .i64) (.int .i64)))] [(.cons (.int .i64) (.int .i64))] (a0, a1, ()) = f165G K a0 a1 := by kernel_rfl
theorem f178_run (K : Nat) (a0 : Int × Int) (a1 : Int × Int) : runF (f178E K) Try.f178 [(.ro, (.cons (.int .i64) (.int .i64))), (.ro, (.cons (.int .i64) (.int .i64)))] [(.cons (.int .i64) (.int .i64))] (a0, a1, ()) = f178G K a0 a1 := by kernel_rfl
theorem f160_run (K : Nat) (a0 : (Int × Int × Int × Int) × Int × Int) (a1 : Int × Int) : runF (f160E K) Try.f160 [(.ro, (.cons (.cons (.int .i64) (.cons (.int .i64) (.cons (.int .i64) (.int .i64)))) (.cons (.int .i64) (.int .i64)))), (.ro, (.cons (.int .i64) (.int .i64)))] [(.cons (.int .i64) (.int .i64))] (a0, a1, ()) = f160G K a0 a1 := by kernel_rfl
theorem f180_run (K : Nat) (a0 : Int) (a1 : Int) : runF (f180E K) Try.f180 [(.ro, (.int .i64)), (.ro, (.int .i64))] [(.int .i64)] (a0, a1, ()) = f180G K a0 a1 := by kernel_rfl
theorem f159_run (K : Nat) (a0 : Int × Int × Int) (a1 : Int × Int) : runF (f159E K) Try.f159 [(.ro, (.cons (.int .i64) (.cons (.int .i64) (.int .i64)))), (.ro, (.cons (.int .i64) (.int .i64)))] [(.cons (.int .i64) (.int .i64))] (a0, a1, ()) = f159G K a0 a1 := by kernel_rfl
theorem f173_run (K : Nat) (a0 : Int × Int × Int) (a1 : Int × Int) : runF (f173E K) Try.f173 [(.ro, (.cons (.int .i64) (.cons (.int .i64) (.int .i64)))), (.ro, (.cons (.int .i64) (.int .i64)))] [(.int .i64)] (a0, a1, ()) = f173G K a0 a1 := by kernel_rfl
theorem f141_run (K : Nat) (a0 : Int × (Int × Int × Int) × List Int) (a1 : Int × Int) : runF (f141E K) Try.f141 [(.ro, (.cons (.int .i64) (.cons (.cons (.int .i64) (.cons (.int .i64) (.int .i64))) (.list 2 (.int .i64))))), (.ro, (.cons (.int .i64) (.int .i64)))] [(.int .i64)] (a0, a1, ()) = f141G K a0 a1 := by kernel_rfl
theorem f117_t5 (K : Nat) (a0 : Int × (Int × Int × Int) × List Int) (a1 : (Int × Int × Int × Int) × Int × Int) (y1 : List (Int × Int)) (bq6 : Int) : ∀ (n : Nat) (q6 : Int), loopN (exec (f117E K) 1 (selC f117C [1, 0, 1, 0, 0])) 1 (f117_fr5 a0 a1 y1 bq6) n (f117_fr5 a0 a1 y1 q6) (f117_k5 K a0 a1 (realL (f117E K) 1)) = f117_l5 K a0 a1 y1 n q6 := by
  have key : ∀ (lr : LR Bool) (L : Fr → Option Bool) (q6 : Int), execG (f117E K) 1 lr (selC f117C [1, 0, 1, 0, 0]) (f117_fr5 a0 a1 y1 q6) (loopK 1 (f117_fr5 a0 a1 y1 bq6) L (f117_k5 K a0 a1 lr)) = f117_b5 K a0 a1 y1 (fun v0 => L (f117_fr5 a0 a1 y1 v0)) q6 := by
    intro lr L q6; kernel_rfl
  intro n q6
  refine loopN_iter (X := Int) (frame := fun x => (f117_fr5 a0 a1 y1 x)) (body := (fun L x => (fun L5 => f117_b5 K a0 a1 y1 L5 x) (fun v0 => L v0))) (fun L x => ?_) n q6
  rw [exec_G]
  exact (key (realL (f117E K) 1) L x).trans (by rfl)
theorem f117_run (K : Nat) (a0 : Int × (Int × Int × Int) × List Int) (a1 : (Int × Int × Int × Int) × Int × Int) : runF (f117E K) Try.f117 [(.ro, (.cons (.int .i64) (.cons (.cons (.int .i64) (.cons (.int .i64) (.int .i64))) (.list 2 (.int .i64))))), (.ro, (.cons (.cons (.int .i64) (.cons (.int .i64) (.cons (.int .i64) (.int .i64)))) (.cons (.int .i64) (.int .i64))))] [.bool] (a0, a1, ()) = f117G K a0 a1 := by
  have key : ∀ (lr : LR Bool), runG (f117E K) Try.f117 [(.ro, (.cons (.int .i64) (.cons (.cons (.int .i64) (.cons (.int .i64) (.int .i64))) (.list 2 (.int .i64))))), (.ro, (.cons (.cons (.int .i64) (.cons (.int .i64) (.cons (.int .i64) (.int .i64)))) (.cons (.int .i64) (.int .i64))))] [.bool] (a0, a1, ()) lr = f117_g K a0 a1 (fun c0 d0 => lr (selC f117C [1, 0, 1, 0, 0]) (f117_fr5 a0 a1 c0 d0) (f117_k5 K a0 a1 lr)) := by intro lr; kernel_rfl
  have h5 : (fun c0 d0 => (realL (f117E K) 1) (selC f117C [1, 0, 1, 0, 0]) (f117_fr5 a0 a1 c0 d0) (f117_k5 K a0 a1 (realL (f117E K) 1))) = fun c0 d0 => f117_l5 K a0 a1 c0 K d0 := by
    funext c0 d0
    exact f117_t5 K a0 a1 c0 d0 K d0
  exact runF_G (n0 := 1) (by rfl) ((key (realL (f117E K) 1)).trans (by rw [h5] <;> rfl))
theorem f179_run (K : Nat) (a0 : Int × Int) (a1 : Int) : runF (f179E K) Try.f179 [(.ro, (.cons (.int .i64) (.int .i64))), (.ro, (.int .i64))] [(.cons (.int .i64) (.int .i64))] (a0, a1, ()) = f179G K a0 a1 := by kernel_rfl
theorem f146_t2 (K : Nat) (a0 : Int) (a1 : Int) (bq3 : Int) (bq4 : Int) : ∀ (n : Nat) (q3 : Int) (q4 : Int), loopN (exec (f146E K) 0 (selC f146C [1, 0, 0, 0])) 0 (f146_fr2 bq3 bq4) n (f146_fr2 q3 q4) (f146_k2 K a0 a1 (realL (f146E K) 0)) = f146_l2 K n q3 q4 := by
  have key : ∀ (lr : LR Int) (L : Fr → Option Int) (q3 : Int) (q4 : Int), execG (f146E K) 0 lr (selC f146C [1, 0, 0, 0]) (f146_fr2 q3 q4) (loopK 0 (f146_fr2 bq3 bq4) L (f146_k2 K a0 a1 lr)) = f146_b2 K (fun v0 v1 => L (f146_fr2 v0 v1)) q3 q4 := by
    intro lr L q3 q4; kernel_rfl
  intro n q3 q4
  refine loopN_iter (X := Int × Int) (frame := fun x => (f146_fr2 x.1 x.2)) (body := (fun L x => (fun L2 => f146_b2 K L2 x.1 x.2) (fun v0 v1 => L (v0, v1)))) (fun L x => ?_) n (q3, q4)
  rw [exec_G]
  exact (key (realL (f146E K) 0) L x.1 x.2).trans (by rfl)
theorem f146_run (K : Nat) (a0 : Int) (a1 : Int) : runF (f146E K) Try.f146 [(.ro, (.int .i64)), (.ro, (.int .i64))] [(.int .i64)] (a0, a1, ()) = f146G K a0 a1 := by
  have key : ∀ (lr : LR Int), runG (f146E K) Try.f146 [(.ro, (.int .i64)), (.ro, (.int .i64))] [(.int .i64)] (a0, a1, ()) lr = f146_g K a0 a1 (fun d0 d1 => lr (selC f146C [1, 0, 0, 0]) (f146_fr2 d0 d1) (f146_k2 K a0 a1 lr)) := by intro lr; kernel_rfl
  have h2 : (fun d0 d1 => (realL (f146E K) 0) (selC f146C [1, 0, 0, 0]) (f146_fr2 d0 d1) (f146_k2 K a0 a1 (realL (f146E K) 0))) = fun d0 d1 => f146_l2 K K d0 d1 := by
    funext d0 d1
    exact f146_t2 K a0 a1 d0 d1 K d0 d1
  exact runF_G (n0 := 0) (by rfl) ((key (realL (f146E K) 0)).trans (by rw [h2] <;> rfl))
theorem f143_t18 (K : Nat) (a0 : List (Int × Int)) (q14 : Int) (q15 : Int) (F13 : Fr → Option (Int × Int × Int)) (bq14 : Int) (bq15 : Int) (bq16 : Int) (bq17 : Int) (bq19 : Int) (bq20 : Int) (bq21 : Int) (bq22 : Int) : ∀ (n : Nat) (q19 : Int) (q20 : Int) (q21 : Int) (q22 : Int), loopN (exec (f143E K) 1 (selC f143C [1, 1, 0, 1, 0, 0, 1, 1, 0, 0, 1, 0, 0, 0])) 1 (f143_fr18 a0 q14 q15 bq19 bq20 bq21 bq22) n (f143_fr18 a0 q14 q15 q19 q20 q21 q22) (f143_k18 K a0 F13 bq14 bq15 bq16 bq17 (realL (f143E K) 1)) = f143_l18 K a0 q14 q15 (fun v0 v1 v2 v3 => F13 (f143_fr13 a0 v0 v1 v2 v3)) n q19 q20 q21 q22 := by
  have key : ∀ (lr : LR (Int × Int × Int)) (L : Fr → Option (Int × Int × Int)) (q19 : Int) (q20 : Int) (q21 : Int) (q22 : Int), execG (f143E K) 1 lr (selC f143C [1, 1, 0, 1, 0, 0, 1, 1, 0, 0, 1, 0, 0, 0]) (f143_fr18 a0 q14 q15 q19 q20 q21 q22) (loopK 1 (f143_fr18 a0 q14 q15 bq19 bq20 bq21 bq22) L (f143_k18 K a0 F13 bq14 bq15 bq16 bq17 lr)) = f143_b18 K a0 q14 q15 (fun v0 v1 v2 v3 => F13 (f143_fr13 a0 v0 v1 v2 v3)) (fun v0 v1 v2 v3 => L (f143_fr18 a0 q14 q15 v0 v1 v2 v3)) q19 q20 q21 q22 := by
    intro lr L q19 q20 q21 q22; kernel_rfl
  intro n q19 q20 q21 q22
  refine loopN_iter (X := Int × Int × Int × Int) (frame := fun x => (f143_fr18 a0 q14 q15 x.1 x.2.1 x.2.2.1 x.2.2.2)) (body := (fun L x => (fun L18 => f143_b18 K a0 q14 q15 (fun v0 v1 v2 v3 => F13 (f143_fr13 a0 v0 v1 v2 v3)) L18 x.1 x.2.1 x.2.2.1 x.2.2.2) (fun v0 v1 v2 v3 => L (v0, v1, v2, v3)))) (fun L x => ?_) n (q19, q20, q21, q22)
  rw [exec_G]
  exact (key (realL (f143E K) 1) L x.1 x.2.1 x.2.2.1 x.2.2.2).trans (by rfl)
theorem f143_t13 (K : Nat) (a0 : List (Int × Int)) (bq14 : Int) (bq15 : Int) (bq16 : Int) (bq17 : Int) : ∀ (n : Nat) (q14 : Int) (q15 : Int) (q16 : Int) (q17 : Int), loopN (exec (f143E K) 1 (selC f143C [1, 1, 0, 1, 0, 0])) 1 (f143_fr13 a0 bq14 bq15 bq16 bq17) n (f143_fr13 a0 q14 q15 q16 q17) (f143_k13 K a0 (realL (f143E K) 1)) = f143_l13 K a0 n q14 q15 q16 q17 := by
  have key : ∀ (lr : LR (Int × Int × Int)) (L : Fr → Option (Int × Int × Int)) (q14 : Int) (q15 : Int) (q16 : Int) (q17 : Int), execG (f143E K) 1 lr (selC f143C [1, 1, 0, 1, 0, 0]) (f143_fr13 a0 q14 q15 q16 q17) (loopK 1 (f143_fr13 a0 bq14 bq15 bq16 bq17) L (f143_k13 K a0 lr)) = f143_b13 K a0 (fun c0 c1 d0 d1 d2 d3 => lr (selC f143C [1, 1, 0, 1, 0, 0, 1, 1, 0, 0, 1, 0, 0, 0]) (f143_fr18 a0 c0 c1 d0 d1 d2 d3) (f143_k18 K a0 L bq14 bq15 bq16 bq17 lr)) (fun v0 v1 v2 v3 => L (f143_fr13 a0 v0 v1 v2 v3)) q14 q15 q16 q17 := by
    intro lr L q14 q15 q16 q17; kernel_rfl
  intro n q14 q15 q16 q17
  refine loopN_iter (X := Int × Int × Int × Int) (frame := fun x => (f143_fr13 a0 x.1 x.2.1 x.2.2.1 x.2.2.2)) (body := (fun L x => (fun L13 => f143_b13 K a0 (fun c0 c1 d0 d1 d2 d3 => f143_l18 K a0 c0 c1 L13 K d0 d1 d2 d3) L13 x.1 x.2.1 x.2.2.1 x.2.2.2) (fun v0 v1 v2 v3 => L (v0, v1, v2, v3)))) (fun L x => ?_) n (q14, q15, q16, q17)
  rw [exec_G]
  have h18 : (fun c0 c1 d0 d1 d2 d3 => (realL (f143E K) 1) (selC f143C [1, 1, 0, 1, 0, 0, 1, 1, 0, 0, 1, 0, 0, 0]) (f143_fr18 a0 c0 c1 d0 d1 d2 d3) (f143_k18 K a0 L bq14 bq15 bq16 bq17 (realL (f143E K) 1))) = fun c0 c1 d0 d1 d2 d3 => f143_l18 K a0 c0 c1 (fun v0 v1 v2 v3 => L (f143_fr13 a0 v0 v1 v2 v3)) K d0 d1 d2 d3 := by
    funext c0 c1 d0 d1 d2 d3
    exact f143_t18 K a0 c0 c1 L bq14 bq15 bq16 bq17 d0 d1 d2 d3 K d0 d1 d2 d3
  exact (key (realL (f143E K) 1) L x.1 x.2.1 x.2.2.1 x.2.2.2).trans (by rw [h18] <;> rfl)
theorem f143_run (K : Nat) (a0 : List (Int × Int)) : runF (f143E K) Try.f143 [(.ro, (.list 60 (.cons (.int .i64) (.int .i64))))] [(.cons (.int .i64) (.cons (.int .i64) (.int .i64)))] (a0, ()) = f143G K a0 := by
  have key : ∀ (lr : LR (Int × Int × Int)), runG (f143E K) Try.f143 [(.ro, (.list 60 (.cons (.int .i64) (.int .i64))))] [(.cons (.int .i64) (.cons (.int .i64) (.int .i64)))] (a0, ()) lr = f143_g K a0 (fun d0 d1 d2 d3 => lr (selC f143C [1, 1, 0, 1, 0, 0]) (f143_fr13 a0 d0 d1 d2 d3) (f143_k13 K a0 lr)) := by intro lr; kernel_rfl
  have h13 : (fun d0 d1 d2 d3 => (realL (f143E K) 1) (selC f143C [1, 1, 0, 1, 0, 0]) (f143_fr13 a0 d0 d1 d2 d3) (f143_k13 K a0 (realL (f143E K) 1))) = fun d0 d1 d2 d3 => f143_l13 K a0 K d0 d1 d2 d3 := by
    funext d0 d1 d2 d3
    exact f143_t13 K a0 d0 d1 d2 d3 K d0 d1 d2 d3
  exact runF_G (n0 := 1) (by rfl) ((key (realL (f143E K) 1)).trans (by rw [h13] <;> rfl))
theorem f98_t6 (K : Nat) (a0 : Int × (Int × Int × Int) × List Int) (y1 : (Int × Int) × Int × Int) (y2 : List (Int × Int)) (bq7 : Int) (bq8 : List (Int × Int)) : ∀ (n : Nat) (q7 : Int) (q8 : List (Int × Int)), loopN (exec (f98E K) 1 (selC f98C [1, 1, 1, 0, 1, 0, 0])) 1 (f98_fr6 a0 y1 y2 bq7 bq8) n (f98_fr6 a0 y1 y2 q7 q8) (f98_k6 K a0 (realL (f98E K) 1)) = f98_l6 K a0 y1 y2 n q7 q8 := by
  have key : ∀ (lr : LR (Int × Int × Int)) (L : Fr → Option (Int × Int × Int)) (q7 : Int) (q8 : List (Int × Int)), execG (f98E K) 1 lr (selC f98C [1, 1, 1, 0, 1, 0, 0]) (f98_fr6 a0 y1 y2 q7 q8) (loopK 1 (f98_fr6 a0 y1 y2 bq7 bq8) L (f98_k6 K a0 lr)) = f98_b6 K a0 y1 y2 (fun v0 v1 => L (f98_fr6 a0 y1 y2 v0 v1)) q7 q8 := by
    intro lr L q7 q8; kernel_rfl
  intro n q7 q8
  refine loopN_iter (X := Int × List (Int × Int)) (frame := fun x => (f98_fr6 a0 y1 y2 x.1 x.2)) (body := (fun L x => (fun L6 => f98_b6 K a0 y1 y2 L6 x.1 x.2) (fun v0 v1 => L (v0, v1)))) (fun L x => ?_) n (q7, q8)
  rw [exec_G]
  exact (key (realL (f98E K) 1) L x.1 x.2).trans (by rfl)
theorem f98_run (K : Nat) (a0 : Int × (Int × Int × Int) × List Int) : runF (f98E K) Try.f98 [(.ro, (.cons (.int .i64) (.cons (.cons (.int .i64) (.cons (.int .i64) (.int .i64))) (.list 2 (.int .i64)))))] [(.cons (.int .i64) (.cons (.int .i64) (.int .i64)))] (a0, ()) = f98G K a0 := by
  have key : ∀ (lr : LR (Int × Int × Int)), runG (f98E K) Try.f98 [(.ro, (.cons (.int .i64) (.cons (.cons (.int .i64) (.cons (.int .i64) (.int .i64))) (.list 2 (.int .i64)))))] [(.cons (.int .i64) (.cons (.int .i64) (.int .i64)))] (a0, ()) lr = f98_g K a0 (fun c0 c1 d0 d1 => lr (selC f98C [1, 1, 1, 0, 1, 0, 0]) (f98_fr6 a0 c0 c1 d0 d1) (f98_k6 K a0 lr)) := by intro lr; kernel_rfl
  have h6 : (fun c0 c1 d0 d1 => (realL (f98E K) 1) (selC f98C [1, 1, 1, 0, 1, 0, 0]) (f98_fr6 a0 c0 c1 d0 d1) (f98_k6 K a0 (realL (f98E K) 1))) = fun c0 c1 d0 d1 => f98_l6 K a0 c0 c1 K d0 d1 := by
    funext c0 c1 d0 d1
    exact f98_t6 K a0 c0 c1 d0 d1 K d0 d1
  exact runF_G (n0 := 1) (by rfl) ((key (realL (f98E K) 1)).trans (by rw [h6] <;> rfl))
theorem f97_t4 (K : Nat) (a0 : Int × (Int × Int × Int) × List Int) (a1 : Int × Int × Int) (y1 : List (Int × Int)) (bq5 : Int) (bq6 : List Int) : ∀ (n : Nat) (q5 : Int) (q6 : List Int), loopN (exec (f97E K) 1 (selC f97C [1, 1, 0, 1, 0, 0])) 1 (f97_fr4 a0 a1 y1 bq5 bq6) n (f97_fr4 a0 a1 y1 q5 q6) (f97_k4 K a0 a1 (realL (f97E K) 1)) = f97_l4 K a0 a1 y1 n q5 q6 := by
  have key : ∀ (lr : LR (Int × (Int × Int × Int) × List Int)) (L : Fr → Option (Int × (Int × Int × Int) × List Int)) (q5 : Int) (q6 : List Int), execG (f97E K) 1 lr (selC f97C [1, 1, 0, 1, 0, 0]) (f97_fr4 a0 a1 y1 q5 q6) (loopK 1 (f97_fr4 a0 a1 y1 bq5 bq6) L (f97_k4 K a0 a1 lr)) = f97_b4 K a0 a1 y1 (fun v0 v1 => L (f97_fr4 a0 a1 y1 v0 v1)) q5 q6 := by
    intro lr L q5 q6; kernel_rfl
  intro n q5 q6
  refine loopN_iter (X := Int × List Int) (frame := fun x => (f97_fr4 a0 a1 y1 x.1 x.2)) (body := (fun L x => (fun L4 => f97_b4 K a0 a1 y1 L4 x.1 x.2) (fun v0 v1 => L (v0, v1)))) (fun L x => ?_) n (q5, q6)
  rw [exec_G]
  exact (key (realL (f97E K) 1) L x.1 x.2).trans (by rfl)
theorem f97_run (K : Nat) (a0 : Int × (Int × Int × Int) × List Int) (a1 : Int × Int × Int) : runF (f97E K) Try.f97 [(.ro, (.cons (.int .i64) (.cons (.cons (.int .i64) (.cons (.int .i64) (.int .i64))) (.list 2 (.int .i64))))), (.ro, (.cons (.int .i64) (.cons (.int .i64) (.int .i64))))] [(.cons (.int .i64) (.cons (.cons (.int .i64) (.cons (.int .i64) (.int .i64))) (.list 2 (.int .i64))))] (a0, a1, ()) = f97G K a0 a1 := by
  have key : ∀ (lr : LR (Int × (Int × Int × Int) × List Int)), runG (f97E K) Try.f97 [(.ro, (.cons (.int .i64) (.cons (.cons (.int .i64) (.cons (.int .i64) (.int .i64))) (.list 2 (.int .i64))))), (.ro, (.cons (.int .i64) (.cons (.int .i64) (.int .i64))))] [(.cons (.int .i64) (.cons (.cons (.int .i64) (.cons (.int .i64) (.int .i64))) (.list 2 (.int .i64))))] (a0, a1, ()) lr = f97_g K a0 a1 (fun c0 d0 d1 => lr (selC f97C [1, 1, 0, 1, 0, 0]) (f97_fr4 a0 a1 c0 d0 d1) (f97_k4 K a0 a1 lr)) := by intro lr; kernel_rfl
  have h4 : (fun c0 d0 d1 => (realL (f97E K) 1) (selC f97C [1, 1, 0, 1, 0, 0]) (f97_fr4 a0 a1 c0 d0 d1) (f97_k4 K a0 a1 (realL (f97E K) 1))) = fun c0 d0 d1 => f97_l4 K a0 a1 c0 K d0 d1 := by
    funext c0 d0 d1
    exact f97_t4 K a0 a1 c0 d0 d1 K d0 d1
  exact runF_G (n0 := 1) (by rfl) ((key (realL (f97E K) 1)).trans (by rw [h4] <;> rfl))
theorem f55_run (K : Nat) (a0 : Int × (Int × Int × Int) × List Int) : runF (f55E K) Try.f55 [(.ro, (.cons (.int .i64) (.cons (.cons (.int .i64) (.cons (.int .i64) (.int .i64))) (.list 2 (.int .i64)))))] [(.cons (.int .i64) (.cons (.cons (.int .i64) (.cons (.int .i64) (.int .i64))) (.list 2 (.int .i64))))] (a0, ()) = f55G K a0 := by kernel_rfl
theorem f194_run (K : Nat) (a0 : Int) (a1 : Int × Int) : runF (f194E K) Try.f194 [(.ro, (.int .i64)), (.ro, (.cons (.int .i64) (.int .i64)))] [(.int .i64)] (a0, a1, ()) = f194G K a0 a1 := by kernel_rfl
theorem f162_t8 (K : Nat) (a0 : Int) (bq9 : Int) (bq10 : List (Int × Int × Int × Int)) : ∀ (n : Nat) (q9 : Int) (q10 : List (Int × Int × Int × Int)), loopN (exec (f162E K) 0 (selC f162C [1, 1, 0, 1, 0, 0])) 0 (f162_fr8 a0 bq9 bq10) n (f162_fr8 a0 q9 q10) (f162_k8 K a0 (realL (f162E K) 0)) = f162_l8 K a0 n q9 q10 := by
  have key : ∀ (lr : LR (List (Int × Int × Int × Int))) (L : Fr → Option (List (Int × Int × Int × Int))) (q9 : Int) (q10 : List (Int × Int × Int × Int)), execG (f162E K) 0 lr (selC f162C [1, 1, 0, 1, 0, 0]) (f162_fr8 a0 q9 q10) (loopK 0 (f162_fr8 a0 bq9 bq10) L (f162_k8 K a0 lr)) = f162_b8 K a0 (fun v0 v1 => L (f162_fr8 a0 v0 v1)) q9 q10 := by
    intro lr L q9 q10; kernel_rfl
  intro n q9 q10
  refine loopN_iter (X := Int × List (Int × Int × Int × Int)) (frame := fun x => (f162_fr8 a0 x.1 x.2)) (body := (fun L x => (fun L8 => f162_b8 K a0 L8 x.1 x.2) (fun v0 v1 => L (v0, v1)))) (fun L x => ?_) n (q9, q10)
  rw [exec_G]
  exact (key (realL (f162E K) 0) L x.1 x.2).trans (by rfl)
theorem f162_run (K : Nat) (a0 : Int) : runF (f162E K) Try.f162 [(.ro, (.int .i64))] [(.list 86 (.cons (.int .i64) (.cons (.int .i64) (.cons (.int .i64) (.int .i64)))))] (a0, ()) = f162G K a0 := by
  have key : ∀ (lr : LR (List (Int × Int × Int × Int))), runG (f162E K) Try.f162 [(.ro, (.int .i64))] [(.list 86 (.cons (.int .i64) (.cons (.int .i64) (.cons (.int .i64) (.int .i64)))))] (a0, ()) lr = f162_g K a0 (fun d0 d1 => lr (selC f162C [1, 1, 0, 1, 0, 0]) (f162_fr8 a0 d0 d1) (f162_k8 K a0 lr)) := by intro lr; kernel_rfl
  have h8 : (fun d0 d1 => (realL (f162E K) 0) (selC f162C [1, 1, 0, 1, 0, 0]) (f162_fr8 a0 d0 d1) (f162_k8 K a0 (realL (f162E K) 0))) = fun d0 d1 => f162_l8 K a0 K d0 d1 := by
    funext d0 d1
    exact f162_t8 K a0 d0 d1 K d0 d1
  exact runF_G (n0 := 0) (by rfl) ((key (realL (f162E K) 0)).trans (by rw [h8] <;> rfl))
theorem f164_run (K : Nat) (a0 : Int × Int × Int) (a1 : Int × Int) : runF (f164E K) Try.f164 [(.ro, (.cons (.int .i64) (.cons (.int .i64) (.int .i64)))), (.ro, (.cons (.int .i64) (.int .i64)))] [.bool] (a0, a1, ()) = f164G K a0 a1 := by kernel_rfl
theorem f163_run (K : Nat) (a0 : Int × Int × Int × Int) (a1 : Int × Int × Int) (a2 : Int × Int) (a3 : Int × Int) : runF (f163E K) Try.f163 [(.ro, (.cons (.int .i64) (.cons (.int .i64) (.cons (.int .i64) (.int .i64))))), (.cap, (.cons (.int .i64) (.cons (.int .i64) (.int .i64)))), (.cap, (.cons (.int .i64) (.int .i64))), (.cap, (.cons (.int .i64) (.int .i64)))] [.bool] (a0, a1, a2, a3, ()) = f163G K a0 a1 a2 a3 := by kernel_rfl
end Go.Proofs.Ytbgdojniimdihaa.X
