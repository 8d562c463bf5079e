/- Functions of the program as plain Lean functions, and that the program does what they say. Printed by gen.py. -/
import Derived.Test.YthlldmfkdcmcfaaD0
namespace Go.Proofs.Ythlldmfkdcmcfaa.X
open Go
set_option maxRecDepth 100000
set_option linter.unusedVariables false
theorem f84_run (K : Nat) (a0 : (Int × Int × Int × Int) × Int × Int) (a1 : (Int × Int × Int × Int) × Int × Int) : runF (f84E K) Try.f84 [(.ro, (.cons (.cons (.int .i64) (.cons (.int .i64) (.cons (.int .i64) (.int .i64)))) (.cons (.int .i64) (.int .i64)))), (.ro, (.cons (.cons (.int .i64) (.cons (.int .i64) (.cons (.int .i64) (.int .i64)))) (.cons (.int .i64) (.int .i64))))] [(.cons (.cons (.int .i64) (.cons (.int .i64) (.cons (.int .i64) (.int .i64)))) (.cons (.int .i64) (.int .i64)))] (a0, a1, ()) = f84G K a0 a1 := by kernel_rfl
theorem f83_run (K : Nat) (a0 : Int × Int × Int) (a1 : (Int × Int × Int × Int) × Int × Int) : runF (f83E K) Try.f83 [(.ro, (.cons (.int .i64) (.cons (.int .i64) (.int .i64)))), (.ro, (.cons (.cons (.int .i64) (.cons (.int .i64) (.cons (.int .i64) (.int .i64)))) (.cons (.int .i64) (.int .i64))))] [(.cons (.cons (.int .i64) (.cons (.int .i64) (.cons (.int .i64) (.int .i64)))) (.cons (.int .i64) (.int .i64)))] (a0, a1, ()) = f83G K a0 a1 := by kernel_rfl
theorem f64_t23 (K : Nat) (a0 : Int) (a1 : Int × Int × Int) (a2 : List ((Int × Int × Int × Int) × Int × Int)) (q7 : Int) (q8 : List (((Int × Int × Int × Int) × Int × Int) × Bool)) (y1 : List (Int × Int × Int × Int)) (y12 : Int × Int × Int × Int) (q22 : Int) (F21 : Fr → Option Bool) (bq22 : Int) (bq24 : Int) : ∀ (n : Nat) (q24 : Int), loopN (exec (f64E K) 1 (selC f64C [1, 1, 1, 1, 0, 1, 0, 0, 1, 1, 0, 0, 1, 1, 0, 0])) 1 (f64_fr23 a0 a1 a2 q7 q8 q22 y1 y12 bq24) n (f64_fr23 a0 a1 a2 q7 q8 q22 y1 y12 q24) (f64_k23 K a0 a1 a2 q7 q8 y1 y12 F21 bq22 (realL (f64E K) 1)) = f64_l23 K a0 a1 a2 q7 q8 q22 y1 y12 (fun v0 => F21 (f64_fr21 a0 a1 a2 q7 q8 y1 y12 v0)) n q24 := by
  have key : ∀ (lr : LR Bool) (L : Fr → Option Bool) (q24 : Int), execG (f64E K) 1 lr (selC f64C [1, 1, 1, 1, 0, 1, 0, 0, 1, 1, 0, 0, 1, 1, 0, 0]) (f64_fr23 a0 a1 a2 q7 q8 q22 y1 y12 q24) (loopK 1 (f64_fr23 a0 a1 a2 q7 q8 q22 y1 y12 bq24) L (f64_k23 K a0 a1 a2 q7 q8 y1 y12 F21 bq22 lr)) = f64_b23 K a0 a1 a2 q7 q8 q22 y1 y12 (fun v0 => F21 (f64_fr21 a0 a1 a2 q7 q8 y1 y12 v0)) (fun v0 => L (f64_fr23 a0 a1 a2 q7 q8 q22 y1 y12 v0)) q24 := by
    intro lr L q24; kernel_rfl
  intro n q24
  refine loopN_iter (X := Int) (frame := fun x => (f64_fr23 a0 a1 a2 q7 q8 q22 y1 y12 x)) (body := (fun L x => (fun L23 => f64_b23 K a0 a1 a2 q7 q8 q22 y1 y12 (fun v0 => F21 (f64_fr21 a0 a1 a2 q7 q8 y1 y12 v0)) L23 x) (fun v0 => L v0))) (fun L x => ?_) n q24
  rw [exec_G]
  exact (key (realL (f64E K) 1) L x).trans (by rfl)
theorem f64_t21 (K : Nat) (a0 : Int) (a1 : Int × Int × Int) (a2 : List ((Int × Int × Int × Int) × Int × Int)) (q7 : Int) (q8 : List (((Int × Int × Int × Int) × Int × Int) × Bool)) (y1 : List (Int × Int × Int × Int)) (y12 : Int × Int × Int × Int) (bq22 : Int) : ∀ (n : Nat) (q22 : Int), loopN (exec (f64E K) 1 (selC f64C [1, 1, 1, 1, 0, 1, 0, 0])) 1 (f64_fr21 a0 a1 a2 q7 q8 y1 y12 bq22) n (f64_fr21 a0 a1 a2 q7 q8 y1 y12 q22) (f64_k21 K a0 a1 a2 (realL (f64E K) 1)) = f64_l21 K a0 a1 a2 q7 q8 y1 y12 n q22 := by
  have key : ∀ (lr : LR Bool) (L : Fr → Option Bool) (q22 : Int), execG (f64E K) 1 lr (selC f64C [1, 1, 1, 1, 0, 1, 0, 0]) (f64_fr21 a0 a1 a2 q7 q8 y1 y12 q22) (loopK 1 (f64_fr21 a0 a1 a2 q7 q8 y1 y12 bq22) L (f64_k21 K a0 a1 a2 lr)) = f64_b21 K a0 a1 a2 q7 q8 y1 y12 (fun c0 d0 => lr (selC f64C [1, 1, 1, 1, 0, 1, 0, 0, 1, 1, 0, 0, 1, 1, 0, 0]) (f64_fr23 a0 a1 a2 q7 q8 c0 y1 y12 d0) (f64_k23 K a0 a1 a2 q7 q8 y1 y12 L bq22 lr)) (fun v0 => L (f64_fr21 a0 a1 a2 q7 q8 y1 y12 v0)) q22 := by
    intro lr L q22; kernel_rfl
  intro n q22
  refine loopN_iter (X := Int) (frame := fun x => (f64_fr21 a0 a1 a2 q7 q8 y1 y12 x)) (body := (fun L x => (fun L21 => f64_b21 K a0 a1 a2 q7 q8 y1 y12 (fun c0 d0 => f64_l23 K a0 a1 a2 q7 q8 c0 y1 y12 L21 K d0) L21 x) (fun v0 => L v0))) (fun L x => ?_) n q22
  rw [exec_G]
  have h23 : (fun c0 d0 => (realL (f64E K) 1) (selC f64C [1, 1, 1, 1, 0, 1, 0, 0, 1, 1, 0, 0, 1, 1, 0, 0]) (f64_fr23 a0 a1 a2 q7 q8 c0 y1 y12 d0) (f64_k23 K a0 a1 a2 q7 q8 y1 y12 L bq22 (realL (f64E K) 1))) = fun c0 d0 => f64_l23 K a0 a1 a2 q7 q8 c0 y1 y12 (fun v0 => L (f64_fr21 a0 a1 a2 q7 q8 y1 y12 v0)) K d0 := by
    funext c0 d0
    exact f64_t23 K a0 a1 a2 q7 q8 y1 y12 c0 L bq22 d0 K d0
  exact (key (realL (f64E K) 1) L x).trans (by rw [h23] <;> rfl)
theorem f64_t6 (K : Nat) (a0 : Int) (a1 : Int × Int × Int) (a2 : List ((Int × Int × Int × Int) × Int × Int)) (y1 : List (Int × Int × Int × Int)) (bq7 : Int) (bq8 : List (((Int × Int × Int × Int) × Int × Int) × Bool)) : ∀ (n : Nat) (q7 : Int) (q8 : List (((Int × Int × Int × Int) × Int × Int) × Bool)), loopN (exec (f64E K) 1 (selC f64C [1, 1, 0, 1, 0, 0])) 1 (f64_fr6 a0 a1 a2 y1 bq7 bq8) n (f64_fr6 a0 a1 a2 y1 q7 q8) (f64_k6 K a0 a1 a2 (realL (f64E K) 1)) = f64_l6 K a0 a1 a2 y1 n q7 q8 := by
  have key : ∀ (lr : LR Bool) (L : Fr → Option Bool) (q7 : Int) (q8 : List (((Int × Int × Int × Int) × Int × Int) × Bool)), execG (f64E K) 1 lr (selC f64C [1, 1, 0, 1, 0, 0]) (f64_fr6 a0 a1 a2 y1 q7 q8) (loopK 1 (f64_fr6 a0 a1 a2 y1 bq7 bq8) L (f64_k6 K a0 a1 a2 lr)) = f64_b6 K a0 a1 a2 y1 (fun c0 c1 c2 c3 d0 => lr (selC f64C [1, 1, 1, 1, 0, 1, 0, 0]) (f64_fr21 a0 a1 a2 c0 c1 c2 c3 d0) (f64_k21 K a0 a1 a2 lr)) (fun v0 v1 => L (f64_fr6 a0 a1 a2 y1 v0 v1)) q7 q8 := by
    intro lr L q7 q8; kernel_rfl
  intro n q7 q8
  refine loopN_iter (X := Int × List (((Int × Int × Int × Int) × Int × Int) × Bool)) (frame := fun x => (f64_fr6 a0 a1 a2 y1 x.1 x.2)) (body := (fun L x => (fun L6 => f64_b6 K a0 a1 a2 y1 (fun c0 c1 c2 c3 d0 => f64_l21 K a0 a1 a2 c0 c1 c2 c3 K d0) L6 x.1 x.2) (fun v0 v1 => L (v0, v1)))) (fun L x => ?_) n (q7, q8)
  rw [exec_G]
  have h21 : (fun c0 c1 c2 c3 d0 => (realL (f64E K) 1) (selC f64C [1, 1, 1, 1, 0, 1, 0, 0]) (f64_fr21 a0 a1 a2 c0 c1 c2 c3 d0) (f64_k21 K a0 a1 a2 (realL (f64E K) 1))) = fun c0 c1 c2 c3 d0 => f64_l21 K a0 a1 a2 c0 c1 c2 c3 K d0 := by
    funext c0 c1 c2 c3 d0
    exact f64_t21 K a0 a1 a2 c0 c1 c2 c3 d0 K d0
  exact (key (realL (f64E K) 1) L x.1 x.2).trans (by rw [h21] <;> rfl)
theorem f64_run (K : Nat) (a0 : Int) (a1 : Int × Int × Int) (a2 : List ((Int × Int × Int × Int) × Int × Int)) : runF (f64E K) Try.f64 [(.ro, (.int .i64)), (.ro, (.cons (.int .i64) (.cons (.int .i64) (.int .i64)))), (.ro, (.list 57 (.cons (.cons (.int .i64) (.cons (.int .i64) (.cons (.int .i64) (.int .i64)))) (.cons (.int .i64) (.int .i64)))))] [.bool] (a0, a1, a2, ()) = f64G K a0 a1 a2 := by
  have key : ∀ (lr : LR Bool), runG (f64E K) Try.f64 [(.ro, (.int .i64)), (.ro, (.cons (.int .i64) (.cons (.int .i64) (.int .i64)))), (.ro, (.list 57 (.cons (.cons (.int .i64) (.cons (.int .i64) (.cons (.int .i64) (.int .i64)))) (.cons (.int .i64) (.int .i64)))))] [.bool] (a0, a1, a2, ()) lr = f64_g K a0 a1 a2 (fun c0 d0 d1 => lr (selC f64C [1, 1, 0, 1, 0, 0]) (f64_fr6 a0 a1 a2 c0 d0 d1) (f64_k6 K a0 a1 a2 lr)) := by intro lr; kernel_rfl
  have h6 : (fun c0 d0 d1 => (realL (f64E K) 1) (selC f64C [1, 1, 0, 1, 0, 0]) (f64_fr6 a0 a1 a2 c0 d0 d1) (f64_k6 K a0 a1 a2 (realL (f64E K) 1))) = fun c0 d0 d1 => f64_l6 K a0 a1 a2 c0 K d0 d1 := by
    funext c0 d0 d1
    exact f64_t6 K a0 a1 a2 c0 d0 d1 K d0 d1
  exact runF_G (n0 := 1) (by rfl) ((key (realL (f64E K) 1)).trans (by rw [h6] <;> rfl))
theorem f42_t4 (K : Nat) (a0 : Int) (a1 : Int × Int × Int) (a2 : List (List ((Int × Int × Int × Int) × Int × Int))) (y1 : Int) (bq5 : Int) : ∀ (n : Nat) (q5 : Int), loopN (exec (f42E K) 1 (selC f42C [1, 1, 0, 1, 0, 0])) 1 (f42_fr4 a0 a1 a2 y1 bq5) n (f42_fr4 a0 a1 a2 y1 q5) (f42_k4 K a0 a1 a2 (realL (f42E K) 1)) = f42_l4 K a0 a1 a2 y1 n q5 := by
  have key : ∀ (lr : LR Int) (L : Fr → Option Int) (q5 : Int), execG (f42E K) 1 lr (selC f42C [1, 1, 0, 1, 0, 0]) (f42_fr4 a0 a1 a2 y1 q5) (loopK 1 (f42_fr4 a0 a1 a2 y1 bq5) L (f42_k4 K a0 a1 a2 lr)) = f42_b4 K a0 a1 a2 y1 (fun v0 => L (f42_fr4 a0 a1 a2 y1 v0)) q5 := by
    intro lr L q5; kernel_rfl
  intro n q5
  refine loopN_iter (X := Int) (frame := fun x => (f42_fr4 a0 a1 a2 y1 x)) (body := (fun L x => (fun L4 => f42_b4 K a0 a1 a2 y1 L4 x) (fun v0 => L v0))) (fun L x => ?_) n q5
  rw [exec_G]
  exact (key (realL (f42E K) 1) L x).trans (by rfl)
theorem f42_run (K : Nat) (a0 : Int) (a1 : Int × Int × Int) (a2 : List (List ((Int × Int × Int × Int) × Int × Int))) : runF (f42E K) Try.f42 [(.ro, (.int .i64)), (.ro, (.cons (.int .i64) (.cons (.int .i64) (.int .i64)))), (.ro, (.list 32 (.list 57 (.cons (.cons (.int .i64) (.cons (.int .i64) (.cons (.int .i64) (.int .i64)))) (.cons (.int .i64) (.int .i64))))))] [(.int .i64)] (a0, a1, a2, ()) = f42G K a0 a1 a2 := by
  have key : ∀ (lr : LR Int), runG (f42E K) Try.f42 [(.ro, (.int .i64)), (.ro, (.cons (.int .i64) (.cons (.int .i64) (.int .i64)))), (.ro, (.list 32 (.list 57 (.cons (.cons (.int .i64) (.cons (.int .i64) (.cons (.int .i64) (.int .i64)))) (.cons (.int .i64) (.int .i64))))))] [(.int .i64)] (a0, a1, a2, ()) lr = f42_g K a0 a1 a2 (fun c0 d0 => lr (selC f42C [1, 1, 0, 1, 0, 0]) (f42_fr4 a0 a1 a2 c0 d0) (f42_k4 K a0 a1 a2 lr)) := by intro lr; kernel_rfl
  have h4 : (fun c0 d0 => (realL (f42E K) 1) (selC f42C [1, 1, 0, 1, 0, 0]) (f42_fr4 a0 a1 a2 c0 d0) (f42_k4 K a0 a1 a2 (realL (f42E K) 1))) = fun c0 d0 => f42_l4 K a0 a1 a2 c0 K d0 := by
    funext c0 d0
    exact f42_t4 K a0 a1 a2 c0 d0 K d0
  exact runF_G (n0 := 1) (by rfl) ((key (realL (f42E K) 1)).trans (by rw [h4] <;> rfl))
theorem f23_run (K : Nat) (a0 : Int) (a1 : Int × Int × Int) (a2 : List ((Int × Int × Int × Int) × Int × Int)) (a3 : List (Int × Int)) : runF (f23E K) Try.f23 [(.ro, (.int .i64)), (.ro, (.cons (.int .i64) (.cons (.int .i64) (.int .i64)))), (.ro, (.list 57 (.cons (.cons (.int .i64) (.cons (.int .i64) (.cons (.int .i64) (.int .i64)))) (.cons (.int .i64) (.int .i64))))), (.ro, (.list 55 (.cons (.int .i64) (.int .i64))))] [(.int .i64)] (a0, a1, a2, a3, ()) = f23G K a0 a1 a2 a3 := by kernel_rfl
theorem f85_run (K : Nat) (a0 : (Int × Int × Int × Int) × Int × Int) (a1 : Int × Int) : runF (f85E K) Try.f85 [(.ro, (.cons (.cons (.int .i64) (.cons (.int .i64) (.cons (.int .i64) (.int .i64)))) (.cons (.int .i64) (.int .i64)))), (.ro, (.cons (.int .i64) (.int .i64)))] [(.cons (.int .i64) (.int .i64))] (a0, a1, ()) = f85G K a0 a1 := by kernel_rfl
theorem f65_run (K : Nat) (a0 : Int × Int × Int) (a1 : (Int × Int × Int × Int) × Int × Int) (a2 : Int × Int) : runF (f65E K) Try.f65 [(.ro, (.cons (.int .i64) (.cons (.int .i64) (.int .i64)))), (.ro, (.cons (.cons (.int .i64) (.cons (.int .i64) (.cons (.int .i64) (.int .i64)))) (.cons (.int .i64) (.int .i64)))), (.ro, (.cons (.int .i64) (.int .i64)))] [(.cons (.int .i64) (.int .i64))] (a0, a1, a2, ()) = f65G K a0 a1 a2 := by kernel_rfl
theorem f43_t11 (K : Nat) (a0 : Int × Int × Int) (a1 : List ((Int × Int × Int × Int) × Int × Int)) (a2 : List (Int × Int)) (q9 : Int) (q10 : List (List (Int × Int))) (F8 : Fr → Option (List (List (Int × Int)))) (bq9 : Int) (bq10 : List (List (Int × Int))) (bq12 : Int) (bq13 : List (Int × Int)) : ∀ (n : Nat) (q12 : Int) (q13 : List (Int × Int)), loopN (exec (f43E K) 2 (selC f43C [1, 1, 0, 1, 0, 0, 1, 1, 0, 0, 1, 1, 0, 1, 0, 0])) 2 (f43_fr11 a0 a1 a2 q9 q10 bq12 bq13) n (f43_fr11 a0 a1 a2 q9 q10 q12 q13) (f43_k11 K a0 a1 a2 F8 bq9 bq10 (realL (f43E K) 2)) = f43_l11 K a0 a1 a2 q9 q10 (fun v0 v1 => F8 (f43_fr8 a0 a1 a2 v0 v1)) n q12 q13 := by
  have key : ∀ (lr : LR (List (List (Int × Int)))) (L : Fr → Option (List (List (Int × Int)))) (q12 : Int) (q13 : List (Int × Int)), execG (f43E K) 2 lr (selC f43C [1, 1, 0, 1, 0, 0, 1, 1, 0, 0, 1, 1, 0, 1, 0, 0]) (f43_fr11 a0 a1 a2 q9 q10 q12 q13) (loopK 2 (f43_fr11 a0 a1 a2 q9 q10 bq12 bq13) L (f43_k11 K a0 a1 a2 F8 bq9 bq10 lr)) = f43_b11 K a0 a1 a2 q9 q10 (fun v0 v1 => F8 (f43_fr8 a0 a1 a2 v0 v1)) (fun v0 v1 => L (f43_fr11 a0 a1 a2 q9 q10 v0 v1)) q12 q13 := by
    intro lr L q12 q13; kernel_rfl
  intro n q12 q13
  refine loopN_iter (X := Int × List (Int × Int)) (frame := fun x => (f43_fr11 a0 a1 a2 q9 q10 x.1 x.2)) (body := (fun L x => (fun L11 => f43_b11 K a0 a1 a2 q9 q10 (fun v0 v1 => F8 (f43_fr8 a0 a1 a2 v0 v1)) L11 x.1 x.2) (fun v0 v1 => L (v0, v1)))) (fun L x => ?_) n (q12, q13)
  rw [exec_G]
  exact (key (realL (f43E K) 2) L x.1 x.2).trans (by rfl)
theorem f43_t8 (K : Nat) (a0 : Int × Int × Int) (a1 : List ((Int × Int × Int × Int) × Int × Int)) (a2 : List (Int × Int)) (bq9 : Int) (bq10 : List (List (Int × Int))) : ∀ (n : Nat) (q9 : Int) (q10 : List (List (Int × Int))), loopN (exec (f43E K) 2 (selC f43C [1, 1, 0, 1, 0, 0])) 2 (f43_fr8 a0 a1 a2 bq9 bq10) n (f43_fr8 a0 a1 a2 q9 q10) (f43_k8 K a0 a1 a2 (realL (f43E K) 2)) = f43_l8 K a0 a1 a2 n q9 q10 := by
  have key : ∀ (lr : LR (List (List (Int × Int)))) (L : Fr → Option (List (List (Int × Int)))) (q9 : Int) (q10 : List (List (Int × Int))), execG (f43E K) 2 lr (selC f43C [1, 1, 0, 1, 0, 0]) (f43_fr8 a0 a1 a2 q9 q10) (loopK 2 (f43_fr8 a0 a1 a2 bq9 bq10) L (f43_k8 K a0 a1 a2 lr)) = f43_b8 K a0 a1 a2 (fun c0 c1 d0 d1 => lr (selC f43C [1, 1, 0, 1, 0, 0, 1, 1, 0, 0, 1, 1, 0, 1, 0, 0]) (f43_fr11 a0 a1 a2 c0 c1 d0 d1) (f43_k11 K a0 a1 a2 L bq9 bq10 lr)) (fun v0 v1 => L (f43_fr8 a0 a1 a2 v0 v1)) q9 q10 := by
    intro lr L q9 q10; kernel_rfl
  intro n q9 q10
  refine loopN_iter (X := Int × List (List (Int × Int))) (frame := fun x => (f43_fr8 a0 a1 a2 x.1 x.2)) (body := (fun L x => (fun L8 => f43_b8 K a0 a1 a2 (fun c0 c1 d0 d1 => f43_l11 K a0 a1 a2 c0 c1 L8 K d0 d1) L8 x.1 x.2) (fun v0 v1 => L (v0, v1)))) (fun L x => ?_) n (q9, q10)
  rw [exec_G]
  have h11 : (fun c0 c1 d0 d1 => (realL (f43E K) 2) (selC f43C [1, 1, 0, 1, 0, 0, 1, 1, 0, 0, 1, 1, 0, 1, 0, 0]) (f43_fr11 a0 a1 a2 c0 c1 d0 d1) (f43_k11 K a0 a1 a2 L bq9 bq10 (realL (f43E K) 2))) = fun c0 c1 d0 d1 => f43_l11 K a0 a1 a2 c0 c1 (fun v0 v1 => L (f43_fr8 a0 a1 a2 v0 v1)) K d0 d1 := by
    funext c0 c1 d0 d1
    exact f43_t11 K a0 a1 a2 c0 c1 L bq9 bq10 d0 d1 K d0 d1
  exact (key (realL (f43E K) 2) L x.1 x.2).trans (by rw [h11] <;> rfl)
theorem f43_run (K : Nat) (a0 : Int × Int × Int) (a1 : List ((Int × Int × Int × Int) × Int × Int)) (a2 : List (Int × Int)) : runF (f43E K) Try.f43 [(.ro, (.cons (.int .i64) (.cons (.int .i64) (.int .i64)))), (.ro, (.list 57 (.cons (.cons (.int .i64) (.cons (.int .i64) (.cons (.int .i64) (.int .i64)))) (.cons (.int .i64) (.int .i64))))), (.ro, (.list 55 (.cons (.int .i64) (.int .i64))))] [(.list 34 (.list 55 (.cons (.int .i64) (.int .i64))))] (a0, a1, a2, ()) = f43G K a0 a1 a2 := by
  have key : ∀ (lr : LR (List (List (Int × Int)))), runG (f43E K) Try.f43 [(.ro, (.cons (.int .i64) (.cons (.int .i64) (.int .i64)))), (.ro, (.list 57 (.cons (.cons (.int .i64) (.cons (.int .i64) (.cons (.int .i64) (.int .i64)))) (.cons (.int .i64) (.int .i64))))), (.ro, (.list 55 (.cons (.int .i64) (.int .i64))))] [(.list 34 (.list 55 (.cons (.int .i64) (.int .i64))))] (a0, a1, a2, ()) lr = f43_g K a0 a1 a2 (fun d0 d1 => lr (selC f43C [1, 1, 0, 1, 0, 0]) (f43_fr8 a0 a1 a2 d0 d1) (f43_k8 K a0 a1 a2 lr)) := by intro lr; kernel_rfl
  have h8 : (fun d0 d1 => (realL (f43E K) 2) (selC f43C [1, 1, 0, 1, 0, 0]) (f43_fr8 a0 a1 a2 d0 d1) (f43_k8 K a0 a1 a2 (realL (f43E K) 2))) = fun d0 d1 => f43_l8 K a0 a1 a2 K d0 d1 := by
    funext d0 d1
    exact f43_t8 K a0 a1 a2 d0 d1 K d0 d1
  exact runF_G (n0 := 2) (by rfl) ((key (realL (f43E K) 2)).trans (by rw [h8] <;> rfl))
theorem f24_t10 (K : Nat) (a0 : Int × Int × Int) (a1 : List ((Int × Int × Int × Int) × Int × Int)) (a2 : List (Int × Int)) (y1 : List (List (Int × Int))) (q8 : Int) (F7 : Fr → Option Bool) (bq8 : Int) (bq9 : List ((Int × Int) × Bool)) (bq11 : Int) (bq12 : List ((Int × Int) × Bool)) : ∀ (n : Nat) (q11 : Int) (q12 : List ((Int × Int) × Bool)), loopN (exec (f24E K) 2 (selC f24C [1, 1, 0, 1, 0, 0, 1, 1, 0, 0, 1, 1, 0, 0])) 2 (f24_fr10 a0 a1 a2 q8 y1 bq11 bq12) n (f24_fr10 a0 a1 a2 q8 y1 q11 q12) (f24_k10 K a0 a1 a2 y1 F7 bq8 bq9 (realL (f24E K) 2)) = f24_l10 K a0 a1 a2 q8 y1 (fun v0 v1 => F7 (f24_fr7 a0 a1 a2 y1 v0 v1)) n q11 q12 := by
  have key : ∀ (lr : LR Bool) (L : Fr → Option Bool) (q11 : Int) (q12 : List ((Int × Int) × Bool)), execG (f24E K) 2 lr (selC f24C [1, 1, 0, 1, 0, 0, 1, 1, 0, 0, 1, 1, 0, 0]) (f24_fr10 a0 a1 a2 q8 y1 q11 q12) (loopK 2 (f24_fr10 a0 a1 a2 q8 y1 bq11 bq12) L (f24_k10 K a0 a1 a2 y1 F7 bq8 bq9 lr)) = f24_b10 K a0 a1 a2 q8 y1 (fun v0 v1 => F7 (f24_fr7 a0 a1 a2 y1 v0 v1)) (fun v0 v1 => L (f24_fr10 a0 a1 a2 q8 y1 v0 v1)) q11 q12 := by
    intro lr L q11 q12; kernel_rfl
  intro n q11 q12
  refine loopN_iter (X := Int × List ((Int × Int) × Bool)) (frame := fun x => (f24_fr10 a0 a1 a2 q8 y1 x.1 x.2)) (body := (fun L x => (fun L10 => f24_b10 K a0 a1 a2 q8 y1 (fun v0 v1 => F7 (f24_fr7 a0 a1 a2 y1 v0 v1)) L10 x.1 x.2) (fun v0 v1 => L (v0, v1)))) (fun L x => ?_) n (q11, q12)
  rw [exec_G]
  exact (key (realL (f24E K) 2) L x.1 x.2).trans (by rfl)
theorem f24_t7 (K : Nat) (a0 : Int × Int × Int) (a1 : List ((Int × Int × Int × Int) × Int × Int)) (a2 : List (Int × Int)) (y1 : List (List (Int × Int))) (bq8 : Int) (bq9 : List ((Int × Int) × Bool)) : ∀ (n : Nat) (q8 : Int) (q9 : List ((Int × Int) × Bool)), loopN (exec (f24E K) 2 (selC f24C [1, 1, 0, 1, 0, 0])) 2 (f24_fr7 a0 a1 a2 y1 bq8 bq9) n (f24_fr7 a0 a1 a2 y1 q8 q9) (f24_k7 K a0 a1 a2 (realL (f24E K) 2)) = f24_l7 K a0 a1 a2 y1 n q8 q9 := by
  have key : ∀ (lr : LR Bool) (L : Fr → Option Bool) (q8 : Int) (q9 : List ((Int × Int) × Bool)), execG (f24E K) 2 lr (selC f24C [1, 1, 0, 1, 0, 0]) (f24_fr7 a0 a1 a2 y1 q8 q9) (loopK 2 (f24_fr7 a0 a1 a2 y1 bq8 bq9) L (f24_k7 K a0 a1 a2 lr)) = f24_b7 K a0 a1 a2 y1 (fun c0 d0 d1 => lr (selC f24C [1, 1, 0, 1, 0, 0, 1, 1, 0, 0, 1, 1, 0, 0]) (f24_fr10 a0 a1 a2 c0 y1 d0 d1) (f24_k10 K a0 a1 a2 y1 L bq8 bq9 lr)) (fun v0 v1 => L (f24_fr7 a0 a1 a2 y1 v0 v1)) q8 q9 := by
    intro lr L q8 q9; kernel_rfl
  intro n q8 q9
  refine loopN_iter (X := Int × List ((Int × Int) × Bool)) (frame := fun x => (f24_fr7 a0 a1 a2 y1 x.1 x.2)) (body := (fun L x => (fun L7 => f24_b7 K a0 a1 a2 y1 (fun c0 d0 d1 => f24_l10 K a0 a1 a2 c0 y1 L7 K d0 d1) L7 x.1 x.2) (fun v0 v1 => L (v0, v1)))) (fun L x => ?_) n (q8, q9)
  rw [exec_G]
  have h10 : (fun c0 d0 d1 => (realL (f24E K) 2) (selC f24C [1, 1, 0, 1, 0, 0, 1, 1, 0, 0, 1, 1, 0, 0]) (f24_fr10 a0 a1 a2 c0 y1 d0 d1) (f24_k10 K a0 a1 a2 y1 L bq8 bq9 (realL (f24E K) 2))) = fun c0 d0 d1 => f24_l10 K a0 a1 a2 c0 y1 (fun v0 v1 => L (f24_fr7 a0 a1 a2 y1 v0 v1)) K d0 d1 := by
    funext c0 d0 d1
    exact f24_t10 K a0 a1 a2 y1 c0 L bq8 bq9 d0 d1 K d0 d1
  exact (key (realL (f24E K) 2) L x.1 x.2).trans (by rw [h10] <;> rfl)
theorem f24_run (K : Nat) (a0 : Int × Int × Int) (a1 : List ((Int × Int × Int × Int) × Int × Int)) (a2 : List (Int × Int)) : runF (f24E K) Try.f24 [(.ro, (.cons (.int .i64) (.cons (.int .i64) (.int .i64)))), (.ro, (.list 57 (.cons (.cons (.int .i64) (.cons (.int .i64) (.cons (.int .i64) (.int .i64)))) (.cons (.int .i64) (.int .i64))))), (.ro, (.list 55 (.cons (.int .i64) (.int .i64))))] [.bool] (a0, a1, a2, ()) = f24G K a0 a1 a2 := by
  have key : ∀ (lr : LR Bool), runG (f24E K) Try.f24 [(.ro, (.cons (.int .i64) (.cons (.int .i64) (.int .i64)))), (.ro, (.list 57 (.cons (.cons (.int .i64) (.cons (.int .i64) (.cons (.int .i64) (.int .i64)))) (.cons (.int .i64) (.int .i64))))), (.ro, (.list 55 (.cons (.int .i64) (.int .i64))))] [.bool] (a0, a1, a2, ()) lr = f24_g K a0 a1 a2 (fun c0 d0 d1 => lr (selC f24C [1, 1, 0, 1, 0, 0]) (f24_fr7 a0 a1 a2 c0 d0 d1) (f24_k7 K a0 a1 a2 lr)) := by intro lr; kernel_rfl
  have h7 : (fun c0 d0 d1 => (realL (f24E K) 2) (selC f24C [1, 1, 0, 1, 0, 0]) (f24_fr7 a0 a1 a2 c0 d0 d1) (f24_k7 K a0 a1 a2 (realL (f24E K) 2))) = fun c0 d0 d1 => f24_l7 K a0 a1 a2 c0 K d0 d1 := by
    funext c0 d0 d1
    exact f24_t7 K a0 a1 a2 c0 d0 d1 K d0 d1
  exact runF_G (n0 := 2) (by rfl) ((key (realL (f24E K) 2)).trans (by rw [h7] <;> rfl))
theorem f11_run (K : Nat) (a0 : Int) (a1 : Int × Int × Int) (a2 : List ((Int × Int × Int × Int) × Int × Int)) (a3 : List (Int × Int)) : runF (f11E K) Try.f11 [(.ro, (.int .i64)), (.ro, (.cons (.int .i64) (.cons (.int .i64) (.int .i64)))), (.ro, (.list 57 (.cons (.cons (.int .i64) (.cons (.int .i64) (.cons (.int .i64) (.int .i64)))) (.cons (.int .i64) (.int .i64))))), (.ro, (.list 55 (.cons (.int .i64) (.int .i64))))] [.bool, (.int .i64)] (a0, a1, a2, a3, ()) = f11G K a0 a1 a2 a3 := by kernel_rfl
theorem f45_run (K : Nat) (a0 : Int × Int × Int × Int) (a1 : Int × Int × Int × Int) : runF (f45E K) Try.f45 [(.ro, (.cons (.int .i64) (.cons (.int .i64) (.cons (.int .i64) (.int .i64))))), (.ro, (.cons (.int .i64) (.cons (.int .i64) (.cons (.int .i64) (.int .i64)))))] [.bool] (a0, a1, ()) = f45G K a0 a1 := by kernel_rfl
theorem f26_run (K : Nat) (a0 : Int × Int) (a1 : Int × Int) : runF (f26E K) Try.f26 [(.ro, (.cons (.int .i64) (.int .i64))), (.ro, (.cons (.int .i64) (.int .i64)))] [.bool] (a0, a1, ()) = f26G K a0 a1 := by kernel_rfl
theorem f25_run (K : Nat) (a0 : (Int × Int × Int × Int) × Int × Int) (a1 : (Int × Int × Int × Int) × Int × Int) : runF (f25E K) Try.f25 [(.ro, (.cons (.cons (.int .i64) (.cons (.int .i64) (.cons (.int .i64) (.int .i64)))) (.cons (.int .i64) (.int .i64)))), (.ro, (.cons (.cons (.int .i64) (.cons (.int .i64) (.cons (.int .i64) (.int .i64)))) (.cons (.int .i64) (.int .i64))))] [.bool] (a0, a1, ()) = f25G K a0 a1 := by kernel_rfl
theorem f12_t3 (K : Nat) (a0 : List ((Int × Int × Int × Int) × Int × Int)) (a1 : List ((Int × Int × Int × Int) × Int × Int)) (bq4 : Int) : ∀ (n : Nat) (q4 : Int), loopN (exec (f12E K) 2 (selC f12C [1, 1, 0, 1, 0, 0])) 2 (f12_fr3 a0 a1 bq4) n (f12_fr3 a0 a1 q4) (f12_k3 K a0 a1 (realL (f12E K) 2)) = f12_l3 K a0 a1 n q4 := by
  have key : ∀ (lr : LR Bool) (L : Fr → Option Bool) (q4 : Int), execG (f12E K) 2 lr (selC f12C [1, 1, 0, 1, 0, 0]) (f12_fr3 a0 a1 q4) (loopK 2 (f12_fr3 a0 a1 bq4) L (f12_k3 K a0 a1 lr)) = f12_b3 K a0 a1 (fun v0 => L (f12_fr3 a0 a1 v0)) q4 := by
    intro lr L q4; kernel_rfl
  intro n q4
  refine loopN_iter (X := Int) (frame := fun x => (f12_fr3 a0 a1 x)) (body := (fun L x => (fun L3 => f12_b3 K a0 a1 L3 x) (fun v0 => L v0))) (fun L x => ?_) n q4
  rw [exec_G]
  exact (key (realL (f12E K) 2) L x).trans (by rfl)
theorem f12_run (K : Nat) (a0 : List ((Int × Int × Int × Int) × Int × Int)) (a1 : List ((Int × Int × Int × Int) × Int × Int)) : runF (f12E K) Try.f12 [(.ro, (.list 57 (.cons (.cons (.int .i64) (.cons (.int .i64) (.cons (.int .i64) (.int .i64)))) (.cons (.int .i64) (.int .i64))))), (.ro, (.list 57 (.cons (.cons (.int .i64) (.cons (.int .i64) (.cons (.int .i64) (.int .i64)))) (.cons (.int .i64) (.int .i64)))))] [.bool] (a0, a1, ()) = f12G K a0 a1 := by
  have key : ∀ (lr : LR Bool), runG (f12E K) Try.f12 [(.ro, (.list 57 (.cons (.cons (.int .i64) (.cons (.int .i64) (.cons (.int .i64) (.int .i64)))) (.cons (.int .i64) (.int .i64))))), (.ro, (.list 57 (.cons (.cons (.int .i64) (.cons (.int .i64) (.cons (.int .i64) (.int .i64)))) (.cons (.int .i64) (.int .i64)))))] [.bool] (a0, a1, ()) lr = f12_g K a0 a1 (fun d0 => lr (selC f12C [1, 1, 0, 1, 0, 0]) (f12_fr3 a0 a1 d0) (f12_k3 K a0 a1 lr)) := by intro lr; kernel_rfl
  have h3 : (fun d0 => (realL (f12E K) 2) (selC f12C [1, 1, 0, 1, 0, 0]) (f12_fr3 a0 a1 d0) (f12_k3 K a0 a1 (realL (f12E K) 2))) = fun d0 => f12_l3 K a0 a1 K d0 := by
    funext d0
    exact f12_t3 K a0 a1 d0 K d0
  exact runF_G (n0 := 2) (by rfl) ((key (realL (f12E K) 2)).trans (by rw [h3] <;> rfl))
theorem f13_t3 (K : Nat) (a0 : List (Int × Int)) (a1 : List (Int × Int)) (bq4 : Int) : ∀ (n : Nat) (q4 : Int), loopN (exec (f13E K) 2 (selC f13C [1, 1, 0, 1, 0, 0])) 2 (f13_fr3 a0 a1 bq4) n (f13_fr3 a0 a1 q4) (f13_k3 K a0 a1 (realL (f13E K) 2)) = f13_l3 K a0 a1 n q4 := by
  have key : ∀ (lr : LR Bool) (L : Fr → Option Bool) (q4 : Int), execG (f13E K) 2 lr (selC f13C [1, 1, 0, 1, 0, 0]) (f13_fr3 a0 a1 q4) (loopK 2 (f13_fr3 a0 a1 bq4) L (f13_k3 K a0 a1 lr)) = f13_b3 K a0 a1 (fun v0 => L (f13_fr3 a0 a1 v0)) q4 := by
    intro lr L q4; kernel_rfl
  intro n q4
  refine loopN_iter (X := Int) (frame := fun x => (f13_fr3 a0 a1 x)) (body := (fun L x => (fun L3 => f13_b3 K a0 a1 L3 x) (fun v0 => L v0))) (fun L x => ?_) n q4
  rw [exec_G]
  exact (key (realL (f13E K) 2) L x).trans (by rfl)
theorem f13_run (K : Nat) (a0 : List (Int × Int)) (a1 : List (Int × Int)) : runF (f13E K) Try.f13 [(.ro, (.list 55 (.cons (.int .i64) (.int .i64)))), (.ro, (.list 55 (.cons (.int .i64) (.int .i64))))] [.bool] (a0, a1, ()) = f13G K a0 a1 := by
  have key : ∀ (lr : LR Bool), runG (f13E K) Try.f13 [(.ro, (.list 55 (.cons (.int .i64) (.int .i64)))), (.ro, (.list 55 (.cons (.int .i64) (.int .i64))))] [.bool] (a0, a1, ()) lr = f13_g K a0 a1 (fun d0 => lr (selC f13C [1, 1, 0, 1, 0, 0]) (f13_fr3 a0 a1 d0) (f13_k3 K a0 a1 lr)) := by intro lr; kernel_rfl
  have h3 : (fun d0 => (realL (f13E K) 2) (selC f13C [1, 1, 0, 1, 0, 0]) (f13_fr3 a0 a1 d0) (f13_k3 K a0 a1 (realL (f13E K) 2))) = fun d0 => f13_l3 K a0 a1 K d0 := by
    funext d0
    exact f13_t3 K a0 a1 d0 K d0
  exact runF_G (n0 := 2) (by rfl) ((key (realL (f13E K) 2)).trans (by rw [h3] <;> rfl))
theorem f3_run (K : Nat) (a0 : Int) (a1 : Int × Int × Int) (a2 : List ((Int × Int × Int × Int) × Int × Int)) (a3 : List (Int × Int)) : runF (f3E K) Try.f3 [(.ro, (.int .i64)), (.ro, (.cons (.int .i64) (.cons (.int .i64) (.int .i64)))), (.ro, (.list 62 (.cons (.cons (.int .i64) (.cons (.int .i64) (.cons (.int .i64) (.int .i64)))) (.cons (.int .i64) (.int .i64))))), (.ro, (.list 60 (.cons (.int .i64) (.int .i64))))] [.bool] (a0, a1, a2, a3, ()) = f3G K a0 a1 a2 a3 := by kernel_rfl
end Go.Proofs.Ythlldmfkdcmcfaa.X
