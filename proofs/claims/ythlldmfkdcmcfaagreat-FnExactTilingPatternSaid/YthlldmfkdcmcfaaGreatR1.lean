/- Functions of the program as plain Lean functions, and that the program does what they say. Printed by gen.py. -/
import Derived.Test.YthlldmfkdcmcfaaGreatD0
namespace Go.Proofs.YthlldmfkdcmcfaaGreat.X
open Go
set_option maxRecDepth 100000
set_option linter.unusedVariables false
theorem f200_t4 (K : Nat) (a0 : List (Int × Int × Int × Int)) (a1 : ((Int × Int × Int × Int) → Option Bool)) (y1 : Int) (bq5 : Int) (bq6 : Int) (bq7 : List (Int × Int × Int × Int)) : ∀ (n : Nat) (q5 : Int) (q6 : Int) (q7 : List (Int × Int × Int × Int)), loopN (exec (f200E K) 1 (selC f200C [1, 1, 1, 0, 1, 0, 0])) 1 (f200_fr4 a1 y1 bq5 bq6 bq7) n (f200_fr4 a1 y1 q5 q6 q7) (f200_k4 K a0 a1 (realL (f200E K) 1)) = f200_l4 K a1 y1 n q5 q6 q7 := by
  have key : ∀ (lr : LR (List (Int × Int × Int × Int))) (L : Fr → Option (List (Int × Int × Int × Int))) (q5 : Int) (q6 : Int) (q7 : List (Int × Int × Int × Int)), execG (f200E K) 1 lr (selC f200C [1, 1, 1, 0, 1, 0, 0]) (f200_fr4 a1 y1 q5 q6 q7) (loopK 1 (f200_fr4 a1 y1 bq5 bq6 bq7) L (f200_k4 K a0 a1 lr)) = f200_b4 K a1 y1 (fun v0 v1 v2 => L (f200_fr4 a1 y1 v0 v1 v2)) q5 q6 q7 := by
    intro lr L q5 q6 q7; kernel_rfl
  intro n q5 q6 q7
  refine loopN_iter (X := Int × Int × List (Int × Int × Int × Int)) (frame := fun x => (f200_fr4 a1 y1 x.1 x.2.1 x.2.2)) (body := (fun L x => (fun L4 => f200_b4 K a1 y1 L4 x.1 x.2.1 x.2.2) (fun v0 v1 v2 => L (v0, v1, v2)))) (fun L x => ?_) n (q5, q6, q7)
  rw [exec_G]
  exact (key (realL (f200E K) 1) L x.1 x.2.1 x.2.2).trans (by rfl)
theorem f200_run (K : Nat) (a0 : List (Int × Int × Int × Int)) (a1 : ((Int × Int × Int × Int) → Option Bool)) : runF (f200E K) Tryz.f200 [(.mv, (.list 31 (.cons (.int .i64) (.cons (.int .i64) (.cons (.int .i64) (.int .i64)))))), (.ro, (.fn1 (.cons (.int .i64) (.cons (.int .i64) (.cons (.int .i64) (.int .i64)))) .bool))] [(.list 31 (.cons (.int .i64) (.cons (.int .i64) (.cons (.int .i64) (.int .i64)))))] (a0, a1, ()) = f200G K a0 a1 := by
  have key : ∀ (lr : LR (List (Int × Int × Int × Int))), runG (f200E K) Tryz.f200 [(.mv, (.list 31 (.cons (.int .i64) (.cons (.int .i64) (.cons (.int .i64) (.int .i64)))))), (.ro, (.fn1 (.cons (.int .i64) (.cons (.int .i64) (.cons (.int .i64) (.int .i64)))) .bool))] [(.list 31 (.cons (.int .i64) (.cons (.int .i64) (.cons (.int .i64) (.int .i64)))))] (a0, a1, ()) lr = f200_g K a0 a1 (fun c0 d0 d1 d2 => lr (selC f200C [1, 1, 1, 0, 1, 0, 0]) (f200_fr4 a1 c0 d0 d1 d2) (f200_k4 K a0 a1 lr)) := by intro lr; kernel_rfl
  have h4 : (fun c0 d0 d1 d2 => (realL (f200E K) 1) (selC f200C [1, 1, 1, 0, 1, 0, 0]) (f200_fr4 a1 c0 d0 d1 d2) (f200_k4 K a0 a1 (realL (f200E K) 1))) = fun c0 d0 d1 d2 => f200_l4 K a1 c0 K d0 d1 d2 := by
    funext c0 d0 d1 d2
    exact f200_t4 K a0 a1 c0 d0 d1 d2 K d0 d1 d2
  exact runF_G (n0 := 1) (by rfl) ((key (realL (f200E K) 1)).trans (by rw [h4] <;> rfl))
theorem f149_run (K : Nat) (a0 : Int) (a1 : Int × Int × Int) : runF (f149E K) Tryz.f149 [(.ro, (.int .i64)), (.ro, (.cons (.int .i64) (.cons (.int .i64) (.int .i64))))] [(.list 31 (.cons (.int .i64) (.cons (.int .i64) (.cons (.int .i64) (.int .i64)))))] (a0, a1, ()) = f149G K a0 a1 := by kernel_rfl
theorem f238_t2 (K : Nat) (a0 : List (Int × Int × Int × Int)) (a1 : Int × Int × Int × Int) (bq3 : Int) : ∀ (n : Nat) (q3 : Int), loopN (exec (f238E K) 1 (selC f238C [1, 0, 1, 0, 0])) 1 (f238_fr2 a0 a1 bq3) n (f238_fr2 a0 a1 q3) (f238_k2 K a0 a1 (realL (f238E K) 1)) = f238_l2 K a0 a1 n q3 := by
  have key : ∀ (lr : LR Int) (L : Fr → Option Int) (q3 : Int), execG (f238E K) 1 lr (selC f238C [1, 0, 1, 0, 0]) (f238_fr2 a0 a1 q3) (loopK 1 (f238_fr2 a0 a1 bq3) L (f238_k2 K a0 a1 lr)) = f238_b2 K a0 a1 (fun v0 => L (f238_fr2 a0 a1 v0)) q3 := by
    intro lr L q3; kernel_rfl
  intro n q3
  refine loopN_iter (X := Int) (frame := fun x => (f238_fr2 a0 a1 x)) (body := (fun L x => (fun L2 => f238_b2 K a0 a1 L2 x) (fun v0 => L v0))) (fun L x => ?_) n q3
  rw [exec_G]
  exact (key (realL (f238E K) 1) L x).trans (by rfl)
theorem f238_run (K : Nat) (a0 : List (Int × Int × Int × Int)) (a1 : Int × Int × Int × Int) : runF (f238E K) Tryz.f238 [(.ro, (.list 31 (.cons (.int .i64) (.cons (.int .i64) (.cons (.int .i64) (.int .i64)))))), (.ro, (.cons (.int .i64) (.cons (.int .i64) (.cons (.int .i64) (.int .i64)))))] [(.int .i64)] (a0, a1, ()) = f238G K a0 a1 := by
  have key : ∀ (lr : LR Int), runG (f238E K) Tryz.f238 [(.ro, (.list 31 (.cons (.int .i64) (.cons (.int .i64) (.cons (.int .i64) (.int .i64)))))), (.ro, (.cons (.int .i64) (.cons (.int .i64) (.cons (.int .i64) (.int .i64)))))] [(.int .i64)] (a0, a1, ()) lr = f238_g K a0 a1 (fun d0 => lr (selC f238C [1, 0, 1, 0, 0]) (f238_fr2 a0 a1 d0) (f238_k2 K a0 a1 lr)) := by intro lr; kernel_rfl
  have h2 : (fun d0 => (realL (f238E K) 1) (selC f238C [1, 0, 1, 0, 0]) (f238_fr2 a0 a1 d0) (f238_k2 K a0 a1 (realL (f238E K) 1))) = fun d0 => f238_l2 K a0 a1 K d0 := by
    funext d0
    exact f238_t2 K a0 a1 d0 K d0
  exact runF_G (n0 := 1) (by rfl) ((key (realL (f238E K) 1)).trans (by rw [h2] <;> rfl))
theorem f209_run (K : Nat) (a0 : List (Int × Int × Int × Int)) (a1 : Int × Int × Int × Int) : runF (f209E K) Tryz.f209 [(.ro, (.list 31 (.cons (.int .i64) (.cons (.int .i64) (.cons (.int .i64) (.int .i64)))))), (.ro, (.cons (.int .i64) (.cons (.int .i64) (.cons (.int .i64) (.int .i64)))))] [.bool] (a0, a1, ()) = f209G K a0 a1 := by kernel_rfl
theorem f239_run (K : Nat) (a0 : Int × Int × Int × Int) (a1 : Int × Int × Int × Int) : runF (f239E K) Tryz.f239 [(.ro, (.cons (.int .i64) (.cons (.int .i64) (.cons (.int .i64) (.int .i64))))), (.ro, (.cons (.int .i64) (.cons (.int .i64) (.cons (.int .i64) (.int .i64)))))] [(.int .i64)] (a0, a1, ()) = f239G K a0 a1 := by kernel_rfl
theorem f210_run (K : Nat) (a0 : (Int × Int × Int × Int) × Int × Int) (a1 : (Int × Int × Int × Int) × Int × Int) : runF (f210E K) Tryz.f210 [(.ro, (.cons (.cons (.int .i64) (.cons (.int .i64) (.cons (.int .i64) (.int .i64)))) (.cons (.int .i64) (.int .i64)))), (.ro, (.cons (.cons (.int .i64) (.cons (.int .i64) (.cons (.int .i64) (.int .i64)))) (.cons (.int .i64) (.int .i64))))] [(.int .i64)] (a0, a1, ()) = f210G K a0 a1 := by kernel_rfl
theorem f152_run (K : Nat) : runF (f152E K) Tryz.f152 [] [(.cons (.int .i64) (.cons (.int .i64) (.cons (.int .i64) (.int .i64))))] (()) = f152G K := by kernel_rfl
theorem f240_run (K : Nat) (a0 : Int × Int × Int × Int) (a1 : Int × Int × Int × Int) : runF (f240E K) Tryz.f240 [(.ro, (.cons (.int .i64) (.cons (.int .i64) (.cons (.int .i64) (.int .i64))))), (.ro, (.cons (.int .i64) (.cons (.int .i64) (.cons (.int .i64) (.int .i64)))))] [(.cons (.int .i64) (.cons (.int .i64) (.cons (.int .i64) (.int .i64))))] (a0, a1, ()) = f240G K a0 a1 := by kernel_rfl
theorem f205_run (K : Nat) (a0 : Int × Int) (a1 : Int × Int) : runF (f205E K) Tryz.f205 [(.ro, (.cons (.int .i64) (.int .i64))), (.ro, (.cons (.int .i64) (.int .i64)))] [(.cons (.int .i64) (.int .i64))] (a0, a1, ()) = f205G K a0 a1 := by kernel_rfl
theorem f212_run (K : Nat) (a0 : (Int × Int × Int × Int) × Int × Int) (a1 : (Int × Int × Int × Int) × Int × Int) : runF (f212E K) Tryz.f212 [(.ro, (.cons (.cons (.int .i64) (.cons (.int .i64) (.cons (.int .i64) (.int .i64)))) (.cons (.int .i64) (.int .i64)))), (.ro, (.cons (.cons (.int .i64) (.cons (.int .i64) (.cons (.int .i64) (.int .i64)))) (.cons (.int .i64) (.int .i64))))] [(.cons (.cons (.int .i64) (.cons (.int .i64) (.cons (.int .i64) (.int .i64)))) (.cons (.int .i64) (.int .i64)))] (a0, a1, ()) = f212G K a0 a1 := by kernel_rfl
theorem f211_run (K : Nat) (a0 : Int × Int × Int) (a1 : (Int × Int × Int × Int) × Int × Int) : runF (f211E K) Tryz.f211 [(.ro, (.cons (.int .i64) (.cons (.int .i64) (.int .i64)))), (.ro, (.cons (.cons (.int .i64) (.cons (.int .i64) (.cons (.int .i64) (.int .i64)))) (.cons (.int .i64) (.int .i64))))] [(.cons (.cons (.int .i64) (.cons (.int .i64) (.cons (.int .i64) (.int .i64)))) (.cons (.int .i64) (.int .i64)))] (a0, a1, ()) = f211G K a0 a1 := by kernel_rfl
theorem f162_t23 (K : Nat) (a0 : Int) (a1 : Int × Int × Int) (a2 : List ((Int × Int × Int × Int) × Int × Int)) (q7 : Int) (q8 : List (((Int × Int × Int × Int) × Int × Int) × Bool)) (y1 : List (Int × Int × Int × Int)) (y12 : Int × Int × Int × Int) (q22 : Int) (F21 : Fr → Option Bool) (bq22 : Int) (bq24 : Int) : ∀ (n : Nat) (q24 : Int), loopN (exec (f162E K) 1 (selC f162C [1, 1, 1, 1, 0, 1, 0, 0, 1, 1, 0, 0, 1, 1, 0, 0])) 1 (f162_fr23 a0 a1 a2 q7 q8 q22 y1 y12 bq24) n (f162_fr23 a0 a1 a2 q7 q8 q22 y1 y12 q24) (f162_k23 K a0 a1 a2 q7 q8 y1 y12 F21 bq22 (realL (f162E K) 1)) = f162_l23 K a0 a1 a2 q7 q8 q22 y1 y12 (fun v0 => F21 (f162_fr21 a0 a1 a2 q7 q8 y1 y12 v0)) n q24 := by
  have key : ∀ (lr : LR Bool) (L : Fr → Option Bool) (q24 : Int), execG (f162E K) 1 lr (selC f162C [1, 1, 1, 1, 0, 1, 0, 0, 1, 1, 0, 0, 1, 1, 0, 0]) (f162_fr23 a0 a1 a2 q7 q8 q22 y1 y12 q24) (loopK 1 (f162_fr23 a0 a1 a2 q7 q8 q22 y1 y12 bq24) L (f162_k23 K a0 a1 a2 q7 q8 y1 y12 F21 bq22 lr)) = f162_b23 K a0 a1 a2 q7 q8 q22 y1 y12 (fun v0 => F21 (f162_fr21 a0 a1 a2 q7 q8 y1 y12 v0)) (fun v0 => L (f162_fr23 a0 a1 a2 q7 q8 q22 y1 y12 v0)) q24 := by
    intro lr L q24; kernel_rfl
  intro n q24
  refine loopN_iter (X := Int) (frame := fun x => (f162_fr23 a0 a1 a2 q7 q8 q22 y1 y12 x)) (body := (fun L x => (fun L23 => f162_b23 K a0 a1 a2 q7 q8 q22 y1 y12 (fun v0 => F21 (f162_fr21 a0 a1 a2 q7 q8 y1 y12 v0)) L23 x) (fun v0 => L v0))) (fun L x => ?_) n q24
  rw [exec_G]
  exact (key (realL (f162E K) 1) L x).trans (by rfl)
theorem f162_t21 (K : Nat) (a0 : Int) (a1 : Int × Int × Int) (a2 : List ((Int × Int × Int × Int) × Int × Int)) (q7 : Int) (q8 : List (((Int × Int × Int × Int) × Int × Int) × Bool)) (y1 : List (Int × Int × Int × Int)) (y12 : Int × Int × Int × Int) (bq22 : Int) : ∀ (n : Nat) (q22 : Int), loopN (exec (f162E K) 1 (selC f162C [1, 1, 1, 1, 0, 1, 0, 0])) 1 (f162_fr21 a0 a1 a2 q7 q8 y1 y12 bq22) n (f162_fr21 a0 a1 a2 q7 q8 y1 y12 q22) (f162_k21 K a0 a1 a2 (realL (f162E K) 1)) = f162_l21 K a0 a1 a2 q7 q8 y1 y12 n q22 := by
  have key : ∀ (lr : LR Bool) (L : Fr → Option Bool) (q22 : Int), execG (f162E K) 1 lr (selC f162C [1, 1, 1, 1, 0, 1, 0, 0]) (f162_fr21 a0 a1 a2 q7 q8 y1 y12 q22) (loopK 1 (f162_fr21 a0 a1 a2 q7 q8 y1 y12 bq22) L (f162_k21 K a0 a1 a2 lr)) = f162_b21 K a0 a1 a2 q7 q8 y1 y12 (fun c0 d0 => lr (selC f162C [1, 1, 1, 1, 0, 1, 0, 0, 1, 1, 0, 0, 1, 1, 0, 0]) (f162_fr23 a0 a1 a2 q7 q8 c0 y1 y12 d0) (f162_k23 K a0 a1 a2 q7 q8 y1 y12 L bq22 lr)) (fun v0 => L (f162_fr21 a0 a1 a2 q7 q8 y1 y12 v0)) q22 := by
    intro lr L q22; kernel_rfl
  intro n q22
  refine loopN_iter (X := Int) (frame := fun x => (f162_fr21 a0 a1 a2 q7 q8 y1 y12 x)) (body := (fun L x => (fun L21 => f162_b21 K a0 a1 a2 q7 q8 y1 y12 (fun c0 d0 => f162_l23 K a0 a1 a2 q7 q8 c0 y1 y12 L21 K d0) L21 x) (fun v0 => L v0))) (fun L x => ?_) n q22
  rw [exec_G]
  have h23 : (fun c0 d0 => (realL (f162E K) 1) (selC f162C [1, 1, 1, 1, 0, 1, 0, 0, 1, 1, 0, 0, 1, 1, 0, 0]) (f162_fr23 a0 a1 a2 q7 q8 c0 y1 y12 d0) (f162_k23 K a0 a1 a2 q7 q8 y1 y12 L bq22 (realL (f162E K) 1))) = fun c0 d0 => f162_l23 K a0 a1 a2 q7 q8 c0 y1 y12 (fun v0 => L (f162_fr21 a0 a1 a2 q7 q8 y1 y12 v0)) K d0 := by
    funext c0 d0
    exact f162_t23 K a0 a1 a2 q7 q8 y1 y12 c0 L bq22 d0 K d0
  exact (key (realL (f162E K) 1) L x).trans (by rw [h23] <;> rfl)
theorem f162_t6 (K : Nat) (a0 : Int) (a1 : Int × Int × Int) (a2 : List ((Int × Int × Int × Int) × Int × Int)) (y1 : List (Int × Int × Int × Int)) (bq7 : Int) (bq8 : List (((Int × Int × Int × Int) × Int × Int) × Bool)) : ∀ (n : Nat) (q7 : Int) (q8 : List (((Int × Int × Int × Int) × Int × Int) × Bool)), loopN (exec (f162E K) 1 (selC f162C [1, 1, 0, 1, 0, 0])) 1 (f162_fr6 a0 a1 a2 y1 bq7 bq8) n (f162_fr6 a0 a1 a2 y1 q7 q8) (f162_k6 K a0 a1 a2 (realL (f162E K) 1)) = f162_l6 K a0 a1 a2 y1 n q7 q8 := by
  have key : ∀ (lr : LR Bool) (L : Fr → Option Bool) (q7 : Int) (q8 : List (((Int × Int × Int × Int) × Int × Int) × Bool)), execG (f162E K) 1 lr (selC f162C [1, 1, 0, 1, 0, 0]) (f162_fr6 a0 a1 a2 y1 q7 q8) (loopK 1 (f162_fr6 a0 a1 a2 y1 bq7 bq8) L (f162_k6 K a0 a1 a2 lr)) = f162_b6 K a0 a1 a2 y1 (fun c0 c1 c2 c3 d0 => lr (selC f162C [1, 1, 1, 1, 0, 1, 0, 0]) (f162_fr21 a0 a1 a2 c0 c1 c2 c3 d0) (f162_k21 K a0 a1 a2 lr)) (fun v0 v1 => L (f162_fr6 a0 a1 a2 y1 v0 v1)) q7 q8 := by
    intro lr L q7 q8; kernel_rfl
  intro n q7 q8
  refine loopN_iter (X := Int × List (((Int × Int × Int × Int) × Int × Int) × Bool)) (frame := fun x => (f162_fr6 a0 a1 a2 y1 x.1 x.2)) (body := (fun L x => (fun L6 => f162_b6 K a0 a1 a2 y1 (fun c0 c1 c2 c3 d0 => f162_l21 K a0 a1 a2 c0 c1 c2 c3 K d0) L6 x.1 x.2) (fun v0 v1 => L (v0, v1)))) (fun L x => ?_) n (q7, q8)
  rw [exec_G]
  have h21 : (fun c0 c1 c2 c3 d0 => (realL (f162E K) 1) (selC f162C [1, 1, 1, 1, 0, 1, 0, 0]) (f162_fr21 a0 a1 a2 c0 c1 c2 c3 d0) (f162_k21 K a0 a1 a2 (realL (f162E K) 1))) = fun c0 c1 c2 c3 d0 => f162_l21 K a0 a1 a2 c0 c1 c2 c3 K d0 := by
    funext c0 c1 c2 c3 d0
    exact f162_t21 K a0 a1 a2 c0 c1 c2 c3 d0 K d0
  exact (key (realL (f162E K) 1) L x.1 x.2).trans (by rw [h21] <;> rfl)
theorem f162_run (K : Nat) (a0 : Int) (a1 : Int × Int × Int) (a2 : List ((Int × Int × Int × Int) × Int × Int)) : runF (f162E K) Tryz.f162 [(.ro, (.int .i64)), (.ro, (.cons (.int .i64) (.cons (.int .i64) (.int .i64)))), (.ro, (.list 34 (.cons (.cons (.int .i64) (.cons (.int .i64) (.cons (.int .i64) (.int .i64)))) (.cons (.int .i64) (.int .i64)))))] [.bool] (a0, a1, a2, ()) = f162G K a0 a1 a2 := by
  have key : ∀ (lr : LR Bool), runG (f162E K) Tryz.f162 [(.ro, (.int .i64)), (.ro, (.cons (.int .i64) (.cons (.int .i64) (.int .i64)))), (.ro, (.list 34 (.cons (.cons (.int .i64) (.cons (.int .i64) (.cons (.int .i64) (.int .i64)))) (.cons (.int .i64) (.int .i64)))))] [.bool] (a0, a1, a2, ()) lr = f162_g K a0 a1 a2 (fun c0 d0 d1 => lr (selC f162C [1, 1, 0, 1, 0, 0]) (f162_fr6 a0 a1 a2 c0 d0 d1) (f162_k6 K a0 a1 a2 lr)) := by intro lr; kernel_rfl
  have h6 : (fun c0 d0 d1 => (realL (f162E K) 1) (selC f162C [1, 1, 0, 1, 0, 0]) (f162_fr6 a0 a1 a2 c0 d0 d1) (f162_k6 K a0 a1 a2 (realL (f162E K) 1))) = fun c0 d0 d1 => f162_l6 K a0 a1 a2 c0 K d0 d1 := by
    funext c0 d0 d1
    exact f162_t6 K a0 a1 a2 c0 d0 d1 K d0 d1
  exact runF_G (n0 := 1) (by rfl) ((key (realL (f162E K) 1)).trans (by rw [h6] <;> rfl))
theorem f115_t4 (K : Nat) (a0 : Int) (a1 : Int × Int × Int) (a2 : List (List ((Int × Int × Int × Int) × Int × Int))) (y1 : Int) (bq5 : Int) : ∀ (n : Nat) (q5 : Int), loopN (exec (f115E K) 1 (selC f115C [1, 1, 0, 1, 0, 0])) 1 (f115_fr4 a0 a1 a2 y1 bq5) n (f115_fr4 a0 a1 a2 y1 q5) (f115_k4 K a0 a1 a2 (realL (f115E K) 1)) = f115_l4 K a0 a1 a2 y1 n q5 := by
  have key : ∀ (lr : LR Int) (L : Fr → Option Int) (q5 : Int), execG (f115E K) 1 lr (selC f115C [1, 1, 0, 1, 0, 0]) (f115_fr4 a0 a1 a2 y1 q5) (loopK 1 (f115_fr4 a0 a1 a2 y1 bq5) L (f115_k4 K a0 a1 a2 lr)) = f115_b4 K a0 a1 a2 y1 (fun v0 => L (f115_fr4 a0 a1 a2 y1 v0)) q5 := by
    intro lr L q5; kernel_rfl
  intro n q5
  refine loopN_iter (X := Int) (frame := fun x => (f115_fr4 a0 a1 a2 y1 x)) (body := (fun L x => (fun L4 => f115_b4 K a0 a1 a2 y1 L4 x) (fun v0 => L v0))) (fun L x => ?_) n q5
  rw [exec_G]
  exact (key (realL (f115E K) 1) L x).trans (by rfl)
theorem f115_run (K : Nat) (a0 : Int) (a1 : Int × Int × Int) (a2 : List (List ((Int × Int × Int × Int) × Int × Int))) : runF (f115E K) Tryz.f115 [(.ro, (.int .i64)), (.ro, (.cons (.int .i64) (.cons (.int .i64) (.int .i64)))), (.ro, (.list 39 (.list 34 (.cons (.cons (.int .i64) (.cons (.int .i64) (.cons (.int .i64) (.int .i64)))) (.cons (.int .i64) (.int .i64))))))] [(.int .i64)] (a0, a1, a2, ()) = f115G K a0 a1 a2 := by
  have key : ∀ (lr : LR Int), runG (f115E K) Tryz.f115 [(.ro, (.int .i64)), (.ro, (.cons (.int .i64) (.cons (.int .i64) (.int .i64)))), (.ro, (.list 39 (.list 34 (.cons (.cons (.int .i64) (.cons (.int .i64) (.cons (.int .i64) (.int .i64)))) (.cons (.int .i64) (.int .i64))))))] [(.int .i64)] (a0, a1, a2, ()) lr = f115_g K a0 a1 a2 (fun c0 d0 => lr (selC f115C [1, 1, 0, 1, 0, 0]) (f115_fr4 a0 a1 a2 c0 d0) (f115_k4 K a0 a1 a2 lr)) := by intro lr; kernel_rfl
  have h4 : (fun c0 d0 => (realL (f115E K) 1) (selC f115C [1, 1, 0, 1, 0, 0]) (f115_fr4 a0 a1 a2 c0 d0) (f115_k4 K a0 a1 a2 (realL (f115E K) 1))) = fun c0 d0 => f115_l4 K a0 a1 a2 c0 K d0 := by
    funext c0 d0
    exact f115_t4 K a0 a1 a2 c0 d0 K d0
  exact runF_G (n0 := 1) (by rfl) ((key (realL (f115E K) 1)).trans (by rw [h4] <;> rfl))
theorem f71_run (K : Nat) (a0 : Int) (a1 : Int × Int × Int) (a2 : List ((Int × Int × Int × Int) × Int × Int)) (a3 : List (Int × Int)) : runF (f71E K) Tryz.f71 [(.ro, (.int .i64)), (.ro, (.cons (.int .i64) (.cons (.int .i64) (.int .i64)))), (.ro, (.list 34 (.cons (.cons (.int .i64) (.cons (.int .i64) (.cons (.int .i64) (.int .i64)))) (.cons (.int .i64) (.int .i64))))), (.ro, (.list 32 (.cons (.int .i64) (.int .i64))))] [(.int .i64)] (a0, a1, a2, a3, ()) = f71G K a0 a1 a2 a3 := by kernel_rfl
theorem f72_run (K : Nat) (a0 : Int × Int × Int) (a1 : Int × Int) : runF (f72E K) Tryz.f72 [(.ro, (.cons (.int .i64) (.cons (.int .i64) (.int .i64)))), (.ro, (.cons (.int .i64) (.int .i64)))] [.bool] (a0, a1, ()) = f72G K a0 a1 := by kernel_rfl
theorem f164_run (K : Nat) (a0 : (Int × Int × Int × Int) × Int × Int) (a1 : Int × Int) : runF (f164E K) Tryz.f164 [(.ro, (.cons (.cons (.int .i64) (.cons (.int .i64) (.cons (.int .i64) (.int .i64)))) (.cons (.int .i64) (.int .i64)))), (.ro, (.cons (.int .i64) (.int .i64)))] [(.cons (.int .i64) (.int .i64))] (a0, a1, ()) = f164G K a0 a1 := by kernel_rfl
theorem f117_run (K : Nat) (a0 : Int × Int × Int) (a1 : (Int × Int × Int × Int) × Int × Int) (a2 : Int × Int) : runF (f117E K) Tryz.f117 [(.ro, (.cons (.int .i64) (.cons (.int .i64) (.int .i64)))), (.ro, (.cons (.cons (.int .i64) (.cons (.int .i64) (.cons (.int .i64) (.int .i64)))) (.cons (.int .i64) (.int .i64)))), (.ro, (.cons (.int .i64) (.int .i64)))] [(.cons (.int .i64) (.int .i64))] (a0, a1, a2, ()) = f117G K a0 a1 a2 := by kernel_rfl
theorem f74_t11 (K : Nat) (a0 : Int × Int × Int) (a1 : List ((Int × Int × Int × Int) × Int × Int)) (a2 : List (Int × Int)) (q9 : Int) (q10 : List (List (Int × Int))) (F8 : Fr → Option (List (List (Int × Int)))) (bq9 : Int) (bq10 : List (List (Int × Int))) (bq12 : Int) (bq13 : List (Int × Int)) : ∀ (n : Nat) (q12 : Int) (q13 : List (Int × Int)), loopN (exec (f74E K) 2 (selC f74C [1, 1, 0, 1, 0, 0, 1, 1, 0, 0, 1, 1, 0, 1, 0, 0])) 2 (f74_fr11 a0 a1 a2 q9 q10 bq12 bq13) n (f74_fr11 a0 a1 a2 q9 q10 q12 q13) (f74_k11 K a0 a1 a2 F8 bq9 bq10 (realL (f74E K) 2)) = f74_l11 K a0 a1 a2 q9 q10 (fun v0 v1 => F8 (f74_fr8 a0 a1 a2 v0 v1)) n q12 q13 := by
  have key : ∀ (lr : LR (List (List (Int × Int)))) (L : Fr → Option (List (List (Int × Int)))) (q12 : Int) (q13 : List (Int × Int)), execG (f74E K) 2 lr (selC f74C [1, 1, 0, 1, 0, 0, 1, 1, 0, 0, 1, 1, 0, 1, 0, 0]) (f74_fr11 a0 a1 a2 q9 q10 q12 q13) (loopK 2 (f74_fr11 a0 a1 a2 q9 q10 bq12 bq13) L (f74_k11 K a0 a1 a2 F8 bq9 bq10 lr)) = f74_b11 K a0 a1 a2 q9 q10 (fun v0 v1 => F8 (f74_fr8 a0 a1 a2 v0 v1)) (fun v0 v1 => L (f74_fr11 a0 a1 a2 q9 q10 v0 v1)) q12 q13 := by
    intro lr L q12 q13; kernel_rfl
  intro n q12 q13
  refine loopN_iter (X := Int × List (Int × Int)) (frame := fun x => (f74_fr11 a0 a1 a2 q9 q10 x.1 x.2)) (body := (fun L x => (fun L11 => f74_b11 K a0 a1 a2 q9 q10 (fun v0 v1 => F8 (f74_fr8 a0 a1 a2 v0 v1)) L11 x.1 x.2) (fun v0 v1 => L (v0, v1)))) (fun L x => ?_) n (q12, q13)
  rw [exec_G]
  exact (key (realL (f74E K) 2) L x.1 x.2).trans (by rfl)
theorem f74_t8 (K : Nat) (a0 : Int × Int × Int) (a1 : List ((Int × Int × Int × Int) × Int × Int)) (a2 : List (Int × Int)) (bq9 : Int) (bq10 : List (List (Int × Int))) : ∀ (n : Nat) (q9 : Int) (q10 : List (List (Int × Int))), loopN (exec (f74E K) 2 (selC f74C [1, 1, 0, 1, 0, 0])) 2 (f74_fr8 a0 a1 a2 bq9 bq10) n (f74_fr8 a0 a1 a2 q9 q10) (f74_k8 K a0 a1 a2 (realL (f74E K) 2)) = f74_l8 K a0 a1 a2 n q9 q10 := by
  have key : ∀ (lr : LR (List (List (Int × Int)))) (L : Fr → Option (List (List (Int × Int)))) (q9 : Int) (q10 : List (List (Int × Int))), execG (f74E K) 2 lr (selC f74C [1, 1, 0, 1, 0, 0]) (f74_fr8 a0 a1 a2 q9 q10) (loopK 2 (f74_fr8 a0 a1 a2 bq9 bq10) L (f74_k8 K a0 a1 a2 lr)) = f74_b8 K a0 a1 a2 (fun c0 c1 d0 d1 => lr (selC f74C [1, 1, 0, 1, 0, 0, 1, 1, 0, 0, 1, 1, 0, 1, 0, 0]) (f74_fr11 a0 a1 a2 c0 c1 d0 d1) (f74_k11 K a0 a1 a2 L bq9 bq10 lr)) (fun v0 v1 => L (f74_fr8 a0 a1 a2 v0 v1)) q9 q10 := by
    intro lr L q9 q10; kernel_rfl
  intro n q9 q10
  refine loopN_iter (X := Int × List (List (Int × Int))) (frame := fun x => (f74_fr8 a0 a1 a2 x.1 x.2)) (body := (fun L x => (fun L8 => f74_b8 K a0 a1 a2 (fun c0 c1 d0 d1 => f74_l11 K a0 a1 a2 c0 c1 L8 K d0 d1) L8 x.1 x.2) (fun v0 v1 => L (v0, v1)))) (fun L x => ?_) n (q9, q10)
  rw [exec_G]
  have h11 : (fun c0 c1 d0 d1 => (realL (f74E K) 2) (selC f74C [1, 1, 0, 1, 0, 0, 1, 1, 0, 0, 1, 1, 0, 1, 0, 0]) (f74_fr11 a0 a1 a2 c0 c1 d0 d1) (f74_k11 K a0 a1 a2 L bq9 bq10 (realL (f74E K) 2))) = fun c0 c1 d0 d1 => f74_l11 K a0 a1 a2 c0 c1 (fun v0 v1 => L (f74_fr8 a0 a1 a2 v0 v1)) K d0 d1 := by
    funext c0 c1 d0 d1
    exact f74_t11 K a0 a1 a2 c0 c1 L bq9 bq10 d0 d1 K d0 d1
  exact (key (realL (f74E K) 2) L x.1 x.2).trans (by rw [h11] <;> rfl)
theorem f74_run (K : Nat) (a0 : Int × Int × Int) (a1 : List ((Int × Int × Int × Int) × Int × Int)) (a2 : List (Int × Int)) : runF (f74E K) Tryz.f74 [(.ro, (.cons (.int .i64) (.cons (.int .i64) (.int .i64)))), (.ro, (.list 34 (.cons (.cons (.int .i64) (.cons (.int .i64) (.cons (.int .i64) (.int .i64)))) (.cons (.int .i64) (.int .i64))))), (.ro, (.list 32 (.cons (.int .i64) (.int .i64))))] [(.list 41 (.list 32 (.cons (.int .i64) (.int .i64))))] (a0, a1, a2, ()) = f74G K a0 a1 a2 := by
  have key : ∀ (lr : LR (List (List (Int × Int)))), runG (f74E K) Tryz.f74 [(.ro, (.cons (.int .i64) (.cons (.int .i64) (.int .i64)))), (.ro, (.list 34 (.cons (.cons (.int .i64) (.cons (.int .i64) (.cons (.int .i64) (.int .i64)))) (.cons (.int .i64) (.int .i64))))), (.ro, (.list 32 (.cons (.int .i64) (.int .i64))))] [(.list 41 (.list 32 (.cons (.int .i64) (.int .i64))))] (a0, a1, a2, ()) lr = f74_g K a0 a1 a2 (fun d0 d1 => lr (selC f74C [1, 1, 0, 1, 0, 0]) (f74_fr8 a0 a1 a2 d0 d1) (f74_k8 K a0 a1 a2 lr)) := by intro lr; kernel_rfl
  have h8 : (fun d0 d1 => (realL (f74E K) 2) (selC f74C [1, 1, 0, 1, 0, 0]) (f74_fr8 a0 a1 a2 d0 d1) (f74_k8 K a0 a1 a2 (realL (f74E K) 2))) = fun d0 d1 => f74_l8 K a0 a1 a2 K d0 d1 := by
    funext d0 d1
    exact f74_t8 K a0 a1 a2 d0 d1 K d0 d1
  exact runF_G (n0 := 2) (by rfl) ((key (realL (f74E K) 2)).trans (by rw [h8] <;> rfl))
theorem f73_t10 (K : Nat) (a0 : Int × Int × Int) (a1 : List ((Int × Int × Int × Int) × Int × Int)) (a2 : List (Int × Int)) (y1 : List (List (Int × Int))) (q8 : Int) (F7 : Fr → Option Bool) (bq8 : Int) (bq9 : List ((Int × Int) × Bool)) (bq11 : Int) (bq12 : List ((Int × Int) × Bool)) : ∀ (n : Nat) (q11 : Int) (q12 : List ((Int × Int) × Bool)), loopN (exec (f73E K) 2 (selC f73C [1, 1, 0, 1, 0, 0, 1, 1, 0, 0, 1, 1, 0, 0])) 2 (f73_fr10 a0 a1 a2 q8 y1 bq11 bq12) n (f73_fr10 a0 a1 a2 q8 y1 q11 q12) (f73_k10 K a0 a1 a2 y1 F7 bq8 bq9 (realL (f73E K) 2)) = f73_l10 K a0 a1 a2 q8 y1 (fun v0 v1 => F7 (f73_fr7 a0 a1 a2 y1 v0 v1)) n q11 q12 := by
  have key : ∀ (lr : LR Bool) (L : Fr → Option Bool) (q11 : Int) (q12 : List ((Int × Int) × Bool)), execG (f73E K) 2 lr (selC f73C [1, 1, 0, 1, 0, 0, 1, 1, 0, 0, 1, 1, 0, 0]) (f73_fr10 a0 a1 a2 q8 y1 q11 q12) (loopK 2 (f73_fr10 a0 a1 a2 q8 y1 bq11 bq12) L (f73_k10 K a0 a1 a2 y1 F7 bq8 bq9 lr)) = f73_b10 K a0 a1 a2 q8 y1 (fun v0 v1 => F7 (f73_fr7 a0 a1 a2 y1 v0 v1)) (fun v0 v1 => L (f73_fr10 a0 a1 a2 q8 y1 v0 v1)) q11 q12 := by
    intro lr L q11 q12; kernel_rfl
  intro n q11 q12
  refine loopN_iter (X := Int × List ((Int × Int) × Bool)) (frame := fun x => (f73_fr10 a0 a1 a2 q8 y1 x.1 x.2)) (body := (fun L x => (fun L10 => f73_b10 K a0 a1 a2 q8 y1 (fun v0 v1 => F7 (f73_fr7 a0 a1 a2 y1 v0 v1)) L10 x.1 x.2) (fun v0 v1 => L (v0, v1)))) (fun L x => ?_) n (q11, q12)
  rw [exec_G]
  exact (key (realL (f73E K) 2) L x.1 x.2).trans (by rfl)
theorem f73_t7 (K : Nat) (a0 : Int × Int × Int) (a1 : List ((Int × Int × Int × Int) × Int × Int)) (a2 : List (Int × Int)) (y1 : List (List (Int × Int))) (bq8 : Int) (bq9 : List ((Int × Int) × Bool)) : ∀ (n : Nat) (q8 : Int) (q9 : List ((Int × Int) × Bool)), loopN (exec (f73E K) 2 (selC f73C [1, 1, 0, 1, 0, 0])) 2 (f73_fr7 a0 a1 a2 y1 bq8 bq9) n (f73_fr7 a0 a1 a2 y1 q8 q9) (f73_k7 K a0 a1 a2 (realL (f73E K) 2)) = f73_l7 K a0 a1 a2 y1 n q8 q9 := by
  have key : ∀ (lr : LR Bool) (L : Fr → Option Bool) (q8 : Int) (q9 : List ((Int × Int) × Bool)), execG (f73E K) 2 lr (selC f73C [1, 1, 0, 1, 0, 0]) (f73_fr7 a0 a1 a2 y1 q8 q9) (loopK 2 (f73_fr7 a0 a1 a2 y1 bq8 bq9) L (f73_k7 K a0 a1 a2 lr)) = f73_b7 K a0 a1 a2 y1 (fun c0 d0 d1 => lr (selC f73C [1, 1, 0, 1, 0, 0, 1, 1, 0, 0, 1, 1, 0, 0]) (f73_fr10 a0 a1 a2 c0 y1 d0 d1) (f73_k10 K a0 a1 a2 y1 L bq8 bq9 lr)) (fun v0 v1 => L (f73_fr7 a0 a1 a2 y1 v0 v1)) q8 q9 := by
    intro lr L q8 q9; kernel_rfl
  intro n q8 q9
  refine loopN_iter (X := Int × List ((Int × Int) × Bool)) (frame := fun x => (f73_fr7 a0 a1 a2 y1 x.1 x.2)) (body := (fun L x => (fun L7 => f73_b7 K a0 a1 a2 y1 (fun c0 d0 d1 => f73_l10 K a0 a1 a2 c0 y1 L7 K d0 d1) L7 x.1 x.2) (fun v0 v1 => L (v0, v1)))) (fun L x => ?_) n (q8, q9)
  rw [exec_G]
  have h10 : (fun c0 d0 d1 => (realL (f73E K) 2) (selC f73C [1, 1, 0, 1, 0, 0, 1, 1, 0, 0, 1, 1, 0, 0]) (f73_fr10 a0 a1 a2 c0 y1 d0 d1) (f73_k10 K a0 a1 a2 y1 L bq8 bq9 (realL (f73E K) 2))) = fun c0 d0 d1 => f73_l10 K a0 a1 a2 c0 y1 (fun v0 v1 => L (f73_fr7 a0 a1 a2 y1 v0 v1)) K d0 d1 := by
    funext c0 d0 d1
    exact f73_t10 K a0 a1 a2 y1 c0 L bq8 bq9 d0 d1 K d0 d1
  exact (key (realL (f73E K) 2) L x.1 x.2).trans (by rw [h10] <;> rfl)
theorem f73_run (K : Nat) (a0 : Int × Int × Int) (a1 : List ((Int × Int × Int × Int) × Int × Int)) (a2 : List (Int × Int)) : runF (f73E K) Tryz.f73 [(.ro, (.cons (.int .i64) (.cons (.int .i64) (.int .i64)))), (.ro, (.list 34 (.cons (.cons (.int .i64) (.cons (.int .i64) (.cons (.int .i64) (.int .i64)))) (.cons (.int .i64) (.int .i64))))), (.ro, (.list 32 (.cons (.int .i64) (.int .i64))))] [.bool] (a0, a1, a2, ()) = f73G K a0 a1 a2 := by
  have key : ∀ (lr : LR Bool), runG (f73E K) Tryz.f73 [(.ro, (.cons (.int .i64) (.cons (.int .i64) (.int .i64)))), (.ro, (.list 34 (.cons (.cons (.int .i64) (.cons (.int .i64) (.cons (.int .i64) (.int .i64)))) (.cons (.int .i64) (.int .i64))))), (.ro, (.list 32 (.cons (.int .i64) (.int .i64))))] [.bool] (a0, a1, a2, ()) lr = f73_g K a0 a1 a2 (fun c0 d0 d1 => lr (selC f73C [1, 1, 0, 1, 0, 0]) (f73_fr7 a0 a1 a2 c0 d0 d1) (f73_k7 K a0 a1 a2 lr)) := by intro lr; kernel_rfl
  have h7 : (fun c0 d0 d1 => (realL (f73E K) 2) (selC f73C [1, 1, 0, 1, 0, 0]) (f73_fr7 a0 a1 a2 c0 d0 d1) (f73_k7 K a0 a1 a2 (realL (f73E K) 2))) = fun c0 d0 d1 => f73_l7 K a0 a1 a2 c0 K d0 d1 := by
    funext c0 d0 d1
    exact f73_t7 K a0 a1 a2 c0 d0 d1 K d0 d1
  exact runF_G (n0 := 2) (by rfl) ((key (realL (f73E K) 2)).trans (by rw [h7] <;> rfl))
theorem f75_t2 (K : Nat) (a0 : List (Int × Int)) (a1 : Int × Int) (bq3 : Int) : ∀ (n : Nat) (q3 : Int), loopN (exec (f75E K) 1 (selC f75C [1, 0, 1, 0, 0])) 1 (f75_fr2 a0 a1 bq3) n (f75_fr2 a0 a1 q3) (f75_k2 K a0 a1 (realL (f75E K) 1)) = f75_l2 K a0 a1 n q3 := by
  have key : ∀ (lr : LR Int) (L : Fr → Option Int) (q3 : Int), execG (f75E K) 1 lr (selC f75C [1, 0, 1, 0, 0]) (f75_fr2 a0 a1 q3) (loopK 1 (f75_fr2 a0 a1 bq3) L (f75_k2 K a0 a1 lr)) = f75_b2 K a0 a1 (fun v0 => L (f75_fr2 a0 a1 v0)) q3 := by
    intro lr L q3; kernel_rfl
  intro n q3
  refine loopN_iter (X := Int) (frame := fun x => (f75_fr2 a0 a1 x)) (body := (fun L x => (fun L2 => f75_b2 K a0 a1 L2 x) (fun v0 => L v0))) (fun L x => ?_) n q3
  rw [exec_G]
  exact (key (realL (f75E K) 1) L x).trans (by rfl)
theorem f75_run (K : Nat) (a0 : List (Int × Int)) (a1 : Int × Int) : runF (f75E K) Tryz.f75 [(.ro, (.list 32 (.cons (.int .i64) (.int .i64)))), (.ro, (.cons (.int .i64) (.int .i64)))] [(.int .i64)] (a0, a1, ()) = f75G K a0 a1 := by
  have key : ∀ (lr : LR Int), runG (f75E K) Tryz.f75 [(.ro, (.list 32 (.cons (.int .i64) (.int .i64)))), (.ro, (.cons (.int .i64) (.int .i64)))] [(.int .i64)] (a0, a1, ()) lr = f75_g K a0 a1 (fun d0 => lr (selC f75C [1, 0, 1, 0, 0]) (f75_fr2 a0 a1 d0) (f75_k2 K a0 a1 lr)) := by intro lr; kernel_rfl
  have h2 : (fun d0 => (realL (f75E K) 1) (selC f75C [1, 0, 1, 0, 0]) (f75_fr2 a0 a1 d0) (f75_k2 K a0 a1 (realL (f75E K) 1))) = fun d0 => f75_l2 K a0 a1 K d0 := by
    funext d0
    exact f75_t2 K a0 a1 d0 K d0
  exact runF_G (n0 := 1) (by rfl) ((key (realL (f75E K) 1)).trans (by rw [h2] <;> rfl))
theorem f20_t7 (K : Nat) (a0 : Int) (a1 : Int × Int × Int) (a2 : List ((Int × Int × Int × Int) × Int × Int)) (a3 : List (Int × Int)) (a4 : Int × Int) (y1 : Int) (y2 : Bool) (y3 : Bool) (y4 : List (List (Int × Int))) (bq8 : Int) : ∀ (n : Nat) (q8 : Int), loopN (exec (f20E K) 2 (selC f20C [1, 1, 1, 1, 0, 1, 0, 0])) 2 (f20_fr7 a0 a1 a2 a3 a4 y1 y2 y3 y4 bq8) n (f20_fr7 a0 a1 a2 a3 a4 y1 y2 y3 y4 q8) (f20_k7 K a0 a1 a2 a3 a4 (realL (f20E K) 2)) = f20_l7 K a0 a1 a2 a3 a4 y1 y2 y3 y4 n q8 := by
  have key : ∀ (lr : LR (((Int × Int × Int × Int) × Int × Int) × (Int × Int) × Int)) (L : Fr → Option (((Int × Int × Int × Int) × Int × Int) × (Int × Int) × Int)) (q8 : Int), execG (f20E K) 2 lr (selC f20C [1, 1, 1, 1, 0, 1, 0, 0]) (f20_fr7 a0 a1 a2 a3 a4 y1 y2 y3 y4 q8) (loopK 2 (f20_fr7 a0 a1 a2 a3 a4 y1 y2 y3 y4 bq8) L (f20_k7 K a0 a1 a2 a3 a4 lr)) = f20_b7 K a0 a1 a2 a3 a4 y1 y2 y3 y4 (fun v0 => L (f20_fr7 a0 a1 a2 a3 a4 y1 y2 y3 y4 v0)) q8 := by
    intro lr L q8; kernel_rfl
  intro n q8
  refine loopN_iter (X := Int) (frame := fun x => (f20_fr7 a0 a1 a2 a3 a4 y1 y2 y3 y4 x)) (body := (fun L x => (fun L7 => f20_b7 K a0 a1 a2 a3 a4 y1 y2 y3 y4 L7 x) (fun v0 => L v0))) (fun L x => ?_) n q8
  rw [exec_G]
  exact (key (realL (f20E K) 2) L x).trans (by rfl)
theorem f20_run (K : Nat) (a0 : Int) (a1 : Int × Int × Int) (a2 : List ((Int × Int × Int × Int) × Int × Int)) (a3 : List (Int × Int)) (a4 : Int × Int) : runF (f20E K) Tryz.f20 [(.ro, (.int .i64)), (.ro, (.cons (.int .i64) (.cons (.int .i64) (.int .i64)))), (.ro, (.list 34 (.cons (.cons (.int .i64) (.cons (.int .i64) (.cons (.int .i64) (.int .i64)))) (.cons (.int .i64) (.int .i64))))), (.ro, (.list 32 (.cons (.int .i64) (.int .i64)))), (.ro, (.cons (.int .i64) (.int .i64)))] [(.cons (.cons (.int .i64) (.cons (.int .i64) (.cons (.int .i64) (.int .i64)))) (.cons (.int .i64) (.int .i64))), (.cons (.int .i64) (.int .i64)), (.int .i64)] (a0, a1, a2, a3, a4, ()) = f20G K a0 a1 a2 a3 a4 := by
  have key : ∀ (lr : LR (((Int × Int × Int × Int) × Int × Int) × (Int × Int) × Int)), runG (f20E K) Tryz.f20 [(.ro, (.int .i64)), (.ro, (.cons (.int .i64) (.cons (.int .i64) (.int .i64)))), (.ro, (.list 34 (.cons (.cons (.int .i64) (.cons (.int .i64) (.cons (.int .i64) (.int .i64)))) (.cons (.int .i64) (.int .i64))))), (.ro, (.list 32 (.cons (.int .i64) (.int .i64)))), (.ro, (.cons (.int .i64) (.int .i64)))] [(.cons (.cons (.int .i64) (.cons (.int .i64) (.cons (.int .i64) (.int .i64)))) (.cons (.int .i64) (.int .i64))), (.cons (.int .i64) (.int .i64)), (.int .i64)] (a0, a1, a2, a3, a4, ()) lr = f20_g K a0 a1 a2 a3 a4 (fun c0 c1 c2 c3 d0 => lr (selC f20C [1, 1, 1, 1, 0, 1, 0, 0]) (f20_fr7 a0 a1 a2 a3 a4 c0 c1 c2 c3 d0) (f20_k7 K a0 a1 a2 a3 a4 lr)) := by intro lr; kernel_rfl
  have h7 : (fun c0 c1 c2 c3 d0 => (realL (f20E K) 2) (selC f20C [1, 1, 1, 1, 0, 1, 0, 0]) (f20_fr7 a0 a1 a2 a3 a4 c0 c1 c2 c3 d0) (f20_k7 K a0 a1 a2 a3 a4 (realL (f20E K) 2))) = fun c0 c1 c2 c3 d0 => f20_l7 K a0 a1 a2 a3 a4 c0 c1 c2 c3 K d0 := by
    funext c0 c1 c2 c3 d0
    exact f20_t7 K a0 a1 a2 a3 a4 c0 c1 c2 c3 d0 K d0
  exact runF_G (n0 := 2) (by rfl) ((key (realL (f20E K) 2)).trans (by rw [h7] <;> rfl))
theorem f76_run (K : Nat) (a0 : Int × Int × Int × Int) (a1 : Int × Int × Int × Int) : runF (f76E K) Tryz.f76 [(.ro, (.cons (.int .i64) (.cons (.int .i64) (.cons (.int .i64) (.int .i64))))), (.ro, (.cons (.int .i64) (.cons (.int .i64) (.cons (.int .i64) (.int .i64)))))] [.bool] (a0, a1, ()) = f76G K a0 a1 := by kernel_rfl
theorem f22_run (K : Nat) (a0 : Int × Int) (a1 : Int × Int) : runF (f22E K) Tryz.f22 [(.ro, (.cons (.int .i64) (.int .i64))), (.ro, (.cons (.int .i64) (.int .i64)))] [.bool] (a0, a1, ()) = f22G K a0 a1 := by kernel_rfl
theorem f21_run (K : Nat) (a0 : (Int × Int × Int × Int) × Int × Int) (a1 : (Int × Int × Int × Int) × Int × Int) : runF (f21E K) Tryz.f21 [(.ro, (.cons (.cons (.int .i64) (.cons (.int .i64) (.cons (.int .i64) (.int .i64)))) (.cons (.int .i64) (.int .i64)))), (.ro, (.cons (.cons (.int .i64) (.cons (.int .i64) (.cons (.int .i64) (.int .i64)))) (.cons (.int .i64) (.int .i64))))] [.bool] (a0, a1, ()) = f21G K a0 a1 := by kernel_rfl
theorem f23_t3 (K : Nat) (a0 : List ((Int × Int × Int × Int) × Int × Int)) (a1 : List ((Int × Int × Int × Int) × Int × Int)) (bq4 : Int) : ∀ (n : Nat) (q4 : Int), loopN (exec (f23E K) 2 (selC f23C [1, 1, 0, 1, 0, 0])) 2 (f23_fr3 a0 a1 bq4) n (f23_fr3 a0 a1 q4) (f23_k3 K a0 a1 (realL (f23E K) 2)) = f23_l3 K a0 a1 n q4 := by
  have key : ∀ (lr : LR Bool) (L : Fr → Option Bool) (q4 : Int), execG (f23E K) 2 lr (selC f23C [1, 1, 0, 1, 0, 0]) (f23_fr3 a0 a1 q4) (loopK 2 (f23_fr3 a0 a1 bq4) L (f23_k3 K a0 a1 lr)) = f23_b3 K a0 a1 (fun v0 => L (f23_fr3 a0 a1 v0)) q4 := by
    intro lr L q4; kernel_rfl
  intro n q4
  refine loopN_iter (X := Int) (frame := fun x => (f23_fr3 a0 a1 x)) (body := (fun L x => (fun L3 => f23_b3 K a0 a1 L3 x) (fun v0 => L v0))) (fun L x => ?_) n q4
  rw [exec_G]
  exact (key (realL (f23E K) 2) L x).trans (by rfl)
theorem f23_run (K : Nat) (a0 : List ((Int × Int × Int × Int) × Int × Int)) (a1 : List ((Int × Int × Int × Int) × Int × Int)) : runF (f23E K) Tryz.f23 [(.ro, (.list 34 (.cons (.cons (.int .i64) (.cons (.int .i64) (.cons (.int .i64) (.int .i64)))) (.cons (.int .i64) (.int .i64))))), (.ro, (.list 34 (.cons (.cons (.int .i64) (.cons (.int .i64) (.cons (.int .i64) (.int .i64)))) (.cons (.int .i64) (.int .i64)))))] [.bool] (a0, a1, ()) = f23G K a0 a1 := by
  have key : ∀ (lr : LR Bool), runG (f23E K) Tryz.f23 [(.ro, (.list 34 (.cons (.cons (.int .i64) (.cons (.int .i64) (.cons (.int .i64) (.int .i64)))) (.cons (.int .i64) (.int .i64))))), (.ro, (.list 34 (.cons (.cons (.int .i64) (.cons (.int .i64) (.cons (.int .i64) (.int .i64)))) (.cons (.int .i64) (.int .i64)))))] [.bool] (a0, a1, ()) lr = f23_g K a0 a1 (fun d0 => lr (selC f23C [1, 1, 0, 1, 0, 0]) (f23_fr3 a0 a1 d0) (f23_k3 K a0 a1 lr)) := by intro lr; kernel_rfl
  have h3 : (fun d0 => (realL (f23E K) 2) (selC f23C [1, 1, 0, 1, 0, 0]) (f23_fr3 a0 a1 d0) (f23_k3 K a0 a1 (realL (f23E K) 2))) = fun d0 => f23_l3 K a0 a1 K d0 := by
    funext d0
    exact f23_t3 K a0 a1 d0 K d0
  exact runF_G (n0 := 2) (by rfl) ((key (realL (f23E K) 2)).trans (by rw [h3] <;> rfl))
theorem f24_t3 (K : Nat) (a0 : List (Int × Int)) (a1 : List (Int × Int)) (bq4 : Int) : ∀ (n : Nat) (q4 : Int), loopN (exec (f24E K) 2 (selC f24C [1, 1, 0, 1, 0, 0])) 2 (f24_fr3 a0 a1 bq4) n (f24_fr3 a0 a1 q4) (f24_k3 K a0 a1 (realL (f24E K) 2)) = f24_l3 K a0 a1 n q4 := by
  have key : ∀ (lr : LR Bool) (L : Fr → Option Bool) (q4 : Int), execG (f24E K) 2 lr (selC f24C [1, 1, 0, 1, 0, 0]) (f24_fr3 a0 a1 q4) (loopK 2 (f24_fr3 a0 a1 bq4) L (f24_k3 K a0 a1 lr)) = f24_b3 K a0 a1 (fun v0 => L (f24_fr3 a0 a1 v0)) q4 := by
    intro lr L q4; kernel_rfl
  intro n q4
  refine loopN_iter (X := Int) (frame := fun x => (f24_fr3 a0 a1 x)) (body := (fun L x => (fun L3 => f24_b3 K a0 a1 L3 x) (fun v0 => L v0))) (fun L x => ?_) n q4
  rw [exec_G]
  exact (key (realL (f24E K) 2) L x).trans (by rfl)
theorem f24_run (K : Nat) (a0 : List (Int × Int)) (a1 : List (Int × Int)) : runF (f24E K) Tryz.f24 [(.ro, (.list 32 (.cons (.int .i64) (.int .i64)))), (.ro, (.list 32 (.cons (.int .i64) (.int .i64))))] [.bool] (a0, a1, ()) = f24G K a0 a1 := by
  have key : ∀ (lr : LR Bool), runG (f24E K) Tryz.f24 [(.ro, (.list 32 (.cons (.int .i64) (.int .i64)))), (.ro, (.list 32 (.cons (.int .i64) (.int .i64))))] [.bool] (a0, a1, ()) lr = f24_g K a0 a1 (fun d0 => lr (selC f24C [1, 1, 0, 1, 0, 0]) (f24_fr3 a0 a1 d0) (f24_k3 K a0 a1 lr)) := by intro lr; kernel_rfl
  have h3 : (fun d0 => (realL (f24E K) 2) (selC f24C [1, 1, 0, 1, 0, 0]) (f24_fr3 a0 a1 d0) (f24_k3 K a0 a1 (realL (f24E K) 2))) = fun d0 => f24_l3 K a0 a1 K d0 := by
    funext d0
    exact f24_t3 K a0 a1 d0 K d0
  exact runF_G (n0 := 2) (by rfl) ((key (realL (f24E K) 2)).trans (by rw [h3] <;> rfl))
theorem f3_run (K : Nat) (a0 : Int) (a1 : Int × Int × Int) (a2 : List ((Int × Int × Int × Int) × Int × Int)) (a3 : List (Int × Int)) (a4 : Int × Int) : runF (f3E K) Tryz.f3 [(.ro, (.int .i64)), (.ro, (.cons (.int .i64) (.cons (.int .i64) (.int .i64)))), (.ro, (.list 96 (.cons (.cons (.int .i64) (.cons (.int .i64) (.cons (.int .i64) (.int .i64)))) (.cons (.int .i64) (.int .i64))))), (.ro, (.list 27 (.cons (.int .i64) (.int .i64)))), (.ro, (.cons (.int .i64) (.int .i64)))] [.bool] (a0, a1, a2, a3, a4, ()) = f3G K a0 a1 a2 a3 a4 := by kernel_rfl
theorem f32_t4 (K : Nat) (a0 : Int) (a1 : Int × Int × Int) (a2 : List ((Int × Int × Int × Int) × Int × Int)) (a3 : List (Int × Int)) (y1 : Int) (y2 : (List Int) × Bool) (bq5 : Int) (bq6 : List Int) : ∀ (n : Nat) (q5 : Int) (q6 : List Int), loopN (exec (f32E K) 2 (selC f32C [1, 1, 1, 1, 1, 1, 0, 1, 0, 0])) 2 (f32_fr4 a0 a1 a2 a3 y1 y2 bq5 bq6) n (f32_fr4 a0 a1 a2 a3 y1 y2 q5 q6) (f32_k4 K a0 a1 a2 a3 (realL (f32E K) 2)) = f32_l4 K a0 a1 a2 a3 y1 y2 n q5 q6 := by
  have key : ∀ (lr : LR ((Int × (Int × Int × Int) × List Int) × Int)) (L : Fr → Option ((Int × (Int × Int × Int) × List Int) × Int)) (q5 : Int) (q6 : List Int), execG (f32E K) 2 lr (selC f32C [1, 1, 1, 1, 1, 1, 0, 1, 0, 0]) (f32_fr4 a0 a1 a2 a3 y1 y2 q5 q6) (loopK 2 (f32_fr4 a0 a1 a2 a3 y1 y2 bq5 bq6) L (f32_k4 K a0 a1 a2 a3 lr)) = f32_b4 K a0 a1 a2 a3 y1 y2 (fun v0 v1 => L (f32_fr4 a0 a1 a2 a3 y1 y2 v0 v1)) q5 q6 := by
    intro lr L q5 q6; kernel_rfl
  intro n q5 q6
  refine loopN_iter (X := Int × List Int) (frame := fun x => (f32_fr4 a0 a1 a2 a3 y1 y2 x.1 x.2)) (body := (fun L x => (fun L4 => f32_b4 K a0 a1 a2 a3 y1 y2 L4 x.1 x.2) (fun v0 v1 => L (v0, v1)))) (fun L x => ?_) n (q5, q6)
  rw [exec_G]
  exact (key (realL (f32E K) 2) L x.1 x.2).trans (by rfl)
theorem f32_run (K : Nat) (a0 : Int) (a1 : Int × Int × Int) (a2 : List ((Int × Int × Int × Int) × Int × Int)) (a3 : List (Int × Int)) : runF (f32E K) Tryz.f32 [(.ro, (.int .i64)), (.ro, (.cons (.int .i64) (.cons (.int .i64) (.int .i64)))), (.ro, (.list 34 (.cons (.cons (.int .i64) (.cons (.int .i64) (.cons (.int .i64) (.int .i64)))) (.cons (.int .i64) (.int .i64))))), (.ro, (.list 32 (.cons (.int .i64) (.int .i64))))] [(.cons (.int .i64) (.cons (.cons (.int .i64) (.cons (.int .i64) (.int .i64))) (.list 2 (.int .i64)))), (.int .i64)] (a0, a1, a2, a3, ()) = f32G K a0 a1 a2 a3 := by
  have key : ∀ (lr : LR ((Int × (Int × Int × Int) × List Int) × Int)), runG (f32E K) Tryz.f32 [(.ro, (.int .i64)), (.ro, (.cons (.int .i64) (.cons (.int .i64) (.int .i64)))), (.ro, (.list 34 (.cons (.cons (.int .i64) (.cons (.int .i64) (.cons (.int .i64) (.int .i64)))) (.cons (.int .i64) (.int .i64))))), (.ro, (.list 32 (.cons (.int .i64) (.int .i64))))] [(.cons (.int .i64) (.cons (.cons (.int .i64) (.cons (.int .i64) (.int .i64))) (.list 2 (.int .i64)))), (.int .i64)] (a0, a1, a2, a3, ()) lr = f32_g K a0 a1 a2 a3 (fun c0 c1 d0 d1 => lr (selC f32C [1, 1, 1, 1, 1, 1, 0, 1, 0, 0]) (f32_fr4 a0 a1 a2 a3 c0 c1 d0 d1) (f32_k4 K a0 a1 a2 a3 lr)) := by intro lr; kernel_rfl
  have h4 : (fun c0 c1 d0 d1 => (realL (f32E K) 2) (selC f32C [1, 1, 1, 1, 1, 1, 0, 1, 0, 0]) (f32_fr4 a0 a1 a2 a3 c0 c1 d0 d1) (f32_k4 K a0 a1 a2 a3 (realL (f32E K) 2))) = fun c0 c1 d0 d1 => f32_l4 K a0 a1 a2 a3 c0 c1 K d0 d1 := by
    funext c0 c1 d0 d1
    exact f32_t4 K a0 a1 a2 a3 c0 c1 d0 d1 K d0 d1
  exact runF_G (n0 := 2) (by rfl) ((key (realL (f32E K) 2)).trans (by rw [h4] <;> rfl))
theorem f79_run (K : Nat) (a0 : Int × Int × Int) (a1 : Int × Int) : runF (f79E K) Tryz.f79 [(.ro, (.cons (.int .i64) (.cons (.int .i64) (.int .i64)))), (.ro, (.cons (.int .i64) (.int .i64)))] [(.int .i64)] (a0, a1, ()) = f79G K a0 a1 := by kernel_rfl
theorem f78_t4 (K : Nat) (a0 : Int) (a1 : Int × Int × Int) (a2 : List (Int × Int)) (a3 : Int) (bq5 : Int) (bq6 : List Int) : ∀ (n : Nat) (q5 : Int) (q6 : List Int), loopN (exec (f78E K) 1 (selC f78C [1, 1, 0, 1, 0, 0])) 1 (f78_fr4 a0 a1 a2 a3 bq5 bq6) n (f78_fr4 a0 a1 a2 a3 q5 q6) (f78_k4 K a0 a1 a2 a3 (realL (f78E K) 1)) = f78_l4 K a0 a1 a2 a3 n q5 q6 := by
  have key : ∀ (lr : LR (Int × (Int × Int × Int) × List Int)) (L : Fr → Option (Int × (Int × Int × Int) × List Int)) (q5 : Int) (q6 : List Int), execG (f78E K) 1 lr (selC f78C [1, 1, 0, 1, 0, 0]) (f78_fr4 a0 a1 a2 a3 q5 q6) (loopK 1 (f78_fr4 a0 a1 a2 a3 bq5 bq6) L (f78_k4 K a0 a1 a2 a3 lr)) = f78_b4 K a0 a1 a2 a3 (fun v0 v1 => L (f78_fr4 a0 a1 a2 a3 v0 v1)) q5 q6 := by
    intro lr L q5 q6; kernel_rfl
  intro n q5 q6
  refine loopN_iter (X := Int × List Int) (frame := fun x => (f78_fr4 a0 a1 a2 a3 x.1 x.2)) (body := (fun L x => (fun L4 => f78_b4 K a0 a1 a2 a3 L4 x.1 x.2) (fun v0 v1 => L (v0, v1)))) (fun L x => ?_) n (q5, q6)
  rw [exec_G]
  exact (key (realL (f78E K) 1) L x.1 x.2).trans (by rfl)
theorem f78_run (K : Nat) (a0 : Int) (a1 : Int × Int × Int) (a2 : List (Int × Int)) (a3 : Int) : runF (f78E K) Tryz.f78 [(.ro, (.int .i64)), (.ro, (.cons (.int .i64) (.cons (.int .i64) (.int .i64)))), (.ro, (.list 32 (.cons (.int .i64) (.int .i64)))), (.ro, (.int .i64))] [(.cons (.int .i64) (.cons (.cons (.int .i64) (.cons (.int .i64) (.int .i64))) (.list 2 (.int .i64))))] (a0, a1, a2, a3, ()) = f78G K a0 a1 a2 a3 := by
  have key : ∀ (lr : LR (Int × (Int × Int × Int) × List Int)), runG (f78E K) Tryz.f78 [(.ro, (.int .i64)), (.ro, (.cons (.int .i64) (.cons (.int .i64) (.int .i64)))), (.ro, (.list 32 (.cons (.int .i64) (.int .i64)))), (.ro, (.int .i64))] [(.cons (.int .i64) (.cons (.cons (.int .i64) (.cons (.int .i64) (.int .i64))) (.list 2 (.int .i64))))] (a0, a1, a2, a3, ()) lr = f78_g K a0 a1 a2 a3 (fun d0 d1 => lr (selC f78C [1, 1, 0, 1, 0, 0]) (f78_fr4 a0 a1 a2 a3 d0 d1) (f78_k4 K a0 a1 a2 a3 lr)) := by intro lr; kernel_rfl
  have h4 : (fun d0 d1 => (realL (f78E K) 1) (selC f78C [1, 1, 0, 1, 0, 0]) (f78_fr4 a0 a1 a2 a3 d0 d1) (f78_k4 K a0 a1 a2 a3 (realL (f78E K) 1))) = fun d0 d1 => f78_l4 K a0 a1 a2 a3 K d0 d1 := by
    funext d0 d1
    exact f78_t4 K a0 a1 a2 a3 d0 d1 K d0 d1
  exact runF_G (n0 := 1) (by rfl) ((key (realL (f78E K) 1)).trans (by rw [h4] <;> rfl))
theorem f33_t15 (K : Nat) (a0 : Int) (a1 : Int × Int × Int) (a2 : List ((Int × Int × Int × Int) × Int × Int)) (a3 : List (Int × Int)) (y1 : Int) (y2 : Bool) (y3 : Int × (Int × Int × Int) × List Int) (y4 : List (List (Int × Int))) (q13 : Int) (F12 : Fr → Option ((Int × (Int × Int × Int) × List Int) × Int)) (bq13 : Int) (bq14 : List Int) (bq16 : Int) (bq17 : List Int) : ∀ (n : Nat) (q16 : Int) (q17 : List Int), loopN (exec (f33E K) 2 (selC f33C [1, 1, 1, 1, 0, 1, 0, 0, 1, 1, 0, 0, 1, 1, 0, 0])) 2 (f33_fr15 a0 a1 a2 a3 q13 y1 y2 y3 y4 bq16 bq17) n (f33_fr15 a0 a1 a2 a3 q13 y1 y2 y3 y4 q16 q17) (f33_k15 K a0 a1 a2 a3 y1 y2 y3 y4 F12 bq13 bq14 (realL (f33E K) 2)) = f33_l15 K a0 a1 a2 a3 q13 y1 y2 y3 y4 (fun v0 v1 => F12 (f33_fr12 a0 a1 a2 a3 y1 y2 y3 y4 v0 v1)) n q16 q17 := by
  have key : ∀ (lr : LR ((Int × (Int × Int × Int) × List Int) × Int)) (L : Fr → Option ((Int × (Int × Int × Int) × List Int) × Int)) (q16 : Int) (q17 : List Int), execG (f33E K) 2 lr (selC f33C [1, 1, 1, 1, 0, 1, 0, 0, 1, 1, 0, 0, 1, 1, 0, 0]) (f33_fr15 a0 a1 a2 a3 q13 y1 y2 y3 y4 q16 q17) (loopK 2 (f33_fr15 a0 a1 a2 a3 q13 y1 y2 y3 y4 bq16 bq17) L (f33_k15 K a0 a1 a2 a3 y1 y2 y3 y4 F12 bq13 bq14 lr)) = f33_b15 K a0 a1 a2 a3 q13 y1 y2 y3 y4 (fun v0 v1 => F12 (f33_fr12 a0 a1 a2 a3 y1 y2 y3 y4 v0 v1)) (fun v0 v1 => L (f33_fr15 a0 a1 a2 a3 q13 y1 y2 y3 y4 v0 v1)) q16 q17 := by
    intro lr L q16 q17; kernel_rfl
  intro n q16 q17
  refine loopN_iter (X := Int × List Int) (frame := fun x => (f33_fr15 a0 a1 a2 a3 q13 y1 y2 y3 y4 x.1 x.2)) (body := (fun L x => (fun L15 => f33_b15 K a0 a1 a2 a3 q13 y1 y2 y3 y4 (fun v0 v1 => F12 (f33_fr12 a0 a1 a2 a3 y1 y2 y3 y4 v0 v1)) L15 x.1 x.2) (fun v0 v1 => L (v0, v1)))) (fun L x => ?_) n (q16, q17)
  rw [exec_G]
  exact (key (realL (f33E K) 2) L x.1 x.2).trans (by rfl)
theorem f33_t12 (K : Nat) (a0 : Int) (a1 : Int × Int × Int) (a2 : List ((Int × Int × Int × Int) × Int × Int)) (a3 : List (Int × Int)) (y1 : Int) (y2 : Bool) (y3 : Int × (Int × Int × Int) × List Int) (y4 : List (List (Int × Int))) (bq13 : Int) (bq14 : List Int) : ∀ (n : Nat) (q13 : Int) (q14 : List Int), loopN (exec (f33E K) 2 (selC f33C [1, 1, 1, 1, 0, 1, 0, 0])) 2 (f33_fr12 a0 a1 a2 a3 y1 y2 y3 y4 bq13 bq14) n (f33_fr12 a0 a1 a2 a3 y1 y2 y3 y4 q13 q14) (f33_k12 K a0 a1 a2 a3 (realL (f33E K) 2)) = f33_l12 K a0 a1 a2 a3 y1 y2 y3 y4 n q13 q14 := by
  have key : ∀ (lr : LR ((Int × (Int × Int × Int) × List Int) × Int)) (L : Fr → Option ((Int × (Int × Int × Int) × List Int) × Int)) (q13 : Int) (q14 : List Int), execG (f33E K) 2 lr (selC f33C [1, 1, 1, 1, 0, 1, 0, 0]) (f33_fr12 a0 a1 a2 a3 y1 y2 y3 y4 q13 q14) (loopK 2 (f33_fr12 a0 a1 a2 a3 y1 y2 y3 y4 bq13 bq14) L (f33_k12 K a0 a1 a2 a3 lr)) = f33_b12 K a0 a1 a2 a3 y1 y2 y3 y4 (fun c0 d0 d1 => lr (selC f33C [1, 1, 1, 1, 0, 1, 0, 0, 1, 1, 0, 0, 1, 1, 0, 0]) (f33_fr15 a0 a1 a2 a3 c0 y1 y2 y3 y4 d0 d1) (f33_k15 K a0 a1 a2 a3 y1 y2 y3 y4 L bq13 bq14 lr)) (fun v0 v1 => L (f33_fr12 a0 a1 a2 a3 y1 y2 y3 y4 v0 v1)) q13 q14 := by
    intro lr L q13 q14; kernel_rfl
  intro n q13 q14
  refine loopN_iter (X := Int × List Int) (frame := fun x => (f33_fr12 a0 a1 a2 a3 y1 y2 y3 y4 x.1 x.2)) (body := (fun L x => (fun L12 => f33_b12 K a0 a1 a2 a3 y1 y2 y3 y4 (fun c0 d0 d1 => f33_l15 K a0 a1 a2 a3 c0 y1 y2 y3 y4 L12 K d0 d1) L12 x.1 x.2) (fun v0 v1 => L (v0, v1)))) (fun L x => ?_) n (q13, q14)
  rw [exec_G]
  have h15 : (fun c0 d0 d1 => (realL (f33E K) 2) (selC f33C [1, 1, 1, 1, 0, 1, 0, 0, 1, 1, 0, 0, 1, 1, 0, 0]) (f33_fr15 a0 a1 a2 a3 c0 y1 y2 y3 y4 d0 d1) (f33_k15 K a0 a1 a2 a3 y1 y2 y3 y4 L bq13 bq14 (realL (f33E K) 2))) = fun c0 d0 d1 => f33_l15 K a0 a1 a2 a3 c0 y1 y2 y3 y4 (fun v0 v1 => L (f33_fr12 a0 a1 a2 a3 y1 y2 y3 y4 v0 v1)) K d0 d1 := by
    funext c0 d0 d1
    exact f33_t15 K a0 a1 a2 a3 y1 y2 y3 y4 c0 L bq13 bq14 d0 d1 K d0 d1
  exact (key (realL (f33E K) 2) L x.1 x.2).trans (by rw [h15] <;> rfl)
theorem f33_run (K : Nat) (a0 : Int) (a1 : Int × Int × Int) (a2 : List ((Int × Int × Int × Int) × Int × Int)) (a3 : List (Int × Int)) : runF (f33E K) Tryz.f33 [(.ro, (.int .i64)), (.ro, (.cons (.int .i64) (.cons (.int .i64) (.int .i64)))), (.ro, (.list 34 (.cons (.cons (.int .i64) (.cons (.int .i64) (.cons (.int .i64) (.int .i64)))) (.cons (.int .i64) (.int .i64))))), (.ro, (.list 32 (.cons (.int .i64) (.int .i64))))] [(.cons (.int .i64) (.cons (.cons (.int .i64) (.cons (.int .i64) (.int .i64))) (.list 2 (.int .i64)))), (.int .i64)] (a0, a1, a2, a3, ()) = f33G K a0 a1 a2 a3 := by
  have key : ∀ (lr : LR ((Int × (Int × Int × Int) × List Int) × Int)), runG (f33E K) Tryz.f33 [(.ro, (.int .i64)), (.ro, (.cons (.int .i64) (.cons (.int .i64) (.int .i64)))), (.ro, (.list 34 (.cons (.cons (.int .i64) (.cons (.int .i64) (.cons (.int .i64) (.int .i64)))) (.cons (.int .i64) (.int .i64))))), (.ro, (.list 32 (.cons (.int .i64) (.int .i64))))] [(.cons (.int .i64) (.cons (.cons (.int .i64) (.cons (.int .i64) (.int .i64))) (.list 2 (.int .i64)))), (.int .i64)] (a0, a1, a2, a3, ()) lr = f33_g K a0 a1 a2 a3 (fun c0 c1 c2 c3 d0 d1 => lr (selC f33C [1, 1, 1, 1, 0, 1, 0, 0]) (f33_fr12 a0 a1 a2 a3 c0 c1 c2 c3 d0 d1) (f33_k12 K a0 a1 a2 a3 lr)) := by intro lr; kernel_rfl
  have h12 : (fun c0 c1 c2 c3 d0 d1 => (realL (f33E K) 2) (selC f33C [1, 1, 1, 1, 0, 1, 0, 0]) (f33_fr12 a0 a1 a2 a3 c0 c1 c2 c3 d0 d1) (f33_k12 K a0 a1 a2 a3 (realL (f33E K) 2))) = fun c0 c1 c2 c3 d0 d1 => f33_l12 K a0 a1 a2 a3 c0 c1 c2 c3 K d0 d1 := by
    funext c0 c1 c2 c3 d0 d1
    exact f33_t12 K a0 a1 a2 a3 c0 c1 c2 c3 d0 d1 K d0 d1
  exact runF_G (n0 := 2) (by rfl) ((key (realL (f33E K) 2)).trans (by rw [h12] <;> rfl))
theorem f80_run (K : Nat) (a0 : Int × Int × Int) (a1 : Int × Int × Int) : runF (f80E K) Tryz.f80 [(.ro, (.cons (.int .i64) (.cons (.int .i64) (.int .i64)))), (.ro, (.cons (.int .i64) (.cons (.int .i64) (.int .i64))))] [.bool] (a0, a1, ()) = f80G K a0 a1 := by kernel_rfl
theorem f44_t2 (K : Nat) (a0 : List Int) (a1 : List Int) (bq3 : Int) : ∀ (n : Nat) (q3 : Int), loopN (exec (f44E K) 2 (selC f44C [1, 1, 0, 1, 0, 0])) 2 (f44_fr2 a0 a1 bq3) n (f44_fr2 a0 a1 q3) (f44_k2 K a0 a1 (realL (f44E K) 2)) = f44_l2 K a0 a1 n q3 := by
  have key : ∀ (lr : LR Bool) (L : Fr → Option Bool) (q3 : Int), execG (f44E K) 2 lr (selC f44C [1, 1, 0, 1, 0, 0]) (f44_fr2 a0 a1 q3) (loopK 2 (f44_fr2 a0 a1 bq3) L (f44_k2 K a0 a1 lr)) = f44_b2 K a0 a1 (fun v0 => L (f44_fr2 a0 a1 v0)) q3 := by
    intro lr L q3; kernel_rfl
  intro n q3
  refine loopN_iter (X := Int) (frame := fun x => (f44_fr2 a0 a1 x)) (body := (fun L x => (fun L2 => f44_b2 K a0 a1 L2 x) (fun v0 => L v0))) (fun L x => ?_) n q3
  rw [exec_G]
  exact (key (realL (f44E K) 2) L x).trans (by rfl)
theorem f44_run (K : Nat) (a0 : List Int) (a1 : List Int) : runF (f44E K) Tryz.f44 [(.ro, (.list 2 (.int .i64))), (.ro, (.list 2 (.int .i64)))] [.bool] (a0, a1, ()) = f44G K a0 a1 := by
  have key : ∀ (lr : LR Bool), runG (f44E K) Tryz.f44 [(.ro, (.list 2 (.int .i64))), (.ro, (.list 2 (.int .i64)))] [.bool] (a0, a1, ()) lr = f44_g K a0 a1 (fun d0 => lr (selC f44C [1, 1, 0, 1, 0, 0]) (f44_fr2 a0 a1 d0) (f44_k2 K a0 a1 lr)) := by intro lr; kernel_rfl
  have h2 : (fun d0 => (realL (f44E K) 2) (selC f44C [1, 1, 0, 1, 0, 0]) (f44_fr2 a0 a1 d0) (f44_k2 K a0 a1 (realL (f44E K) 2))) = fun d0 => f44_l2 K a0 a1 K d0 := by
    funext d0
    exact f44_t2 K a0 a1 d0 K d0
  exact runF_G (n0 := 2) (by rfl) ((key (realL (f44E K) 2)).trans (by rw [h2] <;> rfl))
theorem f34_run (K : Nat) (a0 : Int × (Int × Int × Int) × List Int) (a1 : Int × (Int × Int × Int) × List Int) : runF (f34E K) Tryz.f34 [(.ro, (.cons (.int .i64) (.cons (.cons (.int .i64) (.cons (.int .i64) (.int .i64))) (.list 2 (.int .i64))))), (.ro, (.cons (.int .i64) (.cons (.cons (.int .i64) (.cons (.int .i64) (.int .i64))) (.list 2 (.int .i64)))))] [.bool] (a0, a1, ()) = f34G K a0 a1 := by kernel_rfl
theorem f28_t2 (K : Nat) (a0 : List ((Int × Int × Int × Int) × Int × Int)) (a1 : Int) (bq3 : Int) (bq4 : Int) (bq5 : List ((Int × Int × Int × Int) × Int × Int)) : ∀ (n : Nat) (q3 : Int) (q4 : Int) (q5 : List ((Int × Int × Int × Int) × Int × Int)), loopN (exec (f28E K) 1 (selC f28C [1, 0, 1, 0, 0])) 1 (f28_fr2 bq3 bq4 bq5) n (f28_fr2 q3 q4 q5) (f28_k2 K a0 a1 (realL (f28E K) 1)) = f28_l2 K n q3 q4 q5 := by
  have key : ∀ (lr : LR ((List ((Int × Int × Int × Int) × Int × Int)) × Int)) (L : Fr → Option ((List ((Int × Int × Int × Int) × Int × Int)) × Int)) (q3 : Int) (q4 : Int) (q5 : List ((Int × Int × Int × Int) × Int × Int)), execG (f28E K) 1 lr (selC f28C [1, 0, 1, 0, 0]) (f28_fr2 q3 q4 q5) (loopK 1 (f28_fr2 bq3 bq4 bq5) L (f28_k2 K a0 a1 lr)) = f28_b2 K (fun v0 v1 v2 => L (f28_fr2 v0 v1 v2)) q3 q4 q5 := by
    intro lr L q3 q4 q5; kernel_rfl
  intro n q3 q4 q5
  refine loopN_iter (X := Int × Int × List ((Int × Int × Int × Int) × Int × Int)) (frame := fun x => (f28_fr2 x.1 x.2.1 x.2.2)) (body := (fun L x => (fun L2 => f28_b2 K L2 x.1 x.2.1 x.2.2) (fun v0 v1 v2 => L (v0, v1, v2)))) (fun L x => ?_) n (q3, q4, q5)
  rw [exec_G]
  exact (key (realL (f28E K) 1) L x.1 x.2.1 x.2.2).trans (by rfl)
theorem f28_run (K : Nat) (a0 : List ((Int × Int × Int × Int) × Int × Int)) (a1 : Int) : runF (f28E K) Tryz.f28 [(.io, (.list 34 (.cons (.cons (.int .i64) (.cons (.int .i64) (.cons (.int .i64) (.int .i64)))) (.cons (.int .i64) (.int .i64))))), (.ro, (.int .i64))] [(.int .i64)] (a0, a1, ()) = f28G K a0 a1 := by
  have key : ∀ (lr : LR ((List ((Int × Int × Int × Int) × Int × Int)) × Int)), runG (f28E K) Tryz.f28 [(.io, (.list 34 (.cons (.cons (.int .i64) (.cons (.int .i64) (.cons (.int .i64) (.int .i64)))) (.cons (.int .i64) (.int .i64))))), (.ro, (.int .i64))] [(.int .i64)] (a0, a1, ()) lr = f28_g K a0 a1 (fun d0 d1 d2 => lr (selC f28C [1, 0, 1, 0, 0]) (f28_fr2 d0 d1 d2) (f28_k2 K a0 a1 lr)) := by intro lr; kernel_rfl
  have h2 : (fun d0 d1 d2 => (realL (f28E K) 1) (selC f28C [1, 0, 1, 0, 0]) (f28_fr2 d0 d1 d2) (f28_k2 K a0 a1 (realL (f28E K) 1))) = fun d0 d1 d2 => f28_l2 K K d0 d1 d2 := by
    funext d0 d1 d2
    exact f28_t2 K a0 a1 d0 d1 d2 K d0 d1 d2
  exact runF_G (n0 := 1) (by rfl) ((key (realL (f28E K) 1)).trans (by rw [h2] <;> rfl))
theorem f29_t2 (K : Nat) (a0 : List (Int × Int)) (a1 : Int) (bq3 : Int) (bq4 : Int) (bq5 : List (Int × Int)) : ∀ (n : Nat) (q3 : Int) (q4 : Int) (q5 : List (Int × Int)), loopN (exec (f29E K) 1 (selC f29C [1, 0, 1, 0, 0])) 1 (f29_fr2 bq3 bq4 bq5) n (f29_fr2 q3 q4 q5) (f29_k2 K a0 a1 (realL (f29E K) 1)) = f29_l2 K n q3 q4 q5 := by
  have key : ∀ (lr : LR ((List (Int × Int)) × Int)) (L : Fr → Option ((List (Int × Int)) × Int)) (q3 : Int) (q4 : Int) (q5 : List (Int × Int)), execG (f29E K) 1 lr (selC f29C [1, 0, 1, 0, 0]) (f29_fr2 q3 q4 q5) (loopK 1 (f29_fr2 bq3 bq4 bq5) L (f29_k2 K a0 a1 lr)) = f29_b2 K (fun v0 v1 v2 => L (f29_fr2 v0 v1 v2)) q3 q4 q5 := by
    intro lr L q3 q4 q5; kernel_rfl
  intro n q3 q4 q5
  refine loopN_iter (X := Int × Int × List (Int × Int)) (frame := fun x => (f29_fr2 x.1 x.2.1 x.2.2)) (body := (fun L x => (fun L2 => f29_b2 K L2 x.1 x.2.1 x.2.2) (fun v0 v1 v2 => L (v0, v1, v2)))) (fun L x => ?_) n (q3, q4, q5)
  rw [exec_G]
  exact (key (realL (f29E K) 1) L x.1 x.2.1 x.2.2).trans (by rfl)
theorem f29_run (K : Nat) (a0 : List (Int × Int)) (a1 : Int) : runF (f29E K) Tryz.f29 [(.io, (.list 32 (.cons (.int .i64) (.int .i64)))), (.ro, (.int .i64))] [(.int .i64)] (a0, a1, ()) = f29G K a0 a1 := by
  have key : ∀ (lr : LR ((List (Int × Int)) × Int)), runG (f29E K) Tryz.f29 [(.io, (.list 32 (.cons (.int .i64) (.int .i64)))), (.ro, (.int .i64))] [(.int .i64)] (a0, a1, ()) lr = f29_g K a0 a1 (fun d0 d1 d2 => lr (selC f29C [1, 0, 1, 0, 0]) (f29_fr2 d0 d1 d2) (f29_k2 K a0 a1 lr)) := by intro lr; kernel_rfl
  have h2 : (fun d0 d1 d2 => (realL (f29E K) 1) (selC f29C [1, 0, 1, 0, 0]) (f29_fr2 d0 d1 d2) (f29_k2 K a0 a1 (realL (f29E K) 1))) = fun d0 d1 d2 => f29_l2 K K d0 d1 d2 := by
    funext d0 d1 d2
    exact f29_t2 K a0 a1 d0 d1 d2 K d0 d1 d2
  exact runF_G (n0 := 1) (by rfl) ((key (realL (f29E K) 1)).trans (by rw [h2] <;> rfl))
theorem f45_t2 (K : Nat) (a0 : List Int) (a1 : Int) (bq3 : Int) (bq4 : Int) (bq5 : List Int) : ∀ (n : Nat) (q3 : Int) (q4 : Int) (q5 : List Int), loopN (exec (f45E K) 1 (selC f45C [1, 0, 1, 0, 0])) 1 (f45_fr2 bq3 bq4 bq5) n (f45_fr2 q3 q4 q5) (f45_k2 K a0 a1 (realL (f45E K) 1)) = f45_l2 K n q3 q4 q5 := by
  have key : ∀ (lr : LR ((List Int) × Int)) (L : Fr → Option ((List Int) × Int)) (q3 : Int) (q4 : Int) (q5 : List Int), execG (f45E K) 1 lr (selC f45C [1, 0, 1, 0, 0]) (f45_fr2 q3 q4 q5) (loopK 1 (f45_fr2 bq3 bq4 bq5) L (f45_k2 K a0 a1 lr)) = f45_b2 K (fun v0 v1 v2 => L (f45_fr2 v0 v1 v2)) q3 q4 q5 := by
    intro lr L q3 q4 q5; kernel_rfl
  intro n q3 q4 q5
  refine loopN_iter (X := Int × Int × List Int) (frame := fun x => (f45_fr2 x.1 x.2.1 x.2.2)) (body := (fun L x => (fun L2 => f45_b2 K L2 x.1 x.2.1 x.2.2) (fun v0 v1 v2 => L (v0, v1, v2)))) (fun L x => ?_) n (q3, q4, q5)
  rw [exec_G]
  exact (key (realL (f45E K) 1) L x.1 x.2.1 x.2.2).trans (by rfl)
theorem f45_run (K : Nat) (a0 : List Int) (a1 : Int) : runF (f45E K) Tryz.f45 [(.io, (.list 2 (.int .i64))), (.ro, (.int .i64))] [(.int .i64)] (a0, a1, ()) = f45G K a0 a1 := by
  have key : ∀ (lr : LR ((List Int) × Int)), runG (f45E K) Tryz.f45 [(.io, (.list 2 (.int .i64))), (.ro, (.int .i64))] [(.int .i64)] (a0, a1, ()) lr = f45_g K a0 a1 (fun d0 d1 d2 => lr (selC f45C [1, 0, 1, 0, 0]) (f45_fr2 d0 d1 d2) (f45_k2 K a0 a1 lr)) := by intro lr; kernel_rfl
  have h2 : (fun d0 d1 d2 => (realL (f45E K) 1) (selC f45C [1, 0, 1, 0, 0]) (f45_fr2 d0 d1 d2) (f45_k2 K a0 a1 (realL (f45E K) 1))) = fun d0 d1 d2 => f45_l2 K K d0 d1 d2 := by
    funext d0 d1 d2
    exact f45_t2 K a0 a1 d0 d1 d2 K d0 d1 d2
  exact runF_G (n0 := 1) (by rfl) ((key (realL (f45E K) 1)).trans (by rw [h2] <;> rfl))
theorem f35_run (K : Nat) (a0 : Int × (Int × Int × Int) × List Int) (a1 : Int) : runF (f35E K) Tryz.f35 [(.io, (.cons (.int .i64) (.cons (.cons (.int .i64) (.cons (.int .i64) (.int .i64))) (.list 2 (.int .i64))))), (.ro, (.int .i64))] [(.int .i64)] (a0, a1, ()) = f35G K a0 a1 := by kernel_rfl
theorem f46_t2 (K : Nat) (a0 : List Int) (a1 : Int) (bq3 : Int) (bq4 : Int) : ∀ (n : Nat) (q3 : Int) (q4 : Int), loopN (exec (f46E K) 1 (selC f46C [1, 0, 1, 0, 0])) 1 (f46_fr2 a0 bq3 bq4) n (f46_fr2 a0 q3 q4) (f46_k2 K a0 a1 (realL (f46E K) 1)) = f46_l2 K a0 n q3 q4 := by
  have key : ∀ (lr : LR Int) (L : Fr → Option Int) (q3 : Int) (q4 : Int), execG (f46E K) 1 lr (selC f46C [1, 0, 1, 0, 0]) (f46_fr2 a0 q3 q4) (loopK 1 (f46_fr2 a0 bq3 bq4) L (f46_k2 K a0 a1 lr)) = f46_b2 K a0 (fun v0 v1 => L (f46_fr2 a0 v0 v1)) q3 q4 := by
    intro lr L q3 q4; kernel_rfl
  intro n q3 q4
  refine loopN_iter (X := Int × Int) (frame := fun x => (f46_fr2 a0 x.1 x.2)) (body := (fun L x => (fun L2 => f46_b2 K a0 L2 x.1 x.2) (fun v0 v1 => L (v0, v1)))) (fun L x => ?_) n (q3, q4)
  rw [exec_G]
  exact (key (realL (f46E K) 1) L x.1 x.2).trans (by rfl)
theorem f46_run (K : Nat) (a0 : List Int) (a1 : Int) : runF (f46E K) Tryz.f46 [(.ro, (.list 2 (.int .i64))), (.ro, (.int .i64))] [(.int .i64)] (a0, a1, ()) = f46G K a0 a1 := by
  have key : ∀ (lr : LR Int), runG (f46E K) Tryz.f46 [(.ro, (.list 2 (.int .i64))), (.ro, (.int .i64))] [(.int .i64)] (a0, a1, ()) lr = f46_g K a0 a1 (fun d0 d1 => lr (selC f46C [1, 0, 1, 0, 0]) (f46_fr2 a0 d0 d1) (f46_k2 K a0 a1 lr)) := by intro lr; kernel_rfl
  have h2 : (fun d0 d1 => (realL (f46E K) 1) (selC f46C [1, 0, 1, 0, 0]) (f46_fr2 a0 d0 d1) (f46_k2 K a0 a1 (realL (f46E K) 1))) = fun d0 d1 => f46_l2 K a0 K d0 d1 := by
    funext d0 d1
    exact f46_t2 K a0 a1 d0 d1 K d0 d1
  exact runF_G (n0 := 1) (by rfl) ((key (realL (f46E K) 1)).trans (by rw [h2] <;> rfl))
theorem f36_run (K : Nat) (a0 : Int × (Int × Int × Int) × List Int) (a1 : Int) : runF (f36E K) Tryz.f36 [(.ro, (.cons (.int .i64) (.cons (.cons (.int .i64) (.cons (.int .i64) (.int .i64))) (.list 2 (.int .i64))))), (.ro, (.int .i64))] [(.int .i64)] (a0, a1, ()) = f36G K a0 a1 := by kernel_rfl
theorem f5_run (K : Nat) (a0 : Int) (a1 : Int × Int × Int) (a2 : List ((Int × Int × Int × Int) × Int × Int)) (a3 : List (Int × Int)) : runF (f5E K) Tryz.f5 [(.ro, (.int .i64)), (.ro, (.cons (.int .i64) (.cons (.int .i64) (.int .i64)))), (.ro, (.list 96 (.cons (.cons (.int .i64) (.cons (.int .i64) (.cons (.int .i64) (.int .i64)))) (.cons (.int .i64) (.int .i64))))), (.ro, (.list 27 (.cons (.int .i64) (.int .i64))))] [.bool] (a0, a1, a2, a3, ()) = f5G K a0 a1 a2 a3 := by kernel_rfl
end Go.Proofs.YthlldmfkdcmcfaaGreat.X
