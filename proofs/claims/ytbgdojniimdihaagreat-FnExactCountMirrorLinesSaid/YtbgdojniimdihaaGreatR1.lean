/- Functions of the program as plain Lean functions, and that the program does what they say. Printed by gen.py. -/
import Derived.Test.YtbgdojniimdihaaGreatD0
namespace Go.Proofs.YtbgdojniimdihaaGreat.X
open Go
set_option maxRecDepth 100000
set_option linter.unusedVariables false
theorem f90_t4 (K : Nat) (a0 : Int × (Int × Int × Int) × List Int) (a1 : Int × Int × Int) (y1 : List (Int × Int)) (bq5 : Int) (bq6 : List Int) : ∀ (n : Nat) (q5 : Int) (q6 : List Int), loopN (exec (f90E K) 1 (selC f90C [1, 1, 0, 1, 0, 0])) 1 (f90_fr4 a0 a1 y1 bq5 bq6) n (f90_fr4 a0 a1 y1 q5 q6) (f90_k4 K a0 a1 (realL (f90E K) 1)) = f90_l4 K a0 a1 y1 n q5 q6 := by
  have key : ∀ (lr : LR (Int × (Int × Int × Int) × List Int)) (L : Fr → Option (Int × (Int × Int × Int) × List Int)) (q5 : Int) (q6 : List Int), execG (f90E K) 1 lr (selC f90C [1, 1, 0, 1, 0, 0]) (f90_fr4 a0 a1 y1 q5 q6) (loopK 1 (f90_fr4 a0 a1 y1 bq5 bq6) L (f90_k4 K a0 a1 lr)) = f90_b4 K a0 a1 y1 (fun v0 v1 => L (f90_fr4 a0 a1 y1 v0 v1)) q5 q6 := by
    intro lr L q5 q6; kernel_rfl
  intro n q5 q6
  refine loopN_iter (X := Int × List Int) (frame := fun x => (f90_fr4 a0 a1 y1 x.1 x.2)) (body := (fun L x => (fun L4 => f90_b4 K a0 a1 y1 L4 x.1 x.2) (fun v0 v1 => L (v0, v1)))) (fun L x => ?_) n (q5, q6)
  rw [exec_G]
  exact (key (realL (f90E K) 1) L x.1 x.2).trans (by rfl)
theorem f90_run (K : Nat) (a0 : Int × (Int × Int × Int) × List Int) (a1 : Int × Int × Int) : runF (f90E K) Tryz.f90 [(.ro, (.cons (.int .i64) (.cons (.cons (.int .i64) (.cons (.int .i64) (.int .i64))) (.list 2 (.int .i64))))), (.ro, (.cons (.int .i64) (.cons (.int .i64) (.int .i64))))] [(.cons (.int .i64) (.cons (.cons (.int .i64) (.cons (.int .i64) (.int .i64))) (.list 2 (.int .i64))))] (a0, a1, ()) = f90G K a0 a1 := by
  have key : ∀ (lr : LR (Int × (Int × Int × Int) × List Int)), runG (f90E K) Tryz.f90 [(.ro, (.cons (.int .i64) (.cons (.cons (.int .i64) (.cons (.int .i64) (.int .i64))) (.list 2 (.int .i64))))), (.ro, (.cons (.int .i64) (.cons (.int .i64) (.int .i64))))] [(.cons (.int .i64) (.cons (.cons (.int .i64) (.cons (.int .i64) (.int .i64))) (.list 2 (.int .i64))))] (a0, a1, ()) lr = f90_g K a0 a1 (fun c0 d0 d1 => lr (selC f90C [1, 1, 0, 1, 0, 0]) (f90_fr4 a0 a1 c0 d0 d1) (f90_k4 K a0 a1 lr)) := by intro lr; kernel_rfl
  have h4 : (fun c0 d0 d1 => (realL (f90E K) 1) (selC f90C [1, 1, 0, 1, 0, 0]) (f90_fr4 a0 a1 c0 d0 d1) (f90_k4 K a0 a1 (realL (f90E K) 1))) = fun c0 d0 d1 => f90_l4 K a0 a1 c0 K d0 d1 := by
    funext c0 d0 d1
    exact f90_t4 K a0 a1 c0 d0 d1 K d0 d1
  exact runF_G (n0 := 1) (by rfl) ((key (realL (f90E K) 1)).trans (by rw [h4] <;> rfl))
theorem f58_run (K : Nat) (a0 : Int × (Int × Int × Int) × List Int) : runF (f58E K) Tryz.f58 [(.ro, (.cons (.int .i64) (.cons (.cons (.int .i64) (.cons (.int .i64) (.int .i64))) (.list 2 (.int .i64)))))] [(.cons (.int .i64) (.cons (.cons (.int .i64) (.cons (.int .i64) (.int .i64))) (.list 2 (.int .i64))))] (a0, ()) = f58G K a0 := by kernel_rfl
theorem f174_run (K : Nat) (a0 : Int) (a1 : Int × Int) : runF (f174E K) Tryz.f174 [(.ro, (.int .i64)), (.ro, (.cons (.int .i64) (.int .i64)))] [(.int .i64)] (a0, a1, ()) = f174G K a0 a1 := by kernel_rfl
theorem f160_t8 (K : Nat) (a0 : Int) (bq9 : Int) (bq10 : List (Int × Int × Int × Int)) : ∀ (n : Nat) (q9 : Int) (q10 : List (Int × Int × Int × Int)), loopN (exec (f160E K) 0 (selC f160C [1, 1, 0, 1, 0, 0])) 0 (f160_fr8 a0 bq9 bq10) n (f160_fr8 a0 q9 q10) (f160_k8 K a0 (realL (f160E K) 0)) = f160_l8 K a0 n q9 q10 := by
  have key : ∀ (lr : LR (List (Int × Int × Int × Int))) (L : Fr → Option (List (Int × Int × Int × Int))) (q9 : Int) (q10 : List (Int × Int × Int × Int)), execG (f160E K) 0 lr (selC f160C [1, 1, 0, 1, 0, 0]) (f160_fr8 a0 q9 q10) (loopK 0 (f160_fr8 a0 bq9 bq10) L (f160_k8 K a0 lr)) = f160_b8 K a0 (fun v0 v1 => L (f160_fr8 a0 v0 v1)) q9 q10 := by
    intro lr L q9 q10; kernel_rfl
  intro n q9 q10
  refine loopN_iter (X := Int × List (Int × Int × Int × Int)) (frame := fun x => (f160_fr8 a0 x.1 x.2)) (body := (fun L x => (fun L8 => f160_b8 K a0 L8 x.1 x.2) (fun v0 v1 => L (v0, v1)))) (fun L x => ?_) n (q9, q10)
  rw [exec_G]
  exact (key (realL (f160E K) 0) L x.1 x.2).trans (by rfl)
theorem f160_run (K : Nat) (a0 : Int) : runF (f160E K) Tryz.f160 [(.ro, (.int .i64))] [(.list 31 (.cons (.int .i64) (.cons (.int .i64) (.cons (.int .i64) (.int .i64)))))] (a0, ()) = f160G K a0 := by
  have key : ∀ (lr : LR (List (Int × Int × Int × Int))), runG (f160E K) Tryz.f160 [(.ro, (.int .i64))] [(.list 31 (.cons (.int .i64) (.cons (.int .i64) (.cons (.int .i64) (.int .i64)))))] (a0, ()) lr = f160_g K a0 (fun d0 d1 => lr (selC f160C [1, 1, 0, 1, 0, 0]) (f160_fr8 a0 d0 d1) (f160_k8 K a0 lr)) := by intro lr; kernel_rfl
  have h8 : (fun d0 d1 => (realL (f160E K) 0) (selC f160C [1, 1, 0, 1, 0, 0]) (f160_fr8 a0 d0 d1) (f160_k8 K a0 (realL (f160E K) 0))) = fun d0 d1 => f160_l8 K a0 K d0 d1 := by
    funext d0 d1
    exact f160_t8 K a0 d0 d1 K d0 d1
  exact runF_G (n0 := 0) (by rfl) ((key (realL (f160E K) 0)).trans (by rw [h8] <;> rfl))
theorem f162_run (K : Nat) (a0 : Int × Int × Int) (a1 : Int × Int) : runF (f162E K) Tryz.f162 [(.ro, (.cons (.int .i64) (.cons (.int .i64) (.int .i64)))), (.ro, (.cons (.int .i64) (.int .i64)))] [.bool] (a0, a1, ()) = f162G K a0 a1 := by kernel_rfl
theorem f161_run (K : Nat) (a0 : Int × Int × Int × Int) (a1 : Int × Int × Int) (a2 : Int × Int) (a3 : Int × Int) : runF (f161E K) Tryz.f161 [(.ro, (.cons (.int .i64) (.cons (.int .i64) (.cons (.int .i64) (.int .i64))))), (.cap, (.cons (.int .i64) (.cons (.int .i64) (.int .i64)))), (.cap, (.cons (.int .i64) (.int .i64))), (.cap, (.cons (.int .i64) (.int .i64)))] [.bool] (a0, a1, a2, a3, ()) = f161G K a0 a1 a2 a3 := by kernel_rfl
theorem f173_t3 (K : Nat) (a0 : List (Int × Int × Int × Int)) (a1 : ((Int × Int × Int × Int) → Option Bool)) (bq4 : Int) : ∀ (n : Nat) (q4 : Int), loopN (exec (f173E K) 1 (selC f173C [1, 0, 1, 0, 0])) 1 (f173_fr3 a0 a1 bq4) n (f173_fr3 a0 a1 q4) (f173_k3 K a0 a1 (realL (f173E K) 1)) = f173_l3 K a0 a1 n q4 := by
  have key : ∀ (lr : LR Int) (L : Fr → Option Int) (q4 : Int), execG (f173E K) 1 lr (selC f173C [1, 0, 1, 0, 0]) (f173_fr3 a0 a1 q4) (loopK 1 (f173_fr3 a0 a1 bq4) L (f173_k3 K a0 a1 lr)) = f173_b3 K a0 a1 (fun v0 => L (f173_fr3 a0 a1 v0)) q4 := by
    intro lr L q4; kernel_rfl
  intro n q4
  refine loopN_iter (X := Int) (frame := fun x => (f173_fr3 a0 a1 x)) (body := (fun L x => (fun L3 => f173_b3 K a0 a1 L3 x) (fun v0 => L v0))) (fun L x => ?_) n q4
  rw [exec_G]
  exact (key (realL (f173E K) 1) L x).trans (by rfl)
theorem f173_run (K : Nat) (a0 : List (Int × Int × Int × Int)) (a1 : ((Int × Int × Int × Int) → Option Bool)) : runF (f173E K) Tryz.f173 [(.ro, (.list 31 (.cons (.int .i64) (.cons (.int .i64) (.cons (.int .i64) (.int .i64)))))), (.ro, (.fn1 (.cons (.int .i64) (.cons (.int .i64) (.cons (.int .i64) (.int .i64)))) .bool))] [(.int .i64)] (a0, a1, ()) = f173G K a0 a1 := by
  have key : ∀ (lr : LR Int), runG (f173E K) Tryz.f173 [(.ro, (.list 31 (.cons (.int .i64) (.cons (.int .i64) (.cons (.int .i64) (.int .i64)))))), (.ro, (.fn1 (.cons (.int .i64) (.cons (.int .i64) (.cons (.int .i64) (.int .i64)))) .bool))] [(.int .i64)] (a0, a1, ()) lr = f173_g K a0 a1 (fun d0 => lr (selC f173C [1, 0, 1, 0, 0]) (f173_fr3 a0 a1 d0) (f173_k3 K a0 a1 lr)) := by intro lr; kernel_rfl
  have h3 : (fun d0 => (realL (f173E K) 1) (selC f173C [1, 0, 1, 0, 0]) (f173_fr3 a0 a1 d0) (f173_k3 K a0 a1 (realL (f173E K) 1))) = fun d0 => f173_l3 K a0 a1 K d0 := by
    funext d0
    exact f173_t3 K a0 a1 d0 K d0
  exact runF_G (n0 := 1) (by rfl) ((key (realL (f173E K) 1)).trans (by rw [h3] <;> rfl))
theorem f159_t4 (K : Nat) (a0 : List (Int × Int × Int × Int)) (a1 : ((Int × Int × Int × Int) → Option Bool)) (y1 : Int) (bq5 : Int) (bq6 : Int) (bq7 : List (Int × Int × Int × Int)) : ∀ (n : Nat) (q5 : Int) (q6 : Int) (q7 : List (Int × Int × Int × Int)), loopN (exec (f159E K) 1 (selC f159C [1, 1, 1, 0, 1, 0, 0])) 1 (f159_fr4 a1 y1 bq5 bq6 bq7) n (f159_fr4 a1 y1 q5 q6 q7) (f159_k4 K a0 a1 (realL (f159E K) 1)) = f159_l4 K a1 y1 n q5 q6 q7 := by
  have key : ∀ (lr : LR (List (Int × Int × Int × Int))) (L : Fr → Option (List (Int × Int × Int × Int))) (q5 : Int) (q6 : Int) (q7 : List (Int × Int × Int × Int)), execG (f159E K) 1 lr (selC f159C [1, 1, 1, 0, 1, 0, 0]) (f159_fr4 a1 y1 q5 q6 q7) (loopK 1 (f159_fr4 a1 y1 bq5 bq6 bq7) L (f159_k4 K a0 a1 lr)) = f159_b4 K a1 y1 (fun v0 v1 v2 => L (f159_fr4 a1 y1 v0 v1 v2)) q5 q6 q7 := by
    intro lr L q5 q6 q7; kernel_rfl
  intro n q5 q6 q7
  refine loopN_iter (X := Int × Int × List (Int × Int × Int × Int)) (frame := fun x => (f159_fr4 a1 y1 x.1 x.2.1 x.2.2)) (body := (fun L x => (fun L4 => f159_b4 K a1 y1 L4 x.1 x.2.1 x.2.2) (fun v0 v1 v2 => L (v0, v1, v2)))) (fun L x => ?_) n (q5, q6, q7)
  rw [exec_G]
  exact (key (realL (f159E K) 1) L x.1 x.2.1 x.2.2).trans (by rfl)
theorem f159_run (K : Nat) (a0 : List (Int × Int × Int × Int)) (a1 : ((Int × Int × Int × Int) → Option Bool)) : runF (f159E K) Tryz.f159 [(.mv, (.list 31 (.cons (.int .i64) (.cons (.int .i64) (.cons (.int .i64) (.int .i64)))))), (.ro, (.fn1 (.cons (.int .i64) (.cons (.int .i64) (.cons (.int .i64) (.int .i64)))) .bool))] [(.list 31 (.cons (.int .i64) (.cons (.int .i64) (.cons (.int .i64) (.int .i64)))))] (a0, a1, ()) = f159G K a0 a1 := by
  have key : ∀ (lr : LR (List (Int × Int × Int × Int))), runG (f159E K) Tryz.f159 [(.mv, (.list 31 (.cons (.int .i64) (.cons (.int .i64) (.cons (.int .i64) (.int .i64)))))), (.ro, (.fn1 (.cons (.int .i64) (.cons (.int .i64) (.cons (.int .i64) (.int .i64)))) .bool))] [(.list 31 (.cons (.int .i64) (.cons (.int .i64) (.cons (.int .i64) (.int .i64)))))] (a0, a1, ()) lr = f159_g K a0 a1 (fun c0 d0 d1 d2 => lr (selC f159C [1, 1, 1, 0, 1, 0, 0]) (f159_fr4 a1 c0 d0 d1 d2) (f159_k4 K a0 a1 lr)) := by intro lr; kernel_rfl
  have h4 : (fun c0 d0 d1 d2 => (realL (f159E K) 1) (selC f159C [1, 1, 1, 0, 1, 0, 0]) (f159_fr4 a1 c0 d0 d1 d2) (f159_k4 K a0 a1 (realL (f159E K) 1))) = fun c0 d0 d1 d2 => f159_l4 K a1 c0 K d0 d1 d2 := by
    funext c0 d0 d1 d2
    exact f159_t4 K a0 a1 c0 d0 d1 d2 K d0 d1 d2
  exact runF_G (n0 := 1) (by rfl) ((key (realL (f159E K) 1)).trans (by rw [h4] <;> rfl))
theorem f130_run (K : Nat) (a0 : Int) (a1 : Int × Int × Int) : runF (f130E K) Tryz.f130 [(.ro, (.int .i64)), (.ro, (.cons (.int .i64) (.cons (.int .i64) (.int .i64))))] [(.list 31 (.cons (.int .i64) (.cons (.int .i64) (.cons (.int .i64) (.int .i64)))))] (a0, a1, ()) = f130G K a0 a1 := by kernel_rfl
theorem f92_t14 (K : Nat) (a0 : Int × (Int × Int × Int) × List Int) (y1 : List (Int × Int × Int × Int)) (q11 : Int) (y13 : List (Int × Int)) (F10 : Fr → Option (List ((Int × Int × Int × Int) × Int × Int))) (bq11 : Int) (bq12 : List ((Int × Int × Int × Int) × Int × Int)) (bq15 : Int) (bq16 : List ((Int × Int × Int × Int) × Int × Int)) : ∀ (n : Nat) (q15 : Int) (q16 : List ((Int × Int × Int × Int) × Int × Int)), loopN (exec (f92E K) 1 (selC f92C [1, 1, 0, 1, 0, 0, 1, 1, 0, 0, 1, 1, 0, 0])) 1 (f92_fr14 a0 q11 y1 y13 bq15 bq16) n (f92_fr14 a0 q11 y1 y13 q15 q16) (f92_k14 K a0 y1 F10 bq11 bq12 (realL (f92E K) 1)) = f92_l14 K a0 q11 y1 y13 (fun v0 v1 => F10 (f92_fr10 a0 y1 v0 v1)) n q15 q16 := by
  have key : ∀ (lr : LR (List ((Int × Int × Int × Int) × Int × Int))) (L : Fr → Option (List ((Int × Int × Int × Int) × Int × Int))) (q15 : Int) (q16 : List ((Int × Int × Int × Int) × Int × Int)), execG (f92E K) 1 lr (selC f92C [1, 1, 0, 1, 0, 0, 1, 1, 0, 0, 1, 1, 0, 0]) (f92_fr14 a0 q11 y1 y13 q15 q16) (loopK 1 (f92_fr14 a0 q11 y1 y13 bq15 bq16) L (f92_k14 K a0 y1 F10 bq11 bq12 lr)) = f92_b14 K a0 q11 y1 y13 (fun v0 v1 => F10 (f92_fr10 a0 y1 v0 v1)) (fun v0 v1 => L (f92_fr14 a0 q11 y1 y13 v0 v1)) q15 q16 := by
    intro lr L q15 q16; kernel_rfl
  intro n q15 q16
  refine loopN_iter (X := Int × List ((Int × Int × Int × Int) × Int × Int)) (frame := fun x => (f92_fr14 a0 q11 y1 y13 x.1 x.2)) (body := (fun L x => (fun L14 => f92_b14 K a0 q11 y1 y13 (fun v0 v1 => F10 (f92_fr10 a0 y1 v0 v1)) L14 x.1 x.2) (fun v0 v1 => L (v0, v1)))) (fun L x => ?_) n (q15, q16)
  rw [exec_G]
  exact (key (realL (f92E K) 1) L x.1 x.2).trans (by rfl)
theorem f92_t10 (K : Nat) (a0 : Int × (Int × Int × Int) × List Int) (y1 : List (Int × Int × Int × Int)) (bq11 : Int) (bq12 : List ((Int × Int × Int × Int) × Int × Int)) : ∀ (n : Nat) (q11 : Int) (q12 : List ((Int × Int × Int × Int) × Int × Int)), loopN (exec (f92E K) 1 (selC f92C [1, 1, 0, 1, 0, 0])) 1 (f92_fr10 a0 y1 bq11 bq12) n (f92_fr10 a0 y1 q11 q12) (f92_k10 K a0 (realL (f92E K) 1)) = f92_l10 K a0 y1 n q11 q12 := by
  have key : ∀ (lr : LR (List ((Int × Int × Int × Int) × Int × Int))) (L : Fr → Option (List ((Int × Int × Int × Int) × Int × Int))) (q11 : Int) (q12 : List ((Int × Int × Int × Int) × Int × Int)), execG (f92E K) 1 lr (selC f92C [1, 1, 0, 1, 0, 0]) (f92_fr10 a0 y1 q11 q12) (loopK 1 (f92_fr10 a0 y1 bq11 bq12) L (f92_k10 K a0 lr)) = f92_b10 K a0 y1 (fun c0 c1 d0 d1 => lr (selC f92C [1, 1, 0, 1, 0, 0, 1, 1, 0, 0, 1, 1, 0, 0]) (f92_fr14 a0 c0 y1 c1 d0 d1) (f92_k14 K a0 y1 L bq11 bq12 lr)) (fun v0 v1 => L (f92_fr10 a0 y1 v0 v1)) q11 q12 := by
    intro lr L q11 q12; kernel_rfl
  intro n q11 q12
  refine loopN_iter (X := Int × List ((Int × Int × Int × Int) × Int × Int)) (frame := fun x => (f92_fr10 a0 y1 x.1 x.2)) (body := (fun L x => (fun L10 => f92_b10 K a0 y1 (fun c0 c1 d0 d1 => f92_l14 K a0 c0 y1 c1 L10 K d0 d1) L10 x.1 x.2) (fun v0 v1 => L (v0, v1)))) (fun L x => ?_) n (q11, q12)
  rw [exec_G]
  have h14 : (fun c0 c1 d0 d1 => (realL (f92E K) 1) (selC f92C [1, 1, 0, 1, 0, 0, 1, 1, 0, 0, 1, 1, 0, 0]) (f92_fr14 a0 c0 y1 c1 d0 d1) (f92_k14 K a0 y1 L bq11 bq12 (realL (f92E K) 1))) = fun c0 c1 d0 d1 => f92_l14 K a0 c0 y1 c1 (fun v0 v1 => L (f92_fr10 a0 y1 v0 v1)) K d0 d1 := by
    funext c0 c1 d0 d1
    exact f92_t14 K a0 y1 c0 c1 L bq11 bq12 d0 d1 K d0 d1
  exact (key (realL (f92E K) 1) L x.1 x.2).trans (by rw [h14] <;> rfl)
theorem f92_run (K : Nat) (a0 : Int × (Int × Int × Int) × List Int) : runF (f92E K) Tryz.f92 [(.ro, (.cons (.int .i64) (.cons (.cons (.int .i64) (.cons (.int .i64) (.int .i64))) (.list 2 (.int .i64)))))] [(.list 34 (.cons (.cons (.int .i64) (.cons (.int .i64) (.cons (.int .i64) (.int .i64)))) (.cons (.int .i64) (.int .i64))))] (a0, ()) = f92G K a0 := by
  have key : ∀ (lr : LR (List ((Int × Int × Int × Int) × Int × Int))), runG (f92E K) Tryz.f92 [(.ro, (.cons (.int .i64) (.cons (.cons (.int .i64) (.cons (.int .i64) (.int .i64))) (.list 2 (.int .i64)))))] [(.list 34 (.cons (.cons (.int .i64) (.cons (.int .i64) (.cons (.int .i64) (.int .i64)))) (.cons (.int .i64) (.int .i64))))] (a0, ()) lr = f92_g K a0 (fun c0 d0 d1 => lr (selC f92C [1, 1, 0, 1, 0, 0]) (f92_fr10 a0 c0 d0 d1) (f92_k10 K a0 lr)) := by intro lr; kernel_rfl
  have h10 : (fun c0 d0 d1 => (realL (f92E K) 1) (selC f92C [1, 1, 0, 1, 0, 0]) (f92_fr10 a0 c0 d0 d1) (f92_k10 K a0 (realL (f92E K) 1))) = fun c0 d0 d1 => f92_l10 K a0 c0 K d0 d1 := by
    funext c0 d0 d1
    exact f92_t10 K a0 c0 d0 d1 K d0 d1
  exact runF_G (n0 := 1) (by rfl) ((key (realL (f92E K) 1)).trans (by rw [h10] <;> rfl))
theorem f93_run (K : Nat) (a0 : Int × Int × Int × Int) : runF (f93E K) Tryz.f93 [(.ro, (.cons (.int .i64) (.cons (.int .i64) (.cons (.int .i64) (.int .i64)))))] [(.int .i64)] (a0, ()) = f93G K a0 := by kernel_rfl
theorem f163_run (K : Nat) (a0 : Int × Int × Int × Int) : runF (f163E K) Tryz.f163 [(.ro, (.cons (.int .i64) (.cons (.int .i64) (.cons (.int .i64) (.int .i64)))))] [(.int .i64)] (a0, ()) = f163G K a0 := by kernel_rfl
theorem f131_run (K : Nat) (a0 : Int × Int × Int × Int) : runF (f131E K) Tryz.f131 [(.ro, (.cons (.int .i64) (.cons (.int .i64) (.cons (.int .i64) (.int .i64)))))] [.bool] (a0, ()) = f131G K a0 := by kernel_rfl
theorem f144_run (K : Nat) (a0 : Int) : runF (f144E K) Tryz.f144 [(.ro, (.int .i64))] [.bool] (a0, ()) = f144G K a0 := by kernel_rfl
theorem f181_run (K : Nat) (a0 : Int × Int × Int × Int) : runF (f181E K) Tryz.f181 [(.ro, (.cons (.int .i64) (.cons (.int .i64) (.cons (.int .i64) (.int .i64)))))] [.bool] (a0, ()) = f181G K a0 := by kernel_rfl
theorem f175_run (K : Nat) (a0 : Int × Int × Int × Int) : runF (f175E K) Tryz.f175 [(.ro, (.cons (.int .i64) (.cons (.int .i64) (.cons (.int .i64) (.int .i64)))))] [.bool] (a0, ()) = f175G K a0 := by kernel_rfl
theorem f145_t2 (K : Nat) (a0 : List Int) (a1 : List Int) (bq3 : Int) : ∀ (n : Nat) (q3 : Int), loopN (exec (f145E K) 2 (selC f145C [1, 0, 1, 0, 0])) 2 (f145_fr2 a0 a1 bq3) n (f145_fr2 a0 a1 q3) (f145_k2 K a0 a1 (realL (f145E K) 2)) = f145_l2 K a0 a1 n q3 := by
  have key : ∀ (lr : LR Int) (L : Fr → Option Int) (q3 : Int), execG (f145E K) 2 lr (selC f145C [1, 0, 1, 0, 0]) (f145_fr2 a0 a1 q3) (loopK 2 (f145_fr2 a0 a1 bq3) L (f145_k2 K a0 a1 lr)) = f145_b2 K a0 a1 (fun v0 => L (f145_fr2 a0 a1 v0)) q3 := by
    intro lr L q3; kernel_rfl
  intro n q3
  refine loopN_iter (X := Int) (frame := fun x => (f145_fr2 a0 a1 x)) (body := (fun L x => (fun L2 => f145_b2 K a0 a1 L2 x) (fun v0 => L v0))) (fun L x => ?_) n q3
  rw [exec_G]
  exact (key (realL (f145E K) 2) L x).trans (by rfl)
theorem f145_run (K : Nat) (a0 : List Int) (a1 : List Int) : runF (f145E K) Tryz.f145 [(.ro, (.list 2 (.int .i64))), (.ro, (.list 2 (.int .i64)))] [(.int .i64)] (a0, a1, ()) = f145G K a0 a1 := by
  have key : ∀ (lr : LR Int), runG (f145E K) Tryz.f145 [(.ro, (.list 2 (.int .i64))), (.ro, (.list 2 (.int .i64)))] [(.int .i64)] (a0, a1, ()) lr = f145_g K a0 a1 (fun d0 => lr (selC f145C [1, 0, 1, 0, 0]) (f145_fr2 a0 a1 d0) (f145_k2 K a0 a1 lr)) := by intro lr; kernel_rfl
  have h2 : (fun d0 => (realL (f145E K) 2) (selC f145C [1, 0, 1, 0, 0]) (f145_fr2 a0 a1 d0) (f145_k2 K a0 a1 (realL (f145E K) 2))) = fun d0 => f145_l2 K a0 a1 K d0 := by
    funext d0
    exact f145_t2 K a0 a1 d0 K d0
  exact runF_G (n0 := 2) (by rfl) ((key (realL (f145E K) 2)).trans (by rw [h2] <;> rfl))
theorem f106_run (K : Nat) (a0 : Int × Int) (a1 : Int × Int) : runF (f106E K) Tryz.f106 [(.ro, (.cons (.int .i64) (.int .i64))), (.ro, (.cons (.int .i64) (.int .i64)))] [(.int .i64)] (a0, a1, ()) = f106G K a0 a1 := by kernel_rfl
theorem f105_run (K : Nat) (a0 : Int × Int) : runF (f105E K) Tryz.f105 [(.ro, (.cons (.int .i64) (.int .i64)))] [.bool] (a0, ()) = f105G K a0 := by kernel_rfl
theorem f176_run (K : Nat) (a0 : Int × Int) : runF (f176E K) Tryz.f176 [(.ro, (.cons (.int .i64) (.int .i64)))] [(.cons (.int .i64) (.int .i64)), (.int .i64)] (a0, ()) = f176G K a0 := by kernel_rfl
theorem f164_run (K : Nat) (a0 : Int × Int × Int × Int) : runF (f164E K) Tryz.f164 [(.ro, (.cons (.int .i64) (.cons (.int .i64) (.cons (.int .i64) (.int .i64)))))] [(.cons (.int .i64) (.int .i64)), (.int .i64)] (a0, ()) = f164G K a0 := by kernel_rfl
theorem f136_run (K : Nat) (a0 : Int × Int × Int × Int) : runF (f136E K) Tryz.f136 [(.ro, (.cons (.int .i64) (.cons (.int .i64) (.cons (.int .i64) (.int .i64)))))] [(.cons (.int .i64) (.int .i64))] (a0, ()) = f136G K a0 := by kernel_rfl
theorem f132_run (K : Nat) (a0 : Int × Int × Int × Int) (a1 : Int × Int) : runF (f132E K) Tryz.f132 [(.ro, (.cons (.int .i64) (.cons (.int .i64) (.cons (.int .i64) (.int .i64))))), (.ro, (.cons (.int .i64) (.int .i64)))] [(.int .i64)] (a0, a1, ()) = f132G K a0 a1 := by kernel_rfl
theorem f94_run (K : Nat) (a0 : Int × Int × Int) (a1 : (Int × Int × Int × Int) × Int × Int) : runF (f94E K) Tryz.f94 [(.ro, (.cons (.int .i64) (.cons (.int .i64) (.int .i64)))), (.ro, (.cons (.cons (.int .i64) (.cons (.int .i64) (.cons (.int .i64) (.int .i64)))) (.cons (.int .i64) (.int .i64))))] [.bool] (a0, a1, ()) = f94G K a0 a1 := by kernel_rfl
theorem f135_t4 (K : Nat) (a0 : Int × Int × Int) (a1 : Int × Int) (bq5 : Int) (bq6 : Int) : ∀ (n : Nat) (q5 : Int) (q6 : Int), loopN (exec (f135E K) 0 (selC f135C [1, 1, 0, 0, 0])) 0 (f135_fr4 a0 a1 bq5 bq6) n (f135_fr4 a0 a1 q5 q6) (f135_k4 K a0 a1 (realL (f135E K) 0)) = f135_l4 K a0 a1 n q5 q6 := by
  have key : ∀ (lr : LR (Int × Int)) (L : Fr → Option (Int × Int)) (q5 : Int) (q6 : Int), execG (f135E K) 0 lr (selC f135C [1, 1, 0, 0, 0]) (f135_fr4 a0 a1 q5 q6) (loopK 0 (f135_fr4 a0 a1 bq5 bq6) L (f135_k4 K a0 a1 lr)) = f135_b4 K a0 a1 (fun v0 v1 => L (f135_fr4 a0 a1 v0 v1)) q5 q6 := by
    intro lr L q5 q6; kernel_rfl
  intro n q5 q6
  refine loopN_iter (X := Int × Int) (frame := fun x => (f135_fr4 a0 a1 x.1 x.2)) (body := (fun L x => (fun L4 => f135_b4 K a0 a1 L4 x.1 x.2) (fun v0 v1 => L (v0, v1)))) (fun L x => ?_) n (q5, q6)
  rw [exec_G]
  exact (key (realL (f135E K) 0) L x.1 x.2).trans (by rfl)
theorem f135_run (K : Nat) (a0 : Int × Int × Int) (a1 : Int × Int) : runF (f135E K) Tryz.f135 [(.ro, (.cons (.int .i64) (.cons (.int .i64) (.int .i64)))), (.ro, (.cons (.int .i64) (.int .i64)))] [(.cons (.int .i64) (.int .i64))] (a0, a1, ()) = f135G K a0 a1 := by
  have key : ∀ (lr : LR (Int × Int)), runG (f135E K) Tryz.f135 [(.ro, (.cons (.int .i64) (.cons (.int .i64) (.int .i64)))), (.ro, (.cons (.int .i64) (.int .i64)))] [(.cons (.int .i64) (.int .i64))] (a0, a1, ()) lr = f135_g K a0 a1 (fun d0 d1 => lr (selC f135C [1, 1, 0, 0, 0]) (f135_fr4 a0 a1 d0 d1) (f135_k4 K a0 a1 lr)) := by intro lr; kernel_rfl
  have h4 : (fun d0 d1 => (realL (f135E K) 0) (selC f135C [1, 1, 0, 0, 0]) (f135_fr4 a0 a1 d0 d1) (f135_k4 K a0 a1 (realL (f135E K) 0))) = fun d0 d1 => f135_l4 K a0 a1 K d0 d1 := by
    funext d0 d1
    exact f135_t4 K a0 a1 d0 d1 K d0 d1
  exact runF_G (n0 := 0) (by rfl) ((key (realL (f135E K) 0)).trans (by rw [h4] <;> rfl))
theorem f137_run (K : Nat) (a0 : Int × Int × Int × Int) : runF (f137E K) Tryz.f137 [(.ro, (.cons (.int .i64) (.cons (.int .i64) (.cons (.int .i64) (.int .i64)))))] [(.cons (.int .i64) (.cons (.int .i64) (.cons (.int .i64) (.int .i64))))] (a0, ()) = f137G K a0 := by kernel_rfl
theorem f134_run (K : Nat) (a0 : Int × Int) (a1 : Int × Int) : runF (f134E K) Tryz.f134 [(.ro, (.cons (.int .i64) (.int .i64))), (.ro, (.cons (.int .i64) (.int .i64)))] [(.int .i64)] (a0, a1, ()) = f134G K a0 a1 := by kernel_rfl
theorem f95_run (K : Nat) (a0 : Int × Int × Int) (a1 : Int × Int × Int × Int) : runF (f95E K) Tryz.f95 [(.ro, (.cons (.int .i64) (.cons (.int .i64) (.int .i64)))), (.ro, (.cons (.int .i64) (.cons (.int .i64) (.cons (.int .i64) (.int .i64)))))] [.bool] (a0, a1, ()) = f95G K a0 a1 := by kernel_rfl
theorem f59_t14 (K : Nat) (a0 : Int × (Int × Int × Int) × List Int) (y1 : List ((Int × Int × Int × Int) × Int × Int)) (bq15 : Int) (bq16 : Int) (bq17 : Int) : ∀ (n : Nat) (q15 : Int) (q16 : Int) (q17 : Int), loopN (exec (f59E K) 1 (selC f59C [1, 1, 0, 1, 0, 0])) 1 (f59_fr14 a0 y1 bq15 bq16 bq17) n (f59_fr14 a0 y1 q15 q16 q17) (f59_k14 K a0 (realL (f59E K) 1)) = f59_l14 K a0 y1 n q15 q16 q17 := by
  have key : ∀ (lr : LR (Int × Int)) (L : Fr → Option (Int × Int)) (q15 : Int) (q16 : Int) (q17 : Int), execG (f59E K) 1 lr (selC f59C [1, 1, 0, 1, 0, 0]) (f59_fr14 a0 y1 q15 q16 q17) (loopK 1 (f59_fr14 a0 y1 bq15 bq16 bq17) L (f59_k14 K a0 lr)) = f59_b14 K a0 y1 (fun v0 v1 v2 => L (f59_fr14 a0 y1 v0 v1 v2)) q15 q16 q17 := by
    intro lr L q15 q16 q17; kernel_rfl
  intro n q15 q16 q17
  refine loopN_iter (X := Int × Int × Int) (frame := fun x => (f59_fr14 a0 y1 x.1 x.2.1 x.2.2)) (body := (fun L x => (fun L14 => f59_b14 K a0 y1 L14 x.1 x.2.1 x.2.2) (fun v0 v1 v2 => L (v0, v1, v2)))) (fun L x => ?_) n (q15, q16, q17)
  rw [exec_G]
  exact (key (realL (f59E K) 1) L x.1 x.2.1 x.2.2).trans (by rfl)
theorem f59_run (K : Nat) (a0 : Int × (Int × Int × Int) × List Int) : runF (f59E K) Tryz.f59 [(.ro, (.cons (.int .i64) (.cons (.cons (.int .i64) (.cons (.int .i64) (.int .i64))) (.list 2 (.int .i64)))))] [(.int .i64), (.int .i64)] (a0, ()) = f59G K a0 := by
  have key : ∀ (lr : LR (Int × Int)), runG (f59E K) Tryz.f59 [(.ro, (.cons (.int .i64) (.cons (.cons (.int .i64) (.cons (.int .i64) (.int .i64))) (.list 2 (.int .i64)))))] [(.int .i64), (.int .i64)] (a0, ()) lr = f59_g K a0 (fun c0 d0 d1 d2 => lr (selC f59C [1, 1, 0, 1, 0, 0]) (f59_fr14 a0 c0 d0 d1 d2) (f59_k14 K a0 lr)) := by intro lr; kernel_rfl
  have h14 : (fun c0 d0 d1 d2 => (realL (f59E K) 1) (selC f59C [1, 1, 0, 1, 0, 0]) (f59_fr14 a0 c0 d0 d1 d2) (f59_k14 K a0 (realL (f59E K) 1))) = fun c0 d0 d1 d2 => f59_l14 K a0 c0 K d0 d1 d2 := by
    funext c0 d0 d1 d2
    exact f59_t14 K a0 c0 d0 d1 d2 K d0 d1 d2
  exact runF_G (n0 := 1) (by rfl) ((key (realL (f59E K) 1)).trans (by rw [h14] <;> rfl))
theorem f33_run (K : Nat) (a0 : Int × (Int × Int × Int) × List Int) : runF (f33E K) Tryz.f33 [(.ro, (.cons (.int .i64) (.cons (.cons (.int .i64) (.cons (.int .i64) (.int .i64))) (.list 2 (.int .i64)))))] [(.int .i64), (.int .i64)] (a0, ()) = f33G K a0 := by kernel_rfl
theorem f60_run (K : Nat) (a0 : Int × Int × Int) (a1 : Int × Int × Int) : runF (f60E K) Tryz.f60 [(.ro, (.cons (.int .i64) (.cons (.int .i64) (.int .i64)))), (.ro, (.cons (.int .i64) (.cons (.int .i64) (.int .i64))))] [.bool] (a0, a1, ()) = f60G K a0 a1 := by kernel_rfl
theorem f61_t2 (K : Nat) (a0 : List Int) (a1 : List Int) (bq3 : Int) : ∀ (n : Nat) (q3 : Int), loopN (exec (f61E K) 2 (selC f61C [1, 1, 0, 1, 0, 0])) 2 (f61_fr2 a0 a1 bq3) n (f61_fr2 a0 a1 q3) (f61_k2 K a0 a1 (realL (f61E K) 2)) = f61_l2 K a0 a1 n q3 := by
  have key : ∀ (lr : LR Bool) (L : Fr → Option Bool) (q3 : Int), execG (f61E K) 2 lr (selC f61C [1, 1, 0, 1, 0, 0]) (f61_fr2 a0 a1 q3) (loopK 2 (f61_fr2 a0 a1 bq3) L (f61_k2 K a0 a1 lr)) = f61_b2 K a0 a1 (fun v0 => L (f61_fr2 a0 a1 v0)) q3 := by
    intro lr L q3; kernel_rfl
  intro n q3
  refine loopN_iter (X := Int) (frame := fun x => (f61_fr2 a0 a1 x)) (body := (fun L x => (fun L2 => f61_b2 K a0 a1 L2 x) (fun v0 => L v0))) (fun L x => ?_) n q3
  rw [exec_G]
  exact (key (realL (f61E K) 2) L x).trans (by rfl)
theorem f61_run (K : Nat) (a0 : List Int) (a1 : List Int) : runF (f61E K) Tryz.f61 [(.ro, (.list 2 (.int .i64))), (.ro, (.list 2 (.int .i64)))] [.bool] (a0, a1, ()) = f61G K a0 a1 := by
  have key : ∀ (lr : LR Bool), runG (f61E K) Tryz.f61 [(.ro, (.list 2 (.int .i64))), (.ro, (.list 2 (.int .i64)))] [.bool] (a0, a1, ()) lr = f61_g K a0 a1 (fun d0 => lr (selC f61C [1, 1, 0, 1, 0, 0]) (f61_fr2 a0 a1 d0) (f61_k2 K a0 a1 lr)) := by intro lr; kernel_rfl
  have h2 : (fun d0 => (realL (f61E K) 2) (selC f61C [1, 1, 0, 1, 0, 0]) (f61_fr2 a0 a1 d0) (f61_k2 K a0 a1 (realL (f61E K) 2))) = fun d0 => f61_l2 K a0 a1 K d0 := by
    funext d0
    exact f61_t2 K a0 a1 d0 K d0
  exact runF_G (n0 := 2) (by rfl) ((key (realL (f61E K) 2)).trans (by rw [h2] <;> rfl))
theorem f31_run (K : Nat) (a0 : Int × (Int × Int × Int) × List Int) (a1 : Int × (Int × Int × Int) × List Int) : runF (f31E K) Tryz.f31 [(.ro, (.cons (.int .i64) (.cons (.cons (.int .i64) (.cons (.int .i64) (.int .i64))) (.list 2 (.int .i64))))), (.ro, (.cons (.int .i64) (.cons (.cons (.int .i64) (.cons (.int .i64) (.int .i64))) (.list 2 (.int .i64)))))] [.bool] (a0, a1, ()) = f31G K a0 a1 := by kernel_rfl
theorem f6_run (K : Nat) (a0 : Int × (Int × Int × Int) × List Int) : runF (f6E K) Tryz.f6 [(.ro, (.cons (.int .i64) (.cons (.cons (.int .i64) (.cons (.int .i64) (.int .i64))) (.list 2 (.int .i64)))))] [.bool] (a0, ()) = f6G K a0 := by kernel_rfl
theorem f28_run (K : Nat) (a0 : Int × (Int × Int × Int) × List Int) : runF (f28E K) Tryz.f28 [(.ro, (.cons (.int .i64) (.cons (.cons (.int .i64) (.cons (.int .i64) (.int .i64))) (.list 2 (.int .i64)))))] [(.int .i64), (.int .i64)] (a0, ()) = f28G K a0 := by kernel_rfl
theorem f30_run (K : Nat) (a0 : Int × (Int × Int × Int) × List Int) : runF (f30E K) Tryz.f30 [(.ro, (.cons (.int .i64) (.cons (.cons (.int .i64) (.cons (.int .i64) (.int .i64))) (.list 2 (.int .i64)))))] [(.int .i64), (.int .i64)] (a0, ()) = f30G K a0 := by kernel_rfl
theorem f5_run (K : Nat) (a0 : Int × (Int × Int × Int) × List Int) : runF (f5E K) Tryz.f5 [(.ro, (.cons (.int .i64) (.cons (.cons (.int .i64) (.cons (.int .i64) (.int .i64))) (.list 2 (.int .i64)))))] [.bool] (a0, ()) = f5G K a0 := by kernel_rfl
end Go.Proofs.YtbgdojniimdihaaGreat.X
