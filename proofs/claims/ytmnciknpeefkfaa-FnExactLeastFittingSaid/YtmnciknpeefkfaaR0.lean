/- Functions of the program as plain Lean functions, and that the program does what they say. Printed by gen.py. -/
import Derived.Test.YtmnciknpeefkfaaD0
namespace Go.Proofs.Ytmnciknpeefkfaa.X
open Go
set_option maxRecDepth 100000
set_option linter.unusedVariables false
theorem f5_run (K : Nat) (a0 : List ((Int × Int) × Int)) (a1 : Int) : runF (f5E K) Try.f5 [(.ro, (.list 49 (.cons (.cons (.int .i64) (.int .i64)) (.int .i64)))), (.ro, (.int .i64))] [(.int .i64)] (a0, a1, ()) = f5G K a0 a1 := by kernel_rfl
theorem f28_run (K : Nat) (a0 : Int × Int) : runF (f28E K) Try.f28 [(.ro, (.cons (.int .i64) (.int .i64)))] [(.cons (.int .i64) (.int .i64))] (a0, ()) = f28G K a0 := by kernel_rfl
theorem f19_run (K : Nat) (a0 : (Int × Int) × Int) : runF (f19E K) Try.f19 [(.ro, (.cons (.cons (.int .i64) (.int .i64)) (.int .i64)))] [(.cons (.cons (.int .i64) (.int .i64)) (.int .i64))] (a0, ()) = f19G K a0 := by kernel_rfl
theorem f7_t3 (K : Nat) (a0 : List ((Int × Int) × Int)) (bq4 : Int) (bq5 : List ((Int × Int) × Int)) : ∀ (n : Nat) (q4 : Int) (q5 : List ((Int × Int) × Int)), loopN (exec (f7E K) 1 (selC f7C [1, 1, 0, 1, 0, 0])) 1 (f7_fr3 a0 bq4 bq5) n (f7_fr3 a0 q4 q5) (f7_k3 K a0 (realL (f7E K) 1)) = f7_l3 K a0 n q4 q5 := by
  have key : ∀ (lr : LR (List ((Int × Int) × Int))) (L : Fr → Option (List ((Int × Int) × Int))) (q4 : Int) (q5 : List ((Int × Int) × Int)), execG (f7E K) 1 lr (selC f7C [1, 1, 0, 1, 0, 0]) (f7_fr3 a0 q4 q5) (loopK 1 (f7_fr3 a0 bq4 bq5) L (f7_k3 K a0 lr)) = f7_b3 K a0 (fun v0 v1 => L (f7_fr3 a0 v0 v1)) q4 q5 := by
    intro lr L q4 q5; kernel_rfl
  intro n q4 q5
  refine loopN_iter (X := Int × List ((Int × Int) × Int)) (frame := fun x => (f7_fr3 a0 x.1 x.2)) (body := (fun L x => (fun L3 => f7_b3 K a0 L3 x.1 x.2) (fun v0 v1 => L (v0, v1)))) (fun L x => ?_) n (q4, q5)
  rw [exec_G]
  exact (key (realL (f7E K) 1) L x.1 x.2).trans (by rfl)
theorem f7_run (K : Nat) (a0 : List ((Int × Int) × Int)) : runF (f7E K) Try.f7 [(.ro, (.list 49 (.cons (.cons (.int .i64) (.int .i64)) (.int .i64))))] [(.list 45 (.cons (.cons (.int .i64) (.int .i64)) (.int .i64)))] (a0, ()) = f7G K a0 := by
  have key : ∀ (lr : LR (List ((Int × Int) × Int))), runG (f7E K) Try.f7 [(.ro, (.list 49 (.cons (.cons (.int .i64) (.int .i64)) (.int .i64))))] [(.list 45 (.cons (.cons (.int .i64) (.int .i64)) (.int .i64)))] (a0, ()) lr = f7_g K a0 (fun d0 d1 => lr (selC f7C [1, 1, 0, 1, 0, 0]) (f7_fr3 a0 d0 d1) (f7_k3 K a0 lr)) := by intro lr; kernel_rfl
  have h3 : (fun d0 d1 => (realL (f7E K) 1) (selC f7C [1, 1, 0, 1, 0, 0]) (f7_fr3 a0 d0 d1) (f7_k3 K a0 (realL (f7E K) 1))) = fun d0 d1 => f7_l3 K a0 K d0 d1 := by
    funext d0 d1
    exact f7_t3 K a0 d0 d1 K d0 d1
  exact runF_G (n0 := 1) (by rfl) ((key (realL (f7E K) 1)).trans (by rw [h3] <;> rfl))
theorem f23_run (K : Nat) (a0 : Int) (a1 : Int) (a2 : Int) : runF (f23E K) Try.f23 [(.ro, (.int .i64)), (.ro, (.int .i64)), (.ro, (.int .i64))] [.bool] (a0, a1, a2, ()) = f23G K a0 a1 a2 := by kernel_rfl
theorem f25_run (K : Nat) (a0 : Int × Int) : runF (f25E K) Try.f25 [(.ro, (.cons (.int .i64) (.int .i64)))] [.bool] (a0, ()) = f25G K a0 := by kernel_rfl
theorem f17_t4 (K : Nat) (a0 : List ((Int × Int) × Int)) (bq5 : Int) : ∀ (n : Nat) (q5 : Int), loopN (exec (f17E K) 1 (selC f17C [1, 0, 1, 0, 0])) 1 (f17_fr4 a0 bq5) n (f17_fr4 a0 q5) (f17_k4 K a0 (realL (f17E K) 1)) = f17_l4 K a0 n q5 := by
  have key : ∀ (lr : LR Bool) (L : Fr → Option Bool) (q5 : Int), execG (f17E K) 1 lr (selC f17C [1, 0, 1, 0, 0]) (f17_fr4 a0 q5) (loopK 1 (f17_fr4 a0 bq5) L (f17_k4 K a0 lr)) = f17_b4 K a0 (fun v0 => L (f17_fr4 a0 v0)) q5 := by
    intro lr L q5; kernel_rfl
  intro n q5
  refine loopN_iter (X := Int) (frame := fun x => (f17_fr4 a0 x)) (body := (fun L x => (fun L4 => f17_b4 K a0 L4 x) (fun v0 => L v0))) (fun L x => ?_) n q5
  rw [exec_G]
  exact (key (realL (f17E K) 1) L x).trans (by rfl)
theorem f17_run (K : Nat) (a0 : List ((Int × Int) × Int)) : runF (f17E K) Try.f17 [(.ro, (.list 45 (.cons (.cons (.int .i64) (.int .i64)) (.int .i64))))] [.bool] (a0, ()) = f17G K a0 := by
  have key : ∀ (lr : LR Bool), runG (f17E K) Try.f17 [(.ro, (.list 45 (.cons (.cons (.int .i64) (.int .i64)) (.int .i64))))] [.bool] (a0, ()) lr = f17_g K a0 (fun d0 => lr (selC f17C [1, 0, 1, 0, 0]) (f17_fr4 a0 d0) (f17_k4 K a0 lr)) := by intro lr; kernel_rfl
  have h4 : (fun d0 => (realL (f17E K) 1) (selC f17C [1, 0, 1, 0, 0]) (f17_fr4 a0 d0) (f17_k4 K a0 (realL (f17E K) 1))) = fun d0 => f17_l4 K a0 K d0 := by
    funext d0
    exact f17_t4 K a0 d0 K d0
  exact runF_G (n0 := 1) (by rfl) ((key (realL (f17E K) 1)).trans (by rw [h4] <;> rfl))
theorem f26_t10 (K : Nat) (a0 : Int) (y1 : Bool) (q8 : Int) (F7 : Fr → Option ((List (Int × Int × Int)) × Int)) (bq8 : Int) (bq9 : List (Int × Int × Int)) (bq11 : Int) (bq12 : List (Int × Int × Int)) : ∀ (n : Nat) (q11 : Int) (q12 : List (Int × Int × Int)), loopN (exec (f26E K) 0 (selC f26C [1, 1, 1, 0, 1, 0, 0, 1, 0, 0, 1, 0, 0])) 0 (f26_fr10 a0 q8 y1 bq11 bq12) n (f26_fr10 a0 q8 y1 q11 q12) (f26_k10 K a0 y1 F7 bq8 bq9 (realL (f26E K) 0)) = f26_l10 K a0 q8 y1 (fun v0 v1 => F7 (f26_fr7 a0 y1 v0 v1)) n q11 q12 := by
  have key : ∀ (lr : LR ((List (Int × Int × Int)) × Int)) (L : Fr → Option ((List (Int × Int × Int)) × Int)) (q11 : Int) (q12 : List (Int × Int × Int)), execG (f26E K) 0 lr (selC f26C [1, 1, 1, 0, 1, 0, 0, 1, 0, 0, 1, 0, 0]) (f26_fr10 a0 q8 y1 q11 q12) (loopK 0 (f26_fr10 a0 q8 y1 bq11 bq12) L (f26_k10 K a0 y1 F7 bq8 bq9 lr)) = f26_b10 K a0 q8 y1 (fun v0 v1 => F7 (f26_fr7 a0 y1 v0 v1)) (fun v0 v1 => L (f26_fr10 a0 q8 y1 v0 v1)) q11 q12 := by
    intro lr L q11 q12; kernel_rfl
  intro n q11 q12
  refine loopN_iter (X := Int × List (Int × Int × Int)) (frame := fun x => (f26_fr10 a0 q8 y1 x.1 x.2)) (body := (fun L x => (fun L10 => f26_b10 K a0 q8 y1 (fun v0 v1 => F7 (f26_fr7 a0 y1 v0 v1)) L10 x.1 x.2) (fun v0 v1 => L (v0, v1)))) (fun L x => ?_) n (q11, q12)
  rw [exec_G]
  exact (key (realL (f26E K) 0) L x.1 x.2).trans (by rfl)
theorem f26_t7 (K : Nat) (a0 : Int) (y1 : Bool) (bq8 : Int) (bq9 : List (Int × Int × Int)) : ∀ (n : Nat) (q8 : Int) (q9 : List (Int × Int × Int)), loopN (exec (f26E K) 0 (selC f26C [1, 1, 1, 0, 1, 0, 0])) 0 (f26_fr7 a0 y1 bq8 bq9) n (f26_fr7 a0 y1 q8 q9) (f26_k7 K a0 (realL (f26E K) 0)) = f26_l7 K a0 y1 n q8 q9 := by
  have key : ∀ (lr : LR ((List (Int × Int × Int)) × Int)) (L : Fr → Option ((List (Int × Int × Int)) × Int)) (q8 : Int) (q9 : List (Int × Int × Int)), execG (f26E K) 0 lr (selC f26C [1, 1, 1, 0, 1, 0, 0]) (f26_fr7 a0 y1 q8 q9) (loopK 0 (f26_fr7 a0 y1 bq8 bq9) L (f26_k7 K a0 lr)) = f26_b7 K a0 y1 (fun c0 d0 d1 => lr (selC f26C [1, 1, 1, 0, 1, 0, 0, 1, 0, 0, 1, 0, 0]) (f26_fr10 a0 c0 y1 d0 d1) (f26_k10 K a0 y1 L bq8 bq9 lr)) (fun v0 v1 => L (f26_fr7 a0 y1 v0 v1)) q8 q9 := by
    intro lr L q8 q9; kernel_rfl
  intro n q8 q9
  refine loopN_iter (X := Int × List (Int × Int × Int)) (frame := fun x => (f26_fr7 a0 y1 x.1 x.2)) (body := (fun L x => (fun L7 => f26_b7 K a0 y1 (fun c0 d0 d1 => f26_l10 K a0 c0 y1 L7 K d0 d1) L7 x.1 x.2) (fun v0 v1 => L (v0, v1)))) (fun L x => ?_) n (q8, q9)
  rw [exec_G]
  have h10 : (fun c0 d0 d1 => (realL (f26E K) 0) (selC f26C [1, 1, 1, 0, 1, 0, 0, 1, 0, 0, 1, 0, 0]) (f26_fr10 a0 c0 y1 d0 d1) (f26_k10 K a0 y1 L bq8 bq9 (realL (f26E K) 0))) = fun c0 d0 d1 => f26_l10 K a0 c0 y1 (fun v0 v1 => L (f26_fr7 a0 y1 v0 v1)) K d0 d1 := by
    funext c0 d0 d1
    exact f26_t10 K a0 y1 c0 L bq8 bq9 d0 d1 K d0 d1
  exact (key (realL (f26E K) 0) L x.1 x.2).trans (by rw [h10] <;> rfl)
theorem f26_run (K : Nat) (a0 : Int) : runF (f26E K) Try.f26 [(.ro, (.int .i64))] [(.list 25 (.cons (.int .i64) (.cons (.int .i64) (.int .i64)))), (.int .i64)] (a0, ()) = f26G K a0 := by
  have key : ∀ (lr : LR ((List (Int × Int × Int)) × Int)), runG (f26E K) Try.f26 [(.ro, (.int .i64))] [(.list 25 (.cons (.int .i64) (.cons (.int .i64) (.int .i64)))), (.int .i64)] (a0, ()) lr = f26_g K a0 (fun c0 d0 d1 => lr (selC f26C [1, 1, 1, 0, 1, 0, 0]) (f26_fr7 a0 c0 d0 d1) (f26_k7 K a0 lr)) := by intro lr; kernel_rfl
  have h7 : (fun c0 d0 d1 => (realL (f26E K) 0) (selC f26C [1, 1, 1, 0, 1, 0, 0]) (f26_fr7 a0 c0 d0 d1) (f26_k7 K a0 (realL (f26E K) 0))) = fun c0 d0 d1 => f26_l7 K a0 c0 K d0 d1 := by
    funext c0 d0 d1
    exact f26_t7 K a0 c0 d0 d1 K d0 d1
  exact runF_G (n0 := 0) (by rfl) ((key (realL (f26E K) 0)).trans (by rw [h7] <;> rfl))
theorem f53_run (K : Nat) (a0 : Int) (a1 : Int) : runF (f53E K) Try.f53 [(.ro, (.int .i64)), (.ro, (.int .i64))] [(.int .i64)] (a0, a1, ()) = f53G K a0 a1 := by kernel_rfl
theorem f47_run (K : Nat) (a0 : Int × Int × Int) (a1 : Int × Int) : runF (f47E K) Try.f47 [(.ro, (.cons (.int .i64) (.cons (.int .i64) (.int .i64)))), (.ro, (.cons (.int .i64) (.int .i64)))] [(.cons (.int .i64) (.int .i64))] (a0, a1, ()) = f47G K a0 a1 := by kernel_rfl
theorem f39_run (K : Nat) (a0 : Int × Int × Int) (a1 : Int × Int) : runF (f39E K) Try.f39 [(.ro, (.cons (.int .i64) (.cons (.int .i64) (.int .i64)))), (.ro, (.cons (.int .i64) (.int .i64)))] [(.int .i64)] (a0, a1, ()) = f39G K a0 a1 := by kernel_rfl
theorem f27_t11 (K : Nat) (a0 : Int × Int × Int) (a1 : List ((Int × Int) × Int)) (q10 : Int) (F9 : Fr → Option Bool) (bq10 : Int) (bq12 : Int) : ∀ (n : Nat) (q12 : Int), loopN (exec (f27E K) 1 (selC f27C [1, 0, 1, 0, 0, 1, 0, 0, 1, 0, 0])) 1 (f27_fr11 a0 a1 q10 bq12) n (f27_fr11 a0 a1 q10 q12) (f27_k11 K a0 a1 F9 bq10 (realL (f27E K) 1)) = f27_l11 K a0 a1 q10 (fun v0 => F9 (f27_fr9 a0 a1 v0)) n q12 := by
  have key : ∀ (lr : LR Bool) (L : Fr → Option Bool) (q12 : Int), execG (f27E K) 1 lr (selC f27C [1, 0, 1, 0, 0, 1, 0, 0, 1, 0, 0]) (f27_fr11 a0 a1 q10 q12) (loopK 1 (f27_fr11 a0 a1 q10 bq12) L (f27_k11 K a0 a1 F9 bq10 lr)) = f27_b11 K a0 a1 q10 (fun v0 => F9 (f27_fr9 a0 a1 v0)) (fun v0 => L (f27_fr11 a0 a1 q10 v0)) q12 := by
    intro lr L q12; kernel_rfl
  intro n q12
  refine loopN_iter (X := Int) (frame := fun x => (f27_fr11 a0 a1 q10 x)) (body := (fun L x => (fun L11 => f27_b11 K a0 a1 q10 (fun v0 => F9 (f27_fr9 a0 a1 v0)) L11 x) (fun v0 => L v0))) (fun L x => ?_) n q12
  rw [exec_G]
  exact (key (realL (f27E K) 1) L x).trans (by rfl)
theorem f27_t9 (K : Nat) (a0 : Int × Int × Int) (a1 : List ((Int × Int) × Int)) (bq10 : Int) : ∀ (n : Nat) (q10 : Int), loopN (exec (f27E K) 1 (selC f27C [1, 0, 1, 0, 0])) 1 (f27_fr9 a0 a1 bq10) n (f27_fr9 a0 a1 q10) (f27_k9 K a0 a1 (realL (f27E K) 1)) = f27_l9 K a0 a1 n q10 := by
  have key : ∀ (lr : LR Bool) (L : Fr → Option Bool) (q10 : Int), execG (f27E K) 1 lr (selC f27C [1, 0, 1, 0, 0]) (f27_fr9 a0 a1 q10) (loopK 1 (f27_fr9 a0 a1 bq10) L (f27_k9 K a0 a1 lr)) = f27_b9 K a0 a1 (fun c0 d0 => lr (selC f27C [1, 0, 1, 0, 0, 1, 0, 0, 1, 0, 0]) (f27_fr11 a0 a1 c0 d0) (f27_k11 K a0 a1 L bq10 lr)) (fun v0 => L (f27_fr9 a0 a1 v0)) q10 := by
    intro lr L q10; kernel_rfl
  intro n q10
  refine loopN_iter (X := Int) (frame := fun x => (f27_fr9 a0 a1 x)) (body := (fun L x => (fun L9 => f27_b9 K a0 a1 (fun c0 d0 => f27_l11 K a0 a1 c0 L9 K d0) L9 x) (fun v0 => L v0))) (fun L x => ?_) n q10
  rw [exec_G]
  have h11 : (fun c0 d0 => (realL (f27E K) 1) (selC f27C [1, 0, 1, 0, 0, 1, 0, 0, 1, 0, 0]) (f27_fr11 a0 a1 c0 d0) (f27_k11 K a0 a1 L bq10 (realL (f27E K) 1))) = fun c0 d0 => f27_l11 K a0 a1 c0 (fun v0 => L (f27_fr9 a0 a1 v0)) K d0 := by
    funext c0 d0
    exact f27_t11 K a0 a1 c0 L bq10 d0 K d0
  exact (key (realL (f27E K) 1) L x).trans (by rw [h11] <;> rfl)
theorem f27_run (K : Nat) (a0 : Int × Int × Int) (a1 : List ((Int × Int) × Int)) : runF (f27E K) Try.f27 [(.ro, (.cons (.int .i64) (.cons (.int .i64) (.int .i64)))), (.ro, (.list 45 (.cons (.cons (.int .i64) (.int .i64)) (.int .i64))))] [.bool] (a0, a1, ()) = f27G K a0 a1 := by
  have key : ∀ (lr : LR Bool), runG (f27E K) Try.f27 [(.ro, (.cons (.int .i64) (.cons (.int .i64) (.int .i64)))), (.ro, (.list 45 (.cons (.cons (.int .i64) (.int .i64)) (.int .i64))))] [.bool] (a0, a1, ()) lr = f27_g K a0 a1 (fun d0 => lr (selC f27C [1, 0, 1, 0, 0]) (f27_fr9 a0 a1 d0) (f27_k9 K a0 a1 lr)) := by intro lr; kernel_rfl
  have h9 : (fun d0 => (realL (f27E K) 1) (selC f27C [1, 0, 1, 0, 0]) (f27_fr9 a0 a1 d0) (f27_k9 K a0 a1 (realL (f27E K) 1))) = fun d0 => f27_l9 K a0 a1 K d0 := by
    funext d0
    exact f27_t9 K a0 a1 d0 K d0
  exact runF_G (n0 := 1) (by rfl) ((key (realL (f27E K) 1)).trans (by rw [h9] <;> rfl))
theorem f18_t4 (K : Nat) (a0 : List ((Int × Int) × Int)) (a1 : Int) (y1 : (List (Int × Int × Int)) × Int) (bq5 : Int) (bq6 : List (Int × Int × Int)) : ∀ (n : Nat) (q5 : Int) (q6 : List (Int × Int × Int)), loopN (exec (f18E K) 1 (selC f18C [1, 1, 1, 0, 1, 0, 0])) 1 (f18_fr4 a0 a1 y1 bq5 bq6) n (f18_fr4 a0 a1 y1 q5 q6) (f18_k4 K a0 a1 (realL (f18E K) 1)) = f18_l4 K a0 a1 y1 n q5 q6 := by
  have key : ∀ (lr : LR (List (Int × Int × Int))) (L : Fr → Option (List (Int × Int × Int))) (q5 : Int) (q6 : List (Int × Int × Int)), execG (f18E K) 1 lr (selC f18C [1, 1, 1, 0, 1, 0, 0]) (f18_fr4 a0 a1 y1 q5 q6) (loopK 1 (f18_fr4 a0 a1 y1 bq5 bq6) L (f18_k4 K a0 a1 lr)) = f18_b4 K a0 a1 y1 (fun v0 v1 => L (f18_fr4 a0 a1 y1 v0 v1)) q5 q6 := by
    intro lr L q5 q6; kernel_rfl
  intro n q5 q6
  refine loopN_iter (X := Int × List (Int × Int × Int)) (frame := fun x => (f18_fr4 a0 a1 y1 x.1 x.2)) (body := (fun L x => (fun L4 => f18_b4 K a0 a1 y1 L4 x.1 x.2) (fun v0 v1 => L (v0, v1)))) (fun L x => ?_) n (q5, q6)
  rw [exec_G]
  exact (key (realL (f18E K) 1) L x.1 x.2).trans (by rfl)
theorem f18_run (K : Nat) (a0 : List ((Int × Int) × Int)) (a1 : Int) : runF (f18E K) Try.f18 [(.ro, (.list 45 (.cons (.cons (.int .i64) (.int .i64)) (.int .i64)))), (.ro, (.int .i64))] [(.list 25 (.cons (.int .i64) (.cons (.int .i64) (.int .i64))))] (a0, a1, ()) = f18G K a0 a1 := by
  have key : ∀ (lr : LR (List (Int × Int × Int))), runG (f18E K) Try.f18 [(.ro, (.list 45 (.cons (.cons (.int .i64) (.int .i64)) (.int .i64)))), (.ro, (.int .i64))] [(.list 25 (.cons (.int .i64) (.cons (.int .i64) (.int .i64))))] (a0, a1, ()) lr = f18_g K a0 a1 (fun c0 d0 d1 => lr (selC f18C [1, 1, 1, 0, 1, 0, 0]) (f18_fr4 a0 a1 c0 d0 d1) (f18_k4 K a0 a1 lr)) := by intro lr; kernel_rfl
  have h4 : (fun c0 d0 d1 => (realL (f18E K) 1) (selC f18C [1, 1, 1, 0, 1, 0, 0]) (f18_fr4 a0 a1 c0 d0 d1) (f18_k4 K a0 a1 (realL (f18E K) 1))) = fun c0 d0 d1 => f18_l4 K a0 a1 c0 K d0 d1 := by
    funext c0 d0 d1
    exact f18_t4 K a0 a1 c0 d0 d1 K d0 d1
  exact runF_G (n0 := 1) (by rfl) ((key (realL (f18E K) 1)).trans (by rw [h4] <;> rfl))
theorem f6_t4 (K : Nat) (a0 : List ((Int × Int) × Int)) (y1 : Bool) (bq5 : Int) : ∀ (n : Nat) (q5 : Int), loopN (exec (f6E K) 1 (selC f6C [1, 1, 0, 1, 0, 0])) 1 (f6_fr4 a0 y1 bq5) n (f6_fr4 a0 y1 q5) (f6_k4 K a0 (realL (f6E K) 1)) = f6_l4 K a0 y1 n q5 := by
  have key : ∀ (lr : LR ((Int × Int × Int) × Int)) (L : Fr → Option ((Int × Int × Int) × Int)) (q5 : Int), execG (f6E K) 1 lr (selC f6C [1, 1, 0, 1, 0, 0]) (f6_fr4 a0 y1 q5) (loopK 1 (f6_fr4 a0 y1 bq5) L (f6_k4 K a0 lr)) = f6_b4 K a0 y1 (fun v0 => L (f6_fr4 a0 y1 v0)) q5 := by
    intro lr L q5; kernel_rfl
  intro n q5
  refine loopN_iter (X := Int) (frame := fun x => (f6_fr4 a0 y1 x)) (body := (fun L x => (fun L4 => f6_b4 K a0 y1 L4 x) (fun v0 => L v0))) (fun L x => ?_) n q5
  rw [exec_G]
  exact (key (realL (f6E K) 1) L x).trans (by rfl)
theorem f6_run (K : Nat) (a0 : List ((Int × Int) × Int)) : runF (f6E K) Try.f6 [(.ro, (.list 45 (.cons (.cons (.int .i64) (.int .i64)) (.int .i64))))] [(.cons (.int .i64) (.cons (.int .i64) (.int .i64))), (.int .i64)] (a0, ()) = f6G K a0 := by
  have key : ∀ (lr : LR ((Int × Int × Int) × Int)), runG (f6E K) Try.f6 [(.ro, (.list 45 (.cons (.cons (.int .i64) (.int .i64)) (.int .i64))))] [(.cons (.int .i64) (.cons (.int .i64) (.int .i64))), (.int .i64)] (a0, ()) lr = f6_g K a0 (fun c0 d0 => lr (selC f6C [1, 1, 0, 1, 0, 0]) (f6_fr4 a0 c0 d0) (f6_k4 K a0 lr)) := by intro lr; kernel_rfl
  have h4 : (fun c0 d0 => (realL (f6E K) 1) (selC f6C [1, 1, 0, 1, 0, 0]) (f6_fr4 a0 c0 d0) (f6_k4 K a0 (realL (f6E K) 1))) = fun c0 d0 => f6_l4 K a0 c0 K d0 := by
    funext c0 d0
    exact f6_t4 K a0 c0 d0 K d0
  exact runF_G (n0 := 1) (by rfl) ((key (realL (f6E K) 1)).trans (by rw [h4] <;> rfl))
theorem f24_run (K : Nat) (a0 : Int) (a1 : Int) (a2 : Int) : runF (f24E K) Try.f24 [(.ro, (.int .i64)), (.ro, (.int .i64)), (.ro, (.int .i64))] [.bool] (a0, a1, a2, ()) = f24G K a0 a1 a2 := by kernel_rfl
theorem f41_run (K : Nat) (a0 : Int) : runF (f41E K) Try.f41 [(.ro, (.int .i64))] [.bool] (a0, ()) = f41G K a0 := by kernel_rfl
theorem f31_run (K : Nat) (a0 : Int × Int) : runF (f31E K) Try.f31 [(.ro, (.cons (.int .i64) (.int .i64)))] [.bool] (a0, ()) = f31G K a0 := by kernel_rfl
theorem f32_run (K : Nat) (a0 : Int) : runF (f32E K) Try.f32 [(.ro, (.int .i64))] [.bool] (a0, ()) = f32G K a0 := by kernel_rfl
theorem f30_run (K : Nat) (a0 : (Int × Int) × Int) : runF (f30E K) Try.f30 [(.ro, (.cons (.cons (.int .i64) (.int .i64)) (.int .i64)))] [.bool] (a0, ()) = f30G K a0 := by kernel_rfl
theorem f40_t3 (K : Nat) (a0 : List ((Int × Int) × Int)) (a1 : (((Int × Int) × Int) → Option Bool)) (bq4 : Int) : ∀ (n : Nat) (q4 : Int), loopN (exec (f40E K) 1 (selC f40C [1, 0, 1, 0, 0])) 1 (f40_fr3 a0 a1 bq4) n (f40_fr3 a0 a1 q4) (f40_k3 K a0 a1 (realL (f40E K) 1)) = f40_l3 K a0 a1 n q4 := by
  have key : ∀ (lr : LR Int) (L : Fr → Option Int) (q4 : Int), execG (f40E K) 1 lr (selC f40C [1, 0, 1, 0, 0]) (f40_fr3 a0 a1 q4) (loopK 1 (f40_fr3 a0 a1 bq4) L (f40_k3 K a0 a1 lr)) = f40_b3 K a0 a1 (fun v0 => L (f40_fr3 a0 a1 v0)) q4 := by
    intro lr L q4; kernel_rfl
  intro n q4
  refine loopN_iter (X := Int) (frame := fun x => (f40_fr3 a0 a1 x)) (body := (fun L x => (fun L3 => f40_b3 K a0 a1 L3 x) (fun v0 => L v0))) (fun L x => ?_) n q4
  rw [exec_G]
  exact (key (realL (f40E K) 1) L x).trans (by rfl)
theorem f40_run (K : Nat) (a0 : List ((Int × Int) × Int)) (a1 : (((Int × Int) × Int) → Option Bool)) : runF (f40E K) Try.f40 [(.ro, (.list 45 (.cons (.cons (.int .i64) (.int .i64)) (.int .i64)))), (.ro, (.fn1 (.cons (.cons (.int .i64) (.int .i64)) (.int .i64)) .bool))] [(.int .i64)] (a0, a1, ()) = f40G K a0 a1 := by
  have key : ∀ (lr : LR Int), runG (f40E K) Try.f40 [(.ro, (.list 45 (.cons (.cons (.int .i64) (.int .i64)) (.int .i64)))), (.ro, (.fn1 (.cons (.cons (.int .i64) (.int .i64)) (.int .i64)) .bool))] [(.int .i64)] (a0, a1, ()) lr = f40_g K a0 a1 (fun d0 => lr (selC f40C [1, 0, 1, 0, 0]) (f40_fr3 a0 a1 d0) (f40_k3 K a0 a1 lr)) := by intro lr; kernel_rfl
  have h3 : (fun d0 => (realL (f40E K) 1) (selC f40C [1, 0, 1, 0, 0]) (f40_fr3 a0 a1 d0) (f40_k3 K a0 a1 (realL (f40E K) 1))) = fun d0 => f40_l3 K a0 a1 K d0 := by
    funext d0
    exact f40_t3 K a0 a1 d0 K d0
  exact runF_G (n0 := 1) (by rfl) ((key (realL (f40E K) 1)).trans (by rw [h3] <;> rfl))
theorem f29_run (K : Nat) (a0 : List ((Int × Int) × Int)) (a1 : (((Int × Int) × Int) → Option Bool)) : runF (f29E K) Try.f29 [(.ro, (.list 45 (.cons (.cons (.int .i64) (.int .i64)) (.int .i64)))), (.ro, (.fn1 (.cons (.cons (.int .i64) (.int .i64)) (.int .i64)) .bool))] [.bool] (a0, a1, ()) = f29G K a0 a1 := by kernel_rfl
theorem f20_run (K : Nat) (a0 : List ((Int × Int) × Int)) : runF (f20E K) Try.f20 [(.ro, (.list 45 (.cons (.cons (.int .i64) (.int .i64)) (.int .i64))))] [.bool] (a0, ()) = f20G K a0 := by kernel_rfl
theorem f33_run (K : Nat) : runF (f33E K) Try.f33 [] [(.cons (.int .i64) (.cons (.int .i64) (.cons (.int .i64) (.int .i64))))] (()) = f33G K := by kernel_rfl
theorem f35_t9 (K : Nat) (a0 : Int) (q7 : Int) (F6 : Fr → Option (List (Int × Int × Int))) (bq7 : Int) (bq8 : List (Int × Int × Int)) (bq10 : Int) (bq11 : List (Int × Int × Int)) : ∀ (n : Nat) (q10 : Int) (q11 : List (Int × Int × Int)), loopN (exec (f35E K) 0 (selC f35C [1, 1, 0, 1, 0, 0, 1, 0, 0, 1, 0, 0])) 0 (f35_fr9 a0 q7 bq10 bq11) n (f35_fr9 a0 q7 q10 q11) (f35_k9 K a0 F6 bq7 bq8 (realL (f35E K) 0)) = f35_l9 K a0 q7 (fun v0 v1 => F6 (f35_fr6 a0 v0 v1)) n q10 q11 := by
  have key : ∀ (lr : LR (List (Int × Int × Int))) (L : Fr → Option (List (Int × Int × Int))) (q10 : Int) (q11 : List (Int × Int × Int)), execG (f35E K) 0 lr (selC f35C [1, 1, 0, 1, 0, 0, 1, 0, 0, 1, 0, 0]) (f35_fr9 a0 q7 q10 q11) (loopK 0 (f35_fr9 a0 q7 bq10 bq11) L (f35_k9 K a0 F6 bq7 bq8 lr)) = f35_b9 K a0 q7 (fun v0 v1 => F6 (f35_fr6 a0 v0 v1)) (fun v0 v1 => L (f35_fr9 a0 q7 v0 v1)) q10 q11 := by
    intro lr L q10 q11; kernel_rfl
  intro n q10 q11
  refine loopN_iter (X := Int × List (Int × Int × Int)) (frame := fun x => (f35_fr9 a0 q7 x.1 x.2)) (body := (fun L x => (fun L9 => f35_b9 K a0 q7 (fun v0 v1 => F6 (f35_fr6 a0 v0 v1)) L9 x.1 x.2) (fun v0 v1 => L (v0, v1)))) (fun L x => ?_) n (q10, q11)
  rw [exec_G]
  exact (key (realL (f35E K) 0) L x.1 x.2).trans (by rfl)
theorem f35_t6 (K : Nat) (a0 : Int) (bq7 : Int) (bq8 : List (Int × Int × Int)) : ∀ (n : Nat) (q7 : Int) (q8 : List (Int × Int × Int)), loopN (exec (f35E K) 0 (selC f35C [1, 1, 0, 1, 0, 0])) 0 (f35_fr6 a0 bq7 bq8) n (f35_fr6 a0 q7 q8) (f35_k6 K a0 (realL (f35E K) 0)) = f35_l6 K a0 n q7 q8 := by
  have key : ∀ (lr : LR (List (Int × Int × Int))) (L : Fr → Option (List (Int × Int × Int))) (q7 : Int) (q8 : List (Int × Int × Int)), execG (f35E K) 0 lr (selC f35C [1, 1, 0, 1, 0, 0]) (f35_fr6 a0 q7 q8) (loopK 0 (f35_fr6 a0 bq7 bq8) L (f35_k6 K a0 lr)) = f35_b6 K a0 (fun c0 d0 d1 => lr (selC f35C [1, 1, 0, 1, 0, 0, 1, 0, 0, 1, 0, 0]) (f35_fr9 a0 c0 d0 d1) (f35_k9 K a0 L bq7 bq8 lr)) (fun v0 v1 => L (f35_fr6 a0 v0 v1)) q7 q8 := by
    intro lr L q7 q8; kernel_rfl
  intro n q7 q8
  refine loopN_iter (X := Int × List (Int × Int × Int)) (frame := fun x => (f35_fr6 a0 x.1 x.2)) (body := (fun L x => (fun L6 => f35_b6 K a0 (fun c0 d0 d1 => f35_l9 K a0 c0 L6 K d0 d1) L6 x.1 x.2) (fun v0 v1 => L (v0, v1)))) (fun L x => ?_) n (q7, q8)
  rw [exec_G]
  have h9 : (fun c0 d0 d1 => (realL (f35E K) 0) (selC f35C [1, 1, 0, 1, 0, 0, 1, 0, 0, 1, 0, 0]) (f35_fr9 a0 c0 d0 d1) (f35_k9 K a0 L bq7 bq8 (realL (f35E K) 0))) = fun c0 d0 d1 => f35_l9 K a0 c0 (fun v0 v1 => L (f35_fr6 a0 v0 v1)) K d0 d1 := by
    funext c0 d0 d1
    exact f35_t9 K a0 c0 L bq7 bq8 d0 d1 K d0 d1
  exact (key (realL (f35E K) 0) L x.1 x.2).trans (by rw [h9] <;> rfl)
theorem f35_run (K : Nat) (a0 : Int) : runF (f35E K) Try.f35 [(.ro, (.int .i64))] [(.list 25 (.cons (.int .i64) (.cons (.int .i64) (.int .i64))))] (a0, ()) = f35G K a0 := by
  have key : ∀ (lr : LR (List (Int × Int × Int))), runG (f35E K) Try.f35 [(.ro, (.int .i64))] [(.list 25 (.cons (.int .i64) (.cons (.int .i64) (.int .i64))))] (a0, ()) lr = f35_g K a0 (fun d0 d1 => lr (selC f35C [1, 1, 0, 1, 0, 0]) (f35_fr6 a0 d0 d1) (f35_k6 K a0 lr)) := by intro lr; kernel_rfl
  have h6 : (fun d0 d1 => (realL (f35E K) 0) (selC f35C [1, 1, 0, 1, 0, 0]) (f35_fr6 a0 d0 d1) (f35_k6 K a0 (realL (f35E K) 0))) = fun d0 d1 => f35_l6 K a0 K d0 d1 := by
    funext d0 d1
    exact f35_t6 K a0 d0 d1 K d0 d1
  exact runF_G (n0 := 0) (by rfl) ((key (realL (f35E K) 0)).trans (by rw [h6] <;> rfl))
theorem f49_run (K : Nat) (a0 : Int × Int × Int) : runF (f49E K) Try.f49 [(.ro, (.cons (.int .i64) (.cons (.int .i64) (.int .i64))))] [(.int .i64)] (a0, ()) = f49G K a0 := by kernel_rfl
theorem f48_t3 (K : Nat) (a0 : List Int) (a1 : Int) (y1 : Int × Int) (bq4 : Int) (bq5 : List Int) : ∀ (n : Nat) (q4 : Int) (q5 : List Int), loopN (exec (f48E K) 1 (selC f48C [1, 1, 1, 1, 1, 1, 0, 0, 0])) 1 (f48_fr3 a0 a1 y1 bq4 bq5) n (f48_fr3 a0 a1 y1 q4 q5) (f48_k3 K a0 a1 (realL (f48E K) 1)) = f48_l3 K a0 a1 y1 n q4 q5 := by
  have key : ∀ (lr : LR (List Int)) (L : Fr → Option (List Int)) (q4 : Int) (q5 : List Int), execG (f48E K) 1 lr (selC f48C [1, 1, 1, 1, 1, 1, 0, 0, 0]) (f48_fr3 a0 a1 y1 q4 q5) (loopK 1 (f48_fr3 a0 a1 y1 bq4 bq5) L (f48_k3 K a0 a1 lr)) = f48_b3 K a0 a1 y1 (fun v0 v1 => L (f48_fr3 a0 a1 y1 v0 v1)) q4 q5 := by
    intro lr L q4 q5; kernel_rfl
  intro n q4 q5
  refine loopN_iter (X := Int × List Int) (frame := fun x => (f48_fr3 a0 a1 y1 x.1 x.2)) (body := (fun L x => (fun L3 => f48_b3 K a0 a1 y1 L3 x.1 x.2) (fun v0 v1 => L (v0, v1)))) (fun L x => ?_) n (q4, q5)
  rw [exec_G]
  exact (key (realL (f48E K) 1) L x.1 x.2).trans (by rfl)
theorem f48_run (K : Nat) (a0 : List Int) (a1 : Int) : runF (f48E K) Try.f48 [(.ro, (.list 2 (.int .i64))), (.ro, (.int .i64))] [(.list 2 (.int .i64))] (a0, a1, ()) = f48G K a0 a1 := by
  have key : ∀ (lr : LR (List Int)), runG (f48E K) Try.f48 [(.ro, (.list 2 (.int .i64))), (.ro, (.int .i64))] [(.list 2 (.int .i64))] (a0, a1, ()) lr = f48_g K a0 a1 (fun c0 d0 d1 => lr (selC f48C [1, 1, 1, 1, 1, 1, 0, 0, 0]) (f48_fr3 a0 a1 c0 d0 d1) (f48_k3 K a0 a1 lr)) := by intro lr; kernel_rfl
  have h3 : (fun c0 d0 d1 => (realL (f48E K) 1) (selC f48C [1, 1, 1, 1, 1, 1, 0, 0, 0]) (f48_fr3 a0 a1 c0 d0 d1) (f48_k3 K a0 a1 (realL (f48E K) 1))) = fun c0 d0 d1 => f48_l3 K a0 a1 c0 K d0 d1 := by
    funext c0 d0 d1
    exact f48_t3 K a0 a1 c0 d0 d1 K d0 d1
  exact runF_G (n0 := 1) (by rfl) ((key (realL (f48E K) 1)).trans (by rw [h3] <;> rfl))
theorem f50_t9 (K : Nat) (a0 : Int × Int × Int) (q7 : Int) (F6 : Fr → Option (List (Int × Int))) (bq7 : Int) (bq8 : List (Int × Int)) (bq10 : Int) (bq11 : List (Int × Int)) : ∀ (n : Nat) (q10 : Int) (q11 : List (Int × Int)), loopN (exec (f50E K) 0 (selC f50C [1, 1, 0, 1, 0, 0, 1, 1, 0, 0, 1, 1, 0, 0])) 0 (f50_fr9 a0 q7 bq10 bq11) n (f50_fr9 a0 q7 q10 q11) (f50_k9 K a0 F6 bq7 bq8 (realL (f50E K) 0)) = f50_l9 K a0 q7 (fun v0 v1 => F6 (f50_fr6 a0 v0 v1)) n q10 q11 := by
  have key : ∀ (lr : LR (List (Int × Int))) (L : Fr → Option (List (Int × Int))) (q10 : Int) (q11 : List (Int × Int)), execG (f50E K) 0 lr (selC f50C [1, 1, 0, 1, 0, 0, 1, 1, 0, 0, 1, 1, 0, 0]) (f50_fr9 a0 q7 q10 q11) (loopK 0 (f50_fr9 a0 q7 bq10 bq11) L (f50_k9 K a0 F6 bq7 bq8 lr)) = f50_b9 K a0 q7 (fun v0 v1 => F6 (f50_fr6 a0 v0 v1)) (fun v0 v1 => L (f50_fr9 a0 q7 v0 v1)) q10 q11 := by
    intro lr L q10 q11; kernel_rfl
  intro n q10 q11
  refine loopN_iter (X := Int × List (Int × Int)) (frame := fun x => (f50_fr9 a0 q7 x.1 x.2)) (body := (fun L x => (fun L9 => f50_b9 K a0 q7 (fun v0 v1 => F6 (f50_fr6 a0 v0 v1)) L9 x.1 x.2) (fun v0 v1 => L (v0, v1)))) (fun L x => ?_) n (q10, q11)
  rw [exec_G]
  exact (key (realL (f50E K) 0) L x.1 x.2).trans (by rfl)
theorem f50_t6 (K : Nat) (a0 : Int × Int × Int) (bq7 : Int) (bq8 : List (Int × Int)) : ∀ (n : Nat) (q7 : Int) (q8 : List (Int × Int)), loopN (exec (f50E K) 0 (selC f50C [1, 1, 0, 1, 0, 0])) 0 (f50_fr6 a0 bq7 bq8) n (f50_fr6 a0 q7 q8) (f50_k6 K a0 (realL (f50E K) 0)) = f50_l6 K a0 n q7 q8 := by
  have key : ∀ (lr : LR (List (Int × Int))) (L : Fr → Option (List (Int × Int))) (q7 : Int) (q8 : List (Int × Int)), execG (f50E K) 0 lr (selC f50C [1, 1, 0, 1, 0, 0]) (f50_fr6 a0 q7 q8) (loopK 0 (f50_fr6 a0 bq7 bq8) L (f50_k6 K a0 lr)) = f50_b6 K a0 (fun c0 d0 d1 => lr (selC f50C [1, 1, 0, 1, 0, 0, 1, 1, 0, 0, 1, 1, 0, 0]) (f50_fr9 a0 c0 d0 d1) (f50_k9 K a0 L bq7 bq8 lr)) (fun v0 v1 => L (f50_fr6 a0 v0 v1)) q7 q8 := by
    intro lr L q7 q8; kernel_rfl
  intro n q7 q8
  refine loopN_iter (X := Int × List (Int × Int)) (frame := fun x => (f50_fr6 a0 x.1 x.2)) (body := (fun L x => (fun L6 => f50_b6 K a0 (fun c0 d0 d1 => f50_l9 K a0 c0 L6 K d0 d1) L6 x.1 x.2) (fun v0 v1 => L (v0, v1)))) (fun L x => ?_) n (q7, q8)
  rw [exec_G]
  have h9 : (fun c0 d0 d1 => (realL (f50E K) 0) (selC f50C [1, 1, 0, 1, 0, 0, 1, 1, 0, 0, 1, 1, 0, 0]) (f50_fr9 a0 c0 d0 d1) (f50_k9 K a0 L bq7 bq8 (realL (f50E K) 0))) = fun c0 d0 d1 => f50_l9 K a0 c0 (fun v0 v1 => L (f50_fr6 a0 v0 v1)) K d0 d1 := by
    funext c0 d0 d1
    exact f50_t9 K a0 c0 L bq7 bq8 d0 d1 K d0 d1
  exact (key (realL (f50E K) 0) L x.1 x.2).trans (by rw [h9] <;> rfl)
theorem f50_run (K : Nat) (a0 : Int × Int × Int) : runF (f50E K) Try.f50 [(.ro, (.cons (.int .i64) (.cons (.int .i64) (.int .i64))))] [(.list 43 (.cons (.int .i64) (.int .i64)))] (a0, ()) = f50G K a0 := by
  have key : ∀ (lr : LR (List (Int × Int))), runG (f50E K) Try.f50 [(.ro, (.cons (.int .i64) (.cons (.int .i64) (.int .i64))))] [(.list 43 (.cons (.int .i64) (.int .i64)))] (a0, ()) lr = f50_g K a0 (fun d0 d1 => lr (selC f50C [1, 1, 0, 1, 0, 0]) (f50_fr6 a0 d0 d1) (f50_k6 K a0 lr)) := by intro lr; kernel_rfl
  have h6 : (fun d0 d1 => (realL (f50E K) 0) (selC f50C [1, 1, 0, 1, 0, 0]) (f50_fr6 a0 d0 d1) (f50_k6 K a0 (realL (f50E K) 0))) = fun d0 d1 => f50_l6 K a0 K d0 d1 := by
    funext d0 d1
    exact f50_t6 K a0 d0 d1 K d0 d1
  exact runF_G (n0 := 0) (by rfl) ((key (realL (f50E K) 0)).trans (by rw [h6] <;> rfl))
theorem f45_run (K : Nat) (a0 : Int × Int × Int) (a1 : Int × Int) : runF (f45E K) Try.f45 [(.ro, (.cons (.int .i64) (.cons (.int .i64) (.int .i64)))), (.ro, (.cons (.int .i64) (.int .i64)))] [(.int .i64)] (a0, a1, ()) = f45G K a0 a1 := by kernel_rfl
theorem f65_run (K : Nat) (a0 : Int × Int × Int × Int) (a1 : Int × Int) : runF (f65E K) Try.f65 [(.ro, (.cons (.int .i64) (.cons (.int .i64) (.cons (.int .i64) (.int .i64))))), (.ro, (.cons (.int .i64) (.int .i64)))] [(.cons (.int .i64) (.int .i64))] (a0, a1, ()) = f65G K a0 a1 := by kernel_rfl
theorem f66_run (K : Nat) (a0 : Int × Int) (a1 : Int × Int) : runF (f66E K) Try.f66 [(.ro, (.cons (.int .i64) (.int .i64))), (.ro, (.cons (.int .i64) (.int .i64)))] [(.cons (.int .i64) (.int .i64))] (a0, a1, ()) = f66G K a0 a1 := by kernel_rfl
theorem f61_run (K : Nat) (a0 : (Int × Int × Int × Int) × Int × Int) (a1 : Int × Int) : runF (f61E K) Try.f61 [(.ro, (.cons (.cons (.int .i64) (.cons (.int .i64) (.cons (.int .i64) (.int .i64)))) (.cons (.int .i64) (.int .i64)))), (.ro, (.cons (.int .i64) (.int .i64)))] [(.cons (.int .i64) (.int .i64))] (a0, a1, ()) = f61G K a0 a1 := by kernel_rfl
theorem f52_run (K : Nat) (a0 : Int) (a1 : Int) : runF (f52E K) Try.f52 [(.ro, (.int .i64)), (.ro, (.int .i64))] [(.int .i64)] (a0, a1, ()) = f52G K a0 a1 := by kernel_rfl
theorem f46_run (K : Nat) (a0 : Int × Int × Int) (a1 : Int × Int) : runF (f46E K) Try.f46 [(.ro, (.cons (.int .i64) (.cons (.int .i64) (.int .i64)))), (.ro, (.cons (.int .i64) (.int .i64)))] [(.cons (.int .i64) (.int .i64))] (a0, a1, ()) = f46G K a0 a1 := by kernel_rfl
theorem f55_run (K : Nat) (a0 : Int × Int × Int) (a1 : (Int × Int × Int × Int) × Int × Int) (a2 : Int × Int) : runF (f55E K) Try.f55 [(.ro, (.cons (.int .i64) (.cons (.int .i64) (.int .i64)))), (.ro, (.cons (.cons (.int .i64) (.cons (.int .i64) (.cons (.int .i64) (.int .i64)))) (.cons (.int .i64) (.int .i64)))), (.ro, (.cons (.int .i64) (.int .i64)))] [(.cons (.int .i64) (.int .i64))] (a0, a1, a2, ()) = f55G K a0 a1 a2 := by kernel_rfl
theorem f64_t2 (K : Nat) (a0 : List Int) (a1 : List Int) (bq3 : Int) : ∀ (n : Nat) (q3 : Int), loopN (exec (f64E K) 2 (selC f64C [1, 0, 1, 0, 0])) 2 (f64_fr2 a0 a1 bq3) n (f64_fr2 a0 a1 q3) (f64_k2 K a0 a1 (realL (f64E K) 2)) = f64_l2 K a0 a1 n q3 := by
  have key : ∀ (lr : LR Int) (L : Fr → Option Int) (q3 : Int), execG (f64E K) 2 lr (selC f64C [1, 0, 1, 0, 0]) (f64_fr2 a0 a1 q3) (loopK 2 (f64_fr2 a0 a1 bq3) L (f64_k2 K a0 a1 lr)) = f64_b2 K a0 a1 (fun v0 => L (f64_fr2 a0 a1 v0)) q3 := by
    intro lr L q3; kernel_rfl
  intro n q3
  refine loopN_iter (X := Int) (frame := fun x => (f64_fr2 a0 a1 x)) (body := (fun L x => (fun L2 => f64_b2 K a0 a1 L2 x) (fun v0 => L v0))) (fun L x => ?_) n q3
  rw [exec_G]
  exact (key (realL (f64E K) 2) L x).trans (by rfl)
theorem f64_run (K : Nat) (a0 : List Int) (a1 : List Int) : runF (f64E K) Try.f64 [(.ro, (.list 2 (.int .i64))), (.ro, (.list 2 (.int .i64)))] [(.int .i64)] (a0, a1, ()) = f64G K a0 a1 := by
  have key : ∀ (lr : LR Int), runG (f64E K) Try.f64 [(.ro, (.list 2 (.int .i64))), (.ro, (.list 2 (.int .i64)))] [(.int .i64)] (a0, a1, ()) lr = f64_g K a0 a1 (fun d0 => lr (selC f64C [1, 0, 1, 0, 0]) (f64_fr2 a0 a1 d0) (f64_k2 K a0 a1 lr)) := by intro lr; kernel_rfl
  have h2 : (fun d0 => (realL (f64E K) 2) (selC f64C [1, 0, 1, 0, 0]) (f64_fr2 a0 a1 d0) (f64_k2 K a0 a1 (realL (f64E K) 2))) = fun d0 => f64_l2 K a0 a1 K d0 := by
    funext d0
    exact f64_t2 K a0 a1 d0 K d0
  exact runF_G (n0 := 2) (by rfl) ((key (realL (f64E K) 2)).trans (by rw [h2] <;> rfl))
theorem f57_run (K : Nat) (a0 : Int × Int) (a1 : Int × Int) : runF (f57E K) Try.f57 [(.ro, (.cons (.int .i64) (.int .i64))), (.ro, (.cons (.int .i64) (.int .i64)))] [(.int .i64)] (a0, a1, ()) = f57G K a0 a1 := by kernel_rfl
theorem f58_t9 (K : Nat) (a0 : List (Int × Int)) (q8 : Int) (F7 : Fr → Option (List (Int × Int))) (bq8 : Int) (bq10 : Int) (bq11 : Int) (bq12 : List (Int × Int)) : ∀ (n : Nat) (q10 : Int) (q11 : Int) (q12 : List (Int × Int)), loopN (exec (f58E K) 1 (selC f58C [1, 1, 0, 1, 0, 0, 1, 0, 0, 1, 0, 1, 0, 1, 0, 0])) 1 (f58_fr9 a0 q8 bq10 bq11 bq12) n (f58_fr9 a0 q8 q10 q11 q12) (f58_k9 K a0 F7 bq8 (realL (f58E K) 1)) = f58_l9 K a0 q8 n q10 q11 q12 := by
  have key : ∀ (lr : LR (List (Int × Int))) (L : Fr → Option (List (Int × Int))) (q10 : Int) (q11 : Int) (q12 : List (Int × Int)), execG (f58E K) 1 lr (selC f58C [1, 1, 0, 1, 0, 0, 1, 0, 0, 1, 0, 1, 0, 1, 0, 0]) (f58_fr9 a0 q8 q10 q11 q12) (loopK 1 (f58_fr9 a0 q8 bq10 bq11 bq12) L (f58_k9 K a0 F7 bq8 lr)) = f58_b9 K a0 q8 (fun v0 v1 v2 => L (f58_fr9 a0 q8 v0 v1 v2)) q10 q11 q12 := by
    intro lr L q10 q11 q12; kernel_rfl
  intro n q10 q11 q12
  refine loopN_iter (X := Int × Int × List (Int × Int)) (frame := fun x => (f58_fr9 a0 q8 x.1 x.2.1 x.2.2)) (body := (fun L x => (fun L9 => f58_b9 K a0 q8 L9 x.1 x.2.1 x.2.2) (fun v0 v1 v2 => L (v0, v1, v2)))) (fun L x => ?_) n (q10, q11, q12)
  rw [exec_G]
  exact (key (realL (f58E K) 1) L x.1 x.2.1 x.2.2).trans (by rfl)
theorem f58_t7 (K : Nat) (a0 : List (Int × Int)) (bq8 : Int) : ∀ (n : Nat) (q8 : Int), loopN (exec (f58E K) 1 (selC f58C [1, 1, 0, 1, 0, 0])) 1 (f58_fr7 a0 bq8) n (f58_fr7 a0 q8) (f58_k7 K a0 (realL (f58E K) 1)) = f58_l7 K a0 n q8 := by
  have key : ∀ (lr : LR (List (Int × Int))) (L : Fr → Option (List (Int × Int))) (q8 : Int), execG (f58E K) 1 lr (selC f58C [1, 1, 0, 1, 0, 0]) (f58_fr7 a0 q8) (loopK 1 (f58_fr7 a0 bq8) L (f58_k7 K a0 lr)) = f58_b7 K a0 (fun c0 d0 d1 d2 => lr (selC f58C [1, 1, 0, 1, 0, 0, 1, 0, 0, 1, 0, 1, 0, 1, 0, 0]) (f58_fr9 a0 c0 d0 d1 d2) (f58_k9 K a0 L bq8 lr)) (fun v0 => L (f58_fr7 a0 v0)) q8 := by
    intro lr L q8; kernel_rfl
  intro n q8
  refine loopN_iter (X := Int) (frame := fun x => (f58_fr7 a0 x)) (body := (fun L x => (fun L7 => f58_b7 K a0 (fun c0 d0 d1 d2 => f58_l9 K a0 c0 K d0 d1 d2) L7 x) (fun v0 => L v0))) (fun L x => ?_) n q8
  rw [exec_G]
  have h9 : (fun c0 d0 d1 d2 => (realL (f58E K) 1) (selC f58C [1, 1, 0, 1, 0, 0, 1, 0, 0, 1, 0, 1, 0, 1, 0, 0]) (f58_fr9 a0 c0 d0 d1 d2) (f58_k9 K a0 L bq8 (realL (f58E K) 1))) = fun c0 d0 d1 d2 => f58_l9 K a0 c0 K d0 d1 d2 := by
    funext c0 d0 d1 d2
    exact f58_t9 K a0 c0 L bq8 d0 d1 d2 K d0 d1 d2
  exact (key (realL (f58E K) 1) L x).trans (by rw [h9] <;> rfl)
theorem f58_run (K : Nat) (a0 : List (Int × Int)) : runF (f58E K) Try.f58 [(.mv, (.list 43 (.cons (.int .i64) (.int .i64))))] [(.list 43 (.cons (.int .i64) (.int .i64)))] (a0, ()) = f58G K a0 := by
  have key : ∀ (lr : LR (List (Int × Int))), runG (f58E K) Try.f58 [(.mv, (.list 43 (.cons (.int .i64) (.int .i64))))] [(.list 43 (.cons (.int .i64) (.int .i64)))] (a0, ()) lr = f58_g K a0 (fun d0 => lr (selC f58C [1, 1, 0, 1, 0, 0]) (f58_fr7 a0 d0) (f58_k7 K a0 lr)) := by intro lr; kernel_rfl
  have h7 : (fun d0 => (realL (f58E K) 1) (selC f58C [1, 1, 0, 1, 0, 0]) (f58_fr7 a0 d0) (f58_k7 K a0 (realL (f58E K) 1))) = fun d0 => f58_l7 K a0 K d0 := by
    funext d0
    exact f58_t7 K a0 d0 K d0
  exact runF_G (n0 := 1) (by rfl) ((key (realL (f58E K) 1)).trans (by rw [h7] <;> rfl))
theorem f51_t3 (K : Nat) (a0 : Int × Int × Int) (a1 : List ((Int × Int × Int × Int) × Int × Int)) (a2 : Int × Int) (bq4 : Int) (bq5 : List (Int × Int)) : ∀ (n : Nat) (q4 : Int) (q5 : List (Int × Int)), loopN (exec (f51E K) 1 (selC f51C [1, 1, 0, 1, 0, 0])) 1 (f51_fr3 a0 a1 a2 bq4 bq5) n (f51_fr3 a0 a1 a2 q4 q5) (f51_k3 K a0 a1 a2 (realL (f51E K) 1)) = f51_l3 K a0 a1 a2 n q4 q5 := by
  have key : ∀ (lr : LR (List (Int × Int))) (L : Fr → Option (List (Int × Int))) (q4 : Int) (q5 : List (Int × Int)), execG (f51E K) 1 lr (selC f51C [1, 1, 0, 1, 0, 0]) (f51_fr3 a0 a1 a2 q4 q5) (loopK 1 (f51_fr3 a0 a1 a2 bq4 bq5) L (f51_k3 K a0 a1 a2 lr)) = f51_b3 K a0 a1 a2 (fun v0 v1 => L (f51_fr3 a0 a1 a2 v0 v1)) q4 q5 := by
    intro lr L q4 q5; kernel_rfl
  intro n q4 q5
  refine loopN_iter (X := Int × List (Int × Int)) (frame := fun x => (f51_fr3 a0 a1 a2 x.1 x.2)) (body := (fun L x => (fun L3 => f51_b3 K a0 a1 a2 L3 x.1 x.2) (fun v0 v1 => L (v0, v1)))) (fun L x => ?_) n (q4, q5)
  rw [exec_G]
  exact (key (realL (f51E K) 1) L x.1 x.2).trans (by rfl)
theorem f51_run (K : Nat) (a0 : Int × Int × Int) (a1 : List ((Int × Int × Int × Int) × Int × Int)) (a2 : Int × Int) : runF (f51E K) Try.f51 [(.ro, (.cons (.int .i64) (.cons (.int .i64) (.int .i64)))), (.ro, (.list 63 (.cons (.cons (.int .i64) (.cons (.int .i64) (.cons (.int .i64) (.int .i64)))) (.cons (.int .i64) (.int .i64))))), (.ro, (.cons (.int .i64) (.int .i64)))] [(.list 43 (.cons (.int .i64) (.int .i64)))] (a0, a1, a2, ()) = f51G K a0 a1 a2 := by
  have key : ∀ (lr : LR (List (Int × Int))), runG (f51E K) Try.f51 [(.ro, (.cons (.int .i64) (.cons (.int .i64) (.int .i64)))), (.ro, (.list 63 (.cons (.cons (.int .i64) (.cons (.int .i64) (.cons (.int .i64) (.int .i64)))) (.cons (.int .i64) (.int .i64))))), (.ro, (.cons (.int .i64) (.int .i64)))] [(.list 43 (.cons (.int .i64) (.int .i64)))] (a0, a1, a2, ()) lr = f51_g K a0 a1 a2 (fun d0 d1 => lr (selC f51C [1, 1, 0, 1, 0, 0]) (f51_fr3 a0 a1 a2 d0 d1) (f51_k3 K a0 a1 a2 lr)) := by intro lr; kernel_rfl
  have h3 : (fun d0 d1 => (realL (f51E K) 1) (selC f51C [1, 1, 0, 1, 0, 0]) (f51_fr3 a0 a1 a2 d0 d1) (f51_k3 K a0 a1 a2 (realL (f51E K) 1))) = fun d0 d1 => f51_l3 K a0 a1 a2 K d0 d1 := by
    funext d0 d1
    exact f51_t3 K a0 a1 a2 d0 d1 K d0 d1
  exact runF_G (n0 := 1) (by rfl) ((key (realL (f51E K) 1)).trans (by rw [h3] <;> rfl))
theorem f43_t22 (K : Nat) (a0 : Int × Int × Int) (a1 : List ((Int × Int × Int × Int) × Int × Int)) (y3 : List (Int × Int)) (q17 : Int) (q18 : List (List (Int × Int))) (q19 : List Int) (y20 : Int) (y21 : List (Int × Int)) (F16 : Fr → Option ((List (List (Int × Int))) × List Int)) (bq17 : Int) (bq18 : List (List (Int × Int))) (bq19 : List Int) (bq23 : Int) (bq24 : List Int) : ∀ (n : Nat) (q23 : Int) (q24 : List Int), loopN (exec (f43E K) 1 (selC f43C [1, 1, 0, 1, 0, 0, 1, 1, 0, 0, 1, 1, 1, 0, 1, 0, 0])) 1 (f43_fr22 a0 a1 q17 q18 q19 y3 y20 y21 bq23 bq24) n (f43_fr22 a0 a1 q17 q18 q19 y3 y20 y21 q23 q24) (f43_k22 K a0 a1 y3 F16 bq17 bq18 bq19 (realL (f43E K) 1)) = f43_l22 K a0 a1 q17 q18 q19 y3 y20 y21 (fun v0 v1 v2 => F16 (f43_fr16 a0 a1 y3 v0 v1 v2)) n q23 q24 := by
  have key : ∀ (lr : LR ((List (List (Int × Int))) × List Int)) (L : Fr → Option ((List (List (Int × Int))) × List Int)) (q23 : Int) (q24 : List Int), execG (f43E K) 1 lr (selC f43C [1, 1, 0, 1, 0, 0, 1, 1, 0, 0, 1, 1, 1, 0, 1, 0, 0]) (f43_fr22 a0 a1 q17 q18 q19 y3 y20 y21 q23 q24) (loopK 1 (f43_fr22 a0 a1 q17 q18 q19 y3 y20 y21 bq23 bq24) L (f43_k22 K a0 a1 y3 F16 bq17 bq18 bq19 lr)) = f43_b22 K a0 a1 q17 q18 q19 y3 y20 y21 (fun v0 v1 v2 => F16 (f43_fr16 a0 a1 y3 v0 v1 v2)) (fun v0 v1 => L (f43_fr22 a0 a1 q17 q18 q19 y3 y20 y21 v0 v1)) q23 q24 := by
    intro lr L q23 q24; kernel_rfl
  intro n q23 q24
  refine loopN_iter (X := Int × List Int) (frame := fun x => (f43_fr22 a0 a1 q17 q18 q19 y3 y20 y21 x.1 x.2)) (body := (fun L x => (fun L22 => f43_b22 K a0 a1 q17 q18 q19 y3 y20 y21 (fun v0 v1 v2 => F16 (f43_fr16 a0 a1 y3 v0 v1 v2)) L22 x.1 x.2) (fun v0 v1 => L (v0, v1)))) (fun L x => ?_) n (q23, q24)
  rw [exec_G]
  exact (key (realL (f43E K) 1) L x.1 x.2).trans (by rfl)
theorem f43_t16 (K : Nat) (a0 : Int × Int × Int) (a1 : List ((Int × Int × Int × Int) × Int × Int)) (y3 : List (Int × Int)) (bq17 : Int) (bq18 : List (List (Int × Int))) (bq19 : List Int) : ∀ (n : Nat) (q17 : Int) (q18 : List (List (Int × Int))) (q19 : List Int), loopN (exec (f43E K) 1 (selC f43C [1, 1, 0, 1, 0, 0])) 1 (f43_fr16 a0 a1 y3 bq17 bq18 bq19) n (f43_fr16 a0 a1 y3 q17 q18 q19) (f43_k16 K a0 a1 (realL (f43E K) 1)) = f43_l16 K a0 a1 y3 n q17 q18 q19 := by
  have key : ∀ (lr : LR ((List (List (Int × Int))) × List Int)) (L : Fr → Option ((List (List (Int × Int))) × List Int)) (q17 : Int) (q18 : List (List (Int × Int))) (q19 : List Int), execG (f43E K) 1 lr (selC f43C [1, 1, 0, 1, 0, 0]) (f43_fr16 a0 a1 y3 q17 q18 q19) (loopK 1 (f43_fr16 a0 a1 y3 bq17 bq18 bq19) L (f43_k16 K a0 a1 lr)) = f43_b16 K a0 a1 y3 (fun c0 c1 c2 c3 c4 d0 d1 => lr (selC f43C [1, 1, 0, 1, 0, 0, 1, 1, 0, 0, 1, 1, 1, 0, 1, 0, 0]) (f43_fr22 a0 a1 c0 c1 c2 y3 c3 c4 d0 d1) (f43_k22 K a0 a1 y3 L bq17 bq18 bq19 lr)) (fun v0 v1 v2 => L (f43_fr16 a0 a1 y3 v0 v1 v2)) q17 q18 q19 := by
    intro lr L q17 q18 q19; kernel_rfl
  intro n q17 q18 q19
  refine loopN_iter (X := Int × List (List (Int × Int)) × List Int) (frame := fun x => (f43_fr16 a0 a1 y3 x.1 x.2.1 x.2.2)) (body := (fun L x => (fun L16 => f43_b16 K a0 a1 y3 (fun c0 c1 c2 c3 c4 d0 d1 => f43_l22 K a0 a1 c0 c1 c2 y3 c3 c4 L16 K d0 d1) L16 x.1 x.2.1 x.2.2) (fun v0 v1 v2 => L (v0, v1, v2)))) (fun L x => ?_) n (q17, q18, q19)
  rw [exec_G]
  have h22 : (fun c0 c1 c2 c3 c4 d0 d1 => (realL (f43E K) 1) (selC f43C [1, 1, 0, 1, 0, 0, 1, 1, 0, 0, 1, 1, 1, 0, 1, 0, 0]) (f43_fr22 a0 a1 c0 c1 c2 y3 c3 c4 d0 d1) (f43_k22 K a0 a1 y3 L bq17 bq18 bq19 (realL (f43E K) 1))) = fun c0 c1 c2 c3 c4 d0 d1 => f43_l22 K a0 a1 c0 c1 c2 y3 c3 c4 (fun v0 v1 v2 => L (f43_fr16 a0 a1 y3 v0 v1 v2)) K d0 d1 := by
    funext c0 c1 c2 c3 c4 d0 d1
    exact f43_t22 K a0 a1 y3 c0 c1 c2 c3 c4 L bq17 bq18 bq19 d0 d1 K d0 d1
  exact (key (realL (f43E K) 1) L x.1 x.2.1 x.2.2).trans (by rw [h22] <;> rfl)
theorem f43_run (K : Nat) (a0 : Int × Int × Int) (a1 : List ((Int × Int × Int × Int) × Int × Int)) : runF (f43E K) Try.f43 [(.ro, (.cons (.int .i64) (.cons (.int .i64) (.int .i64)))), (.ro, (.list 63 (.cons (.cons (.int .i64) (.cons (.int .i64) (.cons (.int .i64) (.int .i64)))) (.cons (.int .i64) (.int .i64)))))] [(.list 84 (.list 43 (.cons (.int .i64) (.int .i64)))), (.list 2 (.int .i64))] (a0, a1, ()) = f43G K a0 a1 := by
  have key : ∀ (lr : LR ((List (List (Int × Int))) × List Int)), runG (f43E K) Try.f43 [(.ro, (.cons (.int .i64) (.cons (.int .i64) (.int .i64)))), (.ro, (.list 63 (.cons (.cons (.int .i64) (.cons (.int .i64) (.cons (.int .i64) (.int .i64)))) (.cons (.int .i64) (.int .i64)))))] [(.list 84 (.list 43 (.cons (.int .i64) (.int .i64)))), (.list 2 (.int .i64))] (a0, a1, ()) lr = f43_g K a0 a1 (fun c0 d0 d1 d2 => lr (selC f43C [1, 1, 0, 1, 0, 0]) (f43_fr16 a0 a1 c0 d0 d1 d2) (f43_k16 K a0 a1 lr)) := by intro lr; kernel_rfl
  have h16 : (fun c0 d0 d1 d2 => (realL (f43E K) 1) (selC f43C [1, 1, 0, 1, 0, 0]) (f43_fr16 a0 a1 c0 d0 d1 d2) (f43_k16 K a0 a1 (realL (f43E K) 1))) = fun c0 d0 d1 d2 => f43_l16 K a0 a1 c0 K d0 d1 d2 := by
    funext c0 d0 d1 d2
    exact f43_t16 K a0 a1 c0 d0 d1 d2 K d0 d1 d2
  exact runF_G (n0 := 1) (by rfl) ((key (realL (f43E K) 1)).trans (by rw [h16] <;> rfl))
theorem f44_run (K : Nat) (a0 : (Int × Int) × Int) (a1 : List Int) (a2 : Int × Int × Int) : runF (f44E K) Try.f44 [(.ro, (.cons (.cons (.int .i64) (.int .i64)) (.int .i64))), (.cap, (.list 2 (.int .i64))), (.cap, (.cons (.int .i64) (.cons (.int .i64) (.int .i64))))] [(.int .i64)] (a0, a1, a2, ()) = f44G K a0 a1 a2 := by kernel_rfl
theorem f37_t12 (K : Nat) (a0 : Int × Int × Int) (a1 : List ((Int × Int × Int × Int) × Int × Int)) (a2 : List ((Int × Int) × Int)) (y1 : (List (List (Int × Int))) × List Int) (q11 : Int) (F10 : Fr → Option (Int × Int × Bool)) (bq11 : Int) (bq13 : Int) : ∀ (n : Nat) (q13 : Int), loopN (exec (f37E K) 2 (selC f37C [1, 1, 1, 0, 1, 0, 0, 1, 1, 0, 0, 1, 1, 0, 0])) 2 (f37_fr12 a0 a1 a2 q11 y1 bq13) n (f37_fr12 a0 a1 a2 q11 y1 q13) (f37_k12 K a0 a1 a2 y1 F10 bq11 (realL (f37E K) 2)) = f37_l12 K a0 a1 a2 q11 y1 (fun v0 => F10 (f37_fr10 a0 a1 a2 y1 v0)) n q13 := by
  have key : ∀ (lr : LR (Int × Int × Bool)) (L : Fr → Option (Int × Int × Bool)) (q13 : Int), execG (f37E K) 2 lr (selC f37C [1, 1, 1, 0, 1, 0, 0, 1, 1, 0, 0, 1, 1, 0, 0]) (f37_fr12 a0 a1 a2 q11 y1 q13) (loopK 2 (f37_fr12 a0 a1 a2 q11 y1 bq13) L (f37_k12 K a0 a1 a2 y1 F10 bq11 lr)) = f37_b12 K a0 a1 a2 q11 y1 (fun v0 => F10 (f37_fr10 a0 a1 a2 y1 v0)) (fun v0 => L (f37_fr12 a0 a1 a2 q11 y1 v0)) q13 := by
    intro lr L q13; kernel_rfl
  intro n q13
  refine loopN_iter (X := Int) (frame := fun x => (f37_fr12 a0 a1 a2 q11 y1 x)) (body := (fun L x => (fun L12 => f37_b12 K a0 a1 a2 q11 y1 (fun v0 => F10 (f37_fr10 a0 a1 a2 y1 v0)) L12 x) (fun v0 => L v0))) (fun L x => ?_) n q13
  rw [exec_G]
  exact (key (realL (f37E K) 2) L x).trans (by rfl)
theorem f37_t10 (K : Nat) (a0 : Int × Int × Int) (a1 : List ((Int × Int × Int × Int) × Int × Int)) (a2 : List ((Int × Int) × Int)) (y1 : (List (List (Int × Int))) × List Int) (bq11 : Int) : ∀ (n : Nat) (q11 : Int), loopN (exec (f37E K) 2 (selC f37C [1, 1, 1, 0, 1, 0, 0])) 2 (f37_fr10 a0 a1 a2 y1 bq11) n (f37_fr10 a0 a1 a2 y1 q11) (f37_k10 K a0 a1 a2 (realL (f37E K) 2)) = f37_l10 K a0 a1 a2 y1 n q11 := by
  have key : ∀ (lr : LR (Int × Int × Bool)) (L : Fr → Option (Int × Int × Bool)) (q11 : Int), execG (f37E K) 2 lr (selC f37C [1, 1, 1, 0, 1, 0, 0]) (f37_fr10 a0 a1 a2 y1 q11) (loopK 2 (f37_fr10 a0 a1 a2 y1 bq11) L (f37_k10 K a0 a1 a2 lr)) = f37_b10 K a0 a1 a2 y1 (fun c0 d0 => lr (selC f37C [1, 1, 1, 0, 1, 0, 0, 1, 1, 0, 0, 1, 1, 0, 0]) (f37_fr12 a0 a1 a2 c0 y1 d0) (f37_k12 K a0 a1 a2 y1 L bq11 lr)) (fun v0 => L (f37_fr10 a0 a1 a2 y1 v0)) q11 := by
    intro lr L q11; kernel_rfl
  intro n q11
  refine loopN_iter (X := Int) (frame := fun x => (f37_fr10 a0 a1 a2 y1 x)) (body := (fun L x => (fun L10 => f37_b10 K a0 a1 a2 y1 (fun c0 d0 => f37_l12 K a0 a1 a2 c0 y1 L10 K d0) L10 x) (fun v0 => L v0))) (fun L x => ?_) n q11
  rw [exec_G]
  have h12 : (fun c0 d0 => (realL (f37E K) 2) (selC f37C [1, 1, 1, 0, 1, 0, 0, 1, 1, 0, 0, 1, 1, 0, 0]) (f37_fr12 a0 a1 a2 c0 y1 d0) (f37_k12 K a0 a1 a2 y1 L bq11 (realL (f37E K) 2))) = fun c0 d0 => f37_l12 K a0 a1 a2 c0 y1 (fun v0 => L (f37_fr10 a0 a1 a2 y1 v0)) K d0 := by
    funext c0 d0
    exact f37_t12 K a0 a1 a2 y1 c0 L bq11 d0 K d0
  exact (key (realL (f37E K) 2) L x).trans (by rw [h12] <;> rfl)
theorem f37_run (K : Nat) (a0 : Int × Int × Int) (a1 : List ((Int × Int × Int × Int) × Int × Int)) (a2 : List ((Int × Int) × Int)) : runF (f37E K) Try.f37 [(.ro, (.cons (.int .i64) (.cons (.int .i64) (.int .i64)))), (.ro, (.list 63 (.cons (.cons (.int .i64) (.cons (.int .i64) (.cons (.int .i64) (.int .i64)))) (.cons (.int .i64) (.int .i64))))), (.ro, (.list 45 (.cons (.cons (.int .i64) (.int .i64)) (.int .i64))))] [(.int .i64), (.int .i64), .bool] (a0, a1, a2, ()) = f37G K a0 a1 a2 := by
  have key : ∀ (lr : LR (Int × Int × Bool)), runG (f37E K) Try.f37 [(.ro, (.cons (.int .i64) (.cons (.int .i64) (.int .i64)))), (.ro, (.list 63 (.cons (.cons (.int .i64) (.cons (.int .i64) (.cons (.int .i64) (.int .i64)))) (.cons (.int .i64) (.int .i64))))), (.ro, (.list 45 (.cons (.cons (.int .i64) (.int .i64)) (.int .i64))))] [(.int .i64), (.int .i64), .bool] (a0, a1, a2, ()) lr = f37_g K a0 a1 a2 (fun c0 d0 => lr (selC f37C [1, 1, 1, 0, 1, 0, 0]) (f37_fr10 a0 a1 a2 c0 d0) (f37_k10 K a0 a1 a2 lr)) := by intro lr; kernel_rfl
  have h10 : (fun c0 d0 => (realL (f37E K) 2) (selC f37C [1, 1, 1, 0, 1, 0, 0]) (f37_fr10 a0 a1 a2 c0 d0) (f37_k10 K a0 a1 a2 (realL (f37E K) 2))) = fun c0 d0 => f37_l10 K a0 a1 a2 c0 K d0 := by
    funext c0 d0
    exact f37_t10 K a0 a1 a2 c0 d0 K d0
  exact runF_G (n0 := 2) (by rfl) ((key (realL (f37E K) 2)).trans (by rw [h10] <;> rfl))
theorem f36_run (K : Nat) (a0 : Int × Int × Int) (a1 : List ((Int × Int × Int × Int) × Int × Int)) (a2 : List ((Int × Int) × Int)) : runF (f36E K) Try.f36 [(.ro, (.cons (.int .i64) (.cons (.int .i64) (.int .i64)))), (.cap, (.list 63 (.cons (.cons (.int .i64) (.cons (.int .i64) (.cons (.int .i64) (.int .i64)))) (.cons (.int .i64) (.int .i64))))), (.cap, (.list 45 (.cons (.cons (.int .i64) (.int .i64)) (.int .i64))))] [.bool] (a0, a1, a2, ()) = f36G K a0 a1 a2 := by kernel_rfl
theorem f42_t3 (K : Nat) (a0 : List (Int × Int × Int)) (a1 : ((Int × Int × Int) → Option Bool)) (bq4 : Int) : ∀ (n : Nat) (q4 : Int), loopN (exec (f42E K) 1 (selC f42C [1, 0, 1, 0, 0])) 1 (f42_fr3 a0 a1 bq4) n (f42_fr3 a0 a1 q4) (f42_k3 K a0 a1 (realL (f42E K) 1)) = f42_l3 K a0 a1 n q4 := by
  have key : ∀ (lr : LR Int) (L : Fr → Option Int) (q4 : Int), execG (f42E K) 1 lr (selC f42C [1, 0, 1, 0, 0]) (f42_fr3 a0 a1 q4) (loopK 1 (f42_fr3 a0 a1 bq4) L (f42_k3 K a0 a1 lr)) = f42_b3 K a0 a1 (fun v0 => L (f42_fr3 a0 a1 v0)) q4 := by
    intro lr L q4; kernel_rfl
  intro n q4
  refine loopN_iter (X := Int) (frame := fun x => (f42_fr3 a0 a1 x)) (body := (fun L x => (fun L3 => f42_b3 K a0 a1 L3 x) (fun v0 => L v0))) (fun L x => ?_) n q4
  rw [exec_G]
  exact (key (realL (f42E K) 1) L x).trans (by rfl)
theorem f42_run (K : Nat) (a0 : List (Int × Int × Int)) (a1 : ((Int × Int × Int) → Option Bool)) : runF (f42E K) Try.f42 [(.ro, (.list 25 (.cons (.int .i64) (.cons (.int .i64) (.int .i64))))), (.ro, (.fn1 (.cons (.int .i64) (.cons (.int .i64) (.int .i64))) .bool))] [(.int .i64)] (a0, a1, ()) = f42G K a0 a1 := by
  have key : ∀ (lr : LR Int), runG (f42E K) Try.f42 [(.ro, (.list 25 (.cons (.int .i64) (.cons (.int .i64) (.int .i64))))), (.ro, (.fn1 (.cons (.int .i64) (.cons (.int .i64) (.int .i64))) .bool))] [(.int .i64)] (a0, a1, ()) lr = f42_g K a0 a1 (fun d0 => lr (selC f42C [1, 0, 1, 0, 0]) (f42_fr3 a0 a1 d0) (f42_k3 K a0 a1 lr)) := by intro lr; kernel_rfl
  have h3 : (fun d0 => (realL (f42E K) 1) (selC f42C [1, 0, 1, 0, 0]) (f42_fr3 a0 a1 d0) (f42_k3 K a0 a1 (realL (f42E K) 1))) = fun d0 => f42_l3 K a0 a1 K d0 := by
    funext d0
    exact f42_t3 K a0 a1 d0 K d0
  exact runF_G (n0 := 1) (by rfl) ((key (realL (f42E K) 1)).trans (by rw [h3] <;> rfl))
theorem f34_t4 (K : Nat) (a0 : List (Int × Int × Int)) (a1 : ((Int × Int × Int) → Option Bool)) (y1 : Int) (bq5 : Int) (bq6 : Int) (bq7 : List (Int × Int × Int)) : ∀ (n : Nat) (q5 : Int) (q6 : Int) (q7 : List (Int × Int × Int)), loopN (exec (f34E K) 1 (selC f34C [1, 1, 1, 0, 1, 0, 0])) 1 (f34_fr4 a1 y1 bq5 bq6 bq7) n (f34_fr4 a1 y1 q5 q6 q7) (f34_k4 K a0 a1 (realL (f34E K) 1)) = f34_l4 K a1 y1 n q5 q6 q7 := by
  have key : ∀ (lr : LR (List (Int × Int × Int))) (L : Fr → Option (List (Int × Int × Int))) (q5 : Int) (q6 : Int) (q7 : List (Int × Int × Int)), execG (f34E K) 1 lr (selC f34C [1, 1, 1, 0, 1, 0, 0]) (f34_fr4 a1 y1 q5 q6 q7) (loopK 1 (f34_fr4 a1 y1 bq5 bq6 bq7) L (f34_k4 K a0 a1 lr)) = f34_b4 K a1 y1 (fun v0 v1 v2 => L (f34_fr4 a1 y1 v0 v1 v2)) q5 q6 q7 := by
    intro lr L q5 q6 q7; kernel_rfl
  intro n q5 q6 q7
  refine loopN_iter (X := Int × Int × List (Int × Int × Int)) (frame := fun x => (f34_fr4 a1 y1 x.1 x.2.1 x.2.2)) (body := (fun L x => (fun L4 => f34_b4 K a1 y1 L4 x.1 x.2.1 x.2.2) (fun v0 v1 v2 => L (v0, v1, v2)))) (fun L x => ?_) n (q5, q6, q7)
  rw [exec_G]
  exact (key (realL (f34E K) 1) L x.1 x.2.1 x.2.2).trans (by rfl)
theorem f34_run (K : Nat) (a0 : List (Int × Int × Int)) (a1 : ((Int × Int × Int) → Option Bool)) : runF (f34E K) Try.f34 [(.mv, (.list 25 (.cons (.int .i64) (.cons (.int .i64) (.int .i64))))), (.ro, (.fn1 (.cons (.int .i64) (.cons (.int .i64) (.int .i64))) .bool))] [(.list 25 (.cons (.int .i64) (.cons (.int .i64) (.int .i64))))] (a0, a1, ()) = f34G K a0 a1 := by
  have key : ∀ (lr : LR (List (Int × Int × Int))), runG (f34E K) Try.f34 [(.mv, (.list 25 (.cons (.int .i64) (.cons (.int .i64) (.int .i64))))), (.ro, (.fn1 (.cons (.int .i64) (.cons (.int .i64) (.int .i64))) .bool))] [(.list 25 (.cons (.int .i64) (.cons (.int .i64) (.int .i64))))] (a0, a1, ()) lr = f34_g K a0 a1 (fun c0 d0 d1 d2 => lr (selC f34C [1, 1, 1, 0, 1, 0, 0]) (f34_fr4 a1 c0 d0 d1 d2) (f34_k4 K a0 a1 lr)) := by intro lr; kernel_rfl
  have h4 : (fun c0 d0 d1 d2 => (realL (f34E K) 1) (selC f34C [1, 1, 1, 0, 1, 0, 0]) (f34_fr4 a1 c0 d0 d1 d2) (f34_k4 K a0 a1 (realL (f34E K) 1))) = fun c0 d0 d1 d2 => f34_l4 K a1 c0 K d0 d1 d2 := by
    funext c0 d0 d1 d2
    exact f34_t4 K a0 a1 c0 d0 d1 d2 K d0 d1 d2
  exact runF_G (n0 := 1) (by rfl) ((key (realL (f34E K) 1)).trans (by rw [h4] <;> rfl))
theorem f21_run (K : Nat) (a0 : List ((Int × Int) × Int)) (a1 : Int) : runF (f21E K) Try.f21 [(.ro, (.list 45 (.cons (.cons (.int .i64) (.int .i64)) (.int .i64)))), (.ro, (.int .i64))] [(.list 25 (.cons (.int .i64) (.cons (.int .i64) (.int .i64))))] (a0, a1, ()) = f21G K a0 a1 := by kernel_rfl
theorem f8_t4 (K : Nat) (a0 : List ((Int × Int) × Int)) (y1 : Bool) (bq5 : Int) : ∀ (n : Nat) (q5 : Int), loopN (exec (f8E K) 1 (selC f8C [1, 1, 0, 1, 0, 0])) 1 (f8_fr4 a0 y1 bq5) n (f8_fr4 a0 y1 q5) (f8_k4 K a0 (realL (f8E K) 1)) = f8_l4 K a0 y1 n q5 := by
  have key : ∀ (lr : LR ((Int × Int × Int) × Int)) (L : Fr → Option ((Int × Int × Int) × Int)) (q5 : Int), execG (f8E K) 1 lr (selC f8C [1, 1, 0, 1, 0, 0]) (f8_fr4 a0 y1 q5) (loopK 1 (f8_fr4 a0 y1 bq5) L (f8_k4 K a0 lr)) = f8_b4 K a0 y1 (fun v0 => L (f8_fr4 a0 y1 v0)) q5 := by
    intro lr L q5; kernel_rfl
  intro n q5
  refine loopN_iter (X := Int) (frame := fun x => (f8_fr4 a0 y1 x)) (body := (fun L x => (fun L4 => f8_b4 K a0 y1 L4 x) (fun v0 => L v0))) (fun L x => ?_) n q5
  rw [exec_G]
  exact (key (realL (f8E K) 1) L x).trans (by rfl)
theorem f8_run (K : Nat) (a0 : List ((Int × Int) × Int)) : runF (f8E K) Try.f8 [(.ro, (.list 45 (.cons (.cons (.int .i64) (.int .i64)) (.int .i64))))] [(.cons (.int .i64) (.cons (.int .i64) (.int .i64))), (.int .i64)] (a0, ()) = f8G K a0 := by
  have key : ∀ (lr : LR ((Int × Int × Int) × Int)), runG (f8E K) Try.f8 [(.ro, (.list 45 (.cons (.cons (.int .i64) (.int .i64)) (.int .i64))))] [(.cons (.int .i64) (.cons (.int .i64) (.int .i64))), (.int .i64)] (a0, ()) lr = f8_g K a0 (fun c0 d0 => lr (selC f8C [1, 1, 0, 1, 0, 0]) (f8_fr4 a0 c0 d0) (f8_k4 K a0 lr)) := by intro lr; kernel_rfl
  have h4 : (fun c0 d0 => (realL (f8E K) 1) (selC f8C [1, 1, 0, 1, 0, 0]) (f8_fr4 a0 c0 d0) (f8_k4 K a0 (realL (f8E K) 1))) = fun c0 d0 => f8_l4 K a0 c0 K d0 := by
    funext c0 d0
    exact f8_t4 K a0 c0 d0 K d0
  exact runF_G (n0 := 1) (by rfl) ((key (realL (f8E K) 1)).trans (by rw [h4] <;> rfl))
theorem f9_run (K : Nat) (a0 : Int × Int × Int) (a1 : Int × Int × Int) : runF (f9E K) Try.f9 [(.ro, (.cons (.int .i64) (.cons (.int .i64) (.int .i64)))), (.ro, (.cons (.int .i64) (.cons (.int .i64) (.int .i64))))] [.bool] (a0, a1, ()) = f9G K a0 a1 := by kernel_rfl
theorem f38_run (K : Nat) (a0 : Int × Int) (a1 : Int × Int) : runF (f38E K) Try.f38 [(.ro, (.cons (.int .i64) (.int .i64))), (.ro, (.cons (.int .i64) (.int .i64)))] [.bool] (a0, a1, ()) = f38G K a0 a1 := by kernel_rfl
theorem f22_run (K : Nat) (a0 : (Int × Int) × Int) (a1 : (Int × Int) × Int) : runF (f22E K) Try.f22 [(.ro, (.cons (.cons (.int .i64) (.int .i64)) (.int .i64))), (.ro, (.cons (.cons (.int .i64) (.int .i64)) (.int .i64)))] [.bool] (a0, a1, ()) = f22G K a0 a1 := by kernel_rfl
theorem f10_t3 (K : Nat) (a0 : List ((Int × Int) × Int)) (a1 : List ((Int × Int) × Int)) (bq4 : Int) : ∀ (n : Nat) (q4 : Int), loopN (exec (f10E K) 2 (selC f10C [1, 1, 0, 1, 0, 0])) 2 (f10_fr3 a0 a1 bq4) n (f10_fr3 a0 a1 q4) (f10_k3 K a0 a1 (realL (f10E K) 2)) = f10_l3 K a0 a1 n q4 := by
  have key : ∀ (lr : LR Bool) (L : Fr → Option Bool) (q4 : Int), execG (f10E K) 2 lr (selC f10C [1, 1, 0, 1, 0, 0]) (f10_fr3 a0 a1 q4) (loopK 2 (f10_fr3 a0 a1 bq4) L (f10_k3 K a0 a1 lr)) = f10_b3 K a0 a1 (fun v0 => L (f10_fr3 a0 a1 v0)) q4 := by
    intro lr L q4; kernel_rfl
  intro n q4
  refine loopN_iter (X := Int) (frame := fun x => (f10_fr3 a0 a1 x)) (body := (fun L x => (fun L3 => f10_b3 K a0 a1 L3 x) (fun v0 => L v0))) (fun L x => ?_) n q4
  rw [exec_G]
  exact (key (realL (f10E K) 2) L x).trans (by rfl)
theorem f10_run (K : Nat) (a0 : List ((Int × Int) × Int)) (a1 : List ((Int × Int) × Int)) : runF (f10E K) Try.f10 [(.ro, (.list 45 (.cons (.cons (.int .i64) (.int .i64)) (.int .i64)))), (.ro, (.list 45 (.cons (.cons (.int .i64) (.int .i64)) (.int .i64))))] [.bool] (a0, a1, ()) = f10G K a0 a1 := by
  have key : ∀ (lr : LR Bool), runG (f10E K) Try.f10 [(.ro, (.list 45 (.cons (.cons (.int .i64) (.int .i64)) (.int .i64)))), (.ro, (.list 45 (.cons (.cons (.int .i64) (.int .i64)) (.int .i64))))] [.bool] (a0, a1, ()) lr = f10_g K a0 a1 (fun d0 => lr (selC f10C [1, 1, 0, 1, 0, 0]) (f10_fr3 a0 a1 d0) (f10_k3 K a0 a1 lr)) := by intro lr; kernel_rfl
  have h3 : (fun d0 => (realL (f10E K) 2) (selC f10C [1, 1, 0, 1, 0, 0]) (f10_fr3 a0 a1 d0) (f10_k3 K a0 a1 (realL (f10E K) 2))) = fun d0 => f10_l3 K a0 a1 K d0 := by
    funext d0
    exact f10_t3 K a0 a1 d0 K d0
  exact runF_G (n0 := 2) (by rfl) ((key (realL (f10E K) 2)).trans (by rw [h3] <;> rfl))
theorem f3_run (K : Nat) (a0 : List ((Int × Int) × Int)) : runF (f3E K) Try.f3 [(.ro, (.list 49 (.cons (.cons (.int .i64) (.int .i64)) (.int .i64))))] [.bool] (a0, ()) = f3G K a0 := by kernel_rfl
theorem f11_run (K : Nat) (a0 : List ((Int × Int) × Int)) (a1 : Int) : runF (f11E K) Try.f11 [(.ro, (.list 45 (.cons (.cons (.int .i64) (.int .i64)) (.int .i64)))), (.ro, (.int .i64))] [(.list 25 (.cons (.int .i64) (.cons (.int .i64) (.int .i64)))), (.int .i64)] (a0, a1, ()) = f11G K a0 a1 := by kernel_rfl
theorem f12_run (K : Nat) (a0 : List ((Int × Int) × Int)) (a1 : Int) : runF (f12E K) Try.f12 [(.ro, (.list 45 (.cons (.cons (.int .i64) (.int .i64)) (.int .i64)))), (.ro, (.int .i64))] [(.list 25 (.cons (.int .i64) (.cons (.int .i64) (.int .i64)))), (.int .i64)] (a0, a1, ()) = f12G K a0 a1 := by kernel_rfl
theorem f13_t3 (K : Nat) (a0 : List (Int × Int × Int)) (a1 : List (Int × Int × Int)) (bq4 : Int) : ∀ (n : Nat) (q4 : Int), loopN (exec (f13E K) 2 (selC f13C [1, 1, 0, 1, 0, 0])) 2 (f13_fr3 a0 a1 bq4) n (f13_fr3 a0 a1 q4) (f13_k3 K a0 a1 (realL (f13E K) 2)) = f13_l3 K a0 a1 n q4 := by
  have key : ∀ (lr : LR Bool) (L : Fr → Option Bool) (q4 : Int), execG (f13E K) 2 lr (selC f13C [1, 1, 0, 1, 0, 0]) (f13_fr3 a0 a1 q4) (loopK 2 (f13_fr3 a0 a1 bq4) L (f13_k3 K a0 a1 lr)) = f13_b3 K a0 a1 (fun v0 => L (f13_fr3 a0 a1 v0)) q4 := by
    intro lr L q4; kernel_rfl
  intro n q4
  refine loopN_iter (X := Int) (frame := fun x => (f13_fr3 a0 a1 x)) (body := (fun L x => (fun L3 => f13_b3 K a0 a1 L3 x) (fun v0 => L v0))) (fun L x => ?_) n q4
  rw [exec_G]
  exact (key (realL (f13E K) 2) L x).trans (by rfl)
theorem f13_run (K : Nat) (a0 : List (Int × Int × Int)) (a1 : List (Int × Int × Int)) : runF (f13E K) Try.f13 [(.ro, (.list 25 (.cons (.int .i64) (.cons (.int .i64) (.int .i64))))), (.ro, (.list 25 (.cons (.int .i64) (.cons (.int .i64) (.int .i64)))))] [.bool] (a0, a1, ()) = f13G K a0 a1 := by
  have key : ∀ (lr : LR Bool), runG (f13E K) Try.f13 [(.ro, (.list 25 (.cons (.int .i64) (.cons (.int .i64) (.int .i64))))), (.ro, (.list 25 (.cons (.int .i64) (.cons (.int .i64) (.int .i64)))))] [.bool] (a0, a1, ()) lr = f13_g K a0 a1 (fun d0 => lr (selC f13C [1, 1, 0, 1, 0, 0]) (f13_fr3 a0 a1 d0) (f13_k3 K a0 a1 lr)) := by intro lr; kernel_rfl
  have h3 : (fun d0 => (realL (f13E K) 2) (selC f13C [1, 1, 0, 1, 0, 0]) (f13_fr3 a0 a1 d0) (f13_k3 K a0 a1 (realL (f13E K) 2))) = fun d0 => f13_l3 K a0 a1 K d0 := by
    funext d0
    exact f13_t3 K a0 a1 d0 K d0
  exact runF_G (n0 := 2) (by rfl) ((key (realL (f13E K) 2)).trans (by rw [h3] <;> rfl))
end Go.Proofs.Ytmnciknpeefkfaa.X
