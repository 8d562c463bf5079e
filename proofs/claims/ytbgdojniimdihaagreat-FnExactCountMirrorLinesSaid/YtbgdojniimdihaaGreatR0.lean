/- Functions of the program as plain Lean functions, and that the program does what they say. Printed by gen.py. -/
import Derived.Test.YtbgdojniimdihaaGreatD0
namespace Go.Proofs.YtbgdojniimdihaaGreat.X
open Go
set_option maxRecDepth 100000
set_option linter.unusedVariables false
theorem f52_run (K : Nat) (a0 : List Int) (a1 : Int) : runF (f52E K) Tryz.f52 [(.ro, (.list 2 (.int .i64))), (.ro, (.int .i64))] [(.int .i64)] (a0, a1, ()) = f52G K a0 a1 := by kernel_rfl
theorem f27_run (K : Nat) (a0 : Int × (Int × Int × Int) × List Int) (a1 : Int) : runF (f27E K) Tryz.f27 [(.ro, (.cons (.int .i64) (.cons (.cons (.int .i64) (.cons (.int .i64) (.int .i64))) (.list 2 (.int .i64))))), (.ro, (.int .i64))] [(.int .i64)] (a0, a1, ()) = f27G K a0 a1 := by kernel_rfl
theorem f11_run (K : Nat) (a0 : Int × Int × Int) : runF (f11E K) Tryz.f11 [(.ro, (.cons (.int .i64) (.cons (.int .i64) (.int .i64))))] [(.cons (.int .i64) (.cons (.int .i64) (.int .i64)))] (a0, ()) = f11G K a0 := by kernel_rfl
theorem f56_t2 (K : Nat) (a0 : List Int) (bq3 : Int) (bq4 : List Int) : ∀ (n : Nat) (q3 : Int) (q4 : List Int), loopN (exec (f56E K) 1 (selC f56C [1, 1, 0, 1, 0, 0])) 1 (f56_fr2 a0 bq3 bq4) n (f56_fr2 a0 q3 q4) (f56_k2 K a0 (realL (f56E K) 1)) = f56_l2 K a0 n q3 q4 := by
  have key : ∀ (lr : LR (List Int)) (L : Fr → Option (List Int)) (q3 : Int) (q4 : List Int), execG (f56E K) 1 lr (selC f56C [1, 1, 0, 1, 0, 0]) (f56_fr2 a0 q3 q4) (loopK 1 (f56_fr2 a0 bq3 bq4) L (f56_k2 K a0 lr)) = f56_b2 K a0 (fun v0 v1 => L (f56_fr2 a0 v0 v1)) q3 q4 := by
    intro lr L q3 q4; kernel_rfl
  intro n q3 q4
  refine loopN_iter (X := Int × List Int) (frame := fun x => (f56_fr2 a0 x.1 x.2)) (body := (fun L x => (fun L2 => f56_b2 K a0 L2 x.1 x.2) (fun v0 v1 => L (v0, v1)))) (fun L x => ?_) n (q3, q4)
  rw [exec_G]
  exact (key (realL (f56E K) 1) L x.1 x.2).trans (by rfl)
theorem f56_run (K : Nat) (a0 : List Int) : runF (f56E K) Tryz.f56 [(.ro, (.list 2 (.int .i64)))] [(.list 2 (.int .i64))] (a0, ()) = f56G K a0 := by
  have key : ∀ (lr : LR (List Int)), runG (f56E K) Tryz.f56 [(.ro, (.list 2 (.int .i64)))] [(.list 2 (.int .i64))] (a0, ()) lr = f56_g K a0 (fun d0 d1 => lr (selC f56C [1, 1, 0, 1, 0, 0]) (f56_fr2 a0 d0 d1) (f56_k2 K a0 lr)) := by intro lr; kernel_rfl
  have h2 : (fun d0 d1 => (realL (f56E K) 1) (selC f56C [1, 1, 0, 1, 0, 0]) (f56_fr2 a0 d0 d1) (f56_k2 K a0 (realL (f56E K) 1))) = fun d0 d1 => f56_l2 K a0 K d0 d1 := by
    funext d0 d1
    exact f56_t2 K a0 d0 d1 K d0 d1
  exact runF_G (n0 := 1) (by rfl) ((key (realL (f56E K) 1)).trans (by rw [h2] <;> rfl))
theorem f29_run (K : Nat) (a0 : Int × (Int × Int × Int) × List Int) : runF (f29E K) Tryz.f29 [(.ro, (.cons (.int .i64) (.cons (.cons (.int .i64) (.cons (.int .i64) (.int .i64))) (.list 2 (.int .i64)))))] [(.cons (.int .i64) (.cons (.cons (.int .i64) (.cons (.int .i64) (.int .i64))) (.list 2 (.int .i64))))] (a0, ()) = f29G K a0 := by kernel_rfl
theorem f96_run (K : Nat) (a0 : Int) : runF (f96E K) Tryz.f96 [(.ro, (.int .i64))] [.bool] (a0, ()) = f96G K a0 := by kernel_rfl
theorem f69_run (K : Nat) (a0 : Int) (a1 : Int) (a2 : Int) : runF (f69E K) Tryz.f69 [(.ro, (.int .i64)), (.ro, (.int .i64)), (.ro, (.int .i64))] [.bool] (a0, a1, a2, ()) = f69G K a0 a1 a2 := by kernel_rfl
theorem f97_run (K : Nat) (a0 : Int × Int × Int) : runF (f97E K) Tryz.f97 [(.ro, (.cons (.int .i64) (.cons (.int .i64) (.int .i64))))] [.bool] (a0, ()) = f97G K a0 := by kernel_rfl
theorem f66_run (K : Nat) (a0 : Int) (a1 : Int × Int × Int) : runF (f66E K) Tryz.f66 [(.ro, (.int .i64)), (.ro, (.cons (.int .i64) (.cons (.int .i64) (.int .i64))))] [(.int .i64)] (a0, a1, ()) = f66G K a0 a1 := by kernel_rfl
theorem f80_t3 (K : Nat) (a0 : List Int) (a1 : Int) (a2 : Int) (a3 : Int) (bq4 : Int) : ∀ (n : Nat) (q4 : Int), loopN (exec (f80E K) 1 (selC f80C [1, 0, 1, 0, 0])) 1 (f80_fr3 a0 a1 a2 a3 bq4) n (f80_fr3 a0 a1 a2 a3 q4) (f80_k3 K a0 a1 a2 a3 (realL (f80E K) 1)) = f80_l3 K a0 a1 a2 a3 n q4 := by
  have key : ∀ (lr : LR Bool) (L : Fr → Option Bool) (q4 : Int), execG (f80E K) 1 lr (selC f80C [1, 0, 1, 0, 0]) (f80_fr3 a0 a1 a2 a3 q4) (loopK 1 (f80_fr3 a0 a1 a2 a3 bq4) L (f80_k3 K a0 a1 a2 a3 lr)) = f80_b3 K a0 a1 a2 a3 (fun v0 => L (f80_fr3 a0 a1 a2 a3 v0)) q4 := by
    intro lr L q4; kernel_rfl
  intro n q4
  refine loopN_iter (X := Int) (frame := fun x => (f80_fr3 a0 a1 a2 a3 x)) (body := (fun L x => (fun L3 => f80_b3 K a0 a1 a2 a3 L3 x) (fun v0 => L v0))) (fun L x => ?_) n q4
  rw [exec_G]
  exact (key (realL (f80E K) 1) L x).trans (by rfl)
theorem f80_run (K : Nat) (a0 : List Int) (a1 : Int) (a2 : Int) (a3 : Int) : runF (f80E K) Tryz.f80 [(.ro, (.list 2 (.int .i64))), (.ro, (.int .i64)), (.ro, (.int .i64)), (.ro, (.int .i64))] [.bool] (a0, a1, a2, a3, ()) = f80G K a0 a1 a2 a3 := by
  have key : ∀ (lr : LR Bool), runG (f80E K) Tryz.f80 [(.ro, (.list 2 (.int .i64))), (.ro, (.int .i64)), (.ro, (.int .i64)), (.ro, (.int .i64))] [.bool] (a0, a1, a2, a3, ()) lr = f80_g K a0 a1 a2 a3 (fun d0 => lr (selC f80C [1, 0, 1, 0, 0]) (f80_fr3 a0 a1 a2 a3 d0) (f80_k3 K a0 a1 a2 a3 lr)) := by intro lr; kernel_rfl
  have h3 : (fun d0 => (realL (f80E K) 1) (selC f80C [1, 0, 1, 0, 0]) (f80_fr3 a0 a1 a2 a3 d0) (f80_k3 K a0 a1 a2 a3 (realL (f80E K) 1))) = fun d0 => f80_l3 K a0 a1 a2 a3 K d0 := by
    funext d0
    exact f80_t3 K a0 a1 a2 a3 d0 K d0
  exact runF_G (n0 := 1) (by rfl) ((key (realL (f80E K) 1)).trans (by rw [h3] <;> rfl))
theorem f53_run (K : Nat) (a0 : Int × (Int × Int × Int) × List Int) : runF (f53E K) Tryz.f53 [(.ro, (.cons (.int .i64) (.cons (.cons (.int .i64) (.cons (.int .i64) (.int .i64))) (.list 2 (.int .i64)))))] [.bool] (a0, ()) = f53G K a0 := by kernel_rfl
theorem f111_t9 (K : Nat) (a0 : Int × Int × Int) (q7 : Int) (F6 : Fr → Option (List (Int × Int))) (bq7 : Int) (bq8 : List (Int × Int)) (bq10 : Int) (bq11 : List (Int × Int)) : ∀ (n : Nat) (q10 : Int) (q11 : List (Int × Int)), loopN (exec (f111E K) 0 (selC f111C [1, 1, 0, 1, 0, 0, 1, 0, 0, 1, 0, 0])) 0 (f111_fr9 a0 q7 bq10 bq11) n (f111_fr9 a0 q7 q10 q11) (f111_k9 K a0 F6 bq7 bq8 (realL (f111E K) 0)) = f111_l9 K a0 q7 (fun v0 v1 => F6 (f111_fr6 a0 v0 v1)) n q10 q11 := by
  have key : ∀ (lr : LR (List (Int × Int))) (L : Fr → Option (List (Int × Int))) (q10 : Int) (q11 : List (Int × Int)), execG (f111E K) 0 lr (selC f111C [1, 1, 0, 1, 0, 0, 1, 0, 0, 1, 0, 0]) (f111_fr9 a0 q7 q10 q11) (loopK 0 (f111_fr9 a0 q7 bq10 bq11) L (f111_k9 K a0 F6 bq7 bq8 lr)) = f111_b9 K a0 q7 (fun v0 v1 => F6 (f111_fr6 a0 v0 v1)) (fun v0 v1 => L (f111_fr9 a0 q7 v0 v1)) q10 q11 := by
    intro lr L q10 q11; kernel_rfl
  intro n q10 q11
  refine loopN_iter (X := Int × List (Int × Int)) (frame := fun x => (f111_fr9 a0 q7 x.1 x.2)) (body := (fun L x => (fun L9 => f111_b9 K a0 q7 (fun v0 v1 => F6 (f111_fr6 a0 v0 v1)) L9 x.1 x.2) (fun v0 v1 => L (v0, v1)))) (fun L x => ?_) n (q10, q11)
  rw [exec_G]
  exact (key (realL (f111E K) 0) L x.1 x.2).trans (by rfl)
theorem f111_t6 (K : Nat) (a0 : Int × Int × Int) (bq7 : Int) (bq8 : List (Int × Int)) : ∀ (n : Nat) (q7 : Int) (q8 : List (Int × Int)), loopN (exec (f111E K) 0 (selC f111C [1, 1, 0, 1, 0, 0])) 0 (f111_fr6 a0 bq7 bq8) n (f111_fr6 a0 q7 q8) (f111_k6 K a0 (realL (f111E K) 0)) = f111_l6 K a0 n q7 q8 := by
  have key : ∀ (lr : LR (List (Int × Int))) (L : Fr → Option (List (Int × Int))) (q7 : Int) (q8 : List (Int × Int)), execG (f111E K) 0 lr (selC f111C [1, 1, 0, 1, 0, 0]) (f111_fr6 a0 q7 q8) (loopK 0 (f111_fr6 a0 bq7 bq8) L (f111_k6 K a0 lr)) = f111_b6 K a0 (fun c0 d0 d1 => lr (selC f111C [1, 1, 0, 1, 0, 0, 1, 0, 0, 1, 0, 0]) (f111_fr9 a0 c0 d0 d1) (f111_k9 K a0 L bq7 bq8 lr)) (fun v0 v1 => L (f111_fr6 a0 v0 v1)) q7 q8 := by
    intro lr L q7 q8; kernel_rfl
  intro n q7 q8
  refine loopN_iter (X := Int × List (Int × Int)) (frame := fun x => (f111_fr6 a0 x.1 x.2)) (body := (fun L x => (fun L6 => f111_b6 K a0 (fun c0 d0 d1 => f111_l9 K a0 c0 L6 K d0 d1) L6 x.1 x.2) (fun v0 v1 => L (v0, v1)))) (fun L x => ?_) n (q7, q8)
  rw [exec_G]
  have h9 : (fun c0 d0 d1 => (realL (f111E K) 0) (selC f111C [1, 1, 0, 1, 0, 0, 1, 0, 0, 1, 0, 0]) (f111_fr9 a0 c0 d0 d1) (f111_k9 K a0 L bq7 bq8 (realL (f111E K) 0))) = fun c0 d0 d1 => f111_l9 K a0 c0 (fun v0 v1 => L (f111_fr6 a0 v0 v1)) K d0 d1 := by
    funext c0 d0 d1
    exact f111_t9 K a0 c0 L bq7 bq8 d0 d1 K d0 d1
  exact (key (realL (f111E K) 0) L x.1 x.2).trans (by rw [h9] <;> rfl)
theorem f111_run (K : Nat) (a0 : Int × Int × Int) : runF (f111E K) Tryz.f111 [(.ro, (.cons (.int .i64) (.cons (.int .i64) (.int .i64))))] [(.list 32 (.cons (.int .i64) (.int .i64)))] (a0, ()) = f111G K a0 := by
  have key : ∀ (lr : LR (List (Int × Int))), runG (f111E K) Tryz.f111 [(.ro, (.cons (.int .i64) (.cons (.int .i64) (.int .i64))))] [(.list 32 (.cons (.int .i64) (.int .i64)))] (a0, ()) lr = f111_g K a0 (fun d0 d1 => lr (selC f111C [1, 1, 0, 1, 0, 0]) (f111_fr6 a0 d0 d1) (f111_k6 K a0 lr)) := by intro lr; kernel_rfl
  have h6 : (fun d0 d1 => (realL (f111E K) 0) (selC f111C [1, 1, 0, 1, 0, 0]) (f111_fr6 a0 d0 d1) (f111_k6 K a0 (realL (f111E K) 0))) = fun d0 d1 => f111_l6 K a0 K d0 d1 := by
    funext d0 d1
    exact f111_t6 K a0 d0 d1 K d0 d1
  exact runF_G (n0 := 0) (by rfl) ((key (realL (f111E K) 0)).trans (by rw [h6] <;> rfl))
theorem f119_run (K : Nat) (a0 : Int × Int × Int) : runF (f119E K) Tryz.f119 [(.ro, (.cons (.int .i64) (.cons (.int .i64) (.int .i64))))] [(.list 32 (.cons (.int .i64) (.int .i64)))] (a0, ()) = f119G K a0 := by kernel_rfl
theorem f120_run (K : Nat) : runF (f120E K) Tryz.f120 [] [(.cons (.int .i64) (.cons (.int .i64) (.cons (.int .i64) (.int .i64))))] (()) = f120G K := by kernel_rfl
theorem f104_run (K : Nat) (a0 : Int × Int × Int × Int) (a1 : Int × Int) : runF (f104E K) Tryz.f104 [(.ro, (.cons (.int .i64) (.cons (.int .i64) (.cons (.int .i64) (.int .i64))))), (.ro, (.cons (.int .i64) (.int .i64)))] [(.cons (.int .i64) (.int .i64))] (a0, a1, ()) = f104G K a0 a1 := by kernel_rfl
theorem f103_run (K : Nat) (a0 : Int × Int) (a1 : Int × Int) : runF (f103E K) Tryz.f103 [(.ro, (.cons (.int .i64) (.int .i64))), (.ro, (.cons (.int .i64) (.int .i64)))] [(.cons (.int .i64) (.int .i64))] (a0, a1, ()) = f103G K a0 a1 := by kernel_rfl
theorem f72_run (K : Nat) (a0 : (Int × Int × Int × Int) × Int × Int) (a1 : Int × Int) : runF (f72E K) Tryz.f72 [(.ro, (.cons (.cons (.int .i64) (.cons (.int .i64) (.cons (.int .i64) (.int .i64)))) (.cons (.int .i64) (.int .i64)))), (.ro, (.cons (.int .i64) (.int .i64)))] [(.cons (.int .i64) (.int .i64))] (a0, a1, ()) = f72G K a0 a1 := by kernel_rfl
theorem f102_run (K : Nat) (a0 : Int) (a1 : Int) : runF (f102E K) Tryz.f102 [(.ro, (.int .i64)), (.ro, (.int .i64))] [(.int .i64)] (a0, a1, ()) = f102G K a0 a1 := by kernel_rfl
theorem f71_run (K : Nat) (a0 : Int × Int × Int) (a1 : Int × Int) : runF (f71E K) Tryz.f71 [(.ro, (.cons (.int .i64) (.cons (.int .i64) (.int .i64)))), (.ro, (.cons (.int .i64) (.int .i64)))] [(.cons (.int .i64) (.int .i64))] (a0, a1, ()) = f71G K a0 a1 := by kernel_rfl
theorem f41_run (K : Nat) (a0 : Int × Int × Int) (a1 : Int × Int) : runF (f41E K) Tryz.f41 [(.ro, (.cons (.int .i64) (.cons (.int .i64) (.int .i64)))), (.ro, (.cons (.int .i64) (.int .i64)))] [(.int .i64)] (a0, a1, ()) = f41G K a0 a1 := by kernel_rfl
theorem f118_run (K : Nat) (a0 : Int × (Int × Int × Int) × List Int) (a1 : Int × Int) : runF (f118E K) Tryz.f118 [(.ro, (.cons (.int .i64) (.cons (.cons (.int .i64) (.cons (.int .i64) (.int .i64))) (.list 2 (.int .i64))))), (.ro, (.cons (.int .i64) (.int .i64)))] [(.int .i64)] (a0, a1, ()) = f118G K a0 a1 := by kernel_rfl
theorem f112_t6 (K : Nat) (a0 : Int × (Int × Int × Int) × List Int) (a1 : (Int × Int × Int × Int) × Int × Int) (y1 : List (Int × Int)) (bq7 : Int) : ∀ (n : Nat) (q7 : Int), loopN (exec (f112E K) 1 (selC f112C [1, 1, 0, 1, 0, 0])) 1 (f112_fr6 a0 a1 y1 bq7) n (f112_fr6 a0 a1 y1 q7) (f112_k6 K a0 a1 (realL (f112E K) 1)) = f112_l6 K a0 a1 y1 n q7 := by
  have key : ∀ (lr : LR Bool) (L : Fr → Option Bool) (q7 : Int), execG (f112E K) 1 lr (selC f112C [1, 1, 0, 1, 0, 0]) (f112_fr6 a0 a1 y1 q7) (loopK 1 (f112_fr6 a0 a1 y1 bq7) L (f112_k6 K a0 a1 lr)) = f112_b6 K a0 a1 y1 (fun v0 => L (f112_fr6 a0 a1 y1 v0)) q7 := by
    intro lr L q7; kernel_rfl
  intro n q7
  refine loopN_iter (X := Int) (frame := fun x => (f112_fr6 a0 a1 y1 x)) (body := (fun L x => (fun L6 => f112_b6 K a0 a1 y1 L6 x) (fun v0 => L v0))) (fun L x => ?_) n q7
  rw [exec_G]
  exact (key (realL (f112E K) 1) L x).trans (by rfl)
theorem f112_run (K : Nat) (a0 : Int × (Int × Int × Int) × List Int) (a1 : (Int × Int × Int × Int) × Int × Int) : runF (f112E K) Tryz.f112 [(.ro, (.cons (.int .i64) (.cons (.cons (.int .i64) (.cons (.int .i64) (.int .i64))) (.list 2 (.int .i64))))), (.ro, (.cons (.cons (.int .i64) (.cons (.int .i64) (.cons (.int .i64) (.int .i64)))) (.cons (.int .i64) (.int .i64))))] [.bool] (a0, a1, ()) = f112G K a0 a1 := by
  have key : ∀ (lr : LR Bool), runG (f112E K) Tryz.f112 [(.ro, (.cons (.int .i64) (.cons (.cons (.int .i64) (.cons (.int .i64) (.int .i64))) (.list 2 (.int .i64))))), (.ro, (.cons (.cons (.int .i64) (.cons (.int .i64) (.cons (.int .i64) (.int .i64)))) (.cons (.int .i64) (.int .i64))))] [.bool] (a0, a1, ()) lr = f112_g K a0 a1 (fun c0 d0 => lr (selC f112C [1, 1, 0, 1, 0, 0]) (f112_fr6 a0 a1 c0 d0) (f112_k6 K a0 a1 lr)) := by intro lr; kernel_rfl
  have h6 : (fun c0 d0 => (realL (f112E K) 1) (selC f112C [1, 1, 0, 1, 0, 0]) (f112_fr6 a0 a1 c0 d0) (f112_k6 K a0 a1 (realL (f112E K) 1))) = fun c0 d0 => f112_l6 K a0 a1 c0 K d0 := by
    funext c0 d0
    exact f112_t6 K a0 a1 c0 d0 K d0
  exact runF_G (n0 := 1) (by rfl) ((key (realL (f112E K) 1)).trans (by rw [h6] <;> rfl))
theorem f116_run (K : Nat) (rec : Int → Int → Option Int) (a0 : Int) (a1 : Int) : runF (f116E K rec) Tryz.f116 [(.ro, (.int .i64)), (.ro, (.int .i64))] [(.int .i64)] (a0, a1, ()) = f116_s K rec a0 a1 := by kernel_rfl
theorem f114_run (K : Nat) (a0 : Int × Int) (a1 : Int) : runF (f114E K) Tryz.f114 [(.ro, (.cons (.int .i64) (.int .i64))), (.ro, (.int .i64))] [(.cons (.int .i64) (.int .i64))] (a0, a1, ()) = f114G K a0 a1 := by kernel_rfl
theorem f121_t15 (K : Nat) (a0 : List (Int × Int)) (q11 : Int) (q12 : Int) (F10 : Fr → Option (Int × Int × Int)) (bq11 : Int) (bq12 : Int) (bq13 : Int) (bq14 : Int) (bq16 : Int) (bq17 : Int) (bq18 : Int) (bq19 : Int) : ∀ (n : Nat) (q16 : Int) (q17 : Int) (q18 : Int) (q19 : Int), loopN (exec (f121E K) 1 (selC f121C [1, 1, 0, 1, 0, 0, 1, 0, 0, 1, 0, 0, 0])) 1 (f121_fr15 a0 q11 q12 bq16 bq17 bq18 bq19) n (f121_fr15 a0 q11 q12 q16 q17 q18 q19) (f121_k15 K a0 F10 bq11 bq12 bq13 bq14 (realL (f121E K) 1)) = f121_l15 K a0 q11 q12 (fun v0 v1 v2 v3 => F10 (f121_fr10 a0 v0 v1 v2 v3)) n q16 q17 q18 q19 := by
  have key : ∀ (lr : LR (Int × Int × Int)) (L : Fr → Option (Int × Int × Int)) (q16 : Int) (q17 : Int) (q18 : Int) (q19 : Int), execG (f121E K) 1 lr (selC f121C [1, 1, 0, 1, 0, 0, 1, 0, 0, 1, 0, 0, 0]) (f121_fr15 a0 q11 q12 q16 q17 q18 q19) (loopK 1 (f121_fr15 a0 q11 q12 bq16 bq17 bq18 bq19) L (f121_k15 K a0 F10 bq11 bq12 bq13 bq14 lr)) = f121_b15 K a0 q11 q12 (fun v0 v1 v2 v3 => F10 (f121_fr10 a0 v0 v1 v2 v3)) (fun v0 v1 v2 v3 => L (f121_fr15 a0 q11 q12 v0 v1 v2 v3)) q16 q17 q18 q19 := by
    intro lr L q16 q17 q18 q19; kernel_rfl
  intro n q16 q17 q18 q19
  refine loopN_iter (X := Int × Int × Int × Int) (frame := fun x => (f121_fr15 a0 q11 q12 x.1 x.2.1 x.2.2.1 x.2.2.2)) (body := (fun L x => (fun L15 => f121_b15 K a0 q11 q12 (fun v0 v1 v2 v3 => F10 (f121_fr10 a0 v0 v1 v2 v3)) L15 x.1 x.2.1 x.2.2.1 x.2.2.2) (fun v0 v1 v2 v3 => L (v0, v1, v2, v3)))) (fun L x => ?_) n (q16, q17, q18, q19)
  rw [exec_G]
  exact (key (realL (f121E K) 1) L x.1 x.2.1 x.2.2.1 x.2.2.2).trans (by rfl)
theorem f121_t10 (K : Nat) (a0 : List (Int × Int)) (bq11 : Int) (bq12 : Int) (bq13 : Int) (bq14 : Int) : ∀ (n : Nat) (q11 : Int) (q12 : Int) (q13 : Int) (q14 : Int), loopN (exec (f121E K) 1 (selC f121C [1, 1, 0, 1, 0, 0])) 1 (f121_fr10 a0 bq11 bq12 bq13 bq14) n (f121_fr10 a0 q11 q12 q13 q14) (f121_k10 K a0 (realL (f121E K) 1)) = f121_l10 K a0 n q11 q12 q13 q14 := by
  have key : ∀ (lr : LR (Int × Int × Int)) (L : Fr → Option (Int × Int × Int)) (q11 : Int) (q12 : Int) (q13 : Int) (q14 : Int), execG (f121E K) 1 lr (selC f121C [1, 1, 0, 1, 0, 0]) (f121_fr10 a0 q11 q12 q13 q14) (loopK 1 (f121_fr10 a0 bq11 bq12 bq13 bq14) L (f121_k10 K a0 lr)) = f121_b10 K a0 (fun c0 c1 d0 d1 d2 d3 => lr (selC f121C [1, 1, 0, 1, 0, 0, 1, 0, 0, 1, 0, 0, 0]) (f121_fr15 a0 c0 c1 d0 d1 d2 d3) (f121_k15 K a0 L bq11 bq12 bq13 bq14 lr)) (fun v0 v1 v2 v3 => L (f121_fr10 a0 v0 v1 v2 v3)) q11 q12 q13 q14 := by
    intro lr L q11 q12 q13 q14; kernel_rfl
  intro n q11 q12 q13 q14
  refine loopN_iter (X := Int × Int × Int × Int) (frame := fun x => (f121_fr10 a0 x.1 x.2.1 x.2.2.1 x.2.2.2)) (body := (fun L x => (fun L10 => f121_b10 K a0 (fun c0 c1 d0 d1 d2 d3 => f121_l15 K a0 c0 c1 L10 K d0 d1 d2 d3) L10 x.1 x.2.1 x.2.2.1 x.2.2.2) (fun v0 v1 v2 v3 => L (v0, v1, v2, v3)))) (fun L x => ?_) n (q11, q12, q13, q14)
  rw [exec_G]
  have h15 : (fun c0 c1 d0 d1 d2 d3 => (realL (f121E K) 1) (selC f121C [1, 1, 0, 1, 0, 0, 1, 0, 0, 1, 0, 0, 0]) (f121_fr15 a0 c0 c1 d0 d1 d2 d3) (f121_k15 K a0 L bq11 bq12 bq13 bq14 (realL (f121E K) 1))) = fun c0 c1 d0 d1 d2 d3 => f121_l15 K a0 c0 c1 (fun v0 v1 v2 v3 => L (f121_fr10 a0 v0 v1 v2 v3)) K d0 d1 d2 d3 := by
    funext c0 c1 d0 d1 d2 d3
    exact f121_t15 K a0 c0 c1 L bq11 bq12 bq13 bq14 d0 d1 d2 d3 K d0 d1 d2 d3
  exact (key (realL (f121E K) 1) L x.1 x.2.1 x.2.2.1 x.2.2.2).trans (by rw [h15] <;> rfl)
theorem f121_run (K : Nat) (a0 : List (Int × Int)) : runF (f121E K) Tryz.f121 [(.ro, (.list 32 (.cons (.int .i64) (.int .i64))))] [(.cons (.int .i64) (.cons (.int .i64) (.int .i64)))] (a0, ()) = f121G K a0 := by
  have key : ∀ (lr : LR (Int × Int × Int)), runG (f121E K) Tryz.f121 [(.ro, (.list 32 (.cons (.int .i64) (.int .i64))))] [(.cons (.int .i64) (.cons (.int .i64) (.int .i64)))] (a0, ()) lr = f121_g K a0 (fun d0 d1 d2 d3 => lr (selC f121C [1, 1, 0, 1, 0, 0]) (f121_fr10 a0 d0 d1 d2 d3) (f121_k10 K a0 lr)) := by intro lr; kernel_rfl
  have h10 : (fun d0 d1 d2 d3 => (realL (f121E K) 1) (selC f121C [1, 1, 0, 1, 0, 0]) (f121_fr10 a0 d0 d1 d2 d3) (f121_k10 K a0 (realL (f121E K) 1))) = fun d0 d1 d2 d3 => f121_l10 K a0 K d0 d1 d2 d3 := by
    funext d0 d1 d2 d3
    exact f121_t10 K a0 d0 d1 d2 d3 K d0 d1 d2 d3
  exact runF_G (n0 := 1) (by rfl) ((key (realL (f121E K) 1)).trans (by rw [h10] <;> rfl))
theorem f86_t6 (K : Nat) (a0 : Int × (Int × Int × Int) × List Int) (y1 : List (Int × Int)) (bq7 : Int) (bq8 : List (Int × Int)) : ∀ (n : Nat) (q7 : Int) (q8 : List (Int × Int)), loopN (exec (f86E K) 1 (selC f86C [1, 1, 1, 0, 1, 0, 0])) 1 (f86_fr6 a0 y1 bq7 bq8) n (f86_fr6 a0 y1 q7 q8) (f86_k6 K a0 (realL (f86E K) 1)) = f86_l6 K a0 y1 n q7 q8 := by
  have key : ∀ (lr : LR (Int × Int × Int)) (L : Fr → Option (Int × Int × Int)) (q7 : Int) (q8 : List (Int × Int)), execG (f86E K) 1 lr (selC f86C [1, 1, 1, 0, 1, 0, 0]) (f86_fr6 a0 y1 q7 q8) (loopK 1 (f86_fr6 a0 y1 bq7 bq8) L (f86_k6 K a0 lr)) = f86_b6 K a0 y1 (fun v0 v1 => L (f86_fr6 a0 y1 v0 v1)) q7 q8 := by
    intro lr L q7 q8; kernel_rfl
  intro n q7 q8
  refine loopN_iter (X := Int × List (Int × Int)) (frame := fun x => (f86_fr6 a0 y1 x.1 x.2)) (body := (fun L x => (fun L6 => f86_b6 K a0 y1 L6 x.1 x.2) (fun v0 v1 => L (v0, v1)))) (fun L x => ?_) n (q7, q8)
  rw [exec_G]
  exact (key (realL (f86E K) 1) L x.1 x.2).trans (by rfl)
theorem f86_run (K : Nat) (a0 : Int × (Int × Int × Int) × List Int) : runF (f86E K) Tryz.f86 [(.ro, (.cons (.int .i64) (.cons (.cons (.int .i64) (.cons (.int .i64) (.int .i64))) (.list 2 (.int .i64)))))] [(.cons (.int .i64) (.cons (.int .i64) (.int .i64)))] (a0, ()) = f86G K a0 := by
  have key : ∀ (lr : LR (Int × Int × Int)), runG (f86E K) Tryz.f86 [(.ro, (.cons (.int .i64) (.cons (.cons (.int .i64) (.cons (.int .i64) (.int .i64))) (.list 2 (.int .i64)))))] [(.cons (.int .i64) (.cons (.int .i64) (.int .i64)))] (a0, ()) lr = f86_g K a0 (fun c0 d0 d1 => lr (selC f86C [1, 1, 1, 0, 1, 0, 0]) (f86_fr6 a0 c0 d0 d1) (f86_k6 K a0 lr)) := by intro lr; kernel_rfl
  have h6 : (fun c0 d0 d1 => (realL (f86E K) 1) (selC f86C [1, 1, 1, 0, 1, 0, 0]) (f86_fr6 a0 c0 d0 d1) (f86_k6 K a0 (realL (f86E K) 1))) = fun c0 d0 d1 => f86_l6 K a0 c0 K d0 d1 := by
    funext c0 d0 d1
    exact f86_t6 K a0 c0 d0 d1 K d0 d1
  exact runF_G (n0 := 1) (by rfl) ((key (realL (f86E K) 1)).trans (by rw [h6] <;> rfl))
theorem f85_t4 (K : Nat) (a0 : Int × (Int × Int × Int) × List Int) (a1 : Int × Int × Int) (y1 : List (Int × Int)) (bq5 : Int) (bq6 : List Int) : ∀ (n : Nat) (q5 : Int) (q6 : List Int), loopN (exec (f85E K) 1 (selC f85C [1, 1, 1, 0, 1, 0, 0])) 1 (f85_fr4 a0 a1 y1 bq5 bq6) n (f85_fr4 a0 a1 y1 q5 q6) (f85_k4 K a0 a1 (realL (f85E K) 1)) = f85_l4 K a0 a1 y1 n q5 q6 := by
  have key : ∀ (lr : LR (Int × (Int × Int × Int) × List Int)) (L : Fr → Option (Int × (Int × Int × Int) × List Int)) (q5 : Int) (q6 : List Int), execG (f85E K) 1 lr (selC f85C [1, 1, 1, 0, 1, 0, 0]) (f85_fr4 a0 a1 y1 q5 q6) (loopK 1 (f85_fr4 a0 a1 y1 bq5 bq6) L (f85_k4 K a0 a1 lr)) = f85_b4 K a0 a1 y1 (fun v0 v1 => L (f85_fr4 a0 a1 y1 v0 v1)) q5 q6 := by
    intro lr L q5 q6; kernel_rfl
  intro n q5 q6
  refine loopN_iter (X := Int × List Int) (frame := fun x => (f85_fr4 a0 a1 y1 x.1 x.2)) (body := (fun L x => (fun L4 => f85_b4 K a0 a1 y1 L4 x.1 x.2) (fun v0 v1 => L (v0, v1)))) (fun L x => ?_) n (q5, q6)
  rw [exec_G]
  exact (key (realL (f85E K) 1) L x.1 x.2).trans (by rfl)
theorem f85_run (K : Nat) (a0 : Int × (Int × Int × Int) × List Int) (a1 : Int × Int × Int) : runF (f85E K) Tryz.f85 [(.ro, (.cons (.int .i64) (.cons (.cons (.int .i64) (.cons (.int .i64) (.int .i64))) (.list 2 (.int .i64))))), (.ro, (.cons (.int .i64) (.cons (.int .i64) (.int .i64))))] [(.cons (.int .i64) (.cons (.cons (.int .i64) (.cons (.int .i64) (.int .i64))) (.list 2 (.int .i64))))] (a0, a1, ()) = f85G K a0 a1 := by
  have key : ∀ (lr : LR (Int × (Int × Int × Int) × List Int)), runG (f85E K) Tryz.f85 [(.ro, (.cons (.int .i64) (.cons (.cons (.int .i64) (.cons (.int .i64) (.int .i64))) (.list 2 (.int .i64))))), (.ro, (.cons (.int .i64) (.cons (.int .i64) (.int .i64))))] [(.cons (.int .i64) (.cons (.cons (.int .i64) (.cons (.int .i64) (.int .i64))) (.list 2 (.int .i64))))] (a0, a1, ()) lr = f85_g K a0 a1 (fun c0 d0 d1 => lr (selC f85C [1, 1, 1, 0, 1, 0, 0]) (f85_fr4 a0 a1 c0 d0 d1) (f85_k4 K a0 a1 lr)) := by intro lr; kernel_rfl
  have h4 : (fun c0 d0 d1 => (realL (f85E K) 1) (selC f85C [1, 1, 1, 0, 1, 0, 0]) (f85_fr4 a0 a1 c0 d0 d1) (f85_k4 K a0 a1 (realL (f85E K) 1))) = fun c0 d0 d1 => f85_l4 K a0 a1 c0 K d0 d1 := by
    funext c0 d0 d1
    exact f85_t4 K a0 a1 c0 d0 d1 K d0 d1
  exact runF_G (n0 := 1) (by rfl) ((key (realL (f85E K) 1)).trans (by rw [h4] <;> rfl))
theorem f55_run (K : Nat) (a0 : Int × (Int × Int × Int) × List Int) : runF (f55E K) Tryz.f55 [(.ro, (.cons (.int .i64) (.cons (.cons (.int .i64) (.cons (.int .i64) (.int .i64))) (.list 2 (.int .i64)))))] [(.cons (.int .i64) (.cons (.cons (.int .i64) (.cons (.int .i64) (.int .i64))) (.list 2 (.int .i64))))] (a0, ()) = f55G K a0 := by kernel_rfl
theorem f180_run (K : Nat) (a0 : Int) (a1 : Int × Int) : runF (f180E K) Tryz.f180 [(.ro, (.int .i64)), (.ro, (.cons (.int .i64) (.int .i64)))] [(.int .i64)] (a0, a1, ()) = f180G K a0 a1 := by kernel_rfl
theorem f172_run (K : Nat) (a0 : Int) (a1 : Int × Int × Int × Int) : runF (f172E K) Tryz.f172 [(.ro, (.int .i64)), (.ro, (.cons (.int .i64) (.cons (.int .i64) (.cons (.int .i64) (.int .i64)))))] [.bool] (a0, a1, ()) = f172G K a0 a1 := by kernel_rfl
theorem f153_t3 (K : Nat) (a0 : Int) (bq4 : Int) (bq5 : List (Int × Int × Int × Int)) : ∀ (n : Nat) (q4 : Int) (q5 : List (Int × Int × Int × Int)), loopN (exec (f153E K) 0 (selC f153C [1, 1, 0, 1, 0, 0])) 0 (f153_fr3 a0 bq4 bq5) n (f153_fr3 a0 q4 q5) (f153_k3 K a0 (realL (f153E K) 0)) = f153_l3 K a0 n q4 q5 := by
  have key : ∀ (lr : LR (List (Int × Int × Int × Int))) (L : Fr → Option (List (Int × Int × Int × Int))) (q4 : Int) (q5 : List (Int × Int × Int × Int)), execG (f153E K) 0 lr (selC f153C [1, 1, 0, 1, 0, 0]) (f153_fr3 a0 q4 q5) (loopK 0 (f153_fr3 a0 bq4 bq5) L (f153_k3 K a0 lr)) = f153_b3 K a0 (fun v0 v1 => L (f153_fr3 a0 v0 v1)) q4 q5 := by
    intro lr L q4 q5; kernel_rfl
  intro n q4 q5
  refine loopN_iter (X := Int × List (Int × Int × Int × Int)) (frame := fun x => (f153_fr3 a0 x.1 x.2)) (body := (fun L x => (fun L3 => f153_b3 K a0 L3 x.1 x.2) (fun v0 v1 => L (v0, v1)))) (fun L x => ?_) n (q4, q5)
  rw [exec_G]
  exact (key (realL (f153E K) 0) L x.1 x.2).trans (by rfl)
theorem f153_run (K : Nat) (a0 : Int) : runF (f153E K) Tryz.f153 [(.ro, (.int .i64))] [(.list 31 (.cons (.int .i64) (.cons (.int .i64) (.cons (.int .i64) (.int .i64)))))] (a0, ()) = f153G K a0 := by
  have key : ∀ (lr : LR (List (Int × Int × Int × Int))), runG (f153E K) Tryz.f153 [(.ro, (.int .i64))] [(.list 31 (.cons (.int .i64) (.cons (.int .i64) (.cons (.int .i64) (.int .i64)))))] (a0, ()) lr = f153_g K a0 (fun d0 d1 => lr (selC f153C [1, 1, 0, 1, 0, 0]) (f153_fr3 a0 d0 d1) (f153_k3 K a0 lr)) := by intro lr; kernel_rfl
  have h3 : (fun d0 d1 => (realL (f153E K) 0) (selC f153C [1, 1, 0, 1, 0, 0]) (f153_fr3 a0 d0 d1) (f153_k3 K a0 (realL (f153E K) 0))) = fun d0 d1 => f153_l3 K a0 K d0 d1 := by
    funext d0 d1
    exact f153_t3 K a0 d0 d1 K d0 d1
  exact runF_G (n0 := 0) (by rfl) ((key (realL (f153E K) 0)).trans (by rw [h3] <;> rfl))
theorem f154_run (K : Nat) (a0 : Int × Int × Int × Int) (a1 : Int × Int × Int) : runF (f154E K) Tryz.f154 [(.ro, (.cons (.int .i64) (.cons (.int .i64) (.cons (.int .i64) (.int .i64))))), (.ro, (.cons (.int .i64) (.cons (.int .i64) (.int .i64))))] [(.cons (.int .i64) (.cons (.int .i64) (.int .i64)))] (a0, a1, ()) = f154G K a0 a1 := by kernel_rfl
theorem f110_t4 (K : Nat) (a0 : Int) (a1 : Int × Int × Int) (y1 : List (Int × Int × Int × Int)) (bq5 : Int) (bq6 : List (Int × Int × Int × Int)) : ∀ (n : Nat) (q5 : Int) (q6 : List (Int × Int × Int × Int)), loopN (exec (f110E K) 0 (selC f110C [1, 1, 1, 0, 1, 0, 0])) 0 (f110_fr4 a0 a1 y1 bq5 bq6) n (f110_fr4 a0 a1 y1 q5 q6) (f110_k4 K a0 a1 (realL (f110E K) 0)) = f110_l4 K a0 a1 y1 n q5 q6 := by
  have key : ∀ (lr : LR (List (Int × Int × Int × Int))) (L : Fr → Option (List (Int × Int × Int × Int))) (q5 : Int) (q6 : List (Int × Int × Int × Int)), execG (f110E K) 0 lr (selC f110C [1, 1, 1, 0, 1, 0, 0]) (f110_fr4 a0 a1 y1 q5 q6) (loopK 0 (f110_fr4 a0 a1 y1 bq5 bq6) L (f110_k4 K a0 a1 lr)) = f110_b4 K a0 a1 y1 (fun v0 v1 => L (f110_fr4 a0 a1 y1 v0 v1)) q5 q6 := by
    intro lr L q5 q6; kernel_rfl
  intro n q5 q6
  refine loopN_iter (X := Int × List (Int × Int × Int × Int)) (frame := fun x => (f110_fr4 a0 a1 y1 x.1 x.2)) (body := (fun L x => (fun L4 => f110_b4 K a0 a1 y1 L4 x.1 x.2) (fun v0 v1 => L (v0, v1)))) (fun L x => ?_) n (q5, q6)
  rw [exec_G]
  exact (key (realL (f110E K) 0) L x.1 x.2).trans (by rfl)
theorem f110_run (K : Nat) (a0 : Int) (a1 : Int × Int × Int) : runF (f110E K) Tryz.f110 [(.ro, (.int .i64)), (.ro, (.cons (.int .i64) (.cons (.int .i64) (.int .i64))))] [(.list 31 (.cons (.int .i64) (.cons (.int .i64) (.cons (.int .i64) (.int .i64)))))] (a0, a1, ()) = f110G K a0 a1 := by
  have key : ∀ (lr : LR (List (Int × Int × Int × Int))), runG (f110E K) Tryz.f110 [(.ro, (.int .i64)), (.ro, (.cons (.int .i64) (.cons (.int .i64) (.int .i64))))] [(.list 31 (.cons (.int .i64) (.cons (.int .i64) (.cons (.int .i64) (.int .i64)))))] (a0, a1, ()) lr = f110_g K a0 a1 (fun c0 d0 d1 => lr (selC f110C [1, 1, 1, 0, 1, 0, 0]) (f110_fr4 a0 a1 c0 d0 d1) (f110_k4 K a0 a1 lr)) := by intro lr; kernel_rfl
  have h4 : (fun c0 d0 d1 => (realL (f110E K) 0) (selC f110C [1, 1, 1, 0, 1, 0, 0]) (f110_fr4 a0 a1 c0 d0 d1) (f110_k4 K a0 a1 (realL (f110E K) 0))) = fun c0 d0 d1 => f110_l4 K a0 a1 c0 K d0 d1 := by
    funext c0 d0 d1
    exact f110_t4 K a0 a1 c0 d0 d1 K d0 d1
  exact runF_G (n0 := 0) (by rfl) ((key (realL (f110E K) 0)).trans (by rw [h4] <;> rfl))
theorem f81_t13 (K : Nat) (a0 : Int × (Int × Int × Int) × List Int) (y1 : List (Int × Int × Int × Int)) (y2 : List (Int × Int)) (q11 : Int) (F10 : Fr → Option (List ((Int × Int × Int × Int) × Int × Int))) (bq11 : Int) (bq12 : List ((Int × Int × Int × Int) × Int × Int)) (bq14 : Int) (bq15 : List ((Int × Int × Int × Int) × Int × Int)) : ∀ (n : Nat) (q14 : Int) (q15 : List ((Int × Int × Int × Int) × Int × Int)), loopN (exec (f81E K) 1 (selC f81C [1, 1, 1, 0, 1, 0, 0, 1, 0, 0, 1, 0, 0])) 1 (f81_fr13 a0 q11 y1 y2 bq14 bq15) n (f81_fr13 a0 q11 y1 y2 q14 q15) (f81_k13 K a0 y1 y2 F10 bq11 bq12 (realL (f81E K) 1)) = f81_l13 K a0 q11 y1 y2 (fun v0 v1 => F10 (f81_fr10 a0 y1 y2 v0 v1)) n q14 q15 := by
  have key : ∀ (lr : LR (List ((Int × Int × Int × Int) × Int × Int))) (L : Fr → Option (List ((Int × Int × Int × Int) × Int × Int))) (q14 : Int) (q15 : List ((Int × Int × Int × Int) × Int × Int)), execG (f81E K) 1 lr (selC f81C [1, 1, 1, 0, 1, 0, 0, 1, 0, 0, 1, 0, 0]) (f81_fr13 a0 q11 y1 y2 q14 q15) (loopK 1 (f81_fr13 a0 q11 y1 y2 bq14 bq15) L (f81_k13 K a0 y1 y2 F10 bq11 bq12 lr)) = f81_b13 K a0 q11 y1 y2 (fun v0 v1 => F10 (f81_fr10 a0 y1 y2 v0 v1)) (fun v0 v1 => L (f81_fr13 a0 q11 y1 y2 v0 v1)) q14 q15 := by
    intro lr L q14 q15; kernel_rfl
  intro n q14 q15
  refine loopN_iter (X := Int × List ((Int × Int × Int × Int) × Int × Int)) (frame := fun x => (f81_fr13 a0 q11 y1 y2 x.1 x.2)) (body := (fun L x => (fun L13 => f81_b13 K a0 q11 y1 y2 (fun v0 v1 => F10 (f81_fr10 a0 y1 y2 v0 v1)) L13 x.1 x.2) (fun v0 v1 => L (v0, v1)))) (fun L x => ?_) n (q14, q15)
  rw [exec_G]
  exact (key (realL (f81E K) 1) L x.1 x.2).trans (by rfl)
theorem f81_t10 (K : Nat) (a0 : Int × (Int × Int × Int) × List Int) (y1 : List (Int × Int × Int × Int)) (y2 : List (Int × Int)) (bq11 : Int) (bq12 : List ((Int × Int × Int × Int) × Int × Int)) : ∀ (n : Nat) (q11 : Int) (q12 : List ((Int × Int × Int × Int) × Int × Int)), loopN (exec (f81E K) 1 (selC f81C [1, 1, 1, 0, 1, 0, 0])) 1 (f81_fr10 a0 y1 y2 bq11 bq12) n (f81_fr10 a0 y1 y2 q11 q12) (f81_k10 K a0 (realL (f81E K) 1)) = f81_l10 K a0 y1 y2 n q11 q12 := by
  have key : ∀ (lr : LR (List ((Int × Int × Int × Int) × Int × Int))) (L : Fr → Option (List ((Int × Int × Int × Int) × Int × Int))) (q11 : Int) (q12 : List ((Int × Int × Int × Int) × Int × Int)), execG (f81E K) 1 lr (selC f81C [1, 1, 1, 0, 1, 0, 0]) (f81_fr10 a0 y1 y2 q11 q12) (loopK 1 (f81_fr10 a0 y1 y2 bq11 bq12) L (f81_k10 K a0 lr)) = f81_b10 K a0 y1 y2 (fun c0 d0 d1 => lr (selC f81C [1, 1, 1, 0, 1, 0, 0, 1, 0, 0, 1, 0, 0]) (f81_fr13 a0 c0 y1 y2 d0 d1) (f81_k13 K a0 y1 y2 L bq11 bq12 lr)) (fun v0 v1 => L (f81_fr10 a0 y1 y2 v0 v1)) q11 q12 := by
    intro lr L q11 q12; kernel_rfl
  intro n q11 q12
  refine loopN_iter (X := Int × List ((Int × Int × Int × Int) × Int × Int)) (frame := fun x => (f81_fr10 a0 y1 y2 x.1 x.2)) (body := (fun L x => (fun L10 => f81_b10 K a0 y1 y2 (fun c0 d0 d1 => f81_l13 K a0 c0 y1 y2 L10 K d0 d1) L10 x.1 x.2) (fun v0 v1 => L (v0, v1)))) (fun L x => ?_) n (q11, q12)
  rw [exec_G]
  have h13 : (fun c0 d0 d1 => (realL (f81E K) 1) (selC f81C [1, 1, 1, 0, 1, 0, 0, 1, 0, 0, 1, 0, 0]) (f81_fr13 a0 c0 y1 y2 d0 d1) (f81_k13 K a0 y1 y2 L bq11 bq12 (realL (f81E K) 1))) = fun c0 d0 d1 => f81_l13 K a0 c0 y1 y2 (fun v0 v1 => L (f81_fr10 a0 y1 y2 v0 v1)) K d0 d1 := by
    funext c0 d0 d1
    exact f81_t13 K a0 y1 y2 c0 L bq11 bq12 d0 d1 K d0 d1
  exact (key (realL (f81E K) 1) L x.1 x.2).trans (by rw [h13] <;> rfl)
theorem f81_run (K : Nat) (a0 : Int × (Int × Int × Int) × List Int) : runF (f81E K) Tryz.f81 [(.ro, (.cons (.int .i64) (.cons (.cons (.int .i64) (.cons (.int .i64) (.int .i64))) (.list 2 (.int .i64)))))] [(.list 34 (.cons (.cons (.int .i64) (.cons (.int .i64) (.cons (.int .i64) (.int .i64)))) (.cons (.int .i64) (.int .i64))))] (a0, ()) = f81G K a0 := by
  have key : ∀ (lr : LR (List ((Int × Int × Int × Int) × Int × Int))), runG (f81E K) Tryz.f81 [(.ro, (.cons (.int .i64) (.cons (.cons (.int .i64) (.cons (.int .i64) (.int .i64))) (.list 2 (.int .i64)))))] [(.list 34 (.cons (.cons (.int .i64) (.cons (.int .i64) (.cons (.int .i64) (.int .i64)))) (.cons (.int .i64) (.int .i64))))] (a0, ()) lr = f81_g K a0 (fun c0 c1 d0 d1 => lr (selC f81C [1, 1, 1, 0, 1, 0, 0]) (f81_fr10 a0 c0 c1 d0 d1) (f81_k10 K a0 lr)) := by intro lr; kernel_rfl
  have h10 : (fun c0 c1 d0 d1 => (realL (f81E K) 1) (selC f81C [1, 1, 1, 0, 1, 0, 0]) (f81_fr10 a0 c0 c1 d0 d1) (f81_k10 K a0 (realL (f81E K) 1))) = fun c0 c1 d0 d1 => f81_l10 K a0 c0 c1 K d0 d1 := by
    funext c0 c1 d0 d1
    exact f81_t10 K a0 c0 c1 d0 d1 K d0 d1
  exact runF_G (n0 := 1) (by rfl) ((key (realL (f81E K) 1)).trans (by rw [h10] <;> rfl))
theorem f82_run (K : Nat) (a0 : Int × Int × Int × Int) : runF (f82E K) Tryz.f82 [(.ro, (.cons (.int .i64) (.cons (.int .i64) (.cons (.int .i64) (.int .i64)))))] [(.int .i64)] (a0, ()) = f82G K a0 := by kernel_rfl
theorem f99_run (K : Nat) (a0 : Int × Int) (a1 : Int × Int) : runF (f99E K) Tryz.f99 [(.ro, (.cons (.int .i64) (.int .i64))), (.ro, (.cons (.int .i64) (.int .i64)))] [.bool] (a0, a1, ()) = f99G K a0 a1 := by kernel_rfl
theorem f155_run (K : Nat) (a0 : Int × Int × Int × Int) : runF (f155E K) Tryz.f155 [(.ro, (.cons (.int .i64) (.cons (.int .i64) (.cons (.int .i64) (.int .i64)))))] [(.cons (.int .i64) (.int .i64))] (a0, ()) = f155G K a0 := by kernel_rfl
theorem f156_run (K : Nat) (a0 : Int × Int × Int) (a1 : Int × Int) : runF (f156E K) Tryz.f156 [(.ro, (.cons (.int .i64) (.cons (.int .i64) (.int .i64)))), (.ro, (.cons (.int .i64) (.int .i64)))] [.bool] (a0, a1, ()) = f156G K a0 a1 := by kernel_rfl
theorem f113_t5 (K : Nat) (a0 : Int × Int × Int) (a1 : Int × Int × Int × Int) (a2 : Int) (y1 : Int × Int) (bq6 : Int) : ∀ (n : Nat) (q6 : Int), loopN (exec (f113E K) 0 (selC f113C [1, 1, 1, 1, 0, 0])) 0 (f113_fr5 a0 a1 a2 y1 bq6) n (f113_fr5 a0 a1 a2 y1 q6) (f113_k5 K a0 a1 a2 (realL (f113E K) 0)) = f113_l5 K a0 a1 a2 y1 n q6 := by
  have key : ∀ (lr : LR (Int × Int)) (L : Fr → Option (Int × Int)) (q6 : Int), execG (f113E K) 0 lr (selC f113C [1, 1, 1, 1, 0, 0]) (f113_fr5 a0 a1 a2 y1 q6) (loopK 0 (f113_fr5 a0 a1 a2 y1 bq6) L (f113_k5 K a0 a1 a2 lr)) = f113_b5 K a0 a1 a2 y1 (fun v0 => L (f113_fr5 a0 a1 a2 y1 v0)) q6 := by
    intro lr L q6; kernel_rfl
  intro n q6
  refine loopN_iter (X := Int) (frame := fun x => (f113_fr5 a0 a1 a2 y1 x)) (body := (fun L x => (fun L5 => f113_b5 K a0 a1 a2 y1 L5 x) (fun v0 => L v0))) (fun L x => ?_) n q6
  rw [exec_G]
  exact (key (realL (f113E K) 0) L x).trans (by rfl)
theorem f113_run (K : Nat) (a0 : Int × Int × Int) (a1 : Int × Int × Int × Int) (a2 : Int) : runF (f113E K) Tryz.f113 [(.ro, (.cons (.int .i64) (.cons (.int .i64) (.int .i64)))), (.ro, (.cons (.int .i64) (.cons (.int .i64) (.cons (.int .i64) (.int .i64))))), (.ro, (.int .i64))] [(.cons (.int .i64) (.int .i64))] (a0, a1, a2, ()) = f113G K a0 a1 a2 := by
  have key : ∀ (lr : LR (Int × Int)), runG (f113E K) Tryz.f113 [(.ro, (.cons (.int .i64) (.cons (.int .i64) (.int .i64)))), (.ro, (.cons (.int .i64) (.cons (.int .i64) (.cons (.int .i64) (.int .i64))))), (.ro, (.int .i64))] [(.cons (.int .i64) (.int .i64))] (a0, a1, a2, ()) lr = f113_g K a0 a1 a2 (fun c0 d0 => lr (selC f113C [1, 1, 1, 1, 0, 0]) (f113_fr5 a0 a1 a2 c0 d0) (f113_k5 K a0 a1 a2 lr)) := by intro lr; kernel_rfl
  have h5 : (fun c0 d0 => (realL (f113E K) 0) (selC f113C [1, 1, 1, 1, 0, 0]) (f113_fr5 a0 a1 a2 c0 d0) (f113_k5 K a0 a1 a2 (realL (f113E K) 0))) = fun c0 d0 => f113_l5 K a0 a1 a2 c0 K d0 := by
    funext c0 d0
    exact f113_t5 K a0 a1 a2 c0 d0 K d0
  exact runF_G (n0 := 0) (by rfl) ((key (realL (f113E K) 0)).trans (by rw [h5] <;> rfl))
theorem f117_run (K : Nat) (a0 : Int × Int) (a1 : Int × Int) : runF (f117E K) Tryz.f117 [(.ro, (.cons (.int .i64) (.int .i64))), (.ro, (.cons (.int .i64) (.int .i64)))] [(.int .i64)] (a0, a1, ()) = f117G K a0 a1 := by kernel_rfl
theorem f84_run (K : Nat) (a0 : Int × Int × Int) (a1 : Int × Int × Int × Int) : runF (f84E K) Tryz.f84 [(.ro, (.cons (.int .i64) (.cons (.int .i64) (.int .i64)))), (.ro, (.cons (.int .i64) (.cons (.int .i64) (.cons (.int .i64) (.int .i64)))))] [.bool] (a0, a1, ()) = f84G K a0 a1 := by kernel_rfl
theorem f115_run (K : Nat) (a0 : (Int × Int × Int × Int) × Int × Int) : runF (f115E K) Tryz.f115 [(.ro, (.cons (.cons (.int .i64) (.cons (.int .i64) (.cons (.int .i64) (.int .i64)))) (.cons (.int .i64) (.int .i64))))] [(.cons (.int .i64) (.int .i64))] (a0, ()) = f115G K a0 := by kernel_rfl
theorem f83_run (K : Nat) (a0 : Int × Int × Int) (a1 : (Int × Int × Int × Int) × Int × Int) : runF (f83E K) Tryz.f83 [(.ro, (.cons (.int .i64) (.cons (.int .i64) (.int .i64)))), (.ro, (.cons (.cons (.int .i64) (.cons (.int .i64) (.cons (.int .i64) (.int .i64)))) (.cons (.int .i64) (.int .i64))))] [.bool] (a0, a1, ()) = f83G K a0 a1 := by kernel_rfl
theorem f54_t14 (K : Nat) (a0 : Int × (Int × Int × Int) × List Int) (y1 : List ((Int × Int × Int × Int) × Int × Int)) (bq15 : Int) (bq16 : Int) (bq17 : Int) : ∀ (n : Nat) (q15 : Int) (q16 : Int) (q17 : Int), loopN (exec (f54E K) 1 (selC f54C [1, 1, 1, 0, 1, 0, 0])) 1 (f54_fr14 a0 y1 bq15 bq16 bq17) n (f54_fr14 a0 y1 q15 q16 q17) (f54_k14 K a0 (realL (f54E K) 1)) = f54_l14 K a0 y1 n q15 q16 q17 := by
  have key : ∀ (lr : LR (Int × Int)) (L : Fr → Option (Int × Int)) (q15 : Int) (q16 : Int) (q17 : Int), execG (f54E K) 1 lr (selC f54C [1, 1, 1, 0, 1, 0, 0]) (f54_fr14 a0 y1 q15 q16 q17) (loopK 1 (f54_fr14 a0 y1 bq15 bq16 bq17) L (f54_k14 K a0 lr)) = f54_b14 K a0 y1 (fun v0 v1 v2 => L (f54_fr14 a0 y1 v0 v1 v2)) q15 q16 q17 := by
    intro lr L q15 q16 q17; kernel_rfl
  intro n q15 q16 q17
  refine loopN_iter (X := Int × Int × Int) (frame := fun x => (f54_fr14 a0 y1 x.1 x.2.1 x.2.2)) (body := (fun L x => (fun L14 => f54_b14 K a0 y1 L14 x.1 x.2.1 x.2.2) (fun v0 v1 v2 => L (v0, v1, v2)))) (fun L x => ?_) n (q15, q16, q17)
  rw [exec_G]
  exact (key (realL (f54E K) 1) L x.1 x.2.1 x.2.2).trans (by rfl)
theorem f54_run (K : Nat) (a0 : Int × (Int × Int × Int) × List Int) : runF (f54E K) Tryz.f54 [(.ro, (.cons (.int .i64) (.cons (.cons (.int .i64) (.cons (.int .i64) (.int .i64))) (.list 2 (.int .i64)))))] [(.int .i64), (.int .i64)] (a0, ()) = f54G K a0 := by
  have key : ∀ (lr : LR (Int × Int)), runG (f54E K) Tryz.f54 [(.ro, (.cons (.int .i64) (.cons (.cons (.int .i64) (.cons (.int .i64) (.int .i64))) (.list 2 (.int .i64)))))] [(.int .i64), (.int .i64)] (a0, ()) lr = f54_g K a0 (fun c0 d0 d1 d2 => lr (selC f54C [1, 1, 1, 0, 1, 0, 0]) (f54_fr14 a0 c0 d0 d1 d2) (f54_k14 K a0 lr)) := by intro lr; kernel_rfl
  have h14 : (fun c0 d0 d1 d2 => (realL (f54E K) 1) (selC f54C [1, 1, 1, 0, 1, 0, 0]) (f54_fr14 a0 c0 d0 d1 d2) (f54_k14 K a0 (realL (f54E K) 1))) = fun c0 d0 d1 d2 => f54_l14 K a0 c0 K d0 d1 d2 := by
    funext c0 d0 d1 d2
    exact f54_t14 K a0 c0 d0 d1 d2 K d0 d1 d2
  exact runF_G (n0 := 1) (by rfl) ((key (realL (f54E K) 1)).trans (by rw [h14] <;> rfl))
theorem f32_run (K : Nat) (a0 : Int × (Int × Int × Int) × List Int) : runF (f32E K) Tryz.f32 [(.ro, (.cons (.int .i64) (.cons (.cons (.int .i64) (.cons (.int .i64) (.int .i64))) (.list 2 (.int .i64)))))] [(.int .i64), (.int .i64)] (a0, ()) = f32G K a0 := by kernel_rfl
theorem f77_run (K : Nat) (a0 : Int) (a1 : Int) (a2 : Int) : runF (f77E K) Tryz.f77 [(.ro, (.int .i64)), (.ro, (.int .i64)), (.ro, (.int .i64))] [.bool] (a0, a1, a2, ()) = f77G K a0 a1 a2 := by kernel_rfl
theorem f87_run (K : Nat) (a0 : Int) : runF (f87E K) Tryz.f87 [(.ro, (.int .i64))] [.bool] (a0, ()) = f87G K a0 := by kernel_rfl
theorem f78_run (K : Nat) (a0 : Int × Int × Int) : runF (f78E K) Tryz.f78 [(.ro, (.cons (.int .i64) (.cons (.int .i64) (.int .i64))))] [(.int .i64)] (a0, ()) = f78G K a0 := by kernel_rfl
theorem f88_run (K : Nat) (a0 : Int × Int × Int) : runF (f88E K) Tryz.f88 [(.ro, (.cons (.int .i64) (.cons (.int .i64) (.int .i64))))] [.bool] (a0, ()) = f88G K a0 := by kernel_rfl
theorem f123_run (K : Nat) (a0 : Int) (a1 : Int) (a2 : Int) : runF (f123E K) Tryz.f123 [(.ro, (.int .i64)), (.cap, (.int .i64)), (.cap, (.int .i64))] [.bool] (a0, a1, a2, ()) = f123G K a0 a1 a2 := by kernel_rfl
theorem f157_t3 (K : Nat) (a0 : List Int) (a1 : (Int → Option Bool)) (bq4 : Int) : ∀ (n : Nat) (q4 : Int), loopN (exec (f157E K) 1 (selC f157C [1, 0, 1, 0, 0])) 1 (f157_fr3 a0 a1 bq4) n (f157_fr3 a0 a1 q4) (f157_k3 K a0 a1 (realL (f157E K) 1)) = f157_l3 K a0 a1 n q4 := by
  have key : ∀ (lr : LR Int) (L : Fr → Option Int) (q4 : Int), execG (f157E K) 1 lr (selC f157C [1, 0, 1, 0, 0]) (f157_fr3 a0 a1 q4) (loopK 1 (f157_fr3 a0 a1 bq4) L (f157_k3 K a0 a1 lr)) = f157_b3 K a0 a1 (fun v0 => L (f157_fr3 a0 a1 v0)) q4 := by
    intro lr L q4; kernel_rfl
  intro n q4
  refine loopN_iter (X := Int) (frame := fun x => (f157_fr3 a0 a1 x)) (body := (fun L x => (fun L3 => f157_b3 K a0 a1 L3 x) (fun v0 => L v0))) (fun L x => ?_) n q4
  rw [exec_G]
  exact (key (realL (f157E K) 1) L x).trans (by rfl)
theorem f157_run (K : Nat) (a0 : List Int) (a1 : (Int → Option Bool)) : runF (f157E K) Tryz.f157 [(.ro, (.list 2 (.int .i64))), (.ro, (.fn1 (.int .i64) .bool))] [(.int .i64)] (a0, a1, ()) = f157G K a0 a1 := by
  have key : ∀ (lr : LR Int), runG (f157E K) Tryz.f157 [(.ro, (.list 2 (.int .i64))), (.ro, (.fn1 (.int .i64) .bool))] [(.int .i64)] (a0, a1, ()) lr = f157_g K a0 a1 (fun d0 => lr (selC f157C [1, 0, 1, 0, 0]) (f157_fr3 a0 a1 d0) (f157_k3 K a0 a1 lr)) := by intro lr; kernel_rfl
  have h3 : (fun d0 => (realL (f157E K) 1) (selC f157C [1, 0, 1, 0, 0]) (f157_fr3 a0 a1 d0) (f157_k3 K a0 a1 (realL (f157E K) 1))) = fun d0 => f157_l3 K a0 a1 K d0 := by
    funext d0
    exact f157_t3 K a0 a1 d0 K d0
  exact runF_G (n0 := 1) (by rfl) ((key (realL (f157E K) 1)).trans (by rw [h3] <;> rfl))
theorem f122_run (K : Nat) (a0 : List Int) (a1 : (Int → Option Bool)) : runF (f122E K) Tryz.f122 [(.ro, (.list 2 (.int .i64))), (.ro, (.fn1 (.int .i64) .bool))] [.bool] (a0, a1, ()) = f122G K a0 a1 := by kernel_rfl
theorem f89_run (K : Nat) (a0 : List Int) (a1 : Int) (a2 : Int) : runF (f89E K) Tryz.f89 [(.ro, (.list 2 (.int .i64))), (.ro, (.int .i64)), (.ro, (.int .i64))] [.bool] (a0, a1, a2, ()) = f89G K a0 a1 a2 := by kernel_rfl
theorem f57_run (K : Nat) (a0 : Int × (Int × Int × Int) × List Int) : runF (f57E K) Tryz.f57 [(.ro, (.cons (.int .i64) (.cons (.cons (.int .i64) (.cons (.int .i64) (.int .i64))) (.list 2 (.int .i64)))))] [.bool] (a0, ()) = f57G K a0 := by kernel_rfl
theorem f126_run (K : Nat) (a0 : Int × Int × Int) : runF (f126E K) Tryz.f126 [(.ro, (.cons (.int .i64) (.cons (.int .i64) (.int .i64))))] [(.cons (.int .i64) (.int .i64)), (.cons (.int .i64) (.int .i64))] (a0, ()) = f126G K a0 := by kernel_rfl
theorem f124_t9 (K : Nat) (a0 : Int × Int × Int) (q7 : Int) (F6 : Fr → Option (List (Int × Int))) (bq7 : Int) (bq8 : List (Int × Int)) (bq10 : Int) (bq11 : List (Int × Int)) : ∀ (n : Nat) (q10 : Int) (q11 : List (Int × Int)), loopN (exec (f124E K) 0 (selC f124C [1, 1, 0, 1, 0, 0, 1, 1, 0, 0, 1, 1, 0, 0])) 0 (f124_fr9 a0 q7 bq10 bq11) n (f124_fr9 a0 q7 q10 q11) (f124_k9 K a0 F6 bq7 bq8 (realL (f124E K) 0)) = f124_l9 K a0 q7 (fun v0 v1 => F6 (f124_fr6 a0 v0 v1)) n q10 q11 := by
  have key : ∀ (lr : LR (List (Int × Int))) (L : Fr → Option (List (Int × Int))) (q10 : Int) (q11 : List (Int × Int)), execG (f124E K) 0 lr (selC f124C [1, 1, 0, 1, 0, 0, 1, 1, 0, 0, 1, 1, 0, 0]) (f124_fr9 a0 q7 q10 q11) (loopK 0 (f124_fr9 a0 q7 bq10 bq11) L (f124_k9 K a0 F6 bq7 bq8 lr)) = f124_b9 K a0 q7 (fun v0 v1 => F6 (f124_fr6 a0 v0 v1)) (fun v0 v1 => L (f124_fr9 a0 q7 v0 v1)) q10 q11 := by
    intro lr L q10 q11; kernel_rfl
  intro n q10 q11
  refine loopN_iter (X := Int × List (Int × Int)) (frame := fun x => (f124_fr9 a0 q7 x.1 x.2)) (body := (fun L x => (fun L9 => f124_b9 K a0 q7 (fun v0 v1 => F6 (f124_fr6 a0 v0 v1)) L9 x.1 x.2) (fun v0 v1 => L (v0, v1)))) (fun L x => ?_) n (q10, q11)
  rw [exec_G]
  exact (key (realL (f124E K) 0) L x.1 x.2).trans (by rfl)
theorem f124_t6 (K : Nat) (a0 : Int × Int × Int) (bq7 : Int) (bq8 : List (Int × Int)) : ∀ (n : Nat) (q7 : Int) (q8 : List (Int × Int)), loopN (exec (f124E K) 0 (selC f124C [1, 1, 0, 1, 0, 0])) 0 (f124_fr6 a0 bq7 bq8) n (f124_fr6 a0 q7 q8) (f124_k6 K a0 (realL (f124E K) 0)) = f124_l6 K a0 n q7 q8 := by
  have key : ∀ (lr : LR (List (Int × Int))) (L : Fr → Option (List (Int × Int))) (q7 : Int) (q8 : List (Int × Int)), execG (f124E K) 0 lr (selC f124C [1, 1, 0, 1, 0, 0]) (f124_fr6 a0 q7 q8) (loopK 0 (f124_fr6 a0 bq7 bq8) L (f124_k6 K a0 lr)) = f124_b6 K a0 (fun c0 d0 d1 => lr (selC f124C [1, 1, 0, 1, 0, 0, 1, 1, 0, 0, 1, 1, 0, 0]) (f124_fr9 a0 c0 d0 d1) (f124_k9 K a0 L bq7 bq8 lr)) (fun v0 v1 => L (f124_fr6 a0 v0 v1)) q7 q8 := by
    intro lr L q7 q8; kernel_rfl
  intro n q7 q8
  refine loopN_iter (X := Int × List (Int × Int)) (frame := fun x => (f124_fr6 a0 x.1 x.2)) (body := (fun L x => (fun L6 => f124_b6 K a0 (fun c0 d0 d1 => f124_l9 K a0 c0 L6 K d0 d1) L6 x.1 x.2) (fun v0 v1 => L (v0, v1)))) (fun L x => ?_) n (q7, q8)
  rw [exec_G]
  have h9 : (fun c0 d0 d1 => (realL (f124E K) 0) (selC f124C [1, 1, 0, 1, 0, 0, 1, 1, 0, 0, 1, 1, 0, 0]) (f124_fr9 a0 c0 d0 d1) (f124_k9 K a0 L bq7 bq8 (realL (f124E K) 0))) = fun c0 d0 d1 => f124_l9 K a0 c0 (fun v0 v1 => L (f124_fr6 a0 v0 v1)) K d0 d1 := by
    funext c0 d0 d1
    exact f124_t9 K a0 c0 L bq7 bq8 d0 d1 K d0 d1
  exact (key (realL (f124E K) 0) L x.1 x.2).trans (by rw [h9] <;> rfl)
theorem f124_run (K : Nat) (a0 : Int × Int × Int) : runF (f124E K) Tryz.f124 [(.ro, (.cons (.int .i64) (.cons (.int .i64) (.int .i64))))] [(.list 32 (.cons (.int .i64) (.int .i64)))] (a0, ()) = f124G K a0 := by
  have key : ∀ (lr : LR (List (Int × Int))), runG (f124E K) Tryz.f124 [(.ro, (.cons (.int .i64) (.cons (.int .i64) (.int .i64))))] [(.list 32 (.cons (.int .i64) (.int .i64)))] (a0, ()) lr = f124_g K a0 (fun d0 d1 => lr (selC f124C [1, 1, 0, 1, 0, 0]) (f124_fr6 a0 d0 d1) (f124_k6 K a0 lr)) := by intro lr; kernel_rfl
  have h6 : (fun d0 d1 => (realL (f124E K) 0) (selC f124C [1, 1, 0, 1, 0, 0]) (f124_fr6 a0 d0 d1) (f124_k6 K a0 (realL (f124E K) 0))) = fun d0 d1 => f124_l6 K a0 K d0 d1 := by
    funext d0 d1
    exact f124_t6 K a0 d0 d1 K d0 d1
  exact runF_G (n0 := 0) (by rfl) ((key (realL (f124E K) 0)).trans (by rw [h6] <;> rfl))
theorem f128_run (K : Nat) : runF (f128E K) Tryz.f128 [] [(.cons (.int .i64) (.cons (.int .i64) (.cons (.int .i64) (.int .i64))))] (()) = f128G K := by kernel_rfl
theorem f151_run (K : Nat) (a0 : Int × Int × Int × Int) (a1 : Int × Int) : runF (f151E K) Tryz.f151 [(.ro, (.cons (.int .i64) (.cons (.int .i64) (.cons (.int .i64) (.int .i64))))), (.ro, (.cons (.int .i64) (.int .i64)))] [(.cons (.int .i64) (.int .i64))] (a0, a1, ()) = f151G K a0 a1 := by kernel_rfl
theorem f152_run (K : Nat) (a0 : Int × Int) (a1 : Int × Int) : runF (f152E K) Tryz.f152 [(.ro, (.cons (.int .i64) (.int .i64))), (.ro, (.cons (.int .i64) (.int .i64)))] [(.cons (.int .i64) (.int .i64))] (a0, a1, ()) = f152G K a0 a1 := by kernel_rfl
theorem f109_run (K : Nat) (a0 : (Int × Int × Int × Int) × Int × Int) (a1 : Int × Int) : runF (f109E K) Tryz.f109 [(.ro, (.cons (.cons (.int .i64) (.cons (.int .i64) (.cons (.int .i64) (.int .i64)))) (.cons (.int .i64) (.int .i64)))), (.ro, (.cons (.int .i64) (.int .i64)))] [(.cons (.int .i64) (.int .i64))] (a0, a1, ()) = f109G K a0 a1 := by kernel_rfl
theorem f150_run (K : Nat) (a0 : Int) (a1 : Int) : runF (f150E K) Tryz.f150 [(.ro, (.int .i64)), (.ro, (.int .i64))] [(.int .i64)] (a0, a1, ()) = f150G K a0 a1 := by kernel_rfl
theorem f108_run (K : Nat) (a0 : Int × Int × Int) (a1 : Int × Int) : runF (f108E K) Tryz.f108 [(.ro, (.cons (.int .i64) (.cons (.int .i64) (.int .i64)))), (.ro, (.cons (.int .i64) (.int .i64)))] [(.cons (.int .i64) (.int .i64))] (a0, a1, ()) = f108G K a0 a1 := by kernel_rfl
theorem f63_run (K : Nat) (a0 : Int × Int × Int) (a1 : Int × Int) : runF (f63E K) Tryz.f63 [(.ro, (.cons (.int .i64) (.cons (.int .i64) (.int .i64)))), (.ro, (.cons (.int .i64) (.int .i64)))] [(.int .i64)] (a0, a1, ()) = f63G K a0 a1 := by kernel_rfl
theorem f125_run (K : Nat) (a0 : Int × (Int × Int × Int) × List Int) (a1 : Int × Int) : runF (f125E K) Tryz.f125 [(.ro, (.cons (.int .i64) (.cons (.cons (.int .i64) (.cons (.int .i64) (.int .i64))) (.list 2 (.int .i64))))), (.ro, (.cons (.int .i64) (.int .i64)))] [(.int .i64)] (a0, a1, ()) = f125G K a0 a1 := by kernel_rfl
theorem f127_t5 (K : Nat) (a0 : Int × (Int × Int × Int) × List Int) (a1 : (Int × Int × Int × Int) × Int × Int) (y1 : List (Int × Int)) (bq6 : Int) : ∀ (n : Nat) (q6 : Int), loopN (exec (f127E K) 1 (selC f127C [1, 0, 1, 0, 0])) 1 (f127_fr5 a0 a1 y1 bq6) n (f127_fr5 a0 a1 y1 q6) (f127_k5 K a0 a1 (realL (f127E K) 1)) = f127_l5 K a0 a1 y1 n q6 := by
  have key : ∀ (lr : LR Bool) (L : Fr → Option Bool) (q6 : Int), execG (f127E K) 1 lr (selC f127C [1, 0, 1, 0, 0]) (f127_fr5 a0 a1 y1 q6) (loopK 1 (f127_fr5 a0 a1 y1 bq6) L (f127_k5 K a0 a1 lr)) = f127_b5 K a0 a1 y1 (fun v0 => L (f127_fr5 a0 a1 y1 v0)) q6 := by
    intro lr L q6; kernel_rfl
  intro n q6
  refine loopN_iter (X := Int) (frame := fun x => (f127_fr5 a0 a1 y1 x)) (body := (fun L x => (fun L5 => f127_b5 K a0 a1 y1 L5 x) (fun v0 => L v0))) (fun L x => ?_) n q6
  rw [exec_G]
  exact (key (realL (f127E K) 1) L x).trans (by rfl)
theorem f127_run (K : Nat) (a0 : Int × (Int × Int × Int) × List Int) (a1 : (Int × Int × Int × Int) × Int × Int) : runF (f127E K) Tryz.f127 [(.ro, (.cons (.int .i64) (.cons (.cons (.int .i64) (.cons (.int .i64) (.int .i64))) (.list 2 (.int .i64))))), (.ro, (.cons (.cons (.int .i64) (.cons (.int .i64) (.cons (.int .i64) (.int .i64)))) (.cons (.int .i64) (.int .i64))))] [.bool] (a0, a1, ()) = f127G K a0 a1 := by
  have key : ∀ (lr : LR Bool), runG (f127E K) Tryz.f127 [(.ro, (.cons (.int .i64) (.cons (.cons (.int .i64) (.cons (.int .i64) (.int .i64))) (.list 2 (.int .i64))))), (.ro, (.cons (.cons (.int .i64) (.cons (.int .i64) (.cons (.int .i64) (.int .i64)))) (.cons (.int .i64) (.int .i64))))] [.bool] (a0, a1, ()) lr = f127_g K a0 a1 (fun c0 d0 => lr (selC f127C [1, 0, 1, 0, 0]) (f127_fr5 a0 a1 c0 d0) (f127_k5 K a0 a1 lr)) := by intro lr; kernel_rfl
  have h5 : (fun c0 d0 => (realL (f127E K) 1) (selC f127C [1, 0, 1, 0, 0]) (f127_fr5 a0 a1 c0 d0) (f127_k5 K a0 a1 (realL (f127E K) 1))) = fun c0 d0 => f127_l5 K a0 a1 c0 K d0 := by
    funext c0 d0
    exact f127_t5 K a0 a1 c0 d0 K d0
  exact runF_G (n0 := 1) (by rfl) ((key (realL (f127E K) 1)).trans (by rw [h5] <;> rfl))
theorem f158_run (K : Nat) (a0 : Int × Int) (a1 : Int) : runF (f158E K) Tryz.f158 [(.ro, (.cons (.int .i64) (.int .i64))), (.ro, (.int .i64))] [(.cons (.int .i64) (.int .i64))] (a0, a1, ()) = f158G K a0 a1 := by kernel_rfl
theorem f133_t2 (K : Nat) (a0 : Int) (a1 : Int) (bq3 : Int) (bq4 : Int) : ∀ (n : Nat) (q3 : Int) (q4 : Int), loopN (exec (f133E K) 0 (selC f133C [1, 0, 0, 0])) 0 (f133_fr2 bq3 bq4) n (f133_fr2 q3 q4) (f133_k2 K a0 a1 (realL (f133E K) 0)) = f133_l2 K n q3 q4 := by
  have key : ∀ (lr : LR Int) (L : Fr → Option Int) (q3 : Int) (q4 : Int), execG (f133E K) 0 lr (selC f133C [1, 0, 0, 0]) (f133_fr2 q3 q4) (loopK 0 (f133_fr2 bq3 bq4) L (f133_k2 K a0 a1 lr)) = f133_b2 K (fun v0 v1 => L (f133_fr2 v0 v1)) q3 q4 := by
    intro lr L q3 q4; kernel_rfl
  intro n q3 q4
  refine loopN_iter (X := Int × Int) (frame := fun x => (f133_fr2 x.1 x.2)) (body := (fun L x => (fun L2 => f133_b2 K L2 x.1 x.2) (fun v0 v1 => L (v0, v1)))) (fun L x => ?_) n (q3, q4)
  rw [exec_G]
  exact (key (realL (f133E K) 0) L x.1 x.2).trans (by rfl)
theorem f133_run (K : Nat) (a0 : Int) (a1 : Int) : runF (f133E K) Tryz.f133 [(.ro, (.int .i64)), (.ro, (.int .i64))] [(.int .i64)] (a0, a1, ()) = f133G K a0 a1 := by
  have key : ∀ (lr : LR Int), runG (f133E K) Tryz.f133 [(.ro, (.int .i64)), (.ro, (.int .i64))] [(.int .i64)] (a0, a1, ()) lr = f133_g K a0 a1 (fun d0 d1 => lr (selC f133C [1, 0, 0, 0]) (f133_fr2 d0 d1) (f133_k2 K a0 a1 lr)) := by intro lr; kernel_rfl
  have h2 : (fun d0 d1 => (realL (f133E K) 0) (selC f133C [1, 0, 0, 0]) (f133_fr2 d0 d1) (f133_k2 K a0 a1 (realL (f133E K) 0))) = fun d0 d1 => f133_l2 K K d0 d1 := by
    funext d0 d1
    exact f133_t2 K a0 a1 d0 d1 K d0 d1
  exact runF_G (n0 := 0) (by rfl) ((key (realL (f133E K) 0)).trans (by rw [h2] <;> rfl))
theorem f129_t18 (K : Nat) (a0 : List (Int × Int)) (q14 : Int) (q15 : Int) (F13 : Fr → Option (Int × Int × Int)) (bq14 : Int) (bq15 : Int) (bq16 : Int) (bq17 : Int) (bq19 : Int) (bq20 : Int) (bq21 : Int) (bq22 : Int) : ∀ (n : Nat) (q19 : Int) (q20 : Int) (q21 : Int) (q22 : Int), loopN (exec (f129E K) 1 (selC f129C [1, 1, 0, 1, 0, 0, 1, 1, 0, 0, 1, 0, 0, 0])) 1 (f129_fr18 a0 q14 q15 bq19 bq20 bq21 bq22) n (f129_fr18 a0 q14 q15 q19 q20 q21 q22) (f129_k18 K a0 F13 bq14 bq15 bq16 bq17 (realL (f129E K) 1)) = f129_l18 K a0 q14 q15 (fun v0 v1 v2 v3 => F13 (f129_fr13 a0 v0 v1 v2 v3)) n q19 q20 q21 q22 := by
  have key : ∀ (lr : LR (Int × Int × Int)) (L : Fr → Option (Int × Int × Int)) (q19 : Int) (q20 : Int) (q21 : Int) (q22 : Int), execG (f129E K) 1 lr (selC f129C [1, 1, 0, 1, 0, 0, 1, 1, 0, 0, 1, 0, 0, 0]) (f129_fr18 a0 q14 q15 q19 q20 q21 q22) (loopK 1 (f129_fr18 a0 q14 q15 bq19 bq20 bq21 bq22) L (f129_k18 K a0 F13 bq14 bq15 bq16 bq17 lr)) = f129_b18 K a0 q14 q15 (fun v0 v1 v2 v3 => F13 (f129_fr13 a0 v0 v1 v2 v3)) (fun v0 v1 v2 v3 => L (f129_fr18 a0 q14 q15 v0 v1 v2 v3)) q19 q20 q21 q22 := by
    intro lr L q19 q20 q21 q22; kernel_rfl
  intro n q19 q20 q21 q22
  refine loopN_iter (X := Int × Int × Int × Int) (frame := fun x => (f129_fr18 a0 q14 q15 x.1 x.2.1 x.2.2.1 x.2.2.2)) (body := (fun L x => (fun L18 => f129_b18 K a0 q14 q15 (fun v0 v1 v2 v3 => F13 (f129_fr13 a0 v0 v1 v2 v3)) L18 x.1 x.2.1 x.2.2.1 x.2.2.2) (fun v0 v1 v2 v3 => L (v0, v1, v2, v3)))) (fun L x => ?_) n (q19, q20, q21, q22)
  rw [exec_G]
  exact (key (realL (f129E K) 1) L x.1 x.2.1 x.2.2.1 x.2.2.2).trans (by rfl)
theorem f129_t13 (K : Nat) (a0 : List (Int × Int)) (bq14 : Int) (bq15 : Int) (bq16 : Int) (bq17 : Int) : ∀ (n : Nat) (q14 : Int) (q15 : Int) (q16 : Int) (q17 : Int), loopN (exec (f129E K) 1 (selC f129C [1, 1, 0, 1, 0, 0])) 1 (f129_fr13 a0 bq14 bq15 bq16 bq17) n (f129_fr13 a0 q14 q15 q16 q17) (f129_k13 K a0 (realL (f129E K) 1)) = f129_l13 K a0 n q14 q15 q16 q17 := by
  have key : ∀ (lr : LR (Int × Int × Int)) (L : Fr → Option (Int × Int × Int)) (q14 : Int) (q15 : Int) (q16 : Int) (q17 : Int), execG (f129E K) 1 lr (selC f129C [1, 1, 0, 1, 0, 0]) (f129_fr13 a0 q14 q15 q16 q17) (loopK 1 (f129_fr13 a0 bq14 bq15 bq16 bq17) L (f129_k13 K a0 lr)) = f129_b13 K a0 (fun c0 c1 d0 d1 d2 d3 => lr (selC f129C [1, 1, 0, 1, 0, 0, 1, 1, 0, 0, 1, 0, 0, 0]) (f129_fr18 a0 c0 c1 d0 d1 d2 d3) (f129_k18 K a0 L bq14 bq15 bq16 bq17 lr)) (fun v0 v1 v2 v3 => L (f129_fr13 a0 v0 v1 v2 v3)) q14 q15 q16 q17 := by
    intro lr L q14 q15 q16 q17; kernel_rfl
  intro n q14 q15 q16 q17
  refine loopN_iter (X := Int × Int × Int × Int) (frame := fun x => (f129_fr13 a0 x.1 x.2.1 x.2.2.1 x.2.2.2)) (body := (fun L x => (fun L13 => f129_b13 K a0 (fun c0 c1 d0 d1 d2 d3 => f129_l18 K a0 c0 c1 L13 K d0 d1 d2 d3) L13 x.1 x.2.1 x.2.2.1 x.2.2.2) (fun v0 v1 v2 v3 => L (v0, v1, v2, v3)))) (fun L x => ?_) n (q14, q15, q16, q17)
  rw [exec_G]
  have h18 : (fun c0 c1 d0 d1 d2 d3 => (realL (f129E K) 1) (selC f129C [1, 1, 0, 1, 0, 0, 1, 1, 0, 0, 1, 0, 0, 0]) (f129_fr18 a0 c0 c1 d0 d1 d2 d3) (f129_k18 K a0 L bq14 bq15 bq16 bq17 (realL (f129E K) 1))) = fun c0 c1 d0 d1 d2 d3 => f129_l18 K a0 c0 c1 (fun v0 v1 v2 v3 => L (f129_fr13 a0 v0 v1 v2 v3)) K d0 d1 d2 d3 := by
    funext c0 c1 d0 d1 d2 d3
    exact f129_t18 K a0 c0 c1 L bq14 bq15 bq16 bq17 d0 d1 d2 d3 K d0 d1 d2 d3
  exact (key (realL (f129E K) 1) L x.1 x.2.1 x.2.2.1 x.2.2.2).trans (by rw [h18] <;> rfl)
theorem f129_run (K : Nat) (a0 : List (Int × Int)) : runF (f129E K) Tryz.f129 [(.ro, (.list 32 (.cons (.int .i64) (.int .i64))))] [(.cons (.int .i64) (.cons (.int .i64) (.int .i64)))] (a0, ()) = f129G K a0 := by
  have key : ∀ (lr : LR (Int × Int × Int)), runG (f129E K) Tryz.f129 [(.ro, (.list 32 (.cons (.int .i64) (.int .i64))))] [(.cons (.int .i64) (.cons (.int .i64) (.int .i64)))] (a0, ()) lr = f129_g K a0 (fun d0 d1 d2 d3 => lr (selC f129C [1, 1, 0, 1, 0, 0]) (f129_fr13 a0 d0 d1 d2 d3) (f129_k13 K a0 lr)) := by intro lr; kernel_rfl
  have h13 : (fun d0 d1 d2 d3 => (realL (f129E K) 1) (selC f129C [1, 1, 0, 1, 0, 0]) (f129_fr13 a0 d0 d1 d2 d3) (f129_k13 K a0 (realL (f129E K) 1))) = fun d0 d1 d2 d3 => f129_l13 K a0 K d0 d1 d2 d3 := by
    funext d0 d1 d2 d3
    exact f129_t13 K a0 d0 d1 d2 d3 K d0 d1 d2 d3
  exact runF_G (n0 := 1) (by rfl) ((key (realL (f129E K) 1)).trans (by rw [h13] <;> rfl))
theorem f91_t6 (K : Nat) (a0 : Int × (Int × Int × Int) × List Int) (y1 : (Int × Int) × Int × Int) (y2 : List (Int × Int)) (bq7 : Int) (bq8 : List (Int × Int)) : ∀ (n : Nat) (q7 : Int) (q8 : List (Int × Int)), loopN (exec (f91E K) 1 (selC f91C [1, 1, 1, 0, 1, 0, 0])) 1 (f91_fr6 a0 y1 y2 bq7 bq8) n (f91_fr6 a0 y1 y2 q7 q8) (f91_k6 K a0 (realL (f91E K) 1)) = f91_l6 K a0 y1 y2 n q7 q8 := by
  have key : ∀ (lr : LR (Int × Int × Int)) (L : Fr → Option (Int × Int × Int)) (q7 : Int) (q8 : List (Int × Int)), execG (f91E K) 1 lr (selC f91C [1, 1, 1, 0, 1, 0, 0]) (f91_fr6 a0 y1 y2 q7 q8) (loopK 1 (f91_fr6 a0 y1 y2 bq7 bq8) L (f91_k6 K a0 lr)) = f91_b6 K a0 y1 y2 (fun v0 v1 => L (f91_fr6 a0 y1 y2 v0 v1)) q7 q8 := by
    intro lr L q7 q8; kernel_rfl
  intro n q7 q8
  refine loopN_iter (X := Int × List (Int × Int)) (frame := fun x => (f91_fr6 a0 y1 y2 x.1 x.2)) (body := (fun L x => (fun L6 => f91_b6 K a0 y1 y2 L6 x.1 x.2) (fun v0 v1 => L (v0, v1)))) (fun L x => ?_) n (q7, q8)
  rw [exec_G]
  exact (key (realL (f91E K) 1) L x.1 x.2).trans (by rfl)
theorem f91_run (K : Nat) (a0 : Int × (Int × Int × Int) × List Int) : runF (f91E K) Tryz.f91 [(.ro, (.cons (.int .i64) (.cons (.cons (.int .i64) (.cons (.int .i64) (.int .i64))) (.list 2 (.int .i64)))))] [(.cons (.int .i64) (.cons (.int .i64) (.int .i64)))] (a0, ()) = f91G K a0 := by
  have key : ∀ (lr : LR (Int × Int × Int)), runG (f91E K) Tryz.f91 [(.ro, (.cons (.int .i64) (.cons (.cons (.int .i64) (.cons (.int .i64) (.int .i64))) (.list 2 (.int .i64)))))] [(.cons (.int .i64) (.cons (.int .i64) (.int .i64)))] (a0, ()) lr = f91_g K a0 (fun c0 c1 d0 d1 => lr (selC f91C [1, 1, 1, 0, 1, 0, 0]) (f91_fr6 a0 c0 c1 d0 d1) (f91_k6 K a0 lr)) := by intro lr; kernel_rfl
  have h6 : (fun c0 c1 d0 d1 => (realL (f91E K) 1) (selC f91C [1, 1, 1, 0, 1, 0, 0]) (f91_fr6 a0 c0 c1 d0 d1) (f91_k6 K a0 (realL (f91E K) 1))) = fun c0 c1 d0 d1 => f91_l6 K a0 c0 c1 K d0 d1 := by
    funext c0 c1 d0 d1
    exact f91_t6 K a0 c0 c1 d0 d1 K d0 d1
  exact runF_G (n0 := 1) (by rfl) ((key (realL (f91E K) 1)).trans (by rw [h6] <;> rfl))
end Go.Proofs.YtbgdojniimdihaaGreat.X
