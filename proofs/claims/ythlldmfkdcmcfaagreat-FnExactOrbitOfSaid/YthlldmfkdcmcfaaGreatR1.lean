/- Functions of the program as plain Lean functions, and that the program does what they say. Printed by gen.py. -/
import Derived.Test.YthlldmfkdcmcfaaGreatD0
namespace Go.Proofs.YthlldmfkdcmcfaaGreat.X
open Go
set_option maxRecDepth 100000
set_option linter.unusedVariables false
theorem f125_t9 (K : Nat) (a0 : List (Int × Int)) (q8 : Int) (F7 : Fr → Option (List (Int × Int))) (bq8 : Int) (bq10 : Int) (bq11 : Int) (bq12 : List (Int × Int)) : ∀ (n : Nat) (q10 : Int) (q11 : Int) (q12 : List (Int × Int)), loopN (exec (f125E K) 1 (selC f125C [1, 1, 0, 1, 0, 0, 1, 0, 0, 1, 0, 1, 0, 1, 0, 0])) 1 (f125_fr9 a0 q8 bq10 bq11 bq12) n (f125_fr9 a0 q8 q10 q11 q12) (f125_k9 K a0 F7 bq8 (realL (f125E K) 1)) = f125_l9 K a0 q8 n q10 q11 q12 := by
  have key : ∀ (lr : LR (List (Int × Int))) (L : Fr → Option (List (Int × Int))) (q10 : Int) (q11 : Int) (q12 : List (Int × Int)), execG (f125E K) 1 lr (selC f125C [1, 1, 0, 1, 0, 0, 1, 0, 0, 1, 0, 1, 0, 1, 0, 0]) (f125_fr9 a0 q8 q10 q11 q12) (loopK 1 (f125_fr9 a0 q8 bq10 bq11 bq12) L (f125_k9 K a0 F7 bq8 lr)) = f125_b9 K a0 q8 (fun v0 v1 v2 => L (f125_fr9 a0 q8 v0 v1 v2)) q10 q11 q12 := by
    intro lr L q10 q11 q12; kernel_rfl
  intro n q10 q11 q12
  refine loopN_iter (X := Int × Int × List (Int × Int)) (frame := fun x => (f125_fr9 a0 q8 x.1 x.2.1 x.2.2)) (body := (fun L x => (fun L9 => f125_b9 K a0 q8 L9 x.1 x.2.1 x.2.2) (fun v0 v1 v2 => L (v0, v1, v2)))) (fun L x => ?_) n (q10, q11, q12)
  rw [exec_G]
  exact (key (realL (f125E K) 1) L x.1 x.2.1 x.2.2).trans (by rfl)
theorem f125_t7 (K : Nat) (a0 : List (Int × Int)) (bq8 : Int) : ∀ (n : Nat) (q8 : Int), loopN (exec (f125E K) 1 (selC f125C [1, 1, 0, 1, 0, 0])) 1 (f125_fr7 a0 bq8) n (f125_fr7 a0 q8) (f125_k7 K a0 (realL (f125E K) 1)) = f125_l7 K a0 n q8 := by
  have key : ∀ (lr : LR (List (Int × Int))) (L : Fr → Option (List (Int × Int))) (q8 : Int), execG (f125E K) 1 lr (selC f125C [1, 1, 0, 1, 0, 0]) (f125_fr7 a0 q8) (loopK 1 (f125_fr7 a0 bq8) L (f125_k7 K a0 lr)) = f125_b7 K a0 (fun c0 d0 d1 d2 => lr (selC f125C [1, 1, 0, 1, 0, 0, 1, 0, 0, 1, 0, 1, 0, 1, 0, 0]) (f125_fr9 a0 c0 d0 d1 d2) (f125_k9 K a0 L bq8 lr)) (fun v0 => L (f125_fr7 a0 v0)) q8 := by
    intro lr L q8; kernel_rfl
  intro n q8
  refine loopN_iter (X := Int) (frame := fun x => (f125_fr7 a0 x)) (body := (fun L x => (fun L7 => f125_b7 K a0 (fun c0 d0 d1 d2 => f125_l9 K a0 c0 K d0 d1 d2) L7 x) (fun v0 => L v0))) (fun L x => ?_) n q8
  rw [exec_G]
  have h9 : (fun c0 d0 d1 d2 => (realL (f125E K) 1) (selC f125C [1, 1, 0, 1, 0, 0, 1, 0, 0, 1, 0, 1, 0, 1, 0, 0]) (f125_fr9 a0 c0 d0 d1 d2) (f125_k9 K a0 L bq8 (realL (f125E K) 1))) = fun c0 d0 d1 d2 => f125_l9 K a0 c0 K d0 d1 d2 := by
    funext c0 d0 d1 d2
    exact f125_t9 K a0 c0 L bq8 d0 d1 d2 K d0 d1 d2
  exact (key (realL (f125E K) 1) L x).trans (by rw [h9] <;> rfl)
theorem f125_run (K : Nat) (a0 : List (Int × Int)) : runF (f125E K) Tryz.f125 [(.mv, (.list 32 (.cons (.int .i64) (.int .i64))))] [(.list 32 (.cons (.int .i64) (.int .i64)))] (a0, ()) = f125G K a0 := by
  have key : ∀ (lr : LR (List (Int × Int))), runG (f125E K) Tryz.f125 [(.mv, (.list 32 (.cons (.int .i64) (.int .i64))))] [(.list 32 (.cons (.int .i64) (.int .i64)))] (a0, ()) lr = f125_g K a0 (fun d0 => lr (selC f125C [1, 1, 0, 1, 0, 0]) (f125_fr7 a0 d0) (f125_k7 K a0 lr)) := by intro lr; kernel_rfl
  have h7 : (fun d0 => (realL (f125E K) 1) (selC f125C [1, 1, 0, 1, 0, 0]) (f125_fr7 a0 d0) (f125_k7 K a0 (realL (f125E K) 1))) = fun d0 => f125_l7 K a0 K d0 := by
    funext d0
    exact f125_t7 K a0 d0 K d0
  exact runF_G (n0 := 1) (by rfl) ((key (realL (f125E K) 1)).trans (by rw [h7] <;> rfl))
theorem f84_t3 (K : Nat) (a0 : Int × Int × Int) (a1 : List ((Int × Int × Int × Int) × Int × Int)) (a2 : Int × Int) (bq4 : Int) (bq5 : List (Int × Int)) : ∀ (n : Nat) (q4 : Int) (q5 : List (Int × Int)), loopN (exec (f84E K) 1 (selC f84C [1, 1, 0, 1, 0, 0])) 1 (f84_fr3 a0 a1 a2 bq4 bq5) n (f84_fr3 a0 a1 a2 q4 q5) (f84_k3 K a0 a1 a2 (realL (f84E K) 1)) = f84_l3 K a0 a1 a2 n q4 q5 := by
  have key : ∀ (lr : LR (List (Int × Int))) (L : Fr → Option (List (Int × Int))) (q4 : Int) (q5 : List (Int × Int)), execG (f84E K) 1 lr (selC f84C [1, 1, 0, 1, 0, 0]) (f84_fr3 a0 a1 a2 q4 q5) (loopK 1 (f84_fr3 a0 a1 a2 bq4 bq5) L (f84_k3 K a0 a1 a2 lr)) = f84_b3 K a0 a1 a2 (fun v0 v1 => L (f84_fr3 a0 a1 a2 v0 v1)) q4 q5 := by
    intro lr L q4 q5; kernel_rfl
  intro n q4 q5
  refine loopN_iter (X := Int × List (Int × Int)) (frame := fun x => (f84_fr3 a0 a1 a2 x.1 x.2)) (body := (fun L x => (fun L3 => f84_b3 K a0 a1 a2 L3 x.1 x.2) (fun v0 v1 => L (v0, v1)))) (fun L x => ?_) n (q4, q5)
  rw [exec_G]
  exact (key (realL (f84E K) 1) L x.1 x.2).trans (by rfl)
theorem f84_run (K : Nat) (a0 : Int × Int × Int) (a1 : List ((Int × Int × Int × Int) × Int × Int)) (a2 : Int × Int) : runF (f84E K) Tryz.f84 [(.ro, (.cons (.int .i64) (.cons (.int .i64) (.int .i64)))), (.ro, (.list 34 (.cons (.cons (.int .i64) (.cons (.int .i64) (.cons (.int .i64) (.int .i64)))) (.cons (.int .i64) (.int .i64))))), (.ro, (.cons (.int .i64) (.int .i64)))] [(.list 32 (.cons (.int .i64) (.int .i64)))] (a0, a1, a2, ()) = f84G K a0 a1 a2 := by
  have key : ∀ (lr : LR (List (Int × Int))), runG (f84E K) Tryz.f84 [(.ro, (.cons (.int .i64) (.cons (.int .i64) (.int .i64)))), (.ro, (.list 34 (.cons (.cons (.int .i64) (.cons (.int .i64) (.cons (.int .i64) (.int .i64)))) (.cons (.int .i64) (.int .i64))))), (.ro, (.cons (.int .i64) (.int .i64)))] [(.list 32 (.cons (.int .i64) (.int .i64)))] (a0, a1, a2, ()) lr = f84_g K a0 a1 a2 (fun d0 d1 => lr (selC f84C [1, 1, 0, 1, 0, 0]) (f84_fr3 a0 a1 a2 d0 d1) (f84_k3 K a0 a1 a2 lr)) := by intro lr; kernel_rfl
  have h3 : (fun d0 d1 => (realL (f84E K) 1) (selC f84C [1, 1, 0, 1, 0, 0]) (f84_fr3 a0 a1 a2 d0 d1) (f84_k3 K a0 a1 a2 (realL (f84E K) 1))) = fun d0 d1 => f84_l3 K a0 a1 a2 K d0 d1 := by
    funext d0 d1
    exact f84_t3 K a0 a1 a2 d0 d1 K d0 d1
  exact runF_G (n0 := 1) (by rfl) ((key (realL (f84E K) 1)).trans (by rw [h3] <;> rfl))
theorem f38_run (K : Nat) (a0 : Int) (a1 : Int × Int × Int) (a2 : List ((Int × Int × Int × Int) × Int × Int)) (a3 : Int × Int) : runF (f38E K) Tryz.f38 [(.ro, (.int .i64)), (.ro, (.cons (.int .i64) (.cons (.int .i64) (.int .i64)))), (.ro, (.list 34 (.cons (.cons (.int .i64) (.cons (.int .i64) (.cons (.int .i64) (.int .i64)))) (.cons (.int .i64) (.int .i64))))), (.ro, (.cons (.int .i64) (.int .i64)))] [(.list 32 (.cons (.int .i64) (.int .i64))), (.int .i64)] (a0, a1, a2, a3, ()) = f38G K a0 a1 a2 a3 := by kernel_rfl
theorem f22_run (K : Nat) (a0 : Int × Int) (a1 : Int × Int) : runF (f22E K) Tryz.f22 [(.ro, (.cons (.int .i64) (.int .i64))), (.ro, (.cons (.int .i64) (.int .i64)))] [.bool] (a0, a1, ()) = f22G K a0 a1 := by kernel_rfl
theorem f24_t3 (K : Nat) (a0 : List (Int × Int)) (a1 : List (Int × Int)) (bq4 : Int) : ∀ (n : Nat) (q4 : Int), loopN (exec (f24E K) 2 (selC f24C [1, 1, 0, 1, 0, 0])) 2 (f24_fr3 a0 a1 bq4) n (f24_fr3 a0 a1 q4) (f24_k3 K a0 a1 (realL (f24E K) 2)) = f24_l3 K a0 a1 n q4 := by
  have key : ∀ (lr : LR Bool) (L : Fr → Option Bool) (q4 : Int), execG (f24E K) 2 lr (selC f24C [1, 1, 0, 1, 0, 0]) (f24_fr3 a0 a1 q4) (loopK 2 (f24_fr3 a0 a1 bq4) L (f24_k3 K a0 a1 lr)) = f24_b3 K a0 a1 (fun v0 => L (f24_fr3 a0 a1 v0)) q4 := by
    intro lr L q4; kernel_rfl
  intro n q4
  refine loopN_iter (X := Int) (frame := fun x => (f24_fr3 a0 a1 x)) (body := (fun L x => (fun L3 => f24_b3 K a0 a1 L3 x) (fun v0 => L v0))) (fun L x => ?_) n q4
  rw [exec_G]
  exact (key (realL (f24E K) 2) L x).trans (by rfl)
theorem f24_run (K : Nat) (a0 : List (Int × Int)) (a1 : List (Int × Int)) : runF (f24E K) Tryz.f24 [(.ro, (.list 32 (.cons (.int .i64) (.int .i64)))), (.ro, (.list 32 (.cons (.int .i64) (.int .i64))))] [.bool] (a0, a1, ()) = f24G K a0 a1 := by
  have key : ∀ (lr : LR Bool), runG (f24E K) Tryz.f24 [(.ro, (.list 32 (.cons (.int .i64) (.int .i64)))), (.ro, (.list 32 (.cons (.int .i64) (.int .i64))))] [.bool] (a0, a1, ()) lr = f24_g K a0 a1 (fun d0 => lr (selC f24C [1, 1, 0, 1, 0, 0]) (f24_fr3 a0 a1 d0) (f24_k3 K a0 a1 lr)) := by intro lr; kernel_rfl
  have h3 : (fun d0 => (realL (f24E K) 2) (selC f24C [1, 1, 0, 1, 0, 0]) (f24_fr3 a0 a1 d0) (f24_k3 K a0 a1 (realL (f24E K) 2))) = fun d0 => f24_l3 K a0 a1 K d0 := by
    funext d0
    exact f24_t3 K a0 a1 d0 K d0
  exact runF_G (n0 := 2) (by rfl) ((key (realL (f24E K) 2)).trans (by rw [h3] <;> rfl))
theorem f76_run (K : Nat) (a0 : Int × Int × Int × Int) (a1 : Int × Int × Int × Int) : runF (f76E K) Tryz.f76 [(.ro, (.cons (.int .i64) (.cons (.int .i64) (.cons (.int .i64) (.int .i64))))), (.ro, (.cons (.int .i64) (.cons (.int .i64) (.cons (.int .i64) (.int .i64)))))] [.bool] (a0, a1, ()) = f76G K a0 a1 := by kernel_rfl
theorem f21_run (K : Nat) (a0 : (Int × Int × Int × Int) × Int × Int) (a1 : (Int × Int × Int × Int) × Int × Int) : runF (f21E K) Tryz.f21 [(.ro, (.cons (.cons (.int .i64) (.cons (.int .i64) (.cons (.int .i64) (.int .i64)))) (.cons (.int .i64) (.int .i64)))), (.ro, (.cons (.cons (.int .i64) (.cons (.int .i64) (.cons (.int .i64) (.int .i64)))) (.cons (.int .i64) (.int .i64))))] [.bool] (a0, a1, ()) = f21G K a0 a1 := by kernel_rfl
theorem f23_t3 (K : Nat) (a0 : List ((Int × Int × Int × Int) × Int × Int)) (a1 : List ((Int × Int × Int × Int) × Int × Int)) (bq4 : Int) : ∀ (n : Nat) (q4 : Int), loopN (exec (f23E K) 2 (selC f23C [1, 1, 0, 1, 0, 0])) 2 (f23_fr3 a0 a1 bq4) n (f23_fr3 a0 a1 q4) (f23_k3 K a0 a1 (realL (f23E K) 2)) = f23_l3 K a0 a1 n q4 := by
  have key : ∀ (lr : LR Bool) (L : Fr → Option Bool) (q4 : Int), execG (f23E K) 2 lr (selC f23C [1, 1, 0, 1, 0, 0]) (f23_fr3 a0 a1 q4) (loopK 2 (f23_fr3 a0 a1 bq4) L (f23_k3 K a0 a1 lr)) = f23_b3 K a0 a1 (fun v0 => L (f23_fr3 a0 a1 v0)) q4 := by
    intro lr L q4; kernel_rfl
  intro n q4
  refine loopN_iter (X := Int) (frame := fun x => (f23_fr3 a0 a1 x)) (body := (fun L x => (fun L3 => f23_b3 K a0 a1 L3 x) (fun v0 => L v0))) (fun L x => ?_) n q4
  rw [exec_G]
  exact (key (realL (f23E K) 2) L x).trans (by rfl)
theorem f23_run (K : Nat) (a0 : List ((Int × Int × Int × Int) × Int × Int)) (a1 : List ((Int × Int × Int × Int) × Int × Int)) : runF (f23E K) Tryz.f23 [(.ro, (.list 34 (.cons (.cons (.int .i64) (.cons (.int .i64) (.cons (.int .i64) (.int .i64)))) (.cons (.int .i64) (.int .i64))))), (.ro, (.list 34 (.cons (.cons (.int .i64) (.cons (.int .i64) (.cons (.int .i64) (.int .i64)))) (.cons (.int .i64) (.int .i64)))))] [.bool] (a0, a1, ()) = f23G K a0 a1 := by
  have key : ∀ (lr : LR Bool), runG (f23E K) Tryz.f23 [(.ro, (.list 34 (.cons (.cons (.int .i64) (.cons (.int .i64) (.cons (.int .i64) (.int .i64)))) (.cons (.int .i64) (.int .i64))))), (.ro, (.list 34 (.cons (.cons (.int .i64) (.cons (.int .i64) (.cons (.int .i64) (.int .i64)))) (.cons (.int .i64) (.int .i64)))))] [.bool] (a0, a1, ()) lr = f23_g K a0 a1 (fun d0 => lr (selC f23C [1, 1, 0, 1, 0, 0]) (f23_fr3 a0 a1 d0) (f23_k3 K a0 a1 lr)) := by intro lr; kernel_rfl
  have h3 : (fun d0 => (realL (f23E K) 2) (selC f23C [1, 1, 0, 1, 0, 0]) (f23_fr3 a0 a1 d0) (f23_k3 K a0 a1 (realL (f23E K) 2))) = fun d0 => f23_l3 K a0 a1 K d0 := by
    funext d0
    exact f23_t3 K a0 a1 d0 K d0
  exact runF_G (n0 := 2) (by rfl) ((key (realL (f23E K) 2)).trans (by rw [h3] <;> rfl))
theorem f28_t2 (K : Nat) (a0 : List ((Int × Int × Int × Int) × Int × Int)) (a1 : Int) (bq3 : Int) (bq4 : Int) (bq5 : List ((Int × Int × Int × Int) × Int × Int)) : ∀ (n : Nat) (q3 : Int) (q4 : Int) (q5 : List ((Int × Int × Int × Int) × Int × Int)), loopN (exec (f28E K) 1 (selC f28C [1, 0, 1, 0, 0])) 1 (f28_fr2 bq3 bq4 bq5) n (f28_fr2 q3 q4 q5) (f28_k2 K a0 a1 (realL (f28E K) 1)) = f28_l2 K n q3 q4 q5 := by
  have key : ∀ (lr : LR ((List ((Int × Int × Int × Int) × Int × Int)) × Int)) (L : Fr → Option ((List ((Int × Int × Int × Int) × Int × Int)) × Int)) (q3 : Int) (q4 : Int) (q5 : List ((Int × Int × Int × Int) × Int × Int)), execG (f28E K) 1 lr (selC f28C [1, 0, 1, 0, 0]) (f28_fr2 q3 q4 q5) (loopK 1 (f28_fr2 bq3 bq4 bq5) L (f28_k2 K a0 a1 lr)) = f28_b2 K (fun v0 v1 v2 => L (f28_fr2 v0 v1 v2)) q3 q4 q5 := by
    intro lr L q3 q4 q5; kernel_rfl
  intro n q3 q4 q5
  refine loopN_iter (X := Int × Int × List ((Int × Int × Int × Int) × Int × Int)) (frame := fun x => (f28_fr2 x.1 x.2.1 x.2.2)) (body := (fun L x => (fun L2 => f28_b2 K L2 x.1 x.2.1 x.2.2) (fun v0 v1 v2 => L (v0, v1, v2)))) (fun L x => ?_) n (q3, q4, q5)
  rw [exec_G]
  exact (key (realL (f28E K) 1) L x.1 x.2.1 x.2.2).trans (by rfl)
theorem f28_run (K : Nat) (a0 : List ((Int × Int × Int × Int) × Int × Int)) (a1 : Int) : runF (f28E K) Tryz.f28 [(.io, (.list 34 (.cons (.cons (.int .i64) (.cons (.int .i64) (.cons (.int .i64) (.int .i64)))) (.cons (.int .i64) (.int .i64))))), (.ro, (.int .i64))] [(.int .i64)] (a0, a1, ()) = f28G K a0 a1 := by
  have key : ∀ (lr : LR ((List ((Int × Int × Int × Int) × Int × Int)) × Int)), runG (f28E K) Tryz.f28 [(.io, (.list 34 (.cons (.cons (.int .i64) (.cons (.int .i64) (.cons (.int .i64) (.int .i64)))) (.cons (.int .i64) (.int .i64))))), (.ro, (.int .i64))] [(.int .i64)] (a0, a1, ()) lr = f28_g K a0 a1 (fun d0 d1 d2 => lr (selC f28C [1, 0, 1, 0, 0]) (f28_fr2 d0 d1 d2) (f28_k2 K a0 a1 lr)) := by intro lr; kernel_rfl
  have h2 : (fun d0 d1 d2 => (realL (f28E K) 1) (selC f28C [1, 0, 1, 0, 0]) (f28_fr2 d0 d1 d2) (f28_k2 K a0 a1 (realL (f28E K) 1))) = fun d0 d1 d2 => f28_l2 K K d0 d1 d2 := by
    funext d0 d1 d2
    exact f28_t2 K a0 a1 d0 d1 d2 K d0 d1 d2
  exact runF_G (n0 := 1) (by rfl) ((key (realL (f28E K) 1)).trans (by rw [h2] <;> rfl))
theorem f29_t2 (K : Nat) (a0 : List (Int × Int)) (a1 : Int) (bq3 : Int) (bq4 : Int) (bq5 : List (Int × Int)) : ∀ (n : Nat) (q3 : Int) (q4 : Int) (q5 : List (Int × Int)), loopN (exec (f29E K) 1 (selC f29C [1, 0, 1, 0, 0])) 1 (f29_fr2 bq3 bq4 bq5) n (f29_fr2 q3 q4 q5) (f29_k2 K a0 a1 (realL (f29E K) 1)) = f29_l2 K n q3 q4 q5 := by
  have key : ∀ (lr : LR ((List (Int × Int)) × Int)) (L : Fr → Option ((List (Int × Int)) × Int)) (q3 : Int) (q4 : Int) (q5 : List (Int × Int)), execG (f29E K) 1 lr (selC f29C [1, 0, 1, 0, 0]) (f29_fr2 q3 q4 q5) (loopK 1 (f29_fr2 bq3 bq4 bq5) L (f29_k2 K a0 a1 lr)) = f29_b2 K (fun v0 v1 v2 => L (f29_fr2 v0 v1 v2)) q3 q4 q5 := by
    intro lr L q3 q4 q5; kernel_rfl
  intro n q3 q4 q5
  refine loopN_iter (X := Int × Int × List (Int × Int)) (frame := fun x => (f29_fr2 x.1 x.2.1 x.2.2)) (body := (fun L x => (fun L2 => f29_b2 K L2 x.1 x.2.1 x.2.2) (fun v0 v1 v2 => L (v0, v1, v2)))) (fun L x => ?_) n (q3, q4, q5)
  rw [exec_G]
  exact (key (realL (f29E K) 1) L x.1 x.2.1 x.2.2).trans (by rfl)
theorem f29_run (K : Nat) (a0 : List (Int × Int)) (a1 : Int) : runF (f29E K) Tryz.f29 [(.io, (.list 32 (.cons (.int .i64) (.int .i64)))), (.ro, (.int .i64))] [(.int .i64)] (a0, a1, ()) = f29G K a0 a1 := by
  have key : ∀ (lr : LR ((List (Int × Int)) × Int)), runG (f29E K) Tryz.f29 [(.io, (.list 32 (.cons (.int .i64) (.int .i64)))), (.ro, (.int .i64))] [(.int .i64)] (a0, a1, ()) lr = f29_g K a0 a1 (fun d0 d1 d2 => lr (selC f29C [1, 0, 1, 0, 0]) (f29_fr2 d0 d1 d2) (f29_k2 K a0 a1 lr)) := by intro lr; kernel_rfl
  have h2 : (fun d0 d1 d2 => (realL (f29E K) 1) (selC f29C [1, 0, 1, 0, 0]) (f29_fr2 d0 d1 d2) (f29_k2 K a0 a1 (realL (f29E K) 1))) = fun d0 d1 d2 => f29_l2 K K d0 d1 d2 := by
    funext d0 d1 d2
    exact f29_t2 K a0 a1 d0 d1 d2 K d0 d1 d2
  exact runF_G (n0 := 1) (by rfl) ((key (realL (f29E K) 1)).trans (by rw [h2] <;> rfl))
theorem f39_t2 (K : Nat) (a0 : List (Int × Int)) (a1 : Int) (bq3 : Int) (bq4 : Int) : ∀ (n : Nat) (q3 : Int) (q4 : Int), loopN (exec (f39E K) 1 (selC f39C [1, 0, 1, 0, 0])) 1 (f39_fr2 a0 bq3 bq4) n (f39_fr2 a0 q3 q4) (f39_k2 K a0 a1 (realL (f39E K) 1)) = f39_l2 K a0 n q3 q4 := by
  have key : ∀ (lr : LR Int) (L : Fr → Option Int) (q3 : Int) (q4 : Int), execG (f39E K) 1 lr (selC f39C [1, 0, 1, 0, 0]) (f39_fr2 a0 q3 q4) (loopK 1 (f39_fr2 a0 bq3 bq4) L (f39_k2 K a0 a1 lr)) = f39_b2 K a0 (fun v0 v1 => L (f39_fr2 a0 v0 v1)) q3 q4 := by
    intro lr L q3 q4; kernel_rfl
  intro n q3 q4
  refine loopN_iter (X := Int × Int) (frame := fun x => (f39_fr2 a0 x.1 x.2)) (body := (fun L x => (fun L2 => f39_b2 K a0 L2 x.1 x.2) (fun v0 v1 => L (v0, v1)))) (fun L x => ?_) n (q3, q4)
  rw [exec_G]
  exact (key (realL (f39E K) 1) L x.1 x.2).trans (by rfl)
theorem f39_run (K : Nat) (a0 : List (Int × Int)) (a1 : Int) : runF (f39E K) Tryz.f39 [(.ro, (.list 32 (.cons (.int .i64) (.int .i64)))), (.ro, (.int .i64))] [(.int .i64)] (a0, a1, ()) = f39G K a0 a1 := by
  have key : ∀ (lr : LR Int), runG (f39E K) Tryz.f39 [(.ro, (.list 32 (.cons (.int .i64) (.int .i64)))), (.ro, (.int .i64))] [(.int .i64)] (a0, a1, ()) lr = f39_g K a0 a1 (fun d0 d1 => lr (selC f39C [1, 0, 1, 0, 0]) (f39_fr2 a0 d0 d1) (f39_k2 K a0 a1 lr)) := by intro lr; kernel_rfl
  have h2 : (fun d0 d1 => (realL (f39E K) 1) (selC f39C [1, 0, 1, 0, 0]) (f39_fr2 a0 d0 d1) (f39_k2 K a0 a1 (realL (f39E K) 1))) = fun d0 d1 => f39_l2 K a0 K d0 d1 := by
    funext d0 d1
    exact f39_t2 K a0 a1 d0 d1 K d0 d1
  exact runF_G (n0 := 1) (by rfl) ((key (realL (f39E K) 1)).trans (by rw [h2] <;> rfl))
theorem f6_run (K : Nat) (a0 : Int) (a1 : Int × Int × Int) (a2 : List ((Int × Int × Int × Int) × Int × Int)) (a3 : Int × Int) : runF (f6E K) Tryz.f6 [(.ro, (.int .i64)), (.ro, (.cons (.int .i64) (.cons (.int .i64) (.int .i64)))), (.ro, (.list 96 (.cons (.cons (.int .i64) (.cons (.int .i64) (.cons (.int .i64) (.int .i64)))) (.cons (.int .i64) (.int .i64))))), (.ro, (.cons (.int .i64) (.int .i64)))] [.bool] (a0, a1, a2, a3, ()) = f6G K a0 a1 a2 a3 := by kernel_rfl
theorem f68_run (K : Nat) (a0 : Int × Int × Int) (a1 : Int × Int) : runF (f68E K) Tryz.f68 [(.ro, (.cons (.int .i64) (.cons (.int .i64) (.int .i64)))), (.ro, (.cons (.int .i64) (.int .i64)))] [(.int .i64)] (a0, a1, ()) = f68G K a0 a1 := by kernel_rfl
theorem f49_t6 (K : Nat) (a0 : Int) (a1 : Int × Int × Int) (a2 : List ((Int × Int × Int × Int) × Int × Int)) (a3 : Int × Int) (y2 : Int) (y3 : List (Int × Int)) (bq7 : Int) (bq8 : List Int) : ∀ (n : Nat) (q7 : Int) (q8 : List Int), loopN (exec (f49E K) 1 (selC f49C [1, 1, 1, 1, 1, 0, 1, 0, 0])) 1 (f49_fr6 a0 a1 a2 a3 y2 y3 bq7 bq8) n (f49_fr6 a0 a1 a2 a3 y2 y3 q7 q8) (f49_k6 K a0 a1 a2 a3 (realL (f49E K) 1)) = f49_l6 K a0 a1 a2 a3 y2 y3 n q7 q8 := by
  have key : ∀ (lr : LR ((Int × (Int × Int × Int) × List Int) × Int)) (L : Fr → Option ((Int × (Int × Int × Int) × List Int) × Int)) (q7 : Int) (q8 : List Int), execG (f49E K) 1 lr (selC f49C [1, 1, 1, 1, 1, 0, 1, 0, 0]) (f49_fr6 a0 a1 a2 a3 y2 y3 q7 q8) (loopK 1 (f49_fr6 a0 a1 a2 a3 y2 y3 bq7 bq8) L (f49_k6 K a0 a1 a2 a3 lr)) = f49_b6 K a0 a1 a2 a3 y2 y3 (fun v0 v1 => L (f49_fr6 a0 a1 a2 a3 y2 y3 v0 v1)) q7 q8 := by
    intro lr L q7 q8; kernel_rfl
  intro n q7 q8
  refine loopN_iter (X := Int × List Int) (frame := fun x => (f49_fr6 a0 a1 a2 a3 y2 y3 x.1 x.2)) (body := (fun L x => (fun L6 => f49_b6 K a0 a1 a2 a3 y2 y3 L6 x.1 x.2) (fun v0 v1 => L (v0, v1)))) (fun L x => ?_) n (q7, q8)
  rw [exec_G]
  exact (key (realL (f49E K) 1) L x.1 x.2).trans (by rfl)
theorem f49_run (K : Nat) (a0 : Int) (a1 : Int × Int × Int) (a2 : List ((Int × Int × Int × Int) × Int × Int)) (a3 : Int × Int) : runF (f49E K) Tryz.f49 [(.ro, (.int .i64)), (.ro, (.cons (.int .i64) (.cons (.int .i64) (.int .i64)))), (.ro, (.list 34 (.cons (.cons (.int .i64) (.cons (.int .i64) (.cons (.int .i64) (.int .i64)))) (.cons (.int .i64) (.int .i64))))), (.ro, (.cons (.int .i64) (.int .i64)))] [(.cons (.int .i64) (.cons (.cons (.int .i64) (.cons (.int .i64) (.int .i64))) (.list 2 (.int .i64)))), (.int .i64)] (a0, a1, a2, a3, ()) = f49G K a0 a1 a2 a3 := by
  have key : ∀ (lr : LR ((Int × (Int × Int × Int) × List Int) × Int)), runG (f49E K) Tryz.f49 [(.ro, (.int .i64)), (.ro, (.cons (.int .i64) (.cons (.int .i64) (.int .i64)))), (.ro, (.list 34 (.cons (.cons (.int .i64) (.cons (.int .i64) (.cons (.int .i64) (.int .i64)))) (.cons (.int .i64) (.int .i64))))), (.ro, (.cons (.int .i64) (.int .i64)))] [(.cons (.int .i64) (.cons (.cons (.int .i64) (.cons (.int .i64) (.int .i64))) (.list 2 (.int .i64)))), (.int .i64)] (a0, a1, a2, a3, ()) lr = f49_g K a0 a1 a2 a3 (fun c0 c1 d0 d1 => lr (selC f49C [1, 1, 1, 1, 1, 0, 1, 0, 0]) (f49_fr6 a0 a1 a2 a3 c0 c1 d0 d1) (f49_k6 K a0 a1 a2 a3 lr)) := by intro lr; kernel_rfl
  have h6 : (fun c0 c1 d0 d1 => (realL (f49E K) 1) (selC f49C [1, 1, 1, 1, 1, 0, 1, 0, 0]) (f49_fr6 a0 a1 a2 a3 c0 c1 d0 d1) (f49_k6 K a0 a1 a2 a3 (realL (f49E K) 1))) = fun c0 c1 d0 d1 => f49_l6 K a0 a1 a2 a3 c0 c1 K d0 d1 := by
    funext c0 c1 d0 d1
    exact f49_t6 K a0 a1 a2 a3 c0 c1 d0 d1 K d0 d1
  exact runF_G (n0 := 1) (by rfl) ((key (realL (f49E K) 1)).trans (by rw [h6] <;> rfl))
theorem f79_run (K : Nat) (a0 : Int × Int × Int) (a1 : Int × Int) : runF (f79E K) Tryz.f79 [(.ro, (.cons (.int .i64) (.cons (.int .i64) (.int .i64)))), (.ro, (.cons (.int .i64) (.int .i64)))] [(.int .i64)] (a0, a1, ()) = f79G K a0 a1 := by kernel_rfl
theorem f78_t4 (K : Nat) (a0 : Int) (a1 : Int × Int × Int) (a2 : List (Int × Int)) (a3 : Int) (bq5 : Int) (bq6 : List Int) : ∀ (n : Nat) (q5 : Int) (q6 : List Int), loopN (exec (f78E K) 1 (selC f78C [1, 1, 0, 1, 0, 0])) 1 (f78_fr4 a0 a1 a2 a3 bq5 bq6) n (f78_fr4 a0 a1 a2 a3 q5 q6) (f78_k4 K a0 a1 a2 a3 (realL (f78E K) 1)) = f78_l4 K a0 a1 a2 a3 n q5 q6 := by
  have key : ∀ (lr : LR (Int × (Int × Int × Int) × List Int)) (L : Fr → Option (Int × (Int × Int × Int) × List Int)) (q5 : Int) (q6 : List Int), execG (f78E K) 1 lr (selC f78C [1, 1, 0, 1, 0, 0]) (f78_fr4 a0 a1 a2 a3 q5 q6) (loopK 1 (f78_fr4 a0 a1 a2 a3 bq5 bq6) L (f78_k4 K a0 a1 a2 a3 lr)) = f78_b4 K a0 a1 a2 a3 (fun v0 v1 => L (f78_fr4 a0 a1 a2 a3 v0 v1)) q5 q6 := by
    intro lr L q5 q6; kernel_rfl
  intro n q5 q6
  refine loopN_iter (X := Int × List Int) (frame := fun x => (f78_fr4 a0 a1 a2 a3 x.1 x.2)) (body := (fun L x => (fun L4 => f78_b4 K a0 a1 a2 a3 L4 x.1 x.2) (fun v0 v1 => L (v0, v1)))) (fun L x => ?_) n (q5, q6)
  rw [exec_G]
  exact (key (realL (f78E K) 1) L x.1 x.2).trans (by rfl)
theorem f78_run (K : Nat) (a0 : Int) (a1 : Int × Int × Int) (a2 : List (Int × Int)) (a3 : Int) : runF (f78E K) Tryz.f78 [(.ro, (.int .i64)), (.ro, (.cons (.int .i64) (.cons (.int .i64) (.int .i64)))), (.ro, (.list 32 (.cons (.int .i64) (.int .i64)))), (.ro, (.int .i64))] [(.cons (.int .i64) (.cons (.cons (.int .i64) (.cons (.int .i64) (.int .i64))) (.list 2 (.int .i64))))] (a0, a1, a2, a3, ()) = f78G K a0 a1 a2 a3 := by
  have key : ∀ (lr : LR (Int × (Int × Int × Int) × List Int)), runG (f78E K) Tryz.f78 [(.ro, (.int .i64)), (.ro, (.cons (.int .i64) (.cons (.int .i64) (.int .i64)))), (.ro, (.list 32 (.cons (.int .i64) (.int .i64)))), (.ro, (.int .i64))] [(.cons (.int .i64) (.cons (.cons (.int .i64) (.cons (.int .i64) (.int .i64))) (.list 2 (.int .i64))))] (a0, a1, a2, a3, ()) lr = f78_g K a0 a1 a2 a3 (fun d0 d1 => lr (selC f78C [1, 1, 0, 1, 0, 0]) (f78_fr4 a0 a1 a2 a3 d0 d1) (f78_k4 K a0 a1 a2 a3 lr)) := by intro lr; kernel_rfl
  have h4 : (fun d0 d1 => (realL (f78E K) 1) (selC f78C [1, 1, 0, 1, 0, 0]) (f78_fr4 a0 a1 a2 a3 d0 d1) (f78_k4 K a0 a1 a2 a3 (realL (f78E K) 1))) = fun d0 d1 => f78_l4 K a0 a1 a2 a3 K d0 d1 := by
    funext d0 d1
    exact f78_t4 K a0 a1 a2 a3 d0 d1 K d0 d1
  exact runF_G (n0 := 1) (by rfl) ((key (realL (f78E K) 1)).trans (by rw [h4] <;> rfl))
theorem f50_run (K : Nat) (a0 : Int) (a1 : Int × Int × Int) (a2 : List ((Int × Int × Int × Int) × Int × Int)) (a3 : Int × Int) : runF (f50E K) Tryz.f50 [(.ro, (.int .i64)), (.ro, (.cons (.int .i64) (.cons (.int .i64) (.int .i64)))), (.ro, (.list 34 (.cons (.cons (.int .i64) (.cons (.int .i64) (.cons (.int .i64) (.int .i64)))) (.cons (.int .i64) (.int .i64))))), (.ro, (.cons (.int .i64) (.int .i64)))] [(.cons (.int .i64) (.cons (.cons (.int .i64) (.cons (.int .i64) (.int .i64))) (.list 2 (.int .i64)))), (.int .i64)] (a0, a1, a2, a3, ()) = f50G K a0 a1 a2 a3 := by kernel_rfl
theorem f80_run (K : Nat) (a0 : Int × Int × Int) (a1 : Int × Int × Int) : runF (f80E K) Tryz.f80 [(.ro, (.cons (.int .i64) (.cons (.int .i64) (.int .i64)))), (.ro, (.cons (.int .i64) (.cons (.int .i64) (.int .i64))))] [.bool] (a0, a1, ()) = f80G K a0 a1 := by kernel_rfl
theorem f44_t2 (K : Nat) (a0 : List Int) (a1 : List Int) (bq3 : Int) : ∀ (n : Nat) (q3 : Int), loopN (exec (f44E K) 2 (selC f44C [1, 1, 0, 1, 0, 0])) 2 (f44_fr2 a0 a1 bq3) n (f44_fr2 a0 a1 q3) (f44_k2 K a0 a1 (realL (f44E K) 2)) = f44_l2 K a0 a1 n q3 := by
  have key : ∀ (lr : LR Bool) (L : Fr → Option Bool) (q3 : Int), execG (f44E K) 2 lr (selC f44C [1, 1, 0, 1, 0, 0]) (f44_fr2 a0 a1 q3) (loopK 2 (f44_fr2 a0 a1 bq3) L (f44_k2 K a0 a1 lr)) = f44_b2 K a0 a1 (fun v0 => L (f44_fr2 a0 a1 v0)) q3 := by
    intro lr L q3; kernel_rfl
  intro n q3
  refine loopN_iter (X := Int) (frame := fun x => (f44_fr2 a0 a1 x)) (body := (fun L x => (fun L2 => f44_b2 K a0 a1 L2 x) (fun v0 => L v0))) (fun L x => ?_) n q3
  rw [exec_G]
  exact (key (realL (f44E K) 2) L x).trans (by rfl)
theorem f44_run (K : Nat) (a0 : List Int) (a1 : List Int) : runF (f44E K) Tryz.f44 [(.ro, (.list 2 (.int .i64))), (.ro, (.list 2 (.int .i64)))] [.bool] (a0, a1, ()) = f44G K a0 a1 := by
  have key : ∀ (lr : LR Bool), runG (f44E K) Tryz.f44 [(.ro, (.list 2 (.int .i64))), (.ro, (.list 2 (.int .i64)))] [.bool] (a0, a1, ()) lr = f44_g K a0 a1 (fun d0 => lr (selC f44C [1, 1, 0, 1, 0, 0]) (f44_fr2 a0 a1 d0) (f44_k2 K a0 a1 lr)) := by intro lr; kernel_rfl
  have h2 : (fun d0 => (realL (f44E K) 2) (selC f44C [1, 1, 0, 1, 0, 0]) (f44_fr2 a0 a1 d0) (f44_k2 K a0 a1 (realL (f44E K) 2))) = fun d0 => f44_l2 K a0 a1 K d0 := by
    funext d0
    exact f44_t2 K a0 a1 d0 K d0
  exact runF_G (n0 := 2) (by rfl) ((key (realL (f44E K) 2)).trans (by rw [h2] <;> rfl))
theorem f34_run (K : Nat) (a0 : Int × (Int × Int × Int) × List Int) (a1 : Int × (Int × Int × Int) × List Int) : runF (f34E K) Tryz.f34 [(.ro, (.cons (.int .i64) (.cons (.cons (.int .i64) (.cons (.int .i64) (.int .i64))) (.list 2 (.int .i64))))), (.ro, (.cons (.int .i64) (.cons (.cons (.int .i64) (.cons (.int .i64) (.int .i64))) (.list 2 (.int .i64)))))] [.bool] (a0, a1, ()) = f34G K a0 a1 := by kernel_rfl
theorem f45_t2 (K : Nat) (a0 : List Int) (a1 : Int) (bq3 : Int) (bq4 : Int) (bq5 : List Int) : ∀ (n : Nat) (q3 : Int) (q4 : Int) (q5 : List Int), loopN (exec (f45E K) 1 (selC f45C [1, 0, 1, 0, 0])) 1 (f45_fr2 bq3 bq4 bq5) n (f45_fr2 q3 q4 q5) (f45_k2 K a0 a1 (realL (f45E K) 1)) = f45_l2 K n q3 q4 q5 := by
  have key : ∀ (lr : LR ((List Int) × Int)) (L : Fr → Option ((List Int) × Int)) (q3 : Int) (q4 : Int) (q5 : List Int), execG (f45E K) 1 lr (selC f45C [1, 0, 1, 0, 0]) (f45_fr2 q3 q4 q5) (loopK 1 (f45_fr2 bq3 bq4 bq5) L (f45_k2 K a0 a1 lr)) = f45_b2 K (fun v0 v1 v2 => L (f45_fr2 v0 v1 v2)) q3 q4 q5 := by
    intro lr L q3 q4 q5; kernel_rfl
  intro n q3 q4 q5
  refine loopN_iter (X := Int × Int × List Int) (frame := fun x => (f45_fr2 x.1 x.2.1 x.2.2)) (body := (fun L x => (fun L2 => f45_b2 K L2 x.1 x.2.1 x.2.2) (fun v0 v1 v2 => L (v0, v1, v2)))) (fun L x => ?_) n (q3, q4, q5)
  rw [exec_G]
  exact (key (realL (f45E K) 1) L x.1 x.2.1 x.2.2).trans (by rfl)
theorem f45_run (K : Nat) (a0 : List Int) (a1 : Int) : runF (f45E K) Tryz.f45 [(.io, (.list 2 (.int .i64))), (.ro, (.int .i64))] [(.int .i64)] (a0, a1, ()) = f45G K a0 a1 := by
  have key : ∀ (lr : LR ((List Int) × Int)), runG (f45E K) Tryz.f45 [(.io, (.list 2 (.int .i64))), (.ro, (.int .i64))] [(.int .i64)] (a0, a1, ()) lr = f45_g K a0 a1 (fun d0 d1 d2 => lr (selC f45C [1, 0, 1, 0, 0]) (f45_fr2 d0 d1 d2) (f45_k2 K a0 a1 lr)) := by intro lr; kernel_rfl
  have h2 : (fun d0 d1 d2 => (realL (f45E K) 1) (selC f45C [1, 0, 1, 0, 0]) (f45_fr2 d0 d1 d2) (f45_k2 K a0 a1 (realL (f45E K) 1))) = fun d0 d1 d2 => f45_l2 K K d0 d1 d2 := by
    funext d0 d1 d2
    exact f45_t2 K a0 a1 d0 d1 d2 K d0 d1 d2
  exact runF_G (n0 := 1) (by rfl) ((key (realL (f45E K) 1)).trans (by rw [h2] <;> rfl))
theorem f35_run (K : Nat) (a0 : Int × (Int × Int × Int) × List Int) (a1 : Int) : runF (f35E K) Tryz.f35 [(.io, (.cons (.int .i64) (.cons (.cons (.int .i64) (.cons (.int .i64) (.int .i64))) (.list 2 (.int .i64))))), (.ro, (.int .i64))] [(.int .i64)] (a0, a1, ()) = f35G K a0 a1 := by kernel_rfl
theorem f46_t2 (K : Nat) (a0 : List Int) (a1 : Int) (bq3 : Int) (bq4 : Int) : ∀ (n : Nat) (q3 : Int) (q4 : Int), loopN (exec (f46E K) 1 (selC f46C [1, 0, 1, 0, 0])) 1 (f46_fr2 a0 bq3 bq4) n (f46_fr2 a0 q3 q4) (f46_k2 K a0 a1 (realL (f46E K) 1)) = f46_l2 K a0 n q3 q4 := by
  have key : ∀ (lr : LR Int) (L : Fr → Option Int) (q3 : Int) (q4 : Int), execG (f46E K) 1 lr (selC f46C [1, 0, 1, 0, 0]) (f46_fr2 a0 q3 q4) (loopK 1 (f46_fr2 a0 bq3 bq4) L (f46_k2 K a0 a1 lr)) = f46_b2 K a0 (fun v0 v1 => L (f46_fr2 a0 v0 v1)) q3 q4 := by
    intro lr L q3 q4; kernel_rfl
  intro n q3 q4
  refine loopN_iter (X := Int × Int) (frame := fun x => (f46_fr2 a0 x.1 x.2)) (body := (fun L x => (fun L2 => f46_b2 K a0 L2 x.1 x.2) (fun v0 v1 => L (v0, v1)))) (fun L x => ?_) n (q3, q4)
  rw [exec_G]
  exact (key (realL (f46E K) 1) L x.1 x.2).trans (by rfl)
theorem f46_run (K : Nat) (a0 : List Int) (a1 : Int) : runF (f46E K) Tryz.f46 [(.ro, (.list 2 (.int .i64))), (.ro, (.int .i64))] [(.int .i64)] (a0, a1, ()) = f46G K a0 a1 := by
  have key : ∀ (lr : LR Int), runG (f46E K) Tryz.f46 [(.ro, (.list 2 (.int .i64))), (.ro, (.int .i64))] [(.int .i64)] (a0, a1, ()) lr = f46_g K a0 a1 (fun d0 d1 => lr (selC f46C [1, 0, 1, 0, 0]) (f46_fr2 a0 d0 d1) (f46_k2 K a0 a1 lr)) := by intro lr; kernel_rfl
  have h2 : (fun d0 d1 => (realL (f46E K) 1) (selC f46C [1, 0, 1, 0, 0]) (f46_fr2 a0 d0 d1) (f46_k2 K a0 a1 (realL (f46E K) 1))) = fun d0 d1 => f46_l2 K a0 K d0 d1 := by
    funext d0 d1
    exact f46_t2 K a0 a1 d0 d1 K d0 d1
  exact runF_G (n0 := 1) (by rfl) ((key (realL (f46E K) 1)).trans (by rw [h2] <;> rfl))
theorem f36_run (K : Nat) (a0 : Int × (Int × Int × Int) × List Int) (a1 : Int) : runF (f36E K) Tryz.f36 [(.ro, (.cons (.int .i64) (.cons (.cons (.int .i64) (.cons (.int .i64) (.int .i64))) (.list 2 (.int .i64))))), (.ro, (.int .i64))] [(.int .i64)] (a0, a1, ()) = f36G K a0 a1 := by kernel_rfl
theorem f10_run (K : Nat) (a0 : Int) (a1 : Int × Int × Int) (a2 : List ((Int × Int × Int × Int) × Int × Int)) (a3 : Int × Int) : runF (f10E K) Tryz.f10 [(.ro, (.int .i64)), (.ro, (.cons (.int .i64) (.cons (.int .i64) (.int .i64)))), (.ro, (.list 96 (.cons (.cons (.int .i64) (.cons (.int .i64) (.cons (.int .i64) (.int .i64)))) (.cons (.int .i64) (.int .i64))))), (.ro, (.cons (.int .i64) (.int .i64)))] [.bool] (a0, a1, a2, a3, ()) = f10G K a0 a1 a2 a3 := by kernel_rfl
end Go.Proofs.YthlldmfkdcmcfaaGreat.X
