/- Functions of the program as plain Lean functions, and that the program does what they say. Printed by gen.py. -/
import Derived.Test.YthlldmfkdcmcfaaGreatD0
namespace Go.Proofs.YthlldmfkdcmcfaaGreat.X
open Go
set_option maxRecDepth 100000
set_option linter.unusedVariables false
theorem f125_t9 (K : Nat) (a0 : List (Int × Int)) (q8 : Int) (F7 : Fr → Option (List (Int × Int))) (bq8 : Int) (bq10 : Int) (bq11 : Int) (bq12 : List (Int × Int)) : ∀ (n : Nat) (q10 : Int) (q11 : Int) (q12 : List (Int × Int)), loopN (exec (f125E K) 1 (selC f125C [1, 1, 0, 1, 0, 0, 1, 0, 0, 1, 0, 1, 0, 1, 0, 0])) 1 (f125_fr9 a0 q8 bq10 bq11 bq12) n (f125_fr9 a0 q8 q10 q11 q12) (f125_k9 K a0 F7 bq8 (realL (f125E K) 1)) = f125_l9 K a0 q8 n q10 q11 q12 := by
  have key : ∀ (lr : LR (List (Int × Int))) (L : Fr → Option (List (Int × Int))) (q10 : Int) (q11 : Int) (q12 : List (Int × Int)), execG (f125E K) 1 lr (selC f125C [1, 1, 0, 1, 0, 0, 1, 0, 0, 1, 0, 1, 0, 1, 0, 0]) (f125_fr9 a0 q8 q10 q11 q12) (loopK 1 (f125_fr9 a0 q8 bq10 bq11 bq12) L (f125_k9 K a0 F7 bq8 lr)) = f125_b9 K a0 q8 (fun v0 v1 v2 => L (f125_fr9 a0 q8 v0 v1 v2)) q10 q11 q12 := by
    intro lr L q10 q11 q12; kernel_rfl
  intro n q10 q11 q12
  refine loopN_iter (X := Int × Int × List (Int × Int)) (frame := fun x => (f125_fr9 a0 q8 x.1 x.2.1 x.2.2)) (body := (fun L x => (fun L9 => f125_b9 K a0 q8 L9 x.1 x.2.1 x.2.2) (fun v0 v1 v2 => L (v0, v1, v2)))) (fun L x => ?_) n (q10, q11, q12)
  rw [exec_G]
  exact (key (realL (f125E K) 1) L x.1 x.2.1 x.2.2).trans (by rfl)
theorem f125_t7 (K : Nat) (a0 : List (Int × Int)) (bq8 : Int) : ∀ (n : Nat) (q8 : Int), loopN (exec (f125E K) 1 (selC f125C [1, 1, 0, 1, 0, 0])) 1 (f125_fr7 a0 bq8) n (f125_fr7 a0 q8) (f125_k7 K a0 (realL (f125E K) 1)) = f125_l7 K a0 n q8 := by
  have key : ∀ (lr : LR (List (Int × Int))) (L : Fr → Option (List (Int × Int))) (q8 : Int), execG (f125E K) 1 lr (selC f125C [1, 1, 0, 1, 0, 0]) (f125_fr7 a0 q8) (loopK 1 (f125_fr7 a0 bq8) L (f125_k7 K a0 lr)) = f125_b7 K a0 (fun c0 d0 d1 d2 => lr (selC f125C [1, 1, 0, 1, 0, 0, 1, 0, 0, 1, 0, 1, 0, 1, 0, 0]) (f125_fr9 a0 c0 d0 d1 d2) (f125_k9 K a0 L bq8 lr)) (fun v0 => L (f125_fr7 a0 v0)) q8 := by
    intro lr L q8; kernel_rfl
  intro n q8
  refine loopN_iter (X := Int) (frame := fun x => (f125_fr7 a0 x)) (body := (fun L x => (fun L7 => f125_b7 K a0 (fun c0 d0 d1 d2 => f125_l9 K a0 c0 K d0 d1 d2) L7 x) (fun v0 => L v0))) (fun L x => ?_) n q8
  rw [exec_G]
  have h9 : (fun c0 d0 d1 d2 => (realL (f125E K) 1) (selC f125C [1, 1, 0, 1, 0, 0, 1, 0, 0, 1, 0, 1, 0, 1, 0, 0]) (f125_fr9 a0 c0 d0 d1 d2) (f125_k9 K a0 L bq8 (realL (f125E K) 1))) = fun c0 d0 d1 d2 => f125_l9 K a0 c0 K d0 d1 d2 := by
    funext c0 d0 d1 d2
    exact f125_t9 K a0 c0 L bq8 d0 d1 d2 K d0 d1 d2
  exact (key (realL (f125E K) 1) L x).trans (by rw [h9] <;> rfl)
theorem f125_run (K : Nat) (a0 : List (Int × Int)) : runF (f125E K) Tryz.f125 [(.mv, (.list 32 (.cons (.int .i64) (.int .i64))))] [(.list 32 (.cons (.int .i64) (.int .i64)))] (a0, ()) = f125G K a0 := by
  have key : ∀ (lr : LR (List (Int × Int))), runG (f125E K) Tryz.f125 [(.mv, (.list 32 (.cons (.int .i64) (.int .i64))))] [(.list 32 (.cons (.int .i64) (.int .i64)))] (a0, ()) lr = f125_g K a0 (fun d0 => lr (selC f125C [1, 1, 0, 1, 0, 0]) (f125_fr7 a0 d0) (f125_k7 K a0 lr)) := by intro lr; kernel_rfl
  have h7 : (fun d0 => (realL (f125E K) 1) (selC f125C [1, 1, 0, 1, 0, 0]) (f125_fr7 a0 d0) (f125_k7 K a0 (realL (f125E K) 1))) = fun d0 => f125_l7 K a0 K d0 := by
    funext d0
    exact f125_t7 K a0 d0 K d0
  exact runF_G (n0 := 1) (by rfl) ((key (realL (f125E K) 1)).trans (by rw [h7] <;> rfl))
theorem f84_t3 (K : Nat) (a0 : Int × Int × Int) (a1 : List ((Int × Int × Int × Int) × Int × Int)) (a2 : Int × Int) (bq4 : Int) (bq5 : List (Int × Int)) : ∀ (n : Nat) (q4 : Int) (q5 : List (Int × Int)), loopN (exec (f84E K) 1 (selC f84C [1, 1, 0, 1, 0, 0])) 1 (f84_fr3 a0 a1 a2 bq4 bq5) n (f84_fr3 a0 a1 a2 q4 q5) (f84_k3 K a0 a1 a2 (realL (f84E K) 1)) = f84_l3 K a0 a1 a2 n q4 q5 := by
  have key : ∀ (lr : LR (List (Int × Int))) (L : Fr → Option (List (Int × Int))) (q4 : Int) (q5 : List (Int × Int)), execG (f84E K) 1 lr (selC f84C [1, 1, 0, 1, 0, 0]) (f84_fr3 a0 a1 a2 q4 q5) (loopK 1 (f84_fr3 a0 a1 a2 bq4 bq5) L (f84_k3 K a0 a1 a2 lr)) = f84_b3 K a0 a1 a2 (fun v0 v1 => L (f84_fr3 a0 a1 a2 v0 v1)) q4 q5 := by
    intro lr L q4 q5; kernel_rfl
  intro n q4 q5
  refine loopN_iter (X := Int × List (Int × Int)) (frame := fun x => (f84_fr3 a0 a1 a2 x.1 x.2)) (body := (fun L x => (fun L3 => f84_b3 K a0 a1 a2 L3 x.1 x.2) (fun v0 v1 => L (v0, v1)))) (fun L x => ?_) n (q4, q5)
  rw [exec_G]
  exact (key (realL (f84E K) 1) L x.1 x.2).trans (by rfl)
theorem f84_run (K : Nat) (a0 : Int × Int × Int) (a1 : List ((Int × Int × Int × Int) × Int × Int)) (a2 : Int × Int) : runF (f84E K) Tryz.f84 [(.ro, (.cons (.int .i64) (.cons (.int .i64) (.int .i64)))), (.ro, (.list 34 (.cons (.cons (.int .i64) (.cons (.int .i64) (.cons (.int .i64) (.int .i64)))) (.cons (.int .i64) (.int .i64))))), (.ro, (.cons (.int .i64) (.int .i64)))] [(.list 32 (.cons (.int .i64) (.int .i64)))] (a0, a1, a2, ()) = f84G K a0 a1 a2 := by
  have key : ∀ (lr : LR (List (Int × Int))), runG (f84E K) Tryz.f84 [(.ro, (.cons (.int .i64) (.cons (.int .i64) (.int .i64)))), (.ro, (.list 34 (.cons (.cons (.int .i64) (.cons (.int .i64) (.cons (.int .i64) (.int .i64)))) (.cons (.int .i64) (.int .i64))))), (.ro, (.cons (.int .i64) (.int .i64)))] [(.list 32 (.cons (.int .i64) (.int .i64)))] (a0, a1, a2, ()) lr = f84_g K a0 a1 a2 (fun d0 d1 => lr (selC f84C [1, 1, 0, 1, 0, 0]) (f84_fr3 a0 a1 a2 d0 d1) (f84_k3 K a0 a1 a2 lr)) := by intro lr; kernel_rfl
  have h3 : (fun d0 d1 => (realL (f84E K) 1) (selC f84C [1, 1, 0, 1, 0, 0]) (f84_fr3 a0 a1 a2 d0 d1) (f84_k3 K a0 a1 a2 (realL (f84E K) 1))) = fun d0 d1 => f84_l3 K a0 a1 a2 K d0 d1 := by
    funext d0 d1
    exact f84_t3 K a0 a1 a2 d0 d1 K d0 d1
  exact runF_G (n0 := 1) (by rfl) ((key (realL (f84E K) 1)).trans (by rw [h3] <;> rfl))
theorem f38_run (K : Nat) (a0 : Int) (a1 : Int × Int × Int) (a2 : List ((Int × Int × Int × Int) × Int × Int)) (a3 : Int × Int) : runF (f38E K) Tryz.f38 [(.ro, (.int .i64)), (.ro, (.cons (.int .i64) (.cons (.int .i64) (.int .i64)))), (.ro, (.list 34 (.cons (.cons (.int .i64) (.cons (.int .i64) (.cons (.int .i64) (.int .i64)))) (.cons (.int .i64) (.int .i64))))), (.ro, (.cons (.int .i64) (.int .i64)))] [(.list 32 (.cons (.int .i64) (.int .i64))), (.int .i64)] (a0, a1, a2, a3, ()) = f38G K a0 a1 a2 a3 := by kernel_rfl
theorem f22_run (K : Nat) (a0 : Int × Int) (a1 : Int × Int) : runF (f22E K) Tryz.f22 [(.ro, (.cons (.int .i64) (.int .i64))), (.ro, (.cons (.int .i64) (.int .i64)))] [.bool] (a0, a1, ()) = f22G K a0 a1 := by kernel_rfl
theorem f24_t3 (K : Nat) (a0 : List (Int × Int)) (a1 : List (Int × Int)) (bq4 : Int) : ∀ (n : Nat) (q4 : Int), loopN (exec (f24E K) 2 (selC f24C [1, 1, 0, 1, 0, 0])) 2 (f24_fr3 a0 a1 bq4) n (f24_fr3 a0 a1 q4) (f24_k3 K a0 a1 (realL (f24E K) 2)) = f24_l3 K a0 a1 n q4 := by
  have key : ∀ (lr : LR Bool) (L : Fr → Option Bool) (q4 : Int), execG (f24E K) 2 lr (selC f24C [1, 1, 0, 1, 0, 0]) (f24_fr3 a0 a1 q4) (loopK 2 (f24_fr3 a0 a1 bq4) L (f24_k3 K a0 a1 lr)) = f24_b3 K a0 a1 (fun v0 => L (f24_fr3 a0 a1 v0)) q4 := by
    intro lr L q4; kernel_rfl
  intro n q4
  refine loopN_iter (X := Int) (frame := fun x => (f24_fr3 a0 a1 x)) (body := (fun L x => (fun L3 => f24_b3 K a0 a1 L3 x) (fun v0 => L v0))) (fun L x => ?_) n q4
  rw [exec_G]
  exact (key (realL (f24E K) 2) L x).trans (by rfl)
theorem f24_run (K : Nat) (a0 : List (Int × Int)) (a1 : List (Int × Int)) : runF (f24E K) Tryz.f24 [(.ro, (.list 32 (.cons (.int .i64) (.int .i64)))), (.ro, (.list 32 (.cons (.int .i64) (.int .i64))))] [.bool] (a0, a1, ()) = f24G K a0 a1 := by
  have key : ∀ (lr : LR Bool), runG (f24E K) Tryz.f24 [(.ro, (.list 32 (.cons (.int .i64) (.int .i64)))), (.ro, (.list 32 (.cons (.int .i64) (.int .i64))))] [.bool] (a0, a1, ()) lr = f24_g K a0 a1 (fun d0 => lr (selC f24C [1, 1, 0, 1, 0, 0]) (f24_fr3 a0 a1 d0) (f24_k3 K a0 a1 lr)) := by intro lr; kernel_rfl
  have h3 : (fun d0 => (realL (f24E K) 2) (selC f24C [1, 1, 0, 1, 0, 0]) (f24_fr3 a0 a1 d0) (f24_k3 K a0 a1 (realL (f24E K) 2))) = fun d0 => f24_l3 K a0 a1 K d0 := by
    funext d0
    exact f24_t3 K a0 a1 d0 K d0
  exact runF_G (n0 := 2) (by rfl) ((key (realL (f24E K) 2)).trans (by rw [h3] <;> rfl))
theorem f76_run (K : Nat) (a0 : Int × Int × Int × Int) (a1 : Int × Int × Int × Int) : runF (f76E K) Tryz.f76 [(.ro, (.cons (.int .i64) (.cons (.int .i64) (.cons (.int .i64) (.int .i64))))), (.ro, (.cons (.int .i64) (.cons (.int .i64) (.cons (.int .i64) (.int .i64)))))] [.bool] (a0, a1, ()) = f76G K a0 a1 := by kernel_rfl
theorem f21_run (K : Nat) (a0 : (Int × Int × Int × Int) × Int × Int) (a1 : (Int × Int × Int × Int) × Int × Int) : runF (f21E K) Tryz.f21 [(.ro, (.cons (.cons (.int .i64) (.cons (.int .i64) (.cons (.int .i64) (.int .i64)))) (.cons (.int .i64) (.int .i64)))), (.ro, (.cons (.cons (.int .i64) (.cons (.int .i64) (.cons (.int .i64) (.int .i64)))) (.cons (.int .i64) (.int .i64))))] [.bool] (a0, a1, ()) = f21G K a0 a1 := by kernel_rfl
theorem f23_t3 (K : Nat) (a0 : List ((Int × Int × Int × Int) × Int × Int)) (a1 : List ((Int × Int × Int × Int) × Int × Int)) (bq4 : Int) : ∀ (n : Nat) (q4 : Int), loopN (exec (f23E K) 2 (selC f23C [1, 1, 0, 1, 0, 0])) 2 (f23_fr3 a0 a1 bq4) n (f23_fr3 a0 a1 q4) (f23_k3 K a0 a1 (realL (f23E K) 2)) = f23_l3 K a0 a1 n q4 := by
  have key : ∀ (lr : LR Bool) (L : Fr → Option Bool) (q4 : Int), execG (f23E K) 2 lr (selC f23C [1, 1, 0, 1, 0, 0]) (f23_fr3 a0 a1 q4) (loopK 2 (f23_fr3 a0 a1 bq4) L (f23_k3 K a0 a1 lr)) = f23_b3 K a0 a1 (fun v0 => L (f23_fr3 a0 a1 v0)) q4 := by
    intro lr L q4; kernel_rfl
  intro n q4
  refine loopN_iter (X := Int) (frame := fun x => (f23_fr3 a0 a1 x)) (body := (fun L x => (fun L3 => f23_b3 K a0 a1 L3 x) (fun v0 => L v0))) (fun L x => ?_) n q4
  rw [exec_G]
  exact (key (realL (f23E K) 2) L x).trans (by rfl)
theorem f23_run (K : Nat) (a0 : List ((Int × Int × Int × Int) × Int × Int)) (a1 : List ((Int × Int × Int × Int) × Int × Int)) : runF (f23E K) Tryz.f23 [(.ro, (.list 34 (.cons (.cons (.int .i64) (.cons (.int .i64) (.cons (.int .i64) (.int .i64)))) (.cons (.int .i64) (.int .i64))))), (.ro, (.list 34 (.cons (.cons (.int .i64) (.cons (.int .i64) (.cons (.int .i64) (.int .i64)))) (.cons (.int .i64) (.int .i64)))))] [.bool] (a0, a1, ()) = f23G K a0 a1 := by
  have key : ∀ (lr : LR Bool), runG (f23E K) Tryz.f23 [(.ro, (.list 34 (.cons (.cons (.int .i64) (.cons (.int .i64) (.cons (.int .i64) (.int .i64)))) (.cons (.int .i64) (.int .i64))))), (.ro, (.list 34 (.cons (.cons (.int .i64) (.cons (.int .i64) (.cons (.int .i64) (.int .i64)))) (.cons (.int .i64) (.int .i64)))))] [.bool] (a0, a1, ()) lr = f23_g K a0 a1 (fun d0 => lr (selC f23C [1, 1, 0, 1, 0, 0]) (f23_fr3 a0 a1 d0) (f23_k3 K a0 a1 lr)) := by intro lr; kernel_rfl
  have h3 : (fun d0 => (realL (f23E K) 2) (selC f23C [1, 1, 0, 1, 0, 0]) (f23_fr3 a0 a1 d0) (f23_k3 K a0 a1 (realL (f23E K) 2))) = fun d0 => f23_l3 K a0 a1 K d0 := by
    funext d0
    exact f23_t3 K a0 a1 d0 K d0
  exact runF_G (n0 := 2) (by rfl) ((key (realL (f23E K) 2)).trans (by rw [h3] <;> rfl))
theorem f28_t2 (K : Nat) (a0 : List ((Int × Int × Int × Int) × Int × Int)) (a1 : Int) (bq3 : Int) (bq4 : Int) (bq5 : List ((Int × Int × Int × Int) × Int × Int)) : ∀ (n : Nat) (q3 : Int) (q4 : Int) (q5 : List ((Int × Int × Int × Int) × Int × Int)), loopN (exec (f28E K) 1 (selC f28C [1, 0, 1, 0, 0])) 1 (f28_fr2 bq3 bq4 bq5) n (f28_fr2 q3 q4 q5) (f28_k2 K a0 a1 (realL (f28E K) 1)) = f28_l2 K n q3 q4 q5 := by
  have key : ∀ (lr : LR ((List ((Int × Int × Int × Int) × Int × Int)) × Int)) (L : Fr → Option ((List ((Int × Int × Int × Int) × Int × Int)) × Int)) (q3 : Int) (q4 : Int) (q5 : List ((Int × Int × Int × Int) × Int × Int)), execG (f28E K) 1 lr (selC f28C [1, 0, 1, 0, 0]) (f28_fr2 q3 q4 q5) (loopK 1 (f28_fr2 bq3 bq4 bq5) L (f28_k2 K a0 a1 lr)) = f28_b2 K (fun v0 v1 v2 => L (f28_fr2 v0 v1 v2)) q3 q4 q5 := by
    intro lr L q3 q4 q5; kernel_rfl
  intro n q3 q4 q5
  refine loopN_iter (X := Int × Int × List ((Int × Int × Int × Int) × Int × Int)) (frame := fun x => (f28_fr2 x.1 x.2.1 x.2.2)) (body := (fun L x => (fun L2 => f28_b2 K L2 x.1 x.2.1 x.2.2) (fun v0 v1 v2 => L (v0, v1, v2)))) (fun L x => ?_) n (q3, q4, q5)
  rw [exec_G]
  exact (key (realL (f28E K) 1) L x.1 x.2.1 x.2.2).trans (by rfl)
theorem f28_run (K : Nat) (a0 : List ((Int × Int × Int × Int) × Int × Int)) (a1 : Int) : runF (f28E K) Tryz.f28 [(.io, (.list 34 (.cons (.cons (.int .i64) (.cons (.int .i64) (.cons (.int .i64) (.int .i64)))) (.cons (.int .i64) (.int .i64))))), (.ro, (.int .i64))] [(.int .i64)] (a0, a1, ()) = f28G K a0 a1 := by
  have key : ∀ (lr : LR ((List ((Int × Int × Int × Int) × Int × Int)) × Int)), runG (f28E K) Tryz.f28 [(.io, (.list 34 (.cons (.cons (.int .i64) (.cons (.int .i64) (.cons (.int .i64) (.int .i64)))) (.cons (.int .i64) (.int .i64))))), (.ro, (.int .i64))] [(.int .i64)] (a0, a1, ()) lr = f28_g K a0 a1 (fun d0 d1 d2 => lr (selC f28C [1, 0, 1, 0, 0]) (f28_fr2 d0 d1 d2) (f28_k2 K a0 a1 lr)) := by intro lr; kernel_rfl
  have h2 : (fun d0 d1 d2 => (realL (f28E K) 1) (selC f28C [1, 0, 1, 0, 0]) (f28_fr2 d0 d1 d2) (f28_k2 K a0 a1 (realL (f28E K) 1))) = fun d0 d1 d2 => f28_l2 K K d0 d1 d2 := by
    funext d0 d1 d2
    exact f28_t2 K a0 a1 d0 d1 d2 K d0 d1 d2
  exact runF_G (n0 := 1) (by rfl) ((key (realL (f28E K) 1)).trans (by rw [h2] <;> rfl))
theorem f29_t2 (K : Nat) (a0 : List (Int × Int)) (a1 : Int) (bq3 : Int) (bq4 : Int) (bq5 : List (Int × Int)) : ∀ (n : Nat) (q3 : Int) (q4 : Int) (q5 : List (Int × Int)), loopN (exec (f29E K) 1 (selC f29C [1, 0, 1, 0, 0])) 1 (f29_fr2 bq3 bq4 bq5) n (f29_fr2 q3 q4 q5) (f29_k2 K a0 a1 (realL (f29E K) 1)) = f29_l2 K n q3 q4 q5 := by
  have key : ∀ (lr : LR ((List (Int × Int)) × Int)) (L : Fr → Option ((List (Int × Int)) × Int)) (q3 : Int) (q4 : Int) (q5 : List (Int × Int)), execG (f29E K) 1 lr (selC f29C [1, 0, 1, 0, 0]) (f29_fr2 q3 q4 q5) (loopK 1 (f29_fr2 bq3 bq4 bq5) L (f29_k2 K a0 a1 lr)) = f29_b2 K (fun v0 v1 v2 => L (f29_fr2 v0 v1 v2)) q3 q4 q5 := by
    intro lr L q3 q4 q5; kernel_rfl
  intro n q3 q4 q5
  refine loopN_iter (X := Int × Int × List (Int × Int)) (frame := fun x => (f29_fr2 x.1 x.2.1 x.2.2)) (body := (fun L x => (fun L2 => f29_b2 K L2 x.1 x.2.1 x.2.2) (fun v0 v1 v2 => L (v0, v1, v2)))) (fun L x => ?_) n (q3, q4, q5)
  rw [exec_G]
  exact (key (realL (f29E K) 1) L x.1 x.2.1 x.2.2).trans (by rfl)
theorem f29_run (K : Nat) (a0 : List (Int × Int)) (a1 : Int) : runF (f29E K) Tryz.f29 [(.io, (.list 32 (.cons (.int .i64) (.int .i64)))), (.ro, (.int .i64))] [(.int .i64)] (a0, a1, ()) = f29G K a0 a1 := by
  have key : ∀ (lr : LR ((List (Int × Int)) × Int)), runG (f29E K) Tryz.f29 [(.io, (.list 32 (.cons (.int .i64) (.int .i64)))), (.ro, (.int .i64))] [(.int .i64)] (a0, a1, ()) lr = f29_g K a0 a1 (fun d0 d1 d2 => lr (selC f29C [1, 0, 1, 0, 0]) (f29_fr2 d0 d1 d2) (f29_k2 K a0 a1 lr)) := by intro lr; kernel_rfl
  have h2 : (fun d0 d1 d2 => (realL (f29E K) 1) (selC f29C [1, 0, 1, 0, 0]) (f29_fr2 d0 d1 d2) (f29_k2 K a0 a1 (realL (f29E K) 1))) = fun d0 d1 d2 => f29_l2 K K d0 d1 d2 := by
    funext d0 d1 d2
    exact f29_t2 K a0 a1 d0 d1 d2 K d0 d1 d2
  exact runF_G (n0 := 1) (by rfl) ((key (realL (f29E K) 1)).trans (by rw [h2] <;> rfl))
theorem f39_t2 (K : Nat) (a0 : List (Int × Int)) (a1 : Int) (bq3 : Int) (bq4 : Int) : ∀ (n : Nat) (q3 : Int) (q4 : Int), loopN (exec (f39E K) 1 (selC f39C [1, 0, 1, 0, 0])) 1 (f39_fr2 a0 bq3 bq4) n (f39_fr2 a0 q3 q4) (f39_k2 K a0 a1 (realL (f39E K) 1)) = f39_l2 K a0 n q3 q4 := by
  have key : ∀ (lr : LR Int) (L : Fr → Option Int) (q3 : Int) (q4 : Int), execG (f39E K) 1 lr (selC f39C [1, 0, 1, 0, 0]) (f39_fr2 a0 q3 q4) (loopK 1 (f39_fr2 a0 bq3 bq4) L (f39_k2 K a0 a1 lr)) = f39_b2 K a0 (fun v0 v1 => L (f39_fr2 a0 v0 v1)) q3 q4 := by
    intro lr L q3 q4; kernel_rfl
  intro n q3 q4
  refine loopN_iter (X := Int × Int) (frame := fun x => (f39_fr2 a0 x.1 x.2)) (body := (fun L x => (fun L2 => f39_b2 K a0 L2 x.1 x.2) (fun v0 v1 => L (v0, v1)))) (fun L x => ?_) n (q3, q4)
  rw [exec_G]
  exact (key (realL (f39E K) 1) L x.1 x.2).trans (by rfl)
theorem f39_run (K : Nat) (a0 : List (Int × Int)) (a1 : Int) : runF (f39E K) Tryz.f39 [(.ro, (.list 32 (.cons (.int .i64) (.int .i64)))), (.ro, (.int .i64))] [(.int .i64)] (a0, a1, ()) = f39G K a0 a1 := by
  have key : ∀ (lr : LR Int), runG (f39E K) Tryz.f39 [(.ro, (.list 32 (.cons (.int .i64) (.int .i64)))), (.ro, (.int .i64))] [(.int .i64)] (a0, a1, ()) lr = f39_g K a0 a1 (fun d0 d1 => lr (selC f39C [1, 0, 1, 0, 0]) (f39_fr2 a0 d0 d1) (f39_k2 K a0 a1 lr)) := by intro lr; kernel_rfl
  have h2 : (fun d0 d1 => (realL (f39E K) 1) (selC f39C [1, 0, 1, 0, 0]) (f39_fr2 a0 d0 d1) (f39_k2 K a0 a1 (realL (f39E K) 1))) = fun d0 d1 => f39_l2 K a0 K d0 d1 := by
    funext d0 d1
    exact f39_t2 K a0 a1 d0 d1 K d0 d1
  exact runF_G (n0 := 1) (by rfl) ((key (realL (f39E K) 1)).trans (by rw [h2] <;> rfl))
theorem f6_run (K : Nat) (a0 : Int) (a1 : Int × Int × Int) (a2 : List ((Int × Int × Int × Int) × Int × Int)) (a3 : Int × Int) : runF (f6E K) Tryz.f6 [(.ro, (.int .i64)), (.ro, (.cons (.int .i64) (.cons (.int .i64) (.int .i64)))), (.ro, (.list 96 (.cons (.cons (.int .i64) (.cons (.int .i64) (.cons (.int .i64) (.int .i64)))) (.cons (.int .i64) (.int .i64))))), (.ro, (.cons (.int .i64) (.int .i64)))] [.bool] (a0, a1, a2, a3, ()) = f6G K a0 a1 a2 a3 := by kernel_rfl
theorem f68_run (K : Nat) (a0 : Int × Int × Int) (a1 : Int × Int) : runF (f68E K) Tryz.f68 [(.ro, (.cons (.int .i64) (.cons (.int .i64) (.int .i64)))), (.ro, (.cons (.int .i64) (.int .i64)))] [(.int .i64)] (a0, a1, ()) = f68G K a0 a1 := by kernel_rfl
theorem f49_t6 (K : Nat) (a0 : Int) (a1 : Int × Int × Int) (a2 : List ((Int × Int × Int × Int) × Int × Int)) (a3 : Int × Int) (y2 : Int) (y3 : List (Int × Int)) (bq7 : Int) (bq8 : List Int) : ∀ (n : Nat) (q7 : Int) (q8 : List Int), loopN (exec (f49E K) 1 (selC f49C [1, 1, 1, 1, 1, 0, 1, 0, 0])) 1 (f49_fr6 a0 a1 a2 a3 y2 y3 bq7 bq8) n (f49_fr6 a0 a1 a2 a3 y2 y3 q7 q8) (f49_k6 K a0 a1 a2 a3 (realL (f49E K) 1)) = f49_l6 K a0 a1 a2 a3 y2 y3 n q7 q8 := by
  have key : ∀ (lr : LR ((Int × (Int × Int × Int) × List Int) × Int)) (L : Fr → Option ((Int × (Int × Int × Int) × List Int) × Int)) (q7 : Int) (q8 : List Int), execG (f49E K) 1 lr (selC f49C [1, 1, 1, 1, 1, 0, 1, 0, 0]) (f49_fr6 a0 a1 a2 a3 y2 y3 q7 q8) (loopK 1 (f49_fr6 a0 a1 a2 a3 y2 y3 bq7 bq8) L (f49_k6 K a0 a1 a2 a3 lr)) = f49_b6 K a0 a1 a2 a3 y2 y3 (fun v0 v1 => L (f49_fr6 a0 a1 a2 a3 y2 y3 v0 v1)) q7 q8 := by
    intro lr L q7 q8; kernel_rfl
  intro n q7 q8
  refine loopN_iter (X := Int × List Int) (frame := fun x => (f49_fr6 a0 a1 a2 a3 y2 y3 x.1 x.2)) (body := (fun L x => (fun L6 => f49_b6 K a0 a1 a2 a3 y2 y3 L6 x.1 x.2) (fun v0 v1 => L (v0, v1)))) (fun L x => ?_) n (q7, q8)
  rw [exec_G]
  exact (key (realL (f49E K) 1) L x.1 x.2).trans (by rfl)
theorem f49_run (K : Nat) (a0 : Int) (a1 : Int × Int × Int) (a2 : List ((Int × Int × Int × Int) × Int × Int)) (a3 : Int × Int) : runF (f49E K) Tryz.f49 [(.ro, (.int .i64)), (.ro, (.cons (.int .i64) (.cons (.int .i64) (.int .i64)))), (.ro, (.list 34 (.cons (.cons (.int .i64) (.cons (.int .i64) (.cons (.int .i64) (.int .i64)))) (.cons (.int .i64) (.int .i64))))), (.ro, (.cons (.int .i64) (.int .i64)))] [(.cons (.int .i64) (.cons (.cons (.int .i64) (.cons (.int .i64) (.int .i64))) (.list 2 (.int .i64)))), (.int .i64)] (a0, a1, a2, a3, ()) = f49G K a0 a1 a2 a3 := by
  have key : ∀ (lr : LR ((Int × (Int × Int × Int) × List Int) × Int)), runG (f49E K) Tryz.f49 [(.ro, (.int .i64)), (.ro, (.cons (.int .i64) (.cons (.int .i64) (.int .i64)))), (.ro, (.list 34 (.cons (.cons (.int .i64) (.cons (.int .i64) (.cons (.int .i64) (.int .i64)))) (.cons (.int .i64) (.int .i64))))), (.ro, (.cons (.int .i64) (.int .i64)))] [(.cons (.int .i64) (.cons (.cons (.int .i64) (.cons (.int .i64) (.int .i64))) (.list 2 (.int .i64)))), (.int .i64)] (a0, a1, a2, a3, ()) lr = f49_g K a0 a1 a2 a3 (fun c0 c1 d0 d1 => lr (selC f49C [1, 1, 1, 1, 1, 0, 1, 0, 0]) (f49_fr6 a0 a1 a2 a3 c0 c1 d0 d1) (f49_k6 K a0 a1 a2 a3 lr)) := by intro lr; kernel_rfl
  have h6 : (fun c0 c1 d0 d1 => (realL (f49E K) 1) (selC f49C [1, 1, 1, 1, 1, 0, 1, 0, 0]) (f49_fr6 a0 a1 a2 a3 c0 c1 d0 d1) (f49_k6 K a0 a1 a2 a3 (realL (f49E K) 1))) = fun c0 c1 d0 d1 => f49_l6 K a0 a1 a2 a3 c0 c1 K d0 d1 := by
    funext c0 c1 d0 d1
    exact f49_t6 K a0 a1 a2 a3 c0 c1 d0 d1 K d0 d1
  exact runF_G (n0 := 1) (by rfl) ((key (realL (f49E K) 1)).trans (by rw [h6] <;> rfl))
theorem f79_run (K : Nat) (a0 : Int × Int × Int) (a1 : Int × Int) : runF (f79E K) Tryz.f79 [(.ro, (.cons (.int .i64) (.cons (.int .i64) (.int .i64)))), (.ro, (.cons (.int .i64) (.int .i64)))] [(.int .i64)] (a0, a1, ()) = f79G K a0 a1 := by kernel_rfl
theorem f78_t4 (K : Nat) (a0 : Int) (a1 : Int × Int × Int) (a2 : List (Int × Int)) (a3 : Int) (bq5 : Int) (bq6 : List Int) : ∀ (n : Nat) (q5 : Int) (q6 : List Int), loopN (exec (f78E K) 1 (selC f78C [1, 1, 0, 1, 0, 0])) 1 (f78_fr4 a0 a1 a2 a3 bq5 bq6) n (f78_fr4 a0 a1 a2 a3 q5 q6) (f78_k4 K a0 a1 a2 a3 (realL (f78E K) 1)) = f78_l4 K a0 a1 a2 a3 n q5 q6 := by
  have key : ∀ (lr : LR (Int × (Int × Int × Int) × List Int)) (L : Fr → Option (Int × (Int × Int × Int) × List Int)) (q5 : Int) (q6 : List Int), execG (f78E K) 1 lr (selC f78C [1, 1, 0, 1, 0, 0]) (f78_fr4 a0 a1 a2 a3 q5 q6) (loopK 1 (f78_fr4 a0 a1 a2 a3 bq5 bq6) L (f78_k4 K a0 a1 a2 a3 lr)) = f78_b4 K a0 a1 a2 a3 (fun v0 v1 => L (f78_fr4 a0 a1 a2 a3 v0 v1)) q5 q6 := by
    intro lr L q5 q6; kernel_rfl
  intro n q5 q6
  refine loopN_iter (X := Int × List Int) (frame := fun x => (f78_fr4 a0 a1 a2 a3 x.1 x.2)) (body := (fun L x => (fun L4 => f78_b4 K a0 a1 a2 a3 L4 x.1 x.2) (fun v0 v1 => L (v0, v1)))) (fun L x => ?_) n (q5, q6)
  rw [exec_G]
  exact (key (realL (f78E K) 1) L x.1 x.2).trans (by rfl)
theorem f78_run (K : Nat) (a0 : Int) (a1 : Int × Int × Int) (a2 : List (Int × Int)) (a3 : Int) : runF (f78E K) Tryz.f78 [(.ro, (.int .i64)), (.ro, (.cons (.int .i64) (.cons (.int .i64) (.int .i64)))), (.ro, (.list 32 (.cons (.int .i64) (.int .i64)))), (.ro, (.int .i64))] [(.cons (.int .i64) (.cons (.cons (.int .i64) (.cons (.int .i64) (.int .i64))) (.list 2 (.int .i64))))] (a0, a1, a2, a3, ()) = f78G K a0 a1 a2 a3 := by
  have key : ∀ (lr : LR (Int × (Int × Int × Int) × List Int)), runG (f78E K) Tryz.f78 [(.ro, (.int .i64)), (.ro, (.cons (.int .i64) (.cons (.int .i64) (.int .i64)))), (.ro, (.list 32 (.cons (.int .i64) (.int .i64)))), (.ro, (.int .i64))] [(.cons (.int .i64) (.cons (.cons (.int .i64) (.cons (.int .i64) (.int .i64))) (.list 2 (.int .i64))))] (a0, a1, a2, a3, ()) lr = f78_g K a0 a1 a2 a3 (fun d0 d1 => lr (selC f78C [1, 1, 0, 1, 0, 0]) (f78_fr4 a0 a1 a2 a3 d0 d1) (f78_k4 K a0 a1 a2 a3 lr)) := by intro lr; kernel_rfl
  have h4 : (fun d0 d1 => (realL (f78E K) 1) (selC f78C [1, 1, 0, 1, 0, 0]) (f78_fr4 a0 a1 a2 a3 d0 d1) (f78_k4 K a0 a1 a2 a3 (realL (f78E K) 1))) = fun d0 d1 => f78_l4 K a0 a1 a2 a3 K d0 d1 := by
    funext d0 d1
    exact f78_t4 K a0 a1 a2 a3 d0 d1 K d0 d1
  exact runF_G (n0 := 1) (by rfl) ((key (realL (f78E K) 1)).trans (by rw [h4] <;> rfl))
theorem f50_run (K : Nat) (a0 : Int) (a1 : Int × Int × Int) (a2 : List ((Int × Int × Int × Int) × Int × Int)) (a3 : Int × Int) : runF (f50E K) Tryz.f50 [(.ro, (.int .i64)), (.ro, (.cons (.int .i64) (.cons (.int .i64) (.int .i64)))), (.ro, (.list 34 (.cons (.cons (.int .i64) (.cons (.int .i64) (.cons (.int .i64) (.int .i64)))) (.cons (.int .i64) (.int .i64))))), (.ro, (.cons (.int .i64) (.int .i64)))] [(.cons (.int .i64) (.cons (.cons (.int .i64) (.cons (.int .i64) (.int .i64))) (.list 2 (.int .i64)))), (.int .i64)] (a0, a1, a2, a3, ()) = f50G K a0 a1 a2 a3 := by kernel_rfl
theorem f80_run (K : Nat) (a0 : Int × Int × Int) (a1 : Int × Int × Int) : runF (f80E K) Tryz.f80 [(.ro, (.cons (.int .i64) (.cons (.int .i64) (.int .i64)))), (.ro, (.cons (.int .i64) (.cons (.int .i64) (.int .i64))))] [.bool] (a0, a1, ()) = f80G K a0 a1 := by kernel_rfl
theorem f44_t2 (K : Nat) (a0 : List Int) (a1 : List Int) (bq3 : Int) : ∀ (n : Nat) (q3 : Int), loopN (exec (f44E K) 2 (selC f44C [1, 1, 0, 1, 0, 0])) 2 (f44_fr2 a0 a1 bq3) n (f44_fr2 a0 a1 q3) (f44_k2 K a0 a1 (realL (f44E K) 2)) = f44_l2 K a0 a1 n q3 := by
  have key : ∀ (lr : LR Bool) (L : Fr → Option Bool) (q3 : Int), execG (f44E K) 2 lr (selC f44C [1, 1, 0, 1, 0, 0]) (f44_fr2 a0 a1 q3) (loopK 2 (f44_fr2 a0 a1 bq3) L (f44_k2 K a0 a1 lr)) = f44_b2 K a0 a1 (fun v0 => L (f44_fr2 a0 a1 v0)) q3 := by
    intro lr L q3; kernel_rfl
  intro n q3
  refine loopN_iter (X := Int) (frame := fun x => (f44_fr2 a0 a1 x)) (body := (fun L x => (fun L2 => f44_b2 K a0 a1 L2 x) (fun v0 => L v0))) (fun L x => ?_) n q3
  rw [exec_G]
  exact (key (realL (f44E K) 2) L x).trans (by rfl)
theorem f44_run (K : Nat) (a0 : List Int) (a1 : List Int) : runF (f44E K) Tryz.f44 [(.ro, (.list 2 (.int .i64))), (.ro, (.list 2 (.int .i64)))] [.bool] (a0, a1, ()) = f44G K a0 a1 := by
  have key : ∀ (lr : LR Bool), runG (f44E K) Tryz.f44 [(.ro, (.list 2 (.int .i64))), (.ro, (.list 2 (.int .i64)))] [.bool] (a0, a1, ()) lr = f44_g K a0 a1 (fun d0 => lr (selC f44C [1, 1, 0, 1, 0, 0]) (f44_fr2 a0 a1 d0) (f44_k2 K a0 a1 lr)) := by intro lr; kernel_rfl
  have h2 : (fun d0 => (realL (f44E K) 2) (selC f44C [1, 1, 0, 1, 0, 0]) (f44_fr2 a0 a1 d0) (f44_k2 K a0 a1 (realL (f44E K) 2))) = fun d0 => f44_l2 K a0 a1 K d0 := by
    funext d0
    exact f44_t2 K a0 a1 d0 K d0
  exact runF_G (n0 := 2) (by rfl) ((key (realL (f44E K) 2)).trans (by rw [h2] <;> rfl))
theorem f34_run (K : Nat) (a0 : Int × (Int × Int × Int) × List Int) (a1 : Int × (Int × Int × Int) × List Int) : runF (f34E K) Tryz.f34 [(.ro, (.cons (.int .i64) (.cons (.cons (.int .i64) (.cons (.int .i64) (.int .i64))) (.list 2 (.int .i64))))), (.ro, (.cons (.int .i64) (.cons (.cons (.int .i64) (.cons (.int .i64) (.int .i64))) (.list 2 (.int .i64)))))] [.bool] (a0, a1, ()) = f34G K a0 a1 := by kernel_rfl
theorem f45_t2 (K : Nat) (a0 : List Int) (a1 : Int) (bq3 : Int) (bq4 : Int) (bq5 : List Int) : ∀ (n : Nat) (q3 : Int) (q4 : Int) (q5 : List Int), loopN (exec (f45E K) 1 (selC f45C [1, 0, 1, 0, 0])) 1 (f45_fr2 bq3 bq4 bq5) n (f45_fr2 q3 q4 q5) (f45_k2 K a0 a1 (realL (f45E K) 1)) = f45_l2 K n q3 q4 q5 := by
  have key : ∀ (lr : LR ((List Int) × Int)) (L : Fr → Option ((List Int) × Int)) (q3 : Int) (q4 : Int) (q5 : List Int), execG (f45E K) 1 lr (selC f45C [1, 0, 1, 0, 0]) (f45_fr2 q3 q4 q5) (loopK 1 (f45_fr2 bq3 bq4 bq5) L (f45_k2 K a0 a1 lr)) = f45_b2 K (fun v0 v1 v2 => L (f45_fr2 v0 v1 v2)) q3 q4 q5 := by
    intro lr L q3 q4 q5; kernel_rfl
  intro n q3 q4 q5
  refine loopN_iter (X := Int × Int × List Int) (frame := fun x => (f45_fr2 x.1 x.2.1 x.2.2)) (body := (fun L x => (fun L2 => f45_b2 K L2 x.1 x.2.1 x.2.2) (fun v0 v1 v2 => L (v0, v1, v2)))) (fun L x => ?_) n (q3, q4, q5)
  rw [exec_G]
  exact (key (realL (f45E K) 1) L x.1 x.2.1 x.2.2).trans (by rfl)
theorem f45_run (K : Nat) (a0 : List Int) (a1 : Int) : runF (f45E K) Tryz.f45 [(.io, (.list 2 (.int .i64))), (.ro, (.int .i64))] [(.int .i64)] (a0, a1, ()) = f45G K a0 a1 := by
  have key : ∀ (lr : LR ((List Int) × Int)), runG (f45E K) Tryz.f45 [(.io, (.list 2 (.int .i64))), (.ro, (.int .i64))] [(.int .i64)] (a0, a1, ()) lr = f45_g K a0 a1 (fun d0 d1 d2 => lr (selC f45C [1, 0, 1, 0, 0]) (f45_fr2 d0 d1 d2) (f45_k2 K a0 a1 lr)) := by intro lr; kernel_rfl
  have h2 : (fun d0 d1 d2 => (realL (f45E K) 1) (selC f45C [1, 0, 1, 0, 0]) (f45_fr2 d0 d1 d2) (f45_k2 K a0 a1 (realL (f45E K) 1))) = fun d0 d1 d2 => f45_l2 K K d0 d1 d2 := by
    funext d0 d1 d2
    exact f45_t2 K a0 a1 d0 d1 d2 K d0 d1 d2
  exact runF_G (n0 := 1) (by rfl) ((key (realL (f45E K) 1)).trans (by rw [h2] <;> rfl))
theorem f35_run (K : Nat) (a0 : Int × (Int × Int × Int) × List Int) (a1 : Int) : runF (f35E K) Tryz.f35 [(.io, (.cons (.int .i64) (.cons (.cons (.int .i64) (.cons (.int .i64) (.int .i64))) (.list 2 (.int .i64))))), (.ro, (.int .i64))] [(.int .i64)] (a0, a1, ()) = f35G K a0 a1 := by kernel_rfl
theorem f46_t2 (K : Nat) (a0 : List Int) (a1 : Int) (bq3 : Int) (bq4 : Int) : ∀ (n : Nat) (q3 : Int) (q4 : Int), loopN (exec (f46E K) 1 (selC f46C [1, 0, 1, 0, 0])) 1 (f46_fr2 a0 bq3 bq4) n (f46_fr2 a0 q3 q4) (f46_k2 K a0 a1 (realL (f46E K) 1)) = f46_l2 K a0 n q3 q4 := by
  have key : ∀ (lr : LR Int) (L : Fr → Option Int) (q3 : Int) (q4 : Int), execG (f46E K) 1 lr (selC f46C [1, 0, 1, 0, 0]) (f46_fr2 a0 q3 q4) (loopK 1 (f46_fr2 a0 bq3 bq4) L (f46_k2 K a0 a1 lr)) = f46_b2 K a0 (fun v0 v1 => L (f46_fr2 a0 v0 v1)) q3 q4 := by
    intro lr L q3 q4; kernel_rfl
  intro n q3 q4
  refine loopN_iter (X := Int × Int) (frame := fun x => (f46_fr2 a0 x.1 x.2)) (body := (fun L x => (fun L2 => f46_b2 K a0 L2 x.1 x.2) (fun v0 v1 => L (v0, v1)))) (fun L x => ?_) n (q3, q4)
  rw [exec_G]
  exact (key (realL (f46E K) 1) L x.1 x.2).trans (by rfl)
theorem f46_run (K : Nat) (a0 : List Int) (a1 : Int) : runF (f46E K) Tryz.f46 [(.ro, (.list 2 (.int .i64))), (.ro, (.int .i64))] [(.int .i64)] (a0, a1, ()) = f46G K a0 a1 := by
  have key : ∀ (lr : LR Int), runG (f46E K) Tryz.f46 [(.ro, (.list 2 (.int .i64))), (.ro, (.int .i64))] [(.int .i64)] (a0, a1, ()) lr = f46_g K a0 a1 (fun d0 d1 => lr (selC f46C [1, 0, 1, 0, 0]) (f46_fr2 a0 d0 d1) (f46_k2 K a0 a1 lr)) := by intro lr; kernel_rfl
  have h2 : (fun d0 d1 => (realL (f46E K) 1) (selC f46C [1, 0, 1, 0, 0]) (f46_fr2 a0 d0 d1) (f46_k2 K a0 a1 (realL (f46E K) 1))) = fun d0 d1 => f46_l2 K a0 K d0 d1 := by
    funext d0 d1
    exact f46_t2 K a0 a1 d0 d1 K d0 d1
  exact runF_G (n0 := 1) (by rfl) ((key (realL (f46E K) 1)).trans (by rw [h2] <;> rfl))
theorem f36_run (K : Nat) (a0 : Int × (Int × Int × Int) × List Int) (a1 : Int) : runF (f36E K) Tryz.f36 [(.ro, (.cons (.int .i64) (.cons (.cons (.int .i64) (.cons (.int .i64) (.int .i64))) (.list 2 (.int .i64))))), (.ro, (.int .i64))] [(.int .i64)] (a0, a1, ()) = f36G K a0 a1 := by kernel_rfl
theorem f10_run (K : Nat) (a0 : Int) (a1 : Int × Int × Int) (a2 : List ((Int × Int × Int × Int) × Int × Int)) (a3 : Int × Int) : runF (f10E K) Tryz.f10 [(.ro, (.int .i64)), (.ro, (.cons (.int .i64) (.cons (.int .i64) (.int .i64)))), (.ro, (.list 96 (.cons (.cons (.int .i64) (.cons (.int .i64) (.cons (.int .i64) (.int .i64)))) (.cons (.int .i64) (.int .i64))))), (.ro, (.cons (.int .i64) (.int .i64)))] [.bool] (a0, a1, a2, a3, ()) = f10G K a0 a1 a2 a3 := by kernel_rfl
theorem f126_t9 (K : Nat) (a0 : Int × Int × Int) (q7 : Int) (F6 : Fr → Option (List (Int × Int))) (bq7 : Int) (bq8 : List (Int × Int)) (bq10 : Int) (bq11 : List (Int × Int)) : ∀ (n : Nat) (q10 : Int) (q11 : List (Int × Int)), loopN (exec (f126E K) 0 (selC f126C [1, 1, 0, 1, 0, 0, 1, 0, 0, 1, 0, 0])) 0 (f126_fr9 a0 q7 bq10 bq11) n (f126_fr9 a0 q7 q10 q11) (f126_k9 K a0 F6 bq7 bq8 (realL (f126E K) 0)) = f126_l9 K a0 q7 (fun v0 v1 => F6 (f126_fr6 a0 v0 v1)) n q10 q11 := by
  have key : ∀ (lr : LR (List (Int × Int))) (L : Fr → Option (List (Int × Int))) (q10 : Int) (q11 : List (Int × Int)), execG (f126E K) 0 lr (selC f126C [1, 1, 0, 1, 0, 0, 1, 0, 0, 1, 0, 0]) (f126_fr9 a0 q7 q10 q11) (loopK 0 (f126_fr9 a0 q7 bq10 bq11) L (f126_k9 K a0 F6 bq7 bq8 lr)) = f126_b9 K a0 q7 (fun v0 v1 => F6 (f126_fr6 a0 v0 v1)) (fun v0 v1 => L (f126_fr9 a0 q7 v0 v1)) q10 q11 := by
    intro lr L q10 q11; kernel_rfl
  intro n q10 q11
  refine loopN_iter (X := Int × List (Int × Int)) (frame := fun x => (f126_fr9 a0 q7 x.1 x.2)) (body := (fun L x => (fun L9 => f126_b9 K a0 q7 (fun v0 v1 => F6 (f126_fr6 a0 v0 v1)) L9 x.1 x.2) (fun v0 v1 => L (v0, v1)))) (fun L x => ?_) n (q10, q11)
  rw [exec_G]
  exact (key (realL (f126E K) 0) L x.1 x.2).trans (by rfl)
theorem f126_t6 (K : Nat) (a0 : Int × Int × Int) (bq7 : Int) (bq8 : List (Int × Int)) : ∀ (n : Nat) (q7 : Int) (q8 : List (Int × Int)), loopN (exec (f126E K) 0 (selC f126C [1, 1, 0, 1, 0, 0])) 0 (f126_fr6 a0 bq7 bq8) n (f126_fr6 a0 q7 q8) (f126_k6 K a0 (realL (f126E K) 0)) = f126_l6 K a0 n q7 q8 := by
  have key : ∀ (lr : LR (List (Int × Int))) (L : Fr → Option (List (Int × Int))) (q7 : Int) (q8 : List (Int × Int)), execG (f126E K) 0 lr (selC f126C [1, 1, 0, 1, 0, 0]) (f126_fr6 a0 q7 q8) (loopK 0 (f126_fr6 a0 bq7 bq8) L (f126_k6 K a0 lr)) = f126_b6 K a0 (fun c0 d0 d1 => lr (selC f126C [1, 1, 0, 1, 0, 0, 1, 0, 0, 1, 0, 0]) (f126_fr9 a0 c0 d0 d1) (f126_k9 K a0 L bq7 bq8 lr)) (fun v0 v1 => L (f126_fr6 a0 v0 v1)) q7 q8 := by
    intro lr L q7 q8; kernel_rfl
  intro n q7 q8
  refine loopN_iter (X := Int × List (Int × Int)) (frame := fun x => (f126_fr6 a0 x.1 x.2)) (body := (fun L x => (fun L6 => f126_b6 K a0 (fun c0 d0 d1 => f126_l9 K a0 c0 L6 K d0 d1) L6 x.1 x.2) (fun v0 v1 => L (v0, v1)))) (fun L x => ?_) n (q7, q8)
  rw [exec_G]
  have h9 : (fun c0 d0 d1 => (realL (f126E K) 0) (selC f126C [1, 1, 0, 1, 0, 0, 1, 0, 0, 1, 0, 0]) (f126_fr9 a0 c0 d0 d1) (f126_k9 K a0 L bq7 bq8 (realL (f126E K) 0))) = fun c0 d0 d1 => f126_l9 K a0 c0 (fun v0 v1 => L (f126_fr6 a0 v0 v1)) K d0 d1 := by
    funext c0 d0 d1
    exact f126_t9 K a0 c0 L bq7 bq8 d0 d1 K d0 d1
  exact (key (realL (f126E K) 0) L x.1 x.2).trans (by rw [h9] <;> rfl)
theorem f126_run (K : Nat) (a0 : Int × Int × Int) : runF (f126E K) Tryz.f126 [(.ro, (.cons (.int .i64) (.cons (.int .i64) (.int .i64))))] [(.list 32 (.cons (.int .i64) (.int .i64)))] (a0, ()) = f126G K a0 := by
  have key : ∀ (lr : LR (List (Int × Int))), runG (f126E K) Tryz.f126 [(.ro, (.cons (.int .i64) (.cons (.int .i64) (.int .i64))))] [(.list 32 (.cons (.int .i64) (.int .i64)))] (a0, ()) lr = f126_g K a0 (fun d0 d1 => lr (selC f126C [1, 1, 0, 1, 0, 0]) (f126_fr6 a0 d0 d1) (f126_k6 K a0 lr)) := by intro lr; kernel_rfl
  have h6 : (fun d0 d1 => (realL (f126E K) 0) (selC f126C [1, 1, 0, 1, 0, 0]) (f126_fr6 a0 d0 d1) (f126_k6 K a0 (realL (f126E K) 0))) = fun d0 d1 => f126_l6 K a0 K d0 d1 := by
    funext d0 d1
    exact f126_t6 K a0 d0 d1 K d0 d1
  exact runF_G (n0 := 0) (by rfl) ((key (realL (f126E K) 0)).trans (by rw [h6] <;> rfl))
theorem f85_t4 (K : Nat) (a0 : Int × Int × Int) (a1 : List ((Int × Int × Int × Int) × Int × Int)) (y1 : List (Int × Int)) (bq5 : Int) (bq6 : List (List (Int × Int))) : ∀ (n : Nat) (q5 : Int) (q6 : List (List (Int × Int))), loopN (exec (f85E K) 1 (selC f85C [1, 1, 1, 0, 1, 0, 0])) 1 (f85_fr4 a0 a1 y1 bq5 bq6) n (f85_fr4 a0 a1 y1 q5 q6) (f85_k4 K a0 a1 (realL (f85E K) 1)) = f85_l4 K a0 a1 y1 n q5 q6 := by
  have key : ∀ (lr : LR (List (List (Int × Int)))) (L : Fr → Option (List (List (Int × Int)))) (q5 : Int) (q6 : List (List (Int × Int))), execG (f85E K) 1 lr (selC f85C [1, 1, 1, 0, 1, 0, 0]) (f85_fr4 a0 a1 y1 q5 q6) (loopK 1 (f85_fr4 a0 a1 y1 bq5 bq6) L (f85_k4 K a0 a1 lr)) = f85_b4 K a0 a1 y1 (fun v0 v1 => L (f85_fr4 a0 a1 y1 v0 v1)) q5 q6 := by
    intro lr L q5 q6; kernel_rfl
  intro n q5 q6
  refine loopN_iter (X := Int × List (List (Int × Int))) (frame := fun x => (f85_fr4 a0 a1 y1 x.1 x.2)) (body := (fun L x => (fun L4 => f85_b4 K a0 a1 y1 L4 x.1 x.2) (fun v0 v1 => L (v0, v1)))) (fun L x => ?_) n (q5, q6)
  rw [exec_G]
  exact (key (realL (f85E K) 1) L x.1 x.2).trans (by rfl)
theorem f85_run (K : Nat) (a0 : Int × Int × Int) (a1 : List ((Int × Int × Int × Int) × Int × Int)) : runF (f85E K) Tryz.f85 [(.ro, (.cons (.int .i64) (.cons (.int .i64) (.int .i64)))), (.ro, (.list 34 (.cons (.cons (.int .i64) (.cons (.int .i64) (.cons (.int .i64) (.int .i64)))) (.cons (.int .i64) (.int .i64)))))] [(.list 41 (.list 32 (.cons (.int .i64) (.int .i64))))] (a0, a1, ()) = f85G K a0 a1 := by
  have key : ∀ (lr : LR (List (List (Int × Int)))), runG (f85E K) Tryz.f85 [(.ro, (.cons (.int .i64) (.cons (.int .i64) (.int .i64)))), (.ro, (.list 34 (.cons (.cons (.int .i64) (.cons (.int .i64) (.cons (.int .i64) (.int .i64)))) (.cons (.int .i64) (.int .i64)))))] [(.list 41 (.list 32 (.cons (.int .i64) (.int .i64))))] (a0, a1, ()) lr = f85_g K a0 a1 (fun c0 d0 d1 => lr (selC f85C [1, 1, 1, 0, 1, 0, 0]) (f85_fr4 a0 a1 c0 d0 d1) (f85_k4 K a0 a1 lr)) := by intro lr; kernel_rfl
  have h4 : (fun c0 d0 d1 => (realL (f85E K) 1) (selC f85C [1, 1, 1, 0, 1, 0, 0]) (f85_fr4 a0 a1 c0 d0 d1) (f85_k4 K a0 a1 (realL (f85E K) 1))) = fun c0 d0 d1 => f85_l4 K a0 a1 c0 K d0 d1 := by
    funext c0 d0 d1
    exact f85_t4 K a0 a1 c0 d0 d1 K d0 d1
  exact runF_G (n0 := 1) (by rfl) ((key (realL (f85E K) 1)).trans (by rw [h4] <;> rfl))
theorem f40_run (K : Nat) (a0 : Int) (a1 : Int × Int × Int) (a2 : List ((Int × Int × Int × Int) × Int × Int)) : runF (f40E K) Tryz.f40 [(.ro, (.int .i64)), (.ro, (.cons (.int .i64) (.cons (.int .i64) (.int .i64)))), (.ro, (.list 34 (.cons (.cons (.int .i64) (.cons (.int .i64) (.cons (.int .i64) (.int .i64)))) (.cons (.int .i64) (.int .i64)))))] [(.int .i64), (.int .i64)] (a0, a1, a2, ()) = f40G K a0 a1 a2 := by kernel_rfl
theorem f127_t3 (K : Nat) (a0 : List Int) (a1 : Int) (y1 : Int × Int) (bq4 : Int) (bq5 : List Int) : ∀ (n : Nat) (q4 : Int) (q5 : List Int), loopN (exec (f127E K) 1 (selC f127C [1, 1, 1, 1, 1, 1, 0, 0, 0])) 1 (f127_fr3 a0 a1 y1 bq4 bq5) n (f127_fr3 a0 a1 y1 q4 q5) (f127_k3 K a0 a1 (realL (f127E K) 1)) = f127_l3 K a0 a1 y1 n q4 q5 := by
  have key : ∀ (lr : LR (List Int)) (L : Fr → Option (List Int)) (q4 : Int) (q5 : List Int), execG (f127E K) 1 lr (selC f127C [1, 1, 1, 1, 1, 1, 0, 0, 0]) (f127_fr3 a0 a1 y1 q4 q5) (loopK 1 (f127_fr3 a0 a1 y1 bq4 bq5) L (f127_k3 K a0 a1 lr)) = f127_b3 K a0 a1 y1 (fun v0 v1 => L (f127_fr3 a0 a1 y1 v0 v1)) q4 q5 := by
    intro lr L q4 q5; kernel_rfl
  intro n q4 q5
  refine loopN_iter (X := Int × List Int) (frame := fun x => (f127_fr3 a0 a1 y1 x.1 x.2)) (body := (fun L x => (fun L3 => f127_b3 K a0 a1 y1 L3 x.1 x.2) (fun v0 v1 => L (v0, v1)))) (fun L x => ?_) n (q4, q5)
  rw [exec_G]
  exact (key (realL (f127E K) 1) L x.1 x.2).trans (by rfl)
theorem f127_run (K : Nat) (a0 : List Int) (a1 : Int) : runF (f127E K) Tryz.f127 [(.ro, (.list 2 (.int .i64))), (.ro, (.int .i64))] [(.list 2 (.int .i64))] (a0, a1, ()) = f127G K a0 a1 := by
  have key : ∀ (lr : LR (List Int)), runG (f127E K) Tryz.f127 [(.ro, (.list 2 (.int .i64))), (.ro, (.int .i64))] [(.list 2 (.int .i64))] (a0, a1, ()) lr = f127_g K a0 a1 (fun c0 d0 d1 => lr (selC f127C [1, 1, 1, 1, 1, 1, 0, 0, 0]) (f127_fr3 a0 a1 c0 d0 d1) (f127_k3 K a0 a1 lr)) := by intro lr; kernel_rfl
  have h3 : (fun c0 d0 d1 => (realL (f127E K) 1) (selC f127C [1, 1, 1, 1, 1, 1, 0, 0, 0]) (f127_fr3 a0 a1 c0 d0 d1) (f127_k3 K a0 a1 (realL (f127E K) 1))) = fun c0 d0 d1 => f127_l3 K a0 a1 c0 K d0 d1 := by
    funext c0 d0 d1
    exact f127_t3 K a0 a1 c0 d0 d1 K d0 d1
  exact runF_G (n0 := 1) (by rfl) ((key (realL (f127E K) 1)).trans (by rw [h3] <;> rfl))
theorem f128_t9 (K : Nat) (a0 : Int × Int × Int) (q7 : Int) (F6 : Fr → Option (List (Int × Int))) (bq7 : Int) (bq8 : List (Int × Int)) (bq10 : Int) (bq11 : List (Int × Int)) : ∀ (n : Nat) (q10 : Int) (q11 : List (Int × Int)), loopN (exec (f128E K) 0 (selC f128C [1, 1, 0, 1, 0, 0, 1, 1, 0, 0, 1, 1, 0, 0])) 0 (f128_fr9 a0 q7 bq10 bq11) n (f128_fr9 a0 q7 q10 q11) (f128_k9 K a0 F6 bq7 bq8 (realL (f128E K) 0)) = f128_l9 K a0 q7 (fun v0 v1 => F6 (f128_fr6 a0 v0 v1)) n q10 q11 := by
  have key : ∀ (lr : LR (List (Int × Int))) (L : Fr → Option (List (Int × Int))) (q10 : Int) (q11 : List (Int × Int)), execG (f128E K) 0 lr (selC f128C [1, 1, 0, 1, 0, 0, 1, 1, 0, 0, 1, 1, 0, 0]) (f128_fr9 a0 q7 q10 q11) (loopK 0 (f128_fr9 a0 q7 bq10 bq11) L (f128_k9 K a0 F6 bq7 bq8 lr)) = f128_b9 K a0 q7 (fun v0 v1 => F6 (f128_fr6 a0 v0 v1)) (fun v0 v1 => L (f128_fr9 a0 q7 v0 v1)) q10 q11 := by
    intro lr L q10 q11; kernel_rfl
  intro n q10 q11
  refine loopN_iter (X := Int × List (Int × Int)) (frame := fun x => (f128_fr9 a0 q7 x.1 x.2)) (body := (fun L x => (fun L9 => f128_b9 K a0 q7 (fun v0 v1 => F6 (f128_fr6 a0 v0 v1)) L9 x.1 x.2) (fun v0 v1 => L (v0, v1)))) (fun L x => ?_) n (q10, q11)
  rw [exec_G]
  exact (key (realL (f128E K) 0) L x.1 x.2).trans (by rfl)
theorem f128_t6 (K : Nat) (a0 : Int × Int × Int) (bq7 : Int) (bq8 : List (Int × Int)) : ∀ (n : Nat) (q7 : Int) (q8 : List (Int × Int)), loopN (exec (f128E K) 0 (selC f128C [1, 1, 0, 1, 0, 0])) 0 (f128_fr6 a0 bq7 bq8) n (f128_fr6 a0 q7 q8) (f128_k6 K a0 (realL (f128E K) 0)) = f128_l6 K a0 n q7 q8 := by
  have key : ∀ (lr : LR (List (Int × Int))) (L : Fr → Option (List (Int × Int))) (q7 : Int) (q8 : List (Int × Int)), execG (f128E K) 0 lr (selC f128C [1, 1, 0, 1, 0, 0]) (f128_fr6 a0 q7 q8) (loopK 0 (f128_fr6 a0 bq7 bq8) L (f128_k6 K a0 lr)) = f128_b6 K a0 (fun c0 d0 d1 => lr (selC f128C [1, 1, 0, 1, 0, 0, 1, 1, 0, 0, 1, 1, 0, 0]) (f128_fr9 a0 c0 d0 d1) (f128_k9 K a0 L bq7 bq8 lr)) (fun v0 v1 => L (f128_fr6 a0 v0 v1)) q7 q8 := by
    intro lr L q7 q8; kernel_rfl
  intro n q7 q8
  refine loopN_iter (X := Int × List (Int × Int)) (frame := fun x => (f128_fr6 a0 x.1 x.2)) (body := (fun L x => (fun L6 => f128_b6 K a0 (fun c0 d0 d1 => f128_l9 K a0 c0 L6 K d0 d1) L6 x.1 x.2) (fun v0 v1 => L (v0, v1)))) (fun L x => ?_) n (q7, q8)
  rw [exec_G]
  have h9 : (fun c0 d0 d1 => (realL (f128E K) 0) (selC f128C [1, 1, 0, 1, 0, 0, 1, 1, 0, 0, 1, 1, 0, 0]) (f128_fr9 a0 c0 d0 d1) (f128_k9 K a0 L bq7 bq8 (realL (f128E K) 0))) = fun c0 d0 d1 => f128_l9 K a0 c0 (fun v0 v1 => L (f128_fr6 a0 v0 v1)) K d0 d1 := by
    funext c0 d0 d1
    exact f128_t9 K a0 c0 L bq7 bq8 d0 d1 K d0 d1
  exact (key (realL (f128E K) 0) L x.1 x.2).trans (by rw [h9] <;> rfl)
theorem f128_run (K : Nat) (a0 : Int × Int × Int) : runF (f128E K) Tryz.f128 [(.ro, (.cons (.int .i64) (.cons (.int .i64) (.int .i64))))] [(.list 32 (.cons (.int .i64) (.int .i64)))] (a0, ()) = f128G K a0 := by
  have key : ∀ (lr : LR (List (Int × Int))), runG (f128E K) Tryz.f128 [(.ro, (.cons (.int .i64) (.cons (.int .i64) (.int .i64))))] [(.list 32 (.cons (.int .i64) (.int .i64)))] (a0, ()) lr = f128_g K a0 (fun d0 d1 => lr (selC f128C [1, 1, 0, 1, 0, 0]) (f128_fr6 a0 d0 d1) (f128_k6 K a0 lr)) := by intro lr; kernel_rfl
  have h6 : (fun d0 d1 => (realL (f128E K) 0) (selC f128C [1, 1, 0, 1, 0, 0]) (f128_fr6 a0 d0 d1) (f128_k6 K a0 (realL (f128E K) 0))) = fun d0 d1 => f128_l6 K a0 K d0 d1 := by
    funext d0 d1
    exact f128_t6 K a0 d0 d1 K d0 d1
  exact runF_G (n0 := 0) (by rfl) ((key (realL (f128E K) 0)).trans (by rw [h6] <;> rfl))
theorem f87_t22 (K : Nat) (a0 : Int × Int × Int) (a1 : List ((Int × Int × Int × Int) × Int × Int)) (y3 : List (Int × Int)) (q17 : Int) (q18 : List (List (Int × Int))) (q19 : List Int) (y20 : Int) (y21 : List (Int × Int)) (F16 : Fr → Option ((List (List (Int × Int))) × List Int)) (bq17 : Int) (bq18 : List (List (Int × Int))) (bq19 : List Int) (bq23 : Int) (bq24 : List Int) : ∀ (n : Nat) (q23 : Int) (q24 : List Int), loopN (exec (f87E K) 1 (selC f87C [1, 1, 0, 1, 0, 0, 1, 1, 0, 0, 1, 1, 1, 0, 1, 0, 0])) 1 (f87_fr22 a0 a1 q17 q18 q19 y3 y20 y21 bq23 bq24) n (f87_fr22 a0 a1 q17 q18 q19 y3 y20 y21 q23 q24) (f87_k22 K a0 a1 y3 F16 bq17 bq18 bq19 (realL (f87E K) 1)) = f87_l22 K a0 a1 q17 q18 q19 y3 y20 y21 (fun v0 v1 v2 => F16 (f87_fr16 a0 a1 y3 v0 v1 v2)) n q23 q24 := by
  have key : ∀ (lr : LR ((List (List (Int × Int))) × List Int)) (L : Fr → Option ((List (List (Int × Int))) × List Int)) (q23 : Int) (q24 : List Int), execG (f87E K) 1 lr (selC f87C [1, 1, 0, 1, 0, 0, 1, 1, 0, 0, 1, 1, 1, 0, 1, 0, 0]) (f87_fr22 a0 a1 q17 q18 q19 y3 y20 y21 q23 q24) (loopK 1 (f87_fr22 a0 a1 q17 q18 q19 y3 y20 y21 bq23 bq24) L (f87_k22 K a0 a1 y3 F16 bq17 bq18 bq19 lr)) = f87_b22 K a0 a1 q17 q18 q19 y3 y20 y21 (fun v0 v1 v2 => F16 (f87_fr16 a0 a1 y3 v0 v1 v2)) (fun v0 v1 => L (f87_fr22 a0 a1 q17 q18 q19 y3 y20 y21 v0 v1)) q23 q24 := by
    intro lr L q23 q24; kernel_rfl
  intro n q23 q24
  refine loopN_iter (X := Int × List Int) (frame := fun x => (f87_fr22 a0 a1 q17 q18 q19 y3 y20 y21 x.1 x.2)) (body := (fun L x => (fun L22 => f87_b22 K a0 a1 q17 q18 q19 y3 y20 y21 (fun v0 v1 v2 => F16 (f87_fr16 a0 a1 y3 v0 v1 v2)) L22 x.1 x.2) (fun v0 v1 => L (v0, v1)))) (fun L x => ?_) n (q23, q24)
  rw [exec_G]
  exact (key (realL (f87E K) 1) L x.1 x.2).trans (by rfl)
theorem f87_t16 (K : Nat) (a0 : Int × Int × Int) (a1 : List ((Int × Int × Int × Int) × Int × Int)) (y3 : List (Int × Int)) (bq17 : Int) (bq18 : List (List (Int × Int))) (bq19 : List Int) : ∀ (n : Nat) (q17 : Int) (q18 : List (List (Int × Int))) (q19 : List Int), loopN (exec (f87E K) 1 (selC f87C [1, 1, 0, 1, 0, 0])) 1 (f87_fr16 a0 a1 y3 bq17 bq18 bq19) n (f87_fr16 a0 a1 y3 q17 q18 q19) (f87_k16 K a0 a1 (realL (f87E K) 1)) = f87_l16 K a0 a1 y3 n q17 q18 q19 := by
  have key : ∀ (lr : LR ((List (List (Int × Int))) × List Int)) (L : Fr → Option ((List (List (Int × Int))) × List Int)) (q17 : Int) (q18 : List (List (Int × Int))) (q19 : List Int), execG (f87E K) 1 lr (selC f87C [1, 1, 0, 1, 0, 0]) (f87_fr16 a0 a1 y3 q17 q18 q19) (loopK 1 (f87_fr16 a0 a1 y3 bq17 bq18 bq19) L (f87_k16 K a0 a1 lr)) = f87_b16 K a0 a1 y3 (fun c0 c1 c2 c3 c4 d0 d1 => lr (selC f87C [1, 1, 0, 1, 0, 0, 1, 1, 0, 0, 1, 1, 1, 0, 1, 0, 0]) (f87_fr22 a0 a1 c0 c1 c2 y3 c3 c4 d0 d1) (f87_k22 K a0 a1 y3 L bq17 bq18 bq19 lr)) (fun v0 v1 v2 => L (f87_fr16 a0 a1 y3 v0 v1 v2)) q17 q18 q19 := by
    intro lr L q17 q18 q19; kernel_rfl
  intro n q17 q18 q19
  refine loopN_iter (X := Int × List (List (Int × Int)) × List Int) (frame := fun x => (f87_fr16 a0 a1 y3 x.1 x.2.1 x.2.2)) (body := (fun L x => (fun L16 => f87_b16 K a0 a1 y3 (fun c0 c1 c2 c3 c4 d0 d1 => f87_l22 K a0 a1 c0 c1 c2 y3 c3 c4 L16 K d0 d1) L16 x.1 x.2.1 x.2.2) (fun v0 v1 v2 => L (v0, v1, v2)))) (fun L x => ?_) n (q17, q18, q19)
  rw [exec_G]
  have h22 : (fun c0 c1 c2 c3 c4 d0 d1 => (realL (f87E K) 1) (selC f87C [1, 1, 0, 1, 0, 0, 1, 1, 0, 0, 1, 1, 1, 0, 1, 0, 0]) (f87_fr22 a0 a1 c0 c1 c2 y3 c3 c4 d0 d1) (f87_k22 K a0 a1 y3 L bq17 bq18 bq19 (realL (f87E K) 1))) = fun c0 c1 c2 c3 c4 d0 d1 => f87_l22 K a0 a1 c0 c1 c2 y3 c3 c4 (fun v0 v1 v2 => L (f87_fr16 a0 a1 y3 v0 v1 v2)) K d0 d1 := by
    funext c0 c1 c2 c3 c4 d0 d1
    exact f87_t22 K a0 a1 y3 c0 c1 c2 c3 c4 L bq17 bq18 bq19 d0 d1 K d0 d1
  exact (key (realL (f87E K) 1) L x.1 x.2.1 x.2.2).trans (by rw [h22] <;> rfl)
theorem f87_run (K : Nat) (a0 : Int × Int × Int) (a1 : List ((Int × Int × Int × Int) × Int × Int)) : runF (f87E K) Tryz.f87 [(.ro, (.cons (.int .i64) (.cons (.int .i64) (.int .i64)))), (.ro, (.list 34 (.cons (.cons (.int .i64) (.cons (.int .i64) (.cons (.int .i64) (.int .i64)))) (.cons (.int .i64) (.int .i64)))))] [(.list 41 (.list 32 (.cons (.int .i64) (.int .i64)))), (.list 2 (.int .i64))] (a0, a1, ()) = f87G K a0 a1 := by
  have key : ∀ (lr : LR ((List (List (Int × Int))) × List Int)), runG (f87E K) Tryz.f87 [(.ro, (.cons (.int .i64) (.cons (.int .i64) (.int .i64)))), (.ro, (.list 34 (.cons (.cons (.int .i64) (.cons (.int .i64) (.cons (.int .i64) (.int .i64)))) (.cons (.int .i64) (.int .i64)))))] [(.list 41 (.list 32 (.cons (.int .i64) (.int .i64)))), (.list 2 (.int .i64))] (a0, a1, ()) lr = f87_g K a0 a1 (fun c0 d0 d1 d2 => lr (selC f87C [1, 1, 0, 1, 0, 0]) (f87_fr16 a0 a1 c0 d0 d1 d2) (f87_k16 K a0 a1 lr)) := by intro lr; kernel_rfl
  have h16 : (fun c0 d0 d1 d2 => (realL (f87E K) 1) (selC f87C [1, 1, 0, 1, 0, 0]) (f87_fr16 a0 a1 c0 d0 d1 d2) (f87_k16 K a0 a1 (realL (f87E K) 1))) = fun c0 d0 d1 d2 => f87_l16 K a0 a1 c0 K d0 d1 d2 := by
    funext c0 d0 d1 d2
    exact f87_t16 K a0 a1 c0 d0 d1 d2 K d0 d1 d2
  exact runF_G (n0 := 1) (by rfl) ((key (realL (f87E K) 1)).trans (by rw [h16] <;> rfl))
theorem f48_run (K : Nat) (a0 : Int) (a1 : Int × Int × Int) (a2 : List ((Int × Int × Int × Int) × Int × Int)) : runF (f48E K) Tryz.f48 [(.ro, (.int .i64)), (.ro, (.cons (.int .i64) (.cons (.int .i64) (.int .i64)))), (.ro, (.list 34 (.cons (.cons (.int .i64) (.cons (.int .i64) (.cons (.int .i64) (.int .i64)))) (.cons (.int .i64) (.int .i64)))))] [(.list 41 (.list 32 (.cons (.int .i64) (.int .i64)))), (.int .i64)] (a0, a1, a2, ()) = f48G K a0 a1 a2 := by kernel_rfl
theorem f41_run (K : Nat) (a0 : Int) (a1 : Int × Int × Int) (a2 : List ((Int × Int × Int × Int) × Int × Int)) : runF (f41E K) Tryz.f41 [(.ro, (.int .i64)), (.ro, (.cons (.int .i64) (.cons (.int .i64) (.int .i64)))), (.ro, (.list 34 (.cons (.cons (.int .i64) (.cons (.int .i64) (.cons (.int .i64) (.int .i64)))) (.cons (.int .i64) (.int .i64)))))] [(.int .i64), (.int .i64)] (a0, a1, a2, ()) = f41G K a0 a1 a2 := by kernel_rfl
theorem f7_run (K : Nat) (a0 : Int) (a1 : Int × Int × Int) (a2 : List ((Int × Int × Int × Int) × Int × Int)) : runF (f7E K) Tryz.f7 [(.ro, (.int .i64)), (.ro, (.cons (.int .i64) (.cons (.int .i64) (.int .i64)))), (.ro, (.list 96 (.cons (.cons (.int .i64) (.cons (.int .i64) (.cons (.int .i64) (.int .i64)))) (.cons (.int .i64) (.int .i64)))))] [.bool] (a0, a1, a2, ()) = f7G K a0 a1 a2 := by kernel_rfl
theorem f86_t12 (K : Nat) (a0 : Int × Int × Int) (a1 : List ((Int × Int × Int × Int) × Int × Int)) (y1 : List (List (Int × Int))) (q10 : Int) (F9 : Fr → Option (List Int)) (bq10 : Int) (bq11 : List Int) (bq13 : Int) (bq14 : List Int) : ∀ (n : Nat) (q13 : Int) (q14 : List Int), loopN (exec (f86E K) 1 (selC f86C [1, 1, 1, 0, 1, 0, 0, 1, 0, 0, 1, 0, 0])) 1 (f86_fr12 a0 a1 q10 y1 bq13 bq14) n (f86_fr12 a0 a1 q10 y1 q13 q14) (f86_k12 K a0 a1 y1 F9 bq10 bq11 (realL (f86E K) 1)) = f86_l12 K a0 a1 q10 y1 (fun v0 v1 => F9 (f86_fr9 a0 a1 y1 v0 v1)) n q13 q14 := by
  have key : ∀ (lr : LR (List Int)) (L : Fr → Option (List Int)) (q13 : Int) (q14 : List Int), execG (f86E K) 1 lr (selC f86C [1, 1, 1, 0, 1, 0, 0, 1, 0, 0, 1, 0, 0]) (f86_fr12 a0 a1 q10 y1 q13 q14) (loopK 1 (f86_fr12 a0 a1 q10 y1 bq13 bq14) L (f86_k12 K a0 a1 y1 F9 bq10 bq11 lr)) = f86_b12 K a0 a1 q10 y1 (fun v0 v1 => F9 (f86_fr9 a0 a1 y1 v0 v1)) (fun v0 v1 => L (f86_fr12 a0 a1 q10 y1 v0 v1)) q13 q14 := by
    intro lr L q13 q14; kernel_rfl
  intro n q13 q14
  refine loopN_iter (X := Int × List Int) (frame := fun x => (f86_fr12 a0 a1 q10 y1 x.1 x.2)) (body := (fun L x => (fun L12 => f86_b12 K a0 a1 q10 y1 (fun v0 v1 => F9 (f86_fr9 a0 a1 y1 v0 v1)) L12 x.1 x.2) (fun v0 v1 => L (v0, v1)))) (fun L x => ?_) n (q13, q14)
  rw [exec_G]
  exact (key (realL (f86E K) 1) L x.1 x.2).trans (by rfl)
theorem f86_t9 (K : Nat) (a0 : Int × Int × Int) (a1 : List ((Int × Int × Int × Int) × Int × Int)) (y1 : List (List (Int × Int))) (bq10 : Int) (bq11 : List Int) : ∀ (n : Nat) (q10 : Int) (q11 : List Int), loopN (exec (f86E K) 1 (selC f86C [1, 1, 1, 0, 1, 0, 0])) 1 (f86_fr9 a0 a1 y1 bq10 bq11) n (f86_fr9 a0 a1 y1 q10 q11) (f86_k9 K a0 a1 (realL (f86E K) 1)) = f86_l9 K a0 a1 y1 n q10 q11 := by
  have key : ∀ (lr : LR (List Int)) (L : Fr → Option (List Int)) (q10 : Int) (q11 : List Int), execG (f86E K) 1 lr (selC f86C [1, 1, 1, 0, 1, 0, 0]) (f86_fr9 a0 a1 y1 q10 q11) (loopK 1 (f86_fr9 a0 a1 y1 bq10 bq11) L (f86_k9 K a0 a1 lr)) = f86_b9 K a0 a1 y1 (fun c0 d0 d1 => lr (selC f86C [1, 1, 1, 0, 1, 0, 0, 1, 0, 0, 1, 0, 0]) (f86_fr12 a0 a1 c0 y1 d0 d1) (f86_k12 K a0 a1 y1 L bq10 bq11 lr)) (fun v0 v1 => L (f86_fr9 a0 a1 y1 v0 v1)) q10 q11 := by
    intro lr L q10 q11; kernel_rfl
  intro n q10 q11
  refine loopN_iter (X := Int × List Int) (frame := fun x => (f86_fr9 a0 a1 y1 x.1 x.2)) (body := (fun L x => (fun L9 => f86_b9 K a0 a1 y1 (fun c0 d0 d1 => f86_l12 K a0 a1 c0 y1 L9 K d0 d1) L9 x.1 x.2) (fun v0 v1 => L (v0, v1)))) (fun L x => ?_) n (q10, q11)
  rw [exec_G]
  have h12 : (fun c0 d0 d1 => (realL (f86E K) 1) (selC f86C [1, 1, 1, 0, 1, 0, 0, 1, 0, 0, 1, 0, 0]) (f86_fr12 a0 a1 c0 y1 d0 d1) (f86_k12 K a0 a1 y1 L bq10 bq11 (realL (f86E K) 1))) = fun c0 d0 d1 => f86_l12 K a0 a1 c0 y1 (fun v0 v1 => L (f86_fr9 a0 a1 y1 v0 v1)) K d0 d1 := by
    funext c0 d0 d1
    exact f86_t12 K a0 a1 y1 c0 L bq10 bq11 d0 d1 K d0 d1
  exact (key (realL (f86E K) 1) L x.1 x.2).trans (by rw [h12] <;> rfl)
theorem f86_run (K : Nat) (a0 : Int × Int × Int) (a1 : List ((Int × Int × Int × Int) × Int × Int)) : runF (f86E K) Tryz.f86 [(.ro, (.cons (.int .i64) (.cons (.int .i64) (.int .i64)))), (.ro, (.list 34 (.cons (.cons (.int .i64) (.cons (.int .i64) (.cons (.int .i64) (.int .i64)))) (.cons (.int .i64) (.int .i64)))))] [(.list 2 (.int .i64))] (a0, a1, ()) = f86G K a0 a1 := by
  have key : ∀ (lr : LR (List Int)), runG (f86E K) Tryz.f86 [(.ro, (.cons (.int .i64) (.cons (.int .i64) (.int .i64)))), (.ro, (.list 34 (.cons (.cons (.int .i64) (.cons (.int .i64) (.cons (.int .i64) (.int .i64)))) (.cons (.int .i64) (.int .i64)))))] [(.list 2 (.int .i64))] (a0, a1, ()) lr = f86_g K a0 a1 (fun c0 d0 d1 => lr (selC f86C [1, 1, 1, 0, 1, 0, 0]) (f86_fr9 a0 a1 c0 d0 d1) (f86_k9 K a0 a1 lr)) := by intro lr; kernel_rfl
  have h9 : (fun c0 d0 d1 => (realL (f86E K) 1) (selC f86C [1, 1, 1, 0, 1, 0, 0]) (f86_fr9 a0 a1 c0 d0 d1) (f86_k9 K a0 a1 (realL (f86E K) 1))) = fun c0 d0 d1 => f86_l9 K a0 a1 c0 K d0 d1 := by
    funext c0 d0 d1
    exact f86_t9 K a0 a1 c0 d0 d1 K d0 d1
  exact runF_G (n0 := 1) (by rfl) ((key (realL (f86E K) 1)).trans (by rw [h9] <;> rfl))
theorem f42_run (K : Nat) (a0 : Int) (a1 : Int × Int × Int) (a2 : List ((Int × Int × Int × Int) × Int × Int)) : runF (f42E K) Tryz.f42 [(.ro, (.int .i64)), (.ro, (.cons (.int .i64) (.cons (.int .i64) (.int .i64)))), (.ro, (.list 34 (.cons (.cons (.int .i64) (.cons (.int .i64) (.cons (.int .i64) (.int .i64)))) (.cons (.int .i64) (.int .i64)))))] [(.list 2 (.int .i64)), (.int .i64)] (a0, a1, a2, ()) = f42G K a0 a1 a2 := by kernel_rfl
theorem f43_run (K : Nat) (a0 : Int) (a1 : Int × Int × Int) (a2 : List ((Int × Int × Int × Int) × Int × Int)) : runF (f43E K) Tryz.f43 [(.ro, (.int .i64)), (.ro, (.cons (.int .i64) (.cons (.int .i64) (.int .i64)))), (.ro, (.list 34 (.cons (.cons (.int .i64) (.cons (.int .i64) (.cons (.int .i64) (.int .i64)))) (.cons (.int .i64) (.int .i64)))))] [(.list 2 (.int .i64)), (.int .i64)] (a0, a1, a2, ()) = f43G K a0 a1 a2 := by kernel_rfl
theorem f8_run (K : Nat) (a0 : Int) (a1 : Int × Int × Int) (a2 : List ((Int × Int × Int × Int) × Int × Int)) : runF (f8E K) Tryz.f8 [(.ro, (.int .i64)), (.ro, (.cons (.int .i64) (.cons (.int .i64) (.int .i64)))), (.ro, (.list 96 (.cons (.cons (.int .i64) (.cons (.int .i64) (.cons (.int .i64) (.int .i64)))) (.cons (.int .i64) (.int .i64)))))] [.bool] (a0, a1, a2, ()) = f8G K a0 a1 a2 := by kernel_rfl
theorem f88_t4 (K : Nat) (a0 : Int) (a1 : Int × Int × Int) (a2 : List ((Int × Int × Int × Int) × Int × Int)) (y1 : Int) (y2 : List (List (Int × Int))) (bq5 : Int) : ∀ (n : Nat) (q5 : Int), loopN (exec (f88E K) 1 (selC f88C [1, 1, 1, 1, 0, 1, 0, 0])) 1 (f88_fr4 a0 a1 a2 y1 y2 bq5) n (f88_fr4 a0 a1 a2 y1 y2 q5) (f88_k4 K a0 a1 a2 (realL (f88E K) 1)) = f88_l4 K a0 a1 a2 y1 y2 n q5 := by
  have key : ∀ (lr : LR ((List (List (Int × Int))) × Int)) (L : Fr → Option ((List (List (Int × Int))) × Int)) (q5 : Int), execG (f88E K) 1 lr (selC f88C [1, 1, 1, 1, 0, 1, 0, 0]) (f88_fr4 a0 a1 a2 y1 y2 q5) (loopK 1 (f88_fr4 a0 a1 a2 y1 y2 bq5) L (f88_k4 K a0 a1 a2 lr)) = f88_b4 K a0 a1 a2 y1 y2 (fun v0 => L (f88_fr4 a0 a1 a2 y1 y2 v0)) q5 := by
    intro lr L q5; kernel_rfl
  intro n q5
  refine loopN_iter (X := Int) (frame := fun x => (f88_fr4 a0 a1 a2 y1 y2 x)) (body := (fun L x => (fun L4 => f88_b4 K a0 a1 a2 y1 y2 L4 x) (fun v0 => L v0))) (fun L x => ?_) n q5
  rw [exec_G]
  exact (key (realL (f88E K) 1) L x).trans (by rfl)
theorem f88_run (K : Nat) (a0 : Int) (a1 : Int × Int × Int) (a2 : List ((Int × Int × Int × Int) × Int × Int)) : runF (f88E K) Tryz.f88 [(.ro, (.int .i64)), (.ro, (.cons (.int .i64) (.cons (.int .i64) (.int .i64)))), (.ro, (.list 34 (.cons (.cons (.int .i64) (.cons (.int .i64) (.cons (.int .i64) (.int .i64)))) (.cons (.int .i64) (.int .i64)))))] [(.list 41 (.list 32 (.cons (.int .i64) (.int .i64)))), (.int .i64)] (a0, a1, a2, ()) = f88G K a0 a1 a2 := by
  have key : ∀ (lr : LR ((List (List (Int × Int))) × Int)), runG (f88E K) Tryz.f88 [(.ro, (.int .i64)), (.ro, (.cons (.int .i64) (.cons (.int .i64) (.int .i64)))), (.ro, (.list 34 (.cons (.cons (.int .i64) (.cons (.int .i64) (.cons (.int .i64) (.int .i64)))) (.cons (.int .i64) (.int .i64)))))] [(.list 41 (.list 32 (.cons (.int .i64) (.int .i64)))), (.int .i64)] (a0, a1, a2, ()) lr = f88_g K a0 a1 a2 (fun c0 c1 d0 => lr (selC f88C [1, 1, 1, 1, 0, 1, 0, 0]) (f88_fr4 a0 a1 a2 c0 c1 d0) (f88_k4 K a0 a1 a2 lr)) := by intro lr; kernel_rfl
  have h4 : (fun c0 c1 d0 => (realL (f88E K) 1) (selC f88C [1, 1, 1, 1, 0, 1, 0, 0]) (f88_fr4 a0 a1 a2 c0 c1 d0) (f88_k4 K a0 a1 a2 (realL (f88E K) 1))) = fun c0 c1 d0 => f88_l4 K a0 a1 a2 c0 c1 K d0 := by
    funext c0 c1 d0
    exact f88_t4 K a0 a1 a2 c0 c1 d0 K d0
  exact runF_G (n0 := 1) (by rfl) ((key (realL (f88E K) 1)).trans (by rw [h4] <;> rfl))
theorem f51_t3 (K : Nat) (a0 : Int) (a1 : Int × Int × Int) (a2 : List ((Int × Int × Int × Int) × Int × Int)) (y1 : (List (List (Int × Int))) × Int) (bq4 : Int) (bq5 : List (Int × Int)) : ∀ (n : Nat) (q4 : Int) (q5 : List (Int × Int)), loopN (exec (f51E K) 1 (selC f51C [1, 1, 1, 1, 0, 1, 0, 0])) 1 (f51_fr3 a0 a1 a2 y1 bq4 bq5) n (f51_fr3 a0 a1 a2 y1 q4 q5) (f51_k3 K a0 a1 a2 (realL (f51E K) 1)) = f51_l3 K a0 a1 a2 y1 n q4 q5 := by
  have key : ∀ (lr : LR ((List (Int × Int)) × Int)) (L : Fr → Option ((List (Int × Int)) × Int)) (q4 : Int) (q5 : List (Int × Int)), execG (f51E K) 1 lr (selC f51C [1, 1, 1, 1, 0, 1, 0, 0]) (f51_fr3 a0 a1 a2 y1 q4 q5) (loopK 1 (f51_fr3 a0 a1 a2 y1 bq4 bq5) L (f51_k3 K a0 a1 a2 lr)) = f51_b3 K a0 a1 a2 y1 (fun v0 v1 => L (f51_fr3 a0 a1 a2 y1 v0 v1)) q4 q5 := by
    intro lr L q4 q5; kernel_rfl
  intro n q4 q5
  refine loopN_iter (X := Int × List (Int × Int)) (frame := fun x => (f51_fr3 a0 a1 a2 y1 x.1 x.2)) (body := (fun L x => (fun L3 => f51_b3 K a0 a1 a2 y1 L3 x.1 x.2) (fun v0 v1 => L (v0, v1)))) (fun L x => ?_) n (q4, q5)
  rw [exec_G]
  exact (key (realL (f51E K) 1) L x.1 x.2).trans (by rfl)
theorem f51_run (K : Nat) (a0 : Int) (a1 : Int × Int × Int) (a2 : List ((Int × Int × Int × Int) × Int × Int)) : runF (f51E K) Tryz.f51 [(.ro, (.int .i64)), (.ro, (.cons (.int .i64) (.cons (.int .i64) (.int .i64)))), (.ro, (.list 34 (.cons (.cons (.int .i64) (.cons (.int .i64) (.cons (.int .i64) (.int .i64)))) (.cons (.int .i64) (.int .i64)))))] [(.list 32 (.cons (.int .i64) (.int .i64))), (.int .i64)] (a0, a1, a2, ()) = f51G K a0 a1 a2 := by
  have key : ∀ (lr : LR ((List (Int × Int)) × Int)), runG (f51E K) Tryz.f51 [(.ro, (.int .i64)), (.ro, (.cons (.int .i64) (.cons (.int .i64) (.int .i64)))), (.ro, (.list 34 (.cons (.cons (.int .i64) (.cons (.int .i64) (.cons (.int .i64) (.int .i64)))) (.cons (.int .i64) (.int .i64)))))] [(.list 32 (.cons (.int .i64) (.int .i64))), (.int .i64)] (a0, a1, a2, ()) lr = f51_g K a0 a1 a2 (fun c0 d0 d1 => lr (selC f51C [1, 1, 1, 1, 0, 1, 0, 0]) (f51_fr3 a0 a1 a2 c0 d0 d1) (f51_k3 K a0 a1 a2 lr)) := by intro lr; kernel_rfl
  have h3 : (fun c0 d0 d1 => (realL (f51E K) 1) (selC f51C [1, 1, 1, 1, 0, 1, 0, 0]) (f51_fr3 a0 a1 a2 c0 d0 d1) (f51_k3 K a0 a1 a2 (realL (f51E K) 1))) = fun c0 d0 d1 => f51_l3 K a0 a1 a2 c0 K d0 d1 := by
    funext c0 d0 d1
    exact f51_t3 K a0 a1 a2 c0 d0 d1 K d0 d1
  exact runF_G (n0 := 1) (by rfl) ((key (realL (f51E K) 1)).trans (by rw [h3] <;> rfl))
theorem f130_run (K : Nat) (a0 : List (Int × Int)) (a1 : List ((Int × Int × Int × Int) × Int × Int)) : runF (f130E K) Tryz.f130 [(.ro, (.list 32 (.cons (.int .i64) (.int .i64)))), (.cap, (.list 34 (.cons (.cons (.int .i64) (.cons (.int .i64) (.cons (.int .i64) (.int .i64)))) (.cons (.int .i64) (.int .i64)))))] [.bool] (a0, a1, ()) = f130G K a0 a1 := by kernel_rfl
end Go.Proofs.YthlldmfkdcmcfaaGreat.X
