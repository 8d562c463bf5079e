/- Functions of the program as plain Lean functions, and that the program does what they say. Printed by gen.py. -/
import Derived.Test.YtmnciknpeefkfaaD0
namespace Go.Proofs.Ytmnciknpeefkfaa.X
open Go
set_option maxRecDepth 100000
set_option linter.unusedVariables false
theorem f14_t2 (K : Nat) (a0 : List ((Int × Int) × Int)) (a1 : Int) (bq3 : Int) (bq4 : Int) (bq5 : List ((Int × Int) × Int)) : ∀ (n : Nat) (q3 : Int) (q4 : Int) (q5 : List ((Int × Int) × Int)), loopN (exec (f14E K) 1 (selC f14C [1, 0, 1, 0, 0])) 1 (f14_fr2 bq3 bq4 bq5) n (f14_fr2 q3 q4 q5) (f14_k2 K a0 a1 (realL (f14E K) 1)) = f14_l2 K n q3 q4 q5 := by
  have key : ∀ (lr : LR ((List ((Int × Int) × Int)) × Int)) (L : Fr → Option ((List ((Int × Int) × Int)) × Int)) (q3 : Int) (q4 : Int) (q5 : List ((Int × Int) × Int)), execG (f14E K) 1 lr (selC f14C [1, 0, 1, 0, 0]) (f14_fr2 q3 q4 q5) (loopK 1 (f14_fr2 bq3 bq4 bq5) L (f14_k2 K a0 a1 lr)) = f14_b2 K (fun v0 v1 v2 => L (f14_fr2 v0 v1 v2)) q3 q4 q5 := by
    intro lr L q3 q4 q5; kernel_rfl
  intro n q3 q4 q5
  refine loopN_iter (X := Int × Int × List ((Int × Int) × Int)) (frame := fun x => (f14_fr2 x.1 x.2.1 x.2.2)) (body := (fun L x => (fun L2 => f14_b2 K L2 x.1 x.2.1 x.2.2) (fun v0 v1 v2 => L (v0, v1, v2)))) (fun L x => ?_) n (q3, q4, q5)
  rw [exec_G]
  exact (key (realL (f14E K) 1) L x.1 x.2.1 x.2.2).trans (by rfl)
theorem f14_run (K : Nat) (a0 : List ((Int × Int) × Int)) (a1 : Int) : runF (f14E K) Try.f14 [(.io, (.list 45 (.cons (.cons (.int .i64) (.int .i64)) (.int .i64)))), (.ro, (.int .i64))] [(.int .i64)] (a0, a1, ()) = f14G K a0 a1 := by
  have key : ∀ (lr : LR ((List ((Int × Int) × Int)) × Int)), runG (f14E K) Try.f14 [(.io, (.list 45 (.cons (.cons (.int .i64) (.int .i64)) (.int .i64)))), (.ro, (.int .i64))] [(.int .i64)] (a0, a1, ()) lr = f14_g K a0 a1 (fun d0 d1 d2 => lr (selC f14C [1, 0, 1, 0, 0]) (f14_fr2 d0 d1 d2) (f14_k2 K a0 a1 lr)) := by intro lr; kernel_rfl
  have h2 : (fun d0 d1 d2 => (realL (f14E K) 1) (selC f14C [1, 0, 1, 0, 0]) (f14_fr2 d0 d1 d2) (f14_k2 K a0 a1 (realL (f14E K) 1))) = fun d0 d1 d2 => f14_l2 K K d0 d1 d2 := by
    funext d0 d1 d2
    exact f14_t2 K a0 a1 d0 d1 d2 K d0 d1 d2
  exact runF_G (n0 := 1) (by rfl) ((key (realL (f14E K) 1)).trans (by rw [h2] <;> rfl))
theorem f15_t2 (K : Nat) (a0 : List (Int × Int × Int)) (a1 : Int) (bq3 : Int) (bq4 : Int) (bq5 : List (Int × Int × Int)) : ∀ (n : Nat) (q3 : Int) (q4 : Int) (q5 : List (Int × Int × Int)), loopN (exec (f15E K) 1 (selC f15C [1, 0, 1, 0, 0])) 1 (f15_fr2 bq3 bq4 bq5) n (f15_fr2 q3 q4 q5) (f15_k2 K a0 a1 (realL (f15E K) 1)) = f15_l2 K n q3 q4 q5 := by
  have key : ∀ (lr : LR ((List (Int × Int × Int)) × Int)) (L : Fr → Option ((List (Int × Int × Int)) × Int)) (q3 : Int) (q4 : Int) (q5 : List (Int × Int × Int)), execG (f15E K) 1 lr (selC f15C [1, 0, 1, 0, 0]) (f15_fr2 q3 q4 q5) (loopK 1 (f15_fr2 bq3 bq4 bq5) L (f15_k2 K a0 a1 lr)) = f15_b2 K (fun v0 v1 v2 => L (f15_fr2 v0 v1 v2)) q3 q4 q5 := by
    intro lr L q3 q4 q5; kernel_rfl
  intro n q3 q4 q5
  refine loopN_iter (X := Int × Int × List (Int × Int × Int)) (frame := fun x => (f15_fr2 x.1 x.2.1 x.2.2)) (body := (fun L x => (fun L2 => f15_b2 K L2 x.1 x.2.1 x.2.2) (fun v0 v1 v2 => L (v0, v1, v2)))) (fun L x => ?_) n (q3, q4, q5)
  rw [exec_G]
  exact (key (realL (f15E K) 1) L x.1 x.2.1 x.2.2).trans (by rfl)
theorem f15_run (K : Nat) (a0 : List (Int × Int × Int)) (a1 : Int) : runF (f15E K) Try.f15 [(.io, (.list 25 (.cons (.int .i64) (.cons (.int .i64) (.int .i64))))), (.ro, (.int .i64))] [(.int .i64)] (a0, a1, ()) = f15G K a0 a1 := by
  have key : ∀ (lr : LR ((List (Int × Int × Int)) × Int)), runG (f15E K) Try.f15 [(.io, (.list 25 (.cons (.int .i64) (.cons (.int .i64) (.int .i64))))), (.ro, (.int .i64))] [(.int .i64)] (a0, a1, ()) lr = f15_g K a0 a1 (fun d0 d1 d2 => lr (selC f15C [1, 0, 1, 0, 0]) (f15_fr2 d0 d1 d2) (f15_k2 K a0 a1 lr)) := by intro lr; kernel_rfl
  have h2 : (fun d0 d1 d2 => (realL (f15E K) 1) (selC f15C [1, 0, 1, 0, 0]) (f15_fr2 d0 d1 d2) (f15_k2 K a0 a1 (realL (f15E K) 1))) = fun d0 d1 d2 => f15_l2 K K d0 d1 d2 := by
    funext d0 d1 d2
    exact f15_t2 K a0 a1 d0 d1 d2 K d0 d1 d2
  exact runF_G (n0 := 1) (by rfl) ((key (realL (f15E K) 1)).trans (by rw [h2] <;> rfl))
theorem f16_t2 (K : Nat) (a0 : List (Int × Int × Int)) (a1 : Int) (bq3 : Int) (bq4 : Int) : ∀ (n : Nat) (q3 : Int) (q4 : Int), loopN (exec (f16E K) 1 (selC f16C [1, 0, 1, 0, 0])) 1 (f16_fr2 a0 bq3 bq4) n (f16_fr2 a0 q3 q4) (f16_k2 K a0 a1 (realL (f16E K) 1)) = f16_l2 K a0 n q3 q4 := by
  have key : ∀ (lr : LR Int) (L : Fr → Option Int) (q3 : Int) (q4 : Int), execG (f16E K) 1 lr (selC f16C [1, 0, 1, 0, 0]) (f16_fr2 a0 q3 q4) (loopK 1 (f16_fr2 a0 bq3 bq4) L (f16_k2 K a0 a1 lr)) = f16_b2 K a0 (fun v0 v1 => L (f16_fr2 a0 v0 v1)) q3 q4 := by
    intro lr L q3 q4; kernel_rfl
  intro n q3 q4
  refine loopN_iter (X := Int × Int) (frame := fun x => (f16_fr2 a0 x.1 x.2)) (body := (fun L x => (fun L2 => f16_b2 K a0 L2 x.1 x.2) (fun v0 v1 => L (v0, v1)))) (fun L x => ?_) n (q3, q4)
  rw [exec_G]
  exact (key (realL (f16E K) 1) L x.1 x.2).trans (by rfl)
theorem f16_run (K : Nat) (a0 : List (Int × Int × Int)) (a1 : Int) : runF (f16E K) Try.f16 [(.ro, (.list 25 (.cons (.int .i64) (.cons (.int .i64) (.int .i64))))), (.ro, (.int .i64))] [(.int .i64)] (a0, a1, ()) = f16G K a0 a1 := by
  have key : ∀ (lr : LR Int), runG (f16E K) Try.f16 [(.ro, (.list 25 (.cons (.int .i64) (.cons (.int .i64) (.int .i64))))), (.ro, (.int .i64))] [(.int .i64)] (a0, a1, ()) lr = f16_g K a0 a1 (fun d0 d1 => lr (selC f16C [1, 0, 1, 0, 0]) (f16_fr2 a0 d0 d1) (f16_k2 K a0 a1 lr)) := by intro lr; kernel_rfl
  have h2 : (fun d0 d1 => (realL (f16E K) 1) (selC f16C [1, 0, 1, 0, 0]) (f16_fr2 a0 d0 d1) (f16_k2 K a0 a1 (realL (f16E K) 1))) = fun d0 d1 => f16_l2 K a0 K d0 d1 := by
    funext d0 d1
    exact f16_t2 K a0 a1 d0 d1 K d0 d1
  exact runF_G (n0 := 1) (by rfl) ((key (realL (f16E K) 1)).trans (by rw [h2] <;> rfl))
theorem f4_run (K : Nat) (a0 : List ((Int × Int) × Int)) (a1 : Int) : runF (f4E K) Try.f4 [(.ro, (.list 49 (.cons (.cons (.int .i64) (.int .i64)) (.int .i64)))), (.ro, (.int .i64))] [.bool] (a0, a1, ()) = f4G K a0 a1 := by kernel_rfl
end Go.Proofs.Ytmnciknpeefkfaa.X
