/- Functions of the program as plain Lean functions, and that the program does what they say. Printed by gen.py. -/
import Derived.Test.YthlldmfkdcmcfaaD0
namespace Go.Proofs.Ythlldmfkdcmcfaa.X
open Go
set_option maxRecDepth 100000
set_option linter.unusedVariables false
theorem f14_run (K : Nat) : runF (f14E K) Try.f14 [] [(.cons (.cons (.int .i64) (.cons (.cons (.int .i64) (.cons (.int .i64) (.int .i64))) (.list 2 (.int .i64)))) (.list 87 (.cons .str (.cons (.int .i64) (.cons (.cons (.int .i64) (.cons (.int .i64) (.int .i64))) (.list 2 (.int .i64)))))))] (()) = f14G K := by kernel_rfl
theorem f15_run (K : Nat) : runF (f15E K) Try.f15 [] [(.cons (.cons (.int .i64) (.cons (.cons (.int .i64) (.cons (.int .i64) (.int .i64))) (.list 2 (.int .i64)))) (.list 87 (.cons .str (.cons (.int .i64) (.cons (.cons (.int .i64) (.cons (.int .i64) (.int .i64))) (.list 2 (.int .i64)))))))] (()) = f15G K := by kernel_rfl
theorem f46_run (K : Nat) (a0 : Int × Int × Int) (a1 : Int × Int × Int) : runF (f46E K) Try.f46 [(.ro, (.cons (.int .i64) (.cons (.int .i64) (.int .i64)))), (.ro, (.cons (.int .i64) (.cons (.int .i64) (.int .i64))))] [.bool] (a0, a1, ()) = f46G K a0 a1 := by kernel_rfl
theorem f47_t2 (K : Nat) (a0 : List Int) (a1 : List Int) (bq3 : Int) : ∀ (n : Nat) (q3 : Int), loopN (exec (f47E K) 2 (selC f47C [1, 1, 0, 1, 0, 0])) 2 (f47_fr2 a0 a1 bq3) n (f47_fr2 a0 a1 q3) (f47_k2 K a0 a1 (realL (f47E K) 2)) = f47_l2 K a0 a1 n q3 := by
  have key : ∀ (lr : LR Bool) (L : Fr → Option Bool) (q3 : Int), execG (f47E K) 2 lr (selC f47C [1, 1, 0, 1, 0, 0]) (f47_fr2 a0 a1 q3) (loopK 2 (f47_fr2 a0 a1 bq3) L (f47_k2 K a0 a1 lr)) = f47_b2 K a0 a1 (fun v0 => L (f47_fr2 a0 a1 v0)) q3 := by
    intro lr L q3; kernel_rfl
  intro n q3
  refine loopN_iter (X := Int) (frame := fun x => (f47_fr2 a0 a1 x)) (body := (fun L x => (fun L2 => f47_b2 K a0 a1 L2 x) (fun v0 => L v0))) (fun L x => ?_) n q3
  rw [exec_G]
  exact (key (realL (f47E K) 2) L x).trans (by rfl)
theorem f47_run (K : Nat) (a0 : List Int) (a1 : List Int) : runF (f47E K) Try.f47 [(.ro, (.list 2 (.int .i64))), (.ro, (.list 2 (.int .i64)))] [.bool] (a0, a1, ()) = f47G K a0 a1 := by
  have key : ∀ (lr : LR Bool), runG (f47E K) Try.f47 [(.ro, (.list 2 (.int .i64))), (.ro, (.list 2 (.int .i64)))] [.bool] (a0, a1, ()) lr = f47_g K a0 a1 (fun d0 => lr (selC f47C [1, 1, 0, 1, 0, 0]) (f47_fr2 a0 a1 d0) (f47_k2 K a0 a1 lr)) := by intro lr; kernel_rfl
  have h2 : (fun d0 => (realL (f47E K) 2) (selC f47C [1, 1, 0, 1, 0, 0]) (f47_fr2 a0 a1 d0) (f47_k2 K a0 a1 (realL (f47E K) 2))) = fun d0 => f47_l2 K a0 a1 K d0 := by
    funext d0
    exact f47_t2 K a0 a1 d0 K d0
  exact runF_G (n0 := 2) (by rfl) ((key (realL (f47E K) 2)).trans (by rw [h2] <;> rfl))
theorem f27_run (K : Nat) (a0 : Int × (Int × Int × Int) × List Int) (a1 : Int × (Int × Int × Int) × List Int) : runF (f27E K) Try.f27 [(.ro, (.cons (.int .i64) (.cons (.cons (.int .i64) (.cons (.int .i64) (.int .i64))) (.list 2 (.int .i64))))), (.ro, (.cons (.int .i64) (.cons (.cons (.int .i64) (.cons (.int .i64) (.int .i64))) (.list 2 (.int .i64)))))] [.bool] (a0, a1, ()) = f27G K a0 a1 := by kernel_rfl
theorem f48_run (K : Nat) (a0 : ByteArray × Int × (Int × Int × Int) × List Int) (a1 : ByteArray × Int × (Int × Int × Int) × List Int) : runF (f48E K) Try.f48 [(.ro, (.cons .str (.cons (.int .i64) (.cons (.cons (.int .i64) (.cons (.int .i64) (.int .i64))) (.list 2 (.int .i64)))))), (.ro, (.cons .str (.cons (.int .i64) (.cons (.cons (.int .i64) (.cons (.int .i64) (.int .i64))) (.list 2 (.int .i64))))))] [.bool] (a0, a1, ()) = f48G K a0 a1 := by kernel_rfl
theorem f28_t3 (K : Nat) (a0 : List (ByteArray × Int × (Int × Int × Int) × List Int)) (a1 : List (ByteArray × Int × (Int × Int × Int) × List Int)) (bq4 : Int) : ∀ (n : Nat) (q4 : Int), loopN (exec (f28E K) 2 (selC f28C [1, 1, 0, 1, 0, 0])) 2 (f28_fr3 a0 a1 bq4) n (f28_fr3 a0 a1 q4) (f28_k3 K a0 a1 (realL (f28E K) 2)) = f28_l3 K a0 a1 n q4 := by
  have key : ∀ (lr : LR Bool) (L : Fr → Option Bool) (q4 : Int), execG (f28E K) 2 lr (selC f28C [1, 1, 0, 1, 0, 0]) (f28_fr3 a0 a1 q4) (loopK 2 (f28_fr3 a0 a1 bq4) L (f28_k3 K a0 a1 lr)) = f28_b3 K a0 a1 (fun v0 => L (f28_fr3 a0 a1 v0)) q4 := by
    intro lr L q4; kernel_rfl
  intro n q4
  refine loopN_iter (X := Int) (frame := fun x => (f28_fr3 a0 a1 x)) (body := (fun L x => (fun L3 => f28_b3 K a0 a1 L3 x) (fun v0 => L v0))) (fun L x => ?_) n q4
  rw [exec_G]
  exact (key (realL (f28E K) 2) L x).trans (by rfl)
theorem f28_run (K : Nat) (a0 : List (ByteArray × Int × (Int × Int × Int) × List Int)) (a1 : List (ByteArray × Int × (Int × Int × Int) × List Int)) : runF (f28E K) Try.f28 [(.ro, (.list 87 (.cons .str (.cons (.int .i64) (.cons (.cons (.int .i64) (.cons (.int .i64) (.int .i64))) (.list 2 (.int .i64))))))), (.ro, (.list 87 (.cons .str (.cons (.int .i64) (.cons (.cons (.int .i64) (.cons (.int .i64) (.int .i64))) (.list 2 (.int .i64)))))))] [.bool] (a0, a1, ()) = f28G K a0 a1 := by
  have key : ∀ (lr : LR Bool), runG (f28E K) Try.f28 [(.ro, (.list 87 (.cons .str (.cons (.int .i64) (.cons (.cons (.int .i64) (.cons (.int .i64) (.int .i64))) (.list 2 (.int .i64))))))), (.ro, (.list 87 (.cons .str (.cons (.int .i64) (.cons (.cons (.int .i64) (.cons (.int .i64) (.int .i64))) (.list 2 (.int .i64)))))))] [.bool] (a0, a1, ()) lr = f28_g K a0 a1 (fun d0 => lr (selC f28C [1, 1, 0, 1, 0, 0]) (f28_fr3 a0 a1 d0) (f28_k3 K a0 a1 lr)) := by intro lr; kernel_rfl
  have h3 : (fun d0 => (realL (f28E K) 2) (selC f28C [1, 1, 0, 1, 0, 0]) (f28_fr3 a0 a1 d0) (f28_k3 K a0 a1 (realL (f28E K) 2))) = fun d0 => f28_l3 K a0 a1 K d0 := by
    funext d0
    exact f28_t3 K a0 a1 d0 K d0
  exact runF_G (n0 := 2) (by rfl) ((key (realL (f28E K) 2)).trans (by rw [h3] <;> rfl))
theorem f16_run (K : Nat) (a0 : (Int × (Int × Int × Int) × List Int) × List (ByteArray × Int × (Int × Int × Int) × List Int)) (a1 : (Int × (Int × Int × Int) × List Int) × List (ByteArray × Int × (Int × Int × Int) × List Int)) : runF (f16E K) Try.f16 [(.ro, (.cons (.cons (.int .i64) (.cons (.cons (.int .i64) (.cons (.int .i64) (.int .i64))) (.list 2 (.int .i64)))) (.list 87 (.cons .str (.cons (.int .i64) (.cons (.cons (.int .i64) (.cons (.int .i64) (.int .i64))) (.list 2 (.int .i64)))))))), (.ro, (.cons (.cons (.int .i64) (.cons (.cons (.int .i64) (.cons (.int .i64) (.int .i64))) (.list 2 (.int .i64)))) (.list 87 (.cons .str (.cons (.int .i64) (.cons (.cons (.int .i64) (.cons (.int .i64) (.int .i64))) (.list 2 (.int .i64))))))))] [.bool] (a0, a1, ()) = f16G K a0 a1 := by kernel_rfl
theorem f49_t2 (K : Nat) (a0 : List Int) (a1 : Int) (bq3 : Int) (bq4 : Int) (bq5 : List Int) : ∀ (n : Nat) (q3 : Int) (q4 : Int) (q5 : List Int), loopN (exec (f49E K) 1 (selC f49C [1, 0, 1, 0, 0])) 1 (f49_fr2 bq3 bq4 bq5) n (f49_fr2 q3 q4 q5) (f49_k2 K a0 a1 (realL (f49E K) 1)) = f49_l2 K n q3 q4 q5 := by
  have key : ∀ (lr : LR ((List Int) × Int)) (L : Fr → Option ((List Int) × Int)) (q3 : Int) (q4 : Int) (q5 : List Int), execG (f49E K) 1 lr (selC f49C [1, 0, 1, 0, 0]) (f49_fr2 q3 q4 q5) (loopK 1 (f49_fr2 bq3 bq4 bq5) L (f49_k2 K a0 a1 lr)) = f49_b2 K (fun v0 v1 v2 => L (f49_fr2 v0 v1 v2)) q3 q4 q5 := by
    intro lr L q3 q4 q5; kernel_rfl
  intro n q3 q4 q5
  refine loopN_iter (X := Int × Int × List Int) (frame := fun x => (f49_fr2 x.1 x.2.1 x.2.2)) (body := (fun L x => (fun L2 => f49_b2 K L2 x.1 x.2.1 x.2.2) (fun v0 v1 v2 => L (v0, v1, v2)))) (fun L x => ?_) n (q3, q4, q5)
  rw [exec_G]
  exact (key (realL (f49E K) 1) L x.1 x.2.1 x.2.2).trans (by rfl)
theorem f49_run (K : Nat) (a0 : List Int) (a1 : Int) : runF (f49E K) Try.f49 [(.io, (.list 2 (.int .i64))), (.ro, (.int .i64))] [(.int .i64)] (a0, a1, ()) = f49G K a0 a1 := by
  have key : ∀ (lr : LR ((List Int) × Int)), runG (f49E K) Try.f49 [(.io, (.list 2 (.int .i64))), (.ro, (.int .i64))] [(.int .i64)] (a0, a1, ()) lr = f49_g K a0 a1 (fun d0 d1 d2 => lr (selC f49C [1, 0, 1, 0, 0]) (f49_fr2 d0 d1 d2) (f49_k2 K a0 a1 lr)) := by intro lr; kernel_rfl
  have h2 : (fun d0 d1 d2 => (realL (f49E K) 1) (selC f49C [1, 0, 1, 0, 0]) (f49_fr2 d0 d1 d2) (f49_k2 K a0 a1 (realL (f49E K) 1))) = fun d0 d1 d2 => f49_l2 K K d0 d1 d2 := by
    funext d0 d1 d2
    exact f49_t2 K a0 a1 d0 d1 d2 K d0 d1 d2
  exact runF_G (n0 := 1) (by rfl) ((key (realL (f49E K) 1)).trans (by rw [h2] <;> rfl))
theorem f29_run (K : Nat) (a0 : Int × (Int × Int × Int) × List Int) (a1 : Int) : runF (f29E K) Try.f29 [(.io, (.cons (.int .i64) (.cons (.cons (.int .i64) (.cons (.int .i64) (.int .i64))) (.list 2 (.int .i64))))), (.ro, (.int .i64))] [(.int .i64)] (a0, a1, ()) = f29G K a0 a1 := by kernel_rfl
theorem f50_t2 (K : Nat) (a0 : Int) (bq3 : Int) (bq4 : ByteArray) : ∀ (n : Nat) (q3 : Int) (q4 : ByteArray), loopN (exec (f50E K) 0 (selC f50C [1, 1, 1, 0, 0, 0])) 0 (f50_fr2 a0 bq3 bq4) n (f50_fr2 a0 q3 q4) (f50_k2 K a0 (realL (f50E K) 0)) = f50_l2 K a0 n q3 q4 := by
  have key : ∀ (lr : LR ByteArray) (L : Fr → Option ByteArray) (q3 : Int) (q4 : ByteArray), execG (f50E K) 0 lr (selC f50C [1, 1, 1, 0, 0, 0]) (f50_fr2 a0 q3 q4) (loopK 0 (f50_fr2 a0 bq3 bq4) L (f50_k2 K a0 lr)) = f50_b2 K a0 (fun v0 v1 => L (f50_fr2 a0 v0 v1)) q3 q4 := by
    intro lr L q3 q4; kernel_rfl
  intro n q3 q4
  refine loopN_iter (X := Int × ByteArray) (frame := fun x => (f50_fr2 a0 x.1 x.2)) (body := (fun L x => (fun L2 => f50_b2 K a0 L2 x.1 x.2) (fun v0 v1 => L (v0, v1)))) (fun L x => ?_) n (q3, q4)
  rw [exec_G]
  exact (key (realL (f50E K) 0) L x.1 x.2).trans (by rfl)
theorem f50_run (K : Nat) (a0 : Int) : runF (f50E K) Try.f50 [(.ro, (.int .i64))] [.str] (a0, ()) = f50G K a0 := by
  have key : ∀ (lr : LR ByteArray), runG (f50E K) Try.f50 [(.ro, (.int .i64))] [.str] (a0, ()) lr = f50_g K a0 (fun d0 d1 => lr (selC f50C [1, 1, 1, 0, 0, 0]) (f50_fr2 a0 d0 d1) (f50_k2 K a0 lr)) := by intro lr; kernel_rfl
  have h2 : (fun d0 d1 => (realL (f50E K) 0) (selC f50C [1, 1, 1, 0, 0, 0]) (f50_fr2 a0 d0 d1) (f50_k2 K a0 (realL (f50E K) 0))) = fun d0 d1 => f50_l2 K a0 K d0 d1 := by
    funext d0 d1
    exact f50_t2 K a0 d0 d1 K d0 d1
  exact runF_G (n0 := 0) (by rfl) ((key (realL (f50E K) 0)).trans (by rw [h2] <;> rfl))
theorem f30_t4 (K : Nat) (a0 : List (ByteArray × Int × (Int × Int × Int) × List Int)) (a1 : Int) (bq5 : Int) (bq6 : Int) (bq7 : List (ByteArray × Int × (Int × Int × Int) × List Int)) : ∀ (n : Nat) (q5 : Int) (q6 : Int) (q7 : List (ByteArray × Int × (Int × Int × Int) × List Int)), loopN (exec (f30E K) 1 (selC f30C [1, 0, 1, 0, 0])) 1 (f30_fr4 bq5 bq6 bq7) n (f30_fr4 q5 q6 q7) (f30_k4 K a0 a1 (realL (f30E K) 1)) = f30_l4 K n q5 q6 q7 := by
  have key : ∀ (lr : LR ((List (ByteArray × Int × (Int × Int × Int) × List Int)) × Int)) (L : Fr → Option ((List (ByteArray × Int × (Int × Int × Int) × List Int)) × Int)) (q5 : Int) (q6 : Int) (q7 : List (ByteArray × Int × (Int × Int × Int) × List Int)), execG (f30E K) 1 lr (selC f30C [1, 0, 1, 0, 0]) (f30_fr4 q5 q6 q7) (loopK 1 (f30_fr4 bq5 bq6 bq7) L (f30_k4 K a0 a1 lr)) = f30_b4 K (fun v0 v1 v2 => L (f30_fr4 v0 v1 v2)) q5 q6 q7 := by
    intro lr L q5 q6 q7; kernel_rfl
  intro n q5 q6 q7
  refine loopN_iter (X := Int × Int × List (ByteArray × Int × (Int × Int × Int) × List Int)) (frame := fun x => (f30_fr4 x.1 x.2.1 x.2.2)) (body := (fun L x => (fun L4 => f30_b4 K L4 x.1 x.2.1 x.2.2) (fun v0 v1 v2 => L (v0, v1, v2)))) (fun L x => ?_) n (q5, q6, q7)
  rw [exec_G]
  exact (key (realL (f30E K) 1) L x.1 x.2.1 x.2.2).trans (by rfl)
theorem f30_run (K : Nat) (a0 : List (ByteArray × Int × (Int × Int × Int) × List Int)) (a1 : Int) : runF (f30E K) Try.f30 [(.io, (.list 87 (.cons .str (.cons (.int .i64) (.cons (.cons (.int .i64) (.cons (.int .i64) (.int .i64))) (.list 2 (.int .i64))))))), (.ro, (.int .i64))] [(.int .i64)] (a0, a1, ()) = f30G K a0 a1 := by
  have key : ∀ (lr : LR ((List (ByteArray × Int × (Int × Int × Int) × List Int)) × Int)), runG (f30E K) Try.f30 [(.io, (.list 87 (.cons .str (.cons (.int .i64) (.cons (.cons (.int .i64) (.cons (.int .i64) (.int .i64))) (.list 2 (.int .i64))))))), (.ro, (.int .i64))] [(.int .i64)] (a0, a1, ()) lr = f30_g K a0 a1 (fun d0 d1 d2 => lr (selC f30C [1, 0, 1, 0, 0]) (f30_fr4 d0 d1 d2) (f30_k4 K a0 a1 lr)) := by intro lr; kernel_rfl
  have h4 : (fun d0 d1 d2 => (realL (f30E K) 1) (selC f30C [1, 0, 1, 0, 0]) (f30_fr4 d0 d1 d2) (f30_k4 K a0 a1 (realL (f30E K) 1))) = fun d0 d1 d2 => f30_l4 K K d0 d1 d2 := by
    funext d0 d1 d2
    exact f30_t4 K a0 a1 d0 d1 d2 K d0 d1 d2
  exact runF_G (n0 := 1) (by rfl) ((key (realL (f30E K) 1)).trans (by rw [h4] <;> rfl))
theorem f17_run (K : Nat) (a0 : (Int × (Int × Int × Int) × List Int) × List (ByteArray × Int × (Int × Int × Int) × List Int)) (a1 : Int) : runF (f17E K) Try.f17 [(.io, (.cons (.cons (.int .i64) (.cons (.cons (.int .i64) (.cons (.int .i64) (.int .i64))) (.list 2 (.int .i64)))) (.list 87 (.cons .str (.cons (.int .i64) (.cons (.cons (.int .i64) (.cons (.int .i64) (.int .i64))) (.list 2 (.int .i64)))))))), (.ro, (.int .i64))] [(.int .i64)] (a0, a1, ()) = f17G K a0 a1 := by kernel_rfl
theorem f51_t2 (K : Nat) (a0 : List Int) (a1 : Int) (bq3 : Int) (bq4 : Int) : ∀ (n : Nat) (q3 : Int) (q4 : Int), loopN (exec (f51E K) 1 (selC f51C [1, 0, 1, 0, 0])) 1 (f51_fr2 a0 bq3 bq4) n (f51_fr2 a0 q3 q4) (f51_k2 K a0 a1 (realL (f51E K) 1)) = f51_l2 K a0 n q3 q4 := by
  have key : ∀ (lr : LR Int) (L : Fr → Option Int) (q3 : Int) (q4 : Int), execG (f51E K) 1 lr (selC f51C [1, 0, 1, 0, 0]) (f51_fr2 a0 q3 q4) (loopK 1 (f51_fr2 a0 bq3 bq4) L (f51_k2 K a0 a1 lr)) = f51_b2 K a0 (fun v0 v1 => L (f51_fr2 a0 v0 v1)) q3 q4 := by
    intro lr L q3 q4; kernel_rfl
  intro n q3 q4
  refine loopN_iter (X := Int × Int) (frame := fun x => (f51_fr2 a0 x.1 x.2)) (body := (fun L x => (fun L2 => f51_b2 K a0 L2 x.1 x.2) (fun v0 v1 => L (v0, v1)))) (fun L x => ?_) n (q3, q4)
  rw [exec_G]
  exact (key (realL (f51E K) 1) L x.1 x.2).trans (by rfl)
theorem f51_run (K : Nat) (a0 : List Int) (a1 : Int) : runF (f51E K) Try.f51 [(.ro, (.list 2 (.int .i64))), (.ro, (.int .i64))] [(.int .i64)] (a0, a1, ()) = f51G K a0 a1 := by
  have key : ∀ (lr : LR Int), runG (f51E K) Try.f51 [(.ro, (.list 2 (.int .i64))), (.ro, (.int .i64))] [(.int .i64)] (a0, a1, ()) lr = f51_g K a0 a1 (fun d0 d1 => lr (selC f51C [1, 0, 1, 0, 0]) (f51_fr2 a0 d0 d1) (f51_k2 K a0 a1 lr)) := by intro lr; kernel_rfl
  have h2 : (fun d0 d1 => (realL (f51E K) 1) (selC f51C [1, 0, 1, 0, 0]) (f51_fr2 a0 d0 d1) (f51_k2 K a0 a1 (realL (f51E K) 1))) = fun d0 d1 => f51_l2 K a0 K d0 d1 := by
    funext d0 d1
    exact f51_t2 K a0 a1 d0 d1 K d0 d1
  exact runF_G (n0 := 1) (by rfl) ((key (realL (f51E K) 1)).trans (by rw [h2] <;> rfl))
theorem f31_run (K : Nat) (a0 : Int × (Int × Int × Int) × List Int) (a1 : Int) : runF (f31E K) Try.f31 [(.ro, (.cons (.int .i64) (.cons (.cons (.int .i64) (.cons (.int .i64) (.int .i64))) (.list 2 (.int .i64))))), (.ro, (.int .i64))] [(.int .i64)] (a0, a1, ()) = f31G K a0 a1 := by kernel_rfl
theorem f32_t4 (K : Nat) (a0 : List (ByteArray × Int × (Int × Int × Int) × List Int)) (a1 : Int) (bq5 : Int) (bq6 : Int) : ∀ (n : Nat) (q5 : Int) (q6 : Int), loopN (exec (f32E K) 1 (selC f32C [1, 0, 1, 0, 0])) 1 (f32_fr4 a0 bq5 bq6) n (f32_fr4 a0 q5 q6) (f32_k4 K a0 a1 (realL (f32E K) 1)) = f32_l4 K a0 n q5 q6 := by
  have key : ∀ (lr : LR Int) (L : Fr → Option Int) (q5 : Int) (q6 : Int), execG (f32E K) 1 lr (selC f32C [1, 0, 1, 0, 0]) (f32_fr4 a0 q5 q6) (loopK 1 (f32_fr4 a0 bq5 bq6) L (f32_k4 K a0 a1 lr)) = f32_b4 K a0 (fun v0 v1 => L (f32_fr4 a0 v0 v1)) q5 q6 := by
    intro lr L q5 q6; kernel_rfl
  intro n q5 q6
  refine loopN_iter (X := Int × Int) (frame := fun x => (f32_fr4 a0 x.1 x.2)) (body := (fun L x => (fun L4 => f32_b4 K a0 L4 x.1 x.2) (fun v0 v1 => L (v0, v1)))) (fun L x => ?_) n (q5, q6)
  rw [exec_G]
  exact (key (realL (f32E K) 1) L x.1 x.2).trans (by rfl)
theorem f32_run (K : Nat) (a0 : List (ByteArray × Int × (Int × Int × Int) × List Int)) (a1 : Int) : runF (f32E K) Try.f32 [(.ro, (.list 87 (.cons .str (.cons (.int .i64) (.cons (.cons (.int .i64) (.cons (.int .i64) (.int .i64))) (.list 2 (.int .i64))))))), (.ro, (.int .i64))] [(.int .i64)] (a0, a1, ()) = f32G K a0 a1 := by
  have key : ∀ (lr : LR Int), runG (f32E K) Try.f32 [(.ro, (.list 87 (.cons .str (.cons (.int .i64) (.cons (.cons (.int .i64) (.cons (.int .i64) (.int .i64))) (.list 2 (.int .i64))))))), (.ro, (.int .i64))] [(.int .i64)] (a0, a1, ()) lr = f32_g K a0 a1 (fun d0 d1 => lr (selC f32C [1, 0, 1, 0, 0]) (f32_fr4 a0 d0 d1) (f32_k4 K a0 a1 lr)) := by intro lr; kernel_rfl
  have h4 : (fun d0 d1 => (realL (f32E K) 1) (selC f32C [1, 0, 1, 0, 0]) (f32_fr4 a0 d0 d1) (f32_k4 K a0 a1 (realL (f32E K) 1))) = fun d0 d1 => f32_l4 K a0 K d0 d1 := by
    funext d0 d1
    exact f32_t4 K a0 a1 d0 d1 K d0 d1
  exact runF_G (n0 := 1) (by rfl) ((key (realL (f32E K) 1)).trans (by rw [h4] <;> rfl))
theorem f18_run (K : Nat) (a0 : (Int × (Int × Int × Int) × List Int) × List (ByteArray × Int × (Int × Int × Int) × List Int)) (a1 : Int) : runF (f18E K) Try.f18 [(.ro, (.cons (.cons (.int .i64) (.cons (.cons (.int .i64) (.cons (.int .i64) (.int .i64))) (.list 2 (.int .i64)))) (.list 87 (.cons .str (.cons (.int .i64) (.cons (.cons (.int .i64) (.cons (.int .i64) (.int .i64))) (.list 2 (.int .i64)))))))), (.ro, (.int .i64))] [(.int .i64)] (a0, a1, ()) = f18G K a0 a1 := by kernel_rfl
theorem f4_run (K : Nat) : runF (f4E K) Try.f4 [] [.bool] (()) = f4G K := by kernel_rfl
end Go.Proofs.Ythlldmfkdcmcfaa.X
