/- Functions of the program as plain Lean functions, and that the program does what they say. Printed by gen.py. -/
import Derived.Test.YtmnciknpeefkfaaGreatQgD1
namespace Go.Proofs.YtmnciknpeefkfaaGreat.X
open Go
set_option maxRecDepth 100000
set_option linter.unusedVariables false
theorem f132_run (K : Nat) (a0 : Int × Int × Int × Int) (a1 : Int × Int × Int × Int) : runF (f132E K) Tryz.f132 [(.ro, sA), (.ro, sA)] [.bool] (a0, a1, ()) = f132G K a0 a1 := by kernel_rfl
theorem f112_run (K : Nat) (a0 : Int × Int) (a1 : Int × Int) : runF (f112E K) Tryz.f112 [(.ro, sV), (.ro, sV)] [.bool] (a0, a1, ()) = f112G K a0 a1 := by kernel_rfl
theorem f65_run (K : Nat) (a0 : tA × Int × Int) (a1 : tA × Int × Int) : runF (f65E K) Tryz.f65 [(.ro, sM), (.ro, sM)] [.bool] (a0, a1, ()) = f65G K a0 a1 := by kernel_rfl
theorem f18_t3 (K : Nat) (a0 : List tM) (a1 : List tM) (bq4 : Int) : ∀ (n : Nat) (q4 : Int), loopN (exec (f18E K) 2 (selC f18C [1, 1, 0, 1, 0, 0])) 2 (f18_fr3 a0 a1 bq4) n (f18_fr3 a0 a1 q4) (f18_k3 K a0 a1 (realL (f18E K) 2)) = f18_l3 K a0 a1 n q4 := by
  have key : ∀ (lr : LR Bool) (L : Fr → Option Bool) (q4 : Int), execG (f18E K) 2 lr (selC f18C [1, 1, 0, 1, 0, 0]) (f18_fr3 a0 a1 q4) (loopK 2 (f18_fr3 a0 a1 bq4) L (f18_k3 K a0 a1 lr)) = f18_b3 K a0 a1 (fun v0 => L (f18_fr3 a0 a1 v0)) q4 := by
    intro lr L q4; kernel_rfl
  intro n q4
  refine loopN_iter (X := Int) (frame := fun x => (f18_fr3 a0 a1 x)) (body := (fun L x => (fun L3 => f18_b3 K a0 a1 L3 x) (fun v0 => L v0))) (fun L x => ?_) n q4
  rw [exec_G]
  exact (key (realL (f18E K) 2) L x).trans (by rfl)
theorem f18_run (K : Nat) (a0 : List tM) (a1 : List tM) : runF (f18E K) Tryz.f18 [(.ro, (.list 91 sM)), (.ro, (.list 91 sM))] [.bool] (a0, a1, ()) = f18G K a0 a1 := by
  have key : ∀ (lr : LR Bool), runG (f18E K) Tryz.f18 [(.ro, (.list 91 sM)), (.ro, (.list 91 sM))] [.bool] (a0, a1, ()) lr = f18_g K a0 a1 (fun d0 => lr (selC f18C [1, 1, 0, 1, 0, 0]) (f18_fr3 a0 a1 d0) (f18_k3 K a0 a1 lr)) := by intro lr; kernel_rfl
  have h3 : (fun d0 => (realL (f18E K) 2) (selC f18C [1, 1, 0, 1, 0, 0]) (f18_fr3 a0 a1 d0) (f18_k3 K a0 a1 (realL (f18E K) 2))) = fun d0 => f18_l3 K a0 a1 K d0 := by
    funext d0
    exact f18_t3 K a0 a1 d0 K d0
  exact runF_G (n0 := 2) (by rfl) ((key (realL (f18E K) 2)).trans (by rw [h3] <;> rfl))
theorem f89_run (K : Nat) (a0 : tV × Int) (a1 : tV × Int) : runF (f89E K) Tryz.f89 [(.ro, (.cons sV sI)), (.ro, (.cons sV sI))] [.bool] (a0, a1, ()) = f89G K a0 a1 := by kernel_rfl
theorem f37_t3 (K : Nat) (a0 : List (tV × Int)) (a1 : List (tV × Int)) (bq4 : Int) : ∀ (n : Nat) (q4 : Int), loopN (exec (f37E K) 2 (selC f37C [1, 1, 0, 1, 0, 0])) 2 (f37_fr3 a0 a1 bq4) n (f37_fr3 a0 a1 q4) (f37_k3 K a0 a1 (realL (f37E K) 2)) = f37_l3 K a0 a1 n q4 := by
  have key : ∀ (lr : LR Bool) (L : Fr → Option Bool) (q4 : Int), execG (f37E K) 2 lr (selC f37C [1, 1, 0, 1, 0, 0]) (f37_fr3 a0 a1 q4) (loopK 2 (f37_fr3 a0 a1 bq4) L (f37_k3 K a0 a1 lr)) = f37_b3 K a0 a1 (fun v0 => L (f37_fr3 a0 a1 v0)) q4 := by
    intro lr L q4; kernel_rfl
  intro n q4
  refine loopN_iter (X := Int) (frame := fun x => (f37_fr3 a0 a1 x)) (body := (fun L x => (fun L3 => f37_b3 K a0 a1 L3 x) (fun v0 => L v0))) (fun L x => ?_) n q4
  rw [exec_G]
  exact (key (realL (f37E K) 2) L x).trans (by rfl)
theorem f37_run (K : Nat) (a0 : List (tV × Int)) (a1 : List (tV × Int)) : runF (f37E K) Tryz.f37 [(.ro, (.list 119 (.cons sV sI))), (.ro, (.list 119 (.cons sV sI)))] [.bool] (a0, a1, ()) = f37G K a0 a1 := by
  have key : ∀ (lr : LR Bool), runG (f37E K) Tryz.f37 [(.ro, (.list 119 (.cons sV sI))), (.ro, (.list 119 (.cons sV sI)))] [.bool] (a0, a1, ()) lr = f37_g K a0 a1 (fun d0 => lr (selC f37C [1, 1, 0, 1, 0, 0]) (f37_fr3 a0 a1 d0) (f37_k3 K a0 a1 lr)) := by intro lr; kernel_rfl
  have h3 : (fun d0 => (realL (f37E K) 2) (selC f37C [1, 1, 0, 1, 0, 0]) (f37_fr3 a0 a1 d0) (f37_k3 K a0 a1 (realL (f37E K) 2))) = fun d0 => f37_l3 K a0 a1 K d0 := by
    funext d0
    exact f37_t3 K a0 a1 d0 K d0
  exact runF_G (n0 := 2) (by rfl) ((key (realL (f37E K) 2)).trans (by rw [h3] <;> rfl))
theorem f31_t2 (K : Nat) (a0 : List tM) (a1 : Int) (bq3 : Int) (bq4 : Int) (bq5 : List tM) : ∀ (n : Nat) (q3 : Int) (q4 : Int) (q5 : List tM), loopN (exec (f31E K) 1 (selC f31C [1, 0, 1, 0, 0])) 1 (f31_fr2 bq3 bq4 bq5) n (f31_fr2 q3 q4 q5) (f31_k2 K a0 a1 (realL (f31E K) 1)) = f31_l2 K n q3 q4 q5 := by
  have key : ∀ (lr : LR ((List tM) × Int)) (L : Fr → Option ((List tM) × Int)) (q3 : Int) (q4 : Int) (q5 : List tM), execG (f31E K) 1 lr (selC f31C [1, 0, 1, 0, 0]) (f31_fr2 q3 q4 q5) (loopK 1 (f31_fr2 bq3 bq4 bq5) L (f31_k2 K a0 a1 lr)) = f31_b2 K (fun v0 v1 v2 => L (f31_fr2 v0 v1 v2)) q3 q4 q5 := by
    intro lr L q3 q4 q5; kernel_rfl
  intro n q3 q4 q5
  refine loopN_iter (X := Int × Int × List tM) (frame := fun x => (f31_fr2 x.1 x.2.1 x.2.2)) (body := (fun L x => (fun L2 => f31_b2 K L2 x.1 x.2.1 x.2.2) (fun v0 v1 v2 => L (v0, v1, v2)))) (fun L x => ?_) n (q3, q4, q5)
  rw [exec_G]
  exact (key (realL (f31E K) 1) L x.1 x.2.1 x.2.2).trans (by rfl)
theorem f31_run (K : Nat) (a0 : List tM) (a1 : Int) : runF (f31E K) Tryz.f31 [(.io, (.list 91 sM)), (.ro, sI)] [sI] (a0, a1, ()) = f31G K a0 a1 := by
  have key : ∀ (lr : LR ((List tM) × Int)), runG (f31E K) Tryz.f31 [(.io, (.list 91 sM)), (.ro, sI)] [sI] (a0, a1, ()) lr = f31_g K a0 a1 (fun d0 d1 d2 => lr (selC f31C [1, 0, 1, 0, 0]) (f31_fr2 d0 d1 d2) (f31_k2 K a0 a1 lr)) := by intro lr; kernel_rfl
  have h2 : (fun d0 d1 d2 => (realL (f31E K) 1) (selC f31C [1, 0, 1, 0, 0]) (f31_fr2 d0 d1 d2) (f31_k2 K a0 a1 (realL (f31E K) 1))) = fun d0 d1 d2 => f31_l2 K K d0 d1 d2 := by
    funext d0 d1 d2
    exact f31_t2 K a0 a1 d0 d1 d2 K d0 d1 d2
  exact runF_G (n0 := 1) (by rfl) ((key (realL (f31E K) 1)).trans (by rw [h2] <;> rfl))
theorem f52_t2 (K : Nat) (a0 : List (tV × Int)) (a1 : Int) (bq3 : Int) (bq4 : Int) (bq5 : List (tV × Int)) : ∀ (n : Nat) (q3 : Int) (q4 : Int) (q5 : List (tV × Int)), loopN (exec (f52E K) 1 (selC f52C [1, 0, 1, 0, 0])) 1 (f52_fr2 bq3 bq4 bq5) n (f52_fr2 q3 q4 q5) (f52_k2 K a0 a1 (realL (f52E K) 1)) = f52_l2 K n q3 q4 q5 := by
  have key : ∀ (lr : LR ((List (tV × Int)) × Int)) (L : Fr → Option ((List (tV × Int)) × Int)) (q3 : Int) (q4 : Int) (q5 : List (tV × Int)), execG (f52E K) 1 lr (selC f52C [1, 0, 1, 0, 0]) (f52_fr2 q3 q4 q5) (loopK 1 (f52_fr2 bq3 bq4 bq5) L (f52_k2 K a0 a1 lr)) = f52_b2 K (fun v0 v1 v2 => L (f52_fr2 v0 v1 v2)) q3 q4 q5 := by
    intro lr L q3 q4 q5; kernel_rfl
  intro n q3 q4 q5
  refine loopN_iter (X := Int × Int × List (tV × Int)) (frame := fun x => (f52_fr2 x.1 x.2.1 x.2.2)) (body := (fun L x => (fun L2 => f52_b2 K L2 x.1 x.2.1 x.2.2) (fun v0 v1 v2 => L (v0, v1, v2)))) (fun L x => ?_) n (q3, q4, q5)
  rw [exec_G]
  exact (key (realL (f52E K) 1) L x.1 x.2.1 x.2.2).trans (by rfl)
theorem f52_run (K : Nat) (a0 : List (tV × Int)) (a1 : Int) : runF (f52E K) Tryz.f52 [(.io, (.list 119 (.cons sV sI))), (.ro, sI)] [sI] (a0, a1, ()) = f52G K a0 a1 := by
  have key : ∀ (lr : LR ((List (tV × Int)) × Int)), runG (f52E K) Tryz.f52 [(.io, (.list 119 (.cons sV sI))), (.ro, sI)] [sI] (a0, a1, ()) lr = f52_g K a0 a1 (fun d0 d1 d2 => lr (selC f52C [1, 0, 1, 0, 0]) (f52_fr2 d0 d1 d2) (f52_k2 K a0 a1 lr)) := by intro lr; kernel_rfl
  have h2 : (fun d0 d1 d2 => (realL (f52E K) 1) (selC f52C [1, 0, 1, 0, 0]) (f52_fr2 d0 d1 d2) (f52_k2 K a0 a1 (realL (f52E K) 1))) = fun d0 d1 d2 => f52_l2 K K d0 d1 d2 := by
    funext d0 d1 d2
    exact f52_t2 K a0 a1 d0 d1 d2 K d0 d1 d2
  exact runF_G (n0 := 1) (by rfl) ((key (realL (f52E K) 1)).trans (by rw [h2] <;> rfl))
theorem f42_t2 (K : Nat) (a0 : List Int) (a1 : Int) (bq3 : Int) (bq4 : Int) (bq5 : List Int) : ∀ (n : Nat) (q3 : Int) (q4 : Int) (q5 : List Int), loopN (exec (f42E K) 1 (selC f42C [1, 0, 1, 0, 0])) 1 (f42_fr2 bq3 bq4 bq5) n (f42_fr2 q3 q4 q5) (f42_k2 K a0 a1 (realL (f42E K) 1)) = f42_l2 K n q3 q4 q5 := by
  have key : ∀ (lr : LR ((List Int) × Int)) (L : Fr → Option ((List Int) × Int)) (q3 : Int) (q4 : Int) (q5 : List Int), execG (f42E K) 1 lr (selC f42C [1, 0, 1, 0, 0]) (f42_fr2 q3 q4 q5) (loopK 1 (f42_fr2 bq3 bq4 bq5) L (f42_k2 K a0 a1 lr)) = f42_b2 K (fun v0 v1 v2 => L (f42_fr2 v0 v1 v2)) q3 q4 q5 := by
    intro lr L q3 q4 q5; kernel_rfl
  intro n q3 q4 q5
  refine loopN_iter (X := Int × Int × List Int) (frame := fun x => (f42_fr2 x.1 x.2.1 x.2.2)) (body := (fun L x => (fun L2 => f42_b2 K L2 x.1 x.2.1 x.2.2) (fun v0 v1 v2 => L (v0, v1, v2)))) (fun L x => ?_) n (q3, q4, q5)
  rw [exec_G]
  exact (key (realL (f42E K) 1) L x.1 x.2.1 x.2.2).trans (by rfl)
theorem f42_run (K : Nat) (a0 : List Int) (a1 : Int) : runF (f42E K) Tryz.f42 [(.io, (.list 2 sI)), (.ro, sI)] [sI] (a0, a1, ()) = f42G K a0 a1 := by
  have key : ∀ (lr : LR ((List Int) × Int)), runG (f42E K) Tryz.f42 [(.io, (.list 2 sI)), (.ro, sI)] [sI] (a0, a1, ()) lr = f42_g K a0 a1 (fun d0 d1 d2 => lr (selC f42C [1, 0, 1, 0, 0]) (f42_fr2 d0 d1 d2) (f42_k2 K a0 a1 lr)) := by intro lr; kernel_rfl
  have h2 : (fun d0 d1 d2 => (realL (f42E K) 1) (selC f42C [1, 0, 1, 0, 0]) (f42_fr2 d0 d1 d2) (f42_k2 K a0 a1 (realL (f42E K) 1))) = fun d0 d1 d2 => f42_l2 K K d0 d1 d2 := by
    funext d0 d1 d2
    exact f42_t2 K a0 a1 d0 d1 d2 K d0 d1 d2
  exact runF_G (n0 := 1) (by rfl) ((key (realL (f42E K) 1)).trans (by rw [h2] <;> rfl))
theorem f25_run (K : Nat) (a0 : Int × tL × List Int) (a1 : Int) : runF (f25E K) Tryz.f25 [(.io, (.cons sI (.cons sL (.list 2 sI)))), (.ro, sI)] [sI] (a0, a1, ()) = f25G K a0 a1 := by kernel_rfl
theorem f55_t2 (K : Nat) (a0 : List Int) (a1 : Int) (bq3 : Int) (bq4 : Int) : ∀ (n : Nat) (q3 : Int) (q4 : Int), loopN (exec (f55E K) 1 (selC f55C [1, 0, 1, 0, 0])) 1 (f55_fr2 a0 bq3 bq4) n (f55_fr2 a0 q3 q4) (f55_k2 K a0 a1 (realL (f55E K) 1)) = f55_l2 K a0 n q3 q4 := by
  have key : ∀ (lr : LR Int) (L : Fr → Option Int) (q3 : Int) (q4 : Int), execG (f55E K) 1 lr (selC f55C [1, 0, 1, 0, 0]) (f55_fr2 a0 q3 q4) (loopK 1 (f55_fr2 a0 bq3 bq4) L (f55_k2 K a0 a1 lr)) = f55_b2 K a0 (fun v0 v1 => L (f55_fr2 a0 v0 v1)) q3 q4 := by
    intro lr L q3 q4; kernel_rfl
  intro n q3 q4
  refine loopN_iter (X := Int × Int) (frame := fun x => (f55_fr2 a0 x.1 x.2)) (body := (fun L x => (fun L2 => f55_b2 K a0 L2 x.1 x.2) (fun v0 v1 => L (v0, v1)))) (fun L x => ?_) n (q3, q4)
  rw [exec_G]
  exact (key (realL (f55E K) 1) L x.1 x.2).trans (by rfl)
theorem f55_run (K : Nat) (a0 : List Int) (a1 : Int) : runF (f55E K) Tryz.f55 [(.ro, (.list 2 sI)), (.ro, sI)] [sI] (a0, a1, ()) = f55G K a0 a1 := by
  have key : ∀ (lr : LR Int), runG (f55E K) Tryz.f55 [(.ro, (.list 2 sI)), (.ro, sI)] [sI] (a0, a1, ()) lr = f55_g K a0 a1 (fun d0 d1 => lr (selC f55C [1, 0, 1, 0, 0]) (f55_fr2 a0 d0 d1) (f55_k2 K a0 a1 lr)) := by intro lr; kernel_rfl
  have h2 : (fun d0 d1 => (realL (f55E K) 1) (selC f55C [1, 0, 1, 0, 0]) (f55_fr2 a0 d0 d1) (f55_k2 K a0 a1 (realL (f55E K) 1))) = fun d0 d1 => f55_l2 K a0 K d0 d1 := by
    funext d0 d1
    exact f55_t2 K a0 a1 d0 d1 K d0 d1
  exact runF_G (n0 := 1) (by rfl) ((key (realL (f55E K) 1)).trans (by rw [h2] <;> rfl))
theorem f32_run (K : Nat) (a0 : Int × tL × List Int) (a1 : Int) : runF (f32E K) Tryz.f32 [(.ro, (.cons sI (.cons sL (.list 2 sI)))), (.ro, sI)] [sI] (a0, a1, ()) = f32G K a0 a1 := by kernel_rfl
theorem f12_run (K : Nat) (a0 : Int) (a1 : Int × Int × Int) (a2 : List tM) (a3 : List (tV × Int)) (a4 : Int) : runF (f12E K) Tryz.f12 [(.ro, sI), (.ro, sL), (.ro, (.list 95 sM)), (.ro, (.list 122 (.cons sV sI))), (.ro, sI)] [.bool] (a0, a1, a2, a3, a4, ()) = f12G K a0 a1 a2 a3 a4 := by kernel_rfl
end Go.Proofs.YtmnciknpeefkfaaGreat.X
