/- Functions of the program as plain Lean functions, and that the program does what they say. Printed by gen.py. -/
import Derived.Test.YtniidcalfhhciaaGreatQcD1
namespace Go.Proofs.YtniidcalfhhciaaGreat.X
open Go
set_option maxRecDepth 100000
set_option linter.unusedVariables false
theorem f203_run (K : Nat) (a0 : Int × tL × List Int) (a1 : List tM) : runF (f203E K) Tryz.f203 [(.ro, (.cons sI (.cons sL (.list 2 sI)))), (.ro, (.list 57 sM))] [sI] (a0, a1, ()) = f203G K a0 a1 := by kernel_rfl
theorem f205_run (K : Nat) (a0 : Int × tL × List Int) (a1 : Int × Int) : runF (f205E K) Tryz.f205 [(.ro, (.cons sI (.cons sL (.list 2 sI)))), (.ro, sV)] [sI] (a0, a1, ()) = f205G K a0 a1 := by kernel_rfl
theorem f265_t6 (K : Nat) (a0 : Int × tL × List Int) (a1 : tA × Int × Int) (y1 : List tV) (bq7 : Int) : ∀ (n : Nat) (q7 : Int), loopN (exec (f265E K) 1 (selC f265C [1, 1, 0, 1, 0, 0])) 1 (f265_fr6 a0 a1 y1 bq7) n (f265_fr6 a0 a1 y1 q7) (f265_k6 K a0 a1 (realL (f265E K) 1)) = f265_l6 K a0 a1 y1 n q7 := by
  have key : ∀ (lr : LR Bool) (L : Fr → Option Bool) (q7 : Int), execG (f265E K) 1 lr (selC f265C [1, 1, 0, 1, 0, 0]) (f265_fr6 a0 a1 y1 q7) (loopK 1 (f265_fr6 a0 a1 y1 bq7) L (f265_k6 K a0 a1 lr)) = f265_b6 K a0 a1 y1 (fun v0 => L (f265_fr6 a0 a1 y1 v0)) q7 := by
    intro lr L q7; kernel_rfl
  intro n q7
  refine loopN_iter (X := Int) (frame := fun x => (f265_fr6 a0 a1 y1 x)) (body := (fun L x => (fun L6 => f265_b6 K a0 a1 y1 L6 x) (fun v0 => L v0))) (fun L x => ?_) n q7
  rw [exec_G]
  exact (key (realL (f265E K) 1) L x).trans (by rfl)
theorem f265_run (K : Nat) (a0 : Int × tL × List Int) (a1 : tA × Int × Int) : runF (f265E K) Tryz.f265 [(.ro, (.cons sI (.cons sL (.list 2 sI)))), (.ro, sM)] [.bool] (a0, a1, ()) = f265G K a0 a1 := by
  have key : ∀ (lr : LR Bool), runG (f265E K) Tryz.f265 [(.ro, (.cons sI (.cons sL (.list 2 sI)))), (.ro, sM)] [.bool] (a0, a1, ()) lr = f265_g K a0 a1 (fun c0 d0 => lr (selC f265C [1, 1, 0, 1, 0, 0]) (f265_fr6 a0 a1 c0 d0) (f265_k6 K a0 a1 lr)) := by intro lr; kernel_rfl
  have h6 : (fun c0 d0 => (realL (f265E K) 1) (selC f265C [1, 1, 0, 1, 0, 0]) (f265_fr6 a0 a1 c0 d0) (f265_k6 K a0 a1 (realL (f265E K) 1))) = fun c0 d0 => f265_l6 K a0 a1 c0 K d0 := by
    funext c0 d0
    exact f265_t6 K a0 a1 c0 d0 K d0
  exact runF_G (n0 := 1) (by rfl) ((key (realL (f265E K) 1)).trans (by rw [h6] <;> rfl))
theorem f204_t3 (K : Nat) (a0 : Int × tL × List Int) (a1 : List tM) (bq4 : Int) : ∀ (n : Nat) (q4 : Int), loopN (exec (f204E K) 2 (selC f204C [1, 0, 1, 0, 0])) 2 (f204_fr3 a0 a1 bq4) n (f204_fr3 a0 a1 q4) (f204_k3 K a0 a1 (realL (f204E K) 2)) = f204_l3 K a0 a1 n q4 := by
  have key : ∀ (lr : LR Bool) (L : Fr → Option Bool) (q4 : Int), execG (f204E K) 2 lr (selC f204C [1, 0, 1, 0, 0]) (f204_fr3 a0 a1 q4) (loopK 2 (f204_fr3 a0 a1 bq4) L (f204_k3 K a0 a1 lr)) = f204_b3 K a0 a1 (fun v0 => L (f204_fr3 a0 a1 v0)) q4 := by
    intro lr L q4; kernel_rfl
  intro n q4
  refine loopN_iter (X := Int) (frame := fun x => (f204_fr3 a0 a1 x)) (body := (fun L x => (fun L3 => f204_b3 K a0 a1 L3 x) (fun v0 => L v0))) (fun L x => ?_) n q4
  rw [exec_G]
  exact (key (realL (f204E K) 2) L x).trans (by rfl)
theorem f204_run (K : Nat) (a0 : Int × tL × List Int) (a1 : List tM) : runF (f204E K) Tryz.f204 [(.ro, (.cons sI (.cons sL (.list 2 sI)))), (.ro, (.list 57 sM))] [.bool] (a0, a1, ()) = f204G K a0 a1 := by
  have key : ∀ (lr : LR Bool), runG (f204E K) Tryz.f204 [(.ro, (.cons sI (.cons sL (.list 2 sI)))), (.ro, (.list 57 sM))] [.bool] (a0, a1, ()) lr = f204_g K a0 a1 (fun d0 => lr (selC f204C [1, 0, 1, 0, 0]) (f204_fr3 a0 a1 d0) (f204_k3 K a0 a1 lr)) := by intro lr; kernel_rfl
  have h3 : (fun d0 => (realL (f204E K) 2) (selC f204C [1, 0, 1, 0, 0]) (f204_fr3 a0 a1 d0) (f204_k3 K a0 a1 (realL (f204E K) 2))) = fun d0 => f204_l3 K a0 a1 K d0 := by
    funext d0
    exact f204_t3 K a0 a1 d0 K d0
  exact runF_G (n0 := 2) (by rfl) ((key (realL (f204E K) 2)).trans (by rw [h3] <;> rfl))
theorem f81_t6 (K : Nat) (a0 : Int × tL × List Int) (a1 : List tM) (y1 : Int) (y2 : Bool) (y3 : List (List tV)) (bq7 : Int) (bq8 : List Int) : ∀ (n : Nat) (q7 : Int) (q8 : List Int), loopN (exec (f81E K) 2 (selC f81C [1, 1, 1, 1, 1, 1, 0, 1, 0, 0])) 2 (f81_fr6 a0 a1 y1 y2 y3 bq7 bq8) n (f81_fr6 a0 a1 y1 y2 y3 q7 q8) (f81_k6 K a0 a1 (realL (f81E K) 2)) = f81_l6 K a0 a1 y1 y2 y3 n q7 q8 := by
  have key : ∀ (lr : LR ((List Int) × Int)) (L : Fr → Option ((List Int) × Int)) (q7 : Int) (q8 : List Int), execG (f81E K) 2 lr (selC f81C [1, 1, 1, 1, 1, 1, 0, 1, 0, 0]) (f81_fr6 a0 a1 y1 y2 y3 q7 q8) (loopK 2 (f81_fr6 a0 a1 y1 y2 y3 bq7 bq8) L (f81_k6 K a0 a1 lr)) = f81_b6 K a0 a1 y1 y2 y3 (fun v0 v1 => L (f81_fr6 a0 a1 y1 y2 y3 v0 v1)) q7 q8 := by
    intro lr L q7 q8; kernel_rfl
  intro n q7 q8
  refine loopN_iter (X := Int × List Int) (frame := fun x => (f81_fr6 a0 a1 y1 y2 y3 x.1 x.2)) (body := (fun L x => (fun L6 => f81_b6 K a0 a1 y1 y2 y3 L6 x.1 x.2) (fun v0 v1 => L (v0, v1)))) (fun L x => ?_) n (q7, q8)
  rw [exec_G]
  exact (key (realL (f81E K) 2) L x.1 x.2).trans (by rfl)
theorem f81_t11 (K : Nat) (a0 : Int × tL × List Int) (a1 : List tM) (y1 : Int) (y2 : Bool) (y10 : List (List tV)) (bq12 : Int) (bq13 : List Int) : ∀ (n : Nat) (q12 : Int) (q13 : List Int), loopN (exec (f81E K) 2 (selC f81C [1, 1, 1, 1, 1, 1, 0, 1, 0, 0])) 2 (f81_fr11 a0 a1 y1 y2 y10 bq12 bq13) n (f81_fr11 a0 a1 y1 y2 y10 q12 q13) (f81_k11 K a0 a1 (realL (f81E K) 2)) = f81_l11 K a0 a1 y1 y2 y10 n q12 q13 := by
  have key : ∀ (lr : LR ((List Int) × Int)) (L : Fr → Option ((List Int) × Int)) (q12 : Int) (q13 : List Int), execG (f81E K) 2 lr (selC f81C [1, 1, 1, 1, 1, 1, 0, 1, 0, 0]) (f81_fr11 a0 a1 y1 y2 y10 q12 q13) (loopK 2 (f81_fr11 a0 a1 y1 y2 y10 bq12 bq13) L (f81_k11 K a0 a1 lr)) = f81_b11 K a0 a1 y1 y2 y10 (fun v0 v1 => L (f81_fr11 a0 a1 y1 y2 y10 v0 v1)) q12 q13 := by
    intro lr L q12 q13; kernel_rfl
  intro n q12 q13
  refine loopN_iter (X := Int × List Int) (frame := fun x => (f81_fr11 a0 a1 y1 y2 y10 x.1 x.2)) (body := (fun L x => (fun L11 => f81_b11 K a0 a1 y1 y2 y10 L11 x.1 x.2) (fun v0 v1 => L (v0, v1)))) (fun L x => ?_) n (q12, q13)
  rw [exec_G]
  exact (key (realL (f81E K) 2) L x.1 x.2).trans (by rfl)
theorem f81_run (K : Nat) (a0 : Int × tL × List Int) (a1 : List tM) : runF (f81E K) Tryz.f81 [(.ro, (.cons sI (.cons sL (.list 2 sI)))), (.ro, (.list 57 sM))] [(.list 2 sI), sI] (a0, a1, ()) = f81G K a0 a1 := by
  have key : ∀ (lr : LR ((List Int) × Int)), runG (f81E K) Tryz.f81 [(.ro, (.cons sI (.cons sL (.list 2 sI)))), (.ro, (.list 57 sM))] [(.list 2 sI), sI] (a0, a1, ()) lr = f81_g K a0 a1 (fun c0 c1 c2 d0 d1 => lr (selC f81C [1, 1, 1, 1, 1, 1, 0, 1, 0, 0]) (f81_fr6 a0 a1 c0 c1 c2 d0 d1) (f81_k6 K a0 a1 lr)) (fun c0 c1 c2 d0 d1 => lr (selC f81C [1, 1, 1, 1, 1, 1, 0, 1, 0, 0]) (f81_fr11 a0 a1 c0 c1 c2 d0 d1) (f81_k11 K a0 a1 lr)) := by intro lr; kernel_rfl
  have h6 : (fun c0 c1 c2 d0 d1 => (realL (f81E K) 2) (selC f81C [1, 1, 1, 1, 1, 1, 0, 1, 0, 0]) (f81_fr6 a0 a1 c0 c1 c2 d0 d1) (f81_k6 K a0 a1 (realL (f81E K) 2))) = fun c0 c1 c2 d0 d1 => f81_l6 K a0 a1 c0 c1 c2 K d0 d1 := by
    funext c0 c1 c2 d0 d1
    exact f81_t6 K a0 a1 c0 c1 c2 d0 d1 K d0 d1
  have h11 : (fun c0 c1 c2 d0 d1 => (realL (f81E K) 2) (selC f81C [1, 1, 1, 1, 1, 1, 0, 1, 0, 0]) (f81_fr11 a0 a1 c0 c1 c2 d0 d1) (f81_k11 K a0 a1 (realL (f81E K) 2))) = fun c0 c1 c2 d0 d1 => f81_l11 K a0 a1 c0 c1 c2 K d0 d1 := by
    funext c0 c1 c2 d0 d1
    exact f81_t11 K a0 a1 c0 c1 c2 d0 d1 K d0 d1
  exact runF_G (n0 := 2) (by rfl) ((key (realL (f81E K) 2)).trans (by rw [h6, h11] <;> rfl))
theorem f74_run (K : Nat) (a0 : Int × tL × List Int) (a1 : List tM) : runF (f74E K) Tryz.f74 [(.ro, (.cons sI (.cons sL (.list 2 sI)))), (.ro, (.list 57 sM))] [.bool, sI] (a0, a1, ()) = f74G K a0 a1 := by kernel_rfl
theorem f82_run (K : Nat) (a0 : Int × tL × List Int) (a1 : List tM) : runF (f82E K) Tryz.f82 [(.ro, (.cons sI (.cons sL (.list 2 sI)))), (.ro, (.list 57 sM))] [.bool, sI] (a0, a1, ()) = f82G K a0 a1 := by kernel_rfl
theorem f56_t2 (K : Nat) (a0 : List Int) (a1 : List Int) (bq3 : Int) : ∀ (n : Nat) (q3 : Int), loopN (exec (f56E K) 2 (selC f56C [1, 1, 0, 1, 0, 0])) 2 (f56_fr2 a0 a1 bq3) n (f56_fr2 a0 a1 q3) (f56_k2 K a0 a1 (realL (f56E K) 2)) = f56_l2 K a0 a1 n q3 := by
  have key : ∀ (lr : LR Bool) (L : Fr → Option Bool) (q3 : Int), execG (f56E K) 2 lr (selC f56C [1, 1, 0, 1, 0, 0]) (f56_fr2 a0 a1 q3) (loopK 2 (f56_fr2 a0 a1 bq3) L (f56_k2 K a0 a1 lr)) = f56_b2 K a0 a1 (fun v0 => L (f56_fr2 a0 a1 v0)) q3 := by
    intro lr L q3; kernel_rfl
  intro n q3
  refine loopN_iter (X := Int) (frame := fun x => (f56_fr2 a0 a1 x)) (body := (fun L x => (fun L2 => f56_b2 K a0 a1 L2 x) (fun v0 => L v0))) (fun L x => ?_) n q3
  rw [exec_G]
  exact (key (realL (f56E K) 2) L x).trans (by rfl)
theorem f56_run (K : Nat) (a0 : List Int) (a1 : List Int) : runF (f56E K) Tryz.f56 [(.ro, (.list 2 sI)), (.ro, (.list 2 sI))] [.bool] (a0, a1, ()) = f56G K a0 a1 := by
  have key : ∀ (lr : LR Bool), runG (f56E K) Tryz.f56 [(.ro, (.list 2 sI)), (.ro, (.list 2 sI))] [.bool] (a0, a1, ()) lr = f56_g K a0 a1 (fun d0 => lr (selC f56C [1, 1, 0, 1, 0, 0]) (f56_fr2 a0 a1 d0) (f56_k2 K a0 a1 lr)) := by intro lr; kernel_rfl
  have h2 : (fun d0 => (realL (f56E K) 2) (selC f56C [1, 1, 0, 1, 0, 0]) (f56_fr2 a0 a1 d0) (f56_k2 K a0 a1 (realL (f56E K) 2))) = fun d0 => f56_l2 K a0 a1 K d0 := by
    funext d0
    exact f56_t2 K a0 a1 d0 K d0
  exact runF_G (n0 := 2) (by rfl) ((key (realL (f56E K) 2)).trans (by rw [h2] <;> rfl))
theorem f29_run (K : Nat) (a0 : Int × tL × List Int) (a1 : Int × tL × List Int) : runF (f29E K) Tryz.f29 [(.ro, (.cons sI (.cons sL (.list 2 sI)))), (.ro, (.cons sI (.cons sL (.list 2 sI))))] [.bool] (a0, a1, ()) = f29G K a0 a1 := by kernel_rfl
theorem f9_run (K : Nat) (a0 : List Int) : runF (f9E K) Tryz.f9 [(.ro, (.list 5 (.int .u8)))] [.bool] (a0, ()) = f9G K a0 := by kernel_rfl
end Go.Proofs.YtniidcalfhhciaaGreat.X
