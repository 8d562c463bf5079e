/- Functions of the program as plain Lean functions, and that the program does what they say. Printed by gen.py. -/
import Derived.Test.YtniidcalfhhciaaGreatQgD1
namespace Go.Proofs.YtniidcalfhhciaaGreat.X
open Go
set_option maxRecDepth 100000
set_option linter.unusedVariables false
theorem f107_t6 (K : Nat) (a0 : Int) (a1 : Int × Int × Int) (a2 : List tM) (y1 : (List (List tV)) × Int) (y2 : List Int) (bq7 : List tV) : ∀ (n : Nat) (q7 : List tV), loopN (exec (f107E K) 1 (selC f107C [1, 1, 1, 1, 1, 0, 0, 0])) 1 (f107_fr6 a0 a1 a2 y1 y2 bq7) n (f107_fr6 a0 a1 a2 y1 y2 q7) (f107_k6 K a0 a1 a2 (realL (f107E K) 1)) = f107_l6 K a0 a1 a2 y1 y2 n q7 := by
  have key : ∀ (lr : LR ((List tV) × Int)) (L : Fr → Option ((List tV) × Int)) (q7 : List tV), execG (f107E K) 1 lr (selC f107C [1, 1, 1, 1, 1, 0, 0, 0]) (f107_fr6 a0 a1 a2 y1 y2 q7) (loopK 1 (f107_fr6 a0 a1 a2 y1 y2 bq7) L (f107_k6 K a0 a1 a2 lr)) = f107_b6 K a0 a1 a2 y1 y2 (fun v0 => L (f107_fr6 a0 a1 a2 y1 y2 v0)) q7 := by
    intro lr L q7; kernel_rfl
  intro n q7
  refine loopN_iter (X := List tV) (frame := fun x => (f107_fr6 a0 a1 a2 y1 y2 x)) (body := (fun L x => (fun L6 => f107_b6 K a0 a1 a2 y1 y2 L6 x) (fun v0 => L v0))) (fun L x => ?_) n q7
  rw [exec_G]
  exact (key (realL (f107E K) 1) L x).trans (by rfl)
theorem f107_run (K : Nat) (a0 : Int) (a1 : Int × Int × Int) (a2 : List tM) : runF (f107E K) Tryz.f107 [(.ro, sI), (.ro, sL), (.ro, (.list 57 sM))] [(.list 55 sV), sI] (a0, a1, a2, ()) = f107G K a0 a1 a2 := by
  have key : ∀ (lr : LR ((List tV) × Int)), runG (f107E K) Tryz.f107 [(.ro, sI), (.ro, sL), (.ro, (.list 57 sM))] [(.list 55 sV), sI] (a0, a1, a2, ()) lr = f107_g K a0 a1 a2 (fun c0 c1 d0 => lr (selC f107C [1, 1, 1, 1, 1, 0, 0, 0]) (f107_fr6 a0 a1 a2 c0 c1 d0) (f107_k6 K a0 a1 a2 lr)) := by intro lr; kernel_rfl
  have h6 : (fun c0 c1 d0 => (realL (f107E K) 1) (selC f107C [1, 1, 1, 1, 1, 0, 0, 0]) (f107_fr6 a0 a1 a2 c0 c1 d0) (f107_k6 K a0 a1 a2 (realL (f107E K) 1))) = fun c0 c1 d0 => f107_l6 K a0 a1 a2 c0 c1 K d0 := by
    funext c0 c1 d0
    exact f107_t6 K a0 a1 a2 c0 c1 d0 K d0
  exact runF_G (n0 := 1) (by rfl) ((key (realL (f107E K) 1)).trans (by rw [h6] <;> rfl))
theorem f108_t3 (K : Nat) (a0 : Int) (a1 : Int × Int × Int) (a2 : List tM) (y1 : (List (List tV)) × Int) (bq4 : Int) (bq5 : List tV) : ∀ (n : Nat) (q4 : Int) (q5 : List tV), loopN (exec (f108E K) 1 (selC f108C [1, 1, 1, 1, 0, 1, 0, 0])) 1 (f108_fr3 a0 a1 a2 y1 bq4 bq5) n (f108_fr3 a0 a1 a2 y1 q4 q5) (f108_k3 K a0 a1 a2 (realL (f108E K) 1)) = f108_l3 K a0 a1 a2 y1 n q4 q5 := by
  have key : ∀ (lr : LR ((List tV) × Int)) (L : Fr → Option ((List tV) × Int)) (q4 : Int) (q5 : List tV), execG (f108E K) 1 lr (selC f108C [1, 1, 1, 1, 0, 1, 0, 0]) (f108_fr3 a0 a1 a2 y1 q4 q5) (loopK 1 (f108_fr3 a0 a1 a2 y1 bq4 bq5) L (f108_k3 K a0 a1 a2 lr)) = f108_b3 K a0 a1 a2 y1 (fun v0 v1 => L (f108_fr3 a0 a1 a2 y1 v0 v1)) q4 q5 := by
    intro lr L q4 q5; kernel_rfl
  intro n q4 q5
  refine loopN_iter (X := Int × List tV) (frame := fun x => (f108_fr3 a0 a1 a2 y1 x.1 x.2)) (body := (fun L x => (fun L3 => f108_b3 K a0 a1 a2 y1 L3 x.1 x.2) (fun v0 v1 => L (v0, v1)))) (fun L x => ?_) n (q4, q5)
  rw [exec_G]
  exact (key (realL (f108E K) 1) L x.1 x.2).trans (by rfl)
theorem f108_run (K : Nat) (a0 : Int) (a1 : Int × Int × Int) (a2 : List tM) : runF (f108E K) Tryz.f108 [(.ro, sI), (.ro, sL), (.ro, (.list 57 sM))] [(.list 55 sV), sI] (a0, a1, a2, ()) = f108G K a0 a1 a2 := by
  have key : ∀ (lr : LR ((List tV) × Int)), runG (f108E K) Tryz.f108 [(.ro, sI), (.ro, sL), (.ro, (.list 57 sM))] [(.list 55 sV), sI] (a0, a1, a2, ()) lr = f108_g K a0 a1 a2 (fun c0 d0 d1 => lr (selC f108C [1, 1, 1, 1, 0, 1, 0, 0]) (f108_fr3 a0 a1 a2 c0 d0 d1) (f108_k3 K a0 a1 a2 lr)) := by intro lr; kernel_rfl
  have h3 : (fun c0 d0 d1 => (realL (f108E K) 1) (selC f108C [1, 1, 1, 1, 0, 1, 0, 0]) (f108_fr3 a0 a1 a2 c0 d0 d1) (f108_k3 K a0 a1 a2 (realL (f108E K) 1))) = fun c0 d0 d1 => f108_l3 K a0 a1 a2 c0 K d0 d1 := by
    funext c0 d0 d1
    exact f108_t3 K a0 a1 a2 c0 d0 d1 K d0 d1
  exact runF_G (n0 := 1) (by rfl) ((key (realL (f108E K) 1)).trans (by rw [h3] <;> rfl))
theorem f109_t3 (K : Nat) (a0 : Int) (a1 : Int × Int × Int) (a2 : List tM) (y1 : (List (List tV)) × Int) (bq4 : Int) (bq5 : List tV) : ∀ (n : Nat) (q4 : Int) (q5 : List tV), loopN (exec (f109E K) 1 (selC f109C [1, 1, 1, 1, 0, 1, 0, 0])) 1 (f109_fr3 a0 a1 a2 y1 bq4 bq5) n (f109_fr3 a0 a1 a2 y1 q4 q5) (f109_k3 K a0 a1 a2 (realL (f109E K) 1)) = f109_l3 K a0 a1 a2 y1 n q4 q5 := by
  have key : ∀ (lr : LR ((List tV) × Int)) (L : Fr → Option ((List tV) × Int)) (q4 : Int) (q5 : List tV), execG (f109E K) 1 lr (selC f109C [1, 1, 1, 1, 0, 1, 0, 0]) (f109_fr3 a0 a1 a2 y1 q4 q5) (loopK 1 (f109_fr3 a0 a1 a2 y1 bq4 bq5) L (f109_k3 K a0 a1 a2 lr)) = f109_b3 K a0 a1 a2 y1 (fun v0 v1 => L (f109_fr3 a0 a1 a2 y1 v0 v1)) q4 q5 := by
    intro lr L q4 q5; kernel_rfl
  intro n q4 q5
  refine loopN_iter (X := Int × List tV) (frame := fun x => (f109_fr3 a0 a1 a2 y1 x.1 x.2)) (body := (fun L x => (fun L3 => f109_b3 K a0 a1 a2 y1 L3 x.1 x.2) (fun v0 v1 => L (v0, v1)))) (fun L x => ?_) n (q4, q5)
  rw [exec_G]
  exact (key (realL (f109E K) 1) L x.1 x.2).trans (by rfl)
theorem f109_run (K : Nat) (a0 : Int) (a1 : Int × Int × Int) (a2 : List tM) : runF (f109E K) Tryz.f109 [(.ro, sI), (.ro, sL), (.ro, (.list 57 sM))] [(.list 55 sV), sI] (a0, a1, a2, ()) = f109G K a0 a1 a2 := by
  have key : ∀ (lr : LR ((List tV) × Int)), runG (f109E K) Tryz.f109 [(.ro, sI), (.ro, sL), (.ro, (.list 57 sM))] [(.list 55 sV), sI] (a0, a1, a2, ()) lr = f109_g K a0 a1 a2 (fun c0 d0 d1 => lr (selC f109C [1, 1, 1, 1, 0, 1, 0, 0]) (f109_fr3 a0 a1 a2 c0 d0 d1) (f109_k3 K a0 a1 a2 lr)) := by intro lr; kernel_rfl
  have h3 : (fun c0 d0 d1 => (realL (f109E K) 1) (selC f109C [1, 1, 1, 1, 0, 1, 0, 0]) (f109_fr3 a0 a1 a2 c0 d0 d1) (f109_k3 K a0 a1 a2 (realL (f109E K) 1))) = fun c0 d0 d1 => f109_l3 K a0 a1 a2 c0 K d0 d1 := by
    funext c0 d0 d1
    exact f109_t3 K a0 a1 a2 c0 d0 d1 K d0 d1
  exact runF_G (n0 := 1) (by rfl) ((key (realL (f109E K) 1)).trans (by rw [h3] <;> rfl))
theorem f92_t2 (K : Nat) (a0 : List tV) (a1 : List tV) (bq3 : Int) : ∀ (n : Nat) (q3 : Int), loopN (exec (f92E K) 2 (selC f92C [1, 1, 0, 1, 0, 0])) 2 (f92_fr2 a0 a1 bq3) n (f92_fr2 a0 a1 q3) (f92_k2 K a0 a1 (realL (f92E K) 2)) = f92_l2 K a0 a1 n q3 := by
  have key : ∀ (lr : LR Bool) (L : Fr → Option Bool) (q3 : Int), execG (f92E K) 2 lr (selC f92C [1, 1, 0, 1, 0, 0]) (f92_fr2 a0 a1 q3) (loopK 2 (f92_fr2 a0 a1 bq3) L (f92_k2 K a0 a1 lr)) = f92_b2 K a0 a1 (fun v0 => L (f92_fr2 a0 a1 v0)) q3 := by
    intro lr L q3; kernel_rfl
  intro n q3
  refine loopN_iter (X := Int) (frame := fun x => (f92_fr2 a0 a1 x)) (body := (fun L x => (fun L2 => f92_b2 K a0 a1 L2 x) (fun v0 => L v0))) (fun L x => ?_) n q3
  rw [exec_G]
  exact (key (realL (f92E K) 2) L x).trans (by rfl)
theorem f92_run (K : Nat) (a0 : List tV) (a1 : List tV) : runF (f92E K) Tryz.f92 [(.ro, (.list 55 sV)), (.ro, (.list 55 sV))] [.bool] (a0, a1, ()) = f92G K a0 a1 := by
  have key : ∀ (lr : LR Bool), runG (f92E K) Tryz.f92 [(.ro, (.list 55 sV)), (.ro, (.list 55 sV))] [.bool] (a0, a1, ()) lr = f92_g K a0 a1 (fun d0 => lr (selC f92C [1, 1, 0, 1, 0, 0]) (f92_fr2 a0 a1 d0) (f92_k2 K a0 a1 lr)) := by intro lr; kernel_rfl
  have h2 : (fun d0 => (realL (f92E K) 2) (selC f92C [1, 1, 0, 1, 0, 0]) (f92_fr2 a0 a1 d0) (f92_k2 K a0 a1 (realL (f92E K) 2))) = fun d0 => f92_l2 K a0 a1 K d0 := by
    funext d0
    exact f92_t2 K a0 a1 d0 K d0
  exact runF_G (n0 := 2) (by rfl) ((key (realL (f92E K) 2)).trans (by rw [h2] <;> rfl))
theorem f281_run (K : Nat) (a0 : Int) : runF (f281E K) Tryz.f281 [(.ro, sI)] [.bool] (a0, ()) = f281G K a0 := by kernel_rfl
theorem f156_run (K : Nat) (a0 : Int × Int) : runF (f156E K) Tryz.f156 [(.ro, sV)] [.bool] (a0, ()) = f156G K a0 := by kernel_rfl
theorem f237_t4 (K : Nat) (a0 : List tV) (bq5 : Int) : ∀ (n : Nat) (q5 : Int), loopN (exec (f237E K) 1 (selC f237C [1, 0, 1, 0, 0])) 1 (f237_fr4 a0 bq5) n (f237_fr4 a0 q5) (f237_k4 K a0 (realL (f237E K) 1)) = f237_l4 K a0 n q5 := by
  have key : ∀ (lr : LR Bool) (L : Fr → Option Bool) (q5 : Int), execG (f237E K) 1 lr (selC f237C [1, 0, 1, 0, 0]) (f237_fr4 a0 q5) (loopK 1 (f237_fr4 a0 bq5) L (f237_k4 K a0 lr)) = f237_b4 K a0 (fun v0 => L (f237_fr4 a0 v0)) q5 := by
    intro lr L q5; kernel_rfl
  intro n q5
  refine loopN_iter (X := Int) (frame := fun x => (f237_fr4 a0 x)) (body := (fun L x => (fun L4 => f237_b4 K a0 L4 x) (fun v0 => L v0))) (fun L x => ?_) n q5
  rw [exec_G]
  exact (key (realL (f237E K) 1) L x).trans (by rfl)
theorem f237_run (K : Nat) (a0 : List tV) : runF (f237E K) Tryz.f237 [(.ro, (.list 55 sV))] [.bool] (a0, ()) = f237G K a0 := by
  have key : ∀ (lr : LR Bool), runG (f237E K) Tryz.f237 [(.ro, (.list 55 sV))] [.bool] (a0, ()) lr = f237_g K a0 (fun d0 => lr (selC f237C [1, 0, 1, 0, 0]) (f237_fr4 a0 d0) (f237_k4 K a0 lr)) := by intro lr; kernel_rfl
  have h4 : (fun d0 => (realL (f237E K) 1) (selC f237C [1, 0, 1, 0, 0]) (f237_fr4 a0 d0) (f237_k4 K a0 (realL (f237E K) 1))) = fun d0 => f237_l4 K a0 K d0 := by
    funext d0
    exact f237_t4 K a0 d0 K d0
  exact runF_G (n0 := 1) (by rfl) ((key (realL (f237E K) 1)).trans (by rw [h4] <;> rfl))
theorem f159_run (K : Nat) (a0 : Int) (a1 : Int × Int × Int) (a2 : List tM) (a3 : List tV) : runF (f159E K) Tryz.f159 [(.ro, sI), (.ro, sL), (.ro, (.list 57 sM)), (.ro, (.list 55 sV))] [sI] (a0, a1, a2, a3, ()) = f159G K a0 a1 a2 a3 := by kernel_rfl
theorem f162_t11 (K : Nat) (a0 : Int × Int × Int) (a1 : List tM) (a2 : List tV) (q9 : Int) (q10 : List (List tV)) (F8 : Fr → Option (List (List tV))) (bq9 : Int) (bq10 : List (List tV)) (bq12 : Int) (bq13 : List tV) : ∀ (n : Nat) (q12 : Int) (q13 : List tV), loopN (exec (f162E K) 2 (selC f162C [1, 1, 0, 1, 0, 0, 1, 1, 0, 0, 1, 1, 0, 1, 0, 0])) 2 (f162_fr11 a0 a1 a2 q9 q10 bq12 bq13) n (f162_fr11 a0 a1 a2 q9 q10 q12 q13) (f162_k11 K a0 a1 a2 F8 bq9 bq10 (realL (f162E K) 2)) = f162_l11 K a0 a1 a2 q9 q10 (fun v0 v1 => F8 (f162_fr8 a0 a1 a2 v0 v1)) n q12 q13 := by
  have key : ∀ (lr : LR (List (List tV))) (L : Fr → Option (List (List tV))) (q12 : Int) (q13 : List tV), execG (f162E K) 2 lr (selC f162C [1, 1, 0, 1, 0, 0, 1, 1, 0, 0, 1, 1, 0, 1, 0, 0]) (f162_fr11 a0 a1 a2 q9 q10 q12 q13) (loopK 2 (f162_fr11 a0 a1 a2 q9 q10 bq12 bq13) L (f162_k11 K a0 a1 a2 F8 bq9 bq10 lr)) = f162_b11 K a0 a1 a2 q9 q10 (fun v0 v1 => F8 (f162_fr8 a0 a1 a2 v0 v1)) (fun v0 v1 => L (f162_fr11 a0 a1 a2 q9 q10 v0 v1)) q12 q13 := by
    intro lr L q12 q13; kernel_rfl
  intro n q12 q13
  refine loopN_iter (X := Int × List tV) (frame := fun x => (f162_fr11 a0 a1 a2 q9 q10 x.1 x.2)) (body := (fun L x => (fun L11 => f162_b11 K a0 a1 a2 q9 q10 (fun v0 v1 => F8 (f162_fr8 a0 a1 a2 v0 v1)) L11 x.1 x.2) (fun v0 v1 => L (v0, v1)))) (fun L x => ?_) n (q12, q13)
  rw [exec_G]
  exact (key (realL (f162E K) 2) L x.1 x.2).trans (by rfl)
theorem f162_t8 (K : Nat) (a0 : Int × Int × Int) (a1 : List tM) (a2 : List tV) (bq9 : Int) (bq10 : List (List tV)) : ∀ (n : Nat) (q9 : Int) (q10 : List (List tV)), loopN (exec (f162E K) 2 (selC f162C [1, 1, 0, 1, 0, 0])) 2 (f162_fr8 a0 a1 a2 bq9 bq10) n (f162_fr8 a0 a1 a2 q9 q10) (f162_k8 K a0 a1 a2 (realL (f162E K) 2)) = f162_l8 K a0 a1 a2 n q9 q10 := by
  have key : ∀ (lr : LR (List (List tV))) (L : Fr → Option (List (List tV))) (q9 : Int) (q10 : List (List tV)), execG (f162E K) 2 lr (selC f162C [1, 1, 0, 1, 0, 0]) (f162_fr8 a0 a1 a2 q9 q10) (loopK 2 (f162_fr8 a0 a1 a2 bq9 bq10) L (f162_k8 K a0 a1 a2 lr)) = f162_b8 K a0 a1 a2 (fun c0 c1 d0 d1 => lr (selC f162C [1, 1, 0, 1, 0, 0, 1, 1, 0, 0, 1, 1, 0, 1, 0, 0]) (f162_fr11 a0 a1 a2 c0 c1 d0 d1) (f162_k11 K a0 a1 a2 L bq9 bq10 lr)) (fun v0 v1 => L (f162_fr8 a0 a1 a2 v0 v1)) q9 q10 := by
    intro lr L q9 q10; kernel_rfl
  intro n q9 q10
  refine loopN_iter (X := Int × List (List tV)) (frame := fun x => (f162_fr8 a0 a1 a2 x.1 x.2)) (body := (fun L x => (fun L8 => f162_b8 K a0 a1 a2 (fun c0 c1 d0 d1 => f162_l11 K a0 a1 a2 c0 c1 L8 K d0 d1) L8 x.1 x.2) (fun v0 v1 => L (v0, v1)))) (fun L x => ?_) n (q9, q10)
  rw [exec_G]
  have h11 : (fun c0 c1 d0 d1 => (realL (f162E K) 2) (selC f162C [1, 1, 0, 1, 0, 0, 1, 1, 0, 0, 1, 1, 0, 1, 0, 0]) (f162_fr11 a0 a1 a2 c0 c1 d0 d1) (f162_k11 K a0 a1 a2 L bq9 bq10 (realL (f162E K) 2))) = fun c0 c1 d0 d1 => f162_l11 K a0 a1 a2 c0 c1 (fun v0 v1 => L (f162_fr8 a0 a1 a2 v0 v1)) K d0 d1 := by
    funext c0 c1 d0 d1
    exact f162_t11 K a0 a1 a2 c0 c1 L bq9 bq10 d0 d1 K d0 d1
  exact (key (realL (f162E K) 2) L x.1 x.2).trans (by rw [h11] <;> rfl)
theorem f162_run (K : Nat) (a0 : Int × Int × Int) (a1 : List tM) (a2 : List tV) : runF (f162E K) Tryz.f162 [(.ro, sL), (.ro, (.list 57 sM)), (.ro, (.list 55 sV))] [(.list 58 (.list 55 sV))] (a0, a1, a2, ()) = f162G K a0 a1 a2 := by
  have key : ∀ (lr : LR (List (List tV))), runG (f162E K) Tryz.f162 [(.ro, sL), (.ro, (.list 57 sM)), (.ro, (.list 55 sV))] [(.list 58 (.list 55 sV))] (a0, a1, a2, ()) lr = f162_g K a0 a1 a2 (fun d0 d1 => lr (selC f162C [1, 1, 0, 1, 0, 0]) (f162_fr8 a0 a1 a2 d0 d1) (f162_k8 K a0 a1 a2 lr)) := by intro lr; kernel_rfl
  have h8 : (fun d0 d1 => (realL (f162E K) 2) (selC f162C [1, 1, 0, 1, 0, 0]) (f162_fr8 a0 a1 a2 d0 d1) (f162_k8 K a0 a1 a2 (realL (f162E K) 2))) = fun d0 d1 => f162_l8 K a0 a1 a2 K d0 d1 := by
    funext d0 d1
    exact f162_t8 K a0 a1 a2 d0 d1 K d0 d1
  exact runF_G (n0 := 2) (by rfl) ((key (realL (f162E K) 2)).trans (by rw [h8] <;> rfl))
theorem f160_t10 (K : Nat) (a0 : Int × Int × Int) (a1 : List tM) (a2 : List tV) (y1 : List (List tV)) (q8 : Int) (F7 : Fr → Option Bool) (bq8 : Int) (bq9 : List (tV × Bool)) (bq11 : Int) (bq12 : List (tV × Bool)) : ∀ (n : Nat) (q11 : Int) (q12 : List (tV × Bool)), loopN (exec (f160E K) 2 (selC f160C [1, 1, 0, 1, 0, 0, 1, 1, 0, 0, 1, 1, 0, 0])) 2 (f160_fr10 a0 a1 a2 q8 y1 bq11 bq12) n (f160_fr10 a0 a1 a2 q8 y1 q11 q12) (f160_k10 K a0 a1 a2 y1 F7 bq8 bq9 (realL (f160E K) 2)) = f160_l10 K a0 a1 a2 q8 y1 (fun v0 v1 => F7 (f160_fr7 a0 a1 a2 y1 v0 v1)) n q11 q12 := by
  have key : ∀ (lr : LR Bool) (L : Fr → Option Bool) (q11 : Int) (q12 : List (tV × Bool)), execG (f160E K) 2 lr (selC f160C [1, 1, 0, 1, 0, 0, 1, 1, 0, 0, 1, 1, 0, 0]) (f160_fr10 a0 a1 a2 q8 y1 q11 q12) (loopK 2 (f160_fr10 a0 a1 a2 q8 y1 bq11 bq12) L (f160_k10 K a0 a1 a2 y1 F7 bq8 bq9 lr)) = f160_b10 K a0 a1 a2 q8 y1 (fun v0 v1 => F7 (f160_fr7 a0 a1 a2 y1 v0 v1)) (fun v0 v1 => L (f160_fr10 a0 a1 a2 q8 y1 v0 v1)) q11 q12 := by
    intro lr L q11 q12; kernel_rfl
  intro n q11 q12
  refine loopN_iter (X := Int × List (tV × Bool)) (frame := fun x => (f160_fr10 a0 a1 a2 q8 y1 x.1 x.2)) (body := (fun L x => (fun L10 => f160_b10 K a0 a1 a2 q8 y1 (fun v0 v1 => F7 (f160_fr7 a0 a1 a2 y1 v0 v1)) L10 x.1 x.2) (fun v0 v1 => L (v0, v1)))) (fun L x => ?_) n (q11, q12)
  rw [exec_G]
  exact (key (realL (f160E K) 2) L x.1 x.2).trans (by rfl)
theorem f160_t7 (K : Nat) (a0 : Int × Int × Int) (a1 : List tM) (a2 : List tV) (y1 : List (List tV)) (bq8 : Int) (bq9 : List (tV × Bool)) : ∀ (n : Nat) (q8 : Int) (q9 : List (tV × Bool)), loopN (exec (f160E K) 2 (selC f160C [1, 1, 0, 1, 0, 0])) 2 (f160_fr7 a0 a1 a2 y1 bq8 bq9) n (f160_fr7 a0 a1 a2 y1 q8 q9) (f160_k7 K a0 a1 a2 (realL (f160E K) 2)) = f160_l7 K a0 a1 a2 y1 n q8 q9 := by
  have key : ∀ (lr : LR Bool) (L : Fr → Option Bool) (q8 : Int) (q9 : List (tV × Bool)), execG (f160E K) 2 lr (selC f160C [1, 1, 0, 1, 0, 0]) (f160_fr7 a0 a1 a2 y1 q8 q9) (loopK 2 (f160_fr7 a0 a1 a2 y1 bq8 bq9) L (f160_k7 K a0 a1 a2 lr)) = f160_b7 K a0 a1 a2 y1 (fun c0 d0 d1 => lr (selC f160C [1, 1, 0, 1, 0, 0, 1, 1, 0, 0, 1, 1, 0, 0]) (f160_fr10 a0 a1 a2 c0 y1 d0 d1) (f160_k10 K a0 a1 a2 y1 L bq8 bq9 lr)) (fun v0 v1 => L (f160_fr7 a0 a1 a2 y1 v0 v1)) q8 q9 := by
    intro lr L q8 q9; kernel_rfl
  intro n q8 q9
  refine loopN_iter (X := Int × List (tV × Bool)) (frame := fun x => (f160_fr7 a0 a1 a2 y1 x.1 x.2)) (body := (fun L x => (fun L7 => f160_b7 K a0 a1 a2 y1 (fun c0 d0 d1 => f160_l10 K a0 a1 a2 c0 y1 L7 K d0 d1) L7 x.1 x.2) (fun v0 v1 => L (v0, v1)))) (fun L x => ?_) n (q8, q9)
  rw [exec_G]
  have h10 : (fun c0 d0 d1 => (realL (f160E K) 2) (selC f160C [1, 1, 0, 1, 0, 0, 1, 1, 0, 0, 1, 1, 0, 0]) (f160_fr10 a0 a1 a2 c0 y1 d0 d1) (f160_k10 K a0 a1 a2 y1 L bq8 bq9 (realL (f160E K) 2))) = fun c0 d0 d1 => f160_l10 K a0 a1 a2 c0 y1 (fun v0 v1 => L (f160_fr7 a0 a1 a2 y1 v0 v1)) K d0 d1 := by
    funext c0 d0 d1
    exact f160_t10 K a0 a1 a2 y1 c0 L bq8 bq9 d0 d1 K d0 d1
  exact (key (realL (f160E K) 2) L x.1 x.2).trans (by rw [h10] <;> rfl)
theorem f160_run (K : Nat) (a0 : Int × Int × Int) (a1 : List tM) (a2 : List tV) : runF (f160E K) Tryz.f160 [(.ro, sL), (.ro, (.list 57 sM)), (.ro, (.list 55 sV))] [.bool] (a0, a1, a2, ()) = f160G K a0 a1 a2 := by
  have key : ∀ (lr : LR Bool), runG (f160E K) Tryz.f160 [(.ro, sL), (.ro, (.list 57 sM)), (.ro, (.list 55 sV))] [.bool] (a0, a1, a2, ()) lr = f160_g K a0 a1 a2 (fun c0 d0 d1 => lr (selC f160C [1, 1, 0, 1, 0, 0]) (f160_fr7 a0 a1 a2 c0 d0 d1) (f160_k7 K a0 a1 a2 lr)) := by intro lr; kernel_rfl
  have h7 : (fun c0 d0 d1 => (realL (f160E K) 2) (selC f160C [1, 1, 0, 1, 0, 0]) (f160_fr7 a0 a1 a2 c0 d0 d1) (f160_k7 K a0 a1 a2 (realL (f160E K) 2))) = fun c0 d0 d1 => f160_l7 K a0 a1 a2 c0 K d0 d1 := by
    funext c0 d0 d1
    exact f160_t7 K a0 a1 a2 c0 d0 d1 K d0 d1
  exact runF_G (n0 := 2) (by rfl) ((key (realL (f160E K) 2)).trans (by rw [h7] <;> rfl))
theorem f39_run (K : Nat) (a0 : Int) (a1 : Int × Int × Int) (a2 : List tM) (a3 : List tV) : runF (f39E K) Tryz.f39 [(.ro, sI), (.ro, sL), (.ro, (.list 57 sM)), (.ro, (.list 55 sV))] [.bool, sI] (a0, a1, a2, a3, ()) = f39G K a0 a1 a2 a3 := by kernel_rfl
theorem f168_run (K : Nat) (a0 : Int × Int × Int) (a1 : Int × Int) : runF (f168E K) Tryz.f168 [(.ro, sL), (.ro, sV)] [.bool] (a0, a1, ()) = f168G K a0 a1 := by kernel_rfl
theorem f293_run (K : Nat) (a0 : Int × Int) (a1 : Int × Int × Int) : runF (f293E K) Tryz.f293 [(.ro, sV), (.cap, sL)] [.bool] (a0, a1, ()) = f293G K a0 a1 := by kernel_rfl
theorem f179_run (K : Nat) (a0 : Int) (a1 : Int × Int × Int) (a2 : List tM) (a3 : List tV) : runF (f179E K) Tryz.f179 [(.ro, sI), (.ro, sL), (.ro, (.list 57 sM)), (.ro, (.list 55 sV))] [sI] (a0, a1, a2, a3, ()) = f179G K a0 a1 a2 a3 := by kernel_rfl
theorem f50_run (K : Nat) (a0 : Int) (a1 : Int × Int × Int) (a2 : List tM) : runF (f50E K) Tryz.f50 [(.ro, sI), (.ro, sL), (.ro, (.list 57 sM))] [(.list 58 (.list 55 sV)), sI] (a0, a1, a2, ()) = f50G K a0 a1 a2 := by kernel_rfl
theorem f54_run (K : Nat) (a0 : Int) (a1 : Int × Int × Int) (a2 : List tM) : runF (f54E K) Tryz.f54 [(.ro, sI), (.ro, sL), (.ro, (.list 57 sM))] [sI, sI] (a0, a1, a2, ()) = f54G K a0 a1 a2 := by kernel_rfl
theorem f238_t15 (K : Nat) (a0 : List tV) (q12 : Int) (q13 : List tV) (y14 : List tV) (F11 : Fr → Option Bool) (bq12 : Int) (bq13 : List tV) (bq16 : Int) (bq17 : List tV) : ∀ (n : Nat) (q16 : Int) (q17 : List tV), loopN (exec (f238E K) 1 (selC f238C [1, 1, 0, 1, 0, 0, 1, 0, 0, 1, 0, 0])) 1 (f238_fr15 a0 q12 q13 y14 bq16 bq17) n (f238_fr15 a0 q12 q13 y14 q16 q17) (f238_k15 K a0 F11 bq12 bq13 (realL (f238E K) 1)) = f238_l15 K a0 q12 q13 y14 (fun v0 v1 => F11 (f238_fr11 a0 v0 v1)) n q16 q17 := by
  have key : ∀ (lr : LR Bool) (L : Fr → Option Bool) (q16 : Int) (q17 : List tV), execG (f238E K) 1 lr (selC f238C [1, 1, 0, 1, 0, 0, 1, 0, 0, 1, 0, 0]) (f238_fr15 a0 q12 q13 y14 q16 q17) (loopK 1 (f238_fr15 a0 q12 q13 y14 bq16 bq17) L (f238_k15 K a0 F11 bq12 bq13 lr)) = f238_b15 K a0 q12 q13 y14 (fun v0 v1 => F11 (f238_fr11 a0 v0 v1)) (fun v0 v1 => L (f238_fr15 a0 q12 q13 y14 v0 v1)) q16 q17 := by
    intro lr L q16 q17; kernel_rfl
  intro n q16 q17
  refine loopN_iter (X := Int × List tV) (frame := fun x => (f238_fr15 a0 q12 q13 y14 x.1 x.2)) (body := (fun L x => (fun L15 => f238_b15 K a0 q12 q13 y14 (fun v0 v1 => F11 (f238_fr11 a0 v0 v1)) L15 x.1 x.2) (fun v0 v1 => L (v0, v1)))) (fun L x => ?_) n (q16, q17)
  rw [exec_G]
  exact (key (realL (f238E K) 1) L x.1 x.2).trans (by rfl)
theorem f238_t11 (K : Nat) (a0 : List tV) (bq12 : Int) (bq13 : List tV) : ∀ (n : Nat) (q12 : Int) (q13 : List tV), loopN (exec (f238E K) 1 (selC f238C [1, 1, 0, 1, 0, 0])) 1 (f238_fr11 a0 bq12 bq13) n (f238_fr11 a0 q12 q13) (f238_k11 K a0 (realL (f238E K) 1)) = f238_l11 K a0 n q12 q13 := by
  have key : ∀ (lr : LR Bool) (L : Fr → Option Bool) (q12 : Int) (q13 : List tV), execG (f238E K) 1 lr (selC f238C [1, 1, 0, 1, 0, 0]) (f238_fr11 a0 q12 q13) (loopK 1 (f238_fr11 a0 bq12 bq13) L (f238_k11 K a0 lr)) = f238_b11 K a0 (fun c0 c1 c2 d0 d1 => lr (selC f238C [1, 1, 0, 1, 0, 0, 1, 0, 0, 1, 0, 0]) (f238_fr15 a0 c0 c1 c2 d0 d1) (f238_k15 K a0 L bq12 bq13 lr)) (fun v0 v1 => L (f238_fr11 a0 v0 v1)) q12 q13 := by
    intro lr L q12 q13; kernel_rfl
  intro n q12 q13
  refine loopN_iter (X := Int × List tV) (frame := fun x => (f238_fr11 a0 x.1 x.2)) (body := (fun L x => (fun L11 => f238_b11 K a0 (fun c0 c1 c2 d0 d1 => f238_l15 K a0 c0 c1 c2 L11 K d0 d1) L11 x.1 x.2) (fun v0 v1 => L (v0, v1)))) (fun L x => ?_) n (q12, q13)
  rw [exec_G]
  have h15 : (fun c0 c1 c2 d0 d1 => (realL (f238E K) 1) (selC f238C [1, 1, 0, 1, 0, 0, 1, 0, 0, 1, 0, 0]) (f238_fr15 a0 c0 c1 c2 d0 d1) (f238_k15 K a0 L bq12 bq13 (realL (f238E K) 1))) = fun c0 c1 c2 d0 d1 => f238_l15 K a0 c0 c1 c2 (fun v0 v1 => L (f238_fr11 a0 v0 v1)) K d0 d1 := by
    funext c0 c1 c2 d0 d1
    exact f238_t15 K a0 c0 c1 c2 L bq12 bq13 d0 d1 K d0 d1
  exact (key (realL (f238E K) 1) L x.1 x.2).trans (by rw [h15] <;> rfl)
theorem f238_run (K : Nat) (a0 : List tV) : runF (f238E K) Tryz.f238 [(.ro, (.list 55 sV))] [.bool] (a0, ()) = f238G K a0 := by
  have key : ∀ (lr : LR Bool), runG (f238E K) Tryz.f238 [(.ro, (.list 55 sV))] [.bool] (a0, ()) lr = f238_g K a0 (fun d0 d1 => lr (selC f238C [1, 1, 0, 1, 0, 0]) (f238_fr11 a0 d0 d1) (f238_k11 K a0 lr)) := by intro lr; kernel_rfl
  have h11 : (fun d0 d1 => (realL (f238E K) 1) (selC f238C [1, 1, 0, 1, 0, 0]) (f238_fr11 a0 d0 d1) (f238_k11 K a0 (realL (f238E K) 1))) = fun d0 d1 => f238_l11 K a0 K d0 d1 := by
    funext d0 d1
    exact f238_t11 K a0 d0 d1 K d0 d1
  exact runF_G (n0 := 1) (by rfl) ((key (realL (f238E K) 1)).trans (by rw [h11] <;> rfl))
theorem f110_run (K : Nat) (a0 : List tV) : runF (f110E K) Tryz.f110 [(.ro, (.list 55 sV))] [.bool, sI] (a0, ()) = f110G K a0 := by kernel_rfl
theorem f12_run (K : Nat) (a0 : List Int) : runF (f12E K) Tryz.f12 [(.ro, (.list 5 (.int .u8)))] [.bool] (a0, ()) = f12G K a0 := by kernel_rfl
end Go.Proofs.YtniidcalfhhciaaGreat.X
