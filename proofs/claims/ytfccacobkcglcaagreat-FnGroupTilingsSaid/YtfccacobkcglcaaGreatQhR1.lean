/- Functions of the program as plain Lean functions, and that the program does what they say. Printed by gen.py. -/
import Derived.Test.YtfccacobkcglcaaGreatQhD1
namespace Go.Proofs.YtfccacobkcglcaaGreat.X
open Go
set_option maxRecDepth 100000
set_option linter.unusedVariables false
theorem f181_t11 (K : Nat) (a0 : Int × Int × Int) (a1 : List tM) (a2 : List tV) (q9 : Int) (q10 : List (List tV)) (F8 : Fr → Option (List (List tV))) (bq9 : Int) (bq10 : List (List tV)) (bq12 : Int) (bq13 : List tV) : ∀ (n : Nat) (q12 : Int) (q13 : List tV), loopN (exec (f181E K) 2 (selC f181C [1, 1, 0, 1, 0, 0, 1, 0, 0, 1, 0, 1, 0, 0])) 2 (f181_fr11 a0 a1 a2 q9 q10 bq12 bq13) n (f181_fr11 a0 a1 a2 q9 q10 q12 q13) (f181_k11 K a0 a1 a2 F8 bq9 bq10 (realL (f181E K) 2)) = f181_l11 K a0 a1 a2 q9 q10 (fun v0 v1 => F8 (f181_fr8 a0 a1 a2 v0 v1)) n q12 q13 := by
  have key : ∀ (lr : LR (List (List tV))) (L : Fr → Option (List (List tV))) (q12 : Int) (q13 : List tV), execG (f181E K) 2 lr (selC f181C [1, 1, 0, 1, 0, 0, 1, 0, 0, 1, 0, 1, 0, 0]) (f181_fr11 a0 a1 a2 q9 q10 q12 q13) (loopK 2 (f181_fr11 a0 a1 a2 q9 q10 bq12 bq13) L (f181_k11 K a0 a1 a2 F8 bq9 bq10 lr)) = f181_b11 K a0 a1 a2 q9 q10 (fun v0 v1 => F8 (f181_fr8 a0 a1 a2 v0 v1)) (fun v0 v1 => L (f181_fr11 a0 a1 a2 q9 q10 v0 v1)) q12 q13 := by
    intro lr L q12 q13; kernel_rfl
  intro n q12 q13
  refine loopN_iter (X := Int × List tV) (frame := fun x => (f181_fr11 a0 a1 a2 q9 q10 x.1 x.2)) (body := (fun L x => (fun L11 => f181_b11 K a0 a1 a2 q9 q10 (fun v0 v1 => F8 (f181_fr8 a0 a1 a2 v0 v1)) L11 x.1 x.2) (fun v0 v1 => L (v0, v1)))) (fun L x => ?_) n (q12, q13)
  rw [exec_G]
  exact (key (realL (f181E K) 2) L x.1 x.2).trans (by rfl)
theorem f181_t8 (K : Nat) (a0 : Int × Int × Int) (a1 : List tM) (a2 : List tV) (bq9 : Int) (bq10 : List (List tV)) : ∀ (n : Nat) (q9 : Int) (q10 : List (List tV)), loopN (exec (f181E K) 2 (selC f181C [1, 1, 0, 1, 0, 0])) 2 (f181_fr8 a0 a1 a2 bq9 bq10) n (f181_fr8 a0 a1 a2 q9 q10) (f181_k8 K a0 a1 a2 (realL (f181E K) 2)) = f181_l8 K a0 a1 a2 n q9 q10 := by
  have key : ∀ (lr : LR (List (List tV))) (L : Fr → Option (List (List tV))) (q9 : Int) (q10 : List (List tV)), execG (f181E K) 2 lr (selC f181C [1, 1, 0, 1, 0, 0]) (f181_fr8 a0 a1 a2 q9 q10) (loopK 2 (f181_fr8 a0 a1 a2 bq9 bq10) L (f181_k8 K a0 a1 a2 lr)) = f181_b8 K a0 a1 a2 (fun c0 c1 d0 d1 => lr (selC f181C [1, 1, 0, 1, 0, 0, 1, 0, 0, 1, 0, 1, 0, 0]) (f181_fr11 a0 a1 a2 c0 c1 d0 d1) (f181_k11 K a0 a1 a2 L bq9 bq10 lr)) (fun v0 v1 => L (f181_fr8 a0 a1 a2 v0 v1)) q9 q10 := by
    intro lr L q9 q10; kernel_rfl
  intro n q9 q10
  refine loopN_iter (X := Int × List (List tV)) (frame := fun x => (f181_fr8 a0 a1 a2 x.1 x.2)) (body := (fun L x => (fun L8 => f181_b8 K a0 a1 a2 (fun c0 c1 d0 d1 => f181_l11 K a0 a1 a2 c0 c1 L8 K d0 d1) L8 x.1 x.2) (fun v0 v1 => L (v0, v1)))) (fun L x => ?_) n (q9, q10)
  rw [exec_G]
  have h11 : (fun c0 c1 d0 d1 => (realL (f181E K) 2) (selC f181C [1, 1, 0, 1, 0, 0, 1, 0, 0, 1, 0, 1, 0, 0]) (f181_fr11 a0 a1 a2 c0 c1 d0 d1) (f181_k11 K a0 a1 a2 L bq9 bq10 (realL (f181E K) 2))) = fun c0 c1 d0 d1 => f181_l11 K a0 a1 a2 c0 c1 (fun v0 v1 => L (f181_fr8 a0 a1 a2 v0 v1)) K d0 d1 := by
    funext c0 c1 d0 d1
    exact f181_t11 K a0 a1 a2 c0 c1 L bq9 bq10 d0 d1 K d0 d1
  exact (key (realL (f181E K) 2) L x.1 x.2).trans (by rw [h11] <;> rfl)
theorem f181_run (K : Nat) (a0 : Int × Int × Int) (a1 : List tM) (a2 : List tV) : runF (f181E K) Tryz.f181 [(.ro, sL), (.ro, (.list 95 sM)), (.ro, (.list 79 sV))] [(.list 84 (.list 79 sV))] (a0, a1, a2, ()) = f181G K a0 a1 a2 := by
  have key : ∀ (lr : LR (List (List tV))), runG (f181E K) Tryz.f181 [(.ro, sL), (.ro, (.list 95 sM)), (.ro, (.list 79 sV))] [(.list 84 (.list 79 sV))] (a0, a1, a2, ()) lr = f181_g K a0 a1 a2 (fun d0 d1 => lr (selC f181C [1, 1, 0, 1, 0, 0]) (f181_fr8 a0 a1 a2 d0 d1) (f181_k8 K a0 a1 a2 lr)) := by intro lr; kernel_rfl
  have h8 : (fun d0 d1 => (realL (f181E K) 2) (selC f181C [1, 1, 0, 1, 0, 0]) (f181_fr8 a0 a1 a2 d0 d1) (f181_k8 K a0 a1 a2 (realL (f181E K) 2))) = fun d0 d1 => f181_l8 K a0 a1 a2 K d0 d1 := by
    funext d0 d1
    exact f181_t8 K a0 a1 a2 d0 d1 K d0 d1
  exact runF_G (n0 := 2) (by rfl) ((key (realL (f181E K) 2)).trans (by rw [h8] <;> rfl))
theorem f283_t2 (K : Nat) (a0 : List Int) (a1 bq3 : Int) : ∀ (n : Nat) (q3 : Int), loopN (exec (f283E K) 1 (selC f283C [1, 0, 1, 0, 0])) 1 (f283_fr2 a0 a1 bq3) n (f283_fr2 a0 a1 q3) (f283_k2 K a0 a1 (realL (f283E K) 1)) = f283_l2 K a0 a1 n q3 := by
  have key : ∀ (lr : LR Bool) (L : Fr → Option Bool) (q3 : Int), execG (f283E K) 1 lr (selC f283C [1, 0, 1, 0, 0]) (f283_fr2 a0 a1 q3) (loopK 1 (f283_fr2 a0 a1 bq3) L (f283_k2 K a0 a1 lr)) = f283_b2 K a0 a1 (fun v0 => L (f283_fr2 a0 a1 v0)) q3 := by
    intro lr L q3; kernel_rfl
  intro n q3
  refine loopN_iter (X := Int) (frame := fun x => (f283_fr2 a0 a1 x)) (body := (fun L x => (fun L2 => f283_b2 K a0 a1 L2 x) (fun v0 => L v0))) (fun L x => ?_) n q3
  rw [exec_G]
  exact (key (realL (f283E K) 1) L x).trans (by rfl)
theorem f283_run (K : Nat) (a0 : List Int) (a1 : Int) : runF (f283E K) Tryz.f283 [(.ro, (.list 2 sI)), (.ro, sI)] [.bool] (a0, a1, ()) = f283G K a0 a1 := by
  have key : ∀ (lr : LR Bool), runG (f283E K) Tryz.f283 [(.ro, (.list 2 sI)), (.ro, sI)] [.bool] (a0, a1, ()) lr = f283_g K a0 a1 (fun d0 => lr (selC f283C [1, 0, 1, 0, 0]) (f283_fr2 a0 a1 d0) (f283_k2 K a0 a1 lr)) := by intro lr; kernel_rfl
  have h2 : (fun d0 => (realL (f283E K) 1) (selC f283C [1, 0, 1, 0, 0]) (f283_fr2 a0 a1 d0) (f283_k2 K a0 a1 (realL (f283E K) 1))) = fun d0 => f283_l2 K a0 a1 K d0 := by
    funext d0
    exact f283_t2 K a0 a1 d0 K d0
  exact runF_G (n0 := 1) (by rfl) ((key (realL (f283E K) 1)).trans (by rw [h2] <;> rfl))
theorem f180_t16 (K : Nat) (a0 : Int × Int × Int) (a1 : List tM) (a2 : List tV) (q3 : Int) (y5 : List (List tV)) (q14 : Int) (F13 : Fr → Option ((List Int) × Bool)) (bq14 : Int) (bq15 : List Int) (bq17 : Int) (bq18 : List Int) : ∀ (n : Nat) (q17 : Int) (q18 : List Int), loopN (exec (f180E K) 2 (selC f180C [1, 1, 1, 1, 0, 1, 0, 0, 1, 0, 0, 1, 0, 0])) 2 (f180_fr16 a0 a1 a2 q3 q14 y5 bq17 bq18) n (f180_fr16 a0 a1 a2 q3 q14 y5 q17 q18) (f180_k16 K a0 a1 a2 q3 y5 F13 bq14 bq15 (realL (f180E K) 2)) = f180_l16 K a0 a1 a2 q3 q14 y5 (fun v0 v1 => F13 (f180_fr13 a0 a1 a2 q3 y5 v0 v1)) n q17 q18 := by
  have key : ∀ (lr : LR ((List Int) × Bool)) (L : Fr → Option ((List Int) × Bool)) (q17 : Int) (q18 : List Int), execG (f180E K) 2 lr (selC f180C [1, 1, 1, 1, 0, 1, 0, 0, 1, 0, 0, 1, 0, 0]) (f180_fr16 a0 a1 a2 q3 q14 y5 q17 q18) (loopK 2 (f180_fr16 a0 a1 a2 q3 q14 y5 bq17 bq18) L (f180_k16 K a0 a1 a2 q3 y5 F13 bq14 bq15 lr)) = f180_b16 K a0 a1 a2 q3 q14 y5 (fun v0 v1 => F13 (f180_fr13 a0 a1 a2 q3 y5 v0 v1)) (fun v0 v1 => L (f180_fr16 a0 a1 a2 q3 q14 y5 v0 v1)) q17 q18 := by
    intro lr L q17 q18; kernel_rfl
  intro n q17 q18
  refine loopN_iter (X := Int × List Int) (frame := fun x => (f180_fr16 a0 a1 a2 q3 q14 y5 x.1 x.2)) (body := (fun L x => (fun L16 => f180_b16 K a0 a1 a2 q3 q14 y5 (fun v0 v1 => F13 (f180_fr13 a0 a1 a2 q3 y5 v0 v1)) L16 x.1 x.2) (fun v0 v1 => L (v0, v1)))) (fun L x => ?_) n (q17, q18)
  rw [exec_G]
  exact (key (realL (f180E K) 2) L x.1 x.2).trans (by rfl)
theorem f180_t13 (K : Nat) (a0 : Int × Int × Int) (a1 : List tM) (a2 : List tV) (q3 : Int) (y5 : List (List tV)) (bq14 : Int) (bq15 : List Int) : ∀ (n : Nat) (q14 : Int) (q15 : List Int), loopN (exec (f180E K) 2 (selC f180C [1, 1, 1, 1, 0, 1, 0, 0])) 2 (f180_fr13 a0 a1 a2 q3 y5 bq14 bq15) n (f180_fr13 a0 a1 a2 q3 y5 q14 q15) (f180_k13 K a0 a1 a2 (realL (f180E K) 2)) = f180_l13 K a0 a1 a2 q3 y5 n q14 q15 := by
  have key : ∀ (lr : LR ((List Int) × Bool)) (L : Fr → Option ((List Int) × Bool)) (q14 : Int) (q15 : List Int), execG (f180E K) 2 lr (selC f180C [1, 1, 1, 1, 0, 1, 0, 0]) (f180_fr13 a0 a1 a2 q3 y5 q14 q15) (loopK 2 (f180_fr13 a0 a1 a2 q3 y5 bq14 bq15) L (f180_k13 K a0 a1 a2 lr)) = f180_b13 K a0 a1 a2 q3 y5 (fun c0 d0 d1 => lr (selC f180C [1, 1, 1, 1, 0, 1, 0, 0, 1, 0, 0, 1, 0, 0]) (f180_fr16 a0 a1 a2 q3 c0 y5 d0 d1) (f180_k16 K a0 a1 a2 q3 y5 L bq14 bq15 lr)) (fun v0 v1 => L (f180_fr13 a0 a1 a2 q3 y5 v0 v1)) q14 q15 := by
    intro lr L q14 q15; kernel_rfl
  intro n q14 q15
  refine loopN_iter (X := Int × List Int) (frame := fun x => (f180_fr13 a0 a1 a2 q3 y5 x.1 x.2)) (body := (fun L x => (fun L13 => f180_b13 K a0 a1 a2 q3 y5 (fun c0 d0 d1 => f180_l16 K a0 a1 a2 q3 c0 y5 L13 K d0 d1) L13 x.1 x.2) (fun v0 v1 => L (v0, v1)))) (fun L x => ?_) n (q14, q15)
  rw [exec_G]
  have h16 : (fun c0 d0 d1 => (realL (f180E K) 2) (selC f180C [1, 1, 1, 1, 0, 1, 0, 0, 1, 0, 0, 1, 0, 0]) (f180_fr16 a0 a1 a2 q3 c0 y5 d0 d1) (f180_k16 K a0 a1 a2 q3 y5 L bq14 bq15 (realL (f180E K) 2))) = fun c0 d0 d1 => f180_l16 K a0 a1 a2 q3 c0 y5 (fun v0 v1 => L (f180_fr13 a0 a1 a2 q3 y5 v0 v1)) K d0 d1 := by
    funext c0 d0 d1
    exact f180_t16 K a0 a1 a2 q3 y5 c0 L bq14 bq15 d0 d1 K d0 d1
  exact (key (realL (f180E K) 2) L x.1 x.2).trans (by rw [h16] <;> rfl)
theorem f180_t2 (K : Nat) (a0 : Int × Int × Int) (a1 : List tM) (a2 : List tV) (bq3 : Int) (bq4 : List Int) : ∀ (n : Nat) (q3 : Int) (q4 : List Int), loopN (exec (f180E K) 2 (selC f180C [1, 1, 0, 1, 0, 0])) 2 (f180_fr2 a0 a1 a2 bq3 bq4) n (f180_fr2 a0 a1 a2 q3 q4) (f180_k2 K a0 a1 a2 (realL (f180E K) 2)) = f180_l2 K a0 a1 a2 n q3 q4 := by
  have key : ∀ (lr : LR ((List Int) × Bool)) (L : Fr → Option ((List Int) × Bool)) (q3 : Int) (q4 : List Int), execG (f180E K) 2 lr (selC f180C [1, 1, 0, 1, 0, 0]) (f180_fr2 a0 a1 a2 q3 q4) (loopK 2 (f180_fr2 a0 a1 a2 bq3 bq4) L (f180_k2 K a0 a1 a2 lr)) = f180_b2 K a0 a1 a2 (fun c0 c1 d0 d1 => lr (selC f180C [1, 1, 1, 1, 0, 1, 0, 0]) (f180_fr13 a0 a1 a2 c0 c1 d0 d1) (f180_k13 K a0 a1 a2 lr)) (fun v0 v1 => L (f180_fr2 a0 a1 a2 v0 v1)) q3 q4 := by
    intro lr L q3 q4; kernel_rfl
  intro n q3 q4
  refine loopN_iter (X := Int × List Int) (frame := fun x => (f180_fr2 a0 a1 a2 x.1 x.2)) (body := (fun L x => (fun L2 => f180_b2 K a0 a1 a2 (fun c0 c1 d0 d1 => f180_l13 K a0 a1 a2 c0 c1 K d0 d1) L2 x.1 x.2) (fun v0 v1 => L (v0, v1)))) (fun L x => ?_) n (q3, q4)
  rw [exec_G]
  have h13 : (fun c0 c1 d0 d1 => (realL (f180E K) 2) (selC f180C [1, 1, 1, 1, 0, 1, 0, 0]) (f180_fr13 a0 a1 a2 c0 c1 d0 d1) (f180_k13 K a0 a1 a2 (realL (f180E K) 2))) = fun c0 c1 d0 d1 => f180_l13 K a0 a1 a2 c0 c1 K d0 d1 := by
    funext c0 c1 d0 d1
    exact f180_t13 K a0 a1 a2 c0 c1 d0 d1 K d0 d1
  exact (key (realL (f180E K) 2) L x.1 x.2).trans (by rw [h13] <;> rfl)
theorem f180_run (K : Nat) (a0 : Int × Int × Int) (a1 : List tM) (a2 : List tV) : runF (f180E K) Tryz.f180 [(.ro, sL), (.ro, (.list 95 sM)), (.ro, (.list 79 sV))] [(.list 2 sI), .bool] (a0, a1, a2, ()) = f180G K a0 a1 a2 := by
  have key : ∀ (lr : LR ((List Int) × Bool)), runG (f180E K) Tryz.f180 [(.ro, sL), (.ro, (.list 95 sM)), (.ro, (.list 79 sV))] [(.list 2 sI), .bool] (a0, a1, a2, ()) lr = f180_g K a0 a1 a2 (fun d0 d1 => lr (selC f180C [1, 1, 0, 1, 0, 0]) (f180_fr2 a0 a1 a2 d0 d1) (f180_k2 K a0 a1 a2 lr)) := by intro lr; kernel_rfl
  have h2 : (fun d0 d1 => (realL (f180E K) 2) (selC f180C [1, 1, 0, 1, 0, 0]) (f180_fr2 a0 a1 a2 d0 d1) (f180_k2 K a0 a1 a2 (realL (f180E K) 2))) = fun d0 d1 => f180_l2 K a0 a1 a2 K d0 d1 := by
    funext d0 d1
    exact f180_t2 K a0 a1 a2 d0 d1 K d0 d1
  exact runF_G (n0 := 2) (by rfl) ((key (realL (f180E K) 2)).trans (by rw [h2] <;> rfl))
theorem f58_t4 (K : Nat) (a0 : Int) (a1 : Int × Int × Int) (a2 : List tM) (a3 : List tV) (y1 : Int) (y2 : (List Int) × Bool) (bq5 : Int) (bq6 : List Int) : ∀ (n : Nat) (q5 : Int) (q6 : List Int), loopN (exec (f58E K) 2 (selC f58C [1, 1, 1, 1, 1, 1, 0, 1, 0, 0])) 2 (f58_fr4 a0 a1 a2 a3 y1 y2 bq5 bq6) n (f58_fr4 a0 a1 a2 a3 y1 y2 q5 q6) (f58_k4 K a0 a1 a2 a3 (realL (f58E K) 2)) = f58_l4 K a0 a1 a2 a3 y1 y2 n q5 q6 := by
  have key : ∀ (lr : LR ((Int × tL × List Int) × Int)) (L : Fr → Option ((Int × tL × List Int) × Int)) (q5 : Int) (q6 : List Int), execG (f58E K) 2 lr (selC f58C [1, 1, 1, 1, 1, 1, 0, 1, 0, 0]) (f58_fr4 a0 a1 a2 a3 y1 y2 q5 q6) (loopK 2 (f58_fr4 a0 a1 a2 a3 y1 y2 bq5 bq6) L (f58_k4 K a0 a1 a2 a3 lr)) = f58_b4 K a0 a1 a2 a3 y1 y2 (fun v0 v1 => L (f58_fr4 a0 a1 a2 a3 y1 y2 v0 v1)) q5 q6 := by
    intro lr L q5 q6; kernel_rfl
  intro n q5 q6
  refine loopN_iter (X := Int × List Int) (frame := fun x => (f58_fr4 a0 a1 a2 a3 y1 y2 x.1 x.2)) (body := (fun L x => (fun L4 => f58_b4 K a0 a1 a2 a3 y1 y2 L4 x.1 x.2) (fun v0 v1 => L (v0, v1)))) (fun L x => ?_) n (q5, q6)
  rw [exec_G]
  exact (key (realL (f58E K) 2) L x.1 x.2).trans (by rfl)
theorem f58_run (K : Nat) (a0 : Int) (a1 : Int × Int × Int) (a2 : List tM) (a3 : List tV) : runF (f58E K) Tryz.f58 [(.ro, sI), (.ro, sL), (.ro, (.list 95 sM)), (.ro, (.list 79 sV))] [(.cons sI (.cons sL (.list 2 sI))), sI] (a0, a1, a2, a3, ()) = f58G K a0 a1 a2 a3 := by
  have key : ∀ (lr : LR ((Int × tL × List Int) × Int)), runG (f58E K) Tryz.f58 [(.ro, sI), (.ro, sL), (.ro, (.list 95 sM)), (.ro, (.list 79 sV))] [(.cons sI (.cons sL (.list 2 sI))), sI] (a0, a1, a2, a3, ()) lr = f58_g K a0 a1 a2 a3 (fun c0 c1 d0 d1 => lr (selC f58C [1, 1, 1, 1, 1, 1, 0, 1, 0, 0]) (f58_fr4 a0 a1 a2 a3 c0 c1 d0 d1) (f58_k4 K a0 a1 a2 a3 lr)) := by intro lr; kernel_rfl
  have h4 : (fun c0 c1 d0 d1 => (realL (f58E K) 2) (selC f58C [1, 1, 1, 1, 1, 1, 0, 1, 0, 0]) (f58_fr4 a0 a1 a2 a3 c0 c1 d0 d1) (f58_k4 K a0 a1 a2 a3 (realL (f58E K) 2))) = fun c0 c1 d0 d1 => f58_l4 K a0 a1 a2 a3 c0 c1 K d0 d1 := by
    funext c0 c1 d0 d1
    exact f58_t4 K a0 a1 a2 a3 c0 c1 d0 d1 K d0 d1
  exact runF_G (n0 := 2) (by rfl) ((key (realL (f58E K) 2)).trans (by rw [h4] <;> rfl))
theorem f59_run (K : Nat) (a0 : Int) (a1 : Int × Int × Int) (a2 : List tM) (a3 : List tV) : runF (f59E K) Tryz.f59 [(.ro, sI), (.ro, sL), (.ro, (.list 95 sM)), (.ro, (.list 79 sV))] [(.list 84 (.list 79 sV)), sI] (a0, a1, a2, a3, ()) = f59G K a0 a1 a2 a3 := by kernel_rfl
theorem f60_run (K : Nat) (a0 : Int) (a1 : Int × Int × Int) (a2 : List tM) (a3 : List tV) : runF (f60E K) Tryz.f60 [(.ro, sI), (.ro, sL), (.ro, (.list 95 sM)), (.ro, (.list 79 sV))] [(.list 84 (.list 79 sV)), sI] (a0, a1, a2, a3, ()) = f60G K a0 a1 a2 a3 := by kernel_rfl
theorem f61_run (K : Nat) (a0 : Int) (a1 : Int × Int × Int) (a2 : List tM) (a3 : List tV) : runF (f61E K) Tryz.f61 [(.ro, sI), (.ro, sL), (.ro, (.list 95 sM)), (.ro, (.list 79 sV))] [.bool, sI] (a0, a1, a2, a3, ()) = f61G K a0 a1 a2 a3 := by kernel_rfl
theorem f62_run (K : Nat) (a0 : Int) (a1 : Int × Int × Int) (a2 : List tM) (a3 : List tV) : runF (f62E K) Tryz.f62 [(.ro, sI), (.ro, sL), (.ro, (.list 95 sM)), (.ro, (.list 79 sV))] [.bool, sI] (a0, a1, a2, a3, ()) = f62G K a0 a1 a2 a3 := by kernel_rfl
theorem f63_run (K : Nat) (a0 : List Int) : runF (f63E K) Tryz.f63 [(.ro, (.list 5 (.int .u8)))] [sI, sL, (.list 95 sM), (.list 79 sV), sV] (a0, ()) = f63G K a0 := by kernel_rfl
theorem f183_run (K : Nat) (a0 : Int × Int × Int) (a1 : Int × Int) : runF (f183E K) Tryz.f183 [(.ro, sL), (.ro, sV)] [.bool] (a0, a1, ()) = f183G K a0 a1 := by kernel_rfl
theorem f184_t2 (K : Nat) (a0 : List tV) (a1 : Int × Int) (bq3 : Int) : ∀ (n : Nat) (q3 : Int), loopN (exec (f184E K) 1 (selC f184C [1, 0, 1, 0, 0])) 1 (f184_fr2 a0 a1 bq3) n (f184_fr2 a0 a1 q3) (f184_k2 K a0 a1 (realL (f184E K) 1)) = f184_l2 K a0 a1 n q3 := by
  have key : ∀ (lr : LR Int) (L : Fr → Option Int) (q3 : Int), execG (f184E K) 1 lr (selC f184C [1, 0, 1, 0, 0]) (f184_fr2 a0 a1 q3) (loopK 1 (f184_fr2 a0 a1 bq3) L (f184_k2 K a0 a1 lr)) = f184_b2 K a0 a1 (fun v0 => L (f184_fr2 a0 a1 v0)) q3 := by
    intro lr L q3; kernel_rfl
  intro n q3
  refine loopN_iter (X := Int) (frame := fun x => (f184_fr2 a0 a1 x)) (body := (fun L x => (fun L2 => f184_b2 K a0 a1 L2 x) (fun v0 => L v0))) (fun L x => ?_) n q3
  rw [exec_G]
  exact (key (realL (f184E K) 1) L x).trans (by rfl)
theorem f184_run (K : Nat) (a0 : List tV) (a1 : Int × Int) : runF (f184E K) Tryz.f184 [(.ro, (.list 79 sV)), (.ro, sV)] [sI] (a0, a1, ()) = f184G K a0 a1 := by
  have key : ∀ (lr : LR Int), runG (f184E K) Tryz.f184 [(.ro, (.list 79 sV)), (.ro, sV)] [sI] (a0, a1, ()) lr = f184_g K a0 a1 (fun d0 => lr (selC f184C [1, 0, 1, 0, 0]) (f184_fr2 a0 a1 d0) (f184_k2 K a0 a1 lr)) := by intro lr; kernel_rfl
  have h2 : (fun d0 => (realL (f184E K) 1) (selC f184C [1, 0, 1, 0, 0]) (f184_fr2 a0 a1 d0) (f184_k2 K a0 a1 (realL (f184E K) 1))) = fun d0 => f184_l2 K a0 a1 K d0 := by
    funext d0
    exact f184_t2 K a0 a1 d0 K d0
  exact runF_G (n0 := 1) (by rfl) ((key (realL (f184E K) 1)).trans (by rw [h2] <;> rfl))
theorem f64_t7 (K : Nat) (a0 : Int) (a1 : Int × Int × Int) (a2 : List tM) (a3 : List tV) (a4 : Int × Int) (y1 : Int) (y2 y3 : Bool) (y4 : List (List tV)) (bq8 : Int) : ∀ (n : Nat) (q8 : Int), loopN (exec (f64E K) 2 (selC f64C [1, 1, 1, 1, 0, 1, 0, 0])) 2 (f64_fr7 a0 a1 a2 a3 a4 y1 y2 y3 y4 bq8) n (f64_fr7 a0 a1 a2 a3 a4 y1 y2 y3 y4 q8) (f64_k7 K a0 a1 a2 a3 a4 (realL (f64E K) 2)) = f64_l7 K a0 a1 a2 a3 a4 y1 y2 y3 y4 n q8 := by
  have key : ∀ (lr : LR (tM × tV × Int)) (L : Fr → Option (tM × tV × Int)) (q8 : Int), execG (f64E K) 2 lr (selC f64C [1, 1, 1, 1, 0, 1, 0, 0]) (f64_fr7 a0 a1 a2 a3 a4 y1 y2 y3 y4 q8) (loopK 2 (f64_fr7 a0 a1 a2 a3 a4 y1 y2 y3 y4 bq8) L (f64_k7 K a0 a1 a2 a3 a4 lr)) = f64_b7 K a0 a1 a2 a3 a4 y1 y2 y3 y4 (fun v0 => L (f64_fr7 a0 a1 a2 a3 a4 y1 y2 y3 y4 v0)) q8 := by
    intro lr L q8; kernel_rfl
  intro n q8
  refine loopN_iter (X := Int) (frame := fun x => (f64_fr7 a0 a1 a2 a3 a4 y1 y2 y3 y4 x)) (body := (fun L x => (fun L7 => f64_b7 K a0 a1 a2 a3 a4 y1 y2 y3 y4 L7 x) (fun v0 => L v0))) (fun L x => ?_) n q8
  rw [exec_G]
  exact (key (realL (f64E K) 2) L x).trans (by rfl)
theorem f64_run (K : Nat) (a0 : Int) (a1 : Int × Int × Int) (a2 : List tM) (a3 : List tV) (a4 : Int × Int) : runF (f64E K) Tryz.f64 [(.ro, sI), (.ro, sL), (.ro, (.list 95 sM)), (.ro, (.list 79 sV)), (.ro, sV)] [sM, sV, sI] (a0, a1, a2, a3, a4, ()) = f64G K a0 a1 a2 a3 a4 := by
  have key : ∀ (lr : LR (tM × tV × Int)), runG (f64E K) Tryz.f64 [(.ro, sI), (.ro, sL), (.ro, (.list 95 sM)), (.ro, (.list 79 sV)), (.ro, sV)] [sM, sV, sI] (a0, a1, a2, a3, a4, ()) lr = f64_g K a0 a1 a2 a3 a4 (fun c0 c1 c2 c3 d0 => lr (selC f64C [1, 1, 1, 1, 0, 1, 0, 0]) (f64_fr7 a0 a1 a2 a3 a4 c0 c1 c2 c3 d0) (f64_k7 K a0 a1 a2 a3 a4 lr)) := by intro lr; kernel_rfl
  have h7 : (fun c0 c1 c2 c3 d0 => (realL (f64E K) 2) (selC f64C [1, 1, 1, 1, 0, 1, 0, 0]) (f64_fr7 a0 a1 a2 a3 a4 c0 c1 c2 c3 d0) (f64_k7 K a0 a1 a2 a3 a4 (realL (f64E K) 2))) = fun c0 c1 c2 c3 d0 => f64_l7 K a0 a1 a2 a3 a4 c0 c1 c2 c3 K d0 := by
    funext c0 c1 c2 c3 d0
    exact f64_t7 K a0 a1 a2 a3 a4 c0 c1 c2 c3 d0 K d0
  exact runF_G (n0 := 2) (by rfl) ((key (realL (f64E K) 2)).trans (by rw [h7] <;> rfl))
theorem f167_run (K : Nat) (a0 : Int × Int × Int) (a1 : Int × Int) : runF (f167E K) Tryz.f167 [(.ro, sL), (.ro, sV)] [.bool] (a0, a1, ()) = f167G K a0 a1 := by kernel_rfl
theorem f65_t7 (K : Nat) (a0 : Int) (a1 : Int × Int × Int) (a2 : List tM) (a3 : List tV) (a4 : Int × Int) (y1 : Int) (y2 : Bool) (y3 : (List Int) × Bool) (y4 bq8 : Int) : ∀ (n : Nat) (q8 : Int), loopN (exec (f65E K) 2 (selC f65C [1, 1, 1, 1, 1, 1, 1, 1, 0, 0, 0])) 2 (f65_fr7 a0 a1 a2 a3 a4 y1 y2 y3 y4 bq8) n (f65_fr7 a0 a1 a2 a3 a4 y1 y2 y3 y4 q8) (f65_k7 K a0 a1 a2 a3 a4 (realL (f65E K) 2)) = f65_l7 K a0 a1 a2 a3 a4 y1 y2 y3 y4 n q8 := by
  have key : ∀ (lr : LR (tM × tV × Int)) (L : Fr → Option (tM × tV × Int)) (q8 : Int), execG (f65E K) 2 lr (selC f65C [1, 1, 1, 1, 1, 1, 1, 1, 0, 0, 0]) (f65_fr7 a0 a1 a2 a3 a4 y1 y2 y3 y4 q8) (loopK 2 (f65_fr7 a0 a1 a2 a3 a4 y1 y2 y3 y4 bq8) L (f65_k7 K a0 a1 a2 a3 a4 lr)) = f65_b7 K a0 a1 a2 a3 a4 y1 y2 y3 y4 (fun v0 => L (f65_fr7 a0 a1 a2 a3 a4 y1 y2 y3 y4 v0)) q8 := by
    intro lr L q8; kernel_rfl
  intro n q8
  refine loopN_iter (X := Int) (frame := fun x => (f65_fr7 a0 a1 a2 a3 a4 y1 y2 y3 y4 x)) (body := (fun L x => (fun L7 => f65_b7 K a0 a1 a2 a3 a4 y1 y2 y3 y4 L7 x) (fun v0 => L v0))) (fun L x => ?_) n q8
  rw [exec_G]
  exact (key (realL (f65E K) 2) L x).trans (by rfl)
theorem f65_t12 (K : Nat) (a0 : Int) (a1 : Int × Int × Int) (a2 : List tM) (a3 : List tV) (a4 : Int × Int) (y1 : Int) (y2 : Bool) (y10 : (List Int) × Bool) (y11 bq13 : Int) : ∀ (n : Nat) (q13 : Int), loopN (exec (f65E K) 2 (selC f65C [1, 1, 1, 1, 1, 1, 1, 1, 0, 0, 0])) 2 (f65_fr12 a0 a1 a2 a3 a4 y1 y2 y10 y11 bq13) n (f65_fr12 a0 a1 a2 a3 a4 y1 y2 y10 y11 q13) (f65_k12 K a0 a1 a2 a3 a4 (realL (f65E K) 2)) = f65_l12 K a0 a1 a2 a3 a4 y1 y2 y10 y11 n q13 := by
  have key : ∀ (lr : LR (tM × tV × Int)) (L : Fr → Option (tM × tV × Int)) (q13 : Int), execG (f65E K) 2 lr (selC f65C [1, 1, 1, 1, 1, 1, 1, 1, 0, 0, 0]) (f65_fr12 a0 a1 a2 a3 a4 y1 y2 y10 y11 q13) (loopK 2 (f65_fr12 a0 a1 a2 a3 a4 y1 y2 y10 y11 bq13) L (f65_k12 K a0 a1 a2 a3 a4 lr)) = f65_b12 K a0 a1 a2 a3 a4 y1 y2 y10 y11 (fun v0 => L (f65_fr12 a0 a1 a2 a3 a4 y1 y2 y10 y11 v0)) q13 := by
    intro lr L q13; kernel_rfl
  intro n q13
  refine loopN_iter (X := Int) (frame := fun x => (f65_fr12 a0 a1 a2 a3 a4 y1 y2 y10 y11 x)) (body := (fun L x => (fun L12 => f65_b12 K a0 a1 a2 a3 a4 y1 y2 y10 y11 L12 x) (fun v0 => L v0))) (fun L x => ?_) n q13
  rw [exec_G]
  exact (key (realL (f65E K) 2) L x).trans (by rfl)
theorem f65_run (K : Nat) (a0 : Int) (a1 : Int × Int × Int) (a2 : List tM) (a3 : List tV) (a4 : Int × Int) : runF (f65E K) Tryz.f65 [(.ro, sI), (.ro, sL), (.ro, (.list 95 sM)), (.ro, (.list 79 sV)), (.ro, sV)] [sM, sV, sI] (a0, a1, a2, a3, a4, ()) = f65G K a0 a1 a2 a3 a4 := by
  have key : ∀ (lr : LR (tM × tV × Int)), runG (f65E K) Tryz.f65 [(.ro, sI), (.ro, sL), (.ro, (.list 95 sM)), (.ro, (.list 79 sV)), (.ro, sV)] [sM, sV, sI] (a0, a1, a2, a3, a4, ()) lr = f65_g K a0 a1 a2 a3 a4 (fun c0 c1 c2 c3 d0 => lr (selC f65C [1, 1, 1, 1, 1, 1, 1, 1, 0, 0, 0]) (f65_fr7 a0 a1 a2 a3 a4 c0 c1 c2 c3 d0) (f65_k7 K a0 a1 a2 a3 a4 lr)) (fun c0 c1 c2 c3 d0 => lr (selC f65C [1, 1, 1, 1, 1, 1, 1, 1, 0, 0, 0]) (f65_fr12 a0 a1 a2 a3 a4 c0 c1 c2 c3 d0) (f65_k12 K a0 a1 a2 a3 a4 lr)) := by intro lr; kernel_rfl
  have h7 : (fun c0 c1 c2 c3 d0 => (realL (f65E K) 2) (selC f65C [1, 1, 1, 1, 1, 1, 1, 1, 0, 0, 0]) (f65_fr7 a0 a1 a2 a3 a4 c0 c1 c2 c3 d0) (f65_k7 K a0 a1 a2 a3 a4 (realL (f65E K) 2))) = fun c0 c1 c2 c3 d0 => f65_l7 K a0 a1 a2 a3 a4 c0 c1 c2 c3 K d0 := by
    funext c0 c1 c2 c3 d0
    exact f65_t7 K a0 a1 a2 a3 a4 c0 c1 c2 c3 d0 K d0
  have h12 : (fun c0 c1 c2 c3 d0 => (realL (f65E K) 2) (selC f65C [1, 1, 1, 1, 1, 1, 1, 1, 0, 0, 0]) (f65_fr12 a0 a1 a2 a3 a4 c0 c1 c2 c3 d0) (f65_k12 K a0 a1 a2 a3 a4 (realL (f65E K) 2))) = fun c0 c1 c2 c3 d0 => f65_l12 K a0 a1 a2 a3 a4 c0 c1 c2 c3 K d0 := by
    funext c0 c1 c2 c3 d0
    exact f65_t12 K a0 a1 a2 a3 a4 c0 c1 c2 c3 d0 K d0
  exact runF_G (n0 := 2) (by rfl) ((key (realL (f65E K) 2)).trans (by rw [h7, h12] <;> rfl))
theorem f186_t2 (K : Nat) (a0 a1 : List Int) (bq3 : Int) : ∀ (n : Nat) (q3 : Int), loopN (exec (f186E K) 2 (selC f186C [1, 1, 0, 1, 0, 0])) 2 (f186_fr2 a0 a1 bq3) n (f186_fr2 a0 a1 q3) (f186_k2 K a0 a1 (realL (f186E K) 2)) = f186_l2 K a0 a1 n q3 := by
  have key : ∀ (lr : LR Bool) (L : Fr → Option Bool) (q3 : Int), execG (f186E K) 2 lr (selC f186C [1, 1, 0, 1, 0, 0]) (f186_fr2 a0 a1 q3) (loopK 2 (f186_fr2 a0 a1 bq3) L (f186_k2 K a0 a1 lr)) = f186_b2 K a0 a1 (fun v0 => L (f186_fr2 a0 a1 v0)) q3 := by
    intro lr L q3; kernel_rfl
  intro n q3
  refine loopN_iter (X := Int) (frame := fun x => (f186_fr2 a0 a1 x)) (body := (fun L x => (fun L2 => f186_b2 K a0 a1 L2 x) (fun v0 => L v0))) (fun L x => ?_) n q3
  rw [exec_G]
  exact (key (realL (f186E K) 2) L x).trans (by rfl)
theorem f186_run (K : Nat) (a0 a1 : List Int) : runF (f186E K) Tryz.f186 [(.ro, (.list 2 sI)), (.ro, (.list 2 sI))] [.bool] (a0, a1, ()) = f186G K a0 a1 := by
  have key : ∀ (lr : LR Bool), runG (f186E K) Tryz.f186 [(.ro, (.list 2 sI)), (.ro, (.list 2 sI))] [.bool] (a0, a1, ()) lr = f186_g K a0 a1 (fun d0 => lr (selC f186C [1, 1, 0, 1, 0, 0]) (f186_fr2 a0 a1 d0) (f186_k2 K a0 a1 lr)) := by intro lr; kernel_rfl
  have h2 : (fun d0 => (realL (f186E K) 2) (selC f186C [1, 1, 0, 1, 0, 0]) (f186_fr2 a0 a1 d0) (f186_k2 K a0 a1 (realL (f186E K) 2))) = fun d0 => f186_l2 K a0 a1 K d0 := by
    funext d0
    exact f186_t2 K a0 a1 d0 K d0
  exact runF_G (n0 := 2) (by rfl) ((key (realL (f186E K) 2)).trans (by rw [h2] <;> rfl))
theorem f66_run (K : Nat) (a0 a1 : Int × tL × List Int) : runF (f66E K) Tryz.f66 [(.ro, (.cons sI (.cons sL (.list 2 sI)))), (.ro, (.cons sI (.cons sL (.list 2 sI))))] [.bool] (a0, a1, ()) = f66G K a0 a1 := by kernel_rfl
theorem f187_t2 (K : Nat) (a0 a1 : List tV) (bq3 : Int) : ∀ (n : Nat) (q3 : Int), loopN (exec (f187E K) 2 (selC f187C [1, 1, 0, 1, 0, 0])) 2 (f187_fr2 a0 a1 bq3) n (f187_fr2 a0 a1 q3) (f187_k2 K a0 a1 (realL (f187E K) 2)) = f187_l2 K a0 a1 n q3 := by
  have key : ∀ (lr : LR Bool) (L : Fr → Option Bool) (q3 : Int), execG (f187E K) 2 lr (selC f187C [1, 1, 0, 1, 0, 0]) (f187_fr2 a0 a1 q3) (loopK 2 (f187_fr2 a0 a1 bq3) L (f187_k2 K a0 a1 lr)) = f187_b2 K a0 a1 (fun v0 => L (f187_fr2 a0 a1 v0)) q3 := by
    intro lr L q3; kernel_rfl
  intro n q3
  refine loopN_iter (X := Int) (frame := fun x => (f187_fr2 a0 a1 x)) (body := (fun L x => (fun L2 => f187_b2 K a0 a1 L2 x) (fun v0 => L v0))) (fun L x => ?_) n q3
  rw [exec_G]
  exact (key (realL (f187E K) 2) L x).trans (by rfl)
theorem f187_run (K : Nat) (a0 a1 : List tV) : runF (f187E K) Tryz.f187 [(.ro, (.list 79 sV)), (.ro, (.list 79 sV))] [.bool] (a0, a1, ()) = f187G K a0 a1 := by
  have key : ∀ (lr : LR Bool), runG (f187E K) Tryz.f187 [(.ro, (.list 79 sV)), (.ro, (.list 79 sV))] [.bool] (a0, a1, ()) lr = f187_g K a0 a1 (fun d0 => lr (selC f187C [1, 1, 0, 1, 0, 0]) (f187_fr2 a0 a1 d0) (f187_k2 K a0 a1 lr)) := by intro lr; kernel_rfl
  have h2 : (fun d0 => (realL (f187E K) 2) (selC f187C [1, 1, 0, 1, 0, 0]) (f187_fr2 a0 a1 d0) (f187_k2 K a0 a1 (realL (f187E K) 2))) = fun d0 => f187_l2 K a0 a1 K d0 := by
    funext d0
    exact f187_t2 K a0 a1 d0 K d0
  exact runF_G (n0 := 2) (by rfl) ((key (realL (f187E K) 2)).trans (by rw [h2] <;> rfl))
theorem f67_t3 (K : Nat) (a0 a1 : List (List tV)) (bq4 : Int) : ∀ (n : Nat) (q4 : Int), loopN (exec (f67E K) 2 (selC f67C [1, 1, 0, 1, 0, 0])) 2 (f67_fr3 a0 a1 bq4) n (f67_fr3 a0 a1 q4) (f67_k3 K a0 a1 (realL (f67E K) 2)) = f67_l3 K a0 a1 n q4 := by
  have key : ∀ (lr : LR Bool) (L : Fr → Option Bool) (q4 : Int), execG (f67E K) 2 lr (selC f67C [1, 1, 0, 1, 0, 0]) (f67_fr3 a0 a1 q4) (loopK 2 (f67_fr3 a0 a1 bq4) L (f67_k3 K a0 a1 lr)) = f67_b3 K a0 a1 (fun v0 => L (f67_fr3 a0 a1 v0)) q4 := by
    intro lr L q4; kernel_rfl
  intro n q4
  refine loopN_iter (X := Int) (frame := fun x => (f67_fr3 a0 a1 x)) (body := (fun L x => (fun L3 => f67_b3 K a0 a1 L3 x) (fun v0 => L v0))) (fun L x => ?_) n q4
  rw [exec_G]
  exact (key (realL (f67E K) 2) L x).trans (by rfl)
theorem f67_run (K : Nat) (a0 a1 : List (List tV)) : runF (f67E K) Tryz.f67 [(.ro, (.list 84 (.list 79 sV))), (.ro, (.list 84 (.list 79 sV)))] [.bool] (a0, a1, ()) = f67G K a0 a1 := by
  have key : ∀ (lr : LR Bool), runG (f67E K) Tryz.f67 [(.ro, (.list 84 (.list 79 sV))), (.ro, (.list 84 (.list 79 sV)))] [.bool] (a0, a1, ()) lr = f67_g K a0 a1 (fun d0 => lr (selC f67C [1, 1, 0, 1, 0, 0]) (f67_fr3 a0 a1 d0) (f67_k3 K a0 a1 lr)) := by intro lr; kernel_rfl
  have h3 : (fun d0 => (realL (f67E K) 2) (selC f67C [1, 1, 0, 1, 0, 0]) (f67_fr3 a0 a1 d0) (f67_k3 K a0 a1 (realL (f67E K) 2))) = fun d0 => f67_l3 K a0 a1 K d0 := by
    funext d0
    exact f67_t3 K a0 a1 d0 K d0
  exact runF_G (n0 := 2) (by rfl) ((key (realL (f67E K) 2)).trans (by rw [h3] <;> rfl))
theorem f342_run (K : Nat) (a0 : Int × Int × Int × Int) : runF (f342E K) Tryz.f342 [(.ro, sA)] [.bool] (a0, ()) = f342G K a0 := by kernel_rfl
theorem f343_run (K : Nat) (a0 : Int × Int × Int × Int) : runF (f343E K) Tryz.f343 [(.ro, sA)] [sI] (a0, ()) = f343G K a0 := by kernel_rfl
theorem f285_run (K : Nat) (a0 : Int × Int × Int × Int) : runF (f285E K) Tryz.f285 [(.ro, sA)] [.bool] (a0, ()) = f285G K a0 := by kernel_rfl
theorem f388_run (K : Nat) (a0 : Int × Int × Int × Int) : runF (f388E K) Tryz.f388 [(.ro, sA)] [sI] (a0, ()) = f388G K a0 := by kernel_rfl
theorem f344_run (K : Nat) (a0 : Int × Int × Int × Int) : runF (f344E K) Tryz.f344 [(.ro, sA)] [.bool] (a0, ()) = f344G K a0 := by kernel_rfl
theorem f345_run (K : Nat) (a0 : Int × Int × Int × Int) : runF (f345E K) Tryz.f345 [(.ro, sA)] [.bool] (a0, ()) = f345G K a0 := by kernel_rfl
theorem f286_run (K : Nat) (a0 : Int × Int × Int × Int) : runF (f286E K) Tryz.f286 [(.ro, sA)] [.bool] (a0, ()) = f286G K a0 := by kernel_rfl
theorem f188_run (K : Nat) (a0 : tA × Int × Int) : runF (f188E K) Tryz.f188 [(.ro, sM)] [.bool] (a0, ()) = f188G K a0 := by kernel_rfl
theorem f190_run (K : Nat) (a0 : Int × Int) : runF (f190E K) Tryz.f190 [(.ro, sV)] [sV, sI] (a0, ()) = f190G K a0 := by kernel_rfl
theorem f68_run (K : Nat) (a0 : tA × Int × Int) (a1 : Int × Int) : runF (f68E K) Tryz.f68 [(.ro, sM), (.ro, sV)] [sV, sI] (a0, a1, ()) = f68G K a0 a1 := by kernel_rfl
theorem f192_run (K : Nat) (a0 : Int × Int × Int) (a1 : Int × Int) : runF (f192E K) Tryz.f192 [(.ro, sL), (.ro, sV)] [sI] (a0, a1, ()) = f192G K a0 a1 := by kernel_rfl
theorem f69_run (K : Nat) (a0 : Int × Int × Int) (a1 : Int × Int) : runF (f69E K) Tryz.f69 [(.ro, sL), (.ro, sV)] [sV, sI] (a0, a1, ()) = f69G K a0 a1 := by kernel_rfl
theorem f70_t2 (K : Nat) (a0 : List tV) (a1 : Int × Int) (bq3 : Int) : ∀ (n : Nat) (q3 : Int), loopN (exec (f70E K) 1 (selC f70C [1, 0, 1, 0, 0])) 1 (f70_fr2 a0 a1 bq3) n (f70_fr2 a0 a1 q3) (f70_k2 K a0 a1 (realL (f70E K) 1)) = f70_l2 K a0 a1 n q3 := by
  have key : ∀ (lr : LR Bool) (L : Fr → Option Bool) (q3 : Int), execG (f70E K) 1 lr (selC f70C [1, 0, 1, 0, 0]) (f70_fr2 a0 a1 q3) (loopK 1 (f70_fr2 a0 a1 bq3) L (f70_k2 K a0 a1 lr)) = f70_b2 K a0 a1 (fun v0 => L (f70_fr2 a0 a1 v0)) q3 := by
    intro lr L q3; kernel_rfl
  intro n q3
  refine loopN_iter (X := Int) (frame := fun x => (f70_fr2 a0 a1 x)) (body := (fun L x => (fun L2 => f70_b2 K a0 a1 L2 x) (fun v0 => L v0))) (fun L x => ?_) n q3
  rw [exec_G]
  exact (key (realL (f70E K) 1) L x).trans (by rfl)
theorem f70_run (K : Nat) (a0 : List tV) (a1 : Int × Int) : runF (f70E K) Tryz.f70 [(.ro, (.list 79 sV)), (.ro, sV)] [.bool] (a0, a1, ()) = f70G K a0 a1 := by
  have key : ∀ (lr : LR Bool), runG (f70E K) Tryz.f70 [(.ro, (.list 79 sV)), (.ro, sV)] [.bool] (a0, a1, ()) lr = f70_g K a0 a1 (fun d0 => lr (selC f70C [1, 0, 1, 0, 0]) (f70_fr2 a0 a1 d0) (f70_k2 K a0 a1 lr)) := by intro lr; kernel_rfl
  have h2 : (fun d0 => (realL (f70E K) 1) (selC f70C [1, 0, 1, 0, 0]) (f70_fr2 a0 a1 d0) (f70_k2 K a0 a1 (realL (f70E K) 1))) = fun d0 => f70_l2 K a0 a1 K d0 := by
    funext d0
    exact f70_t2 K a0 a1 d0 K d0
  exact runF_G (n0 := 1) (by rfl) ((key (realL (f70E K) 1)).trans (by rw [h2] <;> rfl))
theorem f323_run (K : Nat) (a0 a1 a2 : Int) : runF (f323E K) Tryz.f323 [(.ro, sI), (.cap, sI), (.cap, sI)] [.bool] (a0, a1, a2, ()) = f323G K a0 a1 a2 := by kernel_rfl
theorem f368_t3 (K : Nat) (a0 : List Int) (a1 : (Int → Option Bool)) (bq4 : Int) : ∀ (n : Nat) (q4 : Int), loopN (exec (f368E K) 1 (selC f368C [1, 0, 1, 0, 0])) 1 (f368_fr3 a0 a1 bq4) n (f368_fr3 a0 a1 q4) (f368_k3 K a0 a1 (realL (f368E K) 1)) = f368_l3 K a0 a1 n q4 := by
  have key : ∀ (lr : LR Int) (L : Fr → Option Int) (q4 : Int), execG (f368E K) 1 lr (selC f368C [1, 0, 1, 0, 0]) (f368_fr3 a0 a1 q4) (loopK 1 (f368_fr3 a0 a1 bq4) L (f368_k3 K a0 a1 lr)) = f368_b3 K a0 a1 (fun v0 => L (f368_fr3 a0 a1 v0)) q4 := by
    intro lr L q4; kernel_rfl
  intro n q4
  refine loopN_iter (X := Int) (frame := fun x => (f368_fr3 a0 a1 x)) (body := (fun L x => (fun L3 => f368_b3 K a0 a1 L3 x) (fun v0 => L v0))) (fun L x => ?_) n q4
  rw [exec_G]
  exact (key (realL (f368E K) 1) L x).trans (by rfl)
theorem f368_run (K : Nat) (a0 : List Int) (a1 : (Int → Option Bool)) : runF (f368E K) Tryz.f368 [(.ro, (.list 2 sI)), (.ro, (.fn1 sI .bool))] [sI] (a0, a1, ()) = f368G K a0 a1 := by
  have key : ∀ (lr : LR Int), runG (f368E K) Tryz.f368 [(.ro, (.list 2 sI)), (.ro, (.fn1 sI .bool))] [sI] (a0, a1, ()) lr = f368_g K a0 a1 (fun d0 => lr (selC f368C [1, 0, 1, 0, 0]) (f368_fr3 a0 a1 d0) (f368_k3 K a0 a1 lr)) := by intro lr; kernel_rfl
  have h3 : (fun d0 => (realL (f368E K) 1) (selC f368C [1, 0, 1, 0, 0]) (f368_fr3 a0 a1 d0) (f368_k3 K a0 a1 (realL (f368E K) 1))) = fun d0 => f368_l3 K a0 a1 K d0 := by
    funext d0
    exact f368_t3 K a0 a1 d0 K d0
  exact runF_G (n0 := 1) (by rfl) ((key (realL (f368E K) 1)).trans (by rw [h3] <;> rfl))
theorem f322_run (K : Nat) (a0 : List Int) (a1 : (Int → Option Bool)) : runF (f322E K) Tryz.f322 [(.ro, (.list 2 sI)), (.ro, (.fn1 sI .bool))] [.bool] (a0, a1, ()) = f322G K a0 a1 := by kernel_rfl
theorem f250_run (K : Nat) (a0 : List Int) (a1 a2 : Int) : runF (f250E K) Tryz.f250 [(.ro, (.list 2 sI)), (.ro, sI), (.ro, sI)] [.bool] (a0, a1, a2, ()) = f250G K a0 a1 a2 := by kernel_rfl
theorem f138_run (K : Nat) (a0 : Int × tL × List Int) : runF (f138E K) Tryz.f138 [(.ro, (.cons sI (.cons sL (.list 2 sI))))] [.bool] (a0, ()) = f138G K a0 := by kernel_rfl
theorem f140_run (K : Nat) (a0 : Int × tL × List Int) (a1 : Int × Int) : runF (f140E K) Tryz.f140 [(.ro, (.cons sI (.cons sL (.list 2 sI)))), (.ro, sV)] [sI] (a0, a1, ()) = f140G K a0 a1 := by kernel_rfl
theorem f71_run (K : Nat) (a0 : Int × tL × List Int) (a1 : Int × Int) : runF (f71E K) Tryz.f71 [(.ro, (.cons sI (.cons sL (.list 2 sI)))), (.ro, sV)] [sI, sI] (a0, a1, ()) = f71G K a0 a1 := by kernel_rfl
theorem f10_t25 (K : Nat) (a0 : List Int) (y1 : Bool) (y2 : Int × tL × (List tM) × List tV) (y3 y4 : (Int × tL × List Int) × Int) (y5 : (List (List tV)) × Int) (y6 : (List (List tV)) × Int) (y7 y8 : Bool × Int) (y9 : Int × tL × (List tM) × (List tV) × Int × Int) (y10 y11 : tM × tV × Int) (y12 y13 : Bool) (y14 y15 : tV × Int) (y16 : Bool) (q24 : Int) (F23 : Fr → Option Bool) (bq24 bq26 : Int) : ∀ (n : Nat) (q26 : Int), loopN (exec (f10E K) 1 (selC f10C [1, 1, 1, 1, 1, 1, 1, 1, 1, 1, 1, 1, 1, 1, 1, 0, 1, 0, 0, 1, 0, 0, 1, 0, 0])) 1 (f10_fr25 a0 q24 y1 y2 y3 y4 y5 y6 y7 y8 y9 y10 y11 y12 y13 y14 y15 y16 bq26) n (f10_fr25 a0 q24 y1 y2 y3 y4 y5 y6 y7 y8 y9 y10 y11 y12 y13 y14 y15 y16 q26) (f10_k25 K a0 y1 y2 y3 y4 y5 y6 y7 y8 y9 y10 y11 y12 y13 y14 y15 y16 F23 bq24 (realL (f10E K) 1)) = f10_l25 K a0 q24 y1 y2 y3 y4 y5 y6 y7 y8 y9 y10 y11 y12 y13 y14 y15 y16 (fun v0 => F23 (f10_fr23 a0 y1 y2 y3 y4 y5 y6 y7 y8 y9 y10 y11 y12 y13 y14 y15 y16 v0)) n q26 := by
  have key : ∀ (lr : LR Bool) (L : Fr → Option Bool) (q26 : Int), execG (f10E K) 1 lr (selC f10C [1, 1, 1, 1, 1, 1, 1, 1, 1, 1, 1, 1, 1, 1, 1, 0, 1, 0, 0, 1, 0, 0, 1, 0, 0]) (f10_fr25 a0 q24 y1 y2 y3 y4 y5 y6 y7 y8 y9 y10 y11 y12 y13 y14 y15 y16 q26) (loopK 1 (f10_fr25 a0 q24 y1 y2 y3 y4 y5 y6 y7 y8 y9 y10 y11 y12 y13 y14 y15 y16 bq26) L (f10_k25 K a0 y1 y2 y3 y4 y5 y6 y7 y8 y9 y10 y11 y12 y13 y14 y15 y16 F23 bq24 lr)) = f10_b25 K a0 q24 y1 y2 y3 y4 y5 y6 y7 y8 y9 y10 y11 y12 y13 y14 y15 y16 (fun v0 => F23 (f10_fr23 a0 y1 y2 y3 y4 y5 y6 y7 y8 y9 y10 y11 y12 y13 y14 y15 y16 v0)) (fun v0 => L (f10_fr25 a0 q24 y1 y2 y3 y4 y5 y6 y7 y8 y9 y10 y11 y12 y13 y14 y15 y16 v0)) q26 := by
    intro lr L q26; kernel_rfl
  intro n q26
  refine loopN_iter (X := Int) (frame := fun x => (f10_fr25 a0 q24 y1 y2 y3 y4 y5 y6 y7 y8 y9 y10 y11 y12 y13 y14 y15 y16 x)) (body := (fun L x => (fun L25 => f10_b25 K a0 q24 y1 y2 y3 y4 y5 y6 y7 y8 y9 y10 y11 y12 y13 y14 y15 y16 (fun v0 => F23 (f10_fr23 a0 y1 y2 y3 y4 y5 y6 y7 y8 y9 y10 y11 y12 y13 y14 y15 y16 v0)) L25 x) (fun v0 => L v0))) (fun L x => ?_) n q26
  rw [exec_G]
  exact (key (realL (f10E K) 1) L x).trans (by rfl)
theorem f10_t23 (K : Nat) (a0 : List Int) (y1 : Bool) (y2 : Int × tL × (List tM) × List tV) (y3 y4 : (Int × tL × List Int) × Int) (y5 : (List (List tV)) × Int) (y6 : (List (List tV)) × Int) (y7 y8 : Bool × Int) (y9 : Int × tL × (List tM) × (List tV) × Int × Int) (y10 y11 : tM × tV × Int) (y12 y13 : Bool) (y14 y15 : tV × Int) (y16 : Bool) (bq24 : Int) : ∀ (n : Nat) (q24 : Int), loopN (exec (f10E K) 1 (selC f10C [1, 1, 1, 1, 1, 1, 1, 1, 1, 1, 1, 1, 1, 1, 1, 0, 1, 0, 0])) 1 (f10_fr23 a0 y1 y2 y3 y4 y5 y6 y7 y8 y9 y10 y11 y12 y13 y14 y15 y16 bq24) n (f10_fr23 a0 y1 y2 y3 y4 y5 y6 y7 y8 y9 y10 y11 y12 y13 y14 y15 y16 q24) (f10_k23 K a0 (realL (f10E K) 1)) = f10_l23 K a0 y1 y2 y3 y4 y5 y6 y7 y8 y9 y10 y11 y12 y13 y14 y15 y16 n q24 := by
  have key : ∀ (lr : LR Bool) (L : Fr → Option Bool) (q24 : Int), execG (f10E K) 1 lr (selC f10C [1, 1, 1, 1, 1, 1, 1, 1, 1, 1, 1, 1, 1, 1, 1, 0, 1, 0, 0]) (f10_fr23 a0 y1 y2 y3 y4 y5 y6 y7 y8 y9 y10 y11 y12 y13 y14 y15 y16 q24) (loopK 1 (f10_fr23 a0 y1 y2 y3 y4 y5 y6 y7 y8 y9 y10 y11 y12 y13 y14 y15 y16 bq24) L (f10_k23 K a0 lr)) = f10_b23 K a0 y1 y2 y3 y4 y5 y6 y7 y8 y9 y10 y11 y12 y13 y14 y15 y16 (fun c0 d0 => lr (selC f10C [1, 1, 1, 1, 1, 1, 1, 1, 1, 1, 1, 1, 1, 1, 1, 0, 1, 0, 0, 1, 0, 0, 1, 0, 0]) (f10_fr25 a0 c0 y1 y2 y3 y4 y5 y6 y7 y8 y9 y10 y11 y12 y13 y14 y15 y16 d0) (f10_k25 K a0 y1 y2 y3 y4 y5 y6 y7 y8 y9 y10 y11 y12 y13 y14 y15 y16 L bq24 lr)) (fun v0 => L (f10_fr23 a0 y1 y2 y3 y4 y5 y6 y7 y8 y9 y10 y11 y12 y13 y14 y15 y16 v0)) q24 := by
    intro lr L q24; kernel_rfl
  intro n q24
  refine loopN_iter (X := Int) (frame := fun x => (f10_fr23 a0 y1 y2 y3 y4 y5 y6 y7 y8 y9 y10 y11 y12 y13 y14 y15 y16 x)) (body := (fun L x => (fun L23 => f10_b23 K a0 y1 y2 y3 y4 y5 y6 y7 y8 y9 y10 y11 y12 y13 y14 y15 y16 (fun c0 d0 => f10_l25 K a0 c0 y1 y2 y3 y4 y5 y6 y7 y8 y9 y10 y11 y12 y13 y14 y15 y16 L23 K d0) L23 x) (fun v0 => L v0))) (fun L x => ?_) n q24
  rw [exec_G]
  have h25 : (fun c0 d0 => (realL (f10E K) 1) (selC f10C [1, 1, 1, 1, 1, 1, 1, 1, 1, 1, 1, 1, 1, 1, 1, 0, 1, 0, 0, 1, 0, 0, 1, 0, 0]) (f10_fr25 a0 c0 y1 y2 y3 y4 y5 y6 y7 y8 y9 y10 y11 y12 y13 y14 y15 y16 d0) (f10_k25 K a0 y1 y2 y3 y4 y5 y6 y7 y8 y9 y10 y11 y12 y13 y14 y15 y16 L bq24 (realL (f10E K) 1))) = fun c0 d0 => f10_l25 K a0 c0 y1 y2 y3 y4 y5 y6 y7 y8 y9 y10 y11 y12 y13 y14 y15 y16 (fun v0 => L (f10_fr23 a0 y1 y2 y3 y4 y5 y6 y7 y8 y9 y10 y11 y12 y13 y14 y15 y16 v0)) K d0 := by
    funext c0 d0
    exact f10_t25 K a0 y1 y2 y3 y4 y5 y6 y7 y8 y9 y10 y11 y12 y13 y14 y15 y16 c0 L bq24 d0 K d0
  exact (key (realL (f10E K) 1) L x).trans (by rw [h25] <;> rfl)
theorem f10_t30 (K : Nat) (a0 : List Int) (y1 : Bool) (y2 : Int × tL × (List tM) × List tV) (y3 y4 : (Int × tL × List Int) × Int) (y5 : (List (List tV)) × Int) (y6 : (List (List tV)) × Int) (y7 y8 : Bool × Int) (y9 : Int × tL × (List tM) × (List tV) × Int × Int) (y10 y11 : tM × tV × Int) (y12 y13 : Bool) (q29 : Int) (F28 : Fr → Option Bool) (bq29 bq31 : Int) : ∀ (n : Nat) (q31 : Int), loopN (exec (f10E K) 1 (selC f10C [1, 1, 1, 1, 1, 1, 1, 1, 1, 1, 1, 1, 1, 1, 1, 0, 1, 0, 0, 1, 0, 0, 1, 0, 0])) 1 (f10_fr30 a0 q29 y1 y2 y3 y4 y5 y6 y7 y8 y9 y10 y11 y12 y13 bq31) n (f10_fr30 a0 q29 y1 y2 y3 y4 y5 y6 y7 y8 y9 y10 y11 y12 y13 q31) (f10_k30 K a0 y1 y2 y3 y4 y5 y6 y7 y8 y9 y10 y11 y12 y13 F28 bq29 (realL (f10E K) 1)) = f10_l30 K a0 q29 y1 y2 y3 y4 y5 y6 y7 y8 y9 y10 y11 y12 y13 (fun v0 => F28 (f10_fr28 a0 y1 y2 y3 y4 y5 y6 y7 y8 y9 y10 y11 y12 y13 v0)) n q31 := by
  have key : ∀ (lr : LR Bool) (L : Fr → Option Bool) (q31 : Int), execG (f10E K) 1 lr (selC f10C [1, 1, 1, 1, 1, 1, 1, 1, 1, 1, 1, 1, 1, 1, 1, 0, 1, 0, 0, 1, 0, 0, 1, 0, 0]) (f10_fr30 a0 q29 y1 y2 y3 y4 y5 y6 y7 y8 y9 y10 y11 y12 y13 q31) (loopK 1 (f10_fr30 a0 q29 y1 y2 y3 y4 y5 y6 y7 y8 y9 y10 y11 y12 y13 bq31) L (f10_k30 K a0 y1 y2 y3 y4 y5 y6 y7 y8 y9 y10 y11 y12 y13 F28 bq29 lr)) = f10_b30 K a0 q29 y1 y2 y3 y4 y5 y6 y7 y8 y9 y10 y11 y12 y13 (fun v0 => F28 (f10_fr28 a0 y1 y2 y3 y4 y5 y6 y7 y8 y9 y10 y11 y12 y13 v0)) (fun v0 => L (f10_fr30 a0 q29 y1 y2 y3 y4 y5 y6 y7 y8 y9 y10 y11 y12 y13 v0)) q31 := by
    intro lr L q31; kernel_rfl
  intro n q31
  refine loopN_iter (X := Int) (frame := fun x => (f10_fr30 a0 q29 y1 y2 y3 y4 y5 y6 y7 y8 y9 y10 y11 y12 y13 x)) (body := (fun L x => (fun L30 => f10_b30 K a0 q29 y1 y2 y3 y4 y5 y6 y7 y8 y9 y10 y11 y12 y13 (fun v0 => F28 (f10_fr28 a0 y1 y2 y3 y4 y5 y6 y7 y8 y9 y10 y11 y12 y13 v0)) L30 x) (fun v0 => L v0))) (fun L x => ?_) n q31
  rw [exec_G]
  exact (key (realL (f10E K) 1) L x).trans (by rfl)
theorem f10_t28 (K : Nat) (a0 : List Int) (y1 : Bool) (y2 : Int × tL × (List tM) × List tV) (y3 y4 : (Int × tL × List Int) × Int) (y5 : (List (List tV)) × Int) (y6 : (List (List tV)) × Int) (y7 y8 : Bool × Int) (y9 : Int × tL × (List tM) × (List tV) × Int × Int) (y10 y11 : tM × tV × Int) (y12 y13 : Bool) (bq29 : Int) : ∀ (n : Nat) (q29 : Int), loopN (exec (f10E K) 1 (selC f10C [1, 1, 1, 1, 1, 1, 1, 1, 1, 1, 1, 1, 1, 1, 1, 0, 1, 0, 0])) 1 (f10_fr28 a0 y1 y2 y3 y4 y5 y6 y7 y8 y9 y10 y11 y12 y13 bq29) n (f10_fr28 a0 y1 y2 y3 y4 y5 y6 y7 y8 y9 y10 y11 y12 y13 q29) (f10_k28 K a0 (realL (f10E K) 1)) = f10_l28 K a0 y1 y2 y3 y4 y5 y6 y7 y8 y9 y10 y11 y12 y13 n q29 := by
  have key : ∀ (lr : LR Bool) (L : Fr → Option Bool) (q29 : Int), execG (f10E K) 1 lr (selC f10C [1, 1, 1, 1, 1, 1, 1, 1, 1, 1, 1, 1, 1, 1, 1, 0, 1, 0, 0]) (f10_fr28 a0 y1 y2 y3 y4 y5 y6 y7 y8 y9 y10 y11 y12 y13 q29) (loopK 1 (f10_fr28 a0 y1 y2 y3 y4 y5 y6 y7 y8 y9 y10 y11 y12 y13 bq29) L (f10_k28 K a0 lr)) = f10_b28 K a0 y1 y2 y3 y4 y5 y6 y7 y8 y9 y10 y11 y12 y13 (fun c0 d0 => lr (selC f10C [1, 1, 1, 1, 1, 1, 1, 1, 1, 1, 1, 1, 1, 1, 1, 0, 1, 0, 0, 1, 0, 0, 1, 0, 0]) (f10_fr30 a0 c0 y1 y2 y3 y4 y5 y6 y7 y8 y9 y10 y11 y12 y13 d0) (f10_k30 K a0 y1 y2 y3 y4 y5 y6 y7 y8 y9 y10 y11 y12 y13 L bq29 lr)) (fun v0 => L (f10_fr28 a0 y1 y2 y3 y4 y5 y6 y7 y8 y9 y10 y11 y12 y13 v0)) q29 := by
    intro lr L q29; kernel_rfl
  intro n q29
  refine loopN_iter (X := Int) (frame := fun x => (f10_fr28 a0 y1 y2 y3 y4 y5 y6 y7 y8 y9 y10 y11 y12 y13 x)) (body := (fun L x => (fun L28 => f10_b28 K a0 y1 y2 y3 y4 y5 y6 y7 y8 y9 y10 y11 y12 y13 (fun c0 d0 => f10_l30 K a0 c0 y1 y2 y3 y4 y5 y6 y7 y8 y9 y10 y11 y12 y13 L28 K d0) L28 x) (fun v0 => L v0))) (fun L x => ?_) n q29
  rw [exec_G]
  have h30 : (fun c0 d0 => (realL (f10E K) 1) (selC f10C [1, 1, 1, 1, 1, 1, 1, 1, 1, 1, 1, 1, 1, 1, 1, 0, 1, 0, 0, 1, 0, 0, 1, 0, 0]) (f10_fr30 a0 c0 y1 y2 y3 y4 y5 y6 y7 y8 y9 y10 y11 y12 y13 d0) (f10_k30 K a0 y1 y2 y3 y4 y5 y6 y7 y8 y9 y10 y11 y12 y13 L bq29 (realL (f10E K) 1))) = fun c0 d0 => f10_l30 K a0 c0 y1 y2 y3 y4 y5 y6 y7 y8 y9 y10 y11 y12 y13 (fun v0 => L (f10_fr28 a0 y1 y2 y3 y4 y5 y6 y7 y8 y9 y10 y11 y12 y13 v0)) K d0 := by
    funext c0 d0
    exact f10_t30 K a0 y1 y2 y3 y4 y5 y6 y7 y8 y9 y10 y11 y12 y13 c0 L bq29 d0 K d0
  exact (key (realL (f10E K) 1) L x).trans (by rw [h30] <;> rfl)
theorem f10_run (K : Nat) (a0 : List Int) : runF (f10E K) Tryz.f10 [(.ro, (.list 5 (.int .u8)))] [.bool] (a0, ()) = f10G K a0 := by
  have key : ∀ (lr : LR Bool), runG (f10E K) Tryz.f10 [(.ro, (.list 5 (.int .u8)))] [.bool] (a0, ()) lr = f10_g K a0 (fun c0 c1 c2 c3 c4 c5 c6 c7 c8 c9 c10 c11 c12 c13 c14 c15 d0 => lr (selC f10C [1, 1, 1, 1, 1, 1, 1, 1, 1, 1, 1, 1, 1, 1, 1, 0, 1, 0, 0]) (f10_fr23 a0 c0 c1 c2 c3 c4 c5 c6 c7 c8 c9 c10 c11 c12 c13 c14 c15 d0) (f10_k23 K a0 lr)) (fun c0 c1 c2 c3 c4 c5 c6 c7 c8 c9 c10 c11 c12 d0 => lr (selC f10C [1, 1, 1, 1, 1, 1, 1, 1, 1, 1, 1, 1, 1, 1, 1, 0, 1, 0, 0]) (f10_fr28 a0 c0 c1 c2 c3 c4 c5 c6 c7 c8 c9 c10 c11 c12 d0) (f10_k28 K a0 lr)) := by intro lr; kernel_rfl
  have h23 : (fun c0 c1 c2 c3 c4 c5 c6 c7 c8 c9 c10 c11 c12 c13 c14 c15 d0 => (realL (f10E K) 1) (selC f10C [1, 1, 1, 1, 1, 1, 1, 1, 1, 1, 1, 1, 1, 1, 1, 0, 1, 0, 0]) (f10_fr23 a0 c0 c1 c2 c3 c4 c5 c6 c7 c8 c9 c10 c11 c12 c13 c14 c15 d0) (f10_k23 K a0 (realL (f10E K) 1))) = fun c0 c1 c2 c3 c4 c5 c6 c7 c8 c9 c10 c11 c12 c13 c14 c15 d0 => f10_l23 K a0 c0 c1 c2 c3 c4 c5 c6 c7 c8 c9 c10 c11 c12 c13 c14 c15 K d0 := by
    funext c0 c1 c2 c3 c4 c5 c6 c7 c8 c9 c10 c11 c12 c13 c14 c15 d0
    exact f10_t23 K a0 c0 c1 c2 c3 c4 c5 c6 c7 c8 c9 c10 c11 c12 c13 c14 c15 d0 K d0
  have h28 : (fun c0 c1 c2 c3 c4 c5 c6 c7 c8 c9 c10 c11 c12 d0 => (realL (f10E K) 1) (selC f10C [1, 1, 1, 1, 1, 1, 1, 1, 1, 1, 1, 1, 1, 1, 1, 0, 1, 0, 0]) (f10_fr28 a0 c0 c1 c2 c3 c4 c5 c6 c7 c8 c9 c10 c11 c12 d0) (f10_k28 K a0 (realL (f10E K) 1))) = fun c0 c1 c2 c3 c4 c5 c6 c7 c8 c9 c10 c11 c12 d0 => f10_l28 K a0 c0 c1 c2 c3 c4 c5 c6 c7 c8 c9 c10 c11 c12 K d0 := by
    funext c0 c1 c2 c3 c4 c5 c6 c7 c8 c9 c10 c11 c12 d0
    exact f10_t28 K a0 c0 c1 c2 c3 c4 c5 c6 c7 c8 c9 c10 c11 c12 d0 K d0
  exact runF_G (n0 := 1) (by rfl) ((key (realL (f10E K) 1)).trans (by rw [h23, h28] <;> rfl))
end Go.Proofs.YtfccacobkcglcaaGreat.X
