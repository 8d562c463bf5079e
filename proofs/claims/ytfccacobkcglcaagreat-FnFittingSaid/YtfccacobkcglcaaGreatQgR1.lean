/- Functions of the program as plain Lean functions, and that the program does what they say. Printed by gen.py. -/
import Derived.Test.YtfccacobkcglcaaGreatQgD1
namespace Go.Proofs.YtfccacobkcglcaaGreat.X
open Go
set_option maxRecDepth 100000
set_option linter.unusedVariables false
theorem f293_t9 (K : Nat) (a0 q7 : Int) (F6 : Fr → Option (List tL)) (bq7 : Int) (bq8 : List tL) (bq10 : Int) (bq11 : List tL) : ∀ (n : Nat) (q10 : Int) (q11 : List tL), loopN (exec (f293E K) 0 (selC f293C [1, 1, 0, 1, 0, 0, 1, 0, 0, 1, 0, 0])) 0 (f293_fr9 a0 q7 bq10 bq11) n (f293_fr9 a0 q7 q10 q11) (f293_k9 K a0 F6 bq7 bq8 (realL (f293E K) 0)) = f293_l9 K a0 q7 (fun v0 v1 => F6 (f293_fr6 a0 v0 v1)) n q10 q11 := by
  have key : ∀ (lr : LR (List tL)) (L : Fr → Option (List tL)) (q10 : Int) (q11 : List tL), execG (f293E K) 0 lr (selC f293C [1, 1, 0, 1, 0, 0, 1, 0, 0, 1, 0, 0]) (f293_fr9 a0 q7 q10 q11) (loopK 0 (f293_fr9 a0 q7 bq10 bq11) L (f293_k9 K a0 F6 bq7 bq8 lr)) = f293_b9 K a0 q7 (fun v0 v1 => F6 (f293_fr6 a0 v0 v1)) (fun v0 v1 => L (f293_fr9 a0 q7 v0 v1)) q10 q11 := by
    intro lr L q10 q11; kernel_rfl
  intro n q10 q11
  refine loopN_iter (X := Int × List tL) (frame := fun x => (f293_fr9 a0 q7 x.1 x.2)) (body := (fun L x => (fun L9 => f293_b9 K a0 q7 (fun v0 v1 => F6 (f293_fr6 a0 v0 v1)) L9 x.1 x.2) (fun v0 v1 => L (v0, v1)))) (fun L x => ?_) n (q10, q11)
  rw [exec_G]
  exact (key (realL (f293E K) 0) L x.1 x.2).trans (by rfl)
theorem f293_t6 (K : Nat) (a0 bq7 : Int) (bq8 : List tL) : ∀ (n : Nat) (q7 : Int) (q8 : List tL), loopN (exec (f293E K) 0 (selC f293C [1, 1, 0, 1, 0, 0])) 0 (f293_fr6 a0 bq7 bq8) n (f293_fr6 a0 q7 q8) (f293_k6 K a0 (realL (f293E K) 0)) = f293_l6 K a0 n q7 q8 := by
  have key : ∀ (lr : LR (List tL)) (L : Fr → Option (List tL)) (q7 : Int) (q8 : List tL), execG (f293E K) 0 lr (selC f293C [1, 1, 0, 1, 0, 0]) (f293_fr6 a0 q7 q8) (loopK 0 (f293_fr6 a0 bq7 bq8) L (f293_k6 K a0 lr)) = f293_b6 K a0 (fun c0 d0 d1 => lr (selC f293C [1, 1, 0, 1, 0, 0, 1, 0, 0, 1, 0, 0]) (f293_fr9 a0 c0 d0 d1) (f293_k9 K a0 L bq7 bq8 lr)) (fun v0 v1 => L (f293_fr6 a0 v0 v1)) q7 q8 := by
    intro lr L q7 q8; kernel_rfl
  intro n q7 q8
  refine loopN_iter (X := Int × List tL) (frame := fun x => (f293_fr6 a0 x.1 x.2)) (body := (fun L x => (fun L6 => f293_b6 K a0 (fun c0 d0 d1 => f293_l9 K a0 c0 L6 K d0 d1) L6 x.1 x.2) (fun v0 v1 => L (v0, v1)))) (fun L x => ?_) n (q7, q8)
  rw [exec_G]
  have h9 : (fun c0 d0 d1 => (realL (f293E K) 0) (selC f293C [1, 1, 0, 1, 0, 0, 1, 0, 0, 1, 0, 0]) (f293_fr9 a0 c0 d0 d1) (f293_k9 K a0 L bq7 bq8 (realL (f293E K) 0))) = fun c0 d0 d1 => f293_l9 K a0 c0 (fun v0 v1 => L (f293_fr6 a0 v0 v1)) K d0 d1 := by
    funext c0 d0 d1
    exact f293_t9 K a0 c0 L bq7 bq8 d0 d1 K d0 d1
  exact (key (realL (f293E K) 0) L x.1 x.2).trans (by rw [h9] <;> rfl)
theorem f293_run (K : Nat) (a0 : Int) : runF (f293E K) Tryz.f293 [(.ro, sI)] [(.list 31 sL)] (a0, ()) = f293G K a0 := by
  have key : ∀ (lr : LR (List tL)), runG (f293E K) Tryz.f293 [(.ro, sI)] [(.list 31 sL)] (a0, ()) lr = f293_g K a0 (fun d0 d1 => lr (selC f293C [1, 1, 0, 1, 0, 0]) (f293_fr6 a0 d0 d1) (f293_k6 K a0 lr)) := by intro lr; kernel_rfl
  have h6 : (fun d0 d1 => (realL (f293E K) 0) (selC f293C [1, 1, 0, 1, 0, 0]) (f293_fr6 a0 d0 d1) (f293_k6 K a0 (realL (f293E K) 0))) = fun d0 d1 => f293_l6 K a0 K d0 d1 := by
    funext d0 d1
    exact f293_t6 K a0 d0 d1 K d0 d1
  exact runF_G (n0 := 0) (by rfl) ((key (realL (f293E K) 0)).trans (by rw [h6] <;> rfl))
theorem f294_run (K : Nat) (a0 : Int × Int × Int) (a1 : List tM) (a2 : List (tV × Int)) : runF (f294E K) Tryz.f294 [(.ro, sL), (.cap, (.list 95 sM)), (.cap, (.list 133 (.cons sV sI)))] [.bool] (a0, a1, a2, ()) = f294G K a0 a1 a2 := by kernel_rfl
theorem f346_t3 (K : Nat) (a0 : List tL) (a1 : (tL → Option Bool)) (bq4 : Int) : ∀ (n : Nat) (q4 : Int), loopN (exec (f346E K) 1 (selC f346C [1, 0, 1, 0, 0])) 1 (f346_fr3 a0 a1 bq4) n (f346_fr3 a0 a1 q4) (f346_k3 K a0 a1 (realL (f346E K) 1)) = f346_l3 K a0 a1 n q4 := by
  have key : ∀ (lr : LR Int) (L : Fr → Option Int) (q4 : Int), execG (f346E K) 1 lr (selC f346C [1, 0, 1, 0, 0]) (f346_fr3 a0 a1 q4) (loopK 1 (f346_fr3 a0 a1 bq4) L (f346_k3 K a0 a1 lr)) = f346_b3 K a0 a1 (fun v0 => L (f346_fr3 a0 a1 v0)) q4 := by
    intro lr L q4; kernel_rfl
  intro n q4
  refine loopN_iter (X := Int) (frame := fun x => (f346_fr3 a0 a1 x)) (body := (fun L x => (fun L3 => f346_b3 K a0 a1 L3 x) (fun v0 => L v0))) (fun L x => ?_) n q4
  rw [exec_G]
  exact (key (realL (f346E K) 1) L x).trans (by rfl)
theorem f346_run (K : Nat) (a0 : List tL) (a1 : (tL → Option Bool)) : runF (f346E K) Tryz.f346 [(.ro, (.list 31 sL)), (.ro, (.fn1 sL .bool))] [sI] (a0, a1, ()) = f346G K a0 a1 := by
  have key : ∀ (lr : LR Int), runG (f346E K) Tryz.f346 [(.ro, (.list 31 sL)), (.ro, (.fn1 sL .bool))] [sI] (a0, a1, ()) lr = f346_g K a0 a1 (fun d0 => lr (selC f346C [1, 0, 1, 0, 0]) (f346_fr3 a0 a1 d0) (f346_k3 K a0 a1 lr)) := by intro lr; kernel_rfl
  have h3 : (fun d0 => (realL (f346E K) 1) (selC f346C [1, 0, 1, 0, 0]) (f346_fr3 a0 a1 d0) (f346_k3 K a0 a1 (realL (f346E K) 1))) = fun d0 => f346_l3 K a0 a1 K d0 := by
    funext d0
    exact f346_t3 K a0 a1 d0 K d0
  exact runF_G (n0 := 1) (by rfl) ((key (realL (f346E K) 1)).trans (by rw [h3] <;> rfl))
theorem f292_t4 (K : Nat) (a0 : List tL) (a1 : (tL → Option Bool)) (y1 bq5 bq6 : Int) (bq7 : List tL) : ∀ (n : Nat) (q5 q6 : Int) (q7 : List tL), loopN (exec (f292E K) 1 (selC f292C [1, 1, 1, 0, 1, 0, 0])) 1 (f292_fr4 a1 y1 bq5 bq6 bq7) n (f292_fr4 a1 y1 q5 q6 q7) (f292_k4 K a0 a1 (realL (f292E K) 1)) = f292_l4 K a1 y1 n q5 q6 q7 := by
  have key : ∀ (lr : LR (List tL)) (L : Fr → Option (List tL)) (q5 q6 : Int) (q7 : List tL), execG (f292E K) 1 lr (selC f292C [1, 1, 1, 0, 1, 0, 0]) (f292_fr4 a1 y1 q5 q6 q7) (loopK 1 (f292_fr4 a1 y1 bq5 bq6 bq7) L (f292_k4 K a0 a1 lr)) = f292_b4 K a1 y1 (fun v0 v1 v2 => L (f292_fr4 a1 y1 v0 v1 v2)) q5 q6 q7 := by
    intro lr L q5 q6 q7; kernel_rfl
  intro n q5 q6 q7
  refine loopN_iter (X := Int × Int × List tL) (frame := fun x => (f292_fr4 a1 y1 x.1 x.2.1 x.2.2)) (body := (fun L x => (fun L4 => f292_b4 K a1 y1 L4 x.1 x.2.1 x.2.2) (fun v0 v1 v2 => L (v0, v1, v2)))) (fun L x => ?_) n (q5, q6, q7)
  rw [exec_G]
  exact (key (realL (f292E K) 1) L x.1 x.2.1 x.2.2).trans (by rfl)
theorem f292_run (K : Nat) (a0 : List tL) (a1 : (tL → Option Bool)) : runF (f292E K) Tryz.f292 [(.mv, (.list 31 sL)), (.ro, (.fn1 sL .bool))] [(.list 31 sL)] (a0, a1, ()) = f292G K a0 a1 := by
  have key : ∀ (lr : LR (List tL)), runG (f292E K) Tryz.f292 [(.mv, (.list 31 sL)), (.ro, (.fn1 sL .bool))] [(.list 31 sL)] (a0, a1, ()) lr = f292_g K a0 a1 (fun c0 d0 d1 d2 => lr (selC f292C [1, 1, 1, 0, 1, 0, 0]) (f292_fr4 a1 c0 d0 d1 d2) (f292_k4 K a0 a1 lr)) := by intro lr; kernel_rfl
  have h4 : (fun c0 d0 d1 d2 => (realL (f292E K) 1) (selC f292C [1, 1, 1, 0, 1, 0, 0]) (f292_fr4 a1 c0 d0 d1 d2) (f292_k4 K a0 a1 (realL (f292E K) 1))) = fun c0 d0 d1 d2 => f292_l4 K a1 c0 K d0 d1 d2 := by
    funext c0 d0 d1 d2
    exact f292_t4 K a0 a1 c0 d0 d1 d2 K d0 d1 d2
  exact runF_G (n0 := 1) (by rfl) ((key (realL (f292E K) 1)).trans (by rw [h4] <;> rfl))
theorem f202_run (K : Nat) (a0 : List (tV × Int)) (a1 : Int) : runF (f202E K) Tryz.f202 [(.ro, (.list 133 (.cons sV sI))), (.ro, sI)] [(.list 31 sL)] (a0, a1, ()) = f202G K a0 a1 := by kernel_rfl
theorem f79_run (K : Nat) (a0 : List (tV × Int)) (a1 : Int) : runF (f79E K) Tryz.f79 [(.ro, (.list 133 (.cons sV sI))), (.ro, sI)] [(.list 31 sL), sI] (a0, a1, ()) = f79G K a0 a1 := by kernel_rfl
theorem f295_t10 (K : Nat) (a0 : Int) (y1 : Bool) (q8 : Int) (F7 : Fr → Option ((List tL) × Int)) (bq8 : Int) (bq9 : List tL) (bq11 : Int) (bq12 : List tL) : ∀ (n : Nat) (q11 : Int) (q12 : List tL), loopN (exec (f295E K) 0 (selC f295C [1, 1, 1, 0, 1, 0, 0, 1, 0, 0, 1, 0, 0])) 0 (f295_fr10 a0 q8 y1 bq11 bq12) n (f295_fr10 a0 q8 y1 q11 q12) (f295_k10 K a0 y1 F7 bq8 bq9 (realL (f295E K) 0)) = f295_l10 K a0 q8 y1 (fun v0 v1 => F7 (f295_fr7 a0 y1 v0 v1)) n q11 q12 := by
  have key : ∀ (lr : LR ((List tL) × Int)) (L : Fr → Option ((List tL) × Int)) (q11 : Int) (q12 : List tL), execG (f295E K) 0 lr (selC f295C [1, 1, 1, 0, 1, 0, 0, 1, 0, 0, 1, 0, 0]) (f295_fr10 a0 q8 y1 q11 q12) (loopK 0 (f295_fr10 a0 q8 y1 bq11 bq12) L (f295_k10 K a0 y1 F7 bq8 bq9 lr)) = f295_b10 K a0 q8 y1 (fun v0 v1 => F7 (f295_fr7 a0 y1 v0 v1)) (fun v0 v1 => L (f295_fr10 a0 q8 y1 v0 v1)) q11 q12 := by
    intro lr L q11 q12; kernel_rfl
  intro n q11 q12
  refine loopN_iter (X := Int × List tL) (frame := fun x => (f295_fr10 a0 q8 y1 x.1 x.2)) (body := (fun L x => (fun L10 => f295_b10 K a0 q8 y1 (fun v0 v1 => F7 (f295_fr7 a0 y1 v0 v1)) L10 x.1 x.2) (fun v0 v1 => L (v0, v1)))) (fun L x => ?_) n (q11, q12)
  rw [exec_G]
  exact (key (realL (f295E K) 0) L x.1 x.2).trans (by rfl)
theorem f295_t7 (K : Nat) (a0 : Int) (y1 : Bool) (bq8 : Int) (bq9 : List tL) : ∀ (n : Nat) (q8 : Int) (q9 : List tL), loopN (exec (f295E K) 0 (selC f295C [1, 1, 1, 0, 1, 0, 0])) 0 (f295_fr7 a0 y1 bq8 bq9) n (f295_fr7 a0 y1 q8 q9) (f295_k7 K a0 (realL (f295E K) 0)) = f295_l7 K a0 y1 n q8 q9 := by
  have key : ∀ (lr : LR ((List tL) × Int)) (L : Fr → Option ((List tL) × Int)) (q8 : Int) (q9 : List tL), execG (f295E K) 0 lr (selC f295C [1, 1, 1, 0, 1, 0, 0]) (f295_fr7 a0 y1 q8 q9) (loopK 0 (f295_fr7 a0 y1 bq8 bq9) L (f295_k7 K a0 lr)) = f295_b7 K a0 y1 (fun c0 d0 d1 => lr (selC f295C [1, 1, 1, 0, 1, 0, 0, 1, 0, 0, 1, 0, 0]) (f295_fr10 a0 c0 y1 d0 d1) (f295_k10 K a0 y1 L bq8 bq9 lr)) (fun v0 v1 => L (f295_fr7 a0 y1 v0 v1)) q8 q9 := by
    intro lr L q8 q9; kernel_rfl
  intro n q8 q9
  refine loopN_iter (X := Int × List tL) (frame := fun x => (f295_fr7 a0 y1 x.1 x.2)) (body := (fun L x => (fun L7 => f295_b7 K a0 y1 (fun c0 d0 d1 => f295_l10 K a0 c0 y1 L7 K d0 d1) L7 x.1 x.2) (fun v0 v1 => L (v0, v1)))) (fun L x => ?_) n (q8, q9)
  rw [exec_G]
  have h10 : (fun c0 d0 d1 => (realL (f295E K) 0) (selC f295C [1, 1, 1, 0, 1, 0, 0, 1, 0, 0, 1, 0, 0]) (f295_fr10 a0 c0 y1 d0 d1) (f295_k10 K a0 y1 L bq8 bq9 (realL (f295E K) 0))) = fun c0 d0 d1 => f295_l10 K a0 c0 y1 (fun v0 v1 => L (f295_fr7 a0 y1 v0 v1)) K d0 d1 := by
    funext c0 d0 d1
    exact f295_t10 K a0 y1 c0 L bq8 bq9 d0 d1 K d0 d1
  exact (key (realL (f295E K) 0) L x.1 x.2).trans (by rw [h10] <;> rfl)
theorem f295_run (K : Nat) (a0 : Int) : runF (f295E K) Tryz.f295 [(.ro, sI)] [(.list 31 sL), sI] (a0, ()) = f295G K a0 := by
  have key : ∀ (lr : LR ((List tL) × Int)), runG (f295E K) Tryz.f295 [(.ro, sI)] [(.list 31 sL), sI] (a0, ()) lr = f295_g K a0 (fun c0 d0 d1 => lr (selC f295C [1, 1, 1, 0, 1, 0, 0]) (f295_fr7 a0 c0 d0 d1) (f295_k7 K a0 lr)) := by intro lr; kernel_rfl
  have h7 : (fun c0 d0 d1 => (realL (f295E K) 0) (selC f295C [1, 1, 1, 0, 1, 0, 0]) (f295_fr7 a0 c0 d0 d1) (f295_k7 K a0 (realL (f295E K) 0))) = fun c0 d0 d1 => f295_l7 K a0 c0 K d0 d1 := by
    funext c0 d0 d1
    exact f295_t7 K a0 c0 d0 d1 K d0 d1
  exact runF_G (n0 := 0) (by rfl) ((key (realL (f295E K) 0)).trans (by rw [h7] <;> rfl))
theorem f296_t11 (K : Nat) (a0 : Int × Int × Int) (a1 : List (tV × Int)) (q10 : Int) (F9 : Fr → Option Bool) (bq10 bq12 : Int) : ∀ (n : Nat) (q12 : Int), loopN (exec (f296E K) 1 (selC f296C [1, 0, 1, 0, 0, 1, 0, 0, 1, 0, 0])) 1 (f296_fr11 a0 a1 q10 bq12) n (f296_fr11 a0 a1 q10 q12) (f296_k11 K a0 a1 F9 bq10 (realL (f296E K) 1)) = f296_l11 K a0 a1 q10 (fun v0 => F9 (f296_fr9 a0 a1 v0)) n q12 := by
  have key : ∀ (lr : LR Bool) (L : Fr → Option Bool) (q12 : Int), execG (f296E K) 1 lr (selC f296C [1, 0, 1, 0, 0, 1, 0, 0, 1, 0, 0]) (f296_fr11 a0 a1 q10 q12) (loopK 1 (f296_fr11 a0 a1 q10 bq12) L (f296_k11 K a0 a1 F9 bq10 lr)) = f296_b11 K a0 a1 q10 (fun v0 => F9 (f296_fr9 a0 a1 v0)) (fun v0 => L (f296_fr11 a0 a1 q10 v0)) q12 := by
    intro lr L q12; kernel_rfl
  intro n q12
  refine loopN_iter (X := Int) (frame := fun x => (f296_fr11 a0 a1 q10 x)) (body := (fun L x => (fun L11 => f296_b11 K a0 a1 q10 (fun v0 => F9 (f296_fr9 a0 a1 v0)) L11 x) (fun v0 => L v0))) (fun L x => ?_) n q12
  rw [exec_G]
  exact (key (realL (f296E K) 1) L x).trans (by rfl)
theorem f296_t9 (K : Nat) (a0 : Int × Int × Int) (a1 : List (tV × Int)) (bq10 : Int) : ∀ (n : Nat) (q10 : Int), loopN (exec (f296E K) 1 (selC f296C [1, 0, 1, 0, 0])) 1 (f296_fr9 a0 a1 bq10) n (f296_fr9 a0 a1 q10) (f296_k9 K a0 a1 (realL (f296E K) 1)) = f296_l9 K a0 a1 n q10 := by
  have key : ∀ (lr : LR Bool) (L : Fr → Option Bool) (q10 : Int), execG (f296E K) 1 lr (selC f296C [1, 0, 1, 0, 0]) (f296_fr9 a0 a1 q10) (loopK 1 (f296_fr9 a0 a1 bq10) L (f296_k9 K a0 a1 lr)) = f296_b9 K a0 a1 (fun c0 d0 => lr (selC f296C [1, 0, 1, 0, 0, 1, 0, 0, 1, 0, 0]) (f296_fr11 a0 a1 c0 d0) (f296_k11 K a0 a1 L bq10 lr)) (fun v0 => L (f296_fr9 a0 a1 v0)) q10 := by
    intro lr L q10; kernel_rfl
  intro n q10
  refine loopN_iter (X := Int) (frame := fun x => (f296_fr9 a0 a1 x)) (body := (fun L x => (fun L9 => f296_b9 K a0 a1 (fun c0 d0 => f296_l11 K a0 a1 c0 L9 K d0) L9 x) (fun v0 => L v0))) (fun L x => ?_) n q10
  rw [exec_G]
  have h11 : (fun c0 d0 => (realL (f296E K) 1) (selC f296C [1, 0, 1, 0, 0, 1, 0, 0, 1, 0, 0]) (f296_fr11 a0 a1 c0 d0) (f296_k11 K a0 a1 L bq10 (realL (f296E K) 1))) = fun c0 d0 => f296_l11 K a0 a1 c0 (fun v0 => L (f296_fr9 a0 a1 v0)) K d0 := by
    funext c0 d0
    exact f296_t11 K a0 a1 c0 L bq10 d0 K d0
  exact (key (realL (f296E K) 1) L x).trans (by rw [h11] <;> rfl)
theorem f296_run (K : Nat) (a0 : Int × Int × Int) (a1 : List (tV × Int)) : runF (f296E K) Tryz.f296 [(.ro, sL), (.ro, (.list 133 (.cons sV sI)))] [.bool] (a0, a1, ()) = f296G K a0 a1 := by
  have key : ∀ (lr : LR Bool), runG (f296E K) Tryz.f296 [(.ro, sL), (.ro, (.list 133 (.cons sV sI)))] [.bool] (a0, a1, ()) lr = f296_g K a0 a1 (fun d0 => lr (selC f296C [1, 0, 1, 0, 0]) (f296_fr9 a0 a1 d0) (f296_k9 K a0 a1 lr)) := by intro lr; kernel_rfl
  have h9 : (fun d0 => (realL (f296E K) 1) (selC f296C [1, 0, 1, 0, 0]) (f296_fr9 a0 a1 d0) (f296_k9 K a0 a1 (realL (f296E K) 1))) = fun d0 => f296_l9 K a0 a1 K d0 := by
    funext d0
    exact f296_t9 K a0 a1 d0 K d0
  exact runF_G (n0 := 1) (by rfl) ((key (realL (f296E K) 1)).trans (by rw [h9] <;> rfl))
theorem f203_t4 (K : Nat) (a0 : List (tV × Int)) (a1 : Int) (y1 : (List tL) × Int) (bq5 : Int) (bq6 : List tL) : ∀ (n : Nat) (q5 : Int) (q6 : List tL), loopN (exec (f203E K) 1 (selC f203C [1, 1, 1, 0, 1, 0, 0])) 1 (f203_fr4 a0 a1 y1 bq5 bq6) n (f203_fr4 a0 a1 y1 q5 q6) (f203_k4 K a0 a1 (realL (f203E K) 1)) = f203_l4 K a0 a1 y1 n q5 q6 := by
  have key : ∀ (lr : LR (List tL)) (L : Fr → Option (List tL)) (q5 : Int) (q6 : List tL), execG (f203E K) 1 lr (selC f203C [1, 1, 1, 0, 1, 0, 0]) (f203_fr4 a0 a1 y1 q5 q6) (loopK 1 (f203_fr4 a0 a1 y1 bq5 bq6) L (f203_k4 K a0 a1 lr)) = f203_b4 K a0 a1 y1 (fun v0 v1 => L (f203_fr4 a0 a1 y1 v0 v1)) q5 q6 := by
    intro lr L q5 q6; kernel_rfl
  intro n q5 q6
  refine loopN_iter (X := Int × List tL) (frame := fun x => (f203_fr4 a0 a1 y1 x.1 x.2)) (body := (fun L x => (fun L4 => f203_b4 K a0 a1 y1 L4 x.1 x.2) (fun v0 v1 => L (v0, v1)))) (fun L x => ?_) n (q5, q6)
  rw [exec_G]
  exact (key (realL (f203E K) 1) L x.1 x.2).trans (by rfl)
theorem f203_run (K : Nat) (a0 : List (tV × Int)) (a1 : Int) : runF (f203E K) Tryz.f203 [(.ro, (.list 133 (.cons sV sI))), (.ro, sI)] [(.list 31 sL)] (a0, a1, ()) = f203G K a0 a1 := by
  have key : ∀ (lr : LR (List tL)), runG (f203E K) Tryz.f203 [(.ro, (.list 133 (.cons sV sI))), (.ro, sI)] [(.list 31 sL)] (a0, a1, ()) lr = f203_g K a0 a1 (fun c0 d0 d1 => lr (selC f203C [1, 1, 1, 0, 1, 0, 0]) (f203_fr4 a0 a1 c0 d0 d1) (f203_k4 K a0 a1 lr)) := by intro lr; kernel_rfl
  have h4 : (fun c0 d0 d1 => (realL (f203E K) 1) (selC f203C [1, 1, 1, 0, 1, 0, 0]) (f203_fr4 a0 a1 c0 d0 d1) (f203_k4 K a0 a1 (realL (f203E K) 1))) = fun c0 d0 d1 => f203_l4 K a0 a1 c0 K d0 d1 := by
    funext c0 d0 d1
    exact f203_t4 K a0 a1 c0 d0 d1 K d0 d1
  exact runF_G (n0 := 1) (by rfl) ((key (realL (f203E K) 1)).trans (by rw [h4] <;> rfl))
theorem f80_run (K : Nat) (a0 : List (tV × Int)) (a1 : Int) : runF (f80E K) Tryz.f80 [(.ro, (.list 133 (.cons sV sI))), (.ro, sI)] [(.list 31 sL), sI] (a0, a1, ()) = f80G K a0 a1 := by kernel_rfl
theorem f81_run (K : Nat) (a0 : List Int) : runF (f81E K) Tryz.f81 [(.ro, (.list 5 (.int .u8)))] [(.list 133 (.cons sV sI))] (a0, ()) = f81G K a0 := by kernel_rfl
theorem f82_t4 (K : Nat) (a0 : List (tV × Int)) (y1 : Bool) (bq5 : Int) : ∀ (n : Nat) (q5 : Int), loopN (exec (f82E K) 1 (selC f82C [1, 1, 0, 1, 0, 0])) 1 (f82_fr4 a0 y1 bq5) n (f82_fr4 a0 y1 q5) (f82_k4 K a0 (realL (f82E K) 1)) = f82_l4 K a0 y1 n q5 := by
  have key : ∀ (lr : LR (tL × Int)) (L : Fr → Option (tL × Int)) (q5 : Int), execG (f82E K) 1 lr (selC f82C [1, 1, 0, 1, 0, 0]) (f82_fr4 a0 y1 q5) (loopK 1 (f82_fr4 a0 y1 bq5) L (f82_k4 K a0 lr)) = f82_b4 K a0 y1 (fun v0 => L (f82_fr4 a0 y1 v0)) q5 := by
    intro lr L q5; kernel_rfl
  intro n q5
  refine loopN_iter (X := Int) (frame := fun x => (f82_fr4 a0 y1 x)) (body := (fun L x => (fun L4 => f82_b4 K a0 y1 L4 x) (fun v0 => L v0))) (fun L x => ?_) n q5
  rw [exec_G]
  exact (key (realL (f82E K) 1) L x).trans (by rfl)
theorem f82_run (K : Nat) (a0 : List (tV × Int)) : runF (f82E K) Tryz.f82 [(.ro, (.list 133 (.cons sV sI)))] [sL, sI] (a0, ()) = f82G K a0 := by
  have key : ∀ (lr : LR (tL × Int)), runG (f82E K) Tryz.f82 [(.ro, (.list 133 (.cons sV sI)))] [sL, sI] (a0, ()) lr = f82_g K a0 (fun c0 d0 => lr (selC f82C [1, 1, 0, 1, 0, 0]) (f82_fr4 a0 c0 d0) (f82_k4 K a0 lr)) := by intro lr; kernel_rfl
  have h4 : (fun c0 d0 => (realL (f82E K) 1) (selC f82C [1, 1, 0, 1, 0, 0]) (f82_fr4 a0 c0 d0) (f82_k4 K a0 (realL (f82E K) 1))) = fun c0 d0 => f82_l4 K a0 c0 K d0 := by
    funext c0 d0
    exact f82_t4 K a0 c0 d0 K d0
  exact runF_G (n0 := 1) (by rfl) ((key (realL (f82E K) 1)).trans (by rw [h4] <;> rfl))
theorem f83_t4 (K : Nat) (a0 : List (tV × Int)) (y1 : Bool) (bq5 : Int) : ∀ (n : Nat) (q5 : Int), loopN (exec (f83E K) 1 (selC f83C [1, 1, 0, 1, 0, 0])) 1 (f83_fr4 a0 y1 bq5) n (f83_fr4 a0 y1 q5) (f83_k4 K a0 (realL (f83E K) 1)) = f83_l4 K a0 y1 n q5 := by
  have key : ∀ (lr : LR (tL × Int)) (L : Fr → Option (tL × Int)) (q5 : Int), execG (f83E K) 1 lr (selC f83C [1, 1, 0, 1, 0, 0]) (f83_fr4 a0 y1 q5) (loopK 1 (f83_fr4 a0 y1 bq5) L (f83_k4 K a0 lr)) = f83_b4 K a0 y1 (fun v0 => L (f83_fr4 a0 y1 v0)) q5 := by
    intro lr L q5; kernel_rfl
  intro n q5
  refine loopN_iter (X := Int) (frame := fun x => (f83_fr4 a0 y1 x)) (body := (fun L x => (fun L4 => f83_b4 K a0 y1 L4 x) (fun v0 => L v0))) (fun L x => ?_) n q5
  rw [exec_G]
  exact (key (realL (f83E K) 1) L x).trans (by rfl)
theorem f83_run (K : Nat) (a0 : List (tV × Int)) : runF (f83E K) Tryz.f83 [(.ro, (.list 133 (.cons sV sI)))] [sL, sI] (a0, ()) = f83G K a0 := by
  have key : ∀ (lr : LR (tL × Int)), runG (f83E K) Tryz.f83 [(.ro, (.list 133 (.cons sV sI)))] [sL, sI] (a0, ()) lr = f83_g K a0 (fun c0 d0 => lr (selC f83C [1, 1, 0, 1, 0, 0]) (f83_fr4 a0 c0 d0) (f83_k4 K a0 lr)) := by intro lr; kernel_rfl
  have h4 : (fun c0 d0 => (realL (f83E K) 1) (selC f83C [1, 1, 0, 1, 0, 0]) (f83_fr4 a0 c0 d0) (f83_k4 K a0 (realL (f83E K) 1))) = fun c0 d0 => f83_l4 K a0 c0 K d0 := by
    funext c0 d0
    exact f83_t4 K a0 c0 d0 K d0
  exact runF_G (n0 := 1) (by rfl) ((key (realL (f83E K) 1)).trans (by rw [h4] <;> rfl))
theorem f84_t2 (K : Nat) (a0 a1 : List ByteArray) (bq3 : Int) : ∀ (n : Nat) (q3 : Int), loopN (exec (f84E K) 2 (selC f84C [1, 1, 0, 1, 0, 0])) 2 (f84_fr2 a0 a1 bq3) n (f84_fr2 a0 a1 q3) (f84_k2 K a0 a1 (realL (f84E K) 2)) = f84_l2 K a0 a1 n q3 := by
  have key : ∀ (lr : LR Bool) (L : Fr → Option Bool) (q3 : Int), execG (f84E K) 2 lr (selC f84C [1, 1, 0, 1, 0, 0]) (f84_fr2 a0 a1 q3) (loopK 2 (f84_fr2 a0 a1 bq3) L (f84_k2 K a0 a1 lr)) = f84_b2 K a0 a1 (fun v0 => L (f84_fr2 a0 a1 v0)) q3 := by
    intro lr L q3; kernel_rfl
  intro n q3
  refine loopN_iter (X := Int) (frame := fun x => (f84_fr2 a0 a1 x)) (body := (fun L x => (fun L2 => f84_b2 K a0 a1 L2 x) (fun v0 => L v0))) (fun L x => ?_) n q3
  rw [exec_G]
  exact (key (realL (f84E K) 2) L x).trans (by rfl)
theorem f84_run (K : Nat) (a0 a1 : List ByteArray) : runF (f84E K) Tryz.f84 [(.ro, (.list 9 .str)), (.ro, (.list 9 .str))] [.bool] (a0, a1, ()) = f84G K a0 a1 := by
  have key : ∀ (lr : LR Bool), runG (f84E K) Tryz.f84 [(.ro, (.list 9 .str)), (.ro, (.list 9 .str))] [.bool] (a0, a1, ()) lr = f84_g K a0 a1 (fun d0 => lr (selC f84C [1, 1, 0, 1, 0, 0]) (f84_fr2 a0 a1 d0) (f84_k2 K a0 a1 lr)) := by intro lr; kernel_rfl
  have h2 : (fun d0 => (realL (f84E K) 2) (selC f84C [1, 1, 0, 1, 0, 0]) (f84_fr2 a0 a1 d0) (f84_k2 K a0 a1 (realL (f84E K) 2))) = fun d0 => f84_l2 K a0 a1 K d0 := by
    funext d0
    exact f84_t2 K a0 a1 d0 K d0
  exact runF_G (n0 := 2) (by rfl) ((key (realL (f84E K) 2)).trans (by rw [h2] <;> rfl))
theorem f85_t2 (K : Nat) (a0 a1 : List tL) (bq3 : Int) : ∀ (n : Nat) (q3 : Int), loopN (exec (f85E K) 2 (selC f85C [1, 1, 0, 1, 0, 0])) 2 (f85_fr2 a0 a1 bq3) n (f85_fr2 a0 a1 q3) (f85_k2 K a0 a1 (realL (f85E K) 2)) = f85_l2 K a0 a1 n q3 := by
  have key : ∀ (lr : LR Bool) (L : Fr → Option Bool) (q3 : Int), execG (f85E K) 2 lr (selC f85C [1, 1, 0, 1, 0, 0]) (f85_fr2 a0 a1 q3) (loopK 2 (f85_fr2 a0 a1 bq3) L (f85_k2 K a0 a1 lr)) = f85_b2 K a0 a1 (fun v0 => L (f85_fr2 a0 a1 v0)) q3 := by
    intro lr L q3; kernel_rfl
  intro n q3
  refine loopN_iter (X := Int) (frame := fun x => (f85_fr2 a0 a1 x)) (body := (fun L x => (fun L2 => f85_b2 K a0 a1 L2 x) (fun v0 => L v0))) (fun L x => ?_) n q3
  rw [exec_G]
  exact (key (realL (f85E K) 2) L x).trans (by rfl)
theorem f85_run (K : Nat) (a0 a1 : List tL) : runF (f85E K) Tryz.f85 [(.ro, (.list 31 sL)), (.ro, (.list 31 sL))] [.bool] (a0, a1, ()) = f85G K a0 a1 := by
  have key : ∀ (lr : LR Bool), runG (f85E K) Tryz.f85 [(.ro, (.list 31 sL)), (.ro, (.list 31 sL))] [.bool] (a0, a1, ()) lr = f85_g K a0 a1 (fun d0 => lr (selC f85C [1, 1, 0, 1, 0, 0]) (f85_fr2 a0 a1 d0) (f85_k2 K a0 a1 lr)) := by intro lr; kernel_rfl
  have h2 : (fun d0 => (realL (f85E K) 2) (selC f85C [1, 1, 0, 1, 0, 0]) (f85_fr2 a0 a1 d0) (f85_k2 K a0 a1 (realL (f85E K) 2))) = fun d0 => f85_l2 K a0 a1 K d0 := by
    funext d0
    exact f85_t2 K a0 a1 d0 K d0
  exact runF_G (n0 := 2) (by rfl) ((key (realL (f85E K) 2)).trans (by rw [h2] <;> rfl))
theorem f248_run (K : Nat) (a0 : Int) : runF (f248E K) Tryz.f248 [(.ro, sI)] [.bool] (a0, ()) = f248G K a0 := by kernel_rfl
theorem f249_run (K : Nat) (a0 : Int × Int × Int) : runF (f249E K) Tryz.f249 [(.ro, sL)] [.bool] (a0, ()) = f249G K a0 := by kernel_rfl
theorem f223_run (K : Nat) (a0 : Int) (a1 : Int × Int × Int) : runF (f223E K) Tryz.f223 [(.ro, sI), (.ro, sL)] [sI] (a0, a1, ()) = f223G K a0 a1 := by kernel_rfl
theorem f356_run (K : Nat) (a0 : Int × Int × Int) : runF (f356E K) Tryz.f356 [(.ro, sL)] [sV, sV] (a0, ()) = f356G K a0 := by kernel_rfl
theorem f401_run (K : Nat) (a0 : Int) (a1 : Int × Int) : runF (f401E K) Tryz.f401 [(.ro, sI), (.ro, sV)] [sI] (a0, a1, ()) = f401G K a0 a1 := by kernel_rfl
theorem f358_t8 (K : Nat) (a0 bq9 : Int) (bq10 : List tA) : ∀ (n : Nat) (q9 : Int) (q10 : List tA), loopN (exec (f358E K) 0 (selC f358C [1, 1, 0, 1, 0, 0])) 0 (f358_fr8 a0 bq9 bq10) n (f358_fr8 a0 q9 q10) (f358_k8 K a0 (realL (f358E K) 0)) = f358_l8 K a0 n q9 q10 := by
  have key : ∀ (lr : LR (List tA)) (L : Fr → Option (List tA)) (q9 : Int) (q10 : List tA), execG (f358E K) 0 lr (selC f358C [1, 1, 0, 1, 0, 0]) (f358_fr8 a0 q9 q10) (loopK 0 (f358_fr8 a0 bq9 bq10) L (f358_k8 K a0 lr)) = f358_b8 K a0 (fun v0 v1 => L (f358_fr8 a0 v0 v1)) q9 q10 := by
    intro lr L q9 q10; kernel_rfl
  intro n q9 q10
  refine loopN_iter (X := Int × List tA) (frame := fun x => (f358_fr8 a0 x.1 x.2)) (body := (fun L x => (fun L8 => f358_b8 K a0 L8 x.1 x.2) (fun v0 v1 => L (v0, v1)))) (fun L x => ?_) n (q9, q10)
  rw [exec_G]
  exact (key (realL (f358E K) 0) L x.1 x.2).trans (by rfl)
theorem f358_run (K : Nat) (a0 : Int) : runF (f358E K) Tryz.f358 [(.ro, sI)] [(.list 93 sA)] (a0, ()) = f358G K a0 := by
  have key : ∀ (lr : LR (List tA)), runG (f358E K) Tryz.f358 [(.ro, sI)] [(.list 93 sA)] (a0, ()) lr = f358_g K a0 (fun d0 d1 => lr (selC f358C [1, 1, 0, 1, 0, 0]) (f358_fr8 a0 d0 d1) (f358_k8 K a0 lr)) := by intro lr; kernel_rfl
  have h8 : (fun d0 d1 => (realL (f358E K) 0) (selC f358C [1, 1, 0, 1, 0, 0]) (f358_fr8 a0 d0 d1) (f358_k8 K a0 (realL (f358E K) 0))) = fun d0 d1 => f358_l8 K a0 K d0 d1 := by
    funext d0 d1
    exact f358_t8 K a0 d0 d1 K d0 d1
  exact runF_G (n0 := 0) (by rfl) ((key (realL (f358E K) 0)).trans (by rw [h8] <;> rfl))
theorem f360_run (K : Nat) (a0 : Int × Int × Int) (a1 : Int × Int) : runF (f360E K) Tryz.f360 [(.ro, sL), (.ro, sV)] [.bool] (a0, a1, ()) = f360G K a0 a1 := by kernel_rfl
theorem f359_run (K : Nat) (a0 : Int × Int × Int × Int) (a1 : Int × Int × Int) (a2 a3 : Int × Int) : runF (f359E K) Tryz.f359 [(.ro, sA), (.cap, sL), (.cap, sV), (.cap, sV)] [.bool] (a0, a1, a2, a3, ()) = f359G K a0 a1 a2 a3 := by kernel_rfl
theorem f400_t3 (K : Nat) (a0 : List tA) (a1 : (tA → Option Bool)) (bq4 : Int) : ∀ (n : Nat) (q4 : Int), loopN (exec (f400E K) 1 (selC f400C [1, 0, 1, 0, 0])) 1 (f400_fr3 a0 a1 bq4) n (f400_fr3 a0 a1 q4) (f400_k3 K a0 a1 (realL (f400E K) 1)) = f400_l3 K a0 a1 n q4 := by
  have key : ∀ (lr : LR Int) (L : Fr → Option Int) (q4 : Int), execG (f400E K) 1 lr (selC f400C [1, 0, 1, 0, 0]) (f400_fr3 a0 a1 q4) (loopK 1 (f400_fr3 a0 a1 bq4) L (f400_k3 K a0 a1 lr)) = f400_b3 K a0 a1 (fun v0 => L (f400_fr3 a0 a1 v0)) q4 := by
    intro lr L q4; kernel_rfl
  intro n q4
  refine loopN_iter (X := Int) (frame := fun x => (f400_fr3 a0 a1 x)) (body := (fun L x => (fun L3 => f400_b3 K a0 a1 L3 x) (fun v0 => L v0))) (fun L x => ?_) n q4
  rw [exec_G]
  exact (key (realL (f400E K) 1) L x).trans (by rfl)
theorem f400_run (K : Nat) (a0 : List tA) (a1 : (tA → Option Bool)) : runF (f400E K) Tryz.f400 [(.ro, (.list 93 sA)), (.ro, (.fn1 sA .bool))] [sI] (a0, a1, ()) = f400G K a0 a1 := by
  have key : ∀ (lr : LR Int), runG (f400E K) Tryz.f400 [(.ro, (.list 93 sA)), (.ro, (.fn1 sA .bool))] [sI] (a0, a1, ()) lr = f400_g K a0 a1 (fun d0 => lr (selC f400C [1, 0, 1, 0, 0]) (f400_fr3 a0 a1 d0) (f400_k3 K a0 a1 lr)) := by intro lr; kernel_rfl
  have h3 : (fun d0 => (realL (f400E K) 1) (selC f400C [1, 0, 1, 0, 0]) (f400_fr3 a0 a1 d0) (f400_k3 K a0 a1 (realL (f400E K) 1))) = fun d0 => f400_l3 K a0 a1 K d0 := by
    funext d0
    exact f400_t3 K a0 a1 d0 K d0
  exact runF_G (n0 := 1) (by rfl) ((key (realL (f400E K) 1)).trans (by rw [h3] <;> rfl))
theorem f357_t4 (K : Nat) (a0 : List tA) (a1 : (tA → Option Bool)) (y1 bq5 bq6 : Int) (bq7 : List tA) : ∀ (n : Nat) (q5 q6 : Int) (q7 : List tA), loopN (exec (f357E K) 1 (selC f357C [1, 1, 1, 0, 1, 0, 0])) 1 (f357_fr4 a1 y1 bq5 bq6 bq7) n (f357_fr4 a1 y1 q5 q6 q7) (f357_k4 K a0 a1 (realL (f357E K) 1)) = f357_l4 K a1 y1 n q5 q6 q7 := by
  have key : ∀ (lr : LR (List tA)) (L : Fr → Option (List tA)) (q5 q6 : Int) (q7 : List tA), execG (f357E K) 1 lr (selC f357C [1, 1, 1, 0, 1, 0, 0]) (f357_fr4 a1 y1 q5 q6 q7) (loopK 1 (f357_fr4 a1 y1 bq5 bq6 bq7) L (f357_k4 K a0 a1 lr)) = f357_b4 K a1 y1 (fun v0 v1 v2 => L (f357_fr4 a1 y1 v0 v1 v2)) q5 q6 q7 := by
    intro lr L q5 q6 q7; kernel_rfl
  intro n q5 q6 q7
  refine loopN_iter (X := Int × Int × List tA) (frame := fun x => (f357_fr4 a1 y1 x.1 x.2.1 x.2.2)) (body := (fun L x => (fun L4 => f357_b4 K a1 y1 L4 x.1 x.2.1 x.2.2) (fun v0 v1 v2 => L (v0, v1, v2)))) (fun L x => ?_) n (q5, q6, q7)
  rw [exec_G]
  exact (key (realL (f357E K) 1) L x.1 x.2.1 x.2.2).trans (by rfl)
theorem f357_run (K : Nat) (a0 : List tA) (a1 : (tA → Option Bool)) : runF (f357E K) Tryz.f357 [(.mv, (.list 93 sA)), (.ro, (.fn1 sA .bool))] [(.list 93 sA)] (a0, a1, ()) = f357G K a0 a1 := by
  have key : ∀ (lr : LR (List tA)), runG (f357E K) Tryz.f357 [(.mv, (.list 93 sA)), (.ro, (.fn1 sA .bool))] [(.list 93 sA)] (a0, a1, ()) lr = f357_g K a0 a1 (fun c0 d0 d1 d2 => lr (selC f357C [1, 1, 1, 0, 1, 0, 0]) (f357_fr4 a1 c0 d0 d1 d2) (f357_k4 K a0 a1 lr)) := by intro lr; kernel_rfl
  have h4 : (fun c0 d0 d1 d2 => (realL (f357E K) 1) (selC f357C [1, 1, 1, 0, 1, 0, 0]) (f357_fr4 a1 c0 d0 d1 d2) (f357_k4 K a0 a1 (realL (f357E K) 1))) = fun c0 d0 d1 d2 => f357_l4 K a1 c0 K d0 d1 d2 := by
    funext c0 d0 d1 d2
    exact f357_t4 K a0 a1 c0 d0 d1 d2 K d0 d1 d2
  exact runF_G (n0 := 1) (by rfl) ((key (realL (f357E K) 1)).trans (by rw [h4] <;> rfl))
theorem f311_run (K : Nat) (a0 : Int) (a1 : Int × Int × Int) : runF (f311E K) Tryz.f311 [(.ro, sI), (.ro, sL)] [(.list 93 sA)] (a0, a1, ()) = f311G K a0 a1 := by kernel_rfl
theorem f355_t2 (K : Nat) (a0 : List tA) (a1 : Int × Int × Int × Int) (bq3 : Int) : ∀ (n : Nat) (q3 : Int), loopN (exec (f355E K) 1 (selC f355C [1, 0, 1, 0, 0])) 1 (f355_fr2 a0 a1 bq3) n (f355_fr2 a0 a1 q3) (f355_k2 K a0 a1 (realL (f355E K) 1)) = f355_l2 K a0 a1 n q3 := by
  have key : ∀ (lr : LR Int) (L : Fr → Option Int) (q3 : Int), execG (f355E K) 1 lr (selC f355C [1, 0, 1, 0, 0]) (f355_fr2 a0 a1 q3) (loopK 1 (f355_fr2 a0 a1 bq3) L (f355_k2 K a0 a1 lr)) = f355_b2 K a0 a1 (fun v0 => L (f355_fr2 a0 a1 v0)) q3 := by
    intro lr L q3; kernel_rfl
  intro n q3
  refine loopN_iter (X := Int) (frame := fun x => (f355_fr2 a0 a1 x)) (body := (fun L x => (fun L2 => f355_b2 K a0 a1 L2 x) (fun v0 => L v0))) (fun L x => ?_) n q3
  rw [exec_G]
  exact (key (realL (f355E K) 1) L x).trans (by rfl)
theorem f355_run (K : Nat) (a0 : List tA) (a1 : Int × Int × Int × Int) : runF (f355E K) Tryz.f355 [(.ro, (.list 93 sA)), (.ro, sA)] [sI] (a0, a1, ()) = f355G K a0 a1 := by
  have key : ∀ (lr : LR Int), runG (f355E K) Tryz.f355 [(.ro, (.list 93 sA)), (.ro, sA)] [sI] (a0, a1, ()) lr = f355_g K a0 a1 (fun d0 => lr (selC f355C [1, 0, 1, 0, 0]) (f355_fr2 a0 a1 d0) (f355_k2 K a0 a1 lr)) := by intro lr; kernel_rfl
  have h2 : (fun d0 => (realL (f355E K) 1) (selC f355C [1, 0, 1, 0, 0]) (f355_fr2 a0 a1 d0) (f355_k2 K a0 a1 (realL (f355E K) 1))) = fun d0 => f355_l2 K a0 a1 K d0 := by
    funext d0
    exact f355_t2 K a0 a1 d0 K d0
  exact runF_G (n0 := 1) (by rfl) ((key (realL (f355E K) 1)).trans (by rw [h2] <;> rfl))
theorem f310_run (K : Nat) (a0 : List tA) (a1 : Int × Int × Int × Int) : runF (f310E K) Tryz.f310 [(.ro, (.list 93 sA)), (.ro, sA)] [.bool] (a0, a1, ()) = f310G K a0 a1 := by kernel_rfl
theorem f325_t23 (K : Nat) (a0 : Int) (a1 : Int × Int × Int) (a2 : List tM) (q7 : Int) (q8 : List (tM × Bool)) (y1 : List tA) (y12 : Int × Int × Int × Int) (q22 : Int) (F21 : Fr → Option Bool) (bq22 bq24 : Int) : ∀ (n : Nat) (q24 : Int), loopN (exec (f325E K) 1 (selC f325C [1, 1, 1, 1, 0, 1, 0, 0, 1, 1, 0, 0, 1, 1, 0, 0])) 1 (f325_fr23 a0 a1 a2 q7 q8 q22 y1 y12 bq24) n (f325_fr23 a0 a1 a2 q7 q8 q22 y1 y12 q24) (f325_k23 K a0 a1 a2 q7 q8 y1 y12 F21 bq22 (realL (f325E K) 1)) = f325_l23 K a0 a1 a2 q7 q8 q22 y1 y12 (fun v0 => F21 (f325_fr21 a0 a1 a2 q7 q8 y1 y12 v0)) n q24 := by
  have key : ∀ (lr : LR Bool) (L : Fr → Option Bool) (q24 : Int), execG (f325E K) 1 lr (selC f325C [1, 1, 1, 1, 0, 1, 0, 0, 1, 1, 0, 0, 1, 1, 0, 0]) (f325_fr23 a0 a1 a2 q7 q8 q22 y1 y12 q24) (loopK 1 (f325_fr23 a0 a1 a2 q7 q8 q22 y1 y12 bq24) L (f325_k23 K a0 a1 a2 q7 q8 y1 y12 F21 bq22 lr)) = f325_b23 K a0 a1 a2 q7 q8 q22 y1 y12 (fun v0 => F21 (f325_fr21 a0 a1 a2 q7 q8 y1 y12 v0)) (fun v0 => L (f325_fr23 a0 a1 a2 q7 q8 q22 y1 y12 v0)) q24 := by
    intro lr L q24; kernel_rfl
  intro n q24
  refine loopN_iter (X := Int) (frame := fun x => (f325_fr23 a0 a1 a2 q7 q8 q22 y1 y12 x)) (body := (fun L x => (fun L23 => f325_b23 K a0 a1 a2 q7 q8 q22 y1 y12 (fun v0 => F21 (f325_fr21 a0 a1 a2 q7 q8 y1 y12 v0)) L23 x) (fun v0 => L v0))) (fun L x => ?_) n q24
  rw [exec_G]
  exact (key (realL (f325E K) 1) L x).trans (by rfl)
theorem f325_t21 (K : Nat) (a0 : Int) (a1 : Int × Int × Int) (a2 : List tM) (q7 : Int) (q8 : List (tM × Bool)) (y1 : List tA) (y12 : Int × Int × Int × Int) (bq22 : Int) : ∀ (n : Nat) (q22 : Int), loopN (exec (f325E K) 1 (selC f325C [1, 1, 1, 1, 0, 1, 0, 0])) 1 (f325_fr21 a0 a1 a2 q7 q8 y1 y12 bq22) n (f325_fr21 a0 a1 a2 q7 q8 y1 y12 q22) (f325_k21 K a0 a1 a2 (realL (f325E K) 1)) = f325_l21 K a0 a1 a2 q7 q8 y1 y12 n q22 := by
  have key : ∀ (lr : LR Bool) (L : Fr → Option Bool) (q22 : Int), execG (f325E K) 1 lr (selC f325C [1, 1, 1, 1, 0, 1, 0, 0]) (f325_fr21 a0 a1 a2 q7 q8 y1 y12 q22) (loopK 1 (f325_fr21 a0 a1 a2 q7 q8 y1 y12 bq22) L (f325_k21 K a0 a1 a2 lr)) = f325_b21 K a0 a1 a2 q7 q8 y1 y12 (fun c0 d0 => lr (selC f325C [1, 1, 1, 1, 0, 1, 0, 0, 1, 1, 0, 0, 1, 1, 0, 0]) (f325_fr23 a0 a1 a2 q7 q8 c0 y1 y12 d0) (f325_k23 K a0 a1 a2 q7 q8 y1 y12 L bq22 lr)) (fun v0 => L (f325_fr21 a0 a1 a2 q7 q8 y1 y12 v0)) q22 := by
    intro lr L q22; kernel_rfl
  intro n q22
  refine loopN_iter (X := Int) (frame := fun x => (f325_fr21 a0 a1 a2 q7 q8 y1 y12 x)) (body := (fun L x => (fun L21 => f325_b21 K a0 a1 a2 q7 q8 y1 y12 (fun c0 d0 => f325_l23 K a0 a1 a2 q7 q8 c0 y1 y12 L21 K d0) L21 x) (fun v0 => L v0))) (fun L x => ?_) n q22
  rw [exec_G]
  have h23 : (fun c0 d0 => (realL (f325E K) 1) (selC f325C [1, 1, 1, 1, 0, 1, 0, 0, 1, 1, 0, 0, 1, 1, 0, 0]) (f325_fr23 a0 a1 a2 q7 q8 c0 y1 y12 d0) (f325_k23 K a0 a1 a2 q7 q8 y1 y12 L bq22 (realL (f325E K) 1))) = fun c0 d0 => f325_l23 K a0 a1 a2 q7 q8 c0 y1 y12 (fun v0 => L (f325_fr21 a0 a1 a2 q7 q8 y1 y12 v0)) K d0 := by
    funext c0 d0
    exact f325_t23 K a0 a1 a2 q7 q8 y1 y12 c0 L bq22 d0 K d0
  exact (key (realL (f325E K) 1) L x).trans (by rw [h23] <;> rfl)
theorem f325_t6 (K : Nat) (a0 : Int) (a1 : Int × Int × Int) (a2 : List tM) (y1 : List tA) (bq7 : Int) (bq8 : List (tM × Bool)) : ∀ (n : Nat) (q7 : Int) (q8 : List (tM × Bool)), loopN (exec (f325E K) 1 (selC f325C [1, 1, 0, 1, 0, 0])) 1 (f325_fr6 a0 a1 a2 y1 bq7 bq8) n (f325_fr6 a0 a1 a2 y1 q7 q8) (f325_k6 K a0 a1 a2 (realL (f325E K) 1)) = f325_l6 K a0 a1 a2 y1 n q7 q8 := by
  have key : ∀ (lr : LR Bool) (L : Fr → Option Bool) (q7 : Int) (q8 : List (tM × Bool)), execG (f325E K) 1 lr (selC f325C [1, 1, 0, 1, 0, 0]) (f325_fr6 a0 a1 a2 y1 q7 q8) (loopK 1 (f325_fr6 a0 a1 a2 y1 bq7 bq8) L (f325_k6 K a0 a1 a2 lr)) = f325_b6 K a0 a1 a2 y1 (fun c0 c1 c2 c3 d0 => lr (selC f325C [1, 1, 1, 1, 0, 1, 0, 0]) (f325_fr21 a0 a1 a2 c0 c1 c2 c3 d0) (f325_k21 K a0 a1 a2 lr)) (fun v0 v1 => L (f325_fr6 a0 a1 a2 y1 v0 v1)) q7 q8 := by
    intro lr L q7 q8; kernel_rfl
  intro n q7 q8
  refine loopN_iter (X := Int × List (tM × Bool)) (frame := fun x => (f325_fr6 a0 a1 a2 y1 x.1 x.2)) (body := (fun L x => (fun L6 => f325_b6 K a0 a1 a2 y1 (fun c0 c1 c2 c3 d0 => f325_l21 K a0 a1 a2 c0 c1 c2 c3 K d0) L6 x.1 x.2) (fun v0 v1 => L (v0, v1)))) (fun L x => ?_) n (q7, q8)
  rw [exec_G]
  have h21 : (fun c0 c1 c2 c3 d0 => (realL (f325E K) 1) (selC f325C [1, 1, 1, 1, 0, 1, 0, 0]) (f325_fr21 a0 a1 a2 c0 c1 c2 c3 d0) (f325_k21 K a0 a1 a2 (realL (f325E K) 1))) = fun c0 c1 c2 c3 d0 => f325_l21 K a0 a1 a2 c0 c1 c2 c3 K d0 := by
    funext c0 c1 c2 c3 d0
    exact f325_t21 K a0 a1 a2 c0 c1 c2 c3 d0 K d0
  exact (key (realL (f325E K) 1) L x.1 x.2).trans (by rw [h21] <;> rfl)
theorem f325_run (K : Nat) (a0 : Int) (a1 : Int × Int × Int) (a2 : List tM) : runF (f325E K) Tryz.f325 [(.ro, sI), (.ro, sL), (.ro, (.list 95 sM))] [.bool] (a0, a1, a2, ()) = f325G K a0 a1 a2 := by
  have key : ∀ (lr : LR Bool), runG (f325E K) Tryz.f325 [(.ro, sI), (.ro, sL), (.ro, (.list 95 sM))] [.bool] (a0, a1, a2, ()) lr = f325_g K a0 a1 a2 (fun c0 d0 d1 => lr (selC f325C [1, 1, 0, 1, 0, 0]) (f325_fr6 a0 a1 a2 c0 d0 d1) (f325_k6 K a0 a1 a2 lr)) := by intro lr; kernel_rfl
  have h6 : (fun c0 d0 d1 => (realL (f325E K) 1) (selC f325C [1, 1, 0, 1, 0, 0]) (f325_fr6 a0 a1 a2 c0 d0 d1) (f325_k6 K a0 a1 a2 (realL (f325E K) 1))) = fun c0 d0 d1 => f325_l6 K a0 a1 a2 c0 K d0 d1 := by
    funext c0 d0 d1
    exact f325_t6 K a0 a1 a2 c0 d0 d1 K d0 d1
  exact runF_G (n0 := 1) (by rfl) ((key (realL (f325E K) 1)).trans (by rw [h6] <;> rfl))
theorem f257_t4 (K : Nat) (a0 : Int) (a1 : Int × Int × Int) (a2 : List (List tM)) (y1 bq5 : Int) : ∀ (n : Nat) (q5 : Int), loopN (exec (f257E K) 1 (selC f257C [1, 1, 0, 1, 0, 0])) 1 (f257_fr4 a0 a1 a2 y1 bq5) n (f257_fr4 a0 a1 a2 y1 q5) (f257_k4 K a0 a1 a2 (realL (f257E K) 1)) = f257_l4 K a0 a1 a2 y1 n q5 := by
  have key : ∀ (lr : LR Int) (L : Fr → Option Int) (q5 : Int), execG (f257E K) 1 lr (selC f257C [1, 1, 0, 1, 0, 0]) (f257_fr4 a0 a1 a2 y1 q5) (loopK 1 (f257_fr4 a0 a1 a2 y1 bq5) L (f257_k4 K a0 a1 a2 lr)) = f257_b4 K a0 a1 a2 y1 (fun v0 => L (f257_fr4 a0 a1 a2 y1 v0)) q5 := by
    intro lr L q5; kernel_rfl
  intro n q5
  refine loopN_iter (X := Int) (frame := fun x => (f257_fr4 a0 a1 a2 y1 x)) (body := (fun L x => (fun L4 => f257_b4 K a0 a1 a2 y1 L4 x) (fun v0 => L v0))) (fun L x => ?_) n q5
  rw [exec_G]
  exact (key (realL (f257E K) 1) L x).trans (by rfl)
theorem f257_run (K : Nat) (a0 : Int) (a1 : Int × Int × Int) (a2 : List (List tM)) : runF (f257E K) Tryz.f257 [(.ro, sI), (.ro, sL), (.ro, (.list 68 (.list 95 sM)))] [sI] (a0, a1, a2, ()) = f257G K a0 a1 a2 := by
  have key : ∀ (lr : LR Int), runG (f257E K) Tryz.f257 [(.ro, sI), (.ro, sL), (.ro, (.list 68 (.list 95 sM)))] [sI] (a0, a1, a2, ()) lr = f257_g K a0 a1 a2 (fun c0 d0 => lr (selC f257C [1, 1, 0, 1, 0, 0]) (f257_fr4 a0 a1 a2 c0 d0) (f257_k4 K a0 a1 a2 lr)) := by intro lr; kernel_rfl
  have h4 : (fun c0 d0 => (realL (f257E K) 1) (selC f257C [1, 1, 0, 1, 0, 0]) (f257_fr4 a0 a1 a2 c0 d0) (f257_k4 K a0 a1 a2 (realL (f257E K) 1))) = fun c0 d0 => f257_l4 K a0 a1 a2 c0 K d0 := by
    funext c0 d0
    exact f257_t4 K a0 a1 a2 c0 d0 K d0
  exact runF_G (n0 := 1) (by rfl) ((key (realL (f257E K) 1)).trans (by rw [h4] <;> rfl))
theorem f155_run (K : Nat) (a0 : Int) (a1 : Int × Int × Int) (a2 : List tM) (a3 : List (tV × Int)) : runF (f155E K) Tryz.f155 [(.ro, sI), (.ro, sL), (.ro, (.list 95 sM)), (.ro, (.list 133 (.cons sV sI)))] [sI] (a0, a1, a2, a3, ()) = f155G K a0 a1 a2 a3 := by kernel_rfl
theorem f177_t4 (K : Nat) (a0 : Int) (a1 : Int × Int × Int) (a2 : List tV) (a3 bq5 : Int) (bq6 : List Int) : ∀ (n : Nat) (q5 : Int) (q6 : List Int), loopN (exec (f177E K) 1 (selC f177C [1, 1, 0, 1, 0, 0])) 1 (f177_fr4 a0 a1 a2 a3 bq5 bq6) n (f177_fr4 a0 a1 a2 a3 q5 q6) (f177_k4 K a0 a1 a2 a3 (realL (f177E K) 1)) = f177_l4 K a0 a1 a2 a3 n q5 q6 := by
  have key : ∀ (lr : LR (Int × tL × List Int)) (L : Fr → Option (Int × tL × List Int)) (q5 : Int) (q6 : List Int), execG (f177E K) 1 lr (selC f177C [1, 1, 0, 1, 0, 0]) (f177_fr4 a0 a1 a2 a3 q5 q6) (loopK 1 (f177_fr4 a0 a1 a2 a3 bq5 bq6) L (f177_k4 K a0 a1 a2 a3 lr)) = f177_b4 K a0 a1 a2 a3 (fun v0 v1 => L (f177_fr4 a0 a1 a2 a3 v0 v1)) q5 q6 := by
    intro lr L q5 q6; kernel_rfl
  intro n q5 q6
  refine loopN_iter (X := Int × List Int) (frame := fun x => (f177_fr4 a0 a1 a2 a3 x.1 x.2)) (body := (fun L x => (fun L4 => f177_b4 K a0 a1 a2 a3 L4 x.1 x.2) (fun v0 v1 => L (v0, v1)))) (fun L x => ?_) n (q5, q6)
  rw [exec_G]
  exact (key (realL (f177E K) 1) L x.1 x.2).trans (by rfl)
theorem f177_run (K : Nat) (a0 : Int) (a1 : Int × Int × Int) (a2 : List tV) (a3 : Int) : runF (f177E K) Tryz.f177 [(.ro, sI), (.ro, sL), (.ro, (.list 79 sV)), (.ro, sI)] [(.cons sI (.cons sL (.list 2 sI)))] (a0, a1, a2, a3, ()) = f177G K a0 a1 a2 a3 := by
  have key : ∀ (lr : LR (Int × tL × List Int)), runG (f177E K) Tryz.f177 [(.ro, sI), (.ro, sL), (.ro, (.list 79 sV)), (.ro, sI)] [(.cons sI (.cons sL (.list 2 sI)))] (a0, a1, a2, a3, ()) lr = f177_g K a0 a1 a2 a3 (fun d0 d1 => lr (selC f177C [1, 1, 0, 1, 0, 0]) (f177_fr4 a0 a1 a2 a3 d0 d1) (f177_k4 K a0 a1 a2 a3 lr)) := by intro lr; kernel_rfl
  have h4 : (fun d0 d1 => (realL (f177E K) 1) (selC f177C [1, 1, 0, 1, 0, 0]) (f177_fr4 a0 a1 a2 a3 d0 d1) (f177_k4 K a0 a1 a2 a3 (realL (f177E K) 1))) = fun d0 d1 => f177_l4 K a0 a1 a2 a3 K d0 d1 := by
    funext d0 d1
    exact f177_t4 K a0 a1 a2 a3 d0 d1 K d0 d1
  exact runF_G (n0 := 1) (by rfl) ((key (realL (f177E K) 1)).trans (by rw [h4] <;> rfl))
theorem f87_t20 (K : Nat) (a0 : Int) (a1 : Int × Int × Int) (a2 : List tM) (a3 : List (tV × Int)) (a4 y1 : Int) (y2 : Bool) (y3 : Int × Int × Bool) (y5 : Int × tL × List Int) (q16 : Int) (y19 : List tV) (F15 : Fr → Option ((Int × tL × List Int) × Int)) (bq16 : Int) (bq17 : List Int) (bq21 : Int) (bq22 : List Int) : ∀ (n : Nat) (q21 : Int) (q22 : List Int), loopN (exec (f87E K) 2 (selC f87C [1, 1, 1, 1, 1, 0, 1, 0, 0, 1, 1, 0, 0, 1, 1, 0, 0])) 2 (f87_fr20 a0 a1 a2 a3 a4 q16 y1 y2 y3 y5 y19 bq21 bq22) n (f87_fr20 a0 a1 a2 a3 a4 q16 y1 y2 y3 y5 y19 q21 q22) (f87_k20 K a0 a1 a2 a3 a4 y1 y2 y3 y5 F15 bq16 bq17 (realL (f87E K) 2)) = f87_l20 K a0 a1 a2 a3 a4 q16 y1 y2 y3 y5 y19 (fun v0 v1 => F15 (f87_fr15 a0 a1 a2 a3 a4 y1 y2 y3 y5 v0 v1)) n q21 q22 := by
  have key : ∀ (lr : LR ((Int × tL × List Int) × Int)) (L : Fr → Option ((Int × tL × List Int) × Int)) (q21 : Int) (q22 : List Int), execG (f87E K) 2 lr (selC f87C [1, 1, 1, 1, 1, 0, 1, 0, 0, 1, 1, 0, 0, 1, 1, 0, 0]) (f87_fr20 a0 a1 a2 a3 a4 q16 y1 y2 y3 y5 y19 q21 q22) (loopK 2 (f87_fr20 a0 a1 a2 a3 a4 q16 y1 y2 y3 y5 y19 bq21 bq22) L (f87_k20 K a0 a1 a2 a3 a4 y1 y2 y3 y5 F15 bq16 bq17 lr)) = f87_b20 K a0 a1 a2 a3 a4 q16 y1 y2 y3 y5 y19 (fun v0 v1 => F15 (f87_fr15 a0 a1 a2 a3 a4 y1 y2 y3 y5 v0 v1)) (fun v0 v1 => L (f87_fr20 a0 a1 a2 a3 a4 q16 y1 y2 y3 y5 y19 v0 v1)) q21 q22 := by
    intro lr L q21 q22; kernel_rfl
  intro n q21 q22
  refine loopN_iter (X := Int × List Int) (frame := fun x => (f87_fr20 a0 a1 a2 a3 a4 q16 y1 y2 y3 y5 y19 x.1 x.2)) (body := (fun L x => (fun L20 => f87_b20 K a0 a1 a2 a3 a4 q16 y1 y2 y3 y5 y19 (fun v0 v1 => F15 (f87_fr15 a0 a1 a2 a3 a4 y1 y2 y3 y5 v0 v1)) L20 x.1 x.2) (fun v0 v1 => L (v0, v1)))) (fun L x => ?_) n (q21, q22)
  rw [exec_G]
  exact (key (realL (f87E K) 2) L x.1 x.2).trans (by rfl)
theorem f87_t15 (K : Nat) (a0 : Int) (a1 : Int × Int × Int) (a2 : List tM) (a3 : List (tV × Int)) (a4 y1 : Int) (y2 : Bool) (y3 : Int × Int × Bool) (y5 : Int × tL × List Int) (bq16 : Int) (bq17 : List Int) : ∀ (n : Nat) (q16 : Int) (q17 : List Int), loopN (exec (f87E K) 2 (selC f87C [1, 1, 1, 1, 1, 0, 1, 0, 0])) 2 (f87_fr15 a0 a1 a2 a3 a4 y1 y2 y3 y5 bq16 bq17) n (f87_fr15 a0 a1 a2 a3 a4 y1 y2 y3 y5 q16 q17) (f87_k15 K a0 a1 a2 a3 a4 (realL (f87E K) 2)) = f87_l15 K a0 a1 a2 a3 a4 y1 y2 y3 y5 n q16 q17 := by
  have key : ∀ (lr : LR ((Int × tL × List Int) × Int)) (L : Fr → Option ((Int × tL × List Int) × Int)) (q16 : Int) (q17 : List Int), execG (f87E K) 2 lr (selC f87C [1, 1, 1, 1, 1, 0, 1, 0, 0]) (f87_fr15 a0 a1 a2 a3 a4 y1 y2 y3 y5 q16 q17) (loopK 2 (f87_fr15 a0 a1 a2 a3 a4 y1 y2 y3 y5 bq16 bq17) L (f87_k15 K a0 a1 a2 a3 a4 lr)) = f87_b15 K a0 a1 a2 a3 a4 y1 y2 y3 y5 (fun c0 c1 d0 d1 => lr (selC f87C [1, 1, 1, 1, 1, 0, 1, 0, 0, 1, 1, 0, 0, 1, 1, 0, 0]) (f87_fr20 a0 a1 a2 a3 a4 c0 y1 y2 y3 y5 c1 d0 d1) (f87_k20 K a0 a1 a2 a3 a4 y1 y2 y3 y5 L bq16 bq17 lr)) (fun v0 v1 => L (f87_fr15 a0 a1 a2 a3 a4 y1 y2 y3 y5 v0 v1)) q16 q17 := by
    intro lr L q16 q17; kernel_rfl
  intro n q16 q17
  refine loopN_iter (X := Int × List Int) (frame := fun x => (f87_fr15 a0 a1 a2 a3 a4 y1 y2 y3 y5 x.1 x.2)) (body := (fun L x => (fun L15 => f87_b15 K a0 a1 a2 a3 a4 y1 y2 y3 y5 (fun c0 c1 d0 d1 => f87_l20 K a0 a1 a2 a3 a4 c0 y1 y2 y3 y5 c1 L15 K d0 d1) L15 x.1 x.2) (fun v0 v1 => L (v0, v1)))) (fun L x => ?_) n (q16, q17)
  rw [exec_G]
  have h20 : (fun c0 c1 d0 d1 => (realL (f87E K) 2) (selC f87C [1, 1, 1, 1, 1, 0, 1, 0, 0, 1, 1, 0, 0, 1, 1, 0, 0]) (f87_fr20 a0 a1 a2 a3 a4 c0 y1 y2 y3 y5 c1 d0 d1) (f87_k20 K a0 a1 a2 a3 a4 y1 y2 y3 y5 L bq16 bq17 (realL (f87E K) 2))) = fun c0 c1 d0 d1 => f87_l20 K a0 a1 a2 a3 a4 c0 y1 y2 y3 y5 c1 (fun v0 v1 => L (f87_fr15 a0 a1 a2 a3 a4 y1 y2 y3 y5 v0 v1)) K d0 d1 := by
    funext c0 c1 d0 d1
    exact f87_t20 K a0 a1 a2 a3 a4 y1 y2 y3 y5 c0 c1 L bq16 bq17 d0 d1 K d0 d1
  exact (key (realL (f87E K) 2) L x.1 x.2).trans (by rw [h20] <;> rfl)
theorem f87_run (K : Nat) (a0 : Int) (a1 : Int × Int × Int) (a2 : List tM) (a3 : List (tV × Int)) (a4 : Int) : runF (f87E K) Tryz.f87 [(.ro, sI), (.ro, sL), (.ro, (.list 95 sM)), (.ro, (.list 133 (.cons sV sI))), (.ro, sI)] [(.cons sI (.cons sL (.list 2 sI))), sI] (a0, a1, a2, a3, a4, ()) = f87G K a0 a1 a2 a3 a4 := by
  have key : ∀ (lr : LR ((Int × tL × List Int) × Int)), runG (f87E K) Tryz.f87 [(.ro, sI), (.ro, sL), (.ro, (.list 95 sM)), (.ro, (.list 133 (.cons sV sI))), (.ro, sI)] [(.cons sI (.cons sL (.list 2 sI))), sI] (a0, a1, a2, a3, a4, ()) lr = f87_g K a0 a1 a2 a3 a4 (fun c0 c1 c2 c3 d0 d1 => lr (selC f87C [1, 1, 1, 1, 1, 0, 1, 0, 0]) (f87_fr15 a0 a1 a2 a3 a4 c0 c1 c2 c3 d0 d1) (f87_k15 K a0 a1 a2 a3 a4 lr)) := by intro lr; kernel_rfl
  have h15 : (fun c0 c1 c2 c3 d0 d1 => (realL (f87E K) 2) (selC f87C [1, 1, 1, 1, 1, 0, 1, 0, 0]) (f87_fr15 a0 a1 a2 a3 a4 c0 c1 c2 c3 d0 d1) (f87_k15 K a0 a1 a2 a3 a4 (realL (f87E K) 2))) = fun c0 c1 c2 c3 d0 d1 => f87_l15 K a0 a1 a2 a3 a4 c0 c1 c2 c3 K d0 d1 := by
    funext c0 c1 c2 c3 d0 d1
    exact f87_t15 K a0 a1 a2 a3 a4 c0 c1 c2 c3 d0 d1 K d0 d1
  exact runF_G (n0 := 2) (by rfl) ((key (realL (f87E K) 2)).trans (by rw [h15] <;> rfl))
theorem f12_t21 (K : Nat) (a0 : List Int) (q16 : Int) (y1 : Bool) (y2 : Int × List (tV × Int)) (y3 y4 : (List ByteArray) × Int) (y5 : (List (tV × Int)) × Int) (y6 y7 : (List tL) × Int) (y8 : List (tV × Int)) (y9 y10 : tL × Int) (y11 y12 : Bool) (bq22 : Int) : ∀ (n : Nat) (q22 : Int), loopN (exec (f12E K) 1 (selC f12C [1, 1, 1, 1, 1, 1, 1, 1, 1, 1, 1, 1, 1, 1, 0, 1, 0, 0])) 1 (f12_fr21 a0 q16 y1 y2 y3 y4 y5 y6 y7 y8 y9 y10 y11 y12 bq22) n (f12_fr21 a0 q16 y1 y2 y3 y4 y5 y6 y7 y8 y9 y10 y11 y12 q22) (f12_k21 K a0 (realL (f12E K) 1)) = f12_l21 K a0 q16 y1 y2 y3 y4 y5 y6 y7 y8 y9 y10 y11 y12 n q22 := by
  have key : ∀ (lr : LR Bool) (L : Fr → Option Bool) (q22 : Int), execG (f12E K) 1 lr (selC f12C [1, 1, 1, 1, 1, 1, 1, 1, 1, 1, 1, 1, 1, 1, 0, 1, 0, 0]) (f12_fr21 a0 q16 y1 y2 y3 y4 y5 y6 y7 y8 y9 y10 y11 y12 q22) (loopK 1 (f12_fr21 a0 q16 y1 y2 y3 y4 y5 y6 y7 y8 y9 y10 y11 y12 bq22) L (f12_k21 K a0 lr)) = f12_b21 K a0 q16 y1 y2 y3 y4 y5 y6 y7 y8 y9 y10 y11 y12 (fun v0 => L (f12_fr21 a0 q16 y1 y2 y3 y4 y5 y6 y7 y8 y9 y10 y11 y12 v0)) q22 := by
    intro lr L q22; kernel_rfl
  intro n q22
  refine loopN_iter (X := Int) (frame := fun x => (f12_fr21 a0 q16 y1 y2 y3 y4 y5 y6 y7 y8 y9 y10 y11 y12 x)) (body := (fun L x => (fun L21 => f12_b21 K a0 q16 y1 y2 y3 y4 y5 y6 y7 y8 y9 y10 y11 y12 L21 x) (fun v0 => L v0))) (fun L x => ?_) n q22
  rw [exec_G]
  exact (key (realL (f12E K) 1) L x).trans (by rfl)
theorem f12_t15 (K : Nat) (a0 : List Int) (y1 : Bool) (y2 : Int × List (tV × Int)) (y3 y4 : (List ByteArray) × Int) (y5 : (List (tV × Int)) × Int) (y6 y7 : (List tL) × Int) (y8 : List (tV × Int)) (y9 y10 : tL × Int) (y11 y12 : Bool) (bq16 : Int) : ∀ (n : Nat) (q16 : Int), loopN (exec (f12E K) 1 (selC f12C [1, 1, 1, 1, 1, 1, 1, 1, 1, 1, 1, 1, 0, 1, 0, 0])) 1 (f12_fr15 a0 y1 y2 y3 y4 y5 y6 y7 y8 y9 y10 y11 y12 bq16) n (f12_fr15 a0 y1 y2 y3 y4 y5 y6 y7 y8 y9 y10 y11 y12 q16) (f12_k15 K a0 (realL (f12E K) 1)) = f12_l15 K a0 y1 y2 y3 y4 y5 y6 y7 y8 y9 y10 y11 y12 n q16 := by
  have key : ∀ (lr : LR Bool) (L : Fr → Option Bool) (q16 : Int), execG (f12E K) 1 lr (selC f12C [1, 1, 1, 1, 1, 1, 1, 1, 1, 1, 1, 1, 0, 1, 0, 0]) (f12_fr15 a0 y1 y2 y3 y4 y5 y6 y7 y8 y9 y10 y11 y12 q16) (loopK 1 (f12_fr15 a0 y1 y2 y3 y4 y5 y6 y7 y8 y9 y10 y11 y12 bq16) L (f12_k15 K a0 lr)) = f12_b15 K a0 y1 y2 y3 y4 y5 y6 y7 y8 y9 y10 y11 y12 (fun c0 c1 c2 c3 c4 c5 c6 c7 c8 c9 c10 c11 c12 d0 => lr (selC f12C [1, 1, 1, 1, 1, 1, 1, 1, 1, 1, 1, 1, 1, 1, 0, 1, 0, 0]) (f12_fr21 a0 c0 c1 c2 c3 c4 c5 c6 c7 c8 c9 c10 c11 c12 d0) (f12_k21 K a0 lr)) (fun v0 => L (f12_fr15 a0 y1 y2 y3 y4 y5 y6 y7 y8 y9 y10 y11 y12 v0)) q16 := by
    intro lr L q16; kernel_rfl
  intro n q16
  refine loopN_iter (X := Int) (frame := fun x => (f12_fr15 a0 y1 y2 y3 y4 y5 y6 y7 y8 y9 y10 y11 y12 x)) (body := (fun L x => (fun L15 => f12_b15 K a0 y1 y2 y3 y4 y5 y6 y7 y8 y9 y10 y11 y12 (fun c0 c1 c2 c3 c4 c5 c6 c7 c8 c9 c10 c11 c12 d0 => f12_l21 K a0 c0 c1 c2 c3 c4 c5 c6 c7 c8 c9 c10 c11 c12 K d0) L15 x) (fun v0 => L v0))) (fun L x => ?_) n q16
  rw [exec_G]
  have h21 : (fun c0 c1 c2 c3 c4 c5 c6 c7 c8 c9 c10 c11 c12 d0 => (realL (f12E K) 1) (selC f12C [1, 1, 1, 1, 1, 1, 1, 1, 1, 1, 1, 1, 1, 1, 0, 1, 0, 0]) (f12_fr21 a0 c0 c1 c2 c3 c4 c5 c6 c7 c8 c9 c10 c11 c12 d0) (f12_k21 K a0 (realL (f12E K) 1))) = fun c0 c1 c2 c3 c4 c5 c6 c7 c8 c9 c10 c11 c12 d0 => f12_l21 K a0 c0 c1 c2 c3 c4 c5 c6 c7 c8 c9 c10 c11 c12 K d0 := by
    funext c0 c1 c2 c3 c4 c5 c6 c7 c8 c9 c10 c11 c12 d0
    exact f12_t21 K a0 c0 c1 c2 c3 c4 c5 c6 c7 c8 c9 c10 c11 c12 d0 K d0
  exact (key (realL (f12E K) 1) L x).trans (by rw [h21] <;> rfl)
theorem f12_run (K : Nat) (a0 : List Int) : runF (f12E K) Tryz.f12 [(.ro, (.list 5 (.int .u8)))] [.bool] (a0, ()) = f12G K a0 := by
  have key : ∀ (lr : LR Bool), runG (f12E K) Tryz.f12 [(.ro, (.list 5 (.int .u8)))] [.bool] (a0, ()) lr = f12_g K a0 (fun c0 c1 c2 c3 c4 c5 c6 c7 c8 c9 c10 c11 d0 => lr (selC f12C [1, 1, 1, 1, 1, 1, 1, 1, 1, 1, 1, 1, 0, 1, 0, 0]) (f12_fr15 a0 c0 c1 c2 c3 c4 c5 c6 c7 c8 c9 c10 c11 d0) (f12_k15 K a0 lr)) := by intro lr; kernel_rfl
  have h15 : (fun c0 c1 c2 c3 c4 c5 c6 c7 c8 c9 c10 c11 d0 => (realL (f12E K) 1) (selC f12C [1, 1, 1, 1, 1, 1, 1, 1, 1, 1, 1, 1, 0, 1, 0, 0]) (f12_fr15 a0 c0 c1 c2 c3 c4 c5 c6 c7 c8 c9 c10 c11 d0) (f12_k15 K a0 (realL (f12E K) 1))) = fun c0 c1 c2 c3 c4 c5 c6 c7 c8 c9 c10 c11 d0 => f12_l15 K a0 c0 c1 c2 c3 c4 c5 c6 c7 c8 c9 c10 c11 K d0 := by
    funext c0 c1 c2 c3 c4 c5 c6 c7 c8 c9 c10 c11 d0
    exact f12_t15 K a0 c0 c1 c2 c3 c4 c5 c6 c7 c8 c9 c10 c11 d0 K d0
  exact runF_G (n0 := 1) (by rfl) ((key (realL (f12E K) 1)).trans (by rw [h15] <;> rfl))
end Go.Proofs.YtfccacobkcglcaaGreat.X
