/- Functions of the program as plain Lean functions, and that the program does what they say. Printed by gen.py. -/
import Derived.Test.YtmnciknpeefkfaaGreatQdD0
namespace Go.Proofs.YtmnciknpeefkfaaGreat.X
open Go
set_option maxRecDepth 100000
set_option linter.unusedVariables false
theorem f66_run (K : Nat) (a0 : List Int) (a1 : Int) : runF (f66E K) Tryz.f66 [(.ro, (.list 2 sI)), (.ro, sI)] [sI] (a0, a1, ()) = f66G K a0 a1 := by kernel_rfl
theorem f19_run (K : Nat) (a0 : Int × tL × List Int) (a1 : Int) : runF (f19E K) Tryz.f19 [(.ro, (.cons sI (.cons sL (.list 2 sI)))), (.ro, sI)] [sI] (a0, a1, ()) = f19G K a0 a1 := by kernel_rfl
theorem f15_run (K : Nat) (a0 : Int × Int × Int) : runF (f15E K) Tryz.f15 [(.ro, sL)] [sL] (a0, ()) = f15G K a0 := by kernel_rfl
theorem f39_t2 (K : Nat) (a0 : List Int) (bq3 : Int) (bq4 : List Int) : ∀ (n : Nat) (q3 : Int) (q4 : List Int), loopN (exec (f39E K) 1 (selC f39C [1, 1, 0, 1, 0, 0])) 1 (f39_fr2 a0 bq3 bq4) n (f39_fr2 a0 q3 q4) (f39_k2 K a0 (realL (f39E K) 1)) = f39_l2 K a0 n q3 q4 := by
  have key : ∀ (lr : LR (List Int)) (L : Fr → Option (List Int)) (q3 : Int) (q4 : List Int), execG (f39E K) 1 lr (selC f39C [1, 1, 0, 1, 0, 0]) (f39_fr2 a0 q3 q4) (loopK 1 (f39_fr2 a0 bq3 bq4) L (f39_k2 K a0 lr)) = f39_b2 K a0 (fun v0 v1 => L (f39_fr2 a0 v0 v1)) q3 q4 := by
    intro lr L q3 q4; kernel_rfl
  intro n q3 q4
  refine loopN_iter (X := Int × List Int) (frame := fun x => (f39_fr2 a0 x.1 x.2)) (body := (fun L x => (fun L2 => f39_b2 K a0 L2 x.1 x.2) (fun v0 v1 => L (v0, v1)))) (fun L x => ?_) n (q3, q4)
  rw [exec_G]
  exact (key (realL (f39E K) 1) L x.1 x.2).trans (by rfl)
theorem f39_run (K : Nat) (a0 : List Int) : runF (f39E K) Tryz.f39 [(.ro, (.list 2 sI))] [(.list 2 sI)] (a0, ()) = f39G K a0 := by
  have key : ∀ (lr : LR (List Int)), runG (f39E K) Tryz.f39 [(.ro, (.list 2 sI))] [(.list 2 sI)] (a0, ()) lr = f39_g K a0 (fun d0 d1 => lr (selC f39C [1, 1, 0, 1, 0, 0]) (f39_fr2 a0 d0 d1) (f39_k2 K a0 lr)) := by intro lr; kernel_rfl
  have h2 : (fun d0 d1 => (realL (f39E K) 1) (selC f39C [1, 1, 0, 1, 0, 0]) (f39_fr2 a0 d0 d1) (f39_k2 K a0 (realL (f39E K) 1))) = fun d0 d1 => f39_l2 K a0 K d0 d1 := by
    funext d0 d1
    exact f39_t2 K a0 d0 d1 K d0 d1
  exact runF_G (n0 := 1) (by rfl) ((key (realL (f39E K) 1)).trans (by rw [h2] <;> rfl))
theorem f21_run (K : Nat) (a0 : Int × tL × List Int) : runF (f21E K) Tryz.f21 [(.ro, (.cons sI (.cons sL (.list 2 sI))))] [(.cons sI (.cons sL (.list 2 sI)))] (a0, ()) = f21G K a0 := by kernel_rfl
theorem f190_run (K : Nat) (a0 : Int) : runF (f190E K) Tryz.f190 [(.ro, sI)] [.bool] (a0, ()) = f190G K a0 := by kernel_rfl
theorem f59_run (K : Nat) (a0 : Int) (a1 : Int) (a2 : Int) : runF (f59E K) Tryz.f59 [(.ro, sI), (.ro, sI), (.ro, sI)] [.bool] (a0, a1, a2, ()) = f59G K a0 a1 a2 := by kernel_rfl
theorem f191_run (K : Nat) (a0 : Int × Int × Int) : runF (f191E K) Tryz.f191 [(.ro, sL)] [.bool] (a0, ()) = f191G K a0 := by kernel_rfl
theorem f133_run (K : Nat) (a0 : Int) (a1 : Int × Int × Int) : runF (f133E K) Tryz.f133 [(.ro, sI), (.ro, sL)] [sI] (a0, a1, ()) = f133G K a0 a1 := by kernel_rfl
theorem f90_t3 (K : Nat) (a0 : List Int) (a1 : Int) (a2 : Int) (a3 : Int) (bq4 : Int) : ∀ (n : Nat) (q4 : Int), loopN (exec (f90E K) 1 (selC f90C [1, 0, 1, 0, 0])) 1 (f90_fr3 a0 a1 a2 a3 bq4) n (f90_fr3 a0 a1 a2 a3 q4) (f90_k3 K a0 a1 a2 a3 (realL (f90E K) 1)) = f90_l3 K a0 a1 a2 a3 n q4 := by
  have key : ∀ (lr : LR Bool) (L : Fr → Option Bool) (q4 : Int), execG (f90E K) 1 lr (selC f90C [1, 0, 1, 0, 0]) (f90_fr3 a0 a1 a2 a3 q4) (loopK 1 (f90_fr3 a0 a1 a2 a3 bq4) L (f90_k3 K a0 a1 a2 a3 lr)) = f90_b3 K a0 a1 a2 a3 (fun v0 => L (f90_fr3 a0 a1 a2 a3 v0)) q4 := by
    intro lr L q4; kernel_rfl
  intro n q4
  refine loopN_iter (X := Int) (frame := fun x => (f90_fr3 a0 a1 a2 a3 x)) (body := (fun L x => (fun L3 => f90_b3 K a0 a1 a2 a3 L3 x) (fun v0 => L v0))) (fun L x => ?_) n q4
  rw [exec_G]
  exact (key (realL (f90E K) 1) L x).trans (by rfl)
theorem f90_run (K : Nat) (a0 : List Int) (a1 : Int) (a2 : Int) (a3 : Int) : runF (f90E K) Tryz.f90 [(.ro, (.list 2 sI)), (.ro, sI), (.ro, sI), (.ro, sI)] [.bool] (a0, a1, a2, a3, ()) = f90G K a0 a1 a2 a3 := by
  have key : ∀ (lr : LR Bool), runG (f90E K) Tryz.f90 [(.ro, (.list 2 sI)), (.ro, sI), (.ro, sI), (.ro, sI)] [.bool] (a0, a1, a2, a3, ()) lr = f90_g K a0 a1 a2 a3 (fun d0 => lr (selC f90C [1, 0, 1, 0, 0]) (f90_fr3 a0 a1 a2 a3 d0) (f90_k3 K a0 a1 a2 a3 lr)) := by intro lr; kernel_rfl
  have h3 : (fun d0 => (realL (f90E K) 1) (selC f90C [1, 0, 1, 0, 0]) (f90_fr3 a0 a1 a2 a3 d0) (f90_k3 K a0 a1 a2 a3 (realL (f90E K) 1))) = fun d0 => f90_l3 K a0 a1 a2 a3 K d0 := by
    funext d0
    exact f90_t3 K a0 a1 a2 a3 d0 K d0
  exact runF_G (n0 := 1) (by rfl) ((key (realL (f90E K) 1)).trans (by rw [h3] <;> rfl))
theorem f67_run (K : Nat) (a0 : Int × tL × List Int) : runF (f67E K) Tryz.f67 [(.ro, (.cons sI (.cons sL (.list 2 sI))))] [.bool] (a0, ()) = f67G K a0 := by kernel_rfl
theorem f129_t9 (K : Nat) (a0 : Int × Int × Int) (q7 : Int) (F6 : Fr → Option (List tV)) (bq7 : Int) (bq8 : List tV) (bq10 : Int) (bq11 : List tV) : ∀ (n : Nat) (q10 : Int) (q11 : List tV), loopN (exec (f129E K) 0 (selC f129C [1, 1, 0, 1, 0, 0, 1, 0, 0, 1, 0, 0])) 0 (f129_fr9 a0 q7 bq10 bq11) n (f129_fr9 a0 q7 q10 q11) (f129_k9 K a0 F6 bq7 bq8 (realL (f129E K) 0)) = f129_l9 K a0 q7 (fun v0 v1 => F6 (f129_fr6 a0 v0 v1)) n q10 q11 := by
  have key : ∀ (lr : LR (List tV)) (L : Fr → Option (List tV)) (q10 : Int) (q11 : List tV), execG (f129E K) 0 lr (selC f129C [1, 1, 0, 1, 0, 0, 1, 0, 0, 1, 0, 0]) (f129_fr9 a0 q7 q10 q11) (loopK 0 (f129_fr9 a0 q7 bq10 bq11) L (f129_k9 K a0 F6 bq7 bq8 lr)) = f129_b9 K a0 q7 (fun v0 v1 => F6 (f129_fr6 a0 v0 v1)) (fun v0 v1 => L (f129_fr9 a0 q7 v0 v1)) q10 q11 := by
    intro lr L q10 q11; kernel_rfl
  intro n q10 q11
  refine loopN_iter (X := Int × List tV) (frame := fun x => (f129_fr9 a0 q7 x.1 x.2)) (body := (fun L x => (fun L9 => f129_b9 K a0 q7 (fun v0 v1 => F6 (f129_fr6 a0 v0 v1)) L9 x.1 x.2) (fun v0 v1 => L (v0, v1)))) (fun L x => ?_) n (q10, q11)
  rw [exec_G]
  exact (key (realL (f129E K) 0) L x.1 x.2).trans (by rfl)
theorem f129_t6 (K : Nat) (a0 : Int × Int × Int) (bq7 : Int) (bq8 : List tV) : ∀ (n : Nat) (q7 : Int) (q8 : List tV), loopN (exec (f129E K) 0 (selC f129C [1, 1, 0, 1, 0, 0])) 0 (f129_fr6 a0 bq7 bq8) n (f129_fr6 a0 q7 q8) (f129_k6 K a0 (realL (f129E K) 0)) = f129_l6 K a0 n q7 q8 := by
  have key : ∀ (lr : LR (List tV)) (L : Fr → Option (List tV)) (q7 : Int) (q8 : List tV), execG (f129E K) 0 lr (selC f129C [1, 1, 0, 1, 0, 0]) (f129_fr6 a0 q7 q8) (loopK 0 (f129_fr6 a0 bq7 bq8) L (f129_k6 K a0 lr)) = f129_b6 K a0 (fun c0 d0 d1 => lr (selC f129C [1, 1, 0, 1, 0, 0, 1, 0, 0, 1, 0, 0]) (f129_fr9 a0 c0 d0 d1) (f129_k9 K a0 L bq7 bq8 lr)) (fun v0 v1 => L (f129_fr6 a0 v0 v1)) q7 q8 := by
    intro lr L q7 q8; kernel_rfl
  intro n q7 q8
  refine loopN_iter (X := Int × List tV) (frame := fun x => (f129_fr6 a0 x.1 x.2)) (body := (fun L x => (fun L6 => f129_b6 K a0 (fun c0 d0 d1 => f129_l9 K a0 c0 L6 K d0 d1) L6 x.1 x.2) (fun v0 v1 => L (v0, v1)))) (fun L x => ?_) n (q7, q8)
  rw [exec_G]
  have h9 : (fun c0 d0 d1 => (realL (f129E K) 0) (selC f129C [1, 1, 0, 1, 0, 0, 1, 0, 0, 1, 0, 0]) (f129_fr9 a0 c0 d0 d1) (f129_k9 K a0 L bq7 bq8 (realL (f129E K) 0))) = fun c0 d0 d1 => f129_l9 K a0 c0 (fun v0 v1 => L (f129_fr6 a0 v0 v1)) K d0 d1 := by
    funext c0 d0 d1
    exact f129_t9 K a0 c0 L bq7 bq8 d0 d1 K d0 d1
  exact (key (realL (f129E K) 0) L x.1 x.2).trans (by rw [h9] <;> rfl)
theorem f129_run (K : Nat) (a0 : Int × Int × Int) : runF (f129E K) Tryz.f129 [(.ro, sL)] [(.list 53 sV)] (a0, ()) = f129G K a0 := by
  have key : ∀ (lr : LR (List tV)), runG (f129E K) Tryz.f129 [(.ro, sL)] [(.list 53 sV)] (a0, ()) lr = f129_g K a0 (fun d0 d1 => lr (selC f129C [1, 1, 0, 1, 0, 0]) (f129_fr6 a0 d0 d1) (f129_k6 K a0 lr)) := by intro lr; kernel_rfl
  have h6 : (fun d0 d1 => (realL (f129E K) 0) (selC f129C [1, 1, 0, 1, 0, 0]) (f129_fr6 a0 d0 d1) (f129_k6 K a0 (realL (f129E K) 0))) = fun d0 d1 => f129_l6 K a0 K d0 d1 := by
    funext d0 d1
    exact f129_t6 K a0 d0 d1 K d0 d1
  exact runF_G (n0 := 0) (by rfl) ((key (realL (f129E K) 0)).trans (by rw [h6] <;> rfl))
theorem f192_run (K : Nat) (a0 : Int × Int × Int) : runF (f192E K) Tryz.f192 [(.ro, sL)] [(.list 53 sV)] (a0, ()) = f192G K a0 := by kernel_rfl
theorem f193_run (K : Nat) : runF (f193E K) Tryz.f193 [] [sA] (()) = f193G K := by kernel_rfl
theorem f241_run (K : Nat) (a0 : Int × Int × Int × Int) (a1 : Int × Int) : runF (f241E K) Tryz.f241 [(.ro, sA), (.ro, sV)] [sV] (a0, a1, ()) = f241G K a0 a1 := by kernel_rfl
theorem f170_run (K : Nat) (a0 : Int × Int) (a1 : Int × Int) : runF (f170E K) Tryz.f170 [(.ro, sV), (.ro, sV)] [sV] (a0, a1, ()) = f170G K a0 a1 := by kernel_rfl
theorem f197_run (K : Nat) (a0 : tA × Int × Int) (a1 : Int × Int) : runF (f197E K) Tryz.f197 [(.ro, sM), (.ro, sV)] [sV] (a0, a1, ()) = f197G K a0 a1 := by kernel_rfl
theorem f180_run (K : Nat) (a0 : Int) (a1 : Int) : runF (f180E K) Tryz.f180 [(.ro, sI), (.ro, sI)] [sI] (a0, a1, ()) = f180G K a0 a1 := by kernel_rfl
theorem f114_run (K : Nat) (a0 : Int × Int × Int) (a1 : Int × Int) : runF (f114E K) Tryz.f114 [(.ro, sL), (.ro, sV)] [sV] (a0, a1, ()) = f114G K a0 a1 := by kernel_rfl
theorem f78_run (K : Nat) (a0 : Int × Int × Int) (a1 : Int × Int) : runF (f78E K) Tryz.f78 [(.ro, sL), (.ro, sV)] [sI] (a0, a1, ()) = f78G K a0 a1 := by kernel_rfl
theorem f122_run (K : Nat) (a0 : Int × tL × List Int) (a1 : Int × Int) : runF (f122E K) Tryz.f122 [(.ro, (.cons sI (.cons sL (.list 2 sI)))), (.ro, sV)] [sI] (a0, a1, ()) = f122G K a0 a1 := by kernel_rfl
theorem f137_t6 (K : Nat) (a0 : Int × tL × List Int) (a1 : tA × Int × Int) (y1 : List tV) (bq7 : Int) : ∀ (n : Nat) (q7 : Int), loopN (exec (f137E K) 1 (selC f137C [1, 1, 0, 1, 0, 0])) 1 (f137_fr6 a0 a1 y1 bq7) n (f137_fr6 a0 a1 y1 q7) (f137_k6 K a0 a1 (realL (f137E K) 1)) = f137_l6 K a0 a1 y1 n q7 := by
  have key : ∀ (lr : LR Bool) (L : Fr → Option Bool) (q7 : Int), execG (f137E K) 1 lr (selC f137C [1, 1, 0, 1, 0, 0]) (f137_fr6 a0 a1 y1 q7) (loopK 1 (f137_fr6 a0 a1 y1 bq7) L (f137_k6 K a0 a1 lr)) = f137_b6 K a0 a1 y1 (fun v0 => L (f137_fr6 a0 a1 y1 v0)) q7 := by
    intro lr L q7; kernel_rfl
  intro n q7
  refine loopN_iter (X := Int) (frame := fun x => (f137_fr6 a0 a1 y1 x)) (body := (fun L x => (fun L6 => f137_b6 K a0 a1 y1 L6 x) (fun v0 => L v0))) (fun L x => ?_) n q7
  rw [exec_G]
  exact (key (realL (f137E K) 1) L x).trans (by rfl)
theorem f137_run (K : Nat) (a0 : Int × tL × List Int) (a1 : tA × Int × Int) : runF (f137E K) Tryz.f137 [(.ro, (.cons sI (.cons sL (.list 2 sI)))), (.ro, sM)] [.bool] (a0, a1, ()) = f137G K a0 a1 := by
  have key : ∀ (lr : LR Bool), runG (f137E K) Tryz.f137 [(.ro, (.cons sI (.cons sL (.list 2 sI)))), (.ro, sM)] [.bool] (a0, a1, ()) lr = f137_g K a0 a1 (fun c0 d0 => lr (selC f137C [1, 1, 0, 1, 0, 0]) (f137_fr6 a0 a1 c0 d0) (f137_k6 K a0 a1 lr)) := by intro lr; kernel_rfl
  have h6 : (fun c0 d0 => (realL (f137E K) 1) (selC f137C [1, 1, 0, 1, 0, 0]) (f137_fr6 a0 a1 c0 d0) (f137_k6 K a0 a1 (realL (f137E K) 1))) = fun c0 d0 => f137_l6 K a0 a1 c0 K d0 := by
    funext c0 d0
    exact f137_t6 K a0 a1 c0 d0 K d0
  exact runF_G (n0 := 1) (by rfl) ((key (realL (f137E K) 1)).trans (by rw [h6] <;> rfl))
theorem f242_run (K : Nat) (rec : Int → Int → Option Int) (a0 : Int) (a1 : Int) : runF (f242E K rec) Tryz.f242 [(.ro, sI), (.ro, sI)] [sI] (a0, a1, ()) = f242_s K rec a0 a1 := by kernel_rfl
theorem f243_run (K : Nat) (a0 : Int × Int) (a1 : Int) : runF (f243E K) Tryz.f243 [(.ro, sV), (.ro, sI)] [sV] (a0, a1, ()) = f243G K a0 a1 := by kernel_rfl
theorem f194_t15 (K : Nat) (a0 : List tV) (q11 : Int) (q12 : Int) (F10 : Fr → Option tL) (bq11 : Int) (bq12 : Int) (bq13 : Int) (bq14 : Int) (bq16 : Int) (bq17 : Int) (bq18 : Int) (bq19 : Int) : ∀ (n : Nat) (q16 : Int) (q17 : Int) (q18 : Int) (q19 : Int), loopN (exec (f194E K) 1 (selC f194C [1, 1, 0, 1, 0, 0, 1, 0, 0, 1, 0, 0, 0])) 1 (f194_fr15 a0 q11 q12 bq16 bq17 bq18 bq19) n (f194_fr15 a0 q11 q12 q16 q17 q18 q19) (f194_k15 K a0 F10 bq11 bq12 bq13 bq14 (realL (f194E K) 1)) = f194_l15 K a0 q11 q12 (fun v0 v1 v2 v3 => F10 (f194_fr10 a0 v0 v1 v2 v3)) n q16 q17 q18 q19 := by
  have key : ∀ (lr : LR tL) (L : Fr → Option tL) (q16 : Int) (q17 : Int) (q18 : Int) (q19 : Int), execG (f194E K) 1 lr (selC f194C [1, 1, 0, 1, 0, 0, 1, 0, 0, 1, 0, 0, 0]) (f194_fr15 a0 q11 q12 q16 q17 q18 q19) (loopK 1 (f194_fr15 a0 q11 q12 bq16 bq17 bq18 bq19) L (f194_k15 K a0 F10 bq11 bq12 bq13 bq14 lr)) = f194_b15 K a0 q11 q12 (fun v0 v1 v2 v3 => F10 (f194_fr10 a0 v0 v1 v2 v3)) (fun v0 v1 v2 v3 => L (f194_fr15 a0 q11 q12 v0 v1 v2 v3)) q16 q17 q18 q19 := by
    intro lr L q16 q17 q18 q19; kernel_rfl
  intro n q16 q17 q18 q19
  refine loopN_iter (X := Int × Int × Int × Int) (frame := fun x => (f194_fr15 a0 q11 q12 x.1 x.2.1 x.2.2.1 x.2.2.2)) (body := (fun L x => (fun L15 => f194_b15 K a0 q11 q12 (fun v0 v1 v2 v3 => F10 (f194_fr10 a0 v0 v1 v2 v3)) L15 x.1 x.2.1 x.2.2.1 x.2.2.2) (fun v0 v1 v2 v3 => L (v0, v1, v2, v3)))) (fun L x => ?_) n (q16, q17, q18, q19)
  rw [exec_G]
  exact (key (realL (f194E K) 1) L x.1 x.2.1 x.2.2.1 x.2.2.2).trans (by rfl)
theorem f194_t10 (K : Nat) (a0 : List tV) (bq11 : Int) (bq12 : Int) (bq13 : Int) (bq14 : Int) : ∀ (n : Nat) (q11 : Int) (q12 : Int) (q13 : Int) (q14 : Int), loopN (exec (f194E K) 1 (selC f194C [1, 1, 0, 1, 0, 0])) 1 (f194_fr10 a0 bq11 bq12 bq13 bq14) n (f194_fr10 a0 q11 q12 q13 q14) (f194_k10 K a0 (realL (f194E K) 1)) = f194_l10 K a0 n q11 q12 q13 q14 := by
  have key : ∀ (lr : LR tL) (L : Fr → Option tL) (q11 : Int) (q12 : Int) (q13 : Int) (q14 : Int), execG (f194E K) 1 lr (selC f194C [1, 1, 0, 1, 0, 0]) (f194_fr10 a0 q11 q12 q13 q14) (loopK 1 (f194_fr10 a0 bq11 bq12 bq13 bq14) L (f194_k10 K a0 lr)) = f194_b10 K a0 (fun c0 c1 d0 d1 d2 d3 => lr (selC f194C [1, 1, 0, 1, 0, 0, 1, 0, 0, 1, 0, 0, 0]) (f194_fr15 a0 c0 c1 d0 d1 d2 d3) (f194_k15 K a0 L bq11 bq12 bq13 bq14 lr)) (fun v0 v1 v2 v3 => L (f194_fr10 a0 v0 v1 v2 v3)) q11 q12 q13 q14 := by
    intro lr L q11 q12 q13 q14; kernel_rfl
  intro n q11 q12 q13 q14
  refine loopN_iter (X := Int × Int × Int × Int) (frame := fun x => (f194_fr10 a0 x.1 x.2.1 x.2.2.1 x.2.2.2)) (body := (fun L x => (fun L10 => f194_b10 K a0 (fun c0 c1 d0 d1 d2 d3 => f194_l15 K a0 c0 c1 L10 K d0 d1 d2 d3) L10 x.1 x.2.1 x.2.2.1 x.2.2.2) (fun v0 v1 v2 v3 => L (v0, v1, v2, v3)))) (fun L x => ?_) n (q11, q12, q13, q14)
  rw [exec_G]
  have h15 : (fun c0 c1 d0 d1 d2 d3 => (realL (f194E K) 1) (selC f194C [1, 1, 0, 1, 0, 0, 1, 0, 0, 1, 0, 0, 0]) (f194_fr15 a0 c0 c1 d0 d1 d2 d3) (f194_k15 K a0 L bq11 bq12 bq13 bq14 (realL (f194E K) 1))) = fun c0 c1 d0 d1 d2 d3 => f194_l15 K a0 c0 c1 (fun v0 v1 v2 v3 => L (f194_fr10 a0 v0 v1 v2 v3)) K d0 d1 d2 d3 := by
    funext c0 c1 d0 d1 d2 d3
    exact f194_t15 K a0 c0 c1 L bq11 bq12 bq13 bq14 d0 d1 d2 d3 K d0 d1 d2 d3
  exact (key (realL (f194E K) 1) L x.1 x.2.1 x.2.2.1 x.2.2.2).trans (by rw [h15] <;> rfl)
theorem f194_run (K : Nat) (a0 : List tV) : runF (f194E K) Tryz.f194 [(.ro, (.list 53 sV))] [sL] (a0, ()) = f194G K a0 := by
  have key : ∀ (lr : LR tL), runG (f194E K) Tryz.f194 [(.ro, (.list 53 sV))] [sL] (a0, ()) lr = f194_g K a0 (fun d0 d1 d2 d3 => lr (selC f194C [1, 1, 0, 1, 0, 0]) (f194_fr10 a0 d0 d1 d2 d3) (f194_k10 K a0 lr)) := by intro lr; kernel_rfl
  have h10 : (fun d0 d1 d2 d3 => (realL (f194E K) 1) (selC f194C [1, 1, 0, 1, 0, 0]) (f194_fr10 a0 d0 d1 d2 d3) (f194_k10 K a0 (realL (f194E K) 1))) = fun d0 d1 d2 d3 => f194_l10 K a0 K d0 d1 d2 d3 := by
    funext d0 d1 d2 d3
    exact f194_t10 K a0 d0 d1 d2 d3 K d0 d1 d2 d3
  exact runF_G (n0 := 1) (by rfl) ((key (realL (f194E K) 1)).trans (by rw [h10] <;> rfl))
theorem f135_t6 (K : Nat) (a0 : Int × tL × List Int) (y1 : List tV) (bq7 : Int) (bq8 : List tV) : ∀ (n : Nat) (q7 : Int) (q8 : List tV), loopN (exec (f135E K) 1 (selC f135C [1, 1, 1, 0, 1, 0, 0])) 1 (f135_fr6 a0 y1 bq7 bq8) n (f135_fr6 a0 y1 q7 q8) (f135_k6 K a0 (realL (f135E K) 1)) = f135_l6 K a0 y1 n q7 q8 := by
  have key : ∀ (lr : LR tL) (L : Fr → Option tL) (q7 : Int) (q8 : List tV), execG (f135E K) 1 lr (selC f135C [1, 1, 1, 0, 1, 0, 0]) (f135_fr6 a0 y1 q7 q8) (loopK 1 (f135_fr6 a0 y1 bq7 bq8) L (f135_k6 K a0 lr)) = f135_b6 K a0 y1 (fun v0 v1 => L (f135_fr6 a0 y1 v0 v1)) q7 q8 := by
    intro lr L q7 q8; kernel_rfl
  intro n q7 q8
  refine loopN_iter (X := Int × List tV) (frame := fun x => (f135_fr6 a0 y1 x.1 x.2)) (body := (fun L x => (fun L6 => f135_b6 K a0 y1 L6 x.1 x.2) (fun v0 v1 => L (v0, v1)))) (fun L x => ?_) n (q7, q8)
  rw [exec_G]
  exact (key (realL (f135E K) 1) L x.1 x.2).trans (by rfl)
theorem f135_run (K : Nat) (a0 : Int × tL × List Int) : runF (f135E K) Tryz.f135 [(.ro, (.cons sI (.cons sL (.list 2 sI))))] [sL] (a0, ()) = f135G K a0 := by
  have key : ∀ (lr : LR tL), runG (f135E K) Tryz.f135 [(.ro, (.cons sI (.cons sL (.list 2 sI))))] [sL] (a0, ()) lr = f135_g K a0 (fun c0 d0 d1 => lr (selC f135C [1, 1, 1, 0, 1, 0, 0]) (f135_fr6 a0 c0 d0 d1) (f135_k6 K a0 lr)) := by intro lr; kernel_rfl
  have h6 : (fun c0 d0 d1 => (realL (f135E K) 1) (selC f135C [1, 1, 1, 0, 1, 0, 0]) (f135_fr6 a0 c0 d0 d1) (f135_k6 K a0 (realL (f135E K) 1))) = fun c0 d0 d1 => f135_l6 K a0 c0 K d0 d1 := by
    funext c0 d0 d1
    exact f135_t6 K a0 c0 d0 d1 K d0 d1
  exact runF_G (n0 := 1) (by rfl) ((key (realL (f135E K) 1)).trans (by rw [h6] <;> rfl))
theorem f134_t4 (K : Nat) (a0 : Int × tL × List Int) (a1 : Int × Int × Int) (y1 : List tV) (bq5 : Int) (bq6 : List Int) : ∀ (n : Nat) (q5 : Int) (q6 : List Int), loopN (exec (f134E K) 1 (selC f134C [1, 1, 1, 0, 1, 0, 0])) 1 (f134_fr4 a0 a1 y1 bq5 bq6) n (f134_fr4 a0 a1 y1 q5 q6) (f134_k4 K a0 a1 (realL (f134E K) 1)) = f134_l4 K a0 a1 y1 n q5 q6 := by
  have key : ∀ (lr : LR (Int × tL × List Int)) (L : Fr → Option (Int × tL × List Int)) (q5 : Int) (q6 : List Int), execG (f134E K) 1 lr (selC f134C [1, 1, 1, 0, 1, 0, 0]) (f134_fr4 a0 a1 y1 q5 q6) (loopK 1 (f134_fr4 a0 a1 y1 bq5 bq6) L (f134_k4 K a0 a1 lr)) = f134_b4 K a0 a1 y1 (fun v0 v1 => L (f134_fr4 a0 a1 y1 v0 v1)) q5 q6 := by
    intro lr L q5 q6; kernel_rfl
  intro n q5 q6
  refine loopN_iter (X := Int × List Int) (frame := fun x => (f134_fr4 a0 a1 y1 x.1 x.2)) (body := (fun L x => (fun L4 => f134_b4 K a0 a1 y1 L4 x.1 x.2) (fun v0 v1 => L (v0, v1)))) (fun L x => ?_) n (q5, q6)
  rw [exec_G]
  exact (key (realL (f134E K) 1) L x.1 x.2).trans (by rfl)
theorem f134_run (K : Nat) (a0 : Int × tL × List Int) (a1 : Int × Int × Int) : runF (f134E K) Tryz.f134 [(.ro, (.cons sI (.cons sL (.list 2 sI)))), (.ro, sL)] [(.cons sI (.cons sL (.list 2 sI)))] (a0, a1, ()) = f134G K a0 a1 := by
  have key : ∀ (lr : LR (Int × tL × List Int)), runG (f134E K) Tryz.f134 [(.ro, (.cons sI (.cons sL (.list 2 sI)))), (.ro, sL)] [(.cons sI (.cons sL (.list 2 sI)))] (a0, a1, ()) lr = f134_g K a0 a1 (fun c0 d0 d1 => lr (selC f134C [1, 1, 1, 0, 1, 0, 0]) (f134_fr4 a0 a1 c0 d0 d1) (f134_k4 K a0 a1 lr)) := by intro lr; kernel_rfl
  have h4 : (fun c0 d0 d1 => (realL (f134E K) 1) (selC f134C [1, 1, 1, 0, 1, 0, 0]) (f134_fr4 a0 a1 c0 d0 d1) (f134_k4 K a0 a1 (realL (f134E K) 1))) = fun c0 d0 d1 => f134_l4 K a0 a1 c0 K d0 d1 := by
    funext c0 d0 d1
    exact f134_t4 K a0 a1 c0 d0 d1 K d0 d1
  exact runF_G (n0 := 1) (by rfl) ((key (realL (f134E K) 1)).trans (by rw [h4] <;> rfl))
theorem f68_run (K : Nat) (a0 : Int × tL × List Int) : runF (f68E K) Tryz.f68 [(.ro, (.cons sI (.cons sL (.list 2 sI))))] [(.cons sI (.cons sL (.list 2 sI)))] (a0, ()) = f68G K a0 := by kernel_rfl
theorem f275_run (K : Nat) (a0 : Int) (a1 : Int × Int) : runF (f275E K) Tryz.f275 [(.ro, sI), (.ro, sV)] [sI] (a0, a1, ()) = f275G K a0 a1 := by kernel_rfl
theorem f244_run (K : Nat) (a0 : Int) (a1 : Int × Int × Int × Int) : runF (f244E K) Tryz.f244 [(.ro, sI), (.ro, sA)] [.bool] (a0, a1, ()) = f244G K a0 a1 := by kernel_rfl
theorem f195_t3 (K : Nat) (a0 : Int) (bq4 : Int) (bq5 : List tA) : ∀ (n : Nat) (q4 : Int) (q5 : List tA), loopN (exec (f195E K) 0 (selC f195C [1, 1, 0, 1, 0, 0])) 0 (f195_fr3 a0 bq4 bq5) n (f195_fr3 a0 q4 q5) (f195_k3 K a0 (realL (f195E K) 0)) = f195_l3 K a0 n q4 q5 := by
  have key : ∀ (lr : LR (List tA)) (L : Fr → Option (List tA)) (q4 : Int) (q5 : List tA), execG (f195E K) 0 lr (selC f195C [1, 1, 0, 1, 0, 0]) (f195_fr3 a0 q4 q5) (loopK 0 (f195_fr3 a0 bq4 bq5) L (f195_k3 K a0 lr)) = f195_b3 K a0 (fun v0 v1 => L (f195_fr3 a0 v0 v1)) q4 q5 := by
    intro lr L q4 q5; kernel_rfl
  intro n q4 q5
  refine loopN_iter (X := Int × List tA) (frame := fun x => (f195_fr3 a0 x.1 x.2)) (body := (fun L x => (fun L3 => f195_b3 K a0 L3 x.1 x.2) (fun v0 v1 => L (v0, v1)))) (fun L x => ?_) n (q4, q5)
  rw [exec_G]
  exact (key (realL (f195E K) 0) L x.1 x.2).trans (by rfl)
theorem f195_run (K : Nat) (a0 : Int) : runF (f195E K) Tryz.f195 [(.ro, sI)] [(.list 89 sA)] (a0, ()) = f195G K a0 := by
  have key : ∀ (lr : LR (List tA)), runG (f195E K) Tryz.f195 [(.ro, sI)] [(.list 89 sA)] (a0, ()) lr = f195_g K a0 (fun d0 d1 => lr (selC f195C [1, 1, 0, 1, 0, 0]) (f195_fr3 a0 d0 d1) (f195_k3 K a0 lr)) := by intro lr; kernel_rfl
  have h3 : (fun d0 d1 => (realL (f195E K) 0) (selC f195C [1, 1, 0, 1, 0, 0]) (f195_fr3 a0 d0 d1) (f195_k3 K a0 (realL (f195E K) 0))) = fun d0 d1 => f195_l3 K a0 K d0 d1 := by
    funext d0 d1
    exact f195_t3 K a0 d0 d1 K d0 d1
  exact runF_G (n0 := 0) (by rfl) ((key (realL (f195E K) 0)).trans (by rw [h3] <;> rfl))
theorem f196_run (K : Nat) (a0 : Int × Int × Int × Int) (a1 : Int × Int × Int) : runF (f196E K) Tryz.f196 [(.ro, sA), (.ro, sL)] [sL] (a0, a1, ()) = f196G K a0 a1 := by kernel_rfl
theorem f136_t4 (K : Nat) (a0 : Int) (a1 : Int × Int × Int) (y1 : List tA) (bq5 : Int) (bq6 : List tA) : ∀ (n : Nat) (q5 : Int) (q6 : List tA), loopN (exec (f136E K) 0 (selC f136C [1, 1, 1, 0, 1, 0, 0])) 0 (f136_fr4 a0 a1 y1 bq5 bq6) n (f136_fr4 a0 a1 y1 q5 q6) (f136_k4 K a0 a1 (realL (f136E K) 0)) = f136_l4 K a0 a1 y1 n q5 q6 := by
  have key : ∀ (lr : LR (List tA)) (L : Fr → Option (List tA)) (q5 : Int) (q6 : List tA), execG (f136E K) 0 lr (selC f136C [1, 1, 1, 0, 1, 0, 0]) (f136_fr4 a0 a1 y1 q5 q6) (loopK 0 (f136_fr4 a0 a1 y1 bq5 bq6) L (f136_k4 K a0 a1 lr)) = f136_b4 K a0 a1 y1 (fun v0 v1 => L (f136_fr4 a0 a1 y1 v0 v1)) q5 q6 := by
    intro lr L q5 q6; kernel_rfl
  intro n q5 q6
  refine loopN_iter (X := Int × List tA) (frame := fun x => (f136_fr4 a0 a1 y1 x.1 x.2)) (body := (fun L x => (fun L4 => f136_b4 K a0 a1 y1 L4 x.1 x.2) (fun v0 v1 => L (v0, v1)))) (fun L x => ?_) n (q5, q6)
  rw [exec_G]
  exact (key (realL (f136E K) 0) L x.1 x.2).trans (by rfl)
theorem f136_run (K : Nat) (a0 : Int) (a1 : Int × Int × Int) : runF (f136E K) Tryz.f136 [(.ro, sI), (.ro, sL)] [(.list 89 sA)] (a0, a1, ()) = f136G K a0 a1 := by
  have key : ∀ (lr : LR (List tA)), runG (f136E K) Tryz.f136 [(.ro, sI), (.ro, sL)] [(.list 89 sA)] (a0, a1, ()) lr = f136_g K a0 a1 (fun c0 d0 d1 => lr (selC f136C [1, 1, 1, 0, 1, 0, 0]) (f136_fr4 a0 a1 c0 d0 d1) (f136_k4 K a0 a1 lr)) := by intro lr; kernel_rfl
  have h4 : (fun c0 d0 d1 => (realL (f136E K) 0) (selC f136C [1, 1, 1, 0, 1, 0, 0]) (f136_fr4 a0 a1 c0 d0 d1) (f136_k4 K a0 a1 (realL (f136E K) 0))) = fun c0 d0 d1 => f136_l4 K a0 a1 c0 K d0 d1 := by
    funext c0 d0 d1
    exact f136_t4 K a0 a1 c0 d0 d1 K d0 d1
  exact runF_G (n0 := 0) (by rfl) ((key (realL (f136E K) 0)).trans (by rw [h4] <;> rfl))
theorem f69_t13 (K : Nat) (a0 : Int × tL × List Int) (y1 : List tA) (y2 : List tV) (q11 : Int) (F10 : Fr → Option (List tM)) (bq11 : Int) (bq12 : List tM) (bq14 : Int) (bq15 : List tM) : ∀ (n : Nat) (q14 : Int) (q15 : List tM), loopN (exec (f69E K) 1 (selC f69C [1, 1, 1, 0, 1, 0, 0, 1, 0, 0, 1, 0, 0])) 1 (f69_fr13 a0 q11 y1 y2 bq14 bq15) n (f69_fr13 a0 q11 y1 y2 q14 q15) (f69_k13 K a0 y1 y2 F10 bq11 bq12 (realL (f69E K) 1)) = f69_l13 K a0 q11 y1 y2 (fun v0 v1 => F10 (f69_fr10 a0 y1 y2 v0 v1)) n q14 q15 := by
  have key : ∀ (lr : LR (List tM)) (L : Fr → Option (List tM)) (q14 : Int) (q15 : List tM), execG (f69E K) 1 lr (selC f69C [1, 1, 1, 0, 1, 0, 0, 1, 0, 0, 1, 0, 0]) (f69_fr13 a0 q11 y1 y2 q14 q15) (loopK 1 (f69_fr13 a0 q11 y1 y2 bq14 bq15) L (f69_k13 K a0 y1 y2 F10 bq11 bq12 lr)) = f69_b13 K a0 q11 y1 y2 (fun v0 v1 => F10 (f69_fr10 a0 y1 y2 v0 v1)) (fun v0 v1 => L (f69_fr13 a0 q11 y1 y2 v0 v1)) q14 q15 := by
    intro lr L q14 q15; kernel_rfl
  intro n q14 q15
  refine loopN_iter (X := Int × List tM) (frame := fun x => (f69_fr13 a0 q11 y1 y2 x.1 x.2)) (body := (fun L x => (fun L13 => f69_b13 K a0 q11 y1 y2 (fun v0 v1 => F10 (f69_fr10 a0 y1 y2 v0 v1)) L13 x.1 x.2) (fun v0 v1 => L (v0, v1)))) (fun L x => ?_) n (q14, q15)
  rw [exec_G]
  exact (key (realL (f69E K) 1) L x.1 x.2).trans (by rfl)
theorem f69_t10 (K : Nat) (a0 : Int × tL × List Int) (y1 : List tA) (y2 : List tV) (bq11 : Int) (bq12 : List tM) : ∀ (n : Nat) (q11 : Int) (q12 : List tM), loopN (exec (f69E K) 1 (selC f69C [1, 1, 1, 0, 1, 0, 0])) 1 (f69_fr10 a0 y1 y2 bq11 bq12) n (f69_fr10 a0 y1 y2 q11 q12) (f69_k10 K a0 (realL (f69E K) 1)) = f69_l10 K a0 y1 y2 n q11 q12 := by
  have key : ∀ (lr : LR (List tM)) (L : Fr → Option (List tM)) (q11 : Int) (q12 : List tM), execG (f69E K) 1 lr (selC f69C [1, 1, 1, 0, 1, 0, 0]) (f69_fr10 a0 y1 y2 q11 q12) (loopK 1 (f69_fr10 a0 y1 y2 bq11 bq12) L (f69_k10 K a0 lr)) = f69_b10 K a0 y1 y2 (fun c0 d0 d1 => lr (selC f69C [1, 1, 1, 0, 1, 0, 0, 1, 0, 0, 1, 0, 0]) (f69_fr13 a0 c0 y1 y2 d0 d1) (f69_k13 K a0 y1 y2 L bq11 bq12 lr)) (fun v0 v1 => L (f69_fr10 a0 y1 y2 v0 v1)) q11 q12 := by
    intro lr L q11 q12; kernel_rfl
  intro n q11 q12
  refine loopN_iter (X := Int × List tM) (frame := fun x => (f69_fr10 a0 y1 y2 x.1 x.2)) (body := (fun L x => (fun L10 => f69_b10 K a0 y1 y2 (fun c0 d0 d1 => f69_l13 K a0 c0 y1 y2 L10 K d0 d1) L10 x.1 x.2) (fun v0 v1 => L (v0, v1)))) (fun L x => ?_) n (q11, q12)
  rw [exec_G]
  have h13 : (fun c0 d0 d1 => (realL (f69E K) 1) (selC f69C [1, 1, 1, 0, 1, 0, 0, 1, 0, 0, 1, 0, 0]) (f69_fr13 a0 c0 y1 y2 d0 d1) (f69_k13 K a0 y1 y2 L bq11 bq12 (realL (f69E K) 1))) = fun c0 d0 d1 => f69_l13 K a0 c0 y1 y2 (fun v0 v1 => L (f69_fr10 a0 y1 y2 v0 v1)) K d0 d1 := by
    funext c0 d0 d1
    exact f69_t13 K a0 y1 y2 c0 L bq11 bq12 d0 d1 K d0 d1
  exact (key (realL (f69E K) 1) L x.1 x.2).trans (by rw [h13] <;> rfl)
theorem f69_run (K : Nat) (a0 : Int × tL × List Int) : runF (f69E K) Tryz.f69 [(.ro, (.cons sI (.cons sL (.list 2 sI))))] [(.list 91 sM)] (a0, ()) = f69G K a0 := by
  have key : ∀ (lr : LR (List tM)), runG (f69E K) Tryz.f69 [(.ro, (.cons sI (.cons sL (.list 2 sI))))] [(.list 91 sM)] (a0, ()) lr = f69_g K a0 (fun c0 c1 d0 d1 => lr (selC f69C [1, 1, 1, 0, 1, 0, 0]) (f69_fr10 a0 c0 c1 d0 d1) (f69_k10 K a0 lr)) := by intro lr; kernel_rfl
  have h10 : (fun c0 c1 d0 d1 => (realL (f69E K) 1) (selC f69C [1, 1, 1, 0, 1, 0, 0]) (f69_fr10 a0 c0 c1 d0 d1) (f69_k10 K a0 (realL (f69E K) 1))) = fun c0 c1 d0 d1 => f69_l10 K a0 c0 c1 K d0 d1 := by
    funext c0 c1 d0 d1
    exact f69_t10 K a0 c0 c1 d0 d1 K d0 d1
  exact runF_G (n0 := 1) (by rfl) ((key (realL (f69E K) 1)).trans (by rw [h10] <;> rfl))
theorem f147_run (K : Nat) (a0 : Int × Int × Int) (a1 : tA × Int × Int) (a2 : Int × Int) : runF (f147E K) Tryz.f147 [(.ro, sL), (.ro, sM), (.ro, sV)] [sV] (a0, a1, a2, ()) = f147G K a0 a1 a2 := by kernel_rfl
theorem f171_run (K : Nat) (a0 : Int × Int) (a1 : Int × Int) : runF (f171E K) Tryz.f171 [(.ro, sV), (.ro, sV)] [.bool] (a0, a1, ()) = f171G K a0 a1 := by kernel_rfl
theorem f100_t3 (K : Nat) (a0 : List tV) (a1 : Int × Int) (bq4 : Int) : ∀ (n : Nat) (q4 : Int), loopN (exec (f100E K) 1 (selC f100C [1, 1, 0, 0, 0])) 1 (f100_fr3 a0 a1 bq4) n (f100_fr3 a0 a1 q4) (f100_k3 K a0 a1 (realL (f100E K) 1)) = f100_l3 K a0 a1 n q4 := by
  have key : ∀ (lr : LR (List tV)) (L : Fr → Option (List tV)) (q4 : Int), execG (f100E K) 1 lr (selC f100C [1, 1, 0, 0, 0]) (f100_fr3 a0 a1 q4) (loopK 1 (f100_fr3 a0 a1 bq4) L (f100_k3 K a0 a1 lr)) = f100_b3 K a0 a1 (fun v0 => L (f100_fr3 a0 a1 v0)) q4 := by
    intro lr L q4; kernel_rfl
  intro n q4
  refine loopN_iter (X := Int) (frame := fun x => (f100_fr3 a0 a1 x)) (body := (fun L x => (fun L3 => f100_b3 K a0 a1 L3 x) (fun v0 => L v0))) (fun L x => ?_) n q4
  rw [exec_G]
  exact (key (realL (f100E K) 1) L x).trans (by rfl)
theorem f100_run (K : Nat) (a0 : List tV) (a1 : Int × Int) : runF (f100E K) Tryz.f100 [(.mv, (.list 53 sV)), (.ro, sV)] [(.list 53 sV)] (a0, a1, ()) = f100G K a0 a1 := by
  have key : ∀ (lr : LR (List tV)), runG (f100E K) Tryz.f100 [(.mv, (.list 53 sV)), (.ro, sV)] [(.list 53 sV)] (a0, a1, ()) lr = f100_g K a0 a1 (fun d0 => lr (selC f100C [1, 1, 0, 0, 0]) (f100_fr3 a0 a1 d0) (f100_k3 K a0 a1 lr)) := by intro lr; kernel_rfl
  have h3 : (fun d0 => (realL (f100E K) 1) (selC f100C [1, 1, 0, 0, 0]) (f100_fr3 a0 a1 d0) (f100_k3 K a0 a1 (realL (f100E K) 1))) = fun d0 => f100_l3 K a0 a1 K d0 := by
    funext d0
    exact f100_t3 K a0 a1 d0 K d0
  exact runF_G (n0 := 1) (by rfl) ((key (realL (f100E K) 1)).trans (by rw [h3] <;> rfl))
theorem f77_t4 (K : Nat) (a0 : Int × Int × Int) (a1 : List tM) (a2 : Int × Int) (bq5 : Int) (bq6 : List tV) : ∀ (n : Nat) (q5 : Int) (q6 : List tV), loopN (exec (f77E K) 1 (selC f77C [1, 1, 0, 1, 0, 0])) 1 (f77_fr4 a0 a1 a2 bq5 bq6) n (f77_fr4 a0 a1 a2 q5 q6) (f77_k4 K a0 a1 a2 (realL (f77E K) 1)) = f77_l4 K a0 a1 a2 n q5 q6 := by
  have key : ∀ (lr : LR (List tV)) (L : Fr → Option (List tV)) (q5 : Int) (q6 : List tV), execG (f77E K) 1 lr (selC f77C [1, 1, 0, 1, 0, 0]) (f77_fr4 a0 a1 a2 q5 q6) (loopK 1 (f77_fr4 a0 a1 a2 bq5 bq6) L (f77_k4 K a0 a1 a2 lr)) = f77_b4 K a0 a1 a2 (fun v0 v1 => L (f77_fr4 a0 a1 a2 v0 v1)) q5 q6 := by
    intro lr L q5 q6; kernel_rfl
  intro n q5 q6
  refine loopN_iter (X := Int × List tV) (frame := fun x => (f77_fr4 a0 a1 a2 x.1 x.2)) (body := (fun L x => (fun L4 => f77_b4 K a0 a1 a2 L4 x.1 x.2) (fun v0 v1 => L (v0, v1)))) (fun L x => ?_) n (q5, q6)
  rw [exec_G]
  exact (key (realL (f77E K) 1) L x.1 x.2).trans (by rfl)
theorem f77_run (K : Nat) (a0 : Int × Int × Int) (a1 : List tM) (a2 : Int × Int) : runF (f77E K) Tryz.f77 [(.ro, sL), (.ro, (.list 91 sM)), (.ro, sV)] [(.list 53 sV)] (a0, a1, a2, ()) = f77G K a0 a1 a2 := by
  have key : ∀ (lr : LR (List tV)), runG (f77E K) Tryz.f77 [(.ro, sL), (.ro, (.list 91 sM)), (.ro, sV)] [(.list 53 sV)] (a0, a1, a2, ()) lr = f77_g K a0 a1 a2 (fun d0 d1 => lr (selC f77C [1, 1, 0, 1, 0, 0]) (f77_fr4 a0 a1 a2 d0 d1) (f77_k4 K a0 a1 a2 lr)) := by intro lr; kernel_rfl
  have h4 : (fun d0 d1 => (realL (f77E K) 1) (selC f77C [1, 1, 0, 1, 0, 0]) (f77_fr4 a0 a1 a2 d0 d1) (f77_k4 K a0 a1 a2 (realL (f77E K) 1))) = fun d0 d1 => f77_l4 K a0 a1 a2 K d0 d1 := by
    funext d0 d1
    exact f77_t4 K a0 a1 a2 d0 d1 K d0 d1
  exact runF_G (n0 := 1) (by rfl) ((key (realL (f77E K) 1)).trans (by rw [h4] <;> rfl))
theorem f60_t4 (K : Nat) (a0 : Int × Int × Int) (a1 : List tM) (y1 : List tV) (bq5 : Int) (bq6 : List (List tV)) : ∀ (n : Nat) (q5 : Int) (q6 : List (List tV)), loopN (exec (f60E K) 1 (selC f60C [1, 1, 1, 0, 1, 0, 0])) 1 (f60_fr4 a0 a1 y1 bq5 bq6) n (f60_fr4 a0 a1 y1 q5 q6) (f60_k4 K a0 a1 (realL (f60E K) 1)) = f60_l4 K a0 a1 y1 n q5 q6 := by
  have key : ∀ (lr : LR (List (List tV))) (L : Fr → Option (List (List tV))) (q5 : Int) (q6 : List (List tV)), execG (f60E K) 1 lr (selC f60C [1, 1, 1, 0, 1, 0, 0]) (f60_fr4 a0 a1 y1 q5 q6) (loopK 1 (f60_fr4 a0 a1 y1 bq5 bq6) L (f60_k4 K a0 a1 lr)) = f60_b4 K a0 a1 y1 (fun v0 v1 => L (f60_fr4 a0 a1 y1 v0 v1)) q5 q6 := by
    intro lr L q5 q6; kernel_rfl
  intro n q5 q6
  refine loopN_iter (X := Int × List (List tV)) (frame := fun x => (f60_fr4 a0 a1 y1 x.1 x.2)) (body := (fun L x => (fun L4 => f60_b4 K a0 a1 y1 L4 x.1 x.2) (fun v0 v1 => L (v0, v1)))) (fun L x => ?_) n (q5, q6)
  rw [exec_G]
  exact (key (realL (f60E K) 1) L x.1 x.2).trans (by rfl)
theorem f60_run (K : Nat) (a0 : Int × Int × Int) (a1 : List tM) : runF (f60E K) Tryz.f60 [(.ro, sL), (.ro, (.list 91 sM))] [(.list 72 (.list 53 sV))] (a0, a1, ()) = f60G K a0 a1 := by
  have key : ∀ (lr : LR (List (List tV))), runG (f60E K) Tryz.f60 [(.ro, sL), (.ro, (.list 91 sM))] [(.list 72 (.list 53 sV))] (a0, a1, ()) lr = f60_g K a0 a1 (fun c0 d0 d1 => lr (selC f60C [1, 1, 1, 0, 1, 0, 0]) (f60_fr4 a0 a1 c0 d0 d1) (f60_k4 K a0 a1 lr)) := by intro lr; kernel_rfl
  have h4 : (fun c0 d0 d1 => (realL (f60E K) 1) (selC f60C [1, 1, 1, 0, 1, 0, 0]) (f60_fr4 a0 a1 c0 d0 d1) (f60_k4 K a0 a1 (realL (f60E K) 1))) = fun c0 d0 d1 => f60_l4 K a0 a1 c0 K d0 d1 := by
    funext c0 d0 d1
    exact f60_t4 K a0 a1 c0 d0 d1 K d0 d1
  exact runF_G (n0 := 1) (by rfl) ((key (realL (f60E K) 1)).trans (by rw [h4] <;> rfl))
theorem f20_run (K : Nat) (a0 : Int × tL × List Int) : runF (f20E K) Tryz.f20 [(.ro, (.cons sI (.cons sL (.list 2 sI))))] [(.list 72 (.list 53 sV)), sI] (a0, ()) = f20G K a0 := by kernel_rfl
theorem f63_run (K : Nat) (a0 : Int) (a1 : Int) (a2 : Int) : runF (f63E K) Tryz.f63 [(.ro, sI), (.ro, sI), (.ro, sI)] [.bool] (a0, a1, a2, ()) = f63G K a0 a1 a2 := by kernel_rfl
theorem f138_run (K : Nat) (a0 : Int) : runF (f138E K) Tryz.f138 [(.ro, sI)] [.bool] (a0, ()) = f138G K a0 := by kernel_rfl
theorem f140_run (K : Nat) (a0 : Int × Int × Int) : runF (f140E K) Tryz.f140 [(.ro, sL)] [sI] (a0, ()) = f140G K a0 := by kernel_rfl
theorem f139_run (K : Nat) (a0 : Int × Int × Int) : runF (f139E K) Tryz.f139 [(.ro, sL)] [.bool] (a0, ()) = f139G K a0 := by kernel_rfl
theorem f157_run (K : Nat) (a0 : Int) (a1 : Int) (a2 : Int) : runF (f157E K) Tryz.f157 [(.ro, sI), (.cap, sI), (.cap, sI)] [.bool] (a0, a1, a2, ()) = f157G K a0 a1 a2 := by kernel_rfl
theorem f219_t3 (K : Nat) (a0 : List Int) (a1 : (Int → Option Bool)) (bq4 : Int) : ∀ (n : Nat) (q4 : Int), loopN (exec (f219E K) 1 (selC f219C [1, 0, 1, 0, 0])) 1 (f219_fr3 a0 a1 bq4) n (f219_fr3 a0 a1 q4) (f219_k3 K a0 a1 (realL (f219E K) 1)) = f219_l3 K a0 a1 n q4 := by
  have key : ∀ (lr : LR Int) (L : Fr → Option Int) (q4 : Int), execG (f219E K) 1 lr (selC f219C [1, 0, 1, 0, 0]) (f219_fr3 a0 a1 q4) (loopK 1 (f219_fr3 a0 a1 bq4) L (f219_k3 K a0 a1 lr)) = f219_b3 K a0 a1 (fun v0 => L (f219_fr3 a0 a1 v0)) q4 := by
    intro lr L q4; kernel_rfl
  intro n q4
  refine loopN_iter (X := Int) (frame := fun x => (f219_fr3 a0 a1 x)) (body := (fun L x => (fun L3 => f219_b3 K a0 a1 L3 x) (fun v0 => L v0))) (fun L x => ?_) n q4
  rw [exec_G]
  exact (key (realL (f219E K) 1) L x).trans (by rfl)
theorem f219_run (K : Nat) (a0 : List Int) (a1 : (Int → Option Bool)) : runF (f219E K) Tryz.f219 [(.ro, (.list 2 sI)), (.ro, (.fn1 sI .bool))] [sI] (a0, a1, ()) = f219G K a0 a1 := by
  have key : ∀ (lr : LR Int), runG (f219E K) Tryz.f219 [(.ro, (.list 2 sI)), (.ro, (.fn1 sI .bool))] [sI] (a0, a1, ()) lr = f219_g K a0 a1 (fun d0 => lr (selC f219C [1, 0, 1, 0, 0]) (f219_fr3 a0 a1 d0) (f219_k3 K a0 a1 lr)) := by intro lr; kernel_rfl
  have h3 : (fun d0 => (realL (f219E K) 1) (selC f219C [1, 0, 1, 0, 0]) (f219_fr3 a0 a1 d0) (f219_k3 K a0 a1 (realL (f219E K) 1))) = fun d0 => f219_l3 K a0 a1 K d0 := by
    funext d0
    exact f219_t3 K a0 a1 d0 K d0
  exact runF_G (n0 := 1) (by rfl) ((key (realL (f219E K) 1)).trans (by rw [h3] <;> rfl))
theorem f156_run (K : Nat) (a0 : List Int) (a1 : (Int → Option Bool)) : runF (f156E K) Tryz.f156 [(.ro, (.list 2 sI)), (.ro, (.fn1 sI .bool))] [.bool] (a0, a1, ()) = f156G K a0 a1 := by kernel_rfl
theorem f93_run (K : Nat) (a0 : List Int) (a1 : Int) (a2 : Int) : runF (f93E K) Tryz.f93 [(.ro, (.list 2 sI)), (.ro, sI), (.ro, sI)] [.bool] (a0, a1, a2, ()) = f93G K a0 a1 a2 := by kernel_rfl
theorem f70_run (K : Nat) (a0 : Int × tL × List Int) : runF (f70E K) Tryz.f70 [(.ro, (.cons sI (.cons sL (.list 2 sI))))] [.bool] (a0, ()) = f70G K a0 := by kernel_rfl
theorem f198_run (K : Nat) (a0 : Int × Int × Int) : runF (f198E K) Tryz.f198 [(.ro, sL)] [sV, sV] (a0, ()) = f198G K a0 := by kernel_rfl
theorem f108_t9 (K : Nat) (a0 : Int × Int × Int) (q7 : Int) (F6 : Fr → Option (List tV)) (bq7 : Int) (bq8 : List tV) (bq10 : Int) (bq11 : List tV) : ∀ (n : Nat) (q10 : Int) (q11 : List tV), loopN (exec (f108E K) 0 (selC f108C [1, 1, 0, 1, 0, 0, 1, 1, 0, 0, 1, 1, 0, 0])) 0 (f108_fr9 a0 q7 bq10 bq11) n (f108_fr9 a0 q7 q10 q11) (f108_k9 K a0 F6 bq7 bq8 (realL (f108E K) 0)) = f108_l9 K a0 q7 (fun v0 v1 => F6 (f108_fr6 a0 v0 v1)) n q10 q11 := by
  have key : ∀ (lr : LR (List tV)) (L : Fr → Option (List tV)) (q10 : Int) (q11 : List tV), execG (f108E K) 0 lr (selC f108C [1, 1, 0, 1, 0, 0, 1, 1, 0, 0, 1, 1, 0, 0]) (f108_fr9 a0 q7 q10 q11) (loopK 0 (f108_fr9 a0 q7 bq10 bq11) L (f108_k9 K a0 F6 bq7 bq8 lr)) = f108_b9 K a0 q7 (fun v0 v1 => F6 (f108_fr6 a0 v0 v1)) (fun v0 v1 => L (f108_fr9 a0 q7 v0 v1)) q10 q11 := by
    intro lr L q10 q11; kernel_rfl
  intro n q10 q11
  refine loopN_iter (X := Int × List tV) (frame := fun x => (f108_fr9 a0 q7 x.1 x.2)) (body := (fun L x => (fun L9 => f108_b9 K a0 q7 (fun v0 v1 => F6 (f108_fr6 a0 v0 v1)) L9 x.1 x.2) (fun v0 v1 => L (v0, v1)))) (fun L x => ?_) n (q10, q11)
  rw [exec_G]
  exact (key (realL (f108E K) 0) L x.1 x.2).trans (by rfl)
theorem f108_t6 (K : Nat) (a0 : Int × Int × Int) (bq7 : Int) (bq8 : List tV) : ∀ (n : Nat) (q7 : Int) (q8 : List tV), loopN (exec (f108E K) 0 (selC f108C [1, 1, 0, 1, 0, 0])) 0 (f108_fr6 a0 bq7 bq8) n (f108_fr6 a0 q7 q8) (f108_k6 K a0 (realL (f108E K) 0)) = f108_l6 K a0 n q7 q8 := by
  have key : ∀ (lr : LR (List tV)) (L : Fr → Option (List tV)) (q7 : Int) (q8 : List tV), execG (f108E K) 0 lr (selC f108C [1, 1, 0, 1, 0, 0]) (f108_fr6 a0 q7 q8) (loopK 0 (f108_fr6 a0 bq7 bq8) L (f108_k6 K a0 lr)) = f108_b6 K a0 (fun c0 d0 d1 => lr (selC f108C [1, 1, 0, 1, 0, 0, 1, 1, 0, 0, 1, 1, 0, 0]) (f108_fr9 a0 c0 d0 d1) (f108_k9 K a0 L bq7 bq8 lr)) (fun v0 v1 => L (f108_fr6 a0 v0 v1)) q7 q8 := by
    intro lr L q7 q8; kernel_rfl
  intro n q7 q8
  refine loopN_iter (X := Int × List tV) (frame := fun x => (f108_fr6 a0 x.1 x.2)) (body := (fun L x => (fun L6 => f108_b6 K a0 (fun c0 d0 d1 => f108_l9 K a0 c0 L6 K d0 d1) L6 x.1 x.2) (fun v0 v1 => L (v0, v1)))) (fun L x => ?_) n (q7, q8)
  rw [exec_G]
  have h9 : (fun c0 d0 d1 => (realL (f108E K) 0) (selC f108C [1, 1, 0, 1, 0, 0, 1, 1, 0, 0, 1, 1, 0, 0]) (f108_fr9 a0 c0 d0 d1) (f108_k9 K a0 L bq7 bq8 (realL (f108E K) 0))) = fun c0 d0 d1 => f108_l9 K a0 c0 (fun v0 v1 => L (f108_fr6 a0 v0 v1)) K d0 d1 := by
    funext c0 d0 d1
    exact f108_t9 K a0 c0 L bq7 bq8 d0 d1 K d0 d1
  exact (key (realL (f108E K) 0) L x.1 x.2).trans (by rw [h9] <;> rfl)
theorem f108_run (K : Nat) (a0 : Int × Int × Int) : runF (f108E K) Tryz.f108 [(.ro, sL)] [(.list 53 sV)] (a0, ()) = f108G K a0 := by
  have key : ∀ (lr : LR (List tV)), runG (f108E K) Tryz.f108 [(.ro, sL)] [(.list 53 sV)] (a0, ()) lr = f108_g K a0 (fun d0 d1 => lr (selC f108C [1, 1, 0, 1, 0, 0]) (f108_fr6 a0 d0 d1) (f108_k6 K a0 lr)) := by intro lr; kernel_rfl
  have h6 : (fun d0 d1 => (realL (f108E K) 0) (selC f108C [1, 1, 0, 1, 0, 0]) (f108_fr6 a0 d0 d1) (f108_k6 K a0 (realL (f108E K) 0))) = fun d0 d1 => f108_l6 K a0 K d0 d1 := by
    funext d0 d1
    exact f108_t6 K a0 d0 d1 K d0 d1
  exact runF_G (n0 := 0) (by rfl) ((key (realL (f108E K) 0)).trans (by rw [h6] <;> rfl))
theorem f199_run (K : Nat) : runF (f199E K) Tryz.f199 [] [sA] (()) = f199G K := by kernel_rfl
theorem f206_run (K : Nat) (a0 : Int × Int × Int × Int) (a1 : Int × Int) : runF (f206E K) Tryz.f206 [(.ro, sA), (.ro, sV)] [sV] (a0, a1, ()) = f206G K a0 a1 := by kernel_rfl
theorem f174_run (K : Nat) (a0 : Int × Int) (a1 : Int × Int) : runF (f174E K) Tryz.f174 [(.ro, sV), (.ro, sV)] [sV] (a0, a1, ()) = f174G K a0 a1 := by kernel_rfl
theorem f207_run (K : Nat) (a0 : tA × Int × Int) (a1 : Int × Int) : runF (f207E K) Tryz.f207 [(.ro, sM), (.ro, sV)] [sV] (a0, a1, ()) = f207G K a0 a1 := by kernel_rfl
theorem f183_run (K : Nat) (a0 : Int) (a1 : Int) : runF (f183E K) Tryz.f183 [(.ro, sI), (.ro, sI)] [sI] (a0, a1, ()) = f183G K a0 a1 := by kernel_rfl
theorem f119_run (K : Nat) (a0 : Int × Int × Int) (a1 : Int × Int) : runF (f119E K) Tryz.f119 [(.ro, sL), (.ro, sV)] [sV] (a0, a1, ()) = f119G K a0 a1 := by kernel_rfl
theorem f82_run (K : Nat) (a0 : Int × Int × Int) (a1 : Int × Int) : runF (f82E K) Tryz.f82 [(.ro, sL), (.ro, sV)] [sI] (a0, a1, ()) = f82G K a0 a1 := by kernel_rfl
theorem f125_run (K : Nat) (a0 : Int × tL × List Int) (a1 : Int × Int) : runF (f125E K) Tryz.f125 [(.ro, (.cons sI (.cons sL (.list 2 sI)))), (.ro, sV)] [sI] (a0, a1, ()) = f125G K a0 a1 := by kernel_rfl
theorem f145_t5 (K : Nat) (a0 : Int × tL × List Int) (a1 : tA × Int × Int) (y1 : List tV) (bq6 : Int) : ∀ (n : Nat) (q6 : Int), loopN (exec (f145E K) 1 (selC f145C [1, 0, 1, 0, 0])) 1 (f145_fr5 a0 a1 y1 bq6) n (f145_fr5 a0 a1 y1 q6) (f145_k5 K a0 a1 (realL (f145E K) 1)) = f145_l5 K a0 a1 y1 n q6 := by
  have key : ∀ (lr : LR Bool) (L : Fr → Option Bool) (q6 : Int), execG (f145E K) 1 lr (selC f145C [1, 0, 1, 0, 0]) (f145_fr5 a0 a1 y1 q6) (loopK 1 (f145_fr5 a0 a1 y1 bq6) L (f145_k5 K a0 a1 lr)) = f145_b5 K a0 a1 y1 (fun v0 => L (f145_fr5 a0 a1 y1 v0)) q6 := by
    intro lr L q6; kernel_rfl
  intro n q6
  refine loopN_iter (X := Int) (frame := fun x => (f145_fr5 a0 a1 y1 x)) (body := (fun L x => (fun L5 => f145_b5 K a0 a1 y1 L5 x) (fun v0 => L v0))) (fun L x => ?_) n q6
  rw [exec_G]
  exact (key (realL (f145E K) 1) L x).trans (by rfl)
theorem f145_run (K : Nat) (a0 : Int × tL × List Int) (a1 : tA × Int × Int) : runF (f145E K) Tryz.f145 [(.ro, (.cons sI (.cons sL (.list 2 sI)))), (.ro, sM)] [.bool] (a0, a1, ()) = f145G K a0 a1 := by
  have key : ∀ (lr : LR Bool), runG (f145E K) Tryz.f145 [(.ro, (.cons sI (.cons sL (.list 2 sI)))), (.ro, sM)] [.bool] (a0, a1, ()) lr = f145_g K a0 a1 (fun c0 d0 => lr (selC f145C [1, 0, 1, 0, 0]) (f145_fr5 a0 a1 c0 d0) (f145_k5 K a0 a1 lr)) := by intro lr; kernel_rfl
  have h5 : (fun c0 d0 => (realL (f145E K) 1) (selC f145C [1, 0, 1, 0, 0]) (f145_fr5 a0 a1 c0 d0) (f145_k5 K a0 a1 (realL (f145E K) 1))) = fun c0 d0 => f145_l5 K a0 a1 c0 K d0 := by
    funext c0 d0
    exact f145_t5 K a0 a1 c0 d0 K d0
  exact runF_G (n0 := 1) (by rfl) ((key (realL (f145E K) 1)).trans (by rw [h5] <;> rfl))
theorem f245_run (K : Nat) (a0 : Int × Int) (a1 : Int) : runF (f245E K) Tryz.f245 [(.ro, sV), (.ro, sI)] [sV] (a0, a1, ()) = f245G K a0 a1 := by kernel_rfl
theorem f246_t2 (K : Nat) (a0 : Int) (a1 : Int) (bq3 : Int) (bq4 : Int) : ∀ (n : Nat) (q3 : Int) (q4 : Int), loopN (exec (f246E K) 0 (selC f246C [1, 0, 0, 0])) 0 (f246_fr2 bq3 bq4) n (f246_fr2 q3 q4) (f246_k2 K a0 a1 (realL (f246E K) 0)) = f246_l2 K n q3 q4 := by
  have key : ∀ (lr : LR Int) (L : Fr → Option Int) (q3 : Int) (q4 : Int), execG (f246E K) 0 lr (selC f246C [1, 0, 0, 0]) (f246_fr2 q3 q4) (loopK 0 (f246_fr2 bq3 bq4) L (f246_k2 K a0 a1 lr)) = f246_b2 K (fun v0 v1 => L (f246_fr2 v0 v1)) q3 q4 := by
    intro lr L q3 q4; kernel_rfl
  intro n q3 q4
  refine loopN_iter (X := Int × Int) (frame := fun x => (f246_fr2 x.1 x.2)) (body := (fun L x => (fun L2 => f246_b2 K L2 x.1 x.2) (fun v0 v1 => L (v0, v1)))) (fun L x => ?_) n (q3, q4)
  rw [exec_G]
  exact (key (realL (f246E K) 0) L x.1 x.2).trans (by rfl)
theorem f246_run (K : Nat) (a0 : Int) (a1 : Int) : runF (f246E K) Tryz.f246 [(.ro, sI), (.ro, sI)] [sI] (a0, a1, ()) = f246G K a0 a1 := by
  have key : ∀ (lr : LR Int), runG (f246E K) Tryz.f246 [(.ro, sI), (.ro, sI)] [sI] (a0, a1, ()) lr = f246_g K a0 a1 (fun d0 d1 => lr (selC f246C [1, 0, 0, 0]) (f246_fr2 d0 d1) (f246_k2 K a0 a1 lr)) := by intro lr; kernel_rfl
  have h2 : (fun d0 d1 => (realL (f246E K) 0) (selC f246C [1, 0, 0, 0]) (f246_fr2 d0 d1) (f246_k2 K a0 a1 (realL (f246E K) 0))) = fun d0 d1 => f246_l2 K K d0 d1 := by
    funext d0 d1
    exact f246_t2 K a0 a1 d0 d1 K d0 d1
  exact runF_G (n0 := 0) (by rfl) ((key (realL (f246E K) 0)).trans (by rw [h2] <;> rfl))
theorem f200_t18 (K : Nat) (a0 : List tV) (q14 : Int) (q15 : Int) (F13 : Fr → Option tL) (bq14 : Int) (bq15 : Int) (bq16 : Int) (bq17 : Int) (bq19 : Int) (bq20 : Int) (bq21 : Int) (bq22 : Int) : ∀ (n : Nat) (q19 : Int) (q20 : Int) (q21 : Int) (q22 : Int), loopN (exec (f200E K) 1 (selC f200C [1, 1, 0, 1, 0, 0, 1, 1, 0, 0, 1, 0, 0, 0])) 1 (f200_fr18 a0 q14 q15 bq19 bq20 bq21 bq22) n (f200_fr18 a0 q14 q15 q19 q20 q21 q22) (f200_k18 K a0 F13 bq14 bq15 bq16 bq17 (realL (f200E K) 1)) = f200_l18 K a0 q14 q15 (fun v0 v1 v2 v3 => F13 (f200_fr13 a0 v0 v1 v2 v3)) n q19 q20 q21 q22 := by
  have key : ∀ (lr : LR tL) (L : Fr → Option tL) (q19 : Int) (q20 : Int) (q21 : Int) (q22 : Int), execG (f200E K) 1 lr (selC f200C [1, 1, 0, 1, 0, 0, 1, 1, 0, 0, 1, 0, 0, 0]) (f200_fr18 a0 q14 q15 q19 q20 q21 q22) (loopK 1 (f200_fr18 a0 q14 q15 bq19 bq20 bq21 bq22) L (f200_k18 K a0 F13 bq14 bq15 bq16 bq17 lr)) = f200_b18 K a0 q14 q15 (fun v0 v1 v2 v3 => F13 (f200_fr13 a0 v0 v1 v2 v3)) (fun v0 v1 v2 v3 => L (f200_fr18 a0 q14 q15 v0 v1 v2 v3)) q19 q20 q21 q22 := by
    intro lr L q19 q20 q21 q22; kernel_rfl
  intro n q19 q20 q21 q22
  refine loopN_iter (X := Int × Int × Int × Int) (frame := fun x => (f200_fr18 a0 q14 q15 x.1 x.2.1 x.2.2.1 x.2.2.2)) (body := (fun L x => (fun L18 => f200_b18 K a0 q14 q15 (fun v0 v1 v2 v3 => F13 (f200_fr13 a0 v0 v1 v2 v3)) L18 x.1 x.2.1 x.2.2.1 x.2.2.2) (fun v0 v1 v2 v3 => L (v0, v1, v2, v3)))) (fun L x => ?_) n (q19, q20, q21, q22)
  rw [exec_G]
  exact (key (realL (f200E K) 1) L x.1 x.2.1 x.2.2.1 x.2.2.2).trans (by rfl)
theorem f200_t13 (K : Nat) (a0 : List tV) (bq14 : Int) (bq15 : Int) (bq16 : Int) (bq17 : Int) : ∀ (n : Nat) (q14 : Int) (q15 : Int) (q16 : Int) (q17 : Int), loopN (exec (f200E K) 1 (selC f200C [1, 1, 0, 1, 0, 0])) 1 (f200_fr13 a0 bq14 bq15 bq16 bq17) n (f200_fr13 a0 q14 q15 q16 q17) (f200_k13 K a0 (realL (f200E K) 1)) = f200_l13 K a0 n q14 q15 q16 q17 := by
  have key : ∀ (lr : LR tL) (L : Fr → Option tL) (q14 : Int) (q15 : Int) (q16 : Int) (q17 : Int), execG (f200E K) 1 lr (selC f200C [1, 1, 0, 1, 0, 0]) (f200_fr13 a0 q14 q15 q16 q17) (loopK 1 (f200_fr13 a0 bq14 bq15 bq16 bq17) L (f200_k13 K a0 lr)) = f200_b13 K a0 (fun c0 c1 d0 d1 d2 d3 => lr (selC f200C [1, 1, 0, 1, 0, 0, 1, 1, 0, 0, 1, 0, 0, 0]) (f200_fr18 a0 c0 c1 d0 d1 d2 d3) (f200_k18 K a0 L bq14 bq15 bq16 bq17 lr)) (fun v0 v1 v2 v3 => L (f200_fr13 a0 v0 v1 v2 v3)) q14 q15 q16 q17 := by
    intro lr L q14 q15 q16 q17; kernel_rfl
  intro n q14 q15 q16 q17
  refine loopN_iter (X := Int × Int × Int × Int) (frame := fun x => (f200_fr13 a0 x.1 x.2.1 x.2.2.1 x.2.2.2)) (body := (fun L x => (fun L13 => f200_b13 K a0 (fun c0 c1 d0 d1 d2 d3 => f200_l18 K a0 c0 c1 L13 K d0 d1 d2 d3) L13 x.1 x.2.1 x.2.2.1 x.2.2.2) (fun v0 v1 v2 v3 => L (v0, v1, v2, v3)))) (fun L x => ?_) n (q14, q15, q16, q17)
  rw [exec_G]
  have h18 : (fun c0 c1 d0 d1 d2 d3 => (realL (f200E K) 1) (selC f200C [1, 1, 0, 1, 0, 0, 1, 1, 0, 0, 1, 0, 0, 0]) (f200_fr18 a0 c0 c1 d0 d1 d2 d3) (f200_k18 K a0 L bq14 bq15 bq16 bq17 (realL (f200E K) 1))) = fun c0 c1 d0 d1 d2 d3 => f200_l18 K a0 c0 c1 (fun v0 v1 v2 v3 => L (f200_fr13 a0 v0 v1 v2 v3)) K d0 d1 d2 d3 := by
    funext c0 c1 d0 d1 d2 d3
    exact f200_t18 K a0 c0 c1 L bq14 bq15 bq16 bq17 d0 d1 d2 d3 K d0 d1 d2 d3
  exact (key (realL (f200E K) 1) L x.1 x.2.1 x.2.2.1 x.2.2.2).trans (by rw [h18] <;> rfl)
theorem f200_run (K : Nat) (a0 : List tV) : runF (f200E K) Tryz.f200 [(.ro, (.list 53 sV))] [sL] (a0, ()) = f200G K a0 := by
  have key : ∀ (lr : LR tL), runG (f200E K) Tryz.f200 [(.ro, (.list 53 sV))] [sL] (a0, ()) lr = f200_g K a0 (fun d0 d1 d2 d3 => lr (selC f200C [1, 1, 0, 1, 0, 0]) (f200_fr13 a0 d0 d1 d2 d3) (f200_k13 K a0 lr)) := by intro lr; kernel_rfl
  have h13 : (fun d0 d1 d2 d3 => (realL (f200E K) 1) (selC f200C [1, 1, 0, 1, 0, 0]) (f200_fr13 a0 d0 d1 d2 d3) (f200_k13 K a0 (realL (f200E K) 1))) = fun d0 d1 d2 d3 => f200_l13 K a0 K d0 d1 d2 d3 := by
    funext d0 d1 d2 d3
    exact f200_t13 K a0 d0 d1 d2 d3 K d0 d1 d2 d3
  exact runF_G (n0 := 1) (by rfl) ((key (realL (f200E K) 1)).trans (by rw [h13] <;> rfl))
theorem f142_t6 (K : Nat) (a0 : Int × tL × List Int) (y1 : tV × Int × Int) (y2 : List tV) (bq7 : Int) (bq8 : List tV) : ∀ (n : Nat) (q7 : Int) (q8 : List tV), loopN (exec (f142E K) 1 (selC f142C [1, 1, 1, 0, 1, 0, 0])) 1 (f142_fr6 a0 y1 y2 bq7 bq8) n (f142_fr6 a0 y1 y2 q7 q8) (f142_k6 K a0 (realL (f142E K) 1)) = f142_l6 K a0 y1 y2 n q7 q8 := by
  have key : ∀ (lr : LR tL) (L : Fr → Option tL) (q7 : Int) (q8 : List tV), execG (f142E K) 1 lr (selC f142C [1, 1, 1, 0, 1, 0, 0]) (f142_fr6 a0 y1 y2 q7 q8) (loopK 1 (f142_fr6 a0 y1 y2 bq7 bq8) L (f142_k6 K a0 lr)) = f142_b6 K a0 y1 y2 (fun v0 v1 => L (f142_fr6 a0 y1 y2 v0 v1)) q7 q8 := by
    intro lr L q7 q8; kernel_rfl
  intro n q7 q8
  refine loopN_iter (X := Int × List tV) (frame := fun x => (f142_fr6 a0 y1 y2 x.1 x.2)) (body := (fun L x => (fun L6 => f142_b6 K a0 y1 y2 L6 x.1 x.2) (fun v0 v1 => L (v0, v1)))) (fun L x => ?_) n (q7, q8)
  rw [exec_G]
  exact (key (realL (f142E K) 1) L x.1 x.2).trans (by rfl)
theorem f142_run (K : Nat) (a0 : Int × tL × List Int) : runF (f142E K) Tryz.f142 [(.ro, (.cons sI (.cons sL (.list 2 sI))))] [sL] (a0, ()) = f142G K a0 := by
  have key : ∀ (lr : LR tL), runG (f142E K) Tryz.f142 [(.ro, (.cons sI (.cons sL (.list 2 sI))))] [sL] (a0, ()) lr = f142_g K a0 (fun c0 c1 d0 d1 => lr (selC f142C [1, 1, 1, 0, 1, 0, 0]) (f142_fr6 a0 c0 c1 d0 d1) (f142_k6 K a0 lr)) := by intro lr; kernel_rfl
  have h6 : (fun c0 c1 d0 d1 => (realL (f142E K) 1) (selC f142C [1, 1, 1, 0, 1, 0, 0]) (f142_fr6 a0 c0 c1 d0 d1) (f142_k6 K a0 (realL (f142E K) 1))) = fun c0 c1 d0 d1 => f142_l6 K a0 c0 c1 K d0 d1 := by
    funext c0 c1 d0 d1
    exact f142_t6 K a0 c0 c1 d0 d1 K d0 d1
  exact runF_G (n0 := 1) (by rfl) ((key (realL (f142E K) 1)).trans (by rw [h6] <;> rfl))
theorem f141_t4 (K : Nat) (a0 : Int × tL × List Int) (a1 : Int × Int × Int) (y1 : List tV) (bq5 : Int) (bq6 : List Int) : ∀ (n : Nat) (q5 : Int) (q6 : List Int), loopN (exec (f141E K) 1 (selC f141C [1, 1, 0, 1, 0, 0])) 1 (f141_fr4 a0 a1 y1 bq5 bq6) n (f141_fr4 a0 a1 y1 q5 q6) (f141_k4 K a0 a1 (realL (f141E K) 1)) = f141_l4 K a0 a1 y1 n q5 q6 := by
  have key : ∀ (lr : LR (Int × tL × List Int)) (L : Fr → Option (Int × tL × List Int)) (q5 : Int) (q6 : List Int), execG (f141E K) 1 lr (selC f141C [1, 1, 0, 1, 0, 0]) (f141_fr4 a0 a1 y1 q5 q6) (loopK 1 (f141_fr4 a0 a1 y1 bq5 bq6) L (f141_k4 K a0 a1 lr)) = f141_b4 K a0 a1 y1 (fun v0 v1 => L (f141_fr4 a0 a1 y1 v0 v1)) q5 q6 := by
    intro lr L q5 q6; kernel_rfl
  intro n q5 q6
  refine loopN_iter (X := Int × List Int) (frame := fun x => (f141_fr4 a0 a1 y1 x.1 x.2)) (body := (fun L x => (fun L4 => f141_b4 K a0 a1 y1 L4 x.1 x.2) (fun v0 v1 => L (v0, v1)))) (fun L x => ?_) n (q5, q6)
  rw [exec_G]
  exact (key (realL (f141E K) 1) L x.1 x.2).trans (by rfl)
theorem f141_run (K : Nat) (a0 : Int × tL × List Int) (a1 : Int × Int × Int) : runF (f141E K) Tryz.f141 [(.ro, (.cons sI (.cons sL (.list 2 sI)))), (.ro, sL)] [(.cons sI (.cons sL (.list 2 sI)))] (a0, a1, ()) = f141G K a0 a1 := by
  have key : ∀ (lr : LR (Int × tL × List Int)), runG (f141E K) Tryz.f141 [(.ro, (.cons sI (.cons sL (.list 2 sI)))), (.ro, sL)] [(.cons sI (.cons sL (.list 2 sI)))] (a0, a1, ()) lr = f141_g K a0 a1 (fun c0 d0 d1 => lr (selC f141C [1, 1, 0, 1, 0, 0]) (f141_fr4 a0 a1 c0 d0 d1) (f141_k4 K a0 a1 lr)) := by intro lr; kernel_rfl
  have h4 : (fun c0 d0 d1 => (realL (f141E K) 1) (selC f141C [1, 1, 0, 1, 0, 0]) (f141_fr4 a0 a1 c0 d0 d1) (f141_k4 K a0 a1 (realL (f141E K) 1))) = fun c0 d0 d1 => f141_l4 K a0 a1 c0 K d0 d1 := by
    funext c0 d0 d1
    exact f141_t4 K a0 a1 c0 d0 d1 K d0 d1
  exact runF_G (n0 := 1) (by rfl) ((key (realL (f141E K) 1)).trans (by rw [h4] <;> rfl))
theorem f71_run (K : Nat) (a0 : Int × tL × List Int) : runF (f71E K) Tryz.f71 [(.ro, (.cons sI (.cons sL (.list 2 sI))))] [(.cons sI (.cons sL (.list 2 sI)))] (a0, ()) = f71G K a0 := by kernel_rfl
theorem f250_run (K : Nat) (a0 : Int) (a1 : Int × Int) : runF (f250E K) Tryz.f250 [(.ro, sI), (.ro, sV)] [sI] (a0, a1, ()) = f250G K a0 a1 := by kernel_rfl
theorem f203_t8 (K : Nat) (a0 : Int) (bq9 : Int) (bq10 : List tA) : ∀ (n : Nat) (q9 : Int) (q10 : List tA), loopN (exec (f203E K) 0 (selC f203C [1, 1, 0, 1, 0, 0])) 0 (f203_fr8 a0 bq9 bq10) n (f203_fr8 a0 q9 q10) (f203_k8 K a0 (realL (f203E K) 0)) = f203_l8 K a0 n q9 q10 := by
  have key : ∀ (lr : LR (List tA)) (L : Fr → Option (List tA)) (q9 : Int) (q10 : List tA), execG (f203E K) 0 lr (selC f203C [1, 1, 0, 1, 0, 0]) (f203_fr8 a0 q9 q10) (loopK 0 (f203_fr8 a0 bq9 bq10) L (f203_k8 K a0 lr)) = f203_b8 K a0 (fun v0 v1 => L (f203_fr8 a0 v0 v1)) q9 q10 := by
    intro lr L q9 q10; kernel_rfl
  intro n q9 q10
  refine loopN_iter (X := Int × List tA) (frame := fun x => (f203_fr8 a0 x.1 x.2)) (body := (fun L x => (fun L8 => f203_b8 K a0 L8 x.1 x.2) (fun v0 v1 => L (v0, v1)))) (fun L x => ?_) n (q9, q10)
  rw [exec_G]
  exact (key (realL (f203E K) 0) L x.1 x.2).trans (by rfl)
theorem f203_run (K : Nat) (a0 : Int) : runF (f203E K) Tryz.f203 [(.ro, sI)] [(.list 89 sA)] (a0, ()) = f203G K a0 := by
  have key : ∀ (lr : LR (List tA)), runG (f203E K) Tryz.f203 [(.ro, sI)] [(.list 89 sA)] (a0, ()) lr = f203_g K a0 (fun d0 d1 => lr (selC f203C [1, 1, 0, 1, 0, 0]) (f203_fr8 a0 d0 d1) (f203_k8 K a0 lr)) := by intro lr; kernel_rfl
  have h8 : (fun d0 d1 => (realL (f203E K) 0) (selC f203C [1, 1, 0, 1, 0, 0]) (f203_fr8 a0 d0 d1) (f203_k8 K a0 (realL (f203E K) 0))) = fun d0 d1 => f203_l8 K a0 K d0 d1 := by
    funext d0 d1
    exact f203_t8 K a0 d0 d1 K d0 d1
  exact runF_G (n0 := 0) (by rfl) ((key (realL (f203E K) 0)).trans (by rw [h8] <;> rfl))
theorem f205_run (K : Nat) (a0 : Int × Int × Int) (a1 : Int × Int) : runF (f205E K) Tryz.f205 [(.ro, sL), (.ro, sV)] [.bool] (a0, a1, ()) = f205G K a0 a1 := by kernel_rfl
theorem f204_run (K : Nat) (a0 : Int × Int × Int × Int) (a1 : Int × Int × Int) (a2 : Int × Int) (a3 : Int × Int) : runF (f204E K) Tryz.f204 [(.ro, sA), (.cap, sL), (.cap, sV), (.cap, sV)] [.bool] (a0, a1, a2, a3, ()) = f204G K a0 a1 a2 a3 := by kernel_rfl
theorem f249_t3 (K : Nat) (a0 : List tA) (a1 : (tA → Option Bool)) (bq4 : Int) : ∀ (n : Nat) (q4 : Int), loopN (exec (f249E K) 1 (selC f249C [1, 0, 1, 0, 0])) 1 (f249_fr3 a0 a1 bq4) n (f249_fr3 a0 a1 q4) (f249_k3 K a0 a1 (realL (f249E K) 1)) = f249_l3 K a0 a1 n q4 := by
  have key : ∀ (lr : LR Int) (L : Fr → Option Int) (q4 : Int), execG (f249E K) 1 lr (selC f249C [1, 0, 1, 0, 0]) (f249_fr3 a0 a1 q4) (loopK 1 (f249_fr3 a0 a1 bq4) L (f249_k3 K a0 a1 lr)) = f249_b3 K a0 a1 (fun v0 => L (f249_fr3 a0 a1 v0)) q4 := by
    intro lr L q4; kernel_rfl
  intro n q4
  refine loopN_iter (X := Int) (frame := fun x => (f249_fr3 a0 a1 x)) (body := (fun L x => (fun L3 => f249_b3 K a0 a1 L3 x) (fun v0 => L v0))) (fun L x => ?_) n q4
  rw [exec_G]
  exact (key (realL (f249E K) 1) L x).trans (by rfl)
theorem f249_run (K : Nat) (a0 : List tA) (a1 : (tA → Option Bool)) : runF (f249E K) Tryz.f249 [(.ro, (.list 89 sA)), (.ro, (.fn1 sA .bool))] [sI] (a0, a1, ()) = f249G K a0 a1 := by
  have key : ∀ (lr : LR Int), runG (f249E K) Tryz.f249 [(.ro, (.list 89 sA)), (.ro, (.fn1 sA .bool))] [sI] (a0, a1, ()) lr = f249_g K a0 a1 (fun d0 => lr (selC f249C [1, 0, 1, 0, 0]) (f249_fr3 a0 a1 d0) (f249_k3 K a0 a1 lr)) := by intro lr; kernel_rfl
  have h3 : (fun d0 => (realL (f249E K) 1) (selC f249C [1, 0, 1, 0, 0]) (f249_fr3 a0 a1 d0) (f249_k3 K a0 a1 (realL (f249E K) 1))) = fun d0 => f249_l3 K a0 a1 K d0 := by
    funext d0
    exact f249_t3 K a0 a1 d0 K d0
  exact runF_G (n0 := 1) (by rfl) ((key (realL (f249E K) 1)).trans (by rw [h3] <;> rfl))
theorem f202_t4 (K : Nat) (a0 : List tA) (a1 : (tA → Option Bool)) (y1 : Int) (bq5 : Int) (bq6 : Int) (bq7 : List tA) : ∀ (n : Nat) (q5 : Int) (q6 : Int) (q7 : List tA), loopN (exec (f202E K) 1 (selC f202C [1, 1, 1, 0, 1, 0, 0])) 1 (f202_fr4 a1 y1 bq5 bq6 bq7) n (f202_fr4 a1 y1 q5 q6 q7) (f202_k4 K a0 a1 (realL (f202E K) 1)) = f202_l4 K a1 y1 n q5 q6 q7 := by
  have key : ∀ (lr : LR (List tA)) (L : Fr → Option (List tA)) (q5 : Int) (q6 : Int) (q7 : List tA), execG (f202E K) 1 lr (selC f202C [1, 1, 1, 0, 1, 0, 0]) (f202_fr4 a1 y1 q5 q6 q7) (loopK 1 (f202_fr4 a1 y1 bq5 bq6 bq7) L (f202_k4 K a0 a1 lr)) = f202_b4 K a1 y1 (fun v0 v1 v2 => L (f202_fr4 a1 y1 v0 v1 v2)) q5 q6 q7 := by
    intro lr L q5 q6 q7; kernel_rfl
  intro n q5 q6 q7
  refine loopN_iter (X := Int × Int × List tA) (frame := fun x => (f202_fr4 a1 y1 x.1 x.2.1 x.2.2)) (body := (fun L x => (fun L4 => f202_b4 K a1 y1 L4 x.1 x.2.1 x.2.2) (fun v0 v1 v2 => L (v0, v1, v2)))) (fun L x => ?_) n (q5, q6, q7)
  rw [exec_G]
  exact (key (realL (f202E K) 1) L x.1 x.2.1 x.2.2).trans (by rfl)
theorem f202_run (K : Nat) (a0 : List tA) (a1 : (tA → Option Bool)) : runF (f202E K) Tryz.f202 [(.mv, (.list 89 sA)), (.ro, (.fn1 sA .bool))] [(.list 89 sA)] (a0, a1, ()) = f202G K a0 a1 := by
  have key : ∀ (lr : LR (List tA)), runG (f202E K) Tryz.f202 [(.mv, (.list 89 sA)), (.ro, (.fn1 sA .bool))] [(.list 89 sA)] (a0, a1, ()) lr = f202_g K a0 a1 (fun c0 d0 d1 d2 => lr (selC f202C [1, 1, 1, 0, 1, 0, 0]) (f202_fr4 a1 c0 d0 d1 d2) (f202_k4 K a0 a1 lr)) := by intro lr; kernel_rfl
  have h4 : (fun c0 d0 d1 d2 => (realL (f202E K) 1) (selC f202C [1, 1, 1, 0, 1, 0, 0]) (f202_fr4 a1 c0 d0 d1 d2) (f202_k4 K a0 a1 (realL (f202E K) 1))) = fun c0 d0 d1 d2 => f202_l4 K a1 c0 K d0 d1 d2 := by
    funext c0 d0 d1 d2
    exact f202_t4 K a0 a1 c0 d0 d1 d2 K d0 d1 d2
  exact runF_G (n0 := 1) (by rfl) ((key (realL (f202E K) 1)).trans (by rw [h4] <;> rfl))
theorem f144_run (K : Nat) (a0 : Int) (a1 : Int × Int × Int) : runF (f144E K) Tryz.f144 [(.ro, sI), (.ro, sL)] [(.list 89 sA)] (a0, a1, ()) = f144G K a0 a1 := by kernel_rfl
theorem f73_t14 (K : Nat) (a0 : Int × tL × List Int) (y1 : List tA) (q11 : Int) (y13 : List tV) (F10 : Fr → Option (List tM)) (bq11 : Int) (bq12 : List tM) (bq15 : Int) (bq16 : List tM) : ∀ (n : Nat) (q15 : Int) (q16 : List tM), loopN (exec (f73E K) 1 (selC f73C [1, 1, 0, 1, 0, 0, 1, 1, 0, 0, 1, 1, 0, 0])) 1 (f73_fr14 a0 q11 y1 y13 bq15 bq16) n (f73_fr14 a0 q11 y1 y13 q15 q16) (f73_k14 K a0 y1 F10 bq11 bq12 (realL (f73E K) 1)) = f73_l14 K a0 q11 y1 y13 (fun v0 v1 => F10 (f73_fr10 a0 y1 v0 v1)) n q15 q16 := by
  have key : ∀ (lr : LR (List tM)) (L : Fr → Option (List tM)) (q15 : Int) (q16 : List tM), execG (f73E K) 1 lr (selC f73C [1, 1, 0, 1, 0, 0, 1, 1, 0, 0, 1, 1, 0, 0]) (f73_fr14 a0 q11 y1 y13 q15 q16) (loopK 1 (f73_fr14 a0 q11 y1 y13 bq15 bq16) L (f73_k14 K a0 y1 F10 bq11 bq12 lr)) = f73_b14 K a0 q11 y1 y13 (fun v0 v1 => F10 (f73_fr10 a0 y1 v0 v1)) (fun v0 v1 => L (f73_fr14 a0 q11 y1 y13 v0 v1)) q15 q16 := by
    intro lr L q15 q16; kernel_rfl
  intro n q15 q16
  refine loopN_iter (X := Int × List tM) (frame := fun x => (f73_fr14 a0 q11 y1 y13 x.1 x.2)) (body := (fun L x => (fun L14 => f73_b14 K a0 q11 y1 y13 (fun v0 v1 => F10 (f73_fr10 a0 y1 v0 v1)) L14 x.1 x.2) (fun v0 v1 => L (v0, v1)))) (fun L x => ?_) n (q15, q16)
  rw [exec_G]
  exact (key (realL (f73E K) 1) L x.1 x.2).trans (by rfl)
theorem f73_t10 (K : Nat) (a0 : Int × tL × List Int) (y1 : List tA) (bq11 : Int) (bq12 : List tM) : ∀ (n : Nat) (q11 : Int) (q12 : List tM), loopN (exec (f73E K) 1 (selC f73C [1, 1, 0, 1, 0, 0])) 1 (f73_fr10 a0 y1 bq11 bq12) n (f73_fr10 a0 y1 q11 q12) (f73_k10 K a0 (realL (f73E K) 1)) = f73_l10 K a0 y1 n q11 q12 := by
  have key : ∀ (lr : LR (List tM)) (L : Fr → Option (List tM)) (q11 : Int) (q12 : List tM), execG (f73E K) 1 lr (selC f73C [1, 1, 0, 1, 0, 0]) (f73_fr10 a0 y1 q11 q12) (loopK 1 (f73_fr10 a0 y1 bq11 bq12) L (f73_k10 K a0 lr)) = f73_b10 K a0 y1 (fun c0 c1 d0 d1 => lr (selC f73C [1, 1, 0, 1, 0, 0, 1, 1, 0, 0, 1, 1, 0, 0]) (f73_fr14 a0 c0 y1 c1 d0 d1) (f73_k14 K a0 y1 L bq11 bq12 lr)) (fun v0 v1 => L (f73_fr10 a0 y1 v0 v1)) q11 q12 := by
    intro lr L q11 q12; kernel_rfl
  intro n q11 q12
  refine loopN_iter (X := Int × List tM) (frame := fun x => (f73_fr10 a0 y1 x.1 x.2)) (body := (fun L x => (fun L10 => f73_b10 K a0 y1 (fun c0 c1 d0 d1 => f73_l14 K a0 c0 y1 c1 L10 K d0 d1) L10 x.1 x.2) (fun v0 v1 => L (v0, v1)))) (fun L x => ?_) n (q11, q12)
  rw [exec_G]
  have h14 : (fun c0 c1 d0 d1 => (realL (f73E K) 1) (selC f73C [1, 1, 0, 1, 0, 0, 1, 1, 0, 0, 1, 1, 0, 0]) (f73_fr14 a0 c0 y1 c1 d0 d1) (f73_k14 K a0 y1 L bq11 bq12 (realL (f73E K) 1))) = fun c0 c1 d0 d1 => f73_l14 K a0 c0 y1 c1 (fun v0 v1 => L (f73_fr10 a0 y1 v0 v1)) K d0 d1 := by
    funext c0 c1 d0 d1
    exact f73_t14 K a0 y1 c0 c1 L bq11 bq12 d0 d1 K d0 d1
  exact (key (realL (f73E K) 1) L x.1 x.2).trans (by rw [h14] <;> rfl)
theorem f73_run (K : Nat) (a0 : Int × tL × List Int) : runF (f73E K) Tryz.f73 [(.ro, (.cons sI (.cons sL (.list 2 sI))))] [(.list 91 sM)] (a0, ()) = f73G K a0 := by
  have key : ∀ (lr : LR (List tM)), runG (f73E K) Tryz.f73 [(.ro, (.cons sI (.cons sL (.list 2 sI))))] [(.list 91 sM)] (a0, ()) lr = f73_g K a0 (fun c0 d0 d1 => lr (selC f73C [1, 1, 0, 1, 0, 0]) (f73_fr10 a0 c0 d0 d1) (f73_k10 K a0 lr)) := by intro lr; kernel_rfl
  have h10 : (fun c0 d0 d1 => (realL (f73E K) 1) (selC f73C [1, 1, 0, 1, 0, 0]) (f73_fr10 a0 c0 d0 d1) (f73_k10 K a0 (realL (f73E K) 1))) = fun c0 d0 d1 => f73_l10 K a0 c0 K d0 d1 := by
    funext c0 d0 d1
    exact f73_t10 K a0 c0 d0 d1 K d0 d1
  exact runF_G (n0 := 1) (by rfl) ((key (realL (f73E K) 1)).trans (by rw [h10] <;> rfl))
theorem f143_t3 (K : Nat) (a0 : List Int) (a1 : Int) (y1 : Int × Int) (bq4 : Int) (bq5 : List Int) : ∀ (n : Nat) (q4 : Int) (q5 : List Int), loopN (exec (f143E K) 1 (selC f143C [1, 1, 1, 1, 1, 1, 0, 0, 0])) 1 (f143_fr3 a0 a1 y1 bq4 bq5) n (f143_fr3 a0 a1 y1 q4 q5) (f143_k3 K a0 a1 (realL (f143E K) 1)) = f143_l3 K a0 a1 y1 n q4 q5 := by
  have key : ∀ (lr : LR (List Int)) (L : Fr → Option (List Int)) (q4 : Int) (q5 : List Int), execG (f143E K) 1 lr (selC f143C [1, 1, 1, 1, 1, 1, 0, 0, 0]) (f143_fr3 a0 a1 y1 q4 q5) (loopK 1 (f143_fr3 a0 a1 y1 bq4 bq5) L (f143_k3 K a0 a1 lr)) = f143_b3 K a0 a1 y1 (fun v0 v1 => L (f143_fr3 a0 a1 y1 v0 v1)) q4 q5 := by
    intro lr L q4 q5; kernel_rfl
  intro n q4 q5
  refine loopN_iter (X := Int × List Int) (frame := fun x => (f143_fr3 a0 a1 y1 x.1 x.2)) (body := (fun L x => (fun L3 => f143_b3 K a0 a1 y1 L3 x.1 x.2) (fun v0 v1 => L (v0, v1)))) (fun L x => ?_) n (q4, q5)
  rw [exec_G]
  exact (key (realL (f143E K) 1) L x.1 x.2).trans (by rfl)
theorem f143_run (K : Nat) (a0 : List Int) (a1 : Int) : runF (f143E K) Tryz.f143 [(.ro, (.list 2 sI)), (.ro, sI)] [(.list 2 sI)] (a0, a1, ()) = f143G K a0 a1 := by
  have key : ∀ (lr : LR (List Int)), runG (f143E K) Tryz.f143 [(.ro, (.list 2 sI)), (.ro, sI)] [(.list 2 sI)] (a0, a1, ()) lr = f143_g K a0 a1 (fun c0 d0 d1 => lr (selC f143C [1, 1, 1, 1, 1, 1, 0, 0, 0]) (f143_fr3 a0 a1 c0 d0 d1) (f143_k3 K a0 a1 lr)) := by intro lr; kernel_rfl
  have h3 : (fun c0 d0 d1 => (realL (f143E K) 1) (selC f143C [1, 1, 1, 1, 1, 1, 0, 0, 0]) (f143_fr3 a0 a1 c0 d0 d1) (f143_k3 K a0 a1 (realL (f143E K) 1))) = fun c0 d0 d1 => f143_l3 K a0 a1 c0 K d0 d1 := by
    funext c0 d0 d1
    exact f143_t3 K a0 a1 c0 d0 d1 K d0 d1
  exact runF_G (n0 := 1) (by rfl) ((key (realL (f143E K) 1)).trans (by rw [h3] <;> rfl))
theorem f150_run (K : Nat) (a0 : Int × Int × Int) (a1 : tA × Int × Int) (a2 : Int × Int) : runF (f150E K) Tryz.f150 [(.ro, sL), (.ro, sM), (.ro, sV)] [sV] (a0, a1, a2, ()) = f150G K a0 a1 a2 := by kernel_rfl
theorem f179_t2 (K : Nat) (a0 : List Int) (a1 : List Int) (bq3 : Int) : ∀ (n : Nat) (q3 : Int), loopN (exec (f179E K) 2 (selC f179C [1, 0, 1, 0, 0])) 2 (f179_fr2 a0 a1 bq3) n (f179_fr2 a0 a1 q3) (f179_k2 K a0 a1 (realL (f179E K) 2)) = f179_l2 K a0 a1 n q3 := by
  have key : ∀ (lr : LR Int) (L : Fr → Option Int) (q3 : Int), execG (f179E K) 2 lr (selC f179C [1, 0, 1, 0, 0]) (f179_fr2 a0 a1 q3) (loopK 2 (f179_fr2 a0 a1 bq3) L (f179_k2 K a0 a1 lr)) = f179_b2 K a0 a1 (fun v0 => L (f179_fr2 a0 a1 v0)) q3 := by
    intro lr L q3; kernel_rfl
  intro n q3
  refine loopN_iter (X := Int) (frame := fun x => (f179_fr2 a0 a1 x)) (body := (fun L x => (fun L2 => f179_b2 K a0 a1 L2 x) (fun v0 => L v0))) (fun L x => ?_) n q3
  rw [exec_G]
  exact (key (realL (f179E K) 2) L x).trans (by rfl)
theorem f179_run (K : Nat) (a0 : List Int) (a1 : List Int) : runF (f179E K) Tryz.f179 [(.ro, (.list 2 sI)), (.ro, (.list 2 sI))] [sI] (a0, a1, ()) = f179G K a0 a1 := by
  have key : ∀ (lr : LR Int), runG (f179E K) Tryz.f179 [(.ro, (.list 2 sI)), (.ro, (.list 2 sI))] [sI] (a0, a1, ()) lr = f179_g K a0 a1 (fun d0 => lr (selC f179C [1, 0, 1, 0, 0]) (f179_fr2 a0 a1 d0) (f179_k2 K a0 a1 lr)) := by intro lr; kernel_rfl
  have h2 : (fun d0 => (realL (f179E K) 2) (selC f179C [1, 0, 1, 0, 0]) (f179_fr2 a0 a1 d0) (f179_k2 K a0 a1 (realL (f179E K) 2))) = fun d0 => f179_l2 K a0 a1 K d0 := by
    funext d0
    exact f179_t2 K a0 a1 d0 K d0
  exact runF_G (n0 := 2) (by rfl) ((key (realL (f179E K) 2)).trans (by rw [h2] <;> rfl))
theorem f111_run (K : Nat) (a0 : Int × Int) (a1 : Int × Int) : runF (f111E K) Tryz.f111 [(.ro, sV), (.ro, sV)] [sI] (a0, a1, ()) = f111G K a0 a1 := by kernel_rfl
theorem f151_t9 (K : Nat) (a0 : List tV) (q8 : Int) (F7 : Fr → Option (List tV)) (bq8 : Int) (bq10 : Int) (bq11 : Int) (bq12 : List tV) : ∀ (n : Nat) (q10 : Int) (q11 : Int) (q12 : List tV), loopN (exec (f151E K) 1 (selC f151C [1, 1, 0, 1, 0, 0, 1, 0, 0, 1, 0, 1, 0, 1, 0, 0])) 1 (f151_fr9 a0 q8 bq10 bq11 bq12) n (f151_fr9 a0 q8 q10 q11 q12) (f151_k9 K a0 F7 bq8 (realL (f151E K) 1)) = f151_l9 K a0 q8 n q10 q11 q12 := by
  have key : ∀ (lr : LR (List tV)) (L : Fr → Option (List tV)) (q10 : Int) (q11 : Int) (q12 : List tV), execG (f151E K) 1 lr (selC f151C [1, 1, 0, 1, 0, 0, 1, 0, 0, 1, 0, 1, 0, 1, 0, 0]) (f151_fr9 a0 q8 q10 q11 q12) (loopK 1 (f151_fr9 a0 q8 bq10 bq11 bq12) L (f151_k9 K a0 F7 bq8 lr)) = f151_b9 K a0 q8 (fun v0 v1 v2 => L (f151_fr9 a0 q8 v0 v1 v2)) q10 q11 q12 := by
    intro lr L q10 q11 q12; kernel_rfl
  intro n q10 q11 q12
  refine loopN_iter (X := Int × Int × List tV) (frame := fun x => (f151_fr9 a0 q8 x.1 x.2.1 x.2.2)) (body := (fun L x => (fun L9 => f151_b9 K a0 q8 L9 x.1 x.2.1 x.2.2) (fun v0 v1 v2 => L (v0, v1, v2)))) (fun L x => ?_) n (q10, q11, q12)
  rw [exec_G]
  exact (key (realL (f151E K) 1) L x.1 x.2.1 x.2.2).trans (by rfl)
theorem f151_t7 (K : Nat) (a0 : List tV) (bq8 : Int) : ∀ (n : Nat) (q8 : Int), loopN (exec (f151E K) 1 (selC f151C [1, 1, 0, 1, 0, 0])) 1 (f151_fr7 a0 bq8) n (f151_fr7 a0 q8) (f151_k7 K a0 (realL (f151E K) 1)) = f151_l7 K a0 n q8 := by
  have key : ∀ (lr : LR (List tV)) (L : Fr → Option (List tV)) (q8 : Int), execG (f151E K) 1 lr (selC f151C [1, 1, 0, 1, 0, 0]) (f151_fr7 a0 q8) (loopK 1 (f151_fr7 a0 bq8) L (f151_k7 K a0 lr)) = f151_b7 K a0 (fun c0 d0 d1 d2 => lr (selC f151C [1, 1, 0, 1, 0, 0, 1, 0, 0, 1, 0, 1, 0, 1, 0, 0]) (f151_fr9 a0 c0 d0 d1 d2) (f151_k9 K a0 L bq8 lr)) (fun v0 => L (f151_fr7 a0 v0)) q8 := by
    intro lr L q8; kernel_rfl
  intro n q8
  refine loopN_iter (X := Int) (frame := fun x => (f151_fr7 a0 x)) (body := (fun L x => (fun L7 => f151_b7 K a0 (fun c0 d0 d1 d2 => f151_l9 K a0 c0 K d0 d1 d2) L7 x) (fun v0 => L v0))) (fun L x => ?_) n q8
  rw [exec_G]
  have h9 : (fun c0 d0 d1 d2 => (realL (f151E K) 1) (selC f151C [1, 1, 0, 1, 0, 0, 1, 0, 0, 1, 0, 1, 0, 1, 0, 0]) (f151_fr9 a0 c0 d0 d1 d2) (f151_k9 K a0 L bq8 (realL (f151E K) 1))) = fun c0 d0 d1 d2 => f151_l9 K a0 c0 K d0 d1 d2 := by
    funext c0 d0 d1 d2
    exact f151_t9 K a0 c0 L bq8 d0 d1 d2 K d0 d1 d2
  exact (key (realL (f151E K) 1) L x).trans (by rw [h9] <;> rfl)
theorem f151_run (K : Nat) (a0 : List tV) : runF (f151E K) Tryz.f151 [(.mv, (.list 53 sV))] [(.list 53 sV)] (a0, ()) = f151G K a0 := by
  have key : ∀ (lr : LR (List tV)), runG (f151E K) Tryz.f151 [(.mv, (.list 53 sV))] [(.list 53 sV)] (a0, ()) lr = f151_g K a0 (fun d0 => lr (selC f151C [1, 1, 0, 1, 0, 0]) (f151_fr7 a0 d0) (f151_k7 K a0 lr)) := by intro lr; kernel_rfl
  have h7 : (fun d0 => (realL (f151E K) 1) (selC f151C [1, 1, 0, 1, 0, 0]) (f151_fr7 a0 d0) (f151_k7 K a0 (realL (f151E K) 1))) = fun d0 => f151_l7 K a0 K d0 := by
    funext d0
    exact f151_t7 K a0 d0 K d0
  exact runF_G (n0 := 1) (by rfl) ((key (realL (f151E K) 1)).trans (by rw [h7] <;> rfl))
theorem f80_t3 (K : Nat) (a0 : Int × Int × Int) (a1 : List tM) (a2 : Int × Int) (bq4 : Int) (bq5 : List tV) : ∀ (n : Nat) (q4 : Int) (q5 : List tV), loopN (exec (f80E K) 1 (selC f80C [1, 1, 0, 1, 0, 0])) 1 (f80_fr3 a0 a1 a2 bq4 bq5) n (f80_fr3 a0 a1 a2 q4 q5) (f80_k3 K a0 a1 a2 (realL (f80E K) 1)) = f80_l3 K a0 a1 a2 n q4 q5 := by
  have key : ∀ (lr : LR (List tV)) (L : Fr → Option (List tV)) (q4 : Int) (q5 : List tV), execG (f80E K) 1 lr (selC f80C [1, 1, 0, 1, 0, 0]) (f80_fr3 a0 a1 a2 q4 q5) (loopK 1 (f80_fr3 a0 a1 a2 bq4 bq5) L (f80_k3 K a0 a1 a2 lr)) = f80_b3 K a0 a1 a2 (fun v0 v1 => L (f80_fr3 a0 a1 a2 v0 v1)) q4 q5 := by
    intro lr L q4 q5; kernel_rfl
  intro n q4 q5
  refine loopN_iter (X := Int × List tV) (frame := fun x => (f80_fr3 a0 a1 a2 x.1 x.2)) (body := (fun L x => (fun L3 => f80_b3 K a0 a1 a2 L3 x.1 x.2) (fun v0 v1 => L (v0, v1)))) (fun L x => ?_) n (q4, q5)
  rw [exec_G]
  exact (key (realL (f80E K) 1) L x.1 x.2).trans (by rfl)
theorem f80_run (K : Nat) (a0 : Int × Int × Int) (a1 : List tM) (a2 : Int × Int) : runF (f80E K) Tryz.f80 [(.ro, sL), (.ro, (.list 91 sM)), (.ro, sV)] [(.list 53 sV)] (a0, a1, a2, ()) = f80G K a0 a1 a2 := by
  have key : ∀ (lr : LR (List tV)), runG (f80E K) Tryz.f80 [(.ro, sL), (.ro, (.list 91 sM)), (.ro, sV)] [(.list 53 sV)] (a0, a1, a2, ()) lr = f80_g K a0 a1 a2 (fun d0 d1 => lr (selC f80C [1, 1, 0, 1, 0, 0]) (f80_fr3 a0 a1 a2 d0 d1) (f80_k3 K a0 a1 a2 lr)) := by intro lr; kernel_rfl
  have h3 : (fun d0 d1 => (realL (f80E K) 1) (selC f80C [1, 1, 0, 1, 0, 0]) (f80_fr3 a0 a1 a2 d0 d1) (f80_k3 K a0 a1 a2 (realL (f80E K) 1))) = fun d0 d1 => f80_l3 K a0 a1 a2 K d0 d1 := by
    funext d0 d1
    exact f80_t3 K a0 a1 a2 d0 d1 K d0 d1
  exact runF_G (n0 := 1) (by rfl) ((key (realL (f80E K) 1)).trans (by rw [h3] <;> rfl))
theorem f72_t22 (K : Nat) (a0 : Int × Int × Int) (a1 : List tM) (y3 : List tV) (q17 : Int) (q18 : List (List tV)) (q19 : List Int) (y20 : Int) (y21 : List tV) (F16 : Fr → Option ((List (List tV)) × List Int)) (bq17 : Int) (bq18 : List (List tV)) (bq19 : List Int) (bq23 : Int) (bq24 : List Int) : ∀ (n : Nat) (q23 : Int) (q24 : List Int), loopN (exec (f72E K) 1 (selC f72C [1, 1, 0, 1, 0, 0, 1, 1, 0, 0, 1, 1, 1, 0, 1, 0, 0])) 1 (f72_fr22 a0 a1 q17 q18 q19 y3 y20 y21 bq23 bq24) n (f72_fr22 a0 a1 q17 q18 q19 y3 y20 y21 q23 q24) (f72_k22 K a0 a1 y3 F16 bq17 bq18 bq19 (realL (f72E K) 1)) = f72_l22 K a0 a1 q17 q18 q19 y3 y20 y21 (fun v0 v1 v2 => F16 (f72_fr16 a0 a1 y3 v0 v1 v2)) n q23 q24 := by
  have key : ∀ (lr : LR ((List (List tV)) × List Int)) (L : Fr → Option ((List (List tV)) × List Int)) (q23 : Int) (q24 : List Int), execG (f72E K) 1 lr (selC f72C [1, 1, 0, 1, 0, 0, 1, 1, 0, 0, 1, 1, 1, 0, 1, 0, 0]) (f72_fr22 a0 a1 q17 q18 q19 y3 y20 y21 q23 q24) (loopK 1 (f72_fr22 a0 a1 q17 q18 q19 y3 y20 y21 bq23 bq24) L (f72_k22 K a0 a1 y3 F16 bq17 bq18 bq19 lr)) = f72_b22 K a0 a1 q17 q18 q19 y3 y20 y21 (fun v0 v1 v2 => F16 (f72_fr16 a0 a1 y3 v0 v1 v2)) (fun v0 v1 => L (f72_fr22 a0 a1 q17 q18 q19 y3 y20 y21 v0 v1)) q23 q24 := by
    intro lr L q23 q24; kernel_rfl
  intro n q23 q24
  refine loopN_iter (X := Int × List Int) (frame := fun x => (f72_fr22 a0 a1 q17 q18 q19 y3 y20 y21 x.1 x.2)) (body := (fun L x => (fun L22 => f72_b22 K a0 a1 q17 q18 q19 y3 y20 y21 (fun v0 v1 v2 => F16 (f72_fr16 a0 a1 y3 v0 v1 v2)) L22 x.1 x.2) (fun v0 v1 => L (v0, v1)))) (fun L x => ?_) n (q23, q24)
  rw [exec_G]
  exact (key (realL (f72E K) 1) L x.1 x.2).trans (by rfl)
theorem f72_t16 (K : Nat) (a0 : Int × Int × Int) (a1 : List tM) (y3 : List tV) (bq17 : Int) (bq18 : List (List tV)) (bq19 : List Int) : ∀ (n : Nat) (q17 : Int) (q18 : List (List tV)) (q19 : List Int), loopN (exec (f72E K) 1 (selC f72C [1, 1, 0, 1, 0, 0])) 1 (f72_fr16 a0 a1 y3 bq17 bq18 bq19) n (f72_fr16 a0 a1 y3 q17 q18 q19) (f72_k16 K a0 a1 (realL (f72E K) 1)) = f72_l16 K a0 a1 y3 n q17 q18 q19 := by
  have key : ∀ (lr : LR ((List (List tV)) × List Int)) (L : Fr → Option ((List (List tV)) × List Int)) (q17 : Int) (q18 : List (List tV)) (q19 : List Int), execG (f72E K) 1 lr (selC f72C [1, 1, 0, 1, 0, 0]) (f72_fr16 a0 a1 y3 q17 q18 q19) (loopK 1 (f72_fr16 a0 a1 y3 bq17 bq18 bq19) L (f72_k16 K a0 a1 lr)) = f72_b16 K a0 a1 y3 (fun c0 c1 c2 c3 c4 d0 d1 => lr (selC f72C [1, 1, 0, 1, 0, 0, 1, 1, 0, 0, 1, 1, 1, 0, 1, 0, 0]) (f72_fr22 a0 a1 c0 c1 c2 y3 c3 c4 d0 d1) (f72_k22 K a0 a1 y3 L bq17 bq18 bq19 lr)) (fun v0 v1 v2 => L (f72_fr16 a0 a1 y3 v0 v1 v2)) q17 q18 q19 := by
    intro lr L q17 q18 q19; kernel_rfl
  intro n q17 q18 q19
  refine loopN_iter (X := Int × List (List tV) × List Int) (frame := fun x => (f72_fr16 a0 a1 y3 x.1 x.2.1 x.2.2)) (body := (fun L x => (fun L16 => f72_b16 K a0 a1 y3 (fun c0 c1 c2 c3 c4 d0 d1 => f72_l22 K a0 a1 c0 c1 c2 y3 c3 c4 L16 K d0 d1) L16 x.1 x.2.1 x.2.2) (fun v0 v1 v2 => L (v0, v1, v2)))) (fun L x => ?_) n (q17, q18, q19)
  rw [exec_G]
  have h22 : (fun c0 c1 c2 c3 c4 d0 d1 => (realL (f72E K) 1) (selC f72C [1, 1, 0, 1, 0, 0, 1, 1, 0, 0, 1, 1, 1, 0, 1, 0, 0]) (f72_fr22 a0 a1 c0 c1 c2 y3 c3 c4 d0 d1) (f72_k22 K a0 a1 y3 L bq17 bq18 bq19 (realL (f72E K) 1))) = fun c0 c1 c2 c3 c4 d0 d1 => f72_l22 K a0 a1 c0 c1 c2 y3 c3 c4 (fun v0 v1 v2 => L (f72_fr16 a0 a1 y3 v0 v1 v2)) K d0 d1 := by
    funext c0 c1 c2 c3 c4 d0 d1
    exact f72_t22 K a0 a1 y3 c0 c1 c2 c3 c4 L bq17 bq18 bq19 d0 d1 K d0 d1
  exact (key (realL (f72E K) 1) L x.1 x.2.1 x.2.2).trans (by rw [h22] <;> rfl)
theorem f72_run (K : Nat) (a0 : Int × Int × Int) (a1 : List tM) : runF (f72E K) Tryz.f72 [(.ro, sL), (.ro, (.list 91 sM))] [(.list 72 (.list 53 sV)), (.list 2 sI)] (a0, a1, ()) = f72G K a0 a1 := by
  have key : ∀ (lr : LR ((List (List tV)) × List Int)), runG (f72E K) Tryz.f72 [(.ro, sL), (.ro, (.list 91 sM))] [(.list 72 (.list 53 sV)), (.list 2 sI)] (a0, a1, ()) lr = f72_g K a0 a1 (fun c0 d0 d1 d2 => lr (selC f72C [1, 1, 0, 1, 0, 0]) (f72_fr16 a0 a1 c0 d0 d1 d2) (f72_k16 K a0 a1 lr)) := by intro lr; kernel_rfl
  have h16 : (fun c0 d0 d1 d2 => (realL (f72E K) 1) (selC f72C [1, 1, 0, 1, 0, 0]) (f72_fr16 a0 a1 c0 d0 d1 d2) (f72_k16 K a0 a1 (realL (f72E K) 1))) = fun c0 d0 d1 d2 => f72_l16 K a0 a1 c0 K d0 d1 d2 := by
    funext c0 d0 d1 d2
    exact f72_t16 K a0 a1 c0 d0 d1 d2 K d0 d1 d2
  exact runF_G (n0 := 1) (by rfl) ((key (realL (f72E K) 1)).trans (by rw [h16] <;> rfl))
theorem f22_run (K : Nat) (a0 : Int × tL × List Int) : runF (f22E K) Tryz.f22 [(.ro, (.cons sI (.cons sL (.list 2 sI))))] [(.list 72 (.list 53 sV)), sI] (a0, ()) = f22G K a0 := by kernel_rfl
theorem f112_run (K : Nat) (a0 : Int × Int) (a1 : Int × Int) : runF (f112E K) Tryz.f112 [(.ro, sV), (.ro, sV)] [.bool] (a0, a1, ()) = f112G K a0 a1 := by kernel_rfl
theorem f47_t3 (K : Nat) (a0 : List tV) (a1 : List tV) (bq4 : Int) : ∀ (n : Nat) (q4 : Int), loopN (exec (f47E K) 2 (selC f47C [1, 1, 0, 1, 0, 0])) 2 (f47_fr3 a0 a1 bq4) n (f47_fr3 a0 a1 q4) (f47_k3 K a0 a1 (realL (f47E K) 2)) = f47_l3 K a0 a1 n q4 := by
  have key : ∀ (lr : LR Bool) (L : Fr → Option Bool) (q4 : Int), execG (f47E K) 2 lr (selC f47C [1, 1, 0, 1, 0, 0]) (f47_fr3 a0 a1 q4) (loopK 2 (f47_fr3 a0 a1 bq4) L (f47_k3 K a0 a1 lr)) = f47_b3 K a0 a1 (fun v0 => L (f47_fr3 a0 a1 v0)) q4 := by
    intro lr L q4; kernel_rfl
  intro n q4
  refine loopN_iter (X := Int) (frame := fun x => (f47_fr3 a0 a1 x)) (body := (fun L x => (fun L3 => f47_b3 K a0 a1 L3 x) (fun v0 => L v0))) (fun L x => ?_) n q4
  rw [exec_G]
  exact (key (realL (f47E K) 2) L x).trans (by rfl)
theorem f47_run (K : Nat) (a0 : List tV) (a1 : List tV) : runF (f47E K) Tryz.f47 [(.ro, (.list 53 sV)), (.ro, (.list 53 sV))] [.bool] (a0, a1, ()) = f47G K a0 a1 := by
  have key : ∀ (lr : LR Bool), runG (f47E K) Tryz.f47 [(.ro, (.list 53 sV)), (.ro, (.list 53 sV))] [.bool] (a0, a1, ()) lr = f47_g K a0 a1 (fun d0 => lr (selC f47C [1, 1, 0, 1, 0, 0]) (f47_fr3 a0 a1 d0) (f47_k3 K a0 a1 lr)) := by intro lr; kernel_rfl
  have h3 : (fun d0 => (realL (f47E K) 2) (selC f47C [1, 1, 0, 1, 0, 0]) (f47_fr3 a0 a1 d0) (f47_k3 K a0 a1 (realL (f47E K) 2))) = fun d0 => f47_l3 K a0 a1 K d0 := by
    funext d0
    exact f47_t3 K a0 a1 d0 K d0
  exact runF_G (n0 := 2) (by rfl) ((key (realL (f47E K) 2)).trans (by rw [h3] <;> rfl))
theorem f23_t3 (K : Nat) (a0 : List (List tV)) (a1 : List (List tV)) (bq4 : Int) : ∀ (n : Nat) (q4 : Int), loopN (exec (f23E K) 2 (selC f23C [1, 1, 0, 1, 0, 0])) 2 (f23_fr3 a0 a1 bq4) n (f23_fr3 a0 a1 q4) (f23_k3 K a0 a1 (realL (f23E K) 2)) = f23_l3 K a0 a1 n q4 := by
  have key : ∀ (lr : LR Bool) (L : Fr → Option Bool) (q4 : Int), execG (f23E K) 2 lr (selC f23C [1, 1, 0, 1, 0, 0]) (f23_fr3 a0 a1 q4) (loopK 2 (f23_fr3 a0 a1 bq4) L (f23_k3 K a0 a1 lr)) = f23_b3 K a0 a1 (fun v0 => L (f23_fr3 a0 a1 v0)) q4 := by
    intro lr L q4; kernel_rfl
  intro n q4
  refine loopN_iter (X := Int) (frame := fun x => (f23_fr3 a0 a1 x)) (body := (fun L x => (fun L3 => f23_b3 K a0 a1 L3 x) (fun v0 => L v0))) (fun L x => ?_) n q4
  rw [exec_G]
  exact (key (realL (f23E K) 2) L x).trans (by rfl)
theorem f23_run (K : Nat) (a0 : List (List tV)) (a1 : List (List tV)) : runF (f23E K) Tryz.f23 [(.ro, (.list 72 (.list 53 sV))), (.ro, (.list 72 (.list 53 sV)))] [.bool] (a0, a1, ()) = f23G K a0 a1 := by
  have key : ∀ (lr : LR Bool), runG (f23E K) Tryz.f23 [(.ro, (.list 72 (.list 53 sV))), (.ro, (.list 72 (.list 53 sV)))] [.bool] (a0, a1, ()) lr = f23_g K a0 a1 (fun d0 => lr (selC f23C [1, 1, 0, 1, 0, 0]) (f23_fr3 a0 a1 d0) (f23_k3 K a0 a1 lr)) := by intro lr; kernel_rfl
  have h3 : (fun d0 => (realL (f23E K) 2) (selC f23C [1, 1, 0, 1, 0, 0]) (f23_fr3 a0 a1 d0) (f23_k3 K a0 a1 (realL (f23E K) 2))) = fun d0 => f23_l3 K a0 a1 K d0 := by
    funext d0
    exact f23_t3 K a0 a1 d0 K d0
  exact runF_G (n0 := 2) (by rfl) ((key (realL (f23E K) 2)).trans (by rw [h3] <;> rfl))
theorem f74_run (K : Nat) (a0 : Int × Int × Int) (a1 : Int × Int × Int) : runF (f74E K) Tryz.f74 [(.ro, sL), (.ro, sL)] [.bool] (a0, a1, ()) = f74G K a0 a1 := by kernel_rfl
theorem f41_t2 (K : Nat) (a0 : List Int) (a1 : List Int) (bq3 : Int) : ∀ (n : Nat) (q3 : Int), loopN (exec (f41E K) 2 (selC f41C [1, 1, 0, 1, 0, 0])) 2 (f41_fr2 a0 a1 bq3) n (f41_fr2 a0 a1 q3) (f41_k2 K a0 a1 (realL (f41E K) 2)) = f41_l2 K a0 a1 n q3 := by
  have key : ∀ (lr : LR Bool) (L : Fr → Option Bool) (q3 : Int), execG (f41E K) 2 lr (selC f41C [1, 1, 0, 1, 0, 0]) (f41_fr2 a0 a1 q3) (loopK 2 (f41_fr2 a0 a1 bq3) L (f41_k2 K a0 a1 lr)) = f41_b2 K a0 a1 (fun v0 => L (f41_fr2 a0 a1 v0)) q3 := by
    intro lr L q3; kernel_rfl
  intro n q3
  refine loopN_iter (X := Int) (frame := fun x => (f41_fr2 a0 a1 x)) (body := (fun L x => (fun L2 => f41_b2 K a0 a1 L2 x) (fun v0 => L v0))) (fun L x => ?_) n q3
  rw [exec_G]
  exact (key (realL (f41E K) 2) L x).trans (by rfl)
theorem f41_run (K : Nat) (a0 : List Int) (a1 : List Int) : runF (f41E K) Tryz.f41 [(.ro, (.list 2 sI)), (.ro, (.list 2 sI))] [.bool] (a0, a1, ()) = f41G K a0 a1 := by
  have key : ∀ (lr : LR Bool), runG (f41E K) Tryz.f41 [(.ro, (.list 2 sI)), (.ro, (.list 2 sI))] [.bool] (a0, a1, ()) lr = f41_g K a0 a1 (fun d0 => lr (selC f41C [1, 1, 0, 1, 0, 0]) (f41_fr2 a0 a1 d0) (f41_k2 K a0 a1 lr)) := by intro lr; kernel_rfl
  have h2 : (fun d0 => (realL (f41E K) 2) (selC f41C [1, 1, 0, 1, 0, 0]) (f41_fr2 a0 a1 d0) (f41_k2 K a0 a1 (realL (f41E K) 2))) = fun d0 => f41_l2 K a0 a1 K d0 := by
    funext d0
    exact f41_t2 K a0 a1 d0 K d0
  exact runF_G (n0 := 2) (by rfl) ((key (realL (f41E K) 2)).trans (by rw [h2] <;> rfl))
theorem f24_run (K : Nat) (a0 : Int × tL × List Int) (a1 : Int × tL × List Int) : runF (f24E K) Tryz.f24 [(.ro, (.cons sI (.cons sL (.list 2 sI)))), (.ro, (.cons sI (.cons sL (.list 2 sI))))] [.bool] (a0, a1, ()) = f24G K a0 a1 := by kernel_rfl
theorem f42_t2 (K : Nat) (a0 : List Int) (a1 : Int) (bq3 : Int) (bq4 : Int) (bq5 : List Int) : ∀ (n : Nat) (q3 : Int) (q4 : Int) (q5 : List Int), loopN (exec (f42E K) 1 (selC f42C [1, 0, 1, 0, 0])) 1 (f42_fr2 bq3 bq4 bq5) n (f42_fr2 q3 q4 q5) (f42_k2 K a0 a1 (realL (f42E K) 1)) = f42_l2 K n q3 q4 q5 := by
  have key : ∀ (lr : LR ((List Int) × Int)) (L : Fr → Option ((List Int) × Int)) (q3 : Int) (q4 : Int) (q5 : List Int), execG (f42E K) 1 lr (selC f42C [1, 0, 1, 0, 0]) (f42_fr2 q3 q4 q5) (loopK 1 (f42_fr2 bq3 bq4 bq5) L (f42_k2 K a0 a1 lr)) = f42_b2 K (fun v0 v1 v2 => L (f42_fr2 v0 v1 v2)) q3 q4 q5 := by
    intro lr L q3 q4 q5; kernel_rfl
  intro n q3 q4 q5
  refine loopN_iter (X := Int × Int × List Int) (frame := fun x => (f42_fr2 x.1 x.2.1 x.2.2)) (body := (fun L x => (fun L2 => f42_b2 K L2 x.1 x.2.1 x.2.2) (fun v0 v1 v2 => L (v0, v1, v2)))) (fun L x => ?_) n (q3, q4, q5)
  rw [exec_G]
  exact (key (realL (f42E K) 1) L x.1 x.2.1 x.2.2).trans (by rfl)
theorem f42_run (K : Nat) (a0 : List Int) (a1 : Int) : runF (f42E K) Tryz.f42 [(.io, (.list 2 sI)), (.ro, sI)] [sI] (a0, a1, ()) = f42G K a0 a1 := by
  have key : ∀ (lr : LR ((List Int) × Int)), runG (f42E K) Tryz.f42 [(.io, (.list 2 sI)), (.ro, sI)] [sI] (a0, a1, ()) lr = f42_g K a0 a1 (fun d0 d1 d2 => lr (selC f42C [1, 0, 1, 0, 0]) (f42_fr2 d0 d1 d2) (f42_k2 K a0 a1 lr)) := by intro lr; kernel_rfl
  have h2 : (fun d0 d1 d2 => (realL (f42E K) 1) (selC f42C [1, 0, 1, 0, 0]) (f42_fr2 d0 d1 d2) (f42_k2 K a0 a1 (realL (f42E K) 1))) = fun d0 d1 d2 => f42_l2 K K d0 d1 d2 := by
    funext d0 d1 d2
    exact f42_t2 K a0 a1 d0 d1 d2 K d0 d1 d2
  exact runF_G (n0 := 1) (by rfl) ((key (realL (f42E K) 1)).trans (by rw [h2] <;> rfl))
theorem f25_run (K : Nat) (a0 : Int × tL × List Int) (a1 : Int) : runF (f25E K) Tryz.f25 [(.io, (.cons sI (.cons sL (.list 2 sI)))), (.ro, sI)] [sI] (a0, a1, ()) = f25G K a0 a1 := by kernel_rfl
theorem f48_t2 (K : Nat) (a0 : List tV) (a1 : Int) (bq3 : Int) (bq4 : Int) (bq5 : List tV) : ∀ (n : Nat) (q3 : Int) (q4 : Int) (q5 : List tV), loopN (exec (f48E K) 1 (selC f48C [1, 0, 1, 0, 0])) 1 (f48_fr2 bq3 bq4 bq5) n (f48_fr2 q3 q4 q5) (f48_k2 K a0 a1 (realL (f48E K) 1)) = f48_l2 K n q3 q4 q5 := by
  have key : ∀ (lr : LR ((List tV) × Int)) (L : Fr → Option ((List tV) × Int)) (q3 : Int) (q4 : Int) (q5 : List tV), execG (f48E K) 1 lr (selC f48C [1, 0, 1, 0, 0]) (f48_fr2 q3 q4 q5) (loopK 1 (f48_fr2 bq3 bq4 bq5) L (f48_k2 K a0 a1 lr)) = f48_b2 K (fun v0 v1 v2 => L (f48_fr2 v0 v1 v2)) q3 q4 q5 := by
    intro lr L q3 q4 q5; kernel_rfl
  intro n q3 q4 q5
  refine loopN_iter (X := Int × Int × List tV) (frame := fun x => (f48_fr2 x.1 x.2.1 x.2.2)) (body := (fun L x => (fun L2 => f48_b2 K L2 x.1 x.2.1 x.2.2) (fun v0 v1 v2 => L (v0, v1, v2)))) (fun L x => ?_) n (q3, q4, q5)
  rw [exec_G]
  exact (key (realL (f48E K) 1) L x.1 x.2.1 x.2.2).trans (by rfl)
theorem f48_run (K : Nat) (a0 : List tV) (a1 : Int) : runF (f48E K) Tryz.f48 [(.io, (.list 53 sV)), (.ro, sI)] [sI] (a0, a1, ()) = f48G K a0 a1 := by
  have key : ∀ (lr : LR ((List tV) × Int)), runG (f48E K) Tryz.f48 [(.io, (.list 53 sV)), (.ro, sI)] [sI] (a0, a1, ()) lr = f48_g K a0 a1 (fun d0 d1 d2 => lr (selC f48C [1, 0, 1, 0, 0]) (f48_fr2 d0 d1 d2) (f48_k2 K a0 a1 lr)) := by intro lr; kernel_rfl
  have h2 : (fun d0 d1 d2 => (realL (f48E K) 1) (selC f48C [1, 0, 1, 0, 0]) (f48_fr2 d0 d1 d2) (f48_k2 K a0 a1 (realL (f48E K) 1))) = fun d0 d1 d2 => f48_l2 K K d0 d1 d2 := by
    funext d0 d1 d2
    exact f48_t2 K a0 a1 d0 d1 d2 K d0 d1 d2
  exact runF_G (n0 := 1) (by rfl) ((key (realL (f48E K) 1)).trans (by rw [h2] <;> rfl))
theorem f26_t3 (K : Nat) (a0 : List (List tV)) (a1 : Int) (bq4 : Int) (bq5 : Int) (bq6 : List (List tV)) : ∀ (n : Nat) (q4 : Int) (q5 : Int) (q6 : List (List tV)), loopN (exec (f26E K) 1 (selC f26C [1, 0, 1, 0, 0])) 1 (f26_fr3 bq4 bq5 bq6) n (f26_fr3 q4 q5 q6) (f26_k3 K a0 a1 (realL (f26E K) 1)) = f26_l3 K n q4 q5 q6 := by
  have key : ∀ (lr : LR ((List (List tV)) × Int)) (L : Fr → Option ((List (List tV)) × Int)) (q4 : Int) (q5 : Int) (q6 : List (List tV)), execG (f26E K) 1 lr (selC f26C [1, 0, 1, 0, 0]) (f26_fr3 q4 q5 q6) (loopK 1 (f26_fr3 bq4 bq5 bq6) L (f26_k3 K a0 a1 lr)) = f26_b3 K (fun v0 v1 v2 => L (f26_fr3 v0 v1 v2)) q4 q5 q6 := by
    intro lr L q4 q5 q6; kernel_rfl
  intro n q4 q5 q6
  refine loopN_iter (X := Int × Int × List (List tV)) (frame := fun x => (f26_fr3 x.1 x.2.1 x.2.2)) (body := (fun L x => (fun L3 => f26_b3 K L3 x.1 x.2.1 x.2.2) (fun v0 v1 v2 => L (v0, v1, v2)))) (fun L x => ?_) n (q4, q5, q6)
  rw [exec_G]
  exact (key (realL (f26E K) 1) L x.1 x.2.1 x.2.2).trans (by rfl)
theorem f26_run (K : Nat) (a0 : List (List tV)) (a1 : Int) : runF (f26E K) Tryz.f26 [(.io, (.list 72 (.list 53 sV))), (.ro, sI)] [sI] (a0, a1, ()) = f26G K a0 a1 := by
  have key : ∀ (lr : LR ((List (List tV)) × Int)), runG (f26E K) Tryz.f26 [(.io, (.list 72 (.list 53 sV))), (.ro, sI)] [sI] (a0, a1, ()) lr = f26_g K a0 a1 (fun d0 d1 d2 => lr (selC f26C [1, 0, 1, 0, 0]) (f26_fr3 d0 d1 d2) (f26_k3 K a0 a1 lr)) := by intro lr; kernel_rfl
  have h3 : (fun d0 d1 d2 => (realL (f26E K) 1) (selC f26C [1, 0, 1, 0, 0]) (f26_fr3 d0 d1 d2) (f26_k3 K a0 a1 (realL (f26E K) 1))) = fun d0 d1 d2 => f26_l3 K K d0 d1 d2 := by
    funext d0 d1 d2
    exact f26_t3 K a0 a1 d0 d1 d2 K d0 d1 d2
  exact runF_G (n0 := 1) (by rfl) ((key (realL (f26E K) 1)).trans (by rw [h3] <;> rfl))
theorem f49_t2 (K : Nat) (a0 : List tV) (a1 : Int) (bq3 : Int) (bq4 : Int) : ∀ (n : Nat) (q3 : Int) (q4 : Int), loopN (exec (f49E K) 1 (selC f49C [1, 0, 1, 0, 0])) 1 (f49_fr2 a0 bq3 bq4) n (f49_fr2 a0 q3 q4) (f49_k2 K a0 a1 (realL (f49E K) 1)) = f49_l2 K a0 n q3 q4 := by
  have key : ∀ (lr : LR Int) (L : Fr → Option Int) (q3 : Int) (q4 : Int), execG (f49E K) 1 lr (selC f49C [1, 0, 1, 0, 0]) (f49_fr2 a0 q3 q4) (loopK 1 (f49_fr2 a0 bq3 bq4) L (f49_k2 K a0 a1 lr)) = f49_b2 K a0 (fun v0 v1 => L (f49_fr2 a0 v0 v1)) q3 q4 := by
    intro lr L q3 q4; kernel_rfl
  intro n q3 q4
  refine loopN_iter (X := Int × Int) (frame := fun x => (f49_fr2 a0 x.1 x.2)) (body := (fun L x => (fun L2 => f49_b2 K a0 L2 x.1 x.2) (fun v0 v1 => L (v0, v1)))) (fun L x => ?_) n (q3, q4)
  rw [exec_G]
  exact (key (realL (f49E K) 1) L x.1 x.2).trans (by rfl)
theorem f49_run (K : Nat) (a0 : List tV) (a1 : Int) : runF (f49E K) Tryz.f49 [(.ro, (.list 53 sV)), (.ro, sI)] [sI] (a0, a1, ()) = f49G K a0 a1 := by
  have key : ∀ (lr : LR Int), runG (f49E K) Tryz.f49 [(.ro, (.list 53 sV)), (.ro, sI)] [sI] (a0, a1, ()) lr = f49_g K a0 a1 (fun d0 d1 => lr (selC f49C [1, 0, 1, 0, 0]) (f49_fr2 a0 d0 d1) (f49_k2 K a0 a1 lr)) := by intro lr; kernel_rfl
  have h2 : (fun d0 d1 => (realL (f49E K) 1) (selC f49C [1, 0, 1, 0, 0]) (f49_fr2 a0 d0 d1) (f49_k2 K a0 a1 (realL (f49E K) 1))) = fun d0 d1 => f49_l2 K a0 K d0 d1 := by
    funext d0 d1
    exact f49_t2 K a0 a1 d0 d1 K d0 d1
  exact runF_G (n0 := 1) (by rfl) ((key (realL (f49E K) 1)).trans (by rw [h2] <;> rfl))
theorem f27_t3 (K : Nat) (a0 : List (List tV)) (a1 : Int) (bq4 : Int) (bq5 : Int) : ∀ (n : Nat) (q4 : Int) (q5 : Int), loopN (exec (f27E K) 1 (selC f27C [1, 0, 1, 0, 0])) 1 (f27_fr3 a0 bq4 bq5) n (f27_fr3 a0 q4 q5) (f27_k3 K a0 a1 (realL (f27E K) 1)) = f27_l3 K a0 n q4 q5 := by
  have key : ∀ (lr : LR Int) (L : Fr → Option Int) (q4 : Int) (q5 : Int), execG (f27E K) 1 lr (selC f27C [1, 0, 1, 0, 0]) (f27_fr3 a0 q4 q5) (loopK 1 (f27_fr3 a0 bq4 bq5) L (f27_k3 K a0 a1 lr)) = f27_b3 K a0 (fun v0 v1 => L (f27_fr3 a0 v0 v1)) q4 q5 := by
    intro lr L q4 q5; kernel_rfl
  intro n q4 q5
  refine loopN_iter (X := Int × Int) (frame := fun x => (f27_fr3 a0 x.1 x.2)) (body := (fun L x => (fun L3 => f27_b3 K a0 L3 x.1 x.2) (fun v0 v1 => L (v0, v1)))) (fun L x => ?_) n (q4, q5)
  rw [exec_G]
  exact (key (realL (f27E K) 1) L x.1 x.2).trans (by rfl)
theorem f27_run (K : Nat) (a0 : List (List tV)) (a1 : Int) : runF (f27E K) Tryz.f27 [(.ro, (.list 72 (.list 53 sV))), (.ro, sI)] [sI] (a0, a1, ()) = f27G K a0 a1 := by
  have key : ∀ (lr : LR Int), runG (f27E K) Tryz.f27 [(.ro, (.list 72 (.list 53 sV))), (.ro, sI)] [sI] (a0, a1, ()) lr = f27_g K a0 a1 (fun d0 d1 => lr (selC f27C [1, 0, 1, 0, 0]) (f27_fr3 a0 d0 d1) (f27_k3 K a0 a1 lr)) := by intro lr; kernel_rfl
  have h3 : (fun d0 d1 => (realL (f27E K) 1) (selC f27C [1, 0, 1, 0, 0]) (f27_fr3 a0 d0 d1) (f27_k3 K a0 a1 (realL (f27E K) 1))) = fun d0 d1 => f27_l3 K a0 K d0 d1 := by
    funext d0 d1
    exact f27_t3 K a0 a1 d0 d1 K d0 d1
  exact runF_G (n0 := 1) (by rfl) ((key (realL (f27E K) 1)).trans (by rw [h3] <;> rfl))
theorem f4_run (K : Nat) (a0 : Int × tL × List Int) : runF (f4E K) Tryz.f4 [(.ro, (.cons sI (.cons sL (.list 2 sI))))] [.bool] (a0, ()) = f4G K a0 := by kernel_rfl
end Go.Proofs.YtmnciknpeefkfaaGreat.X
