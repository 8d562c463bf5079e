/- Functions of the program as plain Lean functions, and that the program does what they say. Printed by gen.py. -/
import Derived.Test.YtfccacobkcglcaaGreatQmD1
namespace Go.Proofs.YtfccacobkcglcaaGreat.X
open Go
set_option maxRecDepth 100000
set_option linter.unusedVariables false
theorem f234_run (K : Nat) (a0 : List tM) (a1 : (tM → Option Bool)) : runF (f234E K) Tryz.f234 [(.ro, (.list 95 sM)), (.ro, (.fn1 sM .bool))] [.bool] (a0, a1, ()) = f234G K a0 a1 := by kernel_rfl
theorem f205_t16 (K : Nat) (a0 : Int × Int × Int) (a1 : List tM) (q13 : Int) (q15 : List tM) (F12 : Fr → Option (List tM)) (bq13 : Int) (bq14 : List (tM × Bool)) (bq15 : List tM) (bq17 : Int) (bq18 : List (tM × Bool)) (bq19 : List tM) : ∀ (n : Nat) (q17 : Int) (q18 : List (tM × Bool)) (q19 : List tM), loopN (exec (f205E K) 1 (selC f205C [1, 1, 1, 0, 1, 0, 0, 1, 0, 0, 1, 0, 0])) 1 (f205_fr16 a0 a1 q13 q15 bq17 bq18 bq19) n (f205_fr16 a0 a1 q13 q15 q17 q18 q19) (f205_k16 K a0 a1 F12 bq13 bq14 bq15 (realL (f205E K) 1)) = f205_l16 K a0 a1 q13 q15 (fun v0 v1 v2 => F12 (f205_fr12 a0 a1 v0 v1 v2)) n q17 q18 q19 := by
  have key : ∀ (lr : LR (List tM)) (L : Fr → Option (List tM)) (q17 : Int) (q18 : List (tM × Bool)) (q19 : List tM), execG (f205E K) 1 lr (selC f205C [1, 1, 1, 0, 1, 0, 0, 1, 0, 0, 1, 0, 0]) (f205_fr16 a0 a1 q13 q15 q17 q18 q19) (loopK 1 (f205_fr16 a0 a1 q13 q15 bq17 bq18 bq19) L (f205_k16 K a0 a1 F12 bq13 bq14 bq15 lr)) = f205_b16 K a0 a1 q13 q15 (fun v0 v1 v2 => F12 (f205_fr12 a0 a1 v0 v1 v2)) (fun v0 v1 v2 => L (f205_fr16 a0 a1 q13 q15 v0 v1 v2)) q17 q18 q19 := by
    intro lr L q17 q18 q19; kernel_rfl
  intro n q17 q18 q19
  refine loopN_iter (X := Int × List (tM × Bool) × List tM) (frame := fun x => (f205_fr16 a0 a1 q13 q15 x.1 x.2.1 x.2.2)) (body := (fun L x => (fun L16 => f205_b16 K a0 a1 q13 q15 (fun v0 v1 v2 => F12 (f205_fr12 a0 a1 v0 v1 v2)) L16 x.1 x.2.1 x.2.2) (fun v0 v1 v2 => L (v0, v1, v2)))) (fun L x => ?_) n (q17, q18, q19)
  rw [exec_G]
  exact (key (realL (f205E K) 1) L x.1 x.2.1 x.2.2).trans (by rfl)
theorem f205_t12 (K : Nat) (a0 : Int × Int × Int) (a1 : List tM) (bq13 : Int) (bq14 : List (tM × Bool)) (bq15 : List tM) : ∀ (n : Nat) (q13 : Int) (q14 : List (tM × Bool)) (q15 : List tM), loopN (exec (f205E K) 1 (selC f205C [1, 1, 1, 0, 1, 0, 0])) 1 (f205_fr12 a0 a1 bq13 bq14 bq15) n (f205_fr12 a0 a1 q13 q14 q15) (f205_k12 K a0 a1 (realL (f205E K) 1)) = f205_l12 K a0 a1 n q13 q14 q15 := by
  have key : ∀ (lr : LR (List tM)) (L : Fr → Option (List tM)) (q13 : Int) (q14 : List (tM × Bool)) (q15 : List tM), execG (f205E K) 1 lr (selC f205C [1, 1, 1, 0, 1, 0, 0]) (f205_fr12 a0 a1 q13 q14 q15) (loopK 1 (f205_fr12 a0 a1 bq13 bq14 bq15) L (f205_k12 K a0 a1 lr)) = f205_b12 K a0 a1 (fun c0 c1 d0 d1 d2 => lr (selC f205C [1, 1, 1, 0, 1, 0, 0, 1, 0, 0, 1, 0, 0]) (f205_fr16 a0 a1 c0 c1 d0 d1 d2) (f205_k16 K a0 a1 L bq13 bq14 bq15 lr)) (fun v0 v1 v2 => L (f205_fr12 a0 a1 v0 v1 v2)) q13 q14 q15 := by
    intro lr L q13 q14 q15; kernel_rfl
  intro n q13 q14 q15
  refine loopN_iter (X := Int × List (tM × Bool) × List tM) (frame := fun x => (f205_fr12 a0 a1 x.1 x.2.1 x.2.2)) (body := (fun L x => (fun L12 => f205_b12 K a0 a1 (fun c0 c1 d0 d1 d2 => f205_l16 K a0 a1 c0 c1 L12 K d0 d1 d2) L12 x.1 x.2.1 x.2.2) (fun v0 v1 v2 => L (v0, v1, v2)))) (fun L x => ?_) n (q13, q14, q15)
  rw [exec_G]
  have h16 : (fun c0 c1 d0 d1 d2 => (realL (f205E K) 1) (selC f205C [1, 1, 1, 0, 1, 0, 0, 1, 0, 0, 1, 0, 0]) (f205_fr16 a0 a1 c0 c1 d0 d1 d2) (f205_k16 K a0 a1 L bq13 bq14 bq15 (realL (f205E K) 1))) = fun c0 c1 d0 d1 d2 => f205_l16 K a0 a1 c0 c1 (fun v0 v1 v2 => L (f205_fr12 a0 a1 v0 v1 v2)) K d0 d1 d2 := by
    funext c0 c1 d0 d1 d2
    exact f205_t16 K a0 a1 c0 c1 L bq13 bq14 bq15 d0 d1 d2 K d0 d1 d2
  exact (key (realL (f205E K) 1) L x.1 x.2.1 x.2.2).trans (by rw [h16] <;> rfl)
theorem f205_run (K : Nat) (a0 : Int × Int × Int) (a1 : List tM) : runF (f205E K) Tryz.f205 [(.ro, sL), (.ro, (.list 95 sM))] [(.list 95 sM)] (a0, a1, ()) = f205G K a0 a1 := by
  have key : ∀ (lr : LR (List tM)), runG (f205E K) Tryz.f205 [(.ro, sL), (.ro, (.list 95 sM))] [(.list 95 sM)] (a0, a1, ()) lr = f205_g K a0 a1 (fun d0 d1 d2 => lr (selC f205C [1, 1, 1, 0, 1, 0, 0]) (f205_fr12 a0 a1 d0 d1 d2) (f205_k12 K a0 a1 lr)) := by intro lr; kernel_rfl
  have h12 : (fun d0 d1 d2 => (realL (f205E K) 1) (selC f205C [1, 1, 1, 0, 1, 0, 0]) (f205_fr12 a0 a1 d0 d1 d2) (f205_k12 K a0 a1 (realL (f205E K) 1))) = fun d0 d1 d2 => f205_l12 K a0 a1 K d0 d1 d2 := by
    funext d0 d1 d2
    exact f205_t12 K a0 a1 d0 d1 d2 K d0 d1 d2
  exact runF_G (n0 := 1) (by rfl) ((key (realL (f205E K) 1)).trans (by rw [h12] <;> rfl))
theorem f110_run (K : Nat) (a0 : Int) (a1 : Int × Int × Int) (a2 : List tM) : runF (f110E K) Tryz.f110 [(.ro, sI), (.ro, sL), (.ro, (.list 95 sM))] [(.list 95 sM), sI] (a0, a1, a2, ()) = f110G K a0 a1 a2 := by kernel_rfl
theorem f183_run (K : Nat) (a0 : Int × Int × Int) (a1 : Int × Int) : runF (f183E K) Tryz.f183 [(.ro, sL), (.ro, sV)] [.bool] (a0, a1, ()) = f183G K a0 a1 := by kernel_rfl
theorem f266_run (K : Nat) (a0 : Int × Int) (a1 : Int × Int × Int) : runF (f266E K) Tryz.f266 [(.ro, sV), (.cap, sL)] [.bool] (a0, a1, ()) = f266G K a0 a1 := by kernel_rfl
theorem f329_t3 (K : Nat) (a0 : List tV) (a1 : (tV → Option Bool)) (bq4 : Int) : ∀ (n : Nat) (q4 : Int), loopN (exec (f329E K) 1 (selC f329C [1, 0, 1, 0, 0])) 1 (f329_fr3 a0 a1 bq4) n (f329_fr3 a0 a1 q4) (f329_k3 K a0 a1 (realL (f329E K) 1)) = f329_l3 K a0 a1 n q4 := by
  have key : ∀ (lr : LR Int) (L : Fr → Option Int) (q4 : Int), execG (f329E K) 1 lr (selC f329C [1, 0, 1, 0, 0]) (f329_fr3 a0 a1 q4) (loopK 1 (f329_fr3 a0 a1 bq4) L (f329_k3 K a0 a1 lr)) = f329_b3 K a0 a1 (fun v0 => L (f329_fr3 a0 a1 v0)) q4 := by
    intro lr L q4; kernel_rfl
  intro n q4
  refine loopN_iter (X := Int) (frame := fun x => (f329_fr3 a0 a1 x)) (body := (fun L x => (fun L3 => f329_b3 K a0 a1 L3 x) (fun v0 => L v0))) (fun L x => ?_) n q4
  rw [exec_G]
  exact (key (realL (f329E K) 1) L x).trans (by rfl)
theorem f329_run (K : Nat) (a0 : List tV) (a1 : (tV → Option Bool)) : runF (f329E K) Tryz.f329 [(.ro, (.list 79 sV)), (.ro, (.fn1 sV .bool))] [sI] (a0, a1, ()) = f329G K a0 a1 := by
  have key : ∀ (lr : LR Int), runG (f329E K) Tryz.f329 [(.ro, (.list 79 sV)), (.ro, (.fn1 sV .bool))] [sI] (a0, a1, ()) lr = f329_g K a0 a1 (fun d0 => lr (selC f329C [1, 0, 1, 0, 0]) (f329_fr3 a0 a1 d0) (f329_k3 K a0 a1 lr)) := by intro lr; kernel_rfl
  have h3 : (fun d0 => (realL (f329E K) 1) (selC f329C [1, 0, 1, 0, 0]) (f329_fr3 a0 a1 d0) (f329_k3 K a0 a1 (realL (f329E K) 1))) = fun d0 => f329_l3 K a0 a1 K d0 := by
    funext d0
    exact f329_t3 K a0 a1 d0 K d0
  exact runF_G (n0 := 1) (by rfl) ((key (realL (f329E K) 1)).trans (by rw [h3] <;> rfl))
theorem f265_run (K : Nat) (a0 : List tV) (a1 : (tV → Option Bool)) : runF (f265E K) Tryz.f265 [(.ro, (.list 79 sV)), (.ro, (.fn1 sV .bool))] [.bool] (a0, a1, ()) = f265G K a0 a1 := by kernel_rfl
theorem f170_run (K : Nat) (a0 : Int) (a1 : Int × Int × Int) (a2 : List tM) (a3 : List tV) : runF (f170E K) Tryz.f170 [(.ro, sI), (.ro, sL), (.ro, (.list 95 sM)), (.ro, (.list 79 sV))] [sI] (a0, a1, a2, a3, ()) = f170G K a0 a1 a2 a3 := by kernel_rfl
theorem f243_t3 (K : Nat) (a0 : List Int) (a1 : Int) (y1 : Int × Int) (bq4 : Int) (bq5 : List Int) : ∀ (n : Nat) (q4 : Int) (q5 : List Int), loopN (exec (f243E K) 1 (selC f243C [1, 1, 1, 1, 1, 1, 0, 0, 0])) 1 (f243_fr3 a0 a1 y1 bq4 bq5) n (f243_fr3 a0 a1 y1 q4 q5) (f243_k3 K a0 a1 (realL (f243E K) 1)) = f243_l3 K a0 a1 y1 n q4 q5 := by
  have key : ∀ (lr : LR (List Int)) (L : Fr → Option (List Int)) (q4 : Int) (q5 : List Int), execG (f243E K) 1 lr (selC f243C [1, 1, 1, 1, 1, 1, 0, 0, 0]) (f243_fr3 a0 a1 y1 q4 q5) (loopK 1 (f243_fr3 a0 a1 y1 bq4 bq5) L (f243_k3 K a0 a1 lr)) = f243_b3 K a0 a1 y1 (fun v0 v1 => L (f243_fr3 a0 a1 y1 v0 v1)) q4 q5 := by
    intro lr L q4 q5; kernel_rfl
  intro n q4 q5
  refine loopN_iter (X := Int × List Int) (frame := fun x => (f243_fr3 a0 a1 y1 x.1 x.2)) (body := (fun L x => (fun L3 => f243_b3 K a0 a1 y1 L3 x.1 x.2) (fun v0 v1 => L (v0, v1)))) (fun L x => ?_) n (q4, q5)
  rw [exec_G]
  exact (key (realL (f243E K) 1) L x.1 x.2).trans (by rfl)
theorem f243_run (K : Nat) (a0 : List Int) (a1 : Int) : runF (f243E K) Tryz.f243 [(.ro, (.list 2 sI)), (.ro, sI)] [(.list 2 sI)] (a0, a1, ()) = f243G K a0 a1 := by
  have key : ∀ (lr : LR (List Int)), runG (f243E K) Tryz.f243 [(.ro, (.list 2 sI)), (.ro, sI)] [(.list 2 sI)] (a0, a1, ()) lr = f243_g K a0 a1 (fun c0 d0 d1 => lr (selC f243C [1, 1, 1, 1, 1, 1, 0, 0, 0]) (f243_fr3 a0 a1 c0 d0 d1) (f243_k3 K a0 a1 lr)) := by intro lr; kernel_rfl
  have h3 : (fun c0 d0 d1 => (realL (f243E K) 1) (selC f243C [1, 1, 1, 1, 1, 1, 0, 0, 0]) (f243_fr3 a0 a1 c0 d0 d1) (f243_k3 K a0 a1 (realL (f243E K) 1))) = fun c0 d0 d1 => f243_l3 K a0 a1 c0 K d0 d1 := by
    funext c0 d0 d1
    exact f243_t3 K a0 a1 c0 d0 d1 K d0 d1
  exact runF_G (n0 := 1) (by rfl) ((key (realL (f243E K) 1)).trans (by rw [h3] <;> rfl))
theorem f130_run (K : Nat) (a0 : Int × Int × Int) (a1 : Int × Int) : runF (f130E K) Tryz.f130 [(.ro, sL), (.ro, sV)] [sI] (a0, a1, ()) = f130G K a0 a1 := by kernel_rfl
theorem f270_t9 (K : Nat) (a0 : List tV) (q8 : Int) (F7 : Fr → Option (List tV)) (bq8 bq10 bq11 : Int) (bq12 : List tV) : ∀ (n : Nat) (q10 q11 : Int) (q12 : List tV), loopN (exec (f270E K) 1 (selC f270C [1, 1, 0, 1, 0, 0, 1, 0, 0, 1, 0, 1, 0, 1, 0, 0])) 1 (f270_fr9 a0 q8 bq10 bq11 bq12) n (f270_fr9 a0 q8 q10 q11 q12) (f270_k9 K a0 F7 bq8 (realL (f270E K) 1)) = f270_l9 K a0 q8 n q10 q11 q12 := by
  have key : ∀ (lr : LR (List tV)) (L : Fr → Option (List tV)) (q10 q11 : Int) (q12 : List tV), execG (f270E K) 1 lr (selC f270C [1, 1, 0, 1, 0, 0, 1, 0, 0, 1, 0, 1, 0, 1, 0, 0]) (f270_fr9 a0 q8 q10 q11 q12) (loopK 1 (f270_fr9 a0 q8 bq10 bq11 bq12) L (f270_k9 K a0 F7 bq8 lr)) = f270_b9 K a0 q8 (fun v0 v1 v2 => L (f270_fr9 a0 q8 v0 v1 v2)) q10 q11 q12 := by
    intro lr L q10 q11 q12; kernel_rfl
  intro n q10 q11 q12
  refine loopN_iter (X := Int × Int × List tV) (frame := fun x => (f270_fr9 a0 q8 x.1 x.2.1 x.2.2)) (body := (fun L x => (fun L9 => f270_b9 K a0 q8 L9 x.1 x.2.1 x.2.2) (fun v0 v1 v2 => L (v0, v1, v2)))) (fun L x => ?_) n (q10, q11, q12)
  rw [exec_G]
  exact (key (realL (f270E K) 1) L x.1 x.2.1 x.2.2).trans (by rfl)
theorem f270_t7 (K : Nat) (a0 : List tV) (bq8 : Int) : ∀ (n : Nat) (q8 : Int), loopN (exec (f270E K) 1 (selC f270C [1, 1, 0, 1, 0, 0])) 1 (f270_fr7 a0 bq8) n (f270_fr7 a0 q8) (f270_k7 K a0 (realL (f270E K) 1)) = f270_l7 K a0 n q8 := by
  have key : ∀ (lr : LR (List tV)) (L : Fr → Option (List tV)) (q8 : Int), execG (f270E K) 1 lr (selC f270C [1, 1, 0, 1, 0, 0]) (f270_fr7 a0 q8) (loopK 1 (f270_fr7 a0 bq8) L (f270_k7 K a0 lr)) = f270_b7 K a0 (fun c0 d0 d1 d2 => lr (selC f270C [1, 1, 0, 1, 0, 0, 1, 0, 0, 1, 0, 1, 0, 1, 0, 0]) (f270_fr9 a0 c0 d0 d1 d2) (f270_k9 K a0 L bq8 lr)) (fun v0 => L (f270_fr7 a0 v0)) q8 := by
    intro lr L q8; kernel_rfl
  intro n q8
  refine loopN_iter (X := Int) (frame := fun x => (f270_fr7 a0 x)) (body := (fun L x => (fun L7 => f270_b7 K a0 (fun c0 d0 d1 d2 => f270_l9 K a0 c0 K d0 d1 d2) L7 x) (fun v0 => L v0))) (fun L x => ?_) n q8
  rw [exec_G]
  have h9 : (fun c0 d0 d1 d2 => (realL (f270E K) 1) (selC f270C [1, 1, 0, 1, 0, 0, 1, 0, 0, 1, 0, 1, 0, 1, 0, 0]) (f270_fr9 a0 c0 d0 d1 d2) (f270_k9 K a0 L bq8 (realL (f270E K) 1))) = fun c0 d0 d1 d2 => f270_l9 K a0 c0 K d0 d1 d2 := by
    funext c0 d0 d1 d2
    exact f270_t9 K a0 c0 L bq8 d0 d1 d2 K d0 d1 d2
  exact (key (realL (f270E K) 1) L x).trans (by rw [h9] <;> rfl)
theorem f270_run (K : Nat) (a0 : List tV) : runF (f270E K) Tryz.f270 [(.mv, (.list 79 sV))] [(.list 79 sV)] (a0, ()) = f270G K a0 := by
  have key : ∀ (lr : LR (List tV)), runG (f270E K) Tryz.f270 [(.mv, (.list 79 sV))] [(.list 79 sV)] (a0, ()) lr = f270_g K a0 (fun d0 => lr (selC f270C [1, 1, 0, 1, 0, 0]) (f270_fr7 a0 d0) (f270_k7 K a0 lr)) := by intro lr; kernel_rfl
  have h7 : (fun d0 => (realL (f270E K) 1) (selC f270C [1, 1, 0, 1, 0, 0]) (f270_fr7 a0 d0) (f270_k7 K a0 (realL (f270E K) 1))) = fun d0 => f270_l7 K a0 K d0 := by
    funext d0
    exact f270_t7 K a0 d0 K d0
  exact runF_G (n0 := 1) (by rfl) ((key (realL (f270E K) 1)).trans (by rw [h7] <;> rfl))
theorem f171_t3 (K : Nat) (a0 : Int × Int × Int) (a1 : List tM) (a2 : Int × Int) (bq4 : Int) (bq5 : List tV) : ∀ (n : Nat) (q4 : Int) (q5 : List tV), loopN (exec (f171E K) 1 (selC f171C [1, 1, 0, 1, 0, 0])) 1 (f171_fr3 a0 a1 a2 bq4 bq5) n (f171_fr3 a0 a1 a2 q4 q5) (f171_k3 K a0 a1 a2 (realL (f171E K) 1)) = f171_l3 K a0 a1 a2 n q4 q5 := by
  have key : ∀ (lr : LR (List tV)) (L : Fr → Option (List tV)) (q4 : Int) (q5 : List tV), execG (f171E K) 1 lr (selC f171C [1, 1, 0, 1, 0, 0]) (f171_fr3 a0 a1 a2 q4 q5) (loopK 1 (f171_fr3 a0 a1 a2 bq4 bq5) L (f171_k3 K a0 a1 a2 lr)) = f171_b3 K a0 a1 a2 (fun v0 v1 => L (f171_fr3 a0 a1 a2 v0 v1)) q4 q5 := by
    intro lr L q4 q5; kernel_rfl
  intro n q4 q5
  refine loopN_iter (X := Int × List tV) (frame := fun x => (f171_fr3 a0 a1 a2 x.1 x.2)) (body := (fun L x => (fun L3 => f171_b3 K a0 a1 a2 L3 x.1 x.2) (fun v0 v1 => L (v0, v1)))) (fun L x => ?_) n (q4, q5)
  rw [exec_G]
  exact (key (realL (f171E K) 1) L x.1 x.2).trans (by rfl)
theorem f171_run (K : Nat) (a0 : Int × Int × Int) (a1 : List tM) (a2 : Int × Int) : runF (f171E K) Tryz.f171 [(.ro, sL), (.ro, (.list 95 sM)), (.ro, sV)] [(.list 79 sV)] (a0, a1, a2, ()) = f171G K a0 a1 a2 := by
  have key : ∀ (lr : LR (List tV)), runG (f171E K) Tryz.f171 [(.ro, sL), (.ro, (.list 95 sM)), (.ro, sV)] [(.list 79 sV)] (a0, a1, a2, ()) lr = f171_g K a0 a1 a2 (fun d0 d1 => lr (selC f171C [1, 1, 0, 1, 0, 0]) (f171_fr3 a0 a1 a2 d0 d1) (f171_k3 K a0 a1 a2 lr)) := by intro lr; kernel_rfl
  have h3 : (fun d0 d1 => (realL (f171E K) 1) (selC f171C [1, 1, 0, 1, 0, 0]) (f171_fr3 a0 a1 a2 d0 d1) (f171_k3 K a0 a1 a2 (realL (f171E K) 1))) = fun d0 d1 => f171_l3 K a0 a1 a2 K d0 d1 := by
    funext d0 d1
    exact f171_t3 K a0 a1 a2 d0 d1 K d0 d1
  exact runF_G (n0 := 1) (by rfl) ((key (realL (f171E K) 1)).trans (by rw [h3] <;> rfl))
theorem f128_t22 (K : Nat) (a0 : Int × Int × Int) (a1 : List tM) (y3 : List tV) (q17 : Int) (q18 : List (List tV)) (q19 : List Int) (y20 : Int) (y21 : List tV) (F16 : Fr → Option ((List (List tV)) × List Int)) (bq17 : Int) (bq18 : List (List tV)) (bq19 : List Int) (bq23 : Int) (bq24 : List Int) : ∀ (n : Nat) (q23 : Int) (q24 : List Int), loopN (exec (f128E K) 1 (selC f128C [1, 1, 0, 1, 0, 0, 1, 1, 0, 0, 1, 1, 1, 0, 1, 0, 0])) 1 (f128_fr22 a0 a1 q17 q18 q19 y3 y20 y21 bq23 bq24) n (f128_fr22 a0 a1 q17 q18 q19 y3 y20 y21 q23 q24) (f128_k22 K a0 a1 y3 F16 bq17 bq18 bq19 (realL (f128E K) 1)) = f128_l22 K a0 a1 q17 q18 q19 y3 y20 y21 (fun v0 v1 v2 => F16 (f128_fr16 a0 a1 y3 v0 v1 v2)) n q23 q24 := by
  have key : ∀ (lr : LR ((List (List tV)) × List Int)) (L : Fr → Option ((List (List tV)) × List Int)) (q23 : Int) (q24 : List Int), execG (f128E K) 1 lr (selC f128C [1, 1, 0, 1, 0, 0, 1, 1, 0, 0, 1, 1, 1, 0, 1, 0, 0]) (f128_fr22 a0 a1 q17 q18 q19 y3 y20 y21 q23 q24) (loopK 1 (f128_fr22 a0 a1 q17 q18 q19 y3 y20 y21 bq23 bq24) L (f128_k22 K a0 a1 y3 F16 bq17 bq18 bq19 lr)) = f128_b22 K a0 a1 q17 q18 q19 y3 y20 y21 (fun v0 v1 v2 => F16 (f128_fr16 a0 a1 y3 v0 v1 v2)) (fun v0 v1 => L (f128_fr22 a0 a1 q17 q18 q19 y3 y20 y21 v0 v1)) q23 q24 := by
    intro lr L q23 q24; kernel_rfl
  intro n q23 q24
  refine loopN_iter (X := Int × List Int) (frame := fun x => (f128_fr22 a0 a1 q17 q18 q19 y3 y20 y21 x.1 x.2)) (body := (fun L x => (fun L22 => f128_b22 K a0 a1 q17 q18 q19 y3 y20 y21 (fun v0 v1 v2 => F16 (f128_fr16 a0 a1 y3 v0 v1 v2)) L22 x.1 x.2) (fun v0 v1 => L (v0, v1)))) (fun L x => ?_) n (q23, q24)
  rw [exec_G]
  exact (key (realL (f128E K) 1) L x.1 x.2).trans (by rfl)
theorem f128_t16 (K : Nat) (a0 : Int × Int × Int) (a1 : List tM) (y3 : List tV) (bq17 : Int) (bq18 : List (List tV)) (bq19 : List Int) : ∀ (n : Nat) (q17 : Int) (q18 : List (List tV)) (q19 : List Int), loopN (exec (f128E K) 1 (selC f128C [1, 1, 0, 1, 0, 0])) 1 (f128_fr16 a0 a1 y3 bq17 bq18 bq19) n (f128_fr16 a0 a1 y3 q17 q18 q19) (f128_k16 K a0 a1 (realL (f128E K) 1)) = f128_l16 K a0 a1 y3 n q17 q18 q19 := by
  have key : ∀ (lr : LR ((List (List tV)) × List Int)) (L : Fr → Option ((List (List tV)) × List Int)) (q17 : Int) (q18 : List (List tV)) (q19 : List Int), execG (f128E K) 1 lr (selC f128C [1, 1, 0, 1, 0, 0]) (f128_fr16 a0 a1 y3 q17 q18 q19) (loopK 1 (f128_fr16 a0 a1 y3 bq17 bq18 bq19) L (f128_k16 K a0 a1 lr)) = f128_b16 K a0 a1 y3 (fun c0 c1 c2 c3 c4 d0 d1 => lr (selC f128C [1, 1, 0, 1, 0, 0, 1, 1, 0, 0, 1, 1, 1, 0, 1, 0, 0]) (f128_fr22 a0 a1 c0 c1 c2 y3 c3 c4 d0 d1) (f128_k22 K a0 a1 y3 L bq17 bq18 bq19 lr)) (fun v0 v1 v2 => L (f128_fr16 a0 a1 y3 v0 v1 v2)) q17 q18 q19 := by
    intro lr L q17 q18 q19; kernel_rfl
  intro n q17 q18 q19
  refine loopN_iter (X := Int × List (List tV) × List Int) (frame := fun x => (f128_fr16 a0 a1 y3 x.1 x.2.1 x.2.2)) (body := (fun L x => (fun L16 => f128_b16 K a0 a1 y3 (fun c0 c1 c2 c3 c4 d0 d1 => f128_l22 K a0 a1 c0 c1 c2 y3 c3 c4 L16 K d0 d1) L16 x.1 x.2.1 x.2.2) (fun v0 v1 v2 => L (v0, v1, v2)))) (fun L x => ?_) n (q17, q18, q19)
  rw [exec_G]
  have h22 : (fun c0 c1 c2 c3 c4 d0 d1 => (realL (f128E K) 1) (selC f128C [1, 1, 0, 1, 0, 0, 1, 1, 0, 0, 1, 1, 1, 0, 1, 0, 0]) (f128_fr22 a0 a1 c0 c1 c2 y3 c3 c4 d0 d1) (f128_k22 K a0 a1 y3 L bq17 bq18 bq19 (realL (f128E K) 1))) = fun c0 c1 c2 c3 c4 d0 d1 => f128_l22 K a0 a1 c0 c1 c2 y3 c3 c4 (fun v0 v1 v2 => L (f128_fr16 a0 a1 y3 v0 v1 v2)) K d0 d1 := by
    funext c0 c1 c2 c3 c4 d0 d1
    exact f128_t22 K a0 a1 y3 c0 c1 c2 c3 c4 L bq17 bq18 bq19 d0 d1 K d0 d1
  exact (key (realL (f128E K) 1) L x.1 x.2.1 x.2.2).trans (by rw [h22] <;> rfl)
theorem f128_run (K : Nat) (a0 : Int × Int × Int) (a1 : List tM) : runF (f128E K) Tryz.f128 [(.ro, sL), (.ro, (.list 95 sM))] [(.list 84 (.list 79 sV)), (.list 2 sI)] (a0, a1, ()) = f128G K a0 a1 := by
  have key : ∀ (lr : LR ((List (List tV)) × List Int)), runG (f128E K) Tryz.f128 [(.ro, sL), (.ro, (.list 95 sM))] [(.list 84 (.list 79 sV)), (.list 2 sI)] (a0, a1, ()) lr = f128_g K a0 a1 (fun c0 d0 d1 d2 => lr (selC f128C [1, 1, 0, 1, 0, 0]) (f128_fr16 a0 a1 c0 d0 d1 d2) (f128_k16 K a0 a1 lr)) := by intro lr; kernel_rfl
  have h16 : (fun c0 d0 d1 d2 => (realL (f128E K) 1) (selC f128C [1, 1, 0, 1, 0, 0]) (f128_fr16 a0 a1 c0 d0 d1 d2) (f128_k16 K a0 a1 (realL (f128E K) 1))) = fun c0 d0 d1 d2 => f128_l16 K a0 a1 c0 K d0 d1 d2 := by
    funext c0 d0 d1 d2
    exact f128_t16 K a0 a1 c0 d0 d1 d2 K d0 d1 d2
  exact runF_G (n0 := 1) (by rfl) ((key (realL (f128E K) 1)).trans (by rw [h16] <;> rfl))
theorem f236_run (K : Nat) (a0 : Int) (a1 : Int × Int × Int) (a2 : List tM) : runF (f236E K) Tryz.f236 [(.ro, sI), (.ro, sL), (.ro, (.list 95 sM))] [(.list 84 (.list 79 sV)), sI] (a0, a1, a2, ()) = f236G K a0 a1 a2 := by kernel_rfl
theorem f111_run (K : Nat) (a0 : Int) (a1 : Int × Int × Int) (a2 : List tM) : runF (f111E K) Tryz.f111 [(.ro, sI), (.ro, sL), (.ro, (.list 95 sM))] [sI, sI] (a0, a1, a2, ()) = f111G K a0 a1 a2 := by kernel_rfl
theorem f112_run (K : Nat) (a0 : Int) (a1 : Int × Int × Int) (a2 : Int) : runF (f112E K) Tryz.f112 [(.ro, sI), (.ro, sL), (.ro, sI)] [sI, sI] (a0, a1, a2, ()) = f112G K a0 a1 a2 := by kernel_rfl
theorem f14_run (K : Nat) (a0 : List Int) : runF (f14E K) Tryz.f14 [(.ro, (.list 5 (.int .u8)))] [.bool] (a0, ()) = f14G K a0 := by kernel_rfl
end Go.Proofs.YtfccacobkcglcaaGreat.X
