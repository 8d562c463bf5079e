/- Functions of the program as plain Lean functions, and that the program does what they say. Printed by gen.py. -/
import Derived.Test.YtniidcalfhhciaaGreatQeD1
namespace Go.Proofs.YtniidcalfhhciaaGreat.X
open Go
set_option maxRecDepth 100000
set_option linter.unusedVariables false
theorem f131_t13 (K : Nat) (a0 : Int × tL × List Int) (y1 : List tA) (y2 : List tV) (q11 : Int) (F10 : Fr → Option (List tM)) (bq11 : Int) (bq12 : List tM) (bq14 : Int) (bq15 : List tM) : ∀ (n : Nat) (q14 : Int) (q15 : List tM), loopN (exec (f131E K) 1 (selC f131C [1, 1, 1, 0, 1, 0, 0, 1, 0, 0, 1, 0, 0])) 1 (f131_fr13 a0 q11 y1 y2 bq14 bq15) n (f131_fr13 a0 q11 y1 y2 q14 q15) (f131_k13 K a0 y1 y2 F10 bq11 bq12 (realL (f131E K) 1)) = f131_l13 K a0 q11 y1 y2 (fun v0 v1 => F10 (f131_fr10 a0 y1 y2 v0 v1)) n q14 q15 := by
  have key : ∀ (lr : LR (List tM)) (L : Fr → Option (List tM)) (q14 : Int) (q15 : List tM), execG (f131E K) 1 lr (selC f131C [1, 1, 1, 0, 1, 0, 0, 1, 0, 0, 1, 0, 0]) (f131_fr13 a0 q11 y1 y2 q14 q15) (loopK 1 (f131_fr13 a0 q11 y1 y2 bq14 bq15) L (f131_k13 K a0 y1 y2 F10 bq11 bq12 lr)) = f131_b13 K a0 q11 y1 y2 (fun v0 v1 => F10 (f131_fr10 a0 y1 y2 v0 v1)) (fun v0 v1 => L (f131_fr13 a0 q11 y1 y2 v0 v1)) q14 q15 := by
    intro lr L q14 q15; kernel_rfl
  intro n q14 q15
  refine loopN_iter (X := Int × List tM) (frame := fun x => (f131_fr13 a0 q11 y1 y2 x.1 x.2)) (body := (fun L x => (fun L13 => f131_b13 K a0 q11 y1 y2 (fun v0 v1 => F10 (f131_fr10 a0 y1 y2 v0 v1)) L13 x.1 x.2) (fun v0 v1 => L (v0, v1)))) (fun L x => ?_) n (q14, q15)
  rw [exec_G]
  exact (key (realL (f131E K) 1) L x.1 x.2).trans (by rfl)
theorem f131_t10 (K : Nat) (a0 : Int × tL × List Int) (y1 : List tA) (y2 : List tV) (bq11 : Int) (bq12 : List tM) : ∀ (n : Nat) (q11 : Int) (q12 : List tM), loopN (exec (f131E K) 1 (selC f131C [1, 1, 1, 0, 1, 0, 0])) 1 (f131_fr10 a0 y1 y2 bq11 bq12) n (f131_fr10 a0 y1 y2 q11 q12) (f131_k10 K a0 (realL (f131E K) 1)) = f131_l10 K a0 y1 y2 n q11 q12 := by
  have key : ∀ (lr : LR (List tM)) (L : Fr → Option (List tM)) (q11 : Int) (q12 : List tM), execG (f131E K) 1 lr (selC f131C [1, 1, 1, 0, 1, 0, 0]) (f131_fr10 a0 y1 y2 q11 q12) (loopK 1 (f131_fr10 a0 y1 y2 bq11 bq12) L (f131_k10 K a0 lr)) = f131_b10 K a0 y1 y2 (fun c0 d0 d1 => lr (selC f131C [1, 1, 1, 0, 1, 0, 0, 1, 0, 0, 1, 0, 0]) (f131_fr13 a0 c0 y1 y2 d0 d1) (f131_k13 K a0 y1 y2 L bq11 bq12 lr)) (fun v0 v1 => L (f131_fr10 a0 y1 y2 v0 v1)) q11 q12 := by
    intro lr L q11 q12; kernel_rfl
  intro n q11 q12
  refine loopN_iter (X := Int × List tM) (frame := fun x => (f131_fr10 a0 y1 y2 x.1 x.2)) (body := (fun L x => (fun L10 => f131_b10 K a0 y1 y2 (fun c0 d0 d1 => f131_l13 K a0 c0 y1 y2 L10 K d0 d1) L10 x.1 x.2) (fun v0 v1 => L (v0, v1)))) (fun L x => ?_) n (q11, q12)
  rw [exec_G]
  have h13 : (fun c0 d0 d1 => (realL (f131E K) 1) (selC f131C [1, 1, 1, 0, 1, 0, 0, 1, 0, 0, 1, 0, 0]) (f131_fr13 a0 c0 y1 y2 d0 d1) (f131_k13 K a0 y1 y2 L bq11 bq12 (realL (f131E K) 1))) = fun c0 d0 d1 => f131_l13 K a0 c0 y1 y2 (fun v0 v1 => L (f131_fr10 a0 y1 y2 v0 v1)) K d0 d1 := by
    funext c0 d0 d1
    exact f131_t13 K a0 y1 y2 c0 L bq11 bq12 d0 d1 K d0 d1
  exact (key (realL (f131E K) 1) L x.1 x.2).trans (by rw [h13] <;> rfl)
theorem f131_run (K : Nat) (a0 : Int × tL × List Int) : runF (f131E K) Tryz.f131 [(.ro, (.cons sI (.cons sL (.list 2 sI))))] [(.list 57 sM)] (a0, ()) = f131G K a0 := by
  have key : ∀ (lr : LR (List tM)), runG (f131E K) Tryz.f131 [(.ro, (.cons sI (.cons sL (.list 2 sI))))] [(.list 57 sM)] (a0, ()) lr = f131_g K a0 (fun c0 c1 d0 d1 => lr (selC f131C [1, 1, 1, 0, 1, 0, 0]) (f131_fr10 a0 c0 c1 d0 d1) (f131_k10 K a0 lr)) := by intro lr; kernel_rfl
  have h10 : (fun c0 c1 d0 d1 => (realL (f131E K) 1) (selC f131C [1, 1, 1, 0, 1, 0, 0]) (f131_fr10 a0 c0 c1 d0 d1) (f131_k10 K a0 (realL (f131E K) 1))) = fun c0 c1 d0 d1 => f131_l10 K a0 c0 c1 K d0 d1 := by
    funext c0 c1 d0 d1
    exact f131_t10 K a0 c0 c1 d0 d1 K d0 d1
  exact runF_G (n0 := 1) (by rfl) ((key (realL (f131E K) 1)).trans (by rw [h10] <;> rfl))
theorem f61_run (K : Nat) (a0 : Int × tL × List Int) : runF (f61E K) Tryz.f61 [(.ro, (.cons sI (.cons sL (.list 2 sI))))] [(.list 58 (.list 55 sV)), sI] (a0, ()) = f61G K a0 := by kernel_rfl
theorem f138_run (K : Nat) (a0 : Int × tL × List Int) : runF (f138E K) Tryz.f138 [(.ro, (.cons sI (.cons sL (.list 2 sI))))] [(.list 57 sM), sI] (a0, ()) = f138G K a0 := by kernel_rfl
theorem f25_run (K : Nat) (a0 : Int × tL × List Int) : runF (f25E K) Tryz.f25 [(.ro, (.cons sI (.cons sL (.list 2 sI))))] [sI, sI] (a0, ()) = f25G K a0 := by kernel_rfl
theorem f62_run (K : Nat) (a0 : Int × tL × List Int) : runF (f62E K) Tryz.f62 [(.ro, (.cons sI (.cons sL (.list 2 sI))))] [sI, sI] (a0, ()) = f62G K a0 := by kernel_rfl
theorem f167_run (K : Nat) (a0 : (List Int) × Int × Int) (a1 : Int × Int × Int) : runP (f167E K) Tryz.f167 5 (.int .u8) sV [(.ro, sL)] [sV] (a0, a1, ()) = f167G K a0 a1 := by kernel_rfl
theorem f63_run (K : Nat) (a0 : List Int) : runF (f63E K) Tryz.f63 [(.ro, (.list 5 (.int .u8)))] [(.cons sI (.cons sL (.list 2 sI))), sV] (a0, ()) = f63G K a0 := by kernel_rfl
theorem f168_run (K : Nat) (a0 : Int × Int × Int) (a1 : Int × Int) : runF (f168E K) Tryz.f168 [(.ro, sL), (.ro, sV)] [.bool] (a0, a1, ()) = f168G K a0 a1 := by kernel_rfl
theorem f190_t3 (K : Nat) (a0 : Int × Int × Int) (a1 : List tM) (a2 : Int × Int) (bq4 : Int) (bq5 : List tM) : ∀ (n : Nat) (q4 : Int) (q5 : List tM), loopN (exec (f190E K) 1 (selC f190C [1, 1, 0, 1, 0, 0])) 1 (f190_fr3 a0 a1 a2 bq4 bq5) n (f190_fr3 a0 a1 a2 q4 q5) (f190_k3 K a0 a1 a2 (realL (f190E K) 1)) = f190_l3 K a0 a1 a2 n q4 q5 := by
  have key : ∀ (lr : LR (List tM)) (L : Fr → Option (List tM)) (q4 : Int) (q5 : List tM), execG (f190E K) 1 lr (selC f190C [1, 1, 0, 1, 0, 0]) (f190_fr3 a0 a1 a2 q4 q5) (loopK 1 (f190_fr3 a0 a1 a2 bq4 bq5) L (f190_k3 K a0 a1 a2 lr)) = f190_b3 K a0 a1 a2 (fun v0 v1 => L (f190_fr3 a0 a1 a2 v0 v1)) q4 q5 := by
    intro lr L q4 q5; kernel_rfl
  intro n q4 q5
  refine loopN_iter (X := Int × List tM) (frame := fun x => (f190_fr3 a0 a1 a2 x.1 x.2)) (body := (fun L x => (fun L3 => f190_b3 K a0 a1 a2 L3 x.1 x.2) (fun v0 v1 => L (v0, v1)))) (fun L x => ?_) n (q4, q5)
  rw [exec_G]
  exact (key (realL (f190E K) 1) L x.1 x.2).trans (by rfl)
theorem f190_run (K : Nat) (a0 : Int × Int × Int) (a1 : List tM) (a2 : Int × Int) : runF (f190E K) Tryz.f190 [(.ro, sL), (.ro, (.list 57 sM)), (.ro, sV)] [(.list 57 sM)] (a0, a1, a2, ()) = f190G K a0 a1 a2 := by
  have key : ∀ (lr : LR (List tM)), runG (f190E K) Tryz.f190 [(.ro, sL), (.ro, (.list 57 sM)), (.ro, sV)] [(.list 57 sM)] (a0, a1, a2, ()) lr = f190_g K a0 a1 a2 (fun d0 d1 => lr (selC f190C [1, 1, 0, 1, 0, 0]) (f190_fr3 a0 a1 a2 d0 d1) (f190_k3 K a0 a1 a2 lr)) := by intro lr; kernel_rfl
  have h3 : (fun d0 d1 => (realL (f190E K) 1) (selC f190C [1, 1, 0, 1, 0, 0]) (f190_fr3 a0 a1 a2 d0 d1) (f190_k3 K a0 a1 a2 (realL (f190E K) 1))) = fun d0 d1 => f190_l3 K a0 a1 a2 K d0 d1 := by
    funext d0 d1
    exact f190_t3 K a0 a1 a2 d0 d1 K d0 d1
  exact runF_G (n0 := 1) (by rfl) ((key (realL (f190E K) 1)).trans (by rw [h3] <;> rfl))
theorem f64_run (K : Nat) (a0 : Int × tL × List Int) (a1 : Int × Int) : runF (f64E K) Tryz.f64 [(.ro, (.cons sI (.cons sL (.list 2 sI)))), (.ro, sV)] [(.list 57 sM), sI] (a0, a1, ()) = f64G K a0 a1 := by kernel_rfl
theorem f170_run (K : Nat) (a0 : Int × Int × Int) (a1 : Int × Int) : runF (f170E K) Tryz.f170 [(.ro, sL), (.ro, sV)] [.bool] (a0, a1, ()) = f170G K a0 a1 := by kernel_rfl
theorem f65_t7 (K : Nat) (a0 : Int × tL × List Int) (a1 : Int × Int) (y1 : Bool) (y2 : Int × tL × List Int) (y3 : Bool) (y4 : List tM) (bq8 : Int) (bq9 : List tM) : ∀ (n : Nat) (q8 : Int) (q9 : List tM), loopN (exec (f65E K) 1 (selC f65C [1, 1, 1, 1, 1, 1, 0, 1, 0, 0])) 1 (f65_fr7 a0 a1 y1 y2 y3 y4 bq8 bq9) n (f65_fr7 a0 a1 y1 y2 y3 y4 q8 q9) (f65_k7 K a0 a1 (realL (f65E K) 1)) = f65_l7 K a0 a1 y1 y2 y3 y4 n q8 q9 := by
  have key : ∀ (lr : LR ((List tM) × Int)) (L : Fr → Option ((List tM) × Int)) (q8 : Int) (q9 : List tM), execG (f65E K) 1 lr (selC f65C [1, 1, 1, 1, 1, 1, 0, 1, 0, 0]) (f65_fr7 a0 a1 y1 y2 y3 y4 q8 q9) (loopK 1 (f65_fr7 a0 a1 y1 y2 y3 y4 bq8 bq9) L (f65_k7 K a0 a1 lr)) = f65_b7 K a0 a1 y1 y2 y3 y4 (fun v0 v1 => L (f65_fr7 a0 a1 y1 y2 y3 y4 v0 v1)) q8 q9 := by
    intro lr L q8 q9; kernel_rfl
  intro n q8 q9
  refine loopN_iter (X := Int × List tM) (frame := fun x => (f65_fr7 a0 a1 y1 y2 y3 y4 x.1 x.2)) (body := (fun L x => (fun L7 => f65_b7 K a0 a1 y1 y2 y3 y4 L7 x.1 x.2) (fun v0 v1 => L (v0, v1)))) (fun L x => ?_) n (q8, q9)
  rw [exec_G]
  exact (key (realL (f65E K) 1) L x.1 x.2).trans (by rfl)
theorem f65_run (K : Nat) (a0 : Int × tL × List Int) (a1 : Int × Int) : runF (f65E K) Tryz.f65 [(.ro, (.cons sI (.cons sL (.list 2 sI)))), (.ro, sV)] [(.list 57 sM), sI] (a0, a1, ()) = f65G K a0 a1 := by
  have key : ∀ (lr : LR ((List tM) × Int)), runG (f65E K) Tryz.f65 [(.ro, (.cons sI (.cons sL (.list 2 sI)))), (.ro, sV)] [(.list 57 sM), sI] (a0, a1, ()) lr = f65_g K a0 a1 (fun c0 c1 c2 c3 d0 d1 => lr (selC f65C [1, 1, 1, 1, 1, 1, 0, 1, 0, 0]) (f65_fr7 a0 a1 c0 c1 c2 c3 d0 d1) (f65_k7 K a0 a1 lr)) := by intro lr; kernel_rfl
  have h7 : (fun c0 c1 c2 c3 d0 d1 => (realL (f65E K) 1) (selC f65C [1, 1, 1, 1, 1, 1, 0, 1, 0, 0]) (f65_fr7 a0 a1 c0 c1 c2 c3 d0 d1) (f65_k7 K a0 a1 (realL (f65E K) 1))) = fun c0 c1 c2 c3 d0 d1 => f65_l7 K a0 a1 c0 c1 c2 c3 K d0 d1 := by
    funext c0 c1 c2 c3 d0 d1
    exact f65_t7 K a0 a1 c0 c1 c2 c3 d0 d1 K d0 d1
  exact runF_G (n0 := 1) (by rfl) ((key (realL (f65E K) 1)).trans (by rw [h7] <;> rfl))
theorem f92_t2 (K : Nat) (a0 : List tV) (a1 : List tV) (bq3 : Int) : ∀ (n : Nat) (q3 : Int), loopN (exec (f92E K) 2 (selC f92C [1, 1, 0, 1, 0, 0])) 2 (f92_fr2 a0 a1 bq3) n (f92_fr2 a0 a1 q3) (f92_k2 K a0 a1 (realL (f92E K) 2)) = f92_l2 K a0 a1 n q3 := by
  have key : ∀ (lr : LR Bool) (L : Fr → Option Bool) (q3 : Int), execG (f92E K) 2 lr (selC f92C [1, 1, 0, 1, 0, 0]) (f92_fr2 a0 a1 q3) (loopK 2 (f92_fr2 a0 a1 bq3) L (f92_k2 K a0 a1 lr)) = f92_b2 K a0 a1 (fun v0 => L (f92_fr2 a0 a1 v0)) q3 := by
    intro lr L q3; kernel_rfl
  intro n q3
  refine loopN_iter (X := Int) (frame := fun x => (f92_fr2 a0 a1 x)) (body := (fun L x => (fun L2 => f92_b2 K a0 a1 L2 x) (fun v0 => L v0))) (fun L x => ?_) n q3
  rw [exec_G]
  exact (key (realL (f92E K) 2) L x).trans (by rfl)
theorem f92_run (K : Nat) (a0 : List tV) (a1 : List tV) : runF (f92E K) Tryz.f92 [(.ro, (.list 55 sV)), (.ro, (.list 55 sV))] [.bool] (a0, a1, ()) = f92G K a0 a1 := by
  have key : ∀ (lr : LR Bool), runG (f92E K) Tryz.f92 [(.ro, (.list 55 sV)), (.ro, (.list 55 sV))] [.bool] (a0, a1, ()) lr = f92_g K a0 a1 (fun d0 => lr (selC f92C [1, 1, 0, 1, 0, 0]) (f92_fr2 a0 a1 d0) (f92_k2 K a0 a1 lr)) := by intro lr; kernel_rfl
  have h2 : (fun d0 => (realL (f92E K) 2) (selC f92C [1, 1, 0, 1, 0, 0]) (f92_fr2 a0 a1 d0) (f92_k2 K a0 a1 (realL (f92E K) 2))) = fun d0 => f92_l2 K a0 a1 K d0 := by
    funext d0
    exact f92_t2 K a0 a1 d0 K d0
  exact runF_G (n0 := 2) (by rfl) ((key (realL (f92E K) 2)).trans (by rw [h2] <;> rfl))
theorem f44_t3 (K : Nat) (a0 : List (List tV)) (a1 : List (List tV)) (bq4 : Int) : ∀ (n : Nat) (q4 : Int), loopN (exec (f44E K) 2 (selC f44C [1, 1, 0, 1, 0, 0])) 2 (f44_fr3 a0 a1 bq4) n (f44_fr3 a0 a1 q4) (f44_k3 K a0 a1 (realL (f44E K) 2)) = f44_l3 K a0 a1 n q4 := by
  have key : ∀ (lr : LR Bool) (L : Fr → Option Bool) (q4 : Int), execG (f44E K) 2 lr (selC f44C [1, 1, 0, 1, 0, 0]) (f44_fr3 a0 a1 q4) (loopK 2 (f44_fr3 a0 a1 bq4) L (f44_k3 K a0 a1 lr)) = f44_b3 K a0 a1 (fun v0 => L (f44_fr3 a0 a1 v0)) q4 := by
    intro lr L q4; kernel_rfl
  intro n q4
  refine loopN_iter (X := Int) (frame := fun x => (f44_fr3 a0 a1 x)) (body := (fun L x => (fun L3 => f44_b3 K a0 a1 L3 x) (fun v0 => L v0))) (fun L x => ?_) n q4
  rw [exec_G]
  exact (key (realL (f44E K) 2) L x).trans (by rfl)
theorem f44_run (K : Nat) (a0 : List (List tV)) (a1 : List (List tV)) : runF (f44E K) Tryz.f44 [(.ro, (.list 58 (.list 55 sV))), (.ro, (.list 58 (.list 55 sV)))] [.bool] (a0, a1, ()) = f44G K a0 a1 := by
  have key : ∀ (lr : LR Bool), runG (f44E K) Tryz.f44 [(.ro, (.list 58 (.list 55 sV))), (.ro, (.list 58 (.list 55 sV)))] [.bool] (a0, a1, ()) lr = f44_g K a0 a1 (fun d0 => lr (selC f44C [1, 1, 0, 1, 0, 0]) (f44_fr3 a0 a1 d0) (f44_k3 K a0 a1 lr)) := by intro lr; kernel_rfl
  have h3 : (fun d0 => (realL (f44E K) 2) (selC f44C [1, 1, 0, 1, 0, 0]) (f44_fr3 a0 a1 d0) (f44_k3 K a0 a1 (realL (f44E K) 2))) = fun d0 => f44_l3 K a0 a1 K d0 := by
    funext d0
    exact f44_t3 K a0 a1 d0 K d0
  exact runF_G (n0 := 2) (by rfl) ((key (realL (f44E K) 2)).trans (by rw [h3] <;> rfl))
theorem f66_t2 (K : Nat) (a0 : List tM) (a1 : List tM) (bq3 : Int) : ∀ (n : Nat) (q3 : Int), loopN (exec (f66E K) 2 (selC f66C [1, 1, 0, 1, 0, 0])) 2 (f66_fr2 a0 a1 bq3) n (f66_fr2 a0 a1 q3) (f66_k2 K a0 a1 (realL (f66E K) 2)) = f66_l2 K a0 a1 n q3 := by
  have key : ∀ (lr : LR Bool) (L : Fr → Option Bool) (q3 : Int), execG (f66E K) 2 lr (selC f66C [1, 1, 0, 1, 0, 0]) (f66_fr2 a0 a1 q3) (loopK 2 (f66_fr2 a0 a1 bq3) L (f66_k2 K a0 a1 lr)) = f66_b2 K a0 a1 (fun v0 => L (f66_fr2 a0 a1 v0)) q3 := by
    intro lr L q3; kernel_rfl
  intro n q3
  refine loopN_iter (X := Int) (frame := fun x => (f66_fr2 a0 a1 x)) (body := (fun L x => (fun L2 => f66_b2 K a0 a1 L2 x) (fun v0 => L v0))) (fun L x => ?_) n q3
  rw [exec_G]
  exact (key (realL (f66E K) 2) L x).trans (by rfl)
theorem f66_run (K : Nat) (a0 : List tM) (a1 : List tM) : runF (f66E K) Tryz.f66 [(.ro, (.list 57 sM)), (.ro, (.list 57 sM))] [.bool] (a0, a1, ()) = f66G K a0 a1 := by
  have key : ∀ (lr : LR Bool), runG (f66E K) Tryz.f66 [(.ro, (.list 57 sM)), (.ro, (.list 57 sM))] [.bool] (a0, a1, ()) lr = f66_g K a0 a1 (fun d0 => lr (selC f66C [1, 1, 0, 1, 0, 0]) (f66_fr2 a0 a1 d0) (f66_k2 K a0 a1 lr)) := by intro lr; kernel_rfl
  have h2 : (fun d0 => (realL (f66E K) 2) (selC f66C [1, 1, 0, 1, 0, 0]) (f66_fr2 a0 a1 d0) (f66_k2 K a0 a1 (realL (f66E K) 2))) = fun d0 => f66_l2 K a0 a1 K d0 := by
    funext d0
    exact f66_t2 K a0 a1 d0 K d0
  exact runF_G (n0 := 2) (by rfl) ((key (realL (f66E K) 2)).trans (by rw [h2] <;> rfl))
theorem f24_run (K : Nat) (a0 : Int × tL × List Int) : runF (f24E K) Tryz.f24 [(.ro, (.cons sI (.cons sL (.list 2 sI))))] [sL, sI] (a0, ()) = f24G K a0 := by kernel_rfl
theorem f7_t15 (K : Nat) (a0 : List Int) (y1 : Bool) (y2 : Int × tL × List Int) (y3 : (List (List tV)) × Int) (y4 : (List (List tV)) × Int) (y5 : Int × Int) (y6 : Int × Int) (y7 : (Int × tL × List Int) × Int × Int) (y8 : (List tM) × Int) (y9 : (List tM) × Int) (y10 : Bool) (y11 : Bool) (y12 : tL × Int) (bq16 : Int) (bq17 : Int) : ∀ (n : Nat) (q16 : Int) (q17 : Int), loopN (exec (f7E K) 1 (selC f7C [1, 1, 1, 1, 1, 1, 1, 1, 1, 1, 1, 1, 1, 1, 0, 1, 0, 0])) 1 (f7_fr15 a0 y1 y2 y3 y4 y5 y6 y7 y8 y9 y10 y11 y12 bq16 bq17) n (f7_fr15 a0 y1 y2 y3 y4 y5 y6 y7 y8 y9 y10 y11 y12 q16 q17) (f7_k15 K a0 (realL (f7E K) 1)) = f7_l15 K a0 y1 y2 y3 y4 y5 y6 y7 y8 y9 y10 y11 y12 n q16 q17 := by
  have key : ∀ (lr : LR Bool) (L : Fr → Option Bool) (q16 : Int) (q17 : Int), execG (f7E K) 1 lr (selC f7C [1, 1, 1, 1, 1, 1, 1, 1, 1, 1, 1, 1, 1, 1, 0, 1, 0, 0]) (f7_fr15 a0 y1 y2 y3 y4 y5 y6 y7 y8 y9 y10 y11 y12 q16 q17) (loopK 1 (f7_fr15 a0 y1 y2 y3 y4 y5 y6 y7 y8 y9 y10 y11 y12 bq16 bq17) L (f7_k15 K a0 lr)) = f7_b15 K a0 y1 y2 y3 y4 y5 y6 y7 y8 y9 y10 y11 y12 (fun v0 v1 => L (f7_fr15 a0 y1 y2 y3 y4 y5 y6 y7 y8 y9 y10 y11 y12 v0 v1)) q16 q17 := by
    intro lr L q16 q17; kernel_rfl
  intro n q16 q17
  refine loopN_iter (X := Int × Int) (frame := fun x => (f7_fr15 a0 y1 y2 y3 y4 y5 y6 y7 y8 y9 y10 y11 y12 x.1 x.2)) (body := (fun L x => (fun L15 => f7_b15 K a0 y1 y2 y3 y4 y5 y6 y7 y8 y9 y10 y11 y12 L15 x.1 x.2) (fun v0 v1 => L (v0, v1)))) (fun L x => ?_) n (q16, q17)
  rw [exec_G]
  exact (key (realL (f7E K) 1) L x.1 x.2).trans (by rfl)
theorem f7_run (K : Nat) (a0 : List Int) : runF (f7E K) Tryz.f7 [(.ro, (.list 5 (.int .u8)))] [.bool] (a0, ()) = f7G K a0 := by
  have key : ∀ (lr : LR Bool), runG (f7E K) Tryz.f7 [(.ro, (.list 5 (.int .u8)))] [.bool] (a0, ()) lr = f7_g K a0 (fun c0 c1 c2 c3 c4 c5 c6 c7 c8 c9 c10 c11 d0 d1 => lr (selC f7C [1, 1, 1, 1, 1, 1, 1, 1, 1, 1, 1, 1, 1, 1, 0, 1, 0, 0]) (f7_fr15 a0 c0 c1 c2 c3 c4 c5 c6 c7 c8 c9 c10 c11 d0 d1) (f7_k15 K a0 lr)) := by intro lr; kernel_rfl
  have h15 : (fun c0 c1 c2 c3 c4 c5 c6 c7 c8 c9 c10 c11 d0 d1 => (realL (f7E K) 1) (selC f7C [1, 1, 1, 1, 1, 1, 1, 1, 1, 1, 1, 1, 1, 1, 0, 1, 0, 0]) (f7_fr15 a0 c0 c1 c2 c3 c4 c5 c6 c7 c8 c9 c10 c11 d0 d1) (f7_k15 K a0 (realL (f7E K) 1))) = fun c0 c1 c2 c3 c4 c5 c6 c7 c8 c9 c10 c11 d0 d1 => f7_l15 K a0 c0 c1 c2 c3 c4 c5 c6 c7 c8 c9 c10 c11 K d0 d1 := by
    funext c0 c1 c2 c3 c4 c5 c6 c7 c8 c9 c10 c11 d0 d1
    exact f7_t15 K a0 c0 c1 c2 c3 c4 c5 c6 c7 c8 c9 c10 c11 d0 d1 K d0 d1
  exact runF_G (n0 := 1) (by rfl) ((key (realL (f7E K) 1)).trans (by rw [h15] <;> rfl))
end Go.Proofs.YtniidcalfhhciaaGreat.X
