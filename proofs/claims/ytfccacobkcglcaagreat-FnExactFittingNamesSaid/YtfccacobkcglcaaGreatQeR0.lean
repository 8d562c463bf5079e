/- Functions of the program as plain Lean functions, and that the program does what they say. Printed by gen.py. -/
import Derived.Test.YtfccacobkcglcaaGreatQeD0
namespace Go.Proofs.YtfccacobkcglcaaGreat.X
open Go
set_option maxRecDepth 100000
set_option linter.unusedVariables false
theorem f33_run (K : Nat) (a0 : List (tV × Int)) (a1 : Int) : runF (f33E K) Tryz.f33 [(.ro, (.list 175 (.cons sV sI))), (.ro, sI)] [sI] (a0, a1, ()) = f33G K a0 a1 := by kernel_rfl
theorem f53_run (K : Nat) (a0 : Int × Int) : runF (f53E K) Tryz.f53 [(.ro, sV)] [sV] (a0, ()) = f53G K a0 := by kernel_rfl
theorem f145_run (K : Nat) (a0 : tV × Int) : runF (f145E K) Tryz.f145 [(.ro, (.cons sV sI))] [(.cons sV sI)] (a0, ()) = f145G K a0 := by kernel_rfl
theorem f35_t3 (K : Nat) (a0 : List (tV × Int)) (bq4 : Int) (bq5 : List (tV × Int)) : ∀ (n : Nat) (q4 : Int) (q5 : List (tV × Int)), loopN (exec (f35E K) 1 (selC f35C [1, 1, 0, 1, 0, 0])) 1 (f35_fr3 a0 bq4 bq5) n (f35_fr3 a0 q4 q5) (f35_k3 K a0 (realL (f35E K) 1)) = f35_l3 K a0 n q4 q5 := by
  have key : ∀ (lr : LR (List (tV × Int))) (L : Fr → Option (List (tV × Int))) (q4 : Int) (q5 : List (tV × Int)), execG (f35E K) 1 lr (selC f35C [1, 1, 0, 1, 0, 0]) (f35_fr3 a0 q4 q5) (loopK 1 (f35_fr3 a0 bq4 bq5) L (f35_k3 K a0 lr)) = f35_b3 K a0 (fun v0 v1 => L (f35_fr3 a0 v0 v1)) q4 q5 := by
    intro lr L q4 q5; kernel_rfl
  intro n q4 q5
  refine loopN_iter (X := Int × List (tV × Int)) (frame := fun x => (f35_fr3 a0 x.1 x.2)) (body := (fun L x => (fun L3 => f35_b3 K a0 L3 x.1 x.2) (fun v0 v1 => L (v0, v1)))) (fun L x => ?_) n (q4, q5)
  rw [exec_G]
  exact (key (realL (f35E K) 1) L x.1 x.2).trans (by rfl)
theorem f35_run (K : Nat) (a0 : List (tV × Int)) : runF (f35E K) Tryz.f35 [(.ro, (.list 175 (.cons sV sI)))] [(.list 133 (.cons sV sI))] (a0, ()) = f35G K a0 := by
  have key : ∀ (lr : LR (List (tV × Int))), runG (f35E K) Tryz.f35 [(.ro, (.list 175 (.cons sV sI)))] [(.list 133 (.cons sV sI))] (a0, ()) lr = f35_g K a0 (fun d0 d1 => lr (selC f35C [1, 1, 0, 1, 0, 0]) (f35_fr3 a0 d0 d1) (f35_k3 K a0 lr)) := by intro lr; kernel_rfl
  have h3 : (fun d0 d1 => (realL (f35E K) 1) (selC f35C [1, 1, 0, 1, 0, 0]) (f35_fr3 a0 d0 d1) (f35_k3 K a0 (realL (f35E K) 1))) = fun d0 d1 => f35_l3 K a0 K d0 d1 := by
    funext d0 d1
    exact f35_t3 K a0 d0 d1 K d0 d1
  exact runF_G (n0 := 1) (by rfl) ((key (realL (f35E K) 1)).trans (by rw [h3] <;> rfl))
theorem f141_run (K : Nat) (a0 a1 a2 : Int) : runF (f141E K) Tryz.f141 [(.ro, sI), (.ro, sI), (.ro, sI)] [.bool] (a0, a1, a2, ()) = f141G K a0 a1 a2 := by kernel_rfl
theorem f211_run (K : Nat) (a0 : Int × Int) : runF (f211E K) Tryz.f211 [(.ro, sV)] [.bool] (a0, ()) = f211G K a0 := by kernel_rfl
theorem f96_t4 (K : Nat) (a0 : List (tV × Int)) (bq5 : Int) : ∀ (n : Nat) (q5 : Int), loopN (exec (f96E K) 1 (selC f96C [1, 0, 1, 0, 0])) 1 (f96_fr4 a0 bq5) n (f96_fr4 a0 q5) (f96_k4 K a0 (realL (f96E K) 1)) = f96_l4 K a0 n q5 := by
  have key : ∀ (lr : LR Bool) (L : Fr → Option Bool) (q5 : Int), execG (f96E K) 1 lr (selC f96C [1, 0, 1, 0, 0]) (f96_fr4 a0 q5) (loopK 1 (f96_fr4 a0 bq5) L (f96_k4 K a0 lr)) = f96_b4 K a0 (fun v0 => L (f96_fr4 a0 v0)) q5 := by
    intro lr L q5; kernel_rfl
  intro n q5
  refine loopN_iter (X := Int) (frame := fun x => (f96_fr4 a0 x)) (body := (fun L x => (fun L4 => f96_b4 K a0 L4 x) (fun v0 => L v0))) (fun L x => ?_) n q5
  rw [exec_G]
  exact (key (realL (f96E K) 1) L x).trans (by rfl)
theorem f96_run (K : Nat) (a0 : List (tV × Int)) : runF (f96E K) Tryz.f96 [(.ro, (.list 133 (.cons sV sI)))] [.bool] (a0, ()) = f96G K a0 := by
  have key : ∀ (lr : LR Bool), runG (f96E K) Tryz.f96 [(.ro, (.list 133 (.cons sV sI)))] [.bool] (a0, ()) lr = f96_g K a0 (fun d0 => lr (selC f96C [1, 0, 1, 0, 0]) (f96_fr4 a0 d0) (f96_k4 K a0 lr)) := by intro lr; kernel_rfl
  have h4 : (fun d0 => (realL (f96E K) 1) (selC f96C [1, 0, 1, 0, 0]) (f96_fr4 a0 d0) (f96_k4 K a0 (realL (f96E K) 1))) = fun d0 => f96_l4 K a0 K d0 := by
    funext d0
    exact f96_t4 K a0 d0 K d0
  exact runF_G (n0 := 1) (by rfl) ((key (realL (f96E K) 1)).trans (by rw [h4] <;> rfl))
theorem f142_run (K : Nat) : runF (f142E K) Tryz.f142 [] [(.list 9 .str)] (()) = f142G K := by kernel_rfl
theorem f252_run (K : Nat) (a0 : ByteArray) (a1 : Int) : runF (f252E K) Tryz.f252 [(.ro, .str), (.ro, sI)] [sI, (.list 95 sM), .bool] (a0, a1, ()) = f252G K a0 a1 := by kernel_rfl
theorem f233_run (K : Nat) : runF (f233E K) Tryz.f233 [] [sA] (()) = f233G K := by kernel_rfl
theorem f306_run (K : Nat) : runF (f306E K) Tryz.f306 [] [sM] (()) = f306G K := by kernel_rfl
theorem f351_run (K : Nat) (a0 a1 : Int × Int × Int × Int) : runF (f351E K) Tryz.f351 [(.ro, sA), (.ro, sA)] [sA] (a0, a1, ()) = f351G K a0 a1 := by kernel_rfl
theorem f341_run (K : Nat) (a0 : Int × Int × Int × Int) (a1 : Int × Int) : runF (f341E K) Tryz.f341 [(.ro, sA), (.ro, sV)] [sV] (a0, a1, ()) = f341G K a0 a1 := by kernel_rfl
theorem f340_run (K : Nat) (a0 a1 : Int × Int) : runF (f340E K) Tryz.f340 [(.ro, sV), (.ro, sV)] [sV] (a0, a1, ()) = f340G K a0 a1 := by kernel_rfl
theorem f307_run (K : Nat) (a0 a1 : tA × Int × Int) : runF (f307E K) Tryz.f307 [(.ro, sM), (.ro, sM)] [sM] (a0, a1, ()) = f307G K a0 a1 := by kernel_rfl
theorem f255_run (K : Nat) (a0 a1 : Int) : runF (f255E K) Tryz.f255 [(.ro, sI), (.ro, sI)] [sI] (a0, a1, ()) = f255G K a0 a1 := by kernel_rfl
theorem f153_run (K : Nat) (a0 : Int × Int × Int) (a1 : Int × Int) : runF (f153E K) Tryz.f153 [(.ro, sL), (.ro, sV)] [sV] (a0, a1, ()) = f153G K a0 a1 := by kernel_rfl
theorem f303_run (K : Nat) (a0 : Int × Int × Int) (a1 : tA × Int × Int) : runF (f303E K) Tryz.f303 [(.ro, sL), (.ro, sM)] [sM] (a0, a1, ()) = f303G K a0 a1 := by kernel_rfl
theorem f398_run (K : Nat) (a0 : Int × Int × Int × Int) : runF (f398E K) Tryz.f398 [(.ro, sA)] [(.list 2 sI)] (a0, ()) = f398G K a0 := by kernel_rfl
theorem f397_t2 (K : Nat) (a0 a1 : List Int) (bq3 : Int) : ∀ (n : Nat) (q3 : Int), loopN (exec (f397E K) 2 (selC f397C [1, 0, 1, 0, 0])) 2 (f397_fr2 a0 a1 bq3) n (f397_fr2 a0 a1 q3) (f397_k2 K a0 a1 (realL (f397E K) 2)) = f397_l2 K a0 a1 n q3 := by
  have key : ∀ (lr : LR Bool) (L : Fr → Option Bool) (q3 : Int), execG (f397E K) 2 lr (selC f397C [1, 0, 1, 0, 0]) (f397_fr2 a0 a1 q3) (loopK 2 (f397_fr2 a0 a1 bq3) L (f397_k2 K a0 a1 lr)) = f397_b2 K a0 a1 (fun v0 => L (f397_fr2 a0 a1 v0)) q3 := by
    intro lr L q3; kernel_rfl
  intro n q3
  refine loopN_iter (X := Int) (frame := fun x => (f397_fr2 a0 a1 x)) (body := (fun L x => (fun L2 => f397_b2 K a0 a1 L2 x) (fun v0 => L v0))) (fun L x => ?_) n q3
  rw [exec_G]
  exact (key (realL (f397E K) 2) L x).trans (by rfl)
theorem f397_run (K : Nat) (a0 a1 : List Int) : runF (f397E K) Tryz.f397 [(.ro, (.list 2 sI)), (.ro, (.list 2 sI))] [.bool] (a0, a1, ()) = f397G K a0 a1 := by
  have key : ∀ (lr : LR Bool), runG (f397E K) Tryz.f397 [(.ro, (.list 2 sI)), (.ro, (.list 2 sI))] [.bool] (a0, a1, ()) lr = f397_g K a0 a1 (fun d0 => lr (selC f397C [1, 0, 1, 0, 0]) (f397_fr2 a0 a1 d0) (f397_k2 K a0 a1 lr)) := by intro lr; kernel_rfl
  have h2 : (fun d0 => (realL (f397E K) 2) (selC f397C [1, 0, 1, 0, 0]) (f397_fr2 a0 a1 d0) (f397_k2 K a0 a1 (realL (f397E K) 2))) = fun d0 => f397_l2 K a0 a1 K d0 := by
    funext d0
    exact f397_t2 K a0 a1 d0 K d0
  exact runF_G (n0 := 2) (by rfl) ((key (realL (f397E K) 2)).trans (by rw [h2] <;> rfl))
theorem f350_run (K : Nat) (a0 a1 : Int × Int × Int × Int) : runF (f350E K) Tryz.f350 [(.ro, sA), (.ro, sA)] [.bool] (a0, a1, ()) = f350G K a0 a1 := by kernel_rfl
theorem f339_run (K : Nat) (a0 a1 : Int × Int) : runF (f339E K) Tryz.f339 [(.ro, sV), (.ro, sV)] [.bool] (a0, a1, ()) = f339G K a0 a1 := by kernel_rfl
theorem f304_run (K : Nat) (a0 a1 : tA × Int × Int) : runF (f304E K) Tryz.f304 [(.ro, sM), (.ro, sM)] [.bool] (a0, a1, ()) = f304G K a0 a1 := by kernel_rfl
theorem f328_t6 (K : Nat) (a0 : List tM) (a1 : tA × Int × Int) (bq7 bq8 : Int) : ∀ (n : Nat) (q7 q8 : Int), loopN (exec (f328E K) 1 (selC f328C [1, 1, 0, 0, 0])) 1 (f328_fr6 a0 a1 bq7 bq8) n (f328_fr6 a0 a1 q7 q8) (f328_k6 K a0 a1 (realL (f328E K) 1)) = f328_l6 K a0 a1 n q7 q8 := by
  have key : ∀ (lr : LR Int) (L : Fr → Option Int) (q7 q8 : Int), execG (f328E K) 1 lr (selC f328C [1, 1, 0, 0, 0]) (f328_fr6 a0 a1 q7 q8) (loopK 1 (f328_fr6 a0 a1 bq7 bq8) L (f328_k6 K a0 a1 lr)) = f328_b6 K a0 a1 (fun v0 v1 => L (f328_fr6 a0 a1 v0 v1)) q7 q8 := by
    intro lr L q7 q8; kernel_rfl
  intro n q7 q8
  refine loopN_iter (X := Int × Int) (frame := fun x => (f328_fr6 a0 a1 x.1 x.2)) (body := (fun L x => (fun L6 => f328_b6 K a0 a1 L6 x.1 x.2) (fun v0 v1 => L (v0, v1)))) (fun L x => ?_) n (q7, q8)
  rw [exec_G]
  exact (key (realL (f328E K) 1) L x.1 x.2).trans (by rfl)
theorem f328_run (K : Nat) (a0 : List tM) (a1 : tA × Int × Int) : runF (f328E K) Tryz.f328 [(.ro, (.list 95 sM)), (.ro, sM)] [sI] (a0, a1, ()) = f328G K a0 a1 := by
  have key : ∀ (lr : LR Int), runG (f328E K) Tryz.f328 [(.ro, (.list 95 sM)), (.ro, sM)] [sI] (a0, a1, ()) lr = f328_g K a0 a1 (fun d0 d1 => lr (selC f328C [1, 1, 0, 0, 0]) (f328_fr6 a0 a1 d0 d1) (f328_k6 K a0 a1 lr)) := by intro lr; kernel_rfl
  have h6 : (fun d0 d1 => (realL (f328E K) 1) (selC f328C [1, 1, 0, 0, 0]) (f328_fr6 a0 a1 d0 d1) (f328_k6 K a0 a1 (realL (f328E K) 1))) = fun d0 d1 => f328_l6 K a0 a1 K d0 d1 := by
    funext d0 d1
    exact f328_t6 K a0 a1 d0 d1 K d0 d1
  exact runF_G (n0 := 1) (by rfl) ((key (realL (f328E K) 1)).trans (by rw [h6] <;> rfl))
theorem f305_run (K : Nat) (a0 : List tM) (a1 : tA × Int × Int) : runF (f305E K) Tryz.f305 [(.ro, (.list 95 sM)), (.ro, sM)] [.bool] (a0, a1, ()) = f305G K a0 a1 := by kernel_rfl
theorem f324_run (K : Nat) (a0 : List tM) (a1 : tA × Int × Int) : runF (f324E K) Tryz.f324 [(.mv, (.list 95 sM)), (.ro, sM)] [(.list 95 sM)] (a0, a1, ()) = f324G K a0 a1 := by kernel_rfl
theorem f253_t21 (K : Nat) (a0 : Int × Int × Int) (a1 : List tM) (q18 : Int) (q20 : List tM) (F17 : Fr → Option (List tM)) (bq18 : Int) (bq19 bq20 : List tM) (bq22 : Int) (bq23 bq24 : List tM) : ∀ (n : Nat) (q22 : Int) (q23 q24 : List tM), loopN (exec (f253E K) 1 (selC f253C [1, 1, 1, 0, 1, 0, 0, 1, 0, 0, 1, 0, 0])) 1 (f253_fr21 a0 a1 q18 q20 bq22 bq23 bq24) n (f253_fr21 a0 a1 q18 q20 q22 q23 q24) (f253_k21 K a0 a1 F17 bq18 bq19 bq20 (realL (f253E K) 1)) = f253_l21 K a0 a1 q18 q20 (fun v0 v1 v2 => F17 (f253_fr17 a0 a1 v0 v1 v2)) n q22 q23 q24 := by
  have key : ∀ (lr : LR (List tM)) (L : Fr → Option (List tM)) (q22 : Int) (q23 q24 : List tM), execG (f253E K) 1 lr (selC f253C [1, 1, 1, 0, 1, 0, 0, 1, 0, 0, 1, 0, 0]) (f253_fr21 a0 a1 q18 q20 q22 q23 q24) (loopK 1 (f253_fr21 a0 a1 q18 q20 bq22 bq23 bq24) L (f253_k21 K a0 a1 F17 bq18 bq19 bq20 lr)) = f253_b21 K a0 a1 q18 q20 (fun v0 v1 v2 => F17 (f253_fr17 a0 a1 v0 v1 v2)) (fun v0 v1 v2 => L (f253_fr21 a0 a1 q18 q20 v0 v1 v2)) q22 q23 q24 := by
    intro lr L q22 q23 q24; kernel_rfl
  intro n q22 q23 q24
  refine loopN_iter (X := Int × List tM × List tM) (frame := fun x => (f253_fr21 a0 a1 q18 q20 x.1 x.2.1 x.2.2)) (body := (fun L x => (fun L21 => f253_b21 K a0 a1 q18 q20 (fun v0 v1 v2 => F17 (f253_fr17 a0 a1 v0 v1 v2)) L21 x.1 x.2.1 x.2.2) (fun v0 v1 v2 => L (v0, v1, v2)))) (fun L x => ?_) n (q22, q23, q24)
  rw [exec_G]
  exact (key (realL (f253E K) 1) L x.1 x.2.1 x.2.2).trans (by rfl)
theorem f253_t17 (K : Nat) (a0 : Int × Int × Int) (a1 : List tM) (bq18 : Int) (bq19 bq20 : List tM) : ∀ (n : Nat) (q18 : Int) (q19 q20 : List tM), loopN (exec (f253E K) 1 (selC f253C [1, 1, 1, 0, 1, 0, 0])) 1 (f253_fr17 a0 a1 bq18 bq19 bq20) n (f253_fr17 a0 a1 q18 q19 q20) (f253_k17 K a0 a1 (realL (f253E K) 1)) = f253_l17 K a0 a1 n q18 q19 q20 := by
  have key : ∀ (lr : LR (List tM)) (L : Fr → Option (List tM)) (q18 : Int) (q19 q20 : List tM), execG (f253E K) 1 lr (selC f253C [1, 1, 1, 0, 1, 0, 0]) (f253_fr17 a0 a1 q18 q19 q20) (loopK 1 (f253_fr17 a0 a1 bq18 bq19 bq20) L (f253_k17 K a0 a1 lr)) = f253_b17 K a0 a1 (fun c0 c1 d0 d1 d2 => lr (selC f253C [1, 1, 1, 0, 1, 0, 0, 1, 0, 0, 1, 0, 0]) (f253_fr21 a0 a1 c0 c1 d0 d1 d2) (f253_k21 K a0 a1 L bq18 bq19 bq20 lr)) (fun v0 v1 v2 => L (f253_fr17 a0 a1 v0 v1 v2)) q18 q19 q20 := by
    intro lr L q18 q19 q20; kernel_rfl
  intro n q18 q19 q20
  refine loopN_iter (X := Int × List tM × List tM) (frame := fun x => (f253_fr17 a0 a1 x.1 x.2.1 x.2.2)) (body := (fun L x => (fun L17 => f253_b17 K a0 a1 (fun c0 c1 d0 d1 d2 => f253_l21 K a0 a1 c0 c1 L17 K d0 d1 d2) L17 x.1 x.2.1 x.2.2) (fun v0 v1 v2 => L (v0, v1, v2)))) (fun L x => ?_) n (q18, q19, q20)
  rw [exec_G]
  have h21 : (fun c0 c1 d0 d1 d2 => (realL (f253E K) 1) (selC f253C [1, 1, 1, 0, 1, 0, 0, 1, 0, 0, 1, 0, 0]) (f253_fr21 a0 a1 c0 c1 d0 d1 d2) (f253_k21 K a0 a1 L bq18 bq19 bq20 (realL (f253E K) 1))) = fun c0 c1 d0 d1 d2 => f253_l21 K a0 a1 c0 c1 (fun v0 v1 v2 => L (f253_fr17 a0 a1 v0 v1 v2)) K d0 d1 d2 := by
    funext c0 c1 d0 d1 d2
    exact f253_t21 K a0 a1 c0 c1 L bq18 bq19 bq20 d0 d1 d2 K d0 d1 d2
  exact (key (realL (f253E K) 1) L x.1 x.2.1 x.2.2).trans (by rw [h21] <;> rfl)
theorem f253_run (K : Nat) (a0 : Int × Int × Int) (a1 : List tM) : runF (f253E K) Tryz.f253 [(.ro, sL), (.ro, (.list 95 sM))] [(.list 95 sM)] (a0, a1, ()) = f253G K a0 a1 := by
  have key : ∀ (lr : LR (List tM)), runG (f253E K) Tryz.f253 [(.ro, sL), (.ro, (.list 95 sM))] [(.list 95 sM)] (a0, a1, ()) lr = f253_g K a0 a1 (fun d0 d1 d2 => lr (selC f253C [1, 1, 1, 0, 1, 0, 0]) (f253_fr17 a0 a1 d0 d1 d2) (f253_k17 K a0 a1 lr)) := by intro lr; kernel_rfl
  have h17 : (fun d0 d1 d2 => (realL (f253E K) 1) (selC f253C [1, 1, 1, 0, 1, 0, 0]) (f253_fr17 a0 a1 d0 d1 d2) (f253_k17 K a0 a1 (realL (f253E K) 1))) = fun d0 d1 d2 => f253_l17 K a0 a1 K d0 d1 d2 := by
    funext d0 d1 d2
    exact f253_t17 K a0 a1 d0 d1 d2 K d0 d1 d2
  exact runF_G (n0 := 1) (by rfl) ((key (realL (f253E K) 1)).trans (by rw [h17] <;> rfl))
theorem f143_run (K : Nat) (a0 : ByteArray) (a1 : Int) : runF (f143E K) Tryz.f143 [(.ro, .str), (.ro, sI)] [sI, sL, (.list 95 sM), sI] (a0, a1, ()) = f143G K a0 a1 := by kernel_rfl
theorem f232_t9 (K : Nat) (a0 : Int × Int × Int) (q7 : Int) (F6 : Fr → Option (List tV)) (bq7 : Int) (bq8 : List tV) (bq10 : Int) (bq11 : List tV) : ∀ (n : Nat) (q10 : Int) (q11 : List tV), loopN (exec (f232E K) 0 (selC f232C [1, 1, 0, 1, 0, 0, 1, 0, 0, 1, 0, 0])) 0 (f232_fr9 a0 q7 bq10 bq11) n (f232_fr9 a0 q7 q10 q11) (f232_k9 K a0 F6 bq7 bq8 (realL (f232E K) 0)) = f232_l9 K a0 q7 (fun v0 v1 => F6 (f232_fr6 a0 v0 v1)) n q10 q11 := by
  have key : ∀ (lr : LR (List tV)) (L : Fr → Option (List tV)) (q10 : Int) (q11 : List tV), execG (f232E K) 0 lr (selC f232C [1, 1, 0, 1, 0, 0, 1, 0, 0, 1, 0, 0]) (f232_fr9 a0 q7 q10 q11) (loopK 0 (f232_fr9 a0 q7 bq10 bq11) L (f232_k9 K a0 F6 bq7 bq8 lr)) = f232_b9 K a0 q7 (fun v0 v1 => F6 (f232_fr6 a0 v0 v1)) (fun v0 v1 => L (f232_fr9 a0 q7 v0 v1)) q10 q11 := by
    intro lr L q10 q11; kernel_rfl
  intro n q10 q11
  refine loopN_iter (X := Int × List tV) (frame := fun x => (f232_fr9 a0 q7 x.1 x.2)) (body := (fun L x => (fun L9 => f232_b9 K a0 q7 (fun v0 v1 => F6 (f232_fr6 a0 v0 v1)) L9 x.1 x.2) (fun v0 v1 => L (v0, v1)))) (fun L x => ?_) n (q10, q11)
  rw [exec_G]
  exact (key (realL (f232E K) 0) L x.1 x.2).trans (by rfl)
theorem f232_t6 (K : Nat) (a0 : Int × Int × Int) (bq7 : Int) (bq8 : List tV) : ∀ (n : Nat) (q7 : Int) (q8 : List tV), loopN (exec (f232E K) 0 (selC f232C [1, 1, 0, 1, 0, 0])) 0 (f232_fr6 a0 bq7 bq8) n (f232_fr6 a0 q7 q8) (f232_k6 K a0 (realL (f232E K) 0)) = f232_l6 K a0 n q7 q8 := by
  have key : ∀ (lr : LR (List tV)) (L : Fr → Option (List tV)) (q7 : Int) (q8 : List tV), execG (f232E K) 0 lr (selC f232C [1, 1, 0, 1, 0, 0]) (f232_fr6 a0 q7 q8) (loopK 0 (f232_fr6 a0 bq7 bq8) L (f232_k6 K a0 lr)) = f232_b6 K a0 (fun c0 d0 d1 => lr (selC f232C [1, 1, 0, 1, 0, 0, 1, 0, 0, 1, 0, 0]) (f232_fr9 a0 c0 d0 d1) (f232_k9 K a0 L bq7 bq8 lr)) (fun v0 v1 => L (f232_fr6 a0 v0 v1)) q7 q8 := by
    intro lr L q7 q8; kernel_rfl
  intro n q7 q8
  refine loopN_iter (X := Int × List tV) (frame := fun x => (f232_fr6 a0 x.1 x.2)) (body := (fun L x => (fun L6 => f232_b6 K a0 (fun c0 d0 d1 => f232_l9 K a0 c0 L6 K d0 d1) L6 x.1 x.2) (fun v0 v1 => L (v0, v1)))) (fun L x => ?_) n (q7, q8)
  rw [exec_G]
  have h9 : (fun c0 d0 d1 => (realL (f232E K) 0) (selC f232C [1, 1, 0, 1, 0, 0, 1, 0, 0, 1, 0, 0]) (f232_fr9 a0 c0 d0 d1) (f232_k9 K a0 L bq7 bq8 (realL (f232E K) 0))) = fun c0 d0 d1 => f232_l9 K a0 c0 (fun v0 v1 => L (f232_fr6 a0 v0 v1)) K d0 d1 := by
    funext c0 d0 d1
    exact f232_t9 K a0 c0 L bq7 bq8 d0 d1 K d0 d1
  exact (key (realL (f232E K) 0) L x.1 x.2).trans (by rw [h9] <;> rfl)
theorem f232_run (K : Nat) (a0 : Int × Int × Int) : runF (f232E K) Tryz.f232 [(.ro, sL)] [(.list 79 sV)] (a0, ()) = f232G K a0 := by
  have key : ∀ (lr : LR (List tV)), runG (f232E K) Tryz.f232 [(.ro, sL)] [(.list 79 sV)] (a0, ()) lr = f232_g K a0 (fun d0 d1 => lr (selC f232C [1, 1, 0, 1, 0, 0]) (f232_fr6 a0 d0 d1) (f232_k6 K a0 lr)) := by intro lr; kernel_rfl
  have h6 : (fun d0 d1 => (realL (f232E K) 0) (selC f232C [1, 1, 0, 1, 0, 0]) (f232_fr6 a0 d0 d1) (f232_k6 K a0 (realL (f232E K) 0))) = fun d0 d1 => f232_l6 K a0 K d0 d1 := by
    funext d0 d1
    exact f232_t6 K a0 d0 d1 K d0 d1
  exact runF_G (n0 := 0) (by rfl) ((key (realL (f232E K) 0)).trans (by rw [h6] <;> rfl))
theorem f284_run (K : Nat) (a0 : tA × Int × Int) (a1 : Int × Int) : runF (f284E K) Tryz.f284 [(.ro, sM), (.ro, sV)] [sV] (a0, a1, ()) = f284G K a0 a1 := by kernel_rfl
theorem f185_run (K : Nat) (a0 : Int × Int × Int) (a1 : tA × Int × Int) (a2 : Int × Int) : runF (f185E K) Tryz.f185 [(.ro, sL), (.ro, sM), (.ro, sV)] [sV] (a0, a1, a2, ()) = f185G K a0 a1 a2 := by kernel_rfl
theorem f280_t3 (K : Nat) (a0 : List tV) (a1 : Int × Int) (bq4 : Int) : ∀ (n : Nat) (q4 : Int), loopN (exec (f280E K) 1 (selC f280C [1, 1, 0, 0, 0])) 1 (f280_fr3 a0 a1 bq4) n (f280_fr3 a0 a1 q4) (f280_k3 K a0 a1 (realL (f280E K) 1)) = f280_l3 K a0 a1 n q4 := by
  have key : ∀ (lr : LR (List tV)) (L : Fr → Option (List tV)) (q4 : Int), execG (f280E K) 1 lr (selC f280C [1, 1, 0, 0, 0]) (f280_fr3 a0 a1 q4) (loopK 1 (f280_fr3 a0 a1 bq4) L (f280_k3 K a0 a1 lr)) = f280_b3 K a0 a1 (fun v0 => L (f280_fr3 a0 a1 v0)) q4 := by
    intro lr L q4; kernel_rfl
  intro n q4
  refine loopN_iter (X := Int) (frame := fun x => (f280_fr3 a0 a1 x)) (body := (fun L x => (fun L3 => f280_b3 K a0 a1 L3 x) (fun v0 => L v0))) (fun L x => ?_) n q4
  rw [exec_G]
  exact (key (realL (f280E K) 1) L x).trans (by rfl)
theorem f280_run (K : Nat) (a0 : List tV) (a1 : Int × Int) : runF (f280E K) Tryz.f280 [(.mv, (.list 79 sV)), (.ro, sV)] [(.list 79 sV)] (a0, a1, ()) = f280G K a0 a1 := by
  have key : ∀ (lr : LR (List tV)), runG (f280E K) Tryz.f280 [(.mv, (.list 79 sV)), (.ro, sV)] [(.list 79 sV)] (a0, a1, ()) lr = f280_g K a0 a1 (fun d0 => lr (selC f280C [1, 1, 0, 0, 0]) (f280_fr3 a0 a1 d0) (f280_k3 K a0 a1 lr)) := by intro lr; kernel_rfl
  have h3 : (fun d0 => (realL (f280E K) 1) (selC f280C [1, 1, 0, 0, 0]) (f280_fr3 a0 a1 d0) (f280_k3 K a0 a1 (realL (f280E K) 1))) = fun d0 => f280_l3 K a0 a1 K d0 := by
    funext d0
    exact f280_t3 K a0 a1 d0 K d0
  exact runF_G (n0 := 1) (by rfl) ((key (realL (f280E K) 1)).trans (by rw [h3] <;> rfl))
theorem f247_t4 (K : Nat) (a0 : Int × Int × Int) (a1 : List tM) (a2 : Int × Int) (bq5 : Int) (bq6 : List tV) : ∀ (n : Nat) (q5 : Int) (q6 : List tV), loopN (exec (f247E K) 1 (selC f247C [1, 1, 0, 1, 0, 0])) 1 (f247_fr4 a0 a1 a2 bq5 bq6) n (f247_fr4 a0 a1 a2 q5 q6) (f247_k4 K a0 a1 a2 (realL (f247E K) 1)) = f247_l4 K a0 a1 a2 n q5 q6 := by
  have key : ∀ (lr : LR (List tV)) (L : Fr → Option (List tV)) (q5 : Int) (q6 : List tV), execG (f247E K) 1 lr (selC f247C [1, 1, 0, 1, 0, 0]) (f247_fr4 a0 a1 a2 q5 q6) (loopK 1 (f247_fr4 a0 a1 a2 bq5 bq6) L (f247_k4 K a0 a1 a2 lr)) = f247_b4 K a0 a1 a2 (fun v0 v1 => L (f247_fr4 a0 a1 a2 v0 v1)) q5 q6 := by
    intro lr L q5 q6; kernel_rfl
  intro n q5 q6
  refine loopN_iter (X := Int × List tV) (frame := fun x => (f247_fr4 a0 a1 a2 x.1 x.2)) (body := (fun L x => (fun L4 => f247_b4 K a0 a1 a2 L4 x.1 x.2) (fun v0 v1 => L (v0, v1)))) (fun L x => ?_) n (q5, q6)
  rw [exec_G]
  exact (key (realL (f247E K) 1) L x.1 x.2).trans (by rfl)
theorem f247_run (K : Nat) (a0 : Int × Int × Int) (a1 : List tM) (a2 : Int × Int) : runF (f247E K) Tryz.f247 [(.ro, sL), (.ro, (.list 95 sM)), (.ro, sV)] [(.list 79 sV)] (a0, a1, a2, ()) = f247G K a0 a1 a2 := by
  have key : ∀ (lr : LR (List tV)), runG (f247E K) Tryz.f247 [(.ro, sL), (.ro, (.list 95 sM)), (.ro, sV)] [(.list 79 sV)] (a0, a1, a2, ()) lr = f247_g K a0 a1 a2 (fun d0 d1 => lr (selC f247C [1, 1, 0, 1, 0, 0]) (f247_fr4 a0 a1 a2 d0 d1) (f247_k4 K a0 a1 a2 lr)) := by intro lr; kernel_rfl
  have h4 : (fun d0 d1 => (realL (f247E K) 1) (selC f247C [1, 1, 0, 1, 0, 0]) (f247_fr4 a0 a1 a2 d0 d1) (f247_k4 K a0 a1 a2 (realL (f247E K) 1))) = fun d0 d1 => f247_l4 K a0 a1 a2 K d0 d1 := by
    funext d0 d1
    exact f247_t4 K a0 a1 a2 d0 d1 K d0 d1
  exact runF_G (n0 := 1) (by rfl) ((key (realL (f247E K) 1)).trans (by rw [h4] <;> rfl))
theorem f135_t4 (K : Nat) (a0 : Int × Int × Int) (a1 : List tM) (y1 : List tV) (bq5 : Int) (bq6 : List (List tV)) : ∀ (n : Nat) (q5 : Int) (q6 : List (List tV)), loopN (exec (f135E K) 1 (selC f135C [1, 1, 1, 0, 1, 0, 0])) 1 (f135_fr4 a0 a1 y1 bq5 bq6) n (f135_fr4 a0 a1 y1 q5 q6) (f135_k4 K a0 a1 (realL (f135E K) 1)) = f135_l4 K a0 a1 y1 n q5 q6 := by
  have key : ∀ (lr : LR (List (List tV))) (L : Fr → Option (List (List tV))) (q5 : Int) (q6 : List (List tV)), execG (f135E K) 1 lr (selC f135C [1, 1, 1, 0, 1, 0, 0]) (f135_fr4 a0 a1 y1 q5 q6) (loopK 1 (f135_fr4 a0 a1 y1 bq5 bq6) L (f135_k4 K a0 a1 lr)) = f135_b4 K a0 a1 y1 (fun v0 v1 => L (f135_fr4 a0 a1 y1 v0 v1)) q5 q6 := by
    intro lr L q5 q6; kernel_rfl
  intro n q5 q6
  refine loopN_iter (X := Int × List (List tV)) (frame := fun x => (f135_fr4 a0 a1 y1 x.1 x.2)) (body := (fun L x => (fun L4 => f135_b4 K a0 a1 y1 L4 x.1 x.2) (fun v0 v1 => L (v0, v1)))) (fun L x => ?_) n (q5, q6)
  rw [exec_G]
  exact (key (realL (f135E K) 1) L x.1 x.2).trans (by rfl)
theorem f135_run (K : Nat) (a0 : Int × Int × Int) (a1 : List tM) : runF (f135E K) Tryz.f135 [(.ro, sL), (.ro, (.list 95 sM))] [(.list 84 (.list 79 sV))] (a0, a1, ()) = f135G K a0 a1 := by
  have key : ∀ (lr : LR (List (List tV))), runG (f135E K) Tryz.f135 [(.ro, sL), (.ro, (.list 95 sM))] [(.list 84 (.list 79 sV))] (a0, a1, ()) lr = f135_g K a0 a1 (fun c0 d0 d1 => lr (selC f135C [1, 1, 1, 0, 1, 0, 0]) (f135_fr4 a0 a1 c0 d0 d1) (f135_k4 K a0 a1 lr)) := by intro lr; kernel_rfl
  have h4 : (fun c0 d0 d1 => (realL (f135E K) 1) (selC f135C [1, 1, 1, 0, 1, 0, 0]) (f135_fr4 a0 a1 c0 d0 d1) (f135_k4 K a0 a1 (realL (f135E K) 1))) = fun c0 d0 d1 => f135_l4 K a0 a1 c0 K d0 d1 := by
    funext c0 d0 d1
    exact f135_t4 K a0 a1 c0 d0 d1 K d0 d1
  exact runF_G (n0 := 1) (by rfl) ((key (realL (f135E K) 1)).trans (by rw [h4] <;> rfl))
theorem f127_run (K : Nat) (a0 : Int × Int × Int) (a1 : Int × Int) : runF (f127E K) Tryz.f127 [(.ro, sL), (.ro, sV)] [sI] (a0, a1, ()) = f127G K a0 a1 := by kernel_rfl
theorem f126_t12 (K : Nat) (a0 : Int × Int × Int) (a1 : List tM) (y1 : List (List tV)) (q10 : Int) (F9 : Fr → Option (List Int)) (bq10 : Int) (bq11 : List Int) (bq13 : Int) (bq14 : List Int) : ∀ (n : Nat) (q13 : Int) (q14 : List Int), loopN (exec (f126E K) 1 (selC f126C [1, 1, 1, 0, 1, 0, 0, 1, 0, 0, 1, 0, 0])) 1 (f126_fr12 a0 a1 q10 y1 bq13 bq14) n (f126_fr12 a0 a1 q10 y1 q13 q14) (f126_k12 K a0 a1 y1 F9 bq10 bq11 (realL (f126E K) 1)) = f126_l12 K a0 a1 q10 y1 (fun v0 v1 => F9 (f126_fr9 a0 a1 y1 v0 v1)) n q13 q14 := by
  have key : ∀ (lr : LR (List Int)) (L : Fr → Option (List Int)) (q13 : Int) (q14 : List Int), execG (f126E K) 1 lr (selC f126C [1, 1, 1, 0, 1, 0, 0, 1, 0, 0, 1, 0, 0]) (f126_fr12 a0 a1 q10 y1 q13 q14) (loopK 1 (f126_fr12 a0 a1 q10 y1 bq13 bq14) L (f126_k12 K a0 a1 y1 F9 bq10 bq11 lr)) = f126_b12 K a0 a1 q10 y1 (fun v0 v1 => F9 (f126_fr9 a0 a1 y1 v0 v1)) (fun v0 v1 => L (f126_fr12 a0 a1 q10 y1 v0 v1)) q13 q14 := by
    intro lr L q13 q14; kernel_rfl
  intro n q13 q14
  refine loopN_iter (X := Int × List Int) (frame := fun x => (f126_fr12 a0 a1 q10 y1 x.1 x.2)) (body := (fun L x => (fun L12 => f126_b12 K a0 a1 q10 y1 (fun v0 v1 => F9 (f126_fr9 a0 a1 y1 v0 v1)) L12 x.1 x.2) (fun v0 v1 => L (v0, v1)))) (fun L x => ?_) n (q13, q14)
  rw [exec_G]
  exact (key (realL (f126E K) 1) L x.1 x.2).trans (by rfl)
theorem f126_t9 (K : Nat) (a0 : Int × Int × Int) (a1 : List tM) (y1 : List (List tV)) (bq10 : Int) (bq11 : List Int) : ∀ (n : Nat) (q10 : Int) (q11 : List Int), loopN (exec (f126E K) 1 (selC f126C [1, 1, 1, 0, 1, 0, 0])) 1 (f126_fr9 a0 a1 y1 bq10 bq11) n (f126_fr9 a0 a1 y1 q10 q11) (f126_k9 K a0 a1 (realL (f126E K) 1)) = f126_l9 K a0 a1 y1 n q10 q11 := by
  have key : ∀ (lr : LR (List Int)) (L : Fr → Option (List Int)) (q10 : Int) (q11 : List Int), execG (f126E K) 1 lr (selC f126C [1, 1, 1, 0, 1, 0, 0]) (f126_fr9 a0 a1 y1 q10 q11) (loopK 1 (f126_fr9 a0 a1 y1 bq10 bq11) L (f126_k9 K a0 a1 lr)) = f126_b9 K a0 a1 y1 (fun c0 d0 d1 => lr (selC f126C [1, 1, 1, 0, 1, 0, 0, 1, 0, 0, 1, 0, 0]) (f126_fr12 a0 a1 c0 y1 d0 d1) (f126_k12 K a0 a1 y1 L bq10 bq11 lr)) (fun v0 v1 => L (f126_fr9 a0 a1 y1 v0 v1)) q10 q11 := by
    intro lr L q10 q11; kernel_rfl
  intro n q10 q11
  refine loopN_iter (X := Int × List Int) (frame := fun x => (f126_fr9 a0 a1 y1 x.1 x.2)) (body := (fun L x => (fun L9 => f126_b9 K a0 a1 y1 (fun c0 d0 d1 => f126_l12 K a0 a1 c0 y1 L9 K d0 d1) L9 x.1 x.2) (fun v0 v1 => L (v0, v1)))) (fun L x => ?_) n (q10, q11)
  rw [exec_G]
  have h12 : (fun c0 d0 d1 => (realL (f126E K) 1) (selC f126C [1, 1, 1, 0, 1, 0, 0, 1, 0, 0, 1, 0, 0]) (f126_fr12 a0 a1 c0 y1 d0 d1) (f126_k12 K a0 a1 y1 L bq10 bq11 (realL (f126E K) 1))) = fun c0 d0 d1 => f126_l12 K a0 a1 c0 y1 (fun v0 v1 => L (f126_fr9 a0 a1 y1 v0 v1)) K d0 d1 := by
    funext c0 d0 d1
    exact f126_t12 K a0 a1 y1 c0 L bq10 bq11 d0 d1 K d0 d1
  exact (key (realL (f126E K) 1) L x.1 x.2).trans (by rw [h12] <;> rfl)
theorem f126_run (K : Nat) (a0 : Int × Int × Int) (a1 : List tM) : runF (f126E K) Tryz.f126 [(.ro, sL), (.ro, (.list 95 sM))] [(.list 2 sI)] (a0, a1, ()) = f126G K a0 a1 := by
  have key : ∀ (lr : LR (List Int)), runG (f126E K) Tryz.f126 [(.ro, sL), (.ro, (.list 95 sM))] [(.list 2 sI)] (a0, a1, ()) lr = f126_g K a0 a1 (fun c0 d0 d1 => lr (selC f126C [1, 1, 1, 0, 1, 0, 0]) (f126_fr9 a0 a1 c0 d0 d1) (f126_k9 K a0 a1 lr)) := by intro lr; kernel_rfl
  have h9 : (fun c0 d0 d1 => (realL (f126E K) 1) (selC f126C [1, 1, 1, 0, 1, 0, 0]) (f126_fr9 a0 a1 c0 d0 d1) (f126_k9 K a0 a1 (realL (f126E K) 1))) = fun c0 d0 d1 => f126_l9 K a0 a1 c0 K d0 d1 := by
    funext c0 d0 d1
    exact f126_t9 K a0 a1 c0 d0 d1 K d0 d1
  exact runF_G (n0 := 1) (by rfl) ((key (realL (f126E K) 1)).trans (by rw [h9] <;> rfl))
theorem f144_t11 (K : Nat) (a0 : Int × Int × Int) (a1 : List Int) (a2 : List (tV × Int)) (q10 : Int) (F9 : Fr → Option (Int × Int × Bool)) (bq10 bq12 : Int) : ∀ (n : Nat) (q12 : Int), loopN (exec (f144E K) 2 (selC f144C [1, 0, 1, 0, 0, 1, 0, 0, 1, 0, 0])) 2 (f144_fr11 a0 a1 a2 q10 bq12) n (f144_fr11 a0 a1 a2 q10 q12) (f144_k11 K a0 a1 a2 F9 bq10 (realL (f144E K) 2)) = f144_l11 K a0 a1 a2 q10 (fun v0 => F9 (f144_fr9 a0 a1 a2 v0)) n q12 := by
  have key : ∀ (lr : LR (Int × Int × Bool)) (L : Fr → Option (Int × Int × Bool)) (q12 : Int), execG (f144E K) 2 lr (selC f144C [1, 0, 1, 0, 0, 1, 0, 0, 1, 0, 0]) (f144_fr11 a0 a1 a2 q10 q12) (loopK 2 (f144_fr11 a0 a1 a2 q10 bq12) L (f144_k11 K a0 a1 a2 F9 bq10 lr)) = f144_b11 K a0 a1 a2 q10 (fun v0 => F9 (f144_fr9 a0 a1 a2 v0)) (fun v0 => L (f144_fr11 a0 a1 a2 q10 v0)) q12 := by
    intro lr L q12; kernel_rfl
  intro n q12
  refine loopN_iter (X := Int) (frame := fun x => (f144_fr11 a0 a1 a2 q10 x)) (body := (fun L x => (fun L11 => f144_b11 K a0 a1 a2 q10 (fun v0 => F9 (f144_fr9 a0 a1 a2 v0)) L11 x) (fun v0 => L v0))) (fun L x => ?_) n q12
  rw [exec_G]
  exact (key (realL (f144E K) 2) L x).trans (by rfl)
theorem f144_t9 (K : Nat) (a0 : Int × Int × Int) (a1 : List Int) (a2 : List (tV × Int)) (bq10 : Int) : ∀ (n : Nat) (q10 : Int), loopN (exec (f144E K) 2 (selC f144C [1, 0, 1, 0, 0])) 2 (f144_fr9 a0 a1 a2 bq10) n (f144_fr9 a0 a1 a2 q10) (f144_k9 K a0 a1 a2 (realL (f144E K) 2)) = f144_l9 K a0 a1 a2 n q10 := by
  have key : ∀ (lr : LR (Int × Int × Bool)) (L : Fr → Option (Int × Int × Bool)) (q10 : Int), execG (f144E K) 2 lr (selC f144C [1, 0, 1, 0, 0]) (f144_fr9 a0 a1 a2 q10) (loopK 2 (f144_fr9 a0 a1 a2 bq10) L (f144_k9 K a0 a1 a2 lr)) = f144_b9 K a0 a1 a2 (fun c0 d0 => lr (selC f144C [1, 0, 1, 0, 0, 1, 0, 0, 1, 0, 0]) (f144_fr11 a0 a1 a2 c0 d0) (f144_k11 K a0 a1 a2 L bq10 lr)) (fun v0 => L (f144_fr9 a0 a1 a2 v0)) q10 := by
    intro lr L q10; kernel_rfl
  intro n q10
  refine loopN_iter (X := Int) (frame := fun x => (f144_fr9 a0 a1 a2 x)) (body := (fun L x => (fun L9 => f144_b9 K a0 a1 a2 (fun c0 d0 => f144_l11 K a0 a1 a2 c0 L9 K d0) L9 x) (fun v0 => L v0))) (fun L x => ?_) n q10
  rw [exec_G]
  have h11 : (fun c0 d0 => (realL (f144E K) 2) (selC f144C [1, 0, 1, 0, 0, 1, 0, 0, 1, 0, 0]) (f144_fr11 a0 a1 a2 c0 d0) (f144_k11 K a0 a1 a2 L bq10 (realL (f144E K) 2))) = fun c0 d0 => f144_l11 K a0 a1 a2 c0 (fun v0 => L (f144_fr9 a0 a1 a2 v0)) K d0 := by
    funext c0 d0
    exact f144_t11 K a0 a1 a2 c0 L bq10 d0 K d0
  exact (key (realL (f144E K) 2) L x).trans (by rw [h11] <;> rfl)
theorem f144_run (K : Nat) (a0 : Int × Int × Int) (a1 : List Int) (a2 : List (tV × Int)) : runF (f144E K) Tryz.f144 [(.ro, sL), (.ro, (.list 2 sI)), (.ro, (.list 133 (.cons sV sI)))] [sI, sI, .bool] (a0, a1, a2, ()) = f144G K a0 a1 a2 := by
  have key : ∀ (lr : LR (Int × Int × Bool)), runG (f144E K) Tryz.f144 [(.ro, sL), (.ro, (.list 2 sI)), (.ro, (.list 133 (.cons sV sI)))] [sI, sI, .bool] (a0, a1, a2, ()) lr = f144_g K a0 a1 a2 (fun d0 => lr (selC f144C [1, 0, 1, 0, 0]) (f144_fr9 a0 a1 a2 d0) (f144_k9 K a0 a1 a2 lr)) := by intro lr; kernel_rfl
  have h9 : (fun d0 => (realL (f144E K) 2) (selC f144C [1, 0, 1, 0, 0]) (f144_fr9 a0 a1 a2 d0) (f144_k9 K a0 a1 a2 (realL (f144E K) 2))) = fun d0 => f144_l9 K a0 a1 a2 K d0 := by
    funext d0
    exact f144_t9 K a0 a1 a2 d0 K d0
  exact runF_G (n0 := 2) (by rfl) ((key (realL (f144E K) 2)).trans (by rw [h9] <;> rfl))
theorem f34_t8 (K : Nat) (a0 : Int) (a1 : List (tV × Int)) (y1 y2 : Bool) (y3 : List ByteArray) (bq9 : Int) (bq10 : List ByteArray) : ∀ (n : Nat) (q9 : Int) (q10 : List ByteArray), loopN (exec (f34E K) 1 (selC f34C [1, 1, 1, 1, 0, 1, 0, 0])) 1 (f34_fr8 a0 a1 y1 y2 y3 bq9 bq10) n (f34_fr8 a0 a1 y1 y2 y3 q9 q10) (f34_k8 K a0 a1 (realL (f34E K) 1)) = f34_l8 K a0 a1 y1 y2 y3 n q9 q10 := by
  have key : ∀ (lr : LR ((List ByteArray) × Int)) (L : Fr → Option ((List ByteArray) × Int)) (q9 : Int) (q10 : List ByteArray), execG (f34E K) 1 lr (selC f34C [1, 1, 1, 1, 0, 1, 0, 0]) (f34_fr8 a0 a1 y1 y2 y3 q9 q10) (loopK 1 (f34_fr8 a0 a1 y1 y2 y3 bq9 bq10) L (f34_k8 K a0 a1 lr)) = f34_b8 K a0 a1 y1 y2 y3 (fun v0 v1 => L (f34_fr8 a0 a1 y1 y2 y3 v0 v1)) q9 q10 := by
    intro lr L q9 q10; kernel_rfl
  intro n q9 q10
  refine loopN_iter (X := Int × List ByteArray) (frame := fun x => (f34_fr8 a0 a1 y1 y2 y3 x.1 x.2)) (body := (fun L x => (fun L8 => f34_b8 K a0 a1 y1 y2 y3 L8 x.1 x.2) (fun v0 v1 => L (v0, v1)))) (fun L x => ?_) n (q9, q10)
  rw [exec_G]
  exact (key (realL (f34E K) 1) L x.1 x.2).trans (by rfl)
theorem f34_run (K : Nat) (a0 : Int) (a1 : List (tV × Int)) : runF (f34E K) Tryz.f34 [(.ro, sI), (.ro, (.list 133 (.cons sV sI)))] [(.list 9 .str), sI] (a0, a1, ()) = f34G K a0 a1 := by
  have key : ∀ (lr : LR ((List ByteArray) × Int)), runG (f34E K) Tryz.f34 [(.ro, sI), (.ro, (.list 133 (.cons sV sI)))] [(.list 9 .str), sI] (a0, a1, ()) lr = f34_g K a0 a1 (fun c0 c1 c2 d0 d1 => lr (selC f34C [1, 1, 1, 1, 0, 1, 0, 0]) (f34_fr8 a0 a1 c0 c1 c2 d0 d1) (f34_k8 K a0 a1 lr)) := by intro lr; kernel_rfl
  have h8 : (fun c0 c1 c2 d0 d1 => (realL (f34E K) 1) (selC f34C [1, 1, 1, 1, 0, 1, 0, 0]) (f34_fr8 a0 a1 c0 c1 c2 d0 d1) (f34_k8 K a0 a1 (realL (f34E K) 1))) = fun c0 c1 c2 d0 d1 => f34_l8 K a0 a1 c0 c1 c2 K d0 d1 := by
    funext c0 c1 c2 d0 d1
    exact f34_t8 K a0 a1 c0 c1 c2 d0 d1 K d0 d1
  exact runF_G (n0 := 1) (by rfl) ((key (realL (f34E K) 1)).trans (by rw [h8] <;> rfl))
theorem f146_run (K : Nat) (a0 a1 a2 : Int) : runF (f146E K) Tryz.f146 [(.ro, sI), (.ro, sI), (.ro, sI)] [.bool] (a0, a1, a2, ()) = f146G K a0 a1 a2 := by kernel_rfl
theorem f287_run (K : Nat) (a0 : Int) : runF (f287E K) Tryz.f287 [(.ro, sI)] [.bool] (a0, ()) = f287G K a0 := by kernel_rfl
theorem f189_run (K : Nat) (a0 : Int × Int) : runF (f189E K) Tryz.f189 [(.ro, sV)] [.bool] (a0, ()) = f189G K a0 := by kernel_rfl
theorem f206_run (K : Nat) (a0 : Int) : runF (f206E K) Tryz.f206 [(.ro, sI)] [.bool] (a0, ()) = f206G K a0 := by kernel_rfl
theorem f210_run (K : Nat) (a0 : tV × Int) : runF (f210E K) Tryz.f210 [(.ro, (.cons sV sI))] [.bool] (a0, ()) = f210G K a0 := by kernel_rfl
theorem f259_t3 (K : Nat) (a0 : List (tV × Int)) (a1 : ((tV × Int) → Option Bool)) (bq4 : Int) : ∀ (n : Nat) (q4 : Int), loopN (exec (f259E K) 1 (selC f259C [1, 0, 1, 0, 0])) 1 (f259_fr3 a0 a1 bq4) n (f259_fr3 a0 a1 q4) (f259_k3 K a0 a1 (realL (f259E K) 1)) = f259_l3 K a0 a1 n q4 := by
  have key : ∀ (lr : LR Int) (L : Fr → Option Int) (q4 : Int), execG (f259E K) 1 lr (selC f259C [1, 0, 1, 0, 0]) (f259_fr3 a0 a1 q4) (loopK 1 (f259_fr3 a0 a1 bq4) L (f259_k3 K a0 a1 lr)) = f259_b3 K a0 a1 (fun v0 => L (f259_fr3 a0 a1 v0)) q4 := by
    intro lr L q4; kernel_rfl
  intro n q4
  refine loopN_iter (X := Int) (frame := fun x => (f259_fr3 a0 a1 x)) (body := (fun L x => (fun L3 => f259_b3 K a0 a1 L3 x) (fun v0 => L v0))) (fun L x => ?_) n q4
  rw [exec_G]
  exact (key (realL (f259E K) 1) L x).trans (by rfl)
theorem f259_run (K : Nat) (a0 : List (tV × Int)) (a1 : ((tV × Int) → Option Bool)) : runF (f259E K) Tryz.f259 [(.ro, (.list 133 (.cons sV sI))), (.ro, (.fn1 (.cons sV sI) .bool))] [sI] (a0, a1, ()) = f259G K a0 a1 := by
  have key : ∀ (lr : LR Int), runG (f259E K) Tryz.f259 [(.ro, (.list 133 (.cons sV sI))), (.ro, (.fn1 (.cons sV sI) .bool))] [sI] (a0, a1, ()) lr = f259_g K a0 a1 (fun d0 => lr (selC f259C [1, 0, 1, 0, 0]) (f259_fr3 a0 a1 d0) (f259_k3 K a0 a1 lr)) := by intro lr; kernel_rfl
  have h3 : (fun d0 => (realL (f259E K) 1) (selC f259C [1, 0, 1, 0, 0]) (f259_fr3 a0 a1 d0) (f259_k3 K a0 a1 (realL (f259E K) 1))) = fun d0 => f259_l3 K a0 a1 K d0 := by
    funext d0
    exact f259_t3 K a0 a1 d0 K d0
  exact runF_G (n0 := 1) (by rfl) ((key (realL (f259E K) 1)).trans (by rw [h3] <;> rfl))
theorem f158_run (K : Nat) (a0 : List (tV × Int)) (a1 : ((tV × Int) → Option Bool)) : runF (f158E K) Tryz.f158 [(.ro, (.list 133 (.cons sV sI))), (.ro, (.fn1 (.cons sV sI) .bool))] [.bool] (a0, a1, ()) = f158G K a0 a1 := by kernel_rfl
theorem f95_run (K : Nat) (a0 : List (tV × Int)) : runF (f95E K) Tryz.f95 [(.ro, (.list 133 (.cons sV sI)))] [.bool] (a0, ()) = f95G K a0 := by kernel_rfl
theorem f147_run (K : Nat) : runF (f147E K) Tryz.f147 [] [(.list 9 .str)] (()) = f147G K := by kernel_rfl
theorem f204_run (K : Nat) (a0 : ByteArray) (a1 : Int) : runF (f204E K) Tryz.f204 [(.ro, .str), (.ro, sI)] [sI, (.list 95 sM), .bool] (a0, a1, ()) = f204G K a0 a1 := by kernel_rfl
theorem f231_run (K : Nat) : runF (f231E K) Tryz.f231 [] [sA] (()) = f231G K := by kernel_rfl
theorem f347_run (K : Nat) (a0 a1 : Int × Int × Int × Int) : runF (f347E K) Tryz.f347 [(.ro, sA), (.ro, sA)] [sA] (a0, a1, ()) = f347G K a0 a1 := by kernel_rfl
theorem f288_run (K : Nat) (a0 : Int × Int × Int × Int) (a1 : Int × Int) : runF (f288E K) Tryz.f288 [(.ro, sA), (.ro, sV)] [sV] (a0, a1, ()) = f288G K a0 a1 := by kernel_rfl
theorem f289_run (K : Nat) (a0 a1 : Int × Int) : runF (f289E K) Tryz.f289 [(.ro, sV), (.ro, sV)] [sV] (a0, a1, ()) = f289G K a0 a1 := by kernel_rfl
theorem f298_run (K : Nat) (a0 a1 : tA × Int × Int) : runF (f298E K) Tryz.f298 [(.ro, sM), (.ro, sM)] [sM] (a0, a1, ()) = f298G K a0 a1 := by kernel_rfl
theorem f260_run (K : Nat) (a0 a1 : Int) : runF (f260E K) Tryz.f260 [(.ro, sI), (.ro, sI)] [sI] (a0, a1, ()) = f260G K a0 a1 := by kernel_rfl
theorem f161_run (K : Nat) (a0 : Int × Int × Int) (a1 : Int × Int) : runF (f161E K) Tryz.f161 [(.ro, sL), (.ro, sV)] [sV] (a0, a1, ()) = f161G K a0 a1 := by kernel_rfl
theorem f297_run (K : Nat) (a0 : Int × Int × Int) (a1 : tA × Int × Int) : runF (f297E K) Tryz.f297 [(.ro, sL), (.ro, sM)] [sM] (a0, a1, ()) = f297G K a0 a1 := by kernel_rfl
theorem f332_t2 (K : Nat) (a0 a1 : List Int) (bq3 : Int) : ∀ (n : Nat) (q3 : Int), loopN (exec (f332E K) 2 (selC f332C [1, 0, 1, 0, 0])) 2 (f332_fr2 a0 a1 bq3) n (f332_fr2 a0 a1 q3) (f332_k2 K a0 a1 (realL (f332E K) 2)) = f332_l2 K a0 a1 n q3 := by
  have key : ∀ (lr : LR Int) (L : Fr → Option Int) (q3 : Int), execG (f332E K) 2 lr (selC f332C [1, 0, 1, 0, 0]) (f332_fr2 a0 a1 q3) (loopK 2 (f332_fr2 a0 a1 bq3) L (f332_k2 K a0 a1 lr)) = f332_b2 K a0 a1 (fun v0 => L (f332_fr2 a0 a1 v0)) q3 := by
    intro lr L q3; kernel_rfl
  intro n q3
  refine loopN_iter (X := Int) (frame := fun x => (f332_fr2 a0 a1 x)) (body := (fun L x => (fun L2 => f332_b2 K a0 a1 L2 x) (fun v0 => L v0))) (fun L x => ?_) n q3
  rw [exec_G]
  exact (key (realL (f332E K) 2) L x).trans (by rfl)
theorem f332_run (K : Nat) (a0 a1 : List Int) : runF (f332E K) Tryz.f332 [(.ro, (.list 2 sI)), (.ro, (.list 2 sI))] [sI] (a0, a1, ()) = f332G K a0 a1 := by
  have key : ∀ (lr : LR Int), runG (f332E K) Tryz.f332 [(.ro, (.list 2 sI)), (.ro, (.list 2 sI))] [sI] (a0, a1, ()) lr = f332_g K a0 a1 (fun d0 => lr (selC f332C [1, 0, 1, 0, 0]) (f332_fr2 a0 a1 d0) (f332_k2 K a0 a1 lr)) := by intro lr; kernel_rfl
  have h2 : (fun d0 => (realL (f332E K) 2) (selC f332C [1, 0, 1, 0, 0]) (f332_fr2 a0 a1 d0) (f332_k2 K a0 a1 (realL (f332E K) 2))) = fun d0 => f332_l2 K a0 a1 K d0 := by
    funext d0
    exact f332_t2 K a0 a1 d0 K d0
  exact runF_G (n0 := 2) (by rfl) ((key (realL (f332E K) 2)).trans (by rw [h2] <;> rfl))
theorem f349_run (K : Nat) (a0 a1 : Int × Int × Int × Int) : runF (f349E K) Tryz.f349 [(.ro, sA), (.ro, sA)] [sI] (a0, a1, ()) = f349G K a0 a1 := by kernel_rfl
theorem f269_run (K : Nat) (a0 a1 : Int × Int) : runF (f269E K) Tryz.f269 [(.ro, sV), (.ro, sV)] [sI] (a0, a1, ()) = f269G K a0 a1 := by kernel_rfl
theorem f300_run (K : Nat) (a0 a1 : tA × Int × Int) : runF (f300E K) Tryz.f300 [(.ro, sM), (.ro, sM)] [sI] (a0, a1, ()) = f300G K a0 a1 := by kernel_rfl
theorem f205_t16 (K : Nat) (a0 : Int × Int × Int) (a1 : List tM) (q13 : Int) (q15 : List tM) (F12 : Fr → Option (List tM)) (bq13 : Int) (bq14 : List (tM × Bool)) (bq15 : List tM) (bq17 : Int) (bq18 : List (tM × Bool)) (bq19 : List tM) : ∀ (n : Nat) (q17 : Int) (q18 : List (tM × Bool)) (q19 : List tM), loopN (exec (f205E K) 1 (selC f205C [1, 1, 1, 0, 1, 0, 0, 1, 0, 0, 1, 0, 0])) 1 (f205_fr16 a0 a1 q13 q15 bq17 bq18 bq19) n (f205_fr16 a0 a1 q13 q15 q17 q18 q19) (f205_k16 K a0 a1 F12 bq13 bq14 bq15 (realL (f205E K) 1)) = f205_l16 K a0 a1 q13 q15 (fun v0 v1 v2 => F12 (f205_fr12 a0 a1 v0 v1 v2)) n q17 q18 q19 := by
  have key : ∀ (lr : LR (List tM)) (L : Fr → Option (List tM)) (q17 : Int) (q18 : List (tM × Bool)) (q19 : List tM), execG (f205E K) 1 lr (selC f205C [1, 1, 1, 0, 1, 0, 0, 1, 0, 0, 1, 0, 0]) (f205_fr16 a0 a1 q13 q15 q17 q18 q19) (loopK 1 (f205_fr16 a0 a1 q13 q15 bq17 bq18 bq19) L (f205_k16 K a0 a1 F12 bq13 bq14 bq15 lr)) = f205_b16 K a0 a1 q13 q15 (fun v0 v1 v2 => F12 (f205_fr12 a0 a1 v0 v1 v2)) (fun v0 v1 v2 => L (f205_fr16 a0 a1 q13 q15 v0 v1 v2)) q17 q18 q19 := by
    intro lr L q17 q18 q19; kernel_rfl
  intro n q17 q18 q19
  refine loopN_iter (X := Int × List (tM × Bool) × List tM) (frame := fun x => (f205_fr16 a0 a1 q13 q15 x.1 x.2.1 x.2.2)) (body := (fun L x => (fun L16 => f205_b16 K a0 a1 q13 q15 (fun v0 v1 v2 => F12 (f205_fr12 a0 a1 v0 v1 v2)) L16 x.1 x.2.1 x.2.2) (fun v0 v1 v2 => L (v0, v1, v2)))) (fun L x => ?_) n (q17, q18, q19)
  rw [exec_G]
  exact (key (realL (f205E K) 1) L x.1 x.2.1 x.2.2).trans (by rfl)
theorem f205_t12 (K : Nat) (a0 : Int × Int × Int) (a1 : List tM) (bq13 : Int) (bq14 : List (tM × Bool)) (bq15 : List tM) : ∀ (n : Nat) (q13 : Int) (q14 : List (tM × Bool)) (q15 : List tM), loopN (exec (f205E K) 1 (selC f205C [1, 1, 1, 0, 1, 0, 0])) 1 (f205_fr12 a0 a1 bq13 bq14 bq15) n (f205_fr12 a0 a1 q13 q14 q15) (f205_k12 K a0 a1 (realL (f205E K) 1)) = f205_l12 K a0 a1 n q13 q14 q15 := by
  have key : ∀ (lr : LR (List tM)) (L : Fr → Option (List tM)) (q13 : Int) (q14 : List (tM × Bool)) (q15 : List tM), execG (f205E K) 1 lr (selC f205C [1, 1, 1, 0, 1, 0, 0]) (f205_fr12 a0 a1 q13 q14 q15) (loopK 1 (f205_fr12 a0 a1 bq13 bq14 bq15) L (f205_k12 K a0 a1 lr)) = f205_b12 K a0 a1 (fun c0 c1 d0 d1 d2 => lr (selC f205C [1, 1, 1, 0, 1, 0, 0, 1, 0, 0, 1, 0, 0]) (f205_fr16 a0 a1 c0 c1 d0 d1 d2) (f205_k16 K a0 a1 L bq13 bq14 bq15 lr)) (fun v0 v1 v2 => L (f205_fr12 a0 a1 v0 v1 v2)) q13 q14 q15 := by
    intro lr L q13 q14 q15; kernel_rfl
  intro n q13 q14 q15
  refine loopN_iter (X := Int × List (tM × Bool) × List tM) (frame := fun x => (f205_fr12 a0 a1 x.1 x.2.1 x.2.2)) (body := (fun L x => (fun L12 => f205_b12 K a0 a1 (fun c0 c1 d0 d1 d2 => f205_l16 K a0 a1 c0 c1 L12 K d0 d1 d2) L12 x.1 x.2.1 x.2.2) (fun v0 v1 v2 => L (v0, v1, v2)))) (fun L x => ?_) n (q13, q14, q15)
  rw [exec_G]
  have h16 : (fun c0 c1 d0 d1 d2 => (realL (f205E K) 1) (selC f205C [1, 1, 1, 0, 1, 0, 0, 1, 0, 0, 1, 0, 0]) (f205_fr16 a0 a1 c0 c1 d0 d1 d2) (f205_k16 K a0 a1 L bq13 bq14 bq15 (realL (f205E K) 1))) = fun c0 c1 d0 d1 d2 => f205_l16 K a0 a1 c0 c1 (fun v0 v1 v2 => L (f205_fr12 a0 a1 v0 v1 v2)) K d0 d1 d2 := by
    funext c0 c1 d0 d1 d2
    exact f205_t16 K a0 a1 c0 c1 L bq13 bq14 bq15 d0 d1 d2 K d0 d1 d2
  exact (key (realL (f205E K) 1) L x.1 x.2.1 x.2.2).trans (by rw [h16] <;> rfl)
theorem f205_run (K : Nat) (a0 : Int × Int × Int) (a1 : List tM) : runF (f205E K) Tryz.f205 [(.ro, sL), (.ro, (.list 95 sM))] [(.list 95 sM)] (a0, a1, ()) = f205G K a0 a1 := by
  have key : ∀ (lr : LR (List tM)), runG (f205E K) Tryz.f205 [(.ro, sL), (.ro, (.list 95 sM))] [(.list 95 sM)] (a0, a1, ()) lr = f205_g K a0 a1 (fun d0 d1 d2 => lr (selC f205C [1, 1, 1, 0, 1, 0, 0]) (f205_fr12 a0 a1 d0 d1 d2) (f205_k12 K a0 a1 lr)) := by intro lr; kernel_rfl
  have h12 : (fun d0 d1 d2 => (realL (f205E K) 1) (selC f205C [1, 1, 1, 0, 1, 0, 0]) (f205_fr12 a0 a1 d0 d1 d2) (f205_k12 K a0 a1 (realL (f205E K) 1))) = fun d0 d1 d2 => f205_l12 K a0 a1 K d0 d1 d2 := by
    funext d0 d1 d2
    exact f205_t12 K a0 a1 d0 d1 d2 K d0 d1 d2
  exact runF_G (n0 := 1) (by rfl) ((key (realL (f205E K) 1)).trans (by rw [h12] <;> rfl))
theorem f86_run (K : Nat) (a0 : ByteArray) (a1 : Int) : runF (f86E K) Tryz.f86 [(.ro, .str), (.ro, sI)] [sI, sL, (.list 95 sM), sI] (a0, a1, ()) = f86G K a0 a1 := by kernel_rfl
theorem f238_run (K : Nat) (a0 : Int × Int × Int) : runF (f238E K) Tryz.f238 [(.ro, sL)] [sI] (a0, ()) = f238G K a0 := by kernel_rfl
theorem f243_t3 (K : Nat) (a0 : List Int) (a1 : Int) (y1 : Int × Int) (bq4 : Int) (bq5 : List Int) : ∀ (n : Nat) (q4 : Int) (q5 : List Int), loopN (exec (f243E K) 1 (selC f243C [1, 1, 1, 1, 1, 1, 0, 0, 0])) 1 (f243_fr3 a0 a1 y1 bq4 bq5) n (f243_fr3 a0 a1 y1 q4 q5) (f243_k3 K a0 a1 (realL (f243E K) 1)) = f243_l3 K a0 a1 y1 n q4 q5 := by
  have key : ∀ (lr : LR (List Int)) (L : Fr → Option (List Int)) (q4 : Int) (q5 : List Int), execG (f243E K) 1 lr (selC f243C [1, 1, 1, 1, 1, 1, 0, 0, 0]) (f243_fr3 a0 a1 y1 q4 q5) (loopK 1 (f243_fr3 a0 a1 y1 bq4 bq5) L (f243_k3 K a0 a1 lr)) = f243_b3 K a0 a1 y1 (fun v0 v1 => L (f243_fr3 a0 a1 y1 v0 v1)) q4 q5 := by
    intro lr L q4 q5; kernel_rfl
  intro n q4 q5
  refine loopN_iter (X := Int × List Int) (frame := fun x => (f243_fr3 a0 a1 y1 x.1 x.2)) (body := (fun L x => (fun L3 => f243_b3 K a0 a1 y1 L3 x.1 x.2) (fun v0 v1 => L (v0, v1)))) (fun L x => ?_) n (q4, q5)
  rw [exec_G]
  exact (key (realL (f243E K) 1) L x.1 x.2).trans (by rfl)
theorem f243_run (K : Nat) (a0 : List Int) (a1 : Int) : runF (f243E K) Tryz.f243 [(.ro, (.list 2 sI)), (.ro, sI)] [(.list 2 sI)] (a0, a1, ()) = f243G K a0 a1 := by
  have key : ∀ (lr : LR (List Int)), runG (f243E K) Tryz.f243 [(.ro, (.list 2 sI)), (.ro, sI)] [(.list 2 sI)] (a0, a1, ()) lr = f243_g K a0 a1 (fun c0 d0 d1 => lr (selC f243C [1, 1, 1, 1, 1, 1, 0, 0, 0]) (f243_fr3 a0 a1 c0 d0 d1) (f243_k3 K a0 a1 lr)) := by intro lr; kernel_rfl
  have h3 : (fun c0 d0 d1 => (realL (f243E K) 1) (selC f243C [1, 1, 1, 1, 1, 1, 0, 0, 0]) (f243_fr3 a0 a1 c0 d0 d1) (f243_k3 K a0 a1 (realL (f243E K) 1))) = fun c0 d0 d1 => f243_l3 K a0 a1 c0 K d0 d1 := by
    funext c0 d0 d1
    exact f243_t3 K a0 a1 c0 d0 d1 K d0 d1
  exact runF_G (n0 := 1) (by rfl) ((key (realL (f243E K) 1)).trans (by rw [h3] <;> rfl))
theorem f207_t9 (K : Nat) (a0 : Int × Int × Int) (q7 : Int) (F6 : Fr → Option (List tV)) (bq7 : Int) (bq8 : List tV) (bq10 : Int) (bq11 : List tV) : ∀ (n : Nat) (q10 : Int) (q11 : List tV), loopN (exec (f207E K) 0 (selC f207C [1, 1, 0, 1, 0, 0, 1, 1, 0, 0, 1, 1, 0, 0])) 0 (f207_fr9 a0 q7 bq10 bq11) n (f207_fr9 a0 q7 q10 q11) (f207_k9 K a0 F6 bq7 bq8 (realL (f207E K) 0)) = f207_l9 K a0 q7 (fun v0 v1 => F6 (f207_fr6 a0 v0 v1)) n q10 q11 := by
  have key : ∀ (lr : LR (List tV)) (L : Fr → Option (List tV)) (q10 : Int) (q11 : List tV), execG (f207E K) 0 lr (selC f207C [1, 1, 0, 1, 0, 0, 1, 1, 0, 0, 1, 1, 0, 0]) (f207_fr9 a0 q7 q10 q11) (loopK 0 (f207_fr9 a0 q7 bq10 bq11) L (f207_k9 K a0 F6 bq7 bq8 lr)) = f207_b9 K a0 q7 (fun v0 v1 => F6 (f207_fr6 a0 v0 v1)) (fun v0 v1 => L (f207_fr9 a0 q7 v0 v1)) q10 q11 := by
    intro lr L q10 q11; kernel_rfl
  intro n q10 q11
  refine loopN_iter (X := Int × List tV) (frame := fun x => (f207_fr9 a0 q7 x.1 x.2)) (body := (fun L x => (fun L9 => f207_b9 K a0 q7 (fun v0 v1 => F6 (f207_fr6 a0 v0 v1)) L9 x.1 x.2) (fun v0 v1 => L (v0, v1)))) (fun L x => ?_) n (q10, q11)
  rw [exec_G]
  exact (key (realL (f207E K) 0) L x.1 x.2).trans (by rfl)
theorem f207_t6 (K : Nat) (a0 : Int × Int × Int) (bq7 : Int) (bq8 : List tV) : ∀ (n : Nat) (q7 : Int) (q8 : List tV), loopN (exec (f207E K) 0 (selC f207C [1, 1, 0, 1, 0, 0])) 0 (f207_fr6 a0 bq7 bq8) n (f207_fr6 a0 q7 q8) (f207_k6 K a0 (realL (f207E K) 0)) = f207_l6 K a0 n q7 q8 := by
  have key : ∀ (lr : LR (List tV)) (L : Fr → Option (List tV)) (q7 : Int) (q8 : List tV), execG (f207E K) 0 lr (selC f207C [1, 1, 0, 1, 0, 0]) (f207_fr6 a0 q7 q8) (loopK 0 (f207_fr6 a0 bq7 bq8) L (f207_k6 K a0 lr)) = f207_b6 K a0 (fun c0 d0 d1 => lr (selC f207C [1, 1, 0, 1, 0, 0, 1, 1, 0, 0, 1, 1, 0, 0]) (f207_fr9 a0 c0 d0 d1) (f207_k9 K a0 L bq7 bq8 lr)) (fun v0 v1 => L (f207_fr6 a0 v0 v1)) q7 q8 := by
    intro lr L q7 q8; kernel_rfl
  intro n q7 q8
  refine loopN_iter (X := Int × List tV) (frame := fun x => (f207_fr6 a0 x.1 x.2)) (body := (fun L x => (fun L6 => f207_b6 K a0 (fun c0 d0 d1 => f207_l9 K a0 c0 L6 K d0 d1) L6 x.1 x.2) (fun v0 v1 => L (v0, v1)))) (fun L x => ?_) n (q7, q8)
  rw [exec_G]
  have h9 : (fun c0 d0 d1 => (realL (f207E K) 0) (selC f207C [1, 1, 0, 1, 0, 0, 1, 1, 0, 0, 1, 1, 0, 0]) (f207_fr9 a0 c0 d0 d1) (f207_k9 K a0 L bq7 bq8 (realL (f207E K) 0))) = fun c0 d0 d1 => f207_l9 K a0 c0 (fun v0 v1 => L (f207_fr6 a0 v0 v1)) K d0 d1 := by
    funext c0 d0 d1
    exact f207_t9 K a0 c0 L bq7 bq8 d0 d1 K d0 d1
  exact (key (realL (f207E K) 0) L x.1 x.2).trans (by rw [h9] <;> rfl)
theorem f207_run (K : Nat) (a0 : Int × Int × Int) : runF (f207E K) Tryz.f207 [(.ro, sL)] [(.list 79 sV)] (a0, ()) = f207G K a0 := by
  have key : ∀ (lr : LR (List tV)), runG (f207E K) Tryz.f207 [(.ro, sL)] [(.list 79 sV)] (a0, ()) lr = f207_g K a0 (fun d0 d1 => lr (selC f207C [1, 1, 0, 1, 0, 0]) (f207_fr6 a0 d0 d1) (f207_k6 K a0 lr)) := by intro lr; kernel_rfl
  have h6 : (fun d0 d1 => (realL (f207E K) 0) (selC f207C [1, 1, 0, 1, 0, 0]) (f207_fr6 a0 d0 d1) (f207_k6 K a0 (realL (f207E K) 0))) = fun d0 d1 => f207_l6 K a0 K d0 d1 := by
    funext d0 d1
    exact f207_t6 K a0 d0 d1 K d0 d1
  exact runF_G (n0 := 0) (by rfl) ((key (realL (f207E K) 0)).trans (by rw [h6] <;> rfl))
theorem f130_run (K : Nat) (a0 : Int × Int × Int) (a1 : Int × Int) : runF (f130E K) Tryz.f130 [(.ro, sL), (.ro, sV)] [sI] (a0, a1, ()) = f130G K a0 a1 := by kernel_rfl
theorem f191_run (K : Nat) (a0 : tA × Int × Int) (a1 : Int × Int) : runF (f191E K) Tryz.f191 [(.ro, sM), (.ro, sV)] [sV] (a0, a1, ()) = f191G K a0 a1 := by kernel_rfl
theorem f267_run (K : Nat) (a0 : Int × Int × Int) (a1 : tA × Int × Int) (a2 : Int × Int) : runF (f267E K) Tryz.f267 [(.ro, sL), (.ro, sM), (.ro, sV)] [sV] (a0, a1, a2, ()) = f267G K a0 a1 a2 := by kernel_rfl
theorem f270_t9 (K : Nat) (a0 : List tV) (q8 : Int) (F7 : Fr → Option (List tV)) (bq8 bq10 bq11 : Int) (bq12 : List tV) : ∀ (n : Nat) (q10 q11 : Int) (q12 : List tV), loopN (exec (f270E K) 1 (selC f270C [1, 1, 0, 1, 0, 0, 1, 0, 0, 1, 0, 1, 0, 1, 0, 0])) 1 (f270_fr9 a0 q8 bq10 bq11 bq12) n (f270_fr9 a0 q8 q10 q11 q12) (f270_k9 K a0 F7 bq8 (realL (f270E K) 1)) = f270_l9 K a0 q8 n q10 q11 q12 := by
  have key : ∀ (lr : LR (List tV)) (L : Fr → Option (List tV)) (q10 q11 : Int) (q12 : List tV), execG (f270E K) 1 lr (selC f270C [1, 1, 0, 1, 0, 0, 1, 0, 0, 1, 0, 1, 0, 1, 0, 0]) (f270_fr9 a0 q8 q10 q11 q12) (loopK 1 (f270_fr9 a0 q8 bq10 bq11 bq12) L (f270_k9 K a0 F7 bq8 lr)) = f270_b9 K a0 q8 (fun v0 v1 v2 => L (f270_fr9 a0 q8 v0 v1 v2)) q10 q11 q12 := by
    intro lr L q10 q11 q12; kernel_rfl
  intro n q10 q11 q12
  refine loopN_iter (X := Int × Int × List tV) (frame := fun x => (f270_fr9 a0 q8 x.1 x.2.1 x.2.2)) (body := (fun L x => (fun L9 => f270_b9 K a0 q8 L9 x.1 x.2.1 x.2.2) (fun v0 v1 v2 => L (v0, v1, v2)))) (fun L x => ?_) n (q10, q11, q12)
  rw [exec_G]
  exact (key (realL (f270E K) 1) L x.1 x.2.1 x.2.2).trans (by rfl)
theorem f270_t7 (K : Nat) (a0 : List tV) (bq8 : Int) : ∀ (n : Nat) (q8 : Int), loopN (exec (f270E K) 1 (selC f270C [1, 1, 0, 1, 0, 0])) 1 (f270_fr7 a0 bq8) n (f270_fr7 a0 q8) (f270_k7 K a0 (realL (f270E K) 1)) = f270_l7 K a0 n q8 := by
  have key : ∀ (lr : LR (List tV)) (L : Fr → Option (List tV)) (q8 : Int), execG (f270E K) 1 lr (selC f270C [1, 1, 0, 1, 0, 0]) (f270_fr7 a0 q8) (loopK 1 (f270_fr7 a0 bq8) L (f270_k7 K a0 lr)) = f270_b7 K a0 (fun c0 d0 d1 d2 => lr (selC f270C [1, 1, 0, 1, 0, 0, 1, 0, 0, 1, 0, 1, 0, 1, 0, 0]) (f270_fr9 a0 c0 d0 d1 d2) (f270_k9 K a0 L bq8 lr)) (fun v0 => L (f270_fr7 a0 v0)) q8 := by
    intro lr L q8; kernel_rfl
  intro n q8
  refine loopN_iter (X := Int) (frame := fun x => (f270_fr7 a0 x)) (body := (fun L x => (fun L7 => f270_b7 K a0 (fun c0 d0 d1 d2 => f270_l9 K a0 c0 K d0 d1 d2) L7 x) (fun v0 => L v0))) (fun L x => ?_) n q8
  rw [exec_G]
  have h9 : (fun c0 d0 d1 d2 => (realL (f270E K) 1) (selC f270C [1, 1, 0, 1, 0, 0, 1, 0, 0, 1, 0, 1, 0, 1, 0, 0]) (f270_fr9 a0 c0 d0 d1 d2) (f270_k9 K a0 L bq8 (realL (f270E K) 1))) = fun c0 d0 d1 d2 => f270_l9 K a0 c0 K d0 d1 d2 := by
    funext c0 d0 d1 d2
    exact f270_t9 K a0 c0 L bq8 d0 d1 d2 K d0 d1 d2
  exact (key (realL (f270E K) 1) L x).trans (by rw [h9] <;> rfl)
theorem f270_run (K : Nat) (a0 : List tV) : runF (f270E K) Tryz.f270 [(.mv, (.list 79 sV))] [(.list 79 sV)] (a0, ()) = f270G K a0 := by
  have key : ∀ (lr : LR (List tV)), runG (f270E K) Tryz.f270 [(.mv, (.list 79 sV))] [(.list 79 sV)] (a0, ()) lr = f270_g K a0 (fun d0 => lr (selC f270C [1, 1, 0, 1, 0, 0]) (f270_fr7 a0 d0) (f270_k7 K a0 lr)) := by intro lr; kernel_rfl
  have h7 : (fun d0 => (realL (f270E K) 1) (selC f270C [1, 1, 0, 1, 0, 0]) (f270_fr7 a0 d0) (f270_k7 K a0 (realL (f270E K) 1))) = fun d0 => f270_l7 K a0 K d0 := by
    funext d0
    exact f270_t7 K a0 d0 K d0
  exact runF_G (n0 := 1) (by rfl) ((key (realL (f270E K) 1)).trans (by rw [h7] <;> rfl))
theorem f171_t3 (K : Nat) (a0 : Int × Int × Int) (a1 : List tM) (a2 : Int × Int) (bq4 : Int) (bq5 : List tV) : ∀ (n : Nat) (q4 : Int) (q5 : List tV), loopN (exec (f171E K) 1 (selC f171C [1, 1, 0, 1, 0, 0])) 1 (f171_fr3 a0 a1 a2 bq4 bq5) n (f171_fr3 a0 a1 a2 q4 q5) (f171_k3 K a0 a1 a2 (realL (f171E K) 1)) = f171_l3 K a0 a1 a2 n q4 q5 := by
  have key : ∀ (lr : LR (List tV)) (L : Fr → Option (List tV)) (q4 : Int) (q5 : List tV), execG (f171E K) 1 lr (selC f171C [1, 1, 0, 1, 0, 0]) (f171_fr3 a0 a1 a2 q4 q5) (loopK 1 (f171_fr3 a0 a1 a2 bq4 bq5) L (f171_k3 K a0 a1 a2 lr)) = f171_b3 K a0 a1 a2 (fun v0 v1 => L (f171_fr3 a0 a1 a2 v0 v1)) q4 q5 := by
    intro lr L q4 q5; kernel_rfl
  intro n q4 q5
  refine loopN_iter (X := Int × List tV) (frame := fun x => (f171_fr3 a0 a1 a2 x.1 x.2)) (body := (fun L x => (fun L3 => f171_b3 K a0 a1 a2 L3 x.1 x.2) (fun v0 v1 => L (v0, v1)))) (fun L x => ?_) n (q4, q5)
  rw [exec_G]
  exact (key (realL (f171E K) 1) L x.1 x.2).trans (by rfl)
theorem f171_run (K : Nat) (a0 : Int × Int × Int) (a1 : List tM) (a2 : Int × Int) : runF (f171E K) Tryz.f171 [(.ro, sL), (.ro, (.list 95 sM)), (.ro, sV)] [(.list 79 sV)] (a0, a1, a2, ()) = f171G K a0 a1 a2 := by
  have key : ∀ (lr : LR (List tV)), runG (f171E K) Tryz.f171 [(.ro, sL), (.ro, (.list 95 sM)), (.ro, sV)] [(.list 79 sV)] (a0, a1, a2, ()) lr = f171_g K a0 a1 a2 (fun d0 d1 => lr (selC f171C [1, 1, 0, 1, 0, 0]) (f171_fr3 a0 a1 a2 d0 d1) (f171_k3 K a0 a1 a2 lr)) := by intro lr; kernel_rfl
  have h3 : (fun d0 d1 => (realL (f171E K) 1) (selC f171C [1, 1, 0, 1, 0, 0]) (f171_fr3 a0 a1 a2 d0 d1) (f171_k3 K a0 a1 a2 (realL (f171E K) 1))) = fun d0 d1 => f171_l3 K a0 a1 a2 K d0 d1 := by
    funext d0 d1
    exact f171_t3 K a0 a1 a2 d0 d1 K d0 d1
  exact runF_G (n0 := 1) (by rfl) ((key (realL (f171E K) 1)).trans (by rw [h3] <;> rfl))
theorem f128_t22 (K : Nat) (a0 : Int × Int × Int) (a1 : List tM) (y3 : List tV) (q17 : Int) (q18 : List (List tV)) (q19 : List Int) (y20 : Int) (y21 : List tV) (F16 : Fr → Option ((List (List tV)) × List Int)) (bq17 : Int) (bq18 : List (List tV)) (bq19 : List Int) (bq23 : Int) (bq24 : List Int) : ∀ (n : Nat) (q23 : Int) (q24 : List Int), loopN (exec (f128E K) 1 (selC f128C [1, 1, 0, 1, 0, 0, 1, 1, 0, 0, 1, 1, 1, 0, 1, 0, 0])) 1 (f128_fr22 a0 a1 q17 q18 q19 y3 y20 y21 bq23 bq24) n (f128_fr22 a0 a1 q17 q18 q19 y3 y20 y21 q23 q24) (f128_k22 K a0 a1 y3 F16 bq17 bq18 bq19 (realL (f128E K) 1)) = f128_l22 K a0 a1 q17 q18 q19 y3 y20 y21 (fun v0 v1 v2 => F16 (f128_fr16 a0 a1 y3 v0 v1 v2)) n q23 q24 := by
  have key : ∀ (lr : LR ((List (List tV)) × List Int)) (L : Fr → Option ((List (List tV)) × List Int)) (q23 : Int) (q24 : List Int), execG (f128E K) 1 lr (selC f128C [1, 1, 0, 1, 0, 0, 1, 1, 0, 0, 1, 1, 1, 0, 1, 0, 0]) (f128_fr22 a0 a1 q17 q18 q19 y3 y20 y21 q23 q24) (loopK 1 (f128_fr22 a0 a1 q17 q18 q19 y3 y20 y21 bq23 bq24) L (f128_k22 K a0 a1 y3 F16 bq17 bq18 bq19 lr)) = f128_b22 K a0 a1 q17 q18 q19 y3 y20 y21 (fun v0 v1 v2 => F16 (f128_fr16 a0 a1 y3 v0 v1 v2)) (fun v0 v1 => L (f128_fr22 a0 a1 q17 q18 q19 y3 y20 y21 v0 v1)) q23 q24 := by
    intro lr L q23 q24; kernel_rfl
  intro n q23 q24
  refine loopN_iter (X := Int × List Int) (frame := fun x => (f128_fr22 a0 a1 q17 q18 q19 y3 y20 y21 x.1 x.2)) (body := (fun L x => (fun L22 => f128_b22 K a0 a1 q17 q18 q19 y3 y20 y21 (fun v0 v1 v2 => F16 (f128_fr16 a0 a1 y3 v0 v1 v2)) L22 x.1 x.2) (fun v0 v1 => L (v0, v1)))) (fun L x => ?_) n (q23, q24)
  rw [exec_G]
  exact (key (realL (f128E K) 1) L x.1 x.2).trans (by rfl)
theorem f128_t16 (K : Nat) (a0 : Int × Int × Int) (a1 : List tM) (y3 : List tV) (bq17 : Int) (bq18 : List (List tV)) (bq19 : List Int) : ∀ (n : Nat) (q17 : Int) (q18 : List (List tV)) (q19 : List Int), loopN (exec (f128E K) 1 (selC f128C [1, 1, 0, 1, 0, 0])) 1 (f128_fr16 a0 a1 y3 bq17 bq18 bq19) n (f128_fr16 a0 a1 y3 q17 q18 q19) (f128_k16 K a0 a1 (realL (f128E K) 1)) = f128_l16 K a0 a1 y3 n q17 q18 q19 := by
  have key : ∀ (lr : LR ((List (List tV)) × List Int)) (L : Fr → Option ((List (List tV)) × List Int)) (q17 : Int) (q18 : List (List tV)) (q19 : List Int), execG (f128E K) 1 lr (selC f128C [1, 1, 0, 1, 0, 0]) (f128_fr16 a0 a1 y3 q17 q18 q19) (loopK 1 (f128_fr16 a0 a1 y3 bq17 bq18 bq19) L (f128_k16 K a0 a1 lr)) = f128_b16 K a0 a1 y3 (fun c0 c1 c2 c3 c4 d0 d1 => lr (selC f128C [1, 1, 0, 1, 0, 0, 1, 1, 0, 0, 1, 1, 1, 0, 1, 0, 0]) (f128_fr22 a0 a1 c0 c1 c2 y3 c3 c4 d0 d1) (f128_k22 K a0 a1 y3 L bq17 bq18 bq19 lr)) (fun v0 v1 v2 => L (f128_fr16 a0 a1 y3 v0 v1 v2)) q17 q18 q19 := by
    intro lr L q17 q18 q19; kernel_rfl
  intro n q17 q18 q19
  refine loopN_iter (X := Int × List (List tV) × List Int) (frame := fun x => (f128_fr16 a0 a1 y3 x.1 x.2.1 x.2.2)) (body := (fun L x => (fun L16 => f128_b16 K a0 a1 y3 (fun c0 c1 c2 c3 c4 d0 d1 => f128_l22 K a0 a1 c0 c1 c2 y3 c3 c4 L16 K d0 d1) L16 x.1 x.2.1 x.2.2) (fun v0 v1 v2 => L (v0, v1, v2)))) (fun L x => ?_) n (q17, q18, q19)
  rw [exec_G]
  have h22 : (fun c0 c1 c2 c3 c4 d0 d1 => (realL (f128E K) 1) (selC f128C [1, 1, 0, 1, 0, 0, 1, 1, 0, 0, 1, 1, 1, 0, 1, 0, 0]) (f128_fr22 a0 a1 c0 c1 c2 y3 c3 c4 d0 d1) (f128_k22 K a0 a1 y3 L bq17 bq18 bq19 (realL (f128E K) 1))) = fun c0 c1 c2 c3 c4 d0 d1 => f128_l22 K a0 a1 c0 c1 c2 y3 c3 c4 (fun v0 v1 v2 => L (f128_fr16 a0 a1 y3 v0 v1 v2)) K d0 d1 := by
    funext c0 c1 c2 c3 c4 d0 d1
    exact f128_t22 K a0 a1 y3 c0 c1 c2 c3 c4 L bq17 bq18 bq19 d0 d1 K d0 d1
  exact (key (realL (f128E K) 1) L x.1 x.2.1 x.2.2).trans (by rw [h22] <;> rfl)
theorem f128_run (K : Nat) (a0 : Int × Int × Int) (a1 : List tM) : runF (f128E K) Tryz.f128 [(.ro, sL), (.ro, (.list 95 sM))] [(.list 84 (.list 79 sV)), (.list 2 sI)] (a0, a1, ()) = f128G K a0 a1 := by
  have key : ∀ (lr : LR ((List (List tV)) × List Int)), runG (f128E K) Tryz.f128 [(.ro, sL), (.ro, (.list 95 sM))] [(.list 84 (.list 79 sV)), (.list 2 sI)] (a0, a1, ()) lr = f128_g K a0 a1 (fun c0 d0 d1 d2 => lr (selC f128C [1, 1, 0, 1, 0, 0]) (f128_fr16 a0 a1 c0 d0 d1 d2) (f128_k16 K a0 a1 lr)) := by intro lr; kernel_rfl
  have h16 : (fun c0 d0 d1 d2 => (realL (f128E K) 1) (selC f128C [1, 1, 0, 1, 0, 0]) (f128_fr16 a0 a1 c0 d0 d1 d2) (f128_k16 K a0 a1 (realL (f128E K) 1))) = fun c0 d0 d1 d2 => f128_l16 K a0 a1 c0 K d0 d1 d2 := by
    funext c0 d0 d1 d2
    exact f128_t16 K a0 a1 c0 d0 d1 d2 K d0 d1 d2
  exact runF_G (n0 := 1) (by rfl) ((key (realL (f128E K) 1)).trans (by rw [h16] <;> rfl))
theorem f254_run (K : Nat) (a0 : tV × Int) (a1 : List Int) (a2 : Int × Int × Int) : runF (f254E K) Tryz.f254 [(.ro, (.cons sV sI)), (.cap, (.list 2 sI)), (.cap, sL)] [sI] (a0, a1, a2, ()) = f254G K a0 a1 a2 := by kernel_rfl
theorem f148_t12 (K : Nat) (a0 : Int × Int × Int) (a1 : List tM) (a2 : List (tV × Int)) (y1 : (List (List tV)) × List Int) (q11 : Int) (F10 : Fr → Option (Int × Int × Bool)) (bq11 bq13 : Int) : ∀ (n : Nat) (q13 : Int), loopN (exec (f148E K) 2 (selC f148C [1, 1, 1, 0, 1, 0, 0, 1, 1, 0, 0, 1, 1, 0, 0])) 2 (f148_fr12 a0 a1 a2 q11 y1 bq13) n (f148_fr12 a0 a1 a2 q11 y1 q13) (f148_k12 K a0 a1 a2 y1 F10 bq11 (realL (f148E K) 2)) = f148_l12 K a0 a1 a2 q11 y1 (fun v0 => F10 (f148_fr10 a0 a1 a2 y1 v0)) n q13 := by
  have key : ∀ (lr : LR (Int × Int × Bool)) (L : Fr → Option (Int × Int × Bool)) (q13 : Int), execG (f148E K) 2 lr (selC f148C [1, 1, 1, 0, 1, 0, 0, 1, 1, 0, 0, 1, 1, 0, 0]) (f148_fr12 a0 a1 a2 q11 y1 q13) (loopK 2 (f148_fr12 a0 a1 a2 q11 y1 bq13) L (f148_k12 K a0 a1 a2 y1 F10 bq11 lr)) = f148_b12 K a0 a1 a2 q11 y1 (fun v0 => F10 (f148_fr10 a0 a1 a2 y1 v0)) (fun v0 => L (f148_fr12 a0 a1 a2 q11 y1 v0)) q13 := by
    intro lr L q13; kernel_rfl
  intro n q13
  refine loopN_iter (X := Int) (frame := fun x => (f148_fr12 a0 a1 a2 q11 y1 x)) (body := (fun L x => (fun L12 => f148_b12 K a0 a1 a2 q11 y1 (fun v0 => F10 (f148_fr10 a0 a1 a2 y1 v0)) L12 x) (fun v0 => L v0))) (fun L x => ?_) n q13
  rw [exec_G]
  exact (key (realL (f148E K) 2) L x).trans (by rfl)
theorem f148_t10 (K : Nat) (a0 : Int × Int × Int) (a1 : List tM) (a2 : List (tV × Int)) (y1 : (List (List tV)) × List Int) (bq11 : Int) : ∀ (n : Nat) (q11 : Int), loopN (exec (f148E K) 2 (selC f148C [1, 1, 1, 0, 1, 0, 0])) 2 (f148_fr10 a0 a1 a2 y1 bq11) n (f148_fr10 a0 a1 a2 y1 q11) (f148_k10 K a0 a1 a2 (realL (f148E K) 2)) = f148_l10 K a0 a1 a2 y1 n q11 := by
  have key : ∀ (lr : LR (Int × Int × Bool)) (L : Fr → Option (Int × Int × Bool)) (q11 : Int), execG (f148E K) 2 lr (selC f148C [1, 1, 1, 0, 1, 0, 0]) (f148_fr10 a0 a1 a2 y1 q11) (loopK 2 (f148_fr10 a0 a1 a2 y1 bq11) L (f148_k10 K a0 a1 a2 lr)) = f148_b10 K a0 a1 a2 y1 (fun c0 d0 => lr (selC f148C [1, 1, 1, 0, 1, 0, 0, 1, 1, 0, 0, 1, 1, 0, 0]) (f148_fr12 a0 a1 a2 c0 y1 d0) (f148_k12 K a0 a1 a2 y1 L bq11 lr)) (fun v0 => L (f148_fr10 a0 a1 a2 y1 v0)) q11 := by
    intro lr L q11; kernel_rfl
  intro n q11
  refine loopN_iter (X := Int) (frame := fun x => (f148_fr10 a0 a1 a2 y1 x)) (body := (fun L x => (fun L10 => f148_b10 K a0 a1 a2 y1 (fun c0 d0 => f148_l12 K a0 a1 a2 c0 y1 L10 K d0) L10 x) (fun v0 => L v0))) (fun L x => ?_) n q11
  rw [exec_G]
  have h12 : (fun c0 d0 => (realL (f148E K) 2) (selC f148C [1, 1, 1, 0, 1, 0, 0, 1, 1, 0, 0, 1, 1, 0, 0]) (f148_fr12 a0 a1 a2 c0 y1 d0) (f148_k12 K a0 a1 a2 y1 L bq11 (realL (f148E K) 2))) = fun c0 d0 => f148_l12 K a0 a1 a2 c0 y1 (fun v0 => L (f148_fr10 a0 a1 a2 y1 v0)) K d0 := by
    funext c0 d0
    exact f148_t12 K a0 a1 a2 y1 c0 L bq11 d0 K d0
  exact (key (realL (f148E K) 2) L x).trans (by rw [h12] <;> rfl)
theorem f148_run (K : Nat) (a0 : Int × Int × Int) (a1 : List tM) (a2 : List (tV × Int)) : runF (f148E K) Tryz.f148 [(.ro, sL), (.ro, (.list 95 sM)), (.ro, (.list 133 (.cons sV sI)))] [sI, sI, .bool] (a0, a1, a2, ()) = f148G K a0 a1 a2 := by
  have key : ∀ (lr : LR (Int × Int × Bool)), runG (f148E K) Tryz.f148 [(.ro, sL), (.ro, (.list 95 sM)), (.ro, (.list 133 (.cons sV sI)))] [sI, sI, .bool] (a0, a1, a2, ()) lr = f148_g K a0 a1 a2 (fun c0 d0 => lr (selC f148C [1, 1, 1, 0, 1, 0, 0]) (f148_fr10 a0 a1 a2 c0 d0) (f148_k10 K a0 a1 a2 lr)) := by intro lr; kernel_rfl
  have h10 : (fun c0 d0 => (realL (f148E K) 2) (selC f148C [1, 1, 1, 0, 1, 0, 0]) (f148_fr10 a0 a1 a2 c0 d0) (f148_k10 K a0 a1 a2 (realL (f148E K) 2))) = fun c0 d0 => f148_l10 K a0 a1 a2 c0 K d0 := by
    funext c0 d0
    exact f148_t10 K a0 a1 a2 c0 d0 K d0
  exact runF_G (n0 := 2) (by rfl) ((key (realL (f148E K) 2)).trans (by rw [h10] <;> rfl))
theorem f36_t7 (K : Nat) (a0 : Int) (a1 : List (tV × Int)) (y1 y2 : Bool) (y3 : List ByteArray) (bq8 : Int) (bq9 : List ByteArray) : ∀ (n : Nat) (q8 : Int) (q9 : List ByteArray), loopN (exec (f36E K) 1 (selC f36C [1, 1, 1, 0, 1, 0, 0])) 1 (f36_fr7 a0 a1 y1 y2 y3 bq8 bq9) n (f36_fr7 a0 a1 y1 y2 y3 q8 q9) (f36_k7 K a0 a1 (realL (f36E K) 1)) = f36_l7 K a0 a1 y1 y2 y3 n q8 q9 := by
  have key : ∀ (lr : LR ((List ByteArray) × Int)) (L : Fr → Option ((List ByteArray) × Int)) (q8 : Int) (q9 : List ByteArray), execG (f36E K) 1 lr (selC f36C [1, 1, 1, 0, 1, 0, 0]) (f36_fr7 a0 a1 y1 y2 y3 q8 q9) (loopK 1 (f36_fr7 a0 a1 y1 y2 y3 bq8 bq9) L (f36_k7 K a0 a1 lr)) = f36_b7 K a0 a1 y1 y2 y3 (fun v0 v1 => L (f36_fr7 a0 a1 y1 y2 y3 v0 v1)) q8 q9 := by
    intro lr L q8 q9; kernel_rfl
  intro n q8 q9
  refine loopN_iter (X := Int × List ByteArray) (frame := fun x => (f36_fr7 a0 a1 y1 y2 y3 x.1 x.2)) (body := (fun L x => (fun L7 => f36_b7 K a0 a1 y1 y2 y3 L7 x.1 x.2) (fun v0 v1 => L (v0, v1)))) (fun L x => ?_) n (q8, q9)
  rw [exec_G]
  exact (key (realL (f36E K) 1) L x.1 x.2).trans (by rfl)
theorem f36_run (K : Nat) (a0 : Int) (a1 : List (tV × Int)) : runF (f36E K) Tryz.f36 [(.ro, sI), (.ro, (.list 133 (.cons sV sI)))] [(.list 9 .str), sI] (a0, a1, ()) = f36G K a0 a1 := by
  have key : ∀ (lr : LR ((List ByteArray) × Int)), runG (f36E K) Tryz.f36 [(.ro, sI), (.ro, (.list 133 (.cons sV sI)))] [(.list 9 .str), sI] (a0, a1, ()) lr = f36_g K a0 a1 (fun c0 c1 c2 d0 d1 => lr (selC f36C [1, 1, 1, 0, 1, 0, 0]) (f36_fr7 a0 a1 c0 c1 c2 d0 d1) (f36_k7 K a0 a1 lr)) := by intro lr; kernel_rfl
  have h7 : (fun c0 c1 c2 d0 d1 => (realL (f36E K) 1) (selC f36C [1, 1, 1, 0, 1, 0, 0]) (f36_fr7 a0 a1 c0 c1 c2 d0 d1) (f36_k7 K a0 a1 (realL (f36E K) 1))) = fun c0 c1 c2 d0 d1 => f36_l7 K a0 a1 c0 c1 c2 K d0 d1 := by
    funext c0 c1 c2 d0 d1
    exact f36_t7 K a0 a1 c0 c1 c2 d0 d1 K d0 d1
  exact runF_G (n0 := 1) (by rfl) ((key (realL (f36E K) 1)).trans (by rw [h7] <;> rfl))
theorem f37_t2 (K : Nat) (a0 a1 : List ByteArray) (bq3 : Int) : ∀ (n : Nat) (q3 : Int), loopN (exec (f37E K) 2 (selC f37C [1, 1, 0, 1, 0, 0])) 2 (f37_fr2 a0 a1 bq3) n (f37_fr2 a0 a1 q3) (f37_k2 K a0 a1 (realL (f37E K) 2)) = f37_l2 K a0 a1 n q3 := by
  have key : ∀ (lr : LR Bool) (L : Fr → Option Bool) (q3 : Int), execG (f37E K) 2 lr (selC f37C [1, 1, 0, 1, 0, 0]) (f37_fr2 a0 a1 q3) (loopK 2 (f37_fr2 a0 a1 bq3) L (f37_k2 K a0 a1 lr)) = f37_b2 K a0 a1 (fun v0 => L (f37_fr2 a0 a1 v0)) q3 := by
    intro lr L q3; kernel_rfl
  intro n q3
  refine loopN_iter (X := Int) (frame := fun x => (f37_fr2 a0 a1 x)) (body := (fun L x => (fun L2 => f37_b2 K a0 a1 L2 x) (fun v0 => L v0))) (fun L x => ?_) n q3
  rw [exec_G]
  exact (key (realL (f37E K) 2) L x).trans (by rfl)
theorem f37_run (K : Nat) (a0 a1 : List ByteArray) : runF (f37E K) Tryz.f37 [(.ro, (.list 9 .str)), (.ro, (.list 9 .str))] [.bool] (a0, a1, ()) = f37G K a0 a1 := by
  have key : ∀ (lr : LR Bool), runG (f37E K) Tryz.f37 [(.ro, (.list 9 .str)), (.ro, (.list 9 .str))] [.bool] (a0, a1, ()) lr = f37_g K a0 a1 (fun d0 => lr (selC f37C [1, 1, 0, 1, 0, 0]) (f37_fr2 a0 a1 d0) (f37_k2 K a0 a1 lr)) := by intro lr; kernel_rfl
  have h2 : (fun d0 => (realL (f37E K) 2) (selC f37C [1, 1, 0, 1, 0, 0]) (f37_fr2 a0 a1 d0) (f37_k2 K a0 a1 (realL (f37E K) 2))) = fun d0 => f37_l2 K a0 a1 K d0 := by
    funext d0
    exact f37_t2 K a0 a1 d0 K d0
  exact runF_G (n0 := 2) (by rfl) ((key (realL (f37E K) 2)).trans (by rw [h2] <;> rfl))
theorem f242_run (K : Nat) (a0 a1 : Int × Int) : runF (f242E K) Tryz.f242 [(.ro, sV), (.ro, sV)] [.bool] (a0, a1, ()) = f242G K a0 a1 := by kernel_rfl
theorem f149_run (K : Nat) (a0 a1 : tV × Int) : runF (f149E K) Tryz.f149 [(.ro, (.cons sV sI)), (.ro, (.cons sV sI))] [.bool] (a0, a1, ()) = f149G K a0 a1 := by kernel_rfl
theorem f38_t3 (K : Nat) (a0 a1 : List (tV × Int)) (bq4 : Int) : ∀ (n : Nat) (q4 : Int), loopN (exec (f38E K) 2 (selC f38C [1, 1, 0, 1, 0, 0])) 2 (f38_fr3 a0 a1 bq4) n (f38_fr3 a0 a1 q4) (f38_k3 K a0 a1 (realL (f38E K) 2)) = f38_l3 K a0 a1 n q4 := by
  have key : ∀ (lr : LR Bool) (L : Fr → Option Bool) (q4 : Int), execG (f38E K) 2 lr (selC f38C [1, 1, 0, 1, 0, 0]) (f38_fr3 a0 a1 q4) (loopK 2 (f38_fr3 a0 a1 bq4) L (f38_k3 K a0 a1 lr)) = f38_b3 K a0 a1 (fun v0 => L (f38_fr3 a0 a1 v0)) q4 := by
    intro lr L q4; kernel_rfl
  intro n q4
  refine loopN_iter (X := Int) (frame := fun x => (f38_fr3 a0 a1 x)) (body := (fun L x => (fun L3 => f38_b3 K a0 a1 L3 x) (fun v0 => L v0))) (fun L x => ?_) n q4
  rw [exec_G]
  exact (key (realL (f38E K) 2) L x).trans (by rfl)
theorem f38_run (K : Nat) (a0 a1 : List (tV × Int)) : runF (f38E K) Tryz.f38 [(.ro, (.list 133 (.cons sV sI))), (.ro, (.list 133 (.cons sV sI)))] [.bool] (a0, a1, ()) = f38G K a0 a1 := by
  have key : ∀ (lr : LR Bool), runG (f38E K) Tryz.f38 [(.ro, (.list 133 (.cons sV sI))), (.ro, (.list 133 (.cons sV sI)))] [.bool] (a0, a1, ()) lr = f38_g K a0 a1 (fun d0 => lr (selC f38C [1, 1, 0, 1, 0, 0]) (f38_fr3 a0 a1 d0) (f38_k3 K a0 a1 lr)) := by intro lr; kernel_rfl
  have h3 : (fun d0 => (realL (f38E K) 2) (selC f38C [1, 1, 0, 1, 0, 0]) (f38_fr3 a0 a1 d0) (f38_k3 K a0 a1 (realL (f38E K) 2))) = fun d0 => f38_l3 K a0 a1 K d0 := by
    funext d0
    exact f38_t3 K a0 a1 d0 K d0
  exact runF_G (n0 := 2) (by rfl) ((key (realL (f38E K) 2)).trans (by rw [h3] <;> rfl))
theorem f39_t2 (K : Nat) (a0 : List (tV × Int)) (a1 bq3 bq4 : Int) (bq5 : List (tV × Int)) : ∀ (n : Nat) (q3 q4 : Int) (q5 : List (tV × Int)), loopN (exec (f39E K) 1 (selC f39C [1, 0, 1, 0, 0])) 1 (f39_fr2 bq3 bq4 bq5) n (f39_fr2 q3 q4 q5) (f39_k2 K a0 a1 (realL (f39E K) 1)) = f39_l2 K n q3 q4 q5 := by
  have key : ∀ (lr : LR ((List (tV × Int)) × Int)) (L : Fr → Option ((List (tV × Int)) × Int)) (q3 q4 : Int) (q5 : List (tV × Int)), execG (f39E K) 1 lr (selC f39C [1, 0, 1, 0, 0]) (f39_fr2 q3 q4 q5) (loopK 1 (f39_fr2 bq3 bq4 bq5) L (f39_k2 K a0 a1 lr)) = f39_b2 K (fun v0 v1 v2 => L (f39_fr2 v0 v1 v2)) q3 q4 q5 := by
    intro lr L q3 q4 q5; kernel_rfl
  intro n q3 q4 q5
  refine loopN_iter (X := Int × Int × List (tV × Int)) (frame := fun x => (f39_fr2 x.1 x.2.1 x.2.2)) (body := (fun L x => (fun L2 => f39_b2 K L2 x.1 x.2.1 x.2.2) (fun v0 v1 v2 => L (v0, v1, v2)))) (fun L x => ?_) n (q3, q4, q5)
  rw [exec_G]
  exact (key (realL (f39E K) 1) L x.1 x.2.1 x.2.2).trans (by rfl)
theorem f39_run (K : Nat) (a0 : List (tV × Int)) (a1 : Int) : runF (f39E K) Tryz.f39 [(.io, (.list 133 (.cons sV sI))), (.ro, sI)] [sI] (a0, a1, ()) = f39G K a0 a1 := by
  have key : ∀ (lr : LR ((List (tV × Int)) × Int)), runG (f39E K) Tryz.f39 [(.io, (.list 133 (.cons sV sI))), (.ro, sI)] [sI] (a0, a1, ()) lr = f39_g K a0 a1 (fun d0 d1 d2 => lr (selC f39C [1, 0, 1, 0, 0]) (f39_fr2 d0 d1 d2) (f39_k2 K a0 a1 lr)) := by intro lr; kernel_rfl
  have h2 : (fun d0 d1 d2 => (realL (f39E K) 1) (selC f39C [1, 0, 1, 0, 0]) (f39_fr2 d0 d1 d2) (f39_k2 K a0 a1 (realL (f39E K) 1))) = fun d0 d1 d2 => f39_l2 K K d0 d1 d2 := by
    funext d0 d1 d2
    exact f39_t2 K a0 a1 d0 d1 d2 K d0 d1 d2
  exact runF_G (n0 := 1) (by rfl) ((key (realL (f39E K) 1)).trans (by rw [h2] <;> rfl))
theorem f150_t2 (K : Nat) (a0 bq3 : Int) (bq4 : ByteArray) : ∀ (n : Nat) (q3 : Int) (q4 : ByteArray), loopN (exec (f150E K) 0 (selC f150C [1, 1, 1, 0, 0, 0])) 0 (f150_fr2 a0 bq3 bq4) n (f150_fr2 a0 q3 q4) (f150_k2 K a0 (realL (f150E K) 0)) = f150_l2 K a0 n q3 q4 := by
  have key : ∀ (lr : LR ByteArray) (L : Fr → Option ByteArray) (q3 : Int) (q4 : ByteArray), execG (f150E K) 0 lr (selC f150C [1, 1, 1, 0, 0, 0]) (f150_fr2 a0 q3 q4) (loopK 0 (f150_fr2 a0 bq3 bq4) L (f150_k2 K a0 lr)) = f150_b2 K a0 (fun v0 v1 => L (f150_fr2 a0 v0 v1)) q3 q4 := by
    intro lr L q3 q4; kernel_rfl
  intro n q3 q4
  refine loopN_iter (X := Int × ByteArray) (frame := fun x => (f150_fr2 a0 x.1 x.2)) (body := (fun L x => (fun L2 => f150_b2 K a0 L2 x.1 x.2) (fun v0 v1 => L (v0, v1)))) (fun L x => ?_) n (q3, q4)
  rw [exec_G]
  exact (key (realL (f150E K) 0) L x.1 x.2).trans (by rfl)
theorem f150_run (K : Nat) (a0 : Int) : runF (f150E K) Tryz.f150 [(.ro, sI)] [.str] (a0, ()) = f150G K a0 := by
  have key : ∀ (lr : LR ByteArray), runG (f150E K) Tryz.f150 [(.ro, sI)] [.str] (a0, ()) lr = f150_g K a0 (fun d0 d1 => lr (selC f150C [1, 1, 1, 0, 0, 0]) (f150_fr2 a0 d0 d1) (f150_k2 K a0 lr)) := by intro lr; kernel_rfl
  have h2 : (fun d0 d1 => (realL (f150E K) 0) (selC f150C [1, 1, 1, 0, 0, 0]) (f150_fr2 a0 d0 d1) (f150_k2 K a0 (realL (f150E K) 0))) = fun d0 d1 => f150_l2 K a0 K d0 d1 := by
    funext d0 d1
    exact f150_t2 K a0 d0 d1 K d0 d1
  exact runF_G (n0 := 0) (by rfl) ((key (realL (f150E K) 0)).trans (by rw [h2] <;> rfl))
theorem f40_t3 (K : Nat) (a0 : List ByteArray) (a1 bq4 bq5 : Int) (bq6 : List ByteArray) : ∀ (n : Nat) (q4 q5 : Int) (q6 : List ByteArray), loopN (exec (f40E K) 1 (selC f40C [1, 0, 1, 0, 0])) 1 (f40_fr3 bq4 bq5 bq6) n (f40_fr3 q4 q5 q6) (f40_k3 K a0 a1 (realL (f40E K) 1)) = f40_l3 K n q4 q5 q6 := by
  have key : ∀ (lr : LR ((List ByteArray) × Int)) (L : Fr → Option ((List ByteArray) × Int)) (q4 q5 : Int) (q6 : List ByteArray), execG (f40E K) 1 lr (selC f40C [1, 0, 1, 0, 0]) (f40_fr3 q4 q5 q6) (loopK 1 (f40_fr3 bq4 bq5 bq6) L (f40_k3 K a0 a1 lr)) = f40_b3 K (fun v0 v1 v2 => L (f40_fr3 v0 v1 v2)) q4 q5 q6 := by
    intro lr L q4 q5 q6; kernel_rfl
  intro n q4 q5 q6
  refine loopN_iter (X := Int × Int × List ByteArray) (frame := fun x => (f40_fr3 x.1 x.2.1 x.2.2)) (body := (fun L x => (fun L3 => f40_b3 K L3 x.1 x.2.1 x.2.2) (fun v0 v1 v2 => L (v0, v1, v2)))) (fun L x => ?_) n (q4, q5, q6)
  rw [exec_G]
  exact (key (realL (f40E K) 1) L x.1 x.2.1 x.2.2).trans (by rfl)
theorem f40_run (K : Nat) (a0 : List ByteArray) (a1 : Int) : runF (f40E K) Tryz.f40 [(.io, (.list 9 .str)), (.ro, sI)] [sI] (a0, a1, ()) = f40G K a0 a1 := by
  have key : ∀ (lr : LR ((List ByteArray) × Int)), runG (f40E K) Tryz.f40 [(.io, (.list 9 .str)), (.ro, sI)] [sI] (a0, a1, ()) lr = f40_g K a0 a1 (fun d0 d1 d2 => lr (selC f40C [1, 0, 1, 0, 0]) (f40_fr3 d0 d1 d2) (f40_k3 K a0 a1 lr)) := by intro lr; kernel_rfl
  have h3 : (fun d0 d1 d2 => (realL (f40E K) 1) (selC f40C [1, 0, 1, 0, 0]) (f40_fr3 d0 d1 d2) (f40_k3 K a0 a1 (realL (f40E K) 1))) = fun d0 d1 d2 => f40_l3 K K d0 d1 d2 := by
    funext d0 d1 d2
    exact f40_t3 K a0 a1 d0 d1 d2 K d0 d1 d2
  exact runF_G (n0 := 1) (by rfl) ((key (realL (f40E K) 1)).trans (by rw [h3] <;> rfl))
theorem f41_t3 (K : Nat) (a0 : List ByteArray) (a1 bq4 bq5 : Int) : ∀ (n : Nat) (q4 q5 : Int), loopN (exec (f41E K) 1 (selC f41C [1, 0, 1, 0, 0])) 1 (f41_fr3 a0 bq4 bq5) n (f41_fr3 a0 q4 q5) (f41_k3 K a0 a1 (realL (f41E K) 1)) = f41_l3 K a0 n q4 q5 := by
  have key : ∀ (lr : LR Int) (L : Fr → Option Int) (q4 q5 : Int), execG (f41E K) 1 lr (selC f41C [1, 0, 1, 0, 0]) (f41_fr3 a0 q4 q5) (loopK 1 (f41_fr3 a0 bq4 bq5) L (f41_k3 K a0 a1 lr)) = f41_b3 K a0 (fun v0 v1 => L (f41_fr3 a0 v0 v1)) q4 q5 := by
    intro lr L q4 q5; kernel_rfl
  intro n q4 q5
  refine loopN_iter (X := Int × Int) (frame := fun x => (f41_fr3 a0 x.1 x.2)) (body := (fun L x => (fun L3 => f41_b3 K a0 L3 x.1 x.2) (fun v0 v1 => L (v0, v1)))) (fun L x => ?_) n (q4, q5)
  rw [exec_G]
  exact (key (realL (f41E K) 1) L x.1 x.2).trans (by rfl)
theorem f41_run (K : Nat) (a0 : List ByteArray) (a1 : Int) : runF (f41E K) Tryz.f41 [(.ro, (.list 9 .str)), (.ro, sI)] [sI] (a0, a1, ()) = f41G K a0 a1 := by
  have key : ∀ (lr : LR Int), runG (f41E K) Tryz.f41 [(.ro, (.list 9 .str)), (.ro, sI)] [sI] (a0, a1, ()) lr = f41_g K a0 a1 (fun d0 d1 => lr (selC f41C [1, 0, 1, 0, 0]) (f41_fr3 a0 d0 d1) (f41_k3 K a0 a1 lr)) := by intro lr; kernel_rfl
  have h3 : (fun d0 d1 => (realL (f41E K) 1) (selC f41C [1, 0, 1, 0, 0]) (f41_fr3 a0 d0 d1) (f41_k3 K a0 a1 (realL (f41E K) 1))) = fun d0 d1 => f41_l3 K a0 K d0 d1 := by
    funext d0 d1
    exact f41_t3 K a0 a1 d0 d1 K d0 d1
  exact runF_G (n0 := 1) (by rfl) ((key (realL (f41E K) 1)).trans (by rw [h3] <;> rfl))
theorem f7_run (K : Nat) (a0 : Int) (a1 : List (tV × Int)) : runF (f7E K) Tryz.f7 [(.ro, sI), (.ro, (.list 175 (.cons sV sI)))] [.bool] (a0, a1, ()) = f7G K a0 a1 := by kernel_rfl
end Go.Proofs.YtfccacobkcglcaaGreat.X
