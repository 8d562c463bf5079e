/- Functions of the program as plain Lean functions, and that the program does what they say. Printed by gen.py. -/
import Derived.Test.YtfccacobkcglcaaGreatQhD1
namespace Go.Proofs.YtfccacobkcglcaaGreat.X
open Go
set_option maxRecDepth 100000
set_option linter.unusedVariables false
theorem f55_run (K : Nat) (a0 : List Int) : runF (f55E K) Tryz.f55 [(.ro, (.list 5 (.int .u8)))] [.bool] (a0, ()) = f55G K a0 := by kernel_rfl
theorem f174_t2 (K : Nat) (a0 : List Int) (bq3 bq4 : Int) : ∀ (n : Nat) (q3 q4 : Int), loopN (exec (f174E K) 1 (selC f174C [1, 1, 0, 1, 0, 0])) 1 (f174_fr2 a0 bq3 bq4) n (f174_fr2 a0 q3 q4) (f174_k2 K a0 (realL (f174E K) 1)) = f174_l2 K a0 n q3 q4 := by
  have key : ∀ (lr : LR tV) (L : Fr → Option tV) (q3 q4 : Int), execG (f174E K) 1 lr (selC f174C [1, 1, 0, 1, 0, 0]) (f174_fr2 a0 q3 q4) (loopK 1 (f174_fr2 a0 bq3 bq4) L (f174_k2 K a0 lr)) = f174_b2 K a0 (fun v0 v1 => L (f174_fr2 a0 v0 v1)) q3 q4 := by
    intro lr L q3 q4; kernel_rfl
  intro n q3 q4
  refine loopN_iter (X := Int × Int) (frame := fun x => (f174_fr2 a0 x.1 x.2)) (body := (fun L x => (fun L2 => f174_b2 K a0 L2 x.1 x.2) (fun v0 v1 => L (v0, v1)))) (fun L x => ?_) n (q3, q4)
  rw [exec_G]
  exact (key (realL (f174E K) 1) L x.1 x.2).trans (by rfl)
theorem f174_run (K : Nat) (a0 : List Int) : runN (f174E K) Tryz.f174 5 (.int .u8) sV [] (a0, ()) = f174G K a0 := by
  have key : ∀ (lr : LR tV), runNG (f174E K) Tryz.f174 5 (.int .u8) sV [] (a0, ()) lr = f174_g K a0 (fun d0 d1 => lr (selC f174C [1, 1, 0, 1, 0, 0]) (f174_fr2 a0 d0 d1) (f174_k2 K a0 lr)) := by intro lr; kernel_rfl
  have h2 : (fun d0 d1 => (realL (f174E K) 1) (selC f174C [1, 1, 0, 1, 0, 0]) (f174_fr2 a0 d0 d1) (f174_k2 K a0 (realL (f174E K) 1))) = fun d0 d1 => f174_l2 K a0 K d0 d1 := by
    funext d0 d1
    exact f174_t2 K a0 d0 d1 K d0 d1
  exact runN_G (n0 := 1) (by rfl) ((key (realL (f174E K) 1)).trans (by rw [h2] <;> rfl))
theorem f194_run (K : Nat) (a0 : (List Int) × Int × Int) (a1 : Int) : runP (f194E K) Tryz.f194 5 (.int .u8) sV [(.ro, sI)] [sI] (a0, a1, ()) = f194G K a0 a1 := by kernel_rfl
theorem f252_run (K : Nat) (a0 : ByteArray) (a1 : Int) : runF (f252E K) Tryz.f252 [(.ro, .str), (.ro, sI)] [sI, (.list 95 sM), .bool] (a0, a1, ()) = f252G K a0 a1 := by kernel_rfl
theorem f141_run (K : Nat) (a0 a1 a2 : Int) : runF (f141E K) Tryz.f141 [(.ro, sI), (.ro, sI), (.ro, sI)] [.bool] (a0, a1, a2, ()) = f141G K a0 a1 a2 := by kernel_rfl
theorem f233_run (K : Nat) : runF (f233E K) Tryz.f233 [] [sA] (()) = f233G K := by kernel_rfl
theorem f306_run (K : Nat) : runF (f306E K) Tryz.f306 [] [sM] (()) = f306G K := by kernel_rfl
theorem f351_run (K : Nat) (a0 a1 : Int × Int × Int × Int) : runF (f351E K) Tryz.f351 [(.ro, sA), (.ro, sA)] [sA] (a0, a1, ()) = f351G K a0 a1 := by kernel_rfl
theorem f341_run (K : Nat) (a0 : Int × Int × Int × Int) (a1 : Int × Int) : runF (f341E K) Tryz.f341 [(.ro, sA), (.ro, sV)] [sV] (a0, a1, ()) = f341G K a0 a1 := by kernel_rfl
theorem f340_run (K : Nat) (a0 a1 : Int × Int) : runF (f340E K) Tryz.f340 [(.ro, sV), (.ro, sV)] [sV] (a0, a1, ()) = f340G K a0 a1 := by kernel_rfl
theorem f307_run (K : Nat) (a0 a1 : tA × Int × Int) : runF (f307E K) Tryz.f307 [(.ro, sM), (.ro, sM)] [sM] (a0, a1, ()) = f307G K a0 a1 := by kernel_rfl
theorem f255_run (K : Nat) (a0 a1 : Int) : runF (f255E K) Tryz.f255 [(.ro, sI), (.ro, sI)] [sI] (a0, a1, ()) = f255G K a0 a1 := by kernel_rfl
theorem f153_run (K : Nat) (a0 : Int × Int × Int) (a1 : Int × Int) : runF (f153E K) Tryz.f153 [(.ro, sL), (.ro, sV)] [sV] (a0, a1, ()) = f153G K a0 a1 := by kernel_rfl
theorem f303_run (K : Nat) (a0 : Int × Int × Int) (a1 : tA × Int × Int) : runF (f303E K) Tryz.f303 [(.ro, sL), (.ro, sM)] [sM] (a0, a1, ()) = f303G K a0 a1 := by kernel_rfl
theorem f398_run (K : Nat) (a0 : Int × Int × Int × Int) : runF (f398E K) Tryz.f398 [(.ro, sA)] [(.list 2 sI)] (a0, ()) = f398G K a0 := by kernel_rfl
theorem f397_t2 (K : Nat) (a0 a1 : List Int) (bq3 : Int) : ∀ (n : Nat) (q3 : Int), loopN (exec (f397E K) 2 (selC f397C [1, 0, 1, 0, 0])) 2 (f397_fr2 a0 a1 bq3) n (f397_fr2 a0 a1 q3) (f397_k2 K a0 a1 (realL (f397E K) 2)) = f397_l2 K a0 a1 n q3 := by
  have key : ∀ (lr : LR Bool) (L : Fr → Option Bool) (q3 : Int), execG (f397E K) 2 lr (selC f397C [1, 0, 1, 0, 0]) (f397_fr2 a0 a1 q3) (loopK 2 (f397_fr2 a0 a1 bq3) L (f397_k2 K a0 a1 lr)) = f397_b2 K a0 a1 (fun v0 => L (f397_fr2 a0 a1 v0)) q3 := by
    intro lr L q3; kernel_rfl
  intro n q3
  refine loopN_iter (X := Int) (frame := fun x => (f397_fr2 a0 a1 x)) (body := (fun L x => (fun L2 => f397_b2 K a0 a1 L2 x) (fun v0 => L v0))) (fun L x => ?_) n q3
  rw [exec_G]
  exact (key (realL (f397E K) 2) L x).trans (by rfl)
theorem f397_run (K : Nat) (a0 a1 : List Int) : runF (f397E K) Tryz.f397 [(.ro, (.list 2 sI)), (.ro, (.list 2 sI))] [.bool] (a0, a1, ()) = f397G K a0 a1 := by
  have key : ∀ (lr : LR Bool), runG (f397E K) Tryz.f397 [(.ro, (.list 2 sI)), (.ro, (.list 2 sI))] [.bool] (a0, a1, ()) lr = f397_g K a0 a1 (fun d0 => lr (selC f397C [1, 0, 1, 0, 0]) (f397_fr2 a0 a1 d0) (f397_k2 K a0 a1 lr)) := by intro lr; kernel_rfl
  have h2 : (fun d0 => (realL (f397E K) 2) (selC f397C [1, 0, 1, 0, 0]) (f397_fr2 a0 a1 d0) (f397_k2 K a0 a1 (realL (f397E K) 2))) = fun d0 => f397_l2 K a0 a1 K d0 := by
    funext d0
    exact f397_t2 K a0 a1 d0 K d0
  exact runF_G (n0 := 2) (by rfl) ((key (realL (f397E K) 2)).trans (by rw [h2] <;> rfl))
theorem f350_run (K : Nat) (a0 a1 : Int × Int × Int × Int) : runF (f350E K) Tryz.f350 [(.ro, sA), (.ro, sA)] [.bool] (a0, a1, ()) = f350G K a0 a1 := by kernel_rfl
theorem f339_run (K : Nat) (a0 a1 : Int × Int) : runF (f339E K) Tryz.f339 [(.ro, sV), (.ro, sV)] [.bool] (a0, a1, ()) = f339G K a0 a1 := by kernel_rfl
theorem f304_run (K : Nat) (a0 a1 : tA × Int × Int) : runF (f304E K) Tryz.f304 [(.ro, sM), (.ro, sM)] [.bool] (a0, a1, ()) = f304G K a0 a1 := by kernel_rfl
theorem f328_t6 (K : Nat) (a0 : List tM) (a1 : tA × Int × Int) (bq7 bq8 : Int) : ∀ (n : Nat) (q7 q8 : Int), loopN (exec (f328E K) 1 (selC f328C [1, 1, 0, 0, 0])) 1 (f328_fr6 a0 a1 bq7 bq8) n (f328_fr6 a0 a1 q7 q8) (f328_k6 K a0 a1 (realL (f328E K) 1)) = f328_l6 K a0 a1 n q7 q8 := by
  have key : ∀ (lr : LR Int) (L : Fr → Option Int) (q7 q8 : Int), execG (f328E K) 1 lr (selC f328C [1, 1, 0, 0, 0]) (f328_fr6 a0 a1 q7 q8) (loopK 1 (f328_fr6 a0 a1 bq7 bq8) L (f328_k6 K a0 a1 lr)) = f328_b6 K a0 a1 (fun v0 v1 => L (f328_fr6 a0 a1 v0 v1)) q7 q8 := by
    intro lr L q7 q8; kernel_rfl
  intro n q7 q8
  refine loopN_iter (X := Int × Int) (frame := fun x => (f328_fr6 a0 a1 x.1 x.2)) (body := (fun L x => (fun L6 => f328_b6 K a0 a1 L6 x.1 x.2) (fun v0 v1 => L (v0, v1)))) (fun L x => ?_) n (q7, q8)
  rw [exec_G]
  exact (key (realL (f328E K) 1) L x.1 x.2).trans (by rfl)
theorem f328_run (K : Nat) (a0 : List tM) (a1 : tA × Int × Int) : runF (f328E K) Tryz.f328 [(.ro, (.list 95 sM)), (.ro, sM)] [sI] (a0, a1, ()) = f328G K a0 a1 := by
  have key : ∀ (lr : LR Int), runG (f328E K) Tryz.f328 [(.ro, (.list 95 sM)), (.ro, sM)] [sI] (a0, a1, ()) lr = f328_g K a0 a1 (fun d0 d1 => lr (selC f328C [1, 1, 0, 0, 0]) (f328_fr6 a0 a1 d0 d1) (f328_k6 K a0 a1 lr)) := by intro lr; kernel_rfl
  have h6 : (fun d0 d1 => (realL (f328E K) 1) (selC f328C [1, 1, 0, 0, 0]) (f328_fr6 a0 a1 d0 d1) (f328_k6 K a0 a1 (realL (f328E K) 1))) = fun d0 d1 => f328_l6 K a0 a1 K d0 d1 := by
    funext d0 d1
    exact f328_t6 K a0 a1 d0 d1 K d0 d1
  exact runF_G (n0 := 1) (by rfl) ((key (realL (f328E K) 1)).trans (by rw [h6] <;> rfl))
theorem f305_run (K : Nat) (a0 : List tM) (a1 : tA × Int × Int) : runF (f305E K) Tryz.f305 [(.ro, (.list 95 sM)), (.ro, sM)] [.bool] (a0, a1, ()) = f305G K a0 a1 := by kernel_rfl
theorem f324_run (K : Nat) (a0 : List tM) (a1 : tA × Int × Int) : runF (f324E K) Tryz.f324 [(.mv, (.list 95 sM)), (.ro, sM)] [(.list 95 sM)] (a0, a1, ()) = f324G K a0 a1 := by kernel_rfl
theorem f253_t21 (K : Nat) (a0 : Int × Int × Int) (a1 : List tM) (q18 : Int) (q20 : List tM) (F17 : Fr → Option (List tM)) (bq18 : Int) (bq19 bq20 : List tM) (bq22 : Int) (bq23 bq24 : List tM) : ∀ (n : Nat) (q22 : Int) (q23 q24 : List tM), loopN (exec (f253E K) 1 (selC f253C [1, 1, 1, 0, 1, 0, 0, 1, 0, 0, 1, 0, 0])) 1 (f253_fr21 a0 a1 q18 q20 bq22 bq23 bq24) n (f253_fr21 a0 a1 q18 q20 q22 q23 q24) (f253_k21 K a0 a1 F17 bq18 bq19 bq20 (realL (f253E K) 1)) = f253_l21 K a0 a1 q18 q20 (fun v0 v1 v2 => F17 (f253_fr17 a0 a1 v0 v1 v2)) n q22 q23 q24 := by
  have key : ∀ (lr : LR (List tM)) (L : Fr → Option (List tM)) (q22 : Int) (q23 q24 : List tM), execG (f253E K) 1 lr (selC f253C [1, 1, 1, 0, 1, 0, 0, 1, 0, 0, 1, 0, 0]) (f253_fr21 a0 a1 q18 q20 q22 q23 q24) (loopK 1 (f253_fr21 a0 a1 q18 q20 bq22 bq23 bq24) L (f253_k21 K a0 a1 F17 bq18 bq19 bq20 lr)) = f253_b21 K a0 a1 q18 q20 (fun v0 v1 v2 => F17 (f253_fr17 a0 a1 v0 v1 v2)) (fun v0 v1 v2 => L (f253_fr21 a0 a1 q18 q20 v0 v1 v2)) q22 q23 q24 := by
    intro lr L q22 q23 q24; kernel_rfl
  intro n q22 q23 q24
  refine loopN_iter (X := Int × List tM × List tM) (frame := fun x => (f253_fr21 a0 a1 q18 q20 x.1 x.2.1 x.2.2)) (body := (fun L x => (fun L21 => f253_b21 K a0 a1 q18 q20 (fun v0 v1 v2 => F17 (f253_fr17 a0 a1 v0 v1 v2)) L21 x.1 x.2.1 x.2.2) (fun v0 v1 v2 => L (v0, v1, v2)))) (fun L x => ?_) n (q22, q23, q24)
  rw [exec_G]
  exact (key (realL (f253E K) 1) L x.1 x.2.1 x.2.2).trans (by rfl)
theorem f253_t17 (K : Nat) (a0 : Int × Int × Int) (a1 : List tM) (bq18 : Int) (bq19 bq20 : List tM) : ∀ (n : Nat) (q18 : Int) (q19 q20 : List tM), loopN (exec (f253E K) 1 (selC f253C [1, 1, 1, 0, 1, 0, 0])) 1 (f253_fr17 a0 a1 bq18 bq19 bq20) n (f253_fr17 a0 a1 q18 q19 q20) (f253_k17 K a0 a1 (realL (f253E K) 1)) = f253_l17 K a0 a1 n q18 q19 q20 := by
  have key : ∀ (lr : LR (List tM)) (L : Fr → Option (List tM)) (q18 : Int) (q19 q20 : List tM), execG (f253E K) 1 lr (selC f253C [1, 1, 1, 0, 1, 0, 0]) (f253_fr17 a0 a1 q18 q19 q20) (loopK 1 (f253_fr17 a0 a1 bq18 bq19 bq20) L (f253_k17 K a0 a1 lr)) = f253_b17 K a0 a1 (fun c0 c1 d0 d1 d2 => lr (selC f253C [1, 1, 1, 0, 1, 0, 0, 1, 0, 0, 1, 0, 0]) (f253_fr21 a0 a1 c0 c1 d0 d1 d2) (f253_k21 K a0 a1 L bq18 bq19 bq20 lr)) (fun v0 v1 v2 => L (f253_fr17 a0 a1 v0 v1 v2)) q18 q19 q20 := by
    intro lr L q18 q19 q20; kernel_rfl
  intro n q18 q19 q20
  refine loopN_iter (X := Int × List tM × List tM) (frame := fun x => (f253_fr17 a0 a1 x.1 x.2.1 x.2.2)) (body := (fun L x => (fun L17 => f253_b17 K a0 a1 (fun c0 c1 d0 d1 d2 => f253_l21 K a0 a1 c0 c1 L17 K d0 d1 d2) L17 x.1 x.2.1 x.2.2) (fun v0 v1 v2 => L (v0, v1, v2)))) (fun L x => ?_) n (q18, q19, q20)
  rw [exec_G]
  have h21 : (fun c0 c1 d0 d1 d2 => (realL (f253E K) 1) (selC f253C [1, 1, 1, 0, 1, 0, 0, 1, 0, 0, 1, 0, 0]) (f253_fr21 a0 a1 c0 c1 d0 d1 d2) (f253_k21 K a0 a1 L bq18 bq19 bq20 (realL (f253E K) 1))) = fun c0 c1 d0 d1 d2 => f253_l21 K a0 a1 c0 c1 (fun v0 v1 v2 => L (f253_fr17 a0 a1 v0 v1 v2)) K d0 d1 d2 := by
    funext c0 c1 d0 d1 d2
    exact f253_t21 K a0 a1 c0 c1 L bq18 bq19 bq20 d0 d1 d2 K d0 d1 d2
  exact (key (realL (f253E K) 1) L x.1 x.2.1 x.2.2).trans (by rw [h21] <;> rfl)
theorem f253_run (K : Nat) (a0 : Int × Int × Int) (a1 : List tM) : runF (f253E K) Tryz.f253 [(.ro, sL), (.ro, (.list 95 sM))] [(.list 95 sM)] (a0, a1, ()) = f253G K a0 a1 := by
  have key : ∀ (lr : LR (List tM)), runG (f253E K) Tryz.f253 [(.ro, sL), (.ro, (.list 95 sM))] [(.list 95 sM)] (a0, a1, ()) lr = f253_g K a0 a1 (fun d0 d1 d2 => lr (selC f253C [1, 1, 1, 0, 1, 0, 0]) (f253_fr17 a0 a1 d0 d1 d2) (f253_k17 K a0 a1 lr)) := by intro lr; kernel_rfl
  have h17 : (fun d0 d1 d2 => (realL (f253E K) 1) (selC f253C [1, 1, 1, 0, 1, 0, 0]) (f253_fr17 a0 a1 d0 d1 d2) (f253_k17 K a0 a1 (realL (f253E K) 1))) = fun d0 d1 d2 => f253_l17 K a0 a1 K d0 d1 d2 := by
    funext d0 d1 d2
    exact f253_t17 K a0 a1 d0 d1 d2 K d0 d1 d2
  exact runF_G (n0 := 1) (by rfl) ((key (realL (f253E K) 1)).trans (by rw [h17] <;> rfl))
theorem f143_run (K : Nat) (a0 : ByteArray) (a1 : Int) : runF (f143E K) Tryz.f143 [(.ro, .str), (.ro, sI)] [sI, sL, (.list 95 sM), sI] (a0, a1, ()) = f143G K a0 a1 := by kernel_rfl
theorem f196_run (K : Nat) (a0 : (List Int) × Int × Int) (a1 : List Int) : runP (f196E K) Tryz.f196 5 (.int .u8) sV [(.ro, (.list 2 sI))] [sI] (a0, a1, ()) = f196G K a0 a1 := by kernel_rfl
theorem f314_run (K : Nat) (a0 : (List Int) × Int × Int) : runP (f314E K) Tryz.f314 5 (.int .u8) sV [] [sI] (a0, ()) = f314G K a0 := by kernel_rfl
theorem f315_run (K : Nat) (a0 : (List Int) × Int × Int) : runP (f315E K) Tryz.f315 5 (.int .u8) sV [] [sL] (a0, ()) = f315G K a0 := by kernel_rfl
theorem f227_run (K : Nat) (a0 : (List Int) × Int × Int) : runP (f227E K) Tryz.f227 5 (.int .u8) sV [] [sI, sL] (a0, ()) = f227G K a0 := by kernel_rfl
theorem f316_run (K : Nat) (a0 : Int) : runF (f316E K) Tryz.f316 [(.ro, sI)] [.bool] (a0, ()) = f316G K a0 := by kernel_rfl
theorem f317_run (K : Nat) (a0 : Int × Int × Int) : runF (f317E K) Tryz.f317 [(.ro, sL)] [.bool] (a0, ()) = f317G K a0 := by kernel_rfl
theorem f229_run (K : Nat) (a0 : Int) (a1 : Int × Int × Int) : runF (f229E K) Tryz.f229 [(.ro, sI), (.ro, sL)] [sI] (a0, a1, ()) = f229G K a0 a1 := by kernel_rfl
theorem f404_run (K : Nat) (a0 : Int) (a1 : Int × Int) : runF (f404E K) Tryz.f404 [(.ro, sI), (.ro, sV)] [sI] (a0, a1, ()) = f404G K a0 a1 := by kernel_rfl
theorem f362_run (K : Nat) (a0 : Int) (a1 : Int × Int × Int × Int) : runF (f362E K) Tryz.f362 [(.ro, sI), (.ro, sA)] [.bool] (a0, a1, ()) = f362G K a0 a1 := by kernel_rfl
theorem f365_t3 (K : Nat) (a0 bq4 : Int) (bq5 : List tA) : ∀ (n : Nat) (q4 : Int) (q5 : List tA), loopN (exec (f365E K) 0 (selC f365C [1, 1, 0, 1, 0, 0])) 0 (f365_fr3 a0 bq4 bq5) n (f365_fr3 a0 q4 q5) (f365_k3 K a0 (realL (f365E K) 0)) = f365_l3 K a0 n q4 q5 := by
  have key : ∀ (lr : LR (List tA)) (L : Fr → Option (List tA)) (q4 : Int) (q5 : List tA), execG (f365E K) 0 lr (selC f365C [1, 1, 0, 1, 0, 0]) (f365_fr3 a0 q4 q5) (loopK 0 (f365_fr3 a0 bq4 bq5) L (f365_k3 K a0 lr)) = f365_b3 K a0 (fun v0 v1 => L (f365_fr3 a0 v0 v1)) q4 q5 := by
    intro lr L q4 q5; kernel_rfl
  intro n q4 q5
  refine loopN_iter (X := Int × List tA) (frame := fun x => (f365_fr3 a0 x.1 x.2)) (body := (fun L x => (fun L3 => f365_b3 K a0 L3 x.1 x.2) (fun v0 v1 => L (v0, v1)))) (fun L x => ?_) n (q4, q5)
  rw [exec_G]
  exact (key (realL (f365E K) 0) L x.1 x.2).trans (by rfl)
theorem f365_run (K : Nat) (a0 : Int) : runF (f365E K) Tryz.f365 [(.ro, sI)] [(.list 93 sA)] (a0, ()) = f365G K a0 := by
  have key : ∀ (lr : LR (List tA)), runG (f365E K) Tryz.f365 [(.ro, sI)] [(.list 93 sA)] (a0, ()) lr = f365_g K a0 (fun d0 d1 => lr (selC f365C [1, 1, 0, 1, 0, 0]) (f365_fr3 a0 d0 d1) (f365_k3 K a0 lr)) := by intro lr; kernel_rfl
  have h3 : (fun d0 d1 => (realL (f365E K) 0) (selC f365C [1, 1, 0, 1, 0, 0]) (f365_fr3 a0 d0 d1) (f365_k3 K a0 (realL (f365E K) 0))) = fun d0 d1 => f365_l3 K a0 K d0 d1 := by
    funext d0 d1
    exact f365_t3 K a0 d0 d1 K d0 d1
  exact runF_G (n0 := 0) (by rfl) ((key (realL (f365E K) 0)).trans (by rw [h3] <;> rfl))
theorem f363_run (K : Nat) (a0 : Int × Int × Int) : runF (f363E K) Tryz.f363 [(.ro, sL)] [(.list 79 sV)] (a0, ()) = f363G K a0 := by kernel_rfl
theorem f405_run (K : Nat) (rec : Int → Int → Option Int) (a0 a1 : Int) : runF (f405E K rec) Tryz.f405 [(.ro, sI), (.ro, sI)] [sI] (a0, a1, ()) = f405_s K rec a0 a1 := by kernel_rfl
theorem f406_run (K : Nat) (a0 : Int × Int) (a1 : Int) : runF (f406E K) Tryz.f406 [(.ro, sV), (.ro, sI)] [sV] (a0, a1, ()) = f406G K a0 a1 := by kernel_rfl
theorem f364_t15 (K : Nat) (a0 : List tV) (q11 q12 : Int) (F10 : Fr → Option tL) (bq11 bq12 bq13 bq14 bq16 bq17 bq18 bq19 : Int) : ∀ (n : Nat) (q16 q17 q18 q19 : Int), loopN (exec (f364E K) 1 (selC f364C [1, 1, 0, 1, 0, 0, 1, 0, 0, 1, 0, 0, 0])) 1 (f364_fr15 a0 q11 q12 bq16 bq17 bq18 bq19) n (f364_fr15 a0 q11 q12 q16 q17 q18 q19) (f364_k15 K a0 F10 bq11 bq12 bq13 bq14 (realL (f364E K) 1)) = f364_l15 K a0 q11 q12 (fun v0 v1 v2 v3 => F10 (f364_fr10 a0 v0 v1 v2 v3)) n q16 q17 q18 q19 := by
  have key : ∀ (lr : LR tL) (L : Fr → Option tL) (q16 q17 q18 q19 : Int), execG (f364E K) 1 lr (selC f364C [1, 1, 0, 1, 0, 0, 1, 0, 0, 1, 0, 0, 0]) (f364_fr15 a0 q11 q12 q16 q17 q18 q19) (loopK 1 (f364_fr15 a0 q11 q12 bq16 bq17 bq18 bq19) L (f364_k15 K a0 F10 bq11 bq12 bq13 bq14 lr)) = f364_b15 K a0 q11 q12 (fun v0 v1 v2 v3 => F10 (f364_fr10 a0 v0 v1 v2 v3)) (fun v0 v1 v2 v3 => L (f364_fr15 a0 q11 q12 v0 v1 v2 v3)) q16 q17 q18 q19 := by
    intro lr L q16 q17 q18 q19; kernel_rfl
  intro n q16 q17 q18 q19
  refine loopN_iter (X := Int × Int × Int × Int) (frame := fun x => (f364_fr15 a0 q11 q12 x.1 x.2.1 x.2.2.1 x.2.2.2)) (body := (fun L x => (fun L15 => f364_b15 K a0 q11 q12 (fun v0 v1 v2 v3 => F10 (f364_fr10 a0 v0 v1 v2 v3)) L15 x.1 x.2.1 x.2.2.1 x.2.2.2) (fun v0 v1 v2 v3 => L (v0, v1, v2, v3)))) (fun L x => ?_) n (q16, q17, q18, q19)
  rw [exec_G]
  exact (key (realL (f364E K) 1) L x.1 x.2.1 x.2.2.1 x.2.2.2).trans (by rfl)
theorem f364_t10 (K : Nat) (a0 : List tV) (bq11 bq12 bq13 bq14 : Int) : ∀ (n : Nat) (q11 q12 q13 q14 : Int), loopN (exec (f364E K) 1 (selC f364C [1, 1, 0, 1, 0, 0])) 1 (f364_fr10 a0 bq11 bq12 bq13 bq14) n (f364_fr10 a0 q11 q12 q13 q14) (f364_k10 K a0 (realL (f364E K) 1)) = f364_l10 K a0 n q11 q12 q13 q14 := by
  have key : ∀ (lr : LR tL) (L : Fr → Option tL) (q11 q12 q13 q14 : Int), execG (f364E K) 1 lr (selC f364C [1, 1, 0, 1, 0, 0]) (f364_fr10 a0 q11 q12 q13 q14) (loopK 1 (f364_fr10 a0 bq11 bq12 bq13 bq14) L (f364_k10 K a0 lr)) = f364_b10 K a0 (fun c0 c1 d0 d1 d2 d3 => lr (selC f364C [1, 1, 0, 1, 0, 0, 1, 0, 0, 1, 0, 0, 0]) (f364_fr15 a0 c0 c1 d0 d1 d2 d3) (f364_k15 K a0 L bq11 bq12 bq13 bq14 lr)) (fun v0 v1 v2 v3 => L (f364_fr10 a0 v0 v1 v2 v3)) q11 q12 q13 q14 := by
    intro lr L q11 q12 q13 q14; kernel_rfl
  intro n q11 q12 q13 q14
  refine loopN_iter (X := Int × Int × Int × Int) (frame := fun x => (f364_fr10 a0 x.1 x.2.1 x.2.2.1 x.2.2.2)) (body := (fun L x => (fun L10 => f364_b10 K a0 (fun c0 c1 d0 d1 d2 d3 => f364_l15 K a0 c0 c1 L10 K d0 d1 d2 d3) L10 x.1 x.2.1 x.2.2.1 x.2.2.2) (fun v0 v1 v2 v3 => L (v0, v1, v2, v3)))) (fun L x => ?_) n (q11, q12, q13, q14)
  rw [exec_G]
  have h15 : (fun c0 c1 d0 d1 d2 d3 => (realL (f364E K) 1) (selC f364C [1, 1, 0, 1, 0, 0, 1, 0, 0, 1, 0, 0, 0]) (f364_fr15 a0 c0 c1 d0 d1 d2 d3) (f364_k15 K a0 L bq11 bq12 bq13 bq14 (realL (f364E K) 1))) = fun c0 c1 d0 d1 d2 d3 => f364_l15 K a0 c0 c1 (fun v0 v1 v2 v3 => L (f364_fr10 a0 v0 v1 v2 v3)) K d0 d1 d2 d3 := by
    funext c0 c1 d0 d1 d2 d3
    exact f364_t15 K a0 c0 c1 L bq11 bq12 bq13 bq14 d0 d1 d2 d3 K d0 d1 d2 d3
  exact (key (realL (f364E K) 1) L x.1 x.2.1 x.2.2.1 x.2.2.2).trans (by rw [h15] <;> rfl)
theorem f364_run (K : Nat) (a0 : List tV) : runF (f364E K) Tryz.f364 [(.ro, (.list 79 sV))] [sL] (a0, ()) = f364G K a0 := by
  have key : ∀ (lr : LR tL), runG (f364E K) Tryz.f364 [(.ro, (.list 79 sV))] [sL] (a0, ()) lr = f364_g K a0 (fun d0 d1 d2 d3 => lr (selC f364C [1, 1, 0, 1, 0, 0]) (f364_fr10 a0 d0 d1 d2 d3) (f364_k10 K a0 lr)) := by intro lr; kernel_rfl
  have h10 : (fun d0 d1 d2 d3 => (realL (f364E K) 1) (selC f364C [1, 1, 0, 1, 0, 0]) (f364_fr10 a0 d0 d1 d2 d3) (f364_k10 K a0 (realL (f364E K) 1))) = fun d0 d1 d2 d3 => f364_l10 K a0 K d0 d1 d2 d3 := by
    funext d0 d1 d2 d3
    exact f364_t10 K a0 d0 d1 d2 d3 K d0 d1 d2 d3
  exact runF_G (n0 := 1) (by rfl) ((key (realL (f364E K) 1)).trans (by rw [h10] <;> rfl))
theorem f313_run (K : Nat) (a0 : Int × Int × Int × Int) (a1 : Int × Int × Int) : runF (f313E K) Tryz.f313 [(.ro, sA), (.ro, sL)] [sL] (a0, a1, ()) = f313G K a0 a1 := by kernel_rfl
theorem f318_t4 (K : Nat) (a0 : Int) (a1 : Int × Int × Int) (y1 : List tA) (bq5 : Int) (bq6 : List tA) : ∀ (n : Nat) (q5 : Int) (q6 : List tA), loopN (exec (f318E K) 0 (selC f318C [1, 1, 1, 0, 1, 0, 0])) 0 (f318_fr4 a0 a1 y1 bq5 bq6) n (f318_fr4 a0 a1 y1 q5 q6) (f318_k4 K a0 a1 (realL (f318E K) 0)) = f318_l4 K a0 a1 y1 n q5 q6 := by
  have key : ∀ (lr : LR (List tA)) (L : Fr → Option (List tA)) (q5 : Int) (q6 : List tA), execG (f318E K) 0 lr (selC f318C [1, 1, 1, 0, 1, 0, 0]) (f318_fr4 a0 a1 y1 q5 q6) (loopK 0 (f318_fr4 a0 a1 y1 bq5 bq6) L (f318_k4 K a0 a1 lr)) = f318_b4 K a0 a1 y1 (fun v0 v1 => L (f318_fr4 a0 a1 y1 v0 v1)) q5 q6 := by
    intro lr L q5 q6; kernel_rfl
  intro n q5 q6
  refine loopN_iter (X := Int × List tA) (frame := fun x => (f318_fr4 a0 a1 y1 x.1 x.2)) (body := (fun L x => (fun L4 => f318_b4 K a0 a1 y1 L4 x.1 x.2) (fun v0 v1 => L (v0, v1)))) (fun L x => ?_) n (q5, q6)
  rw [exec_G]
  exact (key (realL (f318E K) 0) L x.1 x.2).trans (by rfl)
theorem f318_run (K : Nat) (a0 : Int) (a1 : Int × Int × Int) : runF (f318E K) Tryz.f318 [(.ro, sI), (.ro, sL)] [(.list 93 sA)] (a0, a1, ()) = f318G K a0 a1 := by
  have key : ∀ (lr : LR (List tA)), runG (f318E K) Tryz.f318 [(.ro, sI), (.ro, sL)] [(.list 93 sA)] (a0, a1, ()) lr = f318_g K a0 a1 (fun c0 d0 d1 => lr (selC f318C [1, 1, 1, 0, 1, 0, 0]) (f318_fr4 a0 a1 c0 d0 d1) (f318_k4 K a0 a1 lr)) := by intro lr; kernel_rfl
  have h4 : (fun c0 d0 d1 => (realL (f318E K) 0) (selC f318C [1, 1, 1, 0, 1, 0, 0]) (f318_fr4 a0 a1 c0 d0 d1) (f318_k4 K a0 a1 (realL (f318E K) 0))) = fun c0 d0 d1 => f318_l4 K a0 a1 c0 K d0 d1 := by
    funext c0 d0 d1
    exact f318_t4 K a0 a1 c0 d0 d1 K d0 d1
  exact runF_G (n0 := 0) (by rfl) ((key (realL (f318E K) 0)).trans (by rw [h4] <;> rfl))
theorem f309_run (K : Nat) (a0 : (List Int) × Int × Int) (a1 : Int) (a2 : Int × Int × Int) : runP (f309E K) Tryz.f309 5 (.int .u8) sV [(.ro, sI), (.ro, sL)] [sM] (a0, a1, a2, ()) = f309G K a0 a1 a2 := by kernel_rfl
theorem f302_t7 (K : Nat) (a0 : (List Int) × Int × Int) (y1 : tV × Int × Int × Int × Int) (y2 bq8 bq9 bq10 : Int) (bq11 : List tM) : ∀ (n : Nat) (q8 q9 q10 : Int) (q11 : List tM), loopN (exec (f302E K) 1 (selC f302C [1, 1, 1, 0, 1, 0, 0, 1, 0, 0])) 1 (f302_fr7 a0 y1 y2 bq8 bq9 bq10 bq11) n (f302_fr7 a0 y1 y2 q8 q9 q10 q11) (f302_k7 K a0 (realL (f302E K) 1)) = f302_l7 K a0 y1 y2 n q8 q9 q10 q11 := by
  have key : ∀ (lr : LR (tV × Int × tL × List tM)) (L : Fr → Option (tV × Int × tL × List tM)) (q8 q9 q10 : Int) (q11 : List tM), execG (f302E K) 1 lr (selC f302C [1, 1, 1, 0, 1, 0, 0, 1, 0, 0]) (f302_fr7 a0 y1 y2 q8 q9 q10 q11) (loopK 1 (f302_fr7 a0 y1 y2 bq8 bq9 bq10 bq11) L (f302_k7 K a0 lr)) = f302_b7 K a0 y1 y2 (fun v0 v1 v2 v3 => L (f302_fr7 a0 y1 y2 v0 v1 v2 v3)) q8 q9 q10 q11 := by
    intro lr L q8 q9 q10 q11; kernel_rfl
  intro n q8 q9 q10 q11
  refine loopN_iter (X := Int × Int × Int × List tM) (frame := fun x => (f302_fr7 a0 y1 y2 x.1 x.2.1 x.2.2.1 x.2.2.2)) (body := (fun L x => (fun L7 => f302_b7 K a0 y1 y2 L7 x.1 x.2.1 x.2.2.1 x.2.2.2) (fun v0 v1 v2 v3 => L (v0, v1, v2, v3)))) (fun L x => ?_) n (q8, q9, q10, q11)
  rw [exec_G]
  exact (key (realL (f302E K) 1) L x.1 x.2.1 x.2.2.1 x.2.2.2).trans (by rfl)
theorem f302_run (K : Nat) (a0 : (List Int) × Int × Int) : runP (f302E K) Tryz.f302 5 (.int .u8) sV [] [sI, sL, (.list 95 sM)] (a0, ()) = f302G K a0 := by
  have key : ∀ (lr : LR (tV × Int × tL × List tM)), runPG (f302E K) Tryz.f302 5 (.int .u8) sV [] [sI, sL, (.list 95 sM)] (a0, ()) lr = f302_g K a0 (fun c0 c1 d0 d1 d2 d3 => lr (selC f302C [1, 1, 1, 0, 1, 0, 0, 1, 0, 0]) (f302_fr7 a0 c0 c1 d0 d1 d2 d3) (f302_k7 K a0 lr)) := by intro lr; kernel_rfl
  have h7 : (fun c0 c1 d0 d1 d2 d3 => (realL (f302E K) 1) (selC f302C [1, 1, 1, 0, 1, 0, 0, 1, 0, 0]) (f302_fr7 a0 c0 c1 d0 d1 d2 d3) (f302_k7 K a0 (realL (f302E K) 1))) = fun c0 c1 d0 d1 d2 d3 => f302_l7 K a0 c0 c1 K d0 d1 d2 d3 := by
    funext c0 c1 d0 d1 d2 d3
    exact f302_t7 K a0 c0 c1 d0 d1 d2 d3 K d0 d1 d2 d3
  exact runP_G (n0 := 1) (by rfl) ((key (realL (f302E K) 1)).trans (by rw [h7] <;> rfl))
theorem f277_run (K : Nat) (a0 : (List Int) × Int × Int) : runP (f277E K) Tryz.f277 5 (.int .u8) sV [] [sI, sL, (.list 95 sM)] (a0, ()) = f277G K a0 := by kernel_rfl
theorem f211_run (K : Nat) (a0 : Int × Int) : runF (f211E K) Tryz.f211 [(.ro, sV)] [.bool] (a0, ()) = f211G K a0 := by kernel_rfl
theorem f402_run (K : Nat) (a0 : Int × Int × Int × Int) : runF (f402E K) Tryz.f402 [(.ro, sA)] [.bool] (a0, ()) = f402G K a0 := by kernel_rfl
theorem f403_run (K : Nat) (a0 : Int × Int × Int × Int) : runF (f403E K) Tryz.f403 [(.ro, sA)] [sI] (a0, ()) = f403G K a0 := by kernel_rfl
theorem f361_run (K : Nat) (a0 : Int × Int × Int × Int) : runF (f361E K) Tryz.f361 [(.ro, sA)] [.bool] (a0, ()) = f361G K a0 := by kernel_rfl
theorem f312_run (K : Nat) (a0 : Int) (a1 : Int × Int × Int × Int) : runF (f312E K) Tryz.f312 [(.ro, sI), (.ro, sA)] [.bool] (a0, a1, ()) = f312G K a0 a1 := by kernel_rfl
theorem f226_run (K : Nat) (a0 : Int) (a1 : Int × Int × Int) (a2 : tA × Int × Int) : runF (f226E K) Tryz.f226 [(.ro, sI), (.ro, sL), (.ro, sM)] [.bool] (a0, a1, a2, ()) = f226G K a0 a1 a2 := by kernel_rfl
theorem f219_t25 (K : Nat) (a0 : Int) (a1 : Int × Int × Int) (a2 : List tM) (q7 y1 : Int) (y12 : Bool) (q24 : Int) (F23 : Fr → Option Bool) (bq24 bq26 : Int) : ∀ (n : Nat) (q26 : Int), loopN (exec (f219E K) 1 (selC f219C [1, 1, 1, 1, 0, 1, 0, 0, 1, 0, 0, 1, 0, 0])) 1 (f219_fr25 a0 a1 a2 q7 q24 y1 y12 bq26) n (f219_fr25 a0 a1 a2 q7 q24 y1 y12 q26) (f219_k25 K a0 a1 a2 q7 y1 y12 F23 bq24 (realL (f219E K) 1)) = f219_l25 K a0 a1 a2 q7 q24 y1 y12 (fun v0 => F23 (f219_fr23 a0 a1 a2 q7 y1 y12 v0)) n q26 := by
  have key : ∀ (lr : LR Bool) (L : Fr → Option Bool) (q26 : Int), execG (f219E K) 1 lr (selC f219C [1, 1, 1, 1, 0, 1, 0, 0, 1, 0, 0, 1, 0, 0]) (f219_fr25 a0 a1 a2 q7 q24 y1 y12 q26) (loopK 1 (f219_fr25 a0 a1 a2 q7 q24 y1 y12 bq26) L (f219_k25 K a0 a1 a2 q7 y1 y12 F23 bq24 lr)) = f219_b25 K a0 a1 a2 q7 q24 y1 y12 (fun v0 => F23 (f219_fr23 a0 a1 a2 q7 y1 y12 v0)) (fun v0 => L (f219_fr25 a0 a1 a2 q7 q24 y1 y12 v0)) q26 := by
    intro lr L q26; kernel_rfl
  intro n q26
  refine loopN_iter (X := Int) (frame := fun x => (f219_fr25 a0 a1 a2 q7 q24 y1 y12 x)) (body := (fun L x => (fun L25 => f219_b25 K a0 a1 a2 q7 q24 y1 y12 (fun v0 => F23 (f219_fr23 a0 a1 a2 q7 y1 y12 v0)) L25 x) (fun v0 => L v0))) (fun L x => ?_) n q26
  rw [exec_G]
  exact (key (realL (f219E K) 1) L x).trans (by rfl)
theorem f219_t23 (K : Nat) (a0 : Int) (a1 : Int × Int × Int) (a2 : List tM) (q7 y1 : Int) (y12 : Bool) (bq24 : Int) : ∀ (n : Nat) (q24 : Int), loopN (exec (f219E K) 1 (selC f219C [1, 1, 1, 1, 0, 1, 0, 0])) 1 (f219_fr23 a0 a1 a2 q7 y1 y12 bq24) n (f219_fr23 a0 a1 a2 q7 y1 y12 q24) (f219_k23 K a0 a1 a2 (realL (f219E K) 1)) = f219_l23 K a0 a1 a2 q7 y1 y12 n q24 := by
  have key : ∀ (lr : LR Bool) (L : Fr → Option Bool) (q24 : Int), execG (f219E K) 1 lr (selC f219C [1, 1, 1, 1, 0, 1, 0, 0]) (f219_fr23 a0 a1 a2 q7 y1 y12 q24) (loopK 1 (f219_fr23 a0 a1 a2 q7 y1 y12 bq24) L (f219_k23 K a0 a1 a2 lr)) = f219_b23 K a0 a1 a2 q7 y1 y12 (fun c0 d0 => lr (selC f219C [1, 1, 1, 1, 0, 1, 0, 0, 1, 0, 0, 1, 0, 0]) (f219_fr25 a0 a1 a2 q7 c0 y1 y12 d0) (f219_k25 K a0 a1 a2 q7 y1 y12 L bq24 lr)) (fun v0 => L (f219_fr23 a0 a1 a2 q7 y1 y12 v0)) q24 := by
    intro lr L q24; kernel_rfl
  intro n q24
  refine loopN_iter (X := Int) (frame := fun x => (f219_fr23 a0 a1 a2 q7 y1 y12 x)) (body := (fun L x => (fun L23 => f219_b23 K a0 a1 a2 q7 y1 y12 (fun c0 d0 => f219_l25 K a0 a1 a2 q7 c0 y1 y12 L23 K d0) L23 x) (fun v0 => L v0))) (fun L x => ?_) n q24
  rw [exec_G]
  have h25 : (fun c0 d0 => (realL (f219E K) 1) (selC f219C [1, 1, 1, 1, 0, 1, 0, 0, 1, 0, 0, 1, 0, 0]) (f219_fr25 a0 a1 a2 q7 c0 y1 y12 d0) (f219_k25 K a0 a1 a2 q7 y1 y12 L bq24 (realL (f219E K) 1))) = fun c0 d0 => f219_l25 K a0 a1 a2 q7 c0 y1 y12 (fun v0 => L (f219_fr23 a0 a1 a2 q7 y1 y12 v0)) K d0 := by
    funext c0 d0
    exact f219_t25 K a0 a1 a2 q7 y1 y12 c0 L bq24 d0 K d0
  exact (key (realL (f219E K) 1) L x).trans (by rw [h25] <;> rfl)
theorem f219_t6 (K : Nat) (a0 : Int) (a1 : Int × Int × Int) (a2 : List tM) (y1 bq7 : Int) : ∀ (n : Nat) (q7 : Int), loopN (exec (f219E K) 1 (selC f219C [1, 1, 0, 1, 0, 0])) 1 (f219_fr6 a0 a1 a2 y1 bq7) n (f219_fr6 a0 a1 a2 y1 q7) (f219_k6 K a0 a1 a2 (realL (f219E K) 1)) = f219_l6 K a0 a1 a2 y1 n q7 := by
  have key : ∀ (lr : LR Bool) (L : Fr → Option Bool) (q7 : Int), execG (f219E K) 1 lr (selC f219C [1, 1, 0, 1, 0, 0]) (f219_fr6 a0 a1 a2 y1 q7) (loopK 1 (f219_fr6 a0 a1 a2 y1 bq7) L (f219_k6 K a0 a1 a2 lr)) = f219_b6 K a0 a1 a2 y1 (fun c0 c1 c2 d0 => lr (selC f219C [1, 1, 1, 1, 0, 1, 0, 0]) (f219_fr23 a0 a1 a2 c0 c1 c2 d0) (f219_k23 K a0 a1 a2 lr)) (fun v0 => L (f219_fr6 a0 a1 a2 y1 v0)) q7 := by
    intro lr L q7; kernel_rfl
  intro n q7
  refine loopN_iter (X := Int) (frame := fun x => (f219_fr6 a0 a1 a2 y1 x)) (body := (fun L x => (fun L6 => f219_b6 K a0 a1 a2 y1 (fun c0 c1 c2 d0 => f219_l23 K a0 a1 a2 c0 c1 c2 K d0) L6 x) (fun v0 => L v0))) (fun L x => ?_) n q7
  rw [exec_G]
  have h23 : (fun c0 c1 c2 d0 => (realL (f219E K) 1) (selC f219C [1, 1, 1, 1, 0, 1, 0, 0]) (f219_fr23 a0 a1 a2 c0 c1 c2 d0) (f219_k23 K a0 a1 a2 (realL (f219E K) 1))) = fun c0 c1 c2 d0 => f219_l23 K a0 a1 a2 c0 c1 c2 K d0 := by
    funext c0 c1 c2 d0
    exact f219_t23 K a0 a1 a2 c0 c1 c2 d0 K d0
  exact (key (realL (f219E K) 1) L x).trans (by rw [h23] <;> rfl)
theorem f219_run (K : Nat) (a0 : Int) (a1 : Int × Int × Int) (a2 : List tM) : runF (f219E K) Tryz.f219 [(.ro, sI), (.ro, sL), (.ro, (.list 95 sM))] [.bool] (a0, a1, a2, ()) = f219G K a0 a1 a2 := by
  have key : ∀ (lr : LR Bool), runG (f219E K) Tryz.f219 [(.ro, sI), (.ro, sL), (.ro, (.list 95 sM))] [.bool] (a0, a1, a2, ()) lr = f219_g K a0 a1 a2 (fun c0 d0 => lr (selC f219C [1, 1, 0, 1, 0, 0]) (f219_fr6 a0 a1 a2 c0 d0) (f219_k6 K a0 a1 a2 lr)) := by intro lr; kernel_rfl
  have h6 : (fun c0 d0 => (realL (f219E K) 1) (selC f219C [1, 1, 0, 1, 0, 0]) (f219_fr6 a0 a1 a2 c0 d0) (f219_k6 K a0 a1 a2 (realL (f219E K) 1))) = fun c0 d0 => f219_l6 K a0 a1 a2 c0 K d0 := by
    funext c0 d0
    exact f219_t6 K a0 a1 a2 c0 d0 K d0
  exact runF_G (n0 := 1) (by rfl) ((key (realL (f219E K) 1)).trans (by rw [h6] <;> rfl))
theorem f225_run (K : Nat) (a0 : Int) (a1 : Int × Int × Int) (a2 : Bool) : runF (f225E K) Tryz.f225 [(.ro, sI), (.ro, sL), (.ro, .bool)] [sI] (a0, a1, a2, ()) = f225G K a0 a1 a2 := by kernel_rfl
theorem f166_run (K : Nat) (a0 : Int) (a1 : Int × Int × Int) (a2 : List tM) (a3 : Bool) : runF (f166E K) Tryz.f166 [(.ro, sI), (.ro, sL), (.ro, (.list 95 sM)), (.ro, .bool)] [sI] (a0, a1, a2, a3, ()) = f166G K a0 a1 a2 a3 := by kernel_rfl
theorem f232_t9 (K : Nat) (a0 : Int × Int × Int) (q7 : Int) (F6 : Fr → Option (List tV)) (bq7 : Int) (bq8 : List tV) (bq10 : Int) (bq11 : List tV) : ∀ (n : Nat) (q10 : Int) (q11 : List tV), loopN (exec (f232E K) 0 (selC f232C [1, 1, 0, 1, 0, 0, 1, 0, 0, 1, 0, 0])) 0 (f232_fr9 a0 q7 bq10 bq11) n (f232_fr9 a0 q7 q10 q11) (f232_k9 K a0 F6 bq7 bq8 (realL (f232E K) 0)) = f232_l9 K a0 q7 (fun v0 v1 => F6 (f232_fr6 a0 v0 v1)) n q10 q11 := by
  have key : ∀ (lr : LR (List tV)) (L : Fr → Option (List tV)) (q10 : Int) (q11 : List tV), execG (f232E K) 0 lr (selC f232C [1, 1, 0, 1, 0, 0, 1, 0, 0, 1, 0, 0]) (f232_fr9 a0 q7 q10 q11) (loopK 0 (f232_fr9 a0 q7 bq10 bq11) L (f232_k9 K a0 F6 bq7 bq8 lr)) = f232_b9 K a0 q7 (fun v0 v1 => F6 (f232_fr6 a0 v0 v1)) (fun v0 v1 => L (f232_fr9 a0 q7 v0 v1)) q10 q11 := by
    intro lr L q10 q11; kernel_rfl
  intro n q10 q11
  refine loopN_iter (X := Int × List tV) (frame := fun x => (f232_fr9 a0 q7 x.1 x.2)) (body := (fun L x => (fun L9 => f232_b9 K a0 q7 (fun v0 v1 => F6 (f232_fr6 a0 v0 v1)) L9 x.1 x.2) (fun v0 v1 => L (v0, v1)))) (fun L x => ?_) n (q10, q11)
  rw [exec_G]
  exact (key (realL (f232E K) 0) L x.1 x.2).trans (by rfl)
theorem f232_t6 (K : Nat) (a0 : Int × Int × Int) (bq7 : Int) (bq8 : List tV) : ∀ (n : Nat) (q7 : Int) (q8 : List tV), loopN (exec (f232E K) 0 (selC f232C [1, 1, 0, 1, 0, 0])) 0 (f232_fr6 a0 bq7 bq8) n (f232_fr6 a0 q7 q8) (f232_k6 K a0 (realL (f232E K) 0)) = f232_l6 K a0 n q7 q8 := by
  have key : ∀ (lr : LR (List tV)) (L : Fr → Option (List tV)) (q7 : Int) (q8 : List tV), execG (f232E K) 0 lr (selC f232C [1, 1, 0, 1, 0, 0]) (f232_fr6 a0 q7 q8) (loopK 0 (f232_fr6 a0 bq7 bq8) L (f232_k6 K a0 lr)) = f232_b6 K a0 (fun c0 d0 d1 => lr (selC f232C [1, 1, 0, 1, 0, 0, 1, 0, 0, 1, 0, 0]) (f232_fr9 a0 c0 d0 d1) (f232_k9 K a0 L bq7 bq8 lr)) (fun v0 v1 => L (f232_fr6 a0 v0 v1)) q7 q8 := by
    intro lr L q7 q8; kernel_rfl
  intro n q7 q8
  refine loopN_iter (X := Int × List tV) (frame := fun x => (f232_fr6 a0 x.1 x.2)) (body := (fun L x => (fun L6 => f232_b6 K a0 (fun c0 d0 d1 => f232_l9 K a0 c0 L6 K d0 d1) L6 x.1 x.2) (fun v0 v1 => L (v0, v1)))) (fun L x => ?_) n (q7, q8)
  rw [exec_G]
  have h9 : (fun c0 d0 d1 => (realL (f232E K) 0) (selC f232C [1, 1, 0, 1, 0, 0, 1, 0, 0, 1, 0, 0]) (f232_fr9 a0 c0 d0 d1) (f232_k9 K a0 L bq7 bq8 (realL (f232E K) 0))) = fun c0 d0 d1 => f232_l9 K a0 c0 (fun v0 v1 => L (f232_fr6 a0 v0 v1)) K d0 d1 := by
    funext c0 d0 d1
    exact f232_t9 K a0 c0 L bq7 bq8 d0 d1 K d0 d1
  exact (key (realL (f232E K) 0) L x.1 x.2).trans (by rw [h9] <;> rfl)
theorem f232_run (K : Nat) (a0 : Int × Int × Int) : runF (f232E K) Tryz.f232 [(.ro, sL)] [(.list 79 sV)] (a0, ()) = f232G K a0 := by
  have key : ∀ (lr : LR (List tV)), runG (f232E K) Tryz.f232 [(.ro, sL)] [(.list 79 sV)] (a0, ()) lr = f232_g K a0 (fun d0 d1 => lr (selC f232C [1, 1, 0, 1, 0, 0]) (f232_fr6 a0 d0 d1) (f232_k6 K a0 lr)) := by intro lr; kernel_rfl
  have h6 : (fun d0 d1 => (realL (f232E K) 0) (selC f232C [1, 1, 0, 1, 0, 0]) (f232_fr6 a0 d0 d1) (f232_k6 K a0 (realL (f232E K) 0))) = fun d0 d1 => f232_l6 K a0 K d0 d1 := by
    funext d0 d1
    exact f232_t6 K a0 d0 d1 K d0 d1
  exact runF_G (n0 := 0) (by rfl) ((key (realL (f232E K) 0)).trans (by rw [h6] <;> rfl))
theorem f284_run (K : Nat) (a0 : tA × Int × Int) (a1 : Int × Int) : runF (f284E K) Tryz.f284 [(.ro, sM), (.ro, sV)] [sV] (a0, a1, ()) = f284G K a0 a1 := by kernel_rfl
theorem f185_run (K : Nat) (a0 : Int × Int × Int) (a1 : tA × Int × Int) (a2 : Int × Int) : runF (f185E K) Tryz.f185 [(.ro, sL), (.ro, sM), (.ro, sV)] [sV] (a0, a1, a2, ()) = f185G K a0 a1 a2 := by kernel_rfl
theorem f280_t3 (K : Nat) (a0 : List tV) (a1 : Int × Int) (bq4 : Int) : ∀ (n : Nat) (q4 : Int), loopN (exec (f280E K) 1 (selC f280C [1, 1, 0, 0, 0])) 1 (f280_fr3 a0 a1 bq4) n (f280_fr3 a0 a1 q4) (f280_k3 K a0 a1 (realL (f280E K) 1)) = f280_l3 K a0 a1 n q4 := by
  have key : ∀ (lr : LR (List tV)) (L : Fr → Option (List tV)) (q4 : Int), execG (f280E K) 1 lr (selC f280C [1, 1, 0, 0, 0]) (f280_fr3 a0 a1 q4) (loopK 1 (f280_fr3 a0 a1 bq4) L (f280_k3 K a0 a1 lr)) = f280_b3 K a0 a1 (fun v0 => L (f280_fr3 a0 a1 v0)) q4 := by
    intro lr L q4; kernel_rfl
  intro n q4
  refine loopN_iter (X := Int) (frame := fun x => (f280_fr3 a0 a1 x)) (body := (fun L x => (fun L3 => f280_b3 K a0 a1 L3 x) (fun v0 => L v0))) (fun L x => ?_) n q4
  rw [exec_G]
  exact (key (realL (f280E K) 1) L x).trans (by rfl)
theorem f280_run (K : Nat) (a0 : List tV) (a1 : Int × Int) : runF (f280E K) Tryz.f280 [(.mv, (.list 79 sV)), (.ro, sV)] [(.list 79 sV)] (a0, a1, ()) = f280G K a0 a1 := by
  have key : ∀ (lr : LR (List tV)), runG (f280E K) Tryz.f280 [(.mv, (.list 79 sV)), (.ro, sV)] [(.list 79 sV)] (a0, a1, ()) lr = f280_g K a0 a1 (fun d0 => lr (selC f280C [1, 1, 0, 0, 0]) (f280_fr3 a0 a1 d0) (f280_k3 K a0 a1 lr)) := by intro lr; kernel_rfl
  have h3 : (fun d0 => (realL (f280E K) 1) (selC f280C [1, 1, 0, 0, 0]) (f280_fr3 a0 a1 d0) (f280_k3 K a0 a1 (realL (f280E K) 1))) = fun d0 => f280_l3 K a0 a1 K d0 := by
    funext d0
    exact f280_t3 K a0 a1 d0 K d0
  exact runF_G (n0 := 1) (by rfl) ((key (realL (f280E K) 1)).trans (by rw [h3] <;> rfl))
theorem f247_t4 (K : Nat) (a0 : Int × Int × Int) (a1 : List tM) (a2 : Int × Int) (bq5 : Int) (bq6 : List tV) : ∀ (n : Nat) (q5 : Int) (q6 : List tV), loopN (exec (f247E K) 1 (selC f247C [1, 1, 0, 1, 0, 0])) 1 (f247_fr4 a0 a1 a2 bq5 bq6) n (f247_fr4 a0 a1 a2 q5 q6) (f247_k4 K a0 a1 a2 (realL (f247E K) 1)) = f247_l4 K a0 a1 a2 n q5 q6 := by
  have key : ∀ (lr : LR (List tV)) (L : Fr → Option (List tV)) (q5 : Int) (q6 : List tV), execG (f247E K) 1 lr (selC f247C [1, 1, 0, 1, 0, 0]) (f247_fr4 a0 a1 a2 q5 q6) (loopK 1 (f247_fr4 a0 a1 a2 bq5 bq6) L (f247_k4 K a0 a1 a2 lr)) = f247_b4 K a0 a1 a2 (fun v0 v1 => L (f247_fr4 a0 a1 a2 v0 v1)) q5 q6 := by
    intro lr L q5 q6; kernel_rfl
  intro n q5 q6
  refine loopN_iter (X := Int × List tV) (frame := fun x => (f247_fr4 a0 a1 a2 x.1 x.2)) (body := (fun L x => (fun L4 => f247_b4 K a0 a1 a2 L4 x.1 x.2) (fun v0 v1 => L (v0, v1)))) (fun L x => ?_) n (q5, q6)
  rw [exec_G]
  exact (key (realL (f247E K) 1) L x.1 x.2).trans (by rfl)
theorem f247_run (K : Nat) (a0 : Int × Int × Int) (a1 : List tM) (a2 : Int × Int) : runF (f247E K) Tryz.f247 [(.ro, sL), (.ro, (.list 95 sM)), (.ro, sV)] [(.list 79 sV)] (a0, a1, a2, ()) = f247G K a0 a1 a2 := by
  have key : ∀ (lr : LR (List tV)), runG (f247E K) Tryz.f247 [(.ro, sL), (.ro, (.list 95 sM)), (.ro, sV)] [(.list 79 sV)] (a0, a1, a2, ()) lr = f247_g K a0 a1 a2 (fun d0 d1 => lr (selC f247C [1, 1, 0, 1, 0, 0]) (f247_fr4 a0 a1 a2 d0 d1) (f247_k4 K a0 a1 a2 lr)) := by intro lr; kernel_rfl
  have h4 : (fun d0 d1 => (realL (f247E K) 1) (selC f247C [1, 1, 0, 1, 0, 0]) (f247_fr4 a0 a1 a2 d0 d1) (f247_k4 K a0 a1 a2 (realL (f247E K) 1))) = fun d0 d1 => f247_l4 K a0 a1 a2 K d0 d1 := by
    funext d0 d1
    exact f247_t4 K a0 a1 a2 d0 d1 K d0 d1
  exact runF_G (n0 := 1) (by rfl) ((key (realL (f247E K) 1)).trans (by rw [h4] <;> rfl))
theorem f135_t4 (K : Nat) (a0 : Int × Int × Int) (a1 : List tM) (y1 : List tV) (bq5 : Int) (bq6 : List (List tV)) : ∀ (n : Nat) (q5 : Int) (q6 : List (List tV)), loopN (exec (f135E K) 1 (selC f135C [1, 1, 1, 0, 1, 0, 0])) 1 (f135_fr4 a0 a1 y1 bq5 bq6) n (f135_fr4 a0 a1 y1 q5 q6) (f135_k4 K a0 a1 (realL (f135E K) 1)) = f135_l4 K a0 a1 y1 n q5 q6 := by
  have key : ∀ (lr : LR (List (List tV))) (L : Fr → Option (List (List tV))) (q5 : Int) (q6 : List (List tV)), execG (f135E K) 1 lr (selC f135C [1, 1, 1, 0, 1, 0, 0]) (f135_fr4 a0 a1 y1 q5 q6) (loopK 1 (f135_fr4 a0 a1 y1 bq5 bq6) L (f135_k4 K a0 a1 lr)) = f135_b4 K a0 a1 y1 (fun v0 v1 => L (f135_fr4 a0 a1 y1 v0 v1)) q5 q6 := by
    intro lr L q5 q6; kernel_rfl
  intro n q5 q6
  refine loopN_iter (X := Int × List (List tV)) (frame := fun x => (f135_fr4 a0 a1 y1 x.1 x.2)) (body := (fun L x => (fun L4 => f135_b4 K a0 a1 y1 L4 x.1 x.2) (fun v0 v1 => L (v0, v1)))) (fun L x => ?_) n (q5, q6)
  rw [exec_G]
  exact (key (realL (f135E K) 1) L x.1 x.2).trans (by rfl)
theorem f135_run (K : Nat) (a0 : Int × Int × Int) (a1 : List tM) : runF (f135E K) Tryz.f135 [(.ro, sL), (.ro, (.list 95 sM))] [(.list 84 (.list 79 sV))] (a0, a1, ()) = f135G K a0 a1 := by
  have key : ∀ (lr : LR (List (List tV))), runG (f135E K) Tryz.f135 [(.ro, sL), (.ro, (.list 95 sM))] [(.list 84 (.list 79 sV))] (a0, a1, ()) lr = f135_g K a0 a1 (fun c0 d0 d1 => lr (selC f135C [1, 1, 1, 0, 1, 0, 0]) (f135_fr4 a0 a1 c0 d0 d1) (f135_k4 K a0 a1 lr)) := by intro lr; kernel_rfl
  have h4 : (fun c0 d0 d1 => (realL (f135E K) 1) (selC f135C [1, 1, 1, 0, 1, 0, 0]) (f135_fr4 a0 a1 c0 d0 d1) (f135_k4 K a0 a1 (realL (f135E K) 1))) = fun c0 d0 d1 => f135_l4 K a0 a1 c0 K d0 d1 := by
    funext c0 d0 d1
    exact f135_t4 K a0 a1 c0 d0 d1 K d0 d1
  exact runF_G (n0 := 1) (by rfl) ((key (realL (f135E K) 1)).trans (by rw [h4] <;> rfl))
theorem f336_t4 (K : Nat) (a0 : Int) (a1 : Int × Int × Int) (a2 : List tM) (y1 : Int) (y2 : List (List tV)) (bq5 : Int) : ∀ (n : Nat) (q5 : Int), loopN (exec (f336E K) 1 (selC f336C [1, 1, 1, 1, 0, 1, 0, 0])) 1 (f336_fr4 a0 a1 a2 y1 y2 bq5) n (f336_fr4 a0 a1 a2 y1 y2 q5) (f336_k4 K a0 a1 a2 (realL (f336E K) 1)) = f336_l4 K a0 a1 a2 y1 y2 n q5 := by
  have key : ∀ (lr : LR ((List (List tV)) × Int)) (L : Fr → Option ((List (List tV)) × Int)) (q5 : Int), execG (f336E K) 1 lr (selC f336C [1, 1, 1, 1, 0, 1, 0, 0]) (f336_fr4 a0 a1 a2 y1 y2 q5) (loopK 1 (f336_fr4 a0 a1 a2 y1 y2 bq5) L (f336_k4 K a0 a1 a2 lr)) = f336_b4 K a0 a1 a2 y1 y2 (fun v0 => L (f336_fr4 a0 a1 a2 y1 y2 v0)) q5 := by
    intro lr L q5; kernel_rfl
  intro n q5
  refine loopN_iter (X := Int) (frame := fun x => (f336_fr4 a0 a1 a2 y1 y2 x)) (body := (fun L x => (fun L4 => f336_b4 K a0 a1 a2 y1 y2 L4 x) (fun v0 => L v0))) (fun L x => ?_) n q5
  rw [exec_G]
  exact (key (realL (f336E K) 1) L x).trans (by rfl)
theorem f336_run (K : Nat) (a0 : Int) (a1 : Int × Int × Int) (a2 : List tM) : runF (f336E K) Tryz.f336 [(.ro, sI), (.ro, sL), (.ro, (.list 95 sM))] [(.list 84 (.list 79 sV)), sI] (a0, a1, a2, ()) = f336G K a0 a1 a2 := by
  have key : ∀ (lr : LR ((List (List tV)) × Int)), runG (f336E K) Tryz.f336 [(.ro, sI), (.ro, sL), (.ro, (.list 95 sM))] [(.list 84 (.list 79 sV)), sI] (a0, a1, a2, ()) lr = f336_g K a0 a1 a2 (fun c0 c1 d0 => lr (selC f336C [1, 1, 1, 1, 0, 1, 0, 0]) (f336_fr4 a0 a1 a2 c0 c1 d0) (f336_k4 K a0 a1 a2 lr)) := by intro lr; kernel_rfl
  have h4 : (fun c0 c1 d0 => (realL (f336E K) 1) (selC f336C [1, 1, 1, 1, 0, 1, 0, 0]) (f336_fr4 a0 a1 a2 c0 c1 d0) (f336_k4 K a0 a1 a2 (realL (f336E K) 1))) = fun c0 c1 d0 => f336_l4 K a0 a1 a2 c0 c1 K d0 := by
    funext c0 c1 d0
    exact f336_t4 K a0 a1 a2 c0 c1 d0 K d0
  exact runF_G (n0 := 1) (by rfl) ((key (realL (f336E K) 1)).trans (by rw [h4] <;> rfl))
theorem f127_run (K : Nat) (a0 : Int × Int × Int) (a1 : Int × Int) : runF (f127E K) Tryz.f127 [(.ro, sL), (.ro, sV)] [sI] (a0, a1, ()) = f127G K a0 a1 := by kernel_rfl
theorem f126_t12 (K : Nat) (a0 : Int × Int × Int) (a1 : List tM) (y1 : List (List tV)) (q10 : Int) (F9 : Fr → Option (List Int)) (bq10 : Int) (bq11 : List Int) (bq13 : Int) (bq14 : List Int) : ∀ (n : Nat) (q13 : Int) (q14 : List Int), loopN (exec (f126E K) 1 (selC f126C [1, 1, 1, 0, 1, 0, 0, 1, 0, 0, 1, 0, 0])) 1 (f126_fr12 a0 a1 q10 y1 bq13 bq14) n (f126_fr12 a0 a1 q10 y1 q13 q14) (f126_k12 K a0 a1 y1 F9 bq10 bq11 (realL (f126E K) 1)) = f126_l12 K a0 a1 q10 y1 (fun v0 v1 => F9 (f126_fr9 a0 a1 y1 v0 v1)) n q13 q14 := by
  have key : ∀ (lr : LR (List Int)) (L : Fr → Option (List Int)) (q13 : Int) (q14 : List Int), execG (f126E K) 1 lr (selC f126C [1, 1, 1, 0, 1, 0, 0, 1, 0, 0, 1, 0, 0]) (f126_fr12 a0 a1 q10 y1 q13 q14) (loopK 1 (f126_fr12 a0 a1 q10 y1 bq13 bq14) L (f126_k12 K a0 a1 y1 F9 bq10 bq11 lr)) = f126_b12 K a0 a1 q10 y1 (fun v0 v1 => F9 (f126_fr9 a0 a1 y1 v0 v1)) (fun v0 v1 => L (f126_fr12 a0 a1 q10 y1 v0 v1)) q13 q14 := by
    intro lr L q13 q14; kernel_rfl
  intro n q13 q14
  refine loopN_iter (X := Int × List Int) (frame := fun x => (f126_fr12 a0 a1 q10 y1 x.1 x.2)) (body := (fun L x => (fun L12 => f126_b12 K a0 a1 q10 y1 (fun v0 v1 => F9 (f126_fr9 a0 a1 y1 v0 v1)) L12 x.1 x.2) (fun v0 v1 => L (v0, v1)))) (fun L x => ?_) n (q13, q14)
  rw [exec_G]
  exact (key (realL (f126E K) 1) L x.1 x.2).trans (by rfl)
theorem f126_t9 (K : Nat) (a0 : Int × Int × Int) (a1 : List tM) (y1 : List (List tV)) (bq10 : Int) (bq11 : List Int) : ∀ (n : Nat) (q10 : Int) (q11 : List Int), loopN (exec (f126E K) 1 (selC f126C [1, 1, 1, 0, 1, 0, 0])) 1 (f126_fr9 a0 a1 y1 bq10 bq11) n (f126_fr9 a0 a1 y1 q10 q11) (f126_k9 K a0 a1 (realL (f126E K) 1)) = f126_l9 K a0 a1 y1 n q10 q11 := by
  have key : ∀ (lr : LR (List Int)) (L : Fr → Option (List Int)) (q10 : Int) (q11 : List Int), execG (f126E K) 1 lr (selC f126C [1, 1, 1, 0, 1, 0, 0]) (f126_fr9 a0 a1 y1 q10 q11) (loopK 1 (f126_fr9 a0 a1 y1 bq10 bq11) L (f126_k9 K a0 a1 lr)) = f126_b9 K a0 a1 y1 (fun c0 d0 d1 => lr (selC f126C [1, 1, 1, 0, 1, 0, 0, 1, 0, 0, 1, 0, 0]) (f126_fr12 a0 a1 c0 y1 d0 d1) (f126_k12 K a0 a1 y1 L bq10 bq11 lr)) (fun v0 v1 => L (f126_fr9 a0 a1 y1 v0 v1)) q10 q11 := by
    intro lr L q10 q11; kernel_rfl
  intro n q10 q11
  refine loopN_iter (X := Int × List Int) (frame := fun x => (f126_fr9 a0 a1 y1 x.1 x.2)) (body := (fun L x => (fun L9 => f126_b9 K a0 a1 y1 (fun c0 d0 d1 => f126_l12 K a0 a1 c0 y1 L9 K d0 d1) L9 x.1 x.2) (fun v0 v1 => L (v0, v1)))) (fun L x => ?_) n (q10, q11)
  rw [exec_G]
  have h12 : (fun c0 d0 d1 => (realL (f126E K) 1) (selC f126C [1, 1, 1, 0, 1, 0, 0, 1, 0, 0, 1, 0, 0]) (f126_fr12 a0 a1 c0 y1 d0 d1) (f126_k12 K a0 a1 y1 L bq10 bq11 (realL (f126E K) 1))) = fun c0 d0 d1 => f126_l12 K a0 a1 c0 y1 (fun v0 v1 => L (f126_fr9 a0 a1 y1 v0 v1)) K d0 d1 := by
    funext c0 d0 d1
    exact f126_t12 K a0 a1 y1 c0 L bq10 bq11 d0 d1 K d0 d1
  exact (key (realL (f126E K) 1) L x.1 x.2).trans (by rw [h12] <;> rfl)
theorem f126_run (K : Nat) (a0 : Int × Int × Int) (a1 : List tM) : runF (f126E K) Tryz.f126 [(.ro, sL), (.ro, (.list 95 sM))] [(.list 2 sI)] (a0, a1, ()) = f126G K a0 a1 := by
  have key : ∀ (lr : LR (List Int)), runG (f126E K) Tryz.f126 [(.ro, sL), (.ro, (.list 95 sM))] [(.list 2 sI)] (a0, a1, ()) lr = f126_g K a0 a1 (fun c0 d0 d1 => lr (selC f126C [1, 1, 1, 0, 1, 0, 0]) (f126_fr9 a0 a1 c0 d0 d1) (f126_k9 K a0 a1 lr)) := by intro lr; kernel_rfl
  have h9 : (fun c0 d0 d1 => (realL (f126E K) 1) (selC f126C [1, 1, 1, 0, 1, 0, 0]) (f126_fr9 a0 a1 c0 d0 d1) (f126_k9 K a0 a1 (realL (f126E K) 1))) = fun c0 d0 d1 => f126_l9 K a0 a1 c0 K d0 d1 := by
    funext c0 d0 d1
    exact f126_t9 K a0 a1 c0 d0 d1 K d0 d1
  exact runF_G (n0 := 1) (by rfl) ((key (realL (f126E K) 1)).trans (by rw [h9] <;> rfl))
theorem f387_run (K : Nat) : runF (f387E K) Tryz.f387 [] [(.list 79 sV)] (()) = f387G K := by kernel_rfl
theorem f337_t28 (K : Nat) (a0 : Int × Int × Int) (a1 : List Int) (a2 y1 y2 : List tV) (q22 : Int) (q25 : Bool) (q26 y27 : Int) (F21 : Fr → Option (tV × Bool)) (bq22 : Int) (F23 : Fr → Option (tV × Bool)) (bq24 bq25 : Bool) (bq26 : Int) (bq29 : Bool) (bq30 : Int) : ∀ (n : Nat) (q29 : Bool) (q30 : Int), loopN (exec (f337E K) 2 (selC f337C [1, 1, 0, 1, 0, 0, 1, 0, 0, 1, 0, 1, 0, 0, 1, 0, 0, 1, 1, 0, 0])) 2 (f337_fr28 a0 a1 a2 q22 q25 q26 y1 y2 y27 bq29 bq30) n (f337_fr28 a0 a1 a2 q22 q25 q26 y1 y2 y27 q29 q30) (f337_k28 K a0 a1 a2 y1 y2 q22 F21 bq22 F23 bq24 bq25 bq26 (realL (f337E K) 2)) = f337_l28 K a0 a1 a2 q22 q25 q26 y1 y2 y27 (fun v0 v1 v2 => F23 (f337_fr23 a0 a1 a2 q22 y1 y2 v0 v1 v2)) n q29 q30 := by
  have key : ∀ (lr : LR (tV × Bool)) (L : Fr → Option (tV × Bool)) (q29 : Bool) (q30 : Int), execG (f337E K) 2 lr (selC f337C [1, 1, 0, 1, 0, 0, 1, 0, 0, 1, 0, 1, 0, 0, 1, 0, 0, 1, 1, 0, 0]) (f337_fr28 a0 a1 a2 q22 q25 q26 y1 y2 y27 q29 q30) (loopK 2 (f337_fr28 a0 a1 a2 q22 q25 q26 y1 y2 y27 bq29 bq30) L (f337_k28 K a0 a1 a2 y1 y2 q22 F21 bq22 F23 bq24 bq25 bq26 lr)) = f337_b28 K a0 a1 a2 q22 q25 q26 y1 y2 y27 (fun v0 v1 v2 => F23 (f337_fr23 a0 a1 a2 q22 y1 y2 v0 v1 v2)) (fun v0 v1 => L (f337_fr28 a0 a1 a2 q22 q25 q26 y1 y2 y27 v0 v1)) q29 q30 := by
    intro lr L q29 q30; kernel_rfl
  intro n q29 q30
  refine loopN_iter (X := Bool × Int) (frame := fun x => (f337_fr28 a0 a1 a2 q22 q25 q26 y1 y2 y27 x.1 x.2)) (body := (fun L x => (fun L28 => f337_b28 K a0 a1 a2 q22 q25 q26 y1 y2 y27 (fun v0 v1 v2 => F23 (f337_fr23 a0 a1 a2 q22 y1 y2 v0 v1 v2)) L28 x.1 x.2) (fun v0 v1 => L (v0, v1)))) (fun L x => ?_) n (q29, q30)
  rw [exec_G]
  exact (key (realL (f337E K) 2) L x.1 x.2).trans (by rfl)
theorem f337_t23 (K : Nat) (a0 : Int × Int × Int) (a1 : List Int) (a2 y1 y2 : List tV) (q22 : Int) (F21 : Fr → Option (tV × Bool)) (bq22 : Int) (bq24 bq25 : Bool) (bq26 : Int) : ∀ (n : Nat) (q24 q25 : Bool) (q26 : Int), loopN (exec (f337E K) 2 (selC f337C [1, 1, 0, 1, 0, 0, 1, 0, 0, 1, 0, 1, 0, 0])) 2 (f337_fr23 a0 a1 a2 q22 y1 y2 bq24 bq25 bq26) n (f337_fr23 a0 a1 a2 q22 y1 y2 q24 q25 q26) (f337_k23 K a0 a1 a2 y1 y2 F21 bq22 (realL (f337E K) 2)) = f337_l23 K a0 a1 a2 q22 y1 y2 (fun v0 => F21 (f337_fr21 a0 a1 a2 y1 y2 v0)) n q24 q25 q26 := by
  have key : ∀ (lr : LR (tV × Bool)) (L : Fr → Option (tV × Bool)) (q24 q25 : Bool) (q26 : Int), execG (f337E K) 2 lr (selC f337C [1, 1, 0, 1, 0, 0, 1, 0, 0, 1, 0, 1, 0, 0]) (f337_fr23 a0 a1 a2 q22 y1 y2 q24 q25 q26) (loopK 2 (f337_fr23 a0 a1 a2 q22 y1 y2 bq24 bq25 bq26) L (f337_k23 K a0 a1 a2 y1 y2 F21 bq22 lr)) = f337_b23 K a0 a1 a2 q22 y1 y2 (fun c0 c1 c2 d0 d1 => lr (selC f337C [1, 1, 0, 1, 0, 0, 1, 0, 0, 1, 0, 1, 0, 0, 1, 0, 0, 1, 1, 0, 0]) (f337_fr28 a0 a1 a2 q22 c0 c1 y1 y2 c2 d0 d1) (f337_k28 K a0 a1 a2 y1 y2 q22 F21 bq22 L bq24 bq25 bq26 lr)) (fun v0 => F21 (f337_fr21 a0 a1 a2 y1 y2 v0)) (fun v0 v1 v2 => L (f337_fr23 a0 a1 a2 q22 y1 y2 v0 v1 v2)) q24 q25 q26 := by
    intro lr L q24 q25 q26; kernel_rfl
  intro n q24 q25 q26
  refine loopN_iter (X := Bool × Bool × Int) (frame := fun x => (f337_fr23 a0 a1 a2 q22 y1 y2 x.1 x.2.1 x.2.2)) (body := (fun L x => (fun L23 => f337_b23 K a0 a1 a2 q22 y1 y2 (fun c0 c1 c2 d0 d1 => f337_l28 K a0 a1 a2 q22 c0 c1 y1 y2 c2 L23 K d0 d1) (fun v0 => F21 (f337_fr21 a0 a1 a2 y1 y2 v0)) L23 x.1 x.2.1 x.2.2) (fun v0 v1 v2 => L (v0, v1, v2)))) (fun L x => ?_) n (q24, q25, q26)
  rw [exec_G]
  have h28 : (fun c0 c1 c2 d0 d1 => (realL (f337E K) 2) (selC f337C [1, 1, 0, 1, 0, 0, 1, 0, 0, 1, 0, 1, 0, 0, 1, 0, 0, 1, 1, 0, 0]) (f337_fr28 a0 a1 a2 q22 c0 c1 y1 y2 c2 d0 d1) (f337_k28 K a0 a1 a2 y1 y2 q22 F21 bq22 L bq24 bq25 bq26 (realL (f337E K) 2))) = fun c0 c1 c2 d0 d1 => f337_l28 K a0 a1 a2 q22 c0 c1 y1 y2 c2 (fun v0 v1 v2 => L (f337_fr23 a0 a1 a2 q22 y1 y2 v0 v1 v2)) K d0 d1 := by
    funext c0 c1 c2 d0 d1
    exact f337_t28 K a0 a1 a2 y1 y2 q22 c0 c1 c2 F21 bq22 L bq24 bq25 bq26 d0 d1 K d0 d1
  exact (key (realL (f337E K) 2) L x.1 x.2.1 x.2.2).trans (by rw [h28] <;> rfl)
theorem f337_t21 (K : Nat) (a0 : Int × Int × Int) (a1 : List Int) (a2 y1 y2 : List tV) (bq22 : Int) : ∀ (n : Nat) (q22 : Int), loopN (exec (f337E K) 2 (selC f337C [1, 1, 0, 1, 0, 0])) 2 (f337_fr21 a0 a1 a2 y1 y2 bq22) n (f337_fr21 a0 a1 a2 y1 y2 q22) (f337_k21 K a0 a1 a2 (realL (f337E K) 2)) = f337_l21 K a0 a1 a2 y1 y2 n q22 := by
  have key : ∀ (lr : LR (tV × Bool)) (L : Fr → Option (tV × Bool)) (q22 : Int), execG (f337E K) 2 lr (selC f337C [1, 1, 0, 1, 0, 0]) (f337_fr21 a0 a1 a2 y1 y2 q22) (loopK 2 (f337_fr21 a0 a1 a2 y1 y2 bq22) L (f337_k21 K a0 a1 a2 lr)) = f337_b21 K a0 a1 a2 y1 y2 (fun c0 d0 d1 d2 => lr (selC f337C [1, 1, 0, 1, 0, 0, 1, 0, 0, 1, 0, 1, 0, 0]) (f337_fr23 a0 a1 a2 c0 y1 y2 d0 d1 d2) (f337_k23 K a0 a1 a2 y1 y2 L bq22 lr)) (fun v0 => L (f337_fr21 a0 a1 a2 y1 y2 v0)) q22 := by
    intro lr L q22; kernel_rfl
  intro n q22
  refine loopN_iter (X := Int) (frame := fun x => (f337_fr21 a0 a1 a2 y1 y2 x)) (body := (fun L x => (fun L21 => f337_b21 K a0 a1 a2 y1 y2 (fun c0 d0 d1 d2 => f337_l23 K a0 a1 a2 c0 y1 y2 L21 K d0 d1 d2) L21 x) (fun v0 => L v0))) (fun L x => ?_) n q22
  rw [exec_G]
  have h23 : (fun c0 d0 d1 d2 => (realL (f337E K) 2) (selC f337C [1, 1, 0, 1, 0, 0, 1, 0, 0, 1, 0, 1, 0, 0]) (f337_fr23 a0 a1 a2 c0 y1 y2 d0 d1 d2) (f337_k23 K a0 a1 a2 y1 y2 L bq22 (realL (f337E K) 2))) = fun c0 d0 d1 d2 => f337_l23 K a0 a1 a2 c0 y1 y2 (fun v0 => L (f337_fr21 a0 a1 a2 y1 y2 v0)) K d0 d1 d2 := by
    funext c0 d0 d1 d2
    exact f337_t23 K a0 a1 a2 y1 y2 c0 L bq22 d0 d1 d2 K d0 d1 d2
  exact (key (realL (f337E K) 2) L x).trans (by rw [h23] <;> rfl)
theorem f337_run (K : Nat) (a0 : Int × Int × Int) (a1 : List Int) (a2 : List tV) : runF (f337E K) Tryz.f337 [(.ro, sL), (.ro, (.list 2 sI)), (.ro, (.list 79 sV))] [sV, .bool] (a0, a1, a2, ()) = f337G K a0 a1 a2 := by
  have key : ∀ (lr : LR (tV × Bool)), runG (f337E K) Tryz.f337 [(.ro, sL), (.ro, (.list 2 sI)), (.ro, (.list 79 sV))] [sV, .bool] (a0, a1, a2, ()) lr = f337_g K a0 a1 a2 (fun c0 c1 d0 => lr (selC f337C [1, 1, 0, 1, 0, 0]) (f337_fr21 a0 a1 a2 c0 c1 d0) (f337_k21 K a0 a1 a2 lr)) := by intro lr; kernel_rfl
  have h21 : (fun c0 c1 d0 => (realL (f337E K) 2) (selC f337C [1, 1, 0, 1, 0, 0]) (f337_fr21 a0 a1 a2 c0 c1 d0) (f337_k21 K a0 a1 a2 (realL (f337E K) 2))) = fun c0 c1 d0 => f337_l21 K a0 a1 a2 c0 c1 K d0 := by
    funext c0 c1 d0
    exact f337_t21 K a0 a1 a2 c0 c1 d0 K d0
  exact runF_G (n0 := 2) (by rfl) ((key (realL (f337E K) 2)).trans (by rw [h21] <;> rfl))
theorem f278_t6 (K : Nat) (a0 : Int) (a1 : Int × Int × Int) (a2 : List tM) (y1 : (List (List tV)) × Int) (y2 : List Int) (bq7 : List tV) : ∀ (n : Nat) (q7 : List tV), loopN (exec (f278E K) 1 (selC f278C [1, 1, 1, 1, 1, 0, 0, 0])) 1 (f278_fr6 a0 a1 a2 y1 y2 bq7) n (f278_fr6 a0 a1 a2 y1 y2 q7) (f278_k6 K a0 a1 a2 (realL (f278E K) 1)) = f278_l6 K a0 a1 a2 y1 y2 n q7 := by
  have key : ∀ (lr : LR ((List tV) × Int)) (L : Fr → Option ((List tV) × Int)) (q7 : List tV), execG (f278E K) 1 lr (selC f278C [1, 1, 1, 1, 1, 0, 0, 0]) (f278_fr6 a0 a1 a2 y1 y2 q7) (loopK 1 (f278_fr6 a0 a1 a2 y1 y2 bq7) L (f278_k6 K a0 a1 a2 lr)) = f278_b6 K a0 a1 a2 y1 y2 (fun v0 => L (f278_fr6 a0 a1 a2 y1 y2 v0)) q7 := by
    intro lr L q7; kernel_rfl
  intro n q7
  refine loopN_iter (X := List tV) (frame := fun x => (f278_fr6 a0 a1 a2 y1 y2 x)) (body := (fun L x => (fun L6 => f278_b6 K a0 a1 a2 y1 y2 L6 x) (fun v0 => L v0))) (fun L x => ?_) n q7
  rw [exec_G]
  exact (key (realL (f278E K) 1) L x).trans (by rfl)
theorem f278_run (K : Nat) (a0 : Int) (a1 : Int × Int × Int) (a2 : List tM) : runF (f278E K) Tryz.f278 [(.ro, sI), (.ro, sL), (.ro, (.list 95 sM))] [(.list 79 sV), sI] (a0, a1, a2, ()) = f278G K a0 a1 a2 := by
  have key : ∀ (lr : LR ((List tV) × Int)), runG (f278E K) Tryz.f278 [(.ro, sI), (.ro, sL), (.ro, (.list 95 sM))] [(.list 79 sV), sI] (a0, a1, a2, ()) lr = f278_g K a0 a1 a2 (fun c0 c1 d0 => lr (selC f278C [1, 1, 1, 1, 1, 0, 0, 0]) (f278_fr6 a0 a1 a2 c0 c1 d0) (f278_k6 K a0 a1 a2 lr)) := by intro lr; kernel_rfl
  have h6 : (fun c0 c1 d0 => (realL (f278E K) 1) (selC f278C [1, 1, 1, 1, 1, 0, 0, 0]) (f278_fr6 a0 a1 a2 c0 c1 d0) (f278_k6 K a0 a1 a2 (realL (f278E K) 1))) = fun c0 c1 d0 => f278_l6 K a0 a1 a2 c0 c1 K d0 := by
    funext c0 c1 d0
    exact f278_t6 K a0 a1 a2 c0 c1 d0 K d0
  exact runF_G (n0 := 1) (by rfl) ((key (realL (f278E K) 1)).trans (by rw [h6] <;> rfl))
theorem f338_t9 (K : Nat) (a0 : (List Int) × Int × Int) (a1 : Int) (y3 : List tV) (bq10 bq11 bq12 : Int) (bq13 : List tV) : ∀ (n : Nat) (q10 q11 q12 : Int) (q13 : List tV), loopN (exec (f338E K) 1 (selC f338C [1, 1, 1, 0, 1, 0, 0])) 1 (f338_fr9 a0 a1 y3 bq10 bq11 bq12 bq13) n (f338_fr9 a0 a1 y3 q10 q11 q12 q13) (f338_k9 K a0 a1 (realL (f338E K) 1)) = f338_l9 K a0 a1 y3 n q10 q11 q12 q13 := by
  have key : ∀ (lr : LR (tV × List tV)) (L : Fr → Option (tV × List tV)) (q10 q11 q12 : Int) (q13 : List tV), execG (f338E K) 1 lr (selC f338C [1, 1, 1, 0, 1, 0, 0]) (f338_fr9 a0 a1 y3 q10 q11 q12 q13) (loopK 1 (f338_fr9 a0 a1 y3 bq10 bq11 bq12 bq13) L (f338_k9 K a0 a1 lr)) = f338_b9 K a0 a1 y3 (fun v0 v1 v2 v3 => L (f338_fr9 a0 a1 y3 v0 v1 v2 v3)) q10 q11 q12 q13 := by
    intro lr L q10 q11 q12 q13; kernel_rfl
  intro n q10 q11 q12 q13
  refine loopN_iter (X := Int × Int × Int × List tV) (frame := fun x => (f338_fr9 a0 a1 y3 x.1 x.2.1 x.2.2.1 x.2.2.2)) (body := (fun L x => (fun L9 => f338_b9 K a0 a1 y3 L9 x.1 x.2.1 x.2.2.1 x.2.2.2) (fun v0 v1 v2 v3 => L (v0, v1, v2, v3)))) (fun L x => ?_) n (q10, q11, q12, q13)
  rw [exec_G]
  exact (key (realL (f338E K) 1) L x.1 x.2.1 x.2.2.1 x.2.2.2).trans (by rfl)
theorem f338_run (K : Nat) (a0 : (List Int) × Int × Int) (a1 : Int) : runP (f338E K) Tryz.f338 5 (.int .u8) sV [(.ro, sI)] [(.list 79 sV)] (a0, a1, ()) = f338G K a0 a1 := by
  have key : ∀ (lr : LR (tV × List tV)), runPG (f338E K) Tryz.f338 5 (.int .u8) sV [(.ro, sI)] [(.list 79 sV)] (a0, a1, ()) lr = f338_g K a0 a1 (fun c0 d0 d1 d2 d3 => lr (selC f338C [1, 1, 1, 0, 1, 0, 0]) (f338_fr9 a0 a1 c0 d0 d1 d2 d3) (f338_k9 K a0 a1 lr)) := by intro lr; kernel_rfl
  have h9 : (fun c0 d0 d1 d2 d3 => (realL (f338E K) 1) (selC f338C [1, 1, 1, 0, 1, 0, 0]) (f338_fr9 a0 a1 c0 d0 d1 d2 d3) (f338_k9 K a0 a1 (realL (f338E K) 1))) = fun c0 d0 d1 d2 d3 => f338_l9 K a0 a1 c0 K d0 d1 d2 d3 := by
    funext c0 d0 d1 d2 d3
    exact f338_t9 K a0 a1 c0 d0 d1 d2 d3 K d0 d1 d2 d3
  exact runP_G (n0 := 1) (by rfl) ((key (realL (f338E K) 1)).trans (by rw [h9] <;> rfl))
theorem f291_run (K : Nat) (a0 : (List Int) × Int × Int) : runP (f291E K) Tryz.f291 5 (.int .u8) sV [] [sV] (a0, ()) = f291G K a0 := by kernel_rfl
theorem f279_run (K : Nat) (a0 : (List Int) × Int × Int) : runP (f279E K) Tryz.f279 5 (.int .u8) sV [] [(.list 79 sV)] (a0, ()) = f279G K a0 := by kernel_rfl
theorem f182_run (K : Nat) (a0 : (List Int) × Int × Int) (a1 : Int × Int × Int) : runP (f182E K) Tryz.f182 5 (.int .u8) sV [(.ro, sL)] [sV] (a0, a1, ()) = f182G K a0 a1 := by kernel_rfl
theorem f173_run (K : Nat) (a0 : (List Int) × Int × Int) : runP (f173E K) Tryz.f173 5 (.int .u8) sV [] [sI, sL, (.list 95 sM), (.list 79 sV)] (a0, ()) = f173G K a0 := by kernel_rfl
theorem f56_run (K : Nat) (a0 : List Int) : runF (f56E K) Tryz.f56 [(.ro, (.list 5 (.int .u8)))] [sI, sL, (.list 95 sM), (.list 79 sV)] (a0, ()) = f56G K a0 := by kernel_rfl
theorem f146_run (K : Nat) (a0 a1 a2 : Int) : runF (f146E K) Tryz.f146 [(.ro, sI), (.ro, sI), (.ro, sI)] [.bool] (a0, a1, a2, ()) = f146G K a0 a1 a2 := by kernel_rfl
theorem f248_run (K : Nat) (a0 : Int) : runF (f248E K) Tryz.f248 [(.ro, sI)] [.bool] (a0, ()) = f248G K a0 := by kernel_rfl
theorem f238_run (K : Nat) (a0 : Int × Int × Int) : runF (f238E K) Tryz.f238 [(.ro, sL)] [sI] (a0, ()) = f238G K a0 := by kernel_rfl
theorem f249_run (K : Nat) (a0 : Int × Int × Int) : runF (f249E K) Tryz.f249 [(.ro, sL)] [.bool] (a0, ()) = f249G K a0 := by kernel_rfl
theorem f223_run (K : Nat) (a0 : Int) (a1 : Int × Int × Int) : runF (f223E K) Tryz.f223 [(.ro, sI), (.ro, sL)] [sI] (a0, a1, ()) = f223G K a0 a1 := by kernel_rfl
theorem f287_run (K : Nat) (a0 : Int) : runF (f287E K) Tryz.f287 [(.ro, sI)] [.bool] (a0, ()) = f287G K a0 := by kernel_rfl
theorem f189_run (K : Nat) (a0 : Int × Int) : runF (f189E K) Tryz.f189 [(.ro, sV)] [.bool] (a0, ()) = f189G K a0 := by kernel_rfl
theorem f332_t2 (K : Nat) (a0 a1 : List Int) (bq3 : Int) : ∀ (n : Nat) (q3 : Int), loopN (exec (f332E K) 2 (selC f332C [1, 0, 1, 0, 0])) 2 (f332_fr2 a0 a1 bq3) n (f332_fr2 a0 a1 q3) (f332_k2 K a0 a1 (realL (f332E K) 2)) = f332_l2 K a0 a1 n q3 := by
  have key : ∀ (lr : LR Int) (L : Fr → Option Int) (q3 : Int), execG (f332E K) 2 lr (selC f332C [1, 0, 1, 0, 0]) (f332_fr2 a0 a1 q3) (loopK 2 (f332_fr2 a0 a1 bq3) L (f332_k2 K a0 a1 lr)) = f332_b2 K a0 a1 (fun v0 => L (f332_fr2 a0 a1 v0)) q3 := by
    intro lr L q3; kernel_rfl
  intro n q3
  refine loopN_iter (X := Int) (frame := fun x => (f332_fr2 a0 a1 x)) (body := (fun L x => (fun L2 => f332_b2 K a0 a1 L2 x) (fun v0 => L v0))) (fun L x => ?_) n q3
  rw [exec_G]
  exact (key (realL (f332E K) 2) L x).trans (by rfl)
theorem f332_run (K : Nat) (a0 a1 : List Int) : runF (f332E K) Tryz.f332 [(.ro, (.list 2 sI)), (.ro, (.list 2 sI))] [sI] (a0, a1, ()) = f332G K a0 a1 := by
  have key : ∀ (lr : LR Int), runG (f332E K) Tryz.f332 [(.ro, (.list 2 sI)), (.ro, (.list 2 sI))] [sI] (a0, a1, ()) lr = f332_g K a0 a1 (fun d0 => lr (selC f332C [1, 0, 1, 0, 0]) (f332_fr2 a0 a1 d0) (f332_k2 K a0 a1 lr)) := by intro lr; kernel_rfl
  have h2 : (fun d0 => (realL (f332E K) 2) (selC f332C [1, 0, 1, 0, 0]) (f332_fr2 a0 a1 d0) (f332_k2 K a0 a1 (realL (f332E K) 2))) = fun d0 => f332_l2 K a0 a1 K d0 := by
    funext d0
    exact f332_t2 K a0 a1 d0 K d0
  exact runF_G (n0 := 2) (by rfl) ((key (realL (f332E K) 2)).trans (by rw [h2] <;> rfl))
theorem f269_run (K : Nat) (a0 a1 : Int × Int) : runF (f269E K) Tryz.f269 [(.ro, sV), (.ro, sV)] [sI] (a0, a1, ()) = f269G K a0 a1 := by kernel_rfl
theorem f281_t4 (K : Nat) (a0 : List tV) (bq5 : Int) : ∀ (n : Nat) (q5 : Int), loopN (exec (f281E K) 1 (selC f281C [1, 0, 1, 0, 0])) 1 (f281_fr4 a0 bq5) n (f281_fr4 a0 q5) (f281_k4 K a0 (realL (f281E K) 1)) = f281_l4 K a0 n q5 := by
  have key : ∀ (lr : LR Bool) (L : Fr → Option Bool) (q5 : Int), execG (f281E K) 1 lr (selC f281C [1, 0, 1, 0, 0]) (f281_fr4 a0 q5) (loopK 1 (f281_fr4 a0 bq5) L (f281_k4 K a0 lr)) = f281_b4 K a0 (fun v0 => L (f281_fr4 a0 v0)) q5 := by
    intro lr L q5; kernel_rfl
  intro n q5
  refine loopN_iter (X := Int) (frame := fun x => (f281_fr4 a0 x)) (body := (fun L x => (fun L4 => f281_b4 K a0 L4 x) (fun v0 => L v0))) (fun L x => ?_) n q5
  rw [exec_G]
  exact (key (realL (f281E K) 1) L x).trans (by rfl)
theorem f281_run (K : Nat) (a0 : List tV) : runF (f281E K) Tryz.f281 [(.ro, (.list 79 sV))] [.bool] (a0, ()) = f281G K a0 := by
  have key : ∀ (lr : LR Bool), runG (f281E K) Tryz.f281 [(.ro, (.list 79 sV))] [.bool] (a0, ()) lr = f281_g K a0 (fun d0 => lr (selC f281C [1, 0, 1, 0, 0]) (f281_fr4 a0 d0) (f281_k4 K a0 lr)) := by intro lr; kernel_rfl
  have h4 : (fun d0 => (realL (f281E K) 1) (selC f281C [1, 0, 1, 0, 0]) (f281_fr4 a0 d0) (f281_k4 K a0 (realL (f281E K) 1))) = fun d0 => f281_l4 K a0 K d0 := by
    funext d0
    exact f281_t4 K a0 d0 K d0
  exact runF_G (n0 := 1) (by rfl) ((key (realL (f281E K) 1)).trans (by rw [h4] <;> rfl))
theorem f356_run (K : Nat) (a0 : Int × Int × Int) : runF (f356E K) Tryz.f356 [(.ro, sL)] [sV, sV] (a0, ()) = f356G K a0 := by kernel_rfl
theorem f288_run (K : Nat) (a0 : Int × Int × Int × Int) (a1 : Int × Int) : runF (f288E K) Tryz.f288 [(.ro, sA), (.ro, sV)] [sV] (a0, a1, ()) = f288G K a0 a1 := by kernel_rfl
theorem f401_run (K : Nat) (a0 : Int) (a1 : Int × Int) : runF (f401E K) Tryz.f401 [(.ro, sI), (.ro, sV)] [sI] (a0, a1, ()) = f401G K a0 a1 := by kernel_rfl
theorem f358_t8 (K : Nat) (a0 bq9 : Int) (bq10 : List tA) : ∀ (n : Nat) (q9 : Int) (q10 : List tA), loopN (exec (f358E K) 0 (selC f358C [1, 1, 0, 1, 0, 0])) 0 (f358_fr8 a0 bq9 bq10) n (f358_fr8 a0 q9 q10) (f358_k8 K a0 (realL (f358E K) 0)) = f358_l8 K a0 n q9 q10 := by
  have key : ∀ (lr : LR (List tA)) (L : Fr → Option (List tA)) (q9 : Int) (q10 : List tA), execG (f358E K) 0 lr (selC f358C [1, 1, 0, 1, 0, 0]) (f358_fr8 a0 q9 q10) (loopK 0 (f358_fr8 a0 bq9 bq10) L (f358_k8 K a0 lr)) = f358_b8 K a0 (fun v0 v1 => L (f358_fr8 a0 v0 v1)) q9 q10 := by
    intro lr L q9 q10; kernel_rfl
  intro n q9 q10
  refine loopN_iter (X := Int × List tA) (frame := fun x => (f358_fr8 a0 x.1 x.2)) (body := (fun L x => (fun L8 => f358_b8 K a0 L8 x.1 x.2) (fun v0 v1 => L (v0, v1)))) (fun L x => ?_) n (q9, q10)
  rw [exec_G]
  exact (key (realL (f358E K) 0) L x.1 x.2).trans (by rfl)
theorem f358_run (K : Nat) (a0 : Int) : runF (f358E K) Tryz.f358 [(.ro, sI)] [(.list 93 sA)] (a0, ()) = f358G K a0 := by
  have key : ∀ (lr : LR (List tA)), runG (f358E K) Tryz.f358 [(.ro, sI)] [(.list 93 sA)] (a0, ()) lr = f358_g K a0 (fun d0 d1 => lr (selC f358C [1, 1, 0, 1, 0, 0]) (f358_fr8 a0 d0 d1) (f358_k8 K a0 lr)) := by intro lr; kernel_rfl
  have h8 : (fun d0 d1 => (realL (f358E K) 0) (selC f358C [1, 1, 0, 1, 0, 0]) (f358_fr8 a0 d0 d1) (f358_k8 K a0 (realL (f358E K) 0))) = fun d0 d1 => f358_l8 K a0 K d0 d1 := by
    funext d0 d1
    exact f358_t8 K a0 d0 d1 K d0 d1
  exact runF_G (n0 := 0) (by rfl) ((key (realL (f358E K) 0)).trans (by rw [h8] <;> rfl))
theorem f260_run (K : Nat) (a0 a1 : Int) : runF (f260E K) Tryz.f260 [(.ro, sI), (.ro, sI)] [sI] (a0, a1, ()) = f260G K a0 a1 := by kernel_rfl
theorem f161_run (K : Nat) (a0 : Int × Int × Int) (a1 : Int × Int) : runF (f161E K) Tryz.f161 [(.ro, sL), (.ro, sV)] [sV] (a0, a1, ()) = f161G K a0 a1 := by kernel_rfl
theorem f360_run (K : Nat) (a0 : Int × Int × Int) (a1 : Int × Int) : runF (f360E K) Tryz.f360 [(.ro, sL), (.ro, sV)] [.bool] (a0, a1, ()) = f360G K a0 a1 := by kernel_rfl
theorem f359_run (K : Nat) (a0 : Int × Int × Int × Int) (a1 : Int × Int × Int) (a2 a3 : Int × Int) : runF (f359E K) Tryz.f359 [(.ro, sA), (.cap, sL), (.cap, sV), (.cap, sV)] [.bool] (a0, a1, a2, a3, ()) = f359G K a0 a1 a2 a3 := by kernel_rfl
theorem f400_t3 (K : Nat) (a0 : List tA) (a1 : (tA → Option Bool)) (bq4 : Int) : ∀ (n : Nat) (q4 : Int), loopN (exec (f400E K) 1 (selC f400C [1, 0, 1, 0, 0])) 1 (f400_fr3 a0 a1 bq4) n (f400_fr3 a0 a1 q4) (f400_k3 K a0 a1 (realL (f400E K) 1)) = f400_l3 K a0 a1 n q4 := by
  have key : ∀ (lr : LR Int) (L : Fr → Option Int) (q4 : Int), execG (f400E K) 1 lr (selC f400C [1, 0, 1, 0, 0]) (f400_fr3 a0 a1 q4) (loopK 1 (f400_fr3 a0 a1 bq4) L (f400_k3 K a0 a1 lr)) = f400_b3 K a0 a1 (fun v0 => L (f400_fr3 a0 a1 v0)) q4 := by
    intro lr L q4; kernel_rfl
  intro n q4
  refine loopN_iter (X := Int) (frame := fun x => (f400_fr3 a0 a1 x)) (body := (fun L x => (fun L3 => f400_b3 K a0 a1 L3 x) (fun v0 => L v0))) (fun L x => ?_) n q4
  rw [exec_G]
  exact (key (realL (f400E K) 1) L x).trans (by rfl)
theorem f400_run (K : Nat) (a0 : List tA) (a1 : (tA → Option Bool)) : runF (f400E K) Tryz.f400 [(.ro, (.list 93 sA)), (.ro, (.fn1 sA .bool))] [sI] (a0, a1, ()) = f400G K a0 a1 := by
  have key : ∀ (lr : LR Int), runG (f400E K) Tryz.f400 [(.ro, (.list 93 sA)), (.ro, (.fn1 sA .bool))] [sI] (a0, a1, ()) lr = f400_g K a0 a1 (fun d0 => lr (selC f400C [1, 0, 1, 0, 0]) (f400_fr3 a0 a1 d0) (f400_k3 K a0 a1 lr)) := by intro lr; kernel_rfl
  have h3 : (fun d0 => (realL (f400E K) 1) (selC f400C [1, 0, 1, 0, 0]) (f400_fr3 a0 a1 d0) (f400_k3 K a0 a1 (realL (f400E K) 1))) = fun d0 => f400_l3 K a0 a1 K d0 := by
    funext d0
    exact f400_t3 K a0 a1 d0 K d0
  exact runF_G (n0 := 1) (by rfl) ((key (realL (f400E K) 1)).trans (by rw [h3] <;> rfl))
theorem f357_t4 (K : Nat) (a0 : List tA) (a1 : (tA → Option Bool)) (y1 bq5 bq6 : Int) (bq7 : List tA) : ∀ (n : Nat) (q5 q6 : Int) (q7 : List tA), loopN (exec (f357E K) 1 (selC f357C [1, 1, 1, 0, 1, 0, 0])) 1 (f357_fr4 a1 y1 bq5 bq6 bq7) n (f357_fr4 a1 y1 q5 q6 q7) (f357_k4 K a0 a1 (realL (f357E K) 1)) = f357_l4 K a1 y1 n q5 q6 q7 := by
  have key : ∀ (lr : LR (List tA)) (L : Fr → Option (List tA)) (q5 q6 : Int) (q7 : List tA), execG (f357E K) 1 lr (selC f357C [1, 1, 1, 0, 1, 0, 0]) (f357_fr4 a1 y1 q5 q6 q7) (loopK 1 (f357_fr4 a1 y1 bq5 bq6 bq7) L (f357_k4 K a0 a1 lr)) = f357_b4 K a1 y1 (fun v0 v1 v2 => L (f357_fr4 a1 y1 v0 v1 v2)) q5 q6 q7 := by
    intro lr L q5 q6 q7; kernel_rfl
  intro n q5 q6 q7
  refine loopN_iter (X := Int × Int × List tA) (frame := fun x => (f357_fr4 a1 y1 x.1 x.2.1 x.2.2)) (body := (fun L x => (fun L4 => f357_b4 K a1 y1 L4 x.1 x.2.1 x.2.2) (fun v0 v1 v2 => L (v0, v1, v2)))) (fun L x => ?_) n (q5, q6, q7)
  rw [exec_G]
  exact (key (realL (f357E K) 1) L x.1 x.2.1 x.2.2).trans (by rfl)
theorem f357_run (K : Nat) (a0 : List tA) (a1 : (tA → Option Bool)) : runF (f357E K) Tryz.f357 [(.mv, (.list 93 sA)), (.ro, (.fn1 sA .bool))] [(.list 93 sA)] (a0, a1, ()) = f357G K a0 a1 := by
  have key : ∀ (lr : LR (List tA)), runG (f357E K) Tryz.f357 [(.mv, (.list 93 sA)), (.ro, (.fn1 sA .bool))] [(.list 93 sA)] (a0, a1, ()) lr = f357_g K a0 a1 (fun c0 d0 d1 d2 => lr (selC f357C [1, 1, 1, 0, 1, 0, 0]) (f357_fr4 a1 c0 d0 d1 d2) (f357_k4 K a0 a1 lr)) := by intro lr; kernel_rfl
  have h4 : (fun c0 d0 d1 d2 => (realL (f357E K) 1) (selC f357C [1, 1, 1, 0, 1, 0, 0]) (f357_fr4 a1 c0 d0 d1 d2) (f357_k4 K a0 a1 (realL (f357E K) 1))) = fun c0 d0 d1 d2 => f357_l4 K a1 c0 K d0 d1 d2 := by
    funext c0 d0 d1 d2
    exact f357_t4 K a0 a1 c0 d0 d1 d2 K d0 d1 d2
  exact runF_G (n0 := 1) (by rfl) ((key (realL (f357E K) 1)).trans (by rw [h4] <;> rfl))
theorem f311_run (K : Nat) (a0 : Int) (a1 : Int × Int × Int) : runF (f311E K) Tryz.f311 [(.ro, sI), (.ro, sL)] [(.list 93 sA)] (a0, a1, ()) = f311G K a0 a1 := by kernel_rfl
theorem f355_t2 (K : Nat) (a0 : List tA) (a1 : Int × Int × Int × Int) (bq3 : Int) : ∀ (n : Nat) (q3 : Int), loopN (exec (f355E K) 1 (selC f355C [1, 0, 1, 0, 0])) 1 (f355_fr2 a0 a1 bq3) n (f355_fr2 a0 a1 q3) (f355_k2 K a0 a1 (realL (f355E K) 1)) = f355_l2 K a0 a1 n q3 := by
  have key : ∀ (lr : LR Int) (L : Fr → Option Int) (q3 : Int), execG (f355E K) 1 lr (selC f355C [1, 0, 1, 0, 0]) (f355_fr2 a0 a1 q3) (loopK 1 (f355_fr2 a0 a1 bq3) L (f355_k2 K a0 a1 lr)) = f355_b2 K a0 a1 (fun v0 => L (f355_fr2 a0 a1 v0)) q3 := by
    intro lr L q3; kernel_rfl
  intro n q3
  refine loopN_iter (X := Int) (frame := fun x => (f355_fr2 a0 a1 x)) (body := (fun L x => (fun L2 => f355_b2 K a0 a1 L2 x) (fun v0 => L v0))) (fun L x => ?_) n q3
  rw [exec_G]
  exact (key (realL (f355E K) 1) L x).trans (by rfl)
theorem f355_run (K : Nat) (a0 : List tA) (a1 : Int × Int × Int × Int) : runF (f355E K) Tryz.f355 [(.ro, (.list 93 sA)), (.ro, sA)] [sI] (a0, a1, ()) = f355G K a0 a1 := by
  have key : ∀ (lr : LR Int), runG (f355E K) Tryz.f355 [(.ro, (.list 93 sA)), (.ro, sA)] [sI] (a0, a1, ()) lr = f355_g K a0 a1 (fun d0 => lr (selC f355C [1, 0, 1, 0, 0]) (f355_fr2 a0 a1 d0) (f355_k2 K a0 a1 lr)) := by intro lr; kernel_rfl
  have h2 : (fun d0 => (realL (f355E K) 1) (selC f355C [1, 0, 1, 0, 0]) (f355_fr2 a0 a1 d0) (f355_k2 K a0 a1 (realL (f355E K) 1))) = fun d0 => f355_l2 K a0 a1 K d0 := by
    funext d0
    exact f355_t2 K a0 a1 d0 K d0
  exact runF_G (n0 := 1) (by rfl) ((key (realL (f355E K) 1)).trans (by rw [h2] <;> rfl))
theorem f310_run (K : Nat) (a0 : List tA) (a1 : Int × Int × Int × Int) : runF (f310E K) Tryz.f310 [(.ro, (.list 93 sA)), (.ro, sA)] [.bool] (a0, a1, ()) = f310G K a0 a1 := by kernel_rfl
theorem f349_run (K : Nat) (a0 a1 : Int × Int × Int × Int) : runF (f349E K) Tryz.f349 [(.ro, sA), (.ro, sA)] [sI] (a0, a1, ()) = f349G K a0 a1 := by kernel_rfl
theorem f300_run (K : Nat) (a0 a1 : tA × Int × Int) : runF (f300E K) Tryz.f300 [(.ro, sM), (.ro, sM)] [sI] (a0, a1, ()) = f300G K a0 a1 := by kernel_rfl
theorem f231_run (K : Nat) : runF (f231E K) Tryz.f231 [] [sA] (()) = f231G K := by kernel_rfl
theorem f347_run (K : Nat) (a0 a1 : Int × Int × Int × Int) : runF (f347E K) Tryz.f347 [(.ro, sA), (.ro, sA)] [sA] (a0, a1, ()) = f347G K a0 a1 := by kernel_rfl
theorem f289_run (K : Nat) (a0 a1 : Int × Int) : runF (f289E K) Tryz.f289 [(.ro, sV), (.ro, sV)] [sV] (a0, a1, ()) = f289G K a0 a1 := by kernel_rfl
theorem f298_run (K : Nat) (a0 a1 : tA × Int × Int) : runF (f298E K) Tryz.f298 [(.ro, sM), (.ro, sM)] [sM] (a0, a1, ()) = f298G K a0 a1 := by kernel_rfl
theorem f297_run (K : Nat) (a0 : Int × Int × Int) (a1 : tA × Int × Int) : runF (f297E K) Tryz.f297 [(.ro, sL), (.ro, sM)] [sM] (a0, a1, ()) = f297G K a0 a1 := by kernel_rfl
theorem f325_t23 (K : Nat) (a0 : Int) (a1 : Int × Int × Int) (a2 : List tM) (q7 : Int) (q8 : List (tM × Bool)) (y1 : List tA) (y12 : Int × Int × Int × Int) (q22 : Int) (F21 : Fr → Option Bool) (bq22 bq24 : Int) : ∀ (n : Nat) (q24 : Int), loopN (exec (f325E K) 1 (selC f325C [1, 1, 1, 1, 0, 1, 0, 0, 1, 1, 0, 0, 1, 1, 0, 0])) 1 (f325_fr23 a0 a1 a2 q7 q8 q22 y1 y12 bq24) n (f325_fr23 a0 a1 a2 q7 q8 q22 y1 y12 q24) (f325_k23 K a0 a1 a2 q7 q8 y1 y12 F21 bq22 (realL (f325E K) 1)) = f325_l23 K a0 a1 a2 q7 q8 q22 y1 y12 (fun v0 => F21 (f325_fr21 a0 a1 a2 q7 q8 y1 y12 v0)) n q24 := by
  have key : ∀ (lr : LR Bool) (L : Fr → Option Bool) (q24 : Int), execG (f325E K) 1 lr (selC f325C [1, 1, 1, 1, 0, 1, 0, 0, 1, 1, 0, 0, 1, 1, 0, 0]) (f325_fr23 a0 a1 a2 q7 q8 q22 y1 y12 q24) (loopK 1 (f325_fr23 a0 a1 a2 q7 q8 q22 y1 y12 bq24) L (f325_k23 K a0 a1 a2 q7 q8 y1 y12 F21 bq22 lr)) = f325_b23 K a0 a1 a2 q7 q8 q22 y1 y12 (fun v0 => F21 (f325_fr21 a0 a1 a2 q7 q8 y1 y12 v0)) (fun v0 => L (f325_fr23 a0 a1 a2 q7 q8 q22 y1 y12 v0)) q24 := by
    intro lr L q24; kernel_rfl
  intro n q24
  refine loopN_iter (X := Int) (frame := fun x => (f325_fr23 a0 a1 a2 q7 q8 q22 y1 y12 x)) (body := (fun L x => (fun L23 => f325_b23 K a0 a1 a2 q7 q8 q22 y1 y12 (fun v0 => F21 (f325_fr21 a0 a1 a2 q7 q8 y1 y12 v0)) L23 x) (fun v0 => L v0))) (fun L x => ?_) n q24
  rw [exec_G]
  exact (key (realL (f325E K) 1) L x).trans (by rfl)
theorem f325_t21 (K : Nat) (a0 : Int) (a1 : Int × Int × Int) (a2 : List tM) (q7 : Int) (q8 : List (tM × Bool)) (y1 : List tA) (y12 : Int × Int × Int × Int) (bq22 : Int) : ∀ (n : Nat) (q22 : Int), loopN (exec (f325E K) 1 (selC f325C [1, 1, 1, 1, 0, 1, 0, 0])) 1 (f325_fr21 a0 a1 a2 q7 q8 y1 y12 bq22) n (f325_fr21 a0 a1 a2 q7 q8 y1 y12 q22) (f325_k21 K a0 a1 a2 (realL (f325E K) 1)) = f325_l21 K a0 a1 a2 q7 q8 y1 y12 n q22 := by
  have key : ∀ (lr : LR Bool) (L : Fr → Option Bool) (q22 : Int), execG (f325E K) 1 lr (selC f325C [1, 1, 1, 1, 0, 1, 0, 0]) (f325_fr21 a0 a1 a2 q7 q8 y1 y12 q22) (loopK 1 (f325_fr21 a0 a1 a2 q7 q8 y1 y12 bq22) L (f325_k21 K a0 a1 a2 lr)) = f325_b21 K a0 a1 a2 q7 q8 y1 y12 (fun c0 d0 => lr (selC f325C [1, 1, 1, 1, 0, 1, 0, 0, 1, 1, 0, 0, 1, 1, 0, 0]) (f325_fr23 a0 a1 a2 q7 q8 c0 y1 y12 d0) (f325_k23 K a0 a1 a2 q7 q8 y1 y12 L bq22 lr)) (fun v0 => L (f325_fr21 a0 a1 a2 q7 q8 y1 y12 v0)) q22 := by
    intro lr L q22; kernel_rfl
  intro n q22
  refine loopN_iter (X := Int) (frame := fun x => (f325_fr21 a0 a1 a2 q7 q8 y1 y12 x)) (body := (fun L x => (fun L21 => f325_b21 K a0 a1 a2 q7 q8 y1 y12 (fun c0 d0 => f325_l23 K a0 a1 a2 q7 q8 c0 y1 y12 L21 K d0) L21 x) (fun v0 => L v0))) (fun L x => ?_) n q22
  rw [exec_G]
  have h23 : (fun c0 d0 => (realL (f325E K) 1) (selC f325C [1, 1, 1, 1, 0, 1, 0, 0, 1, 1, 0, 0, 1, 1, 0, 0]) (f325_fr23 a0 a1 a2 q7 q8 c0 y1 y12 d0) (f325_k23 K a0 a1 a2 q7 q8 y1 y12 L bq22 (realL (f325E K) 1))) = fun c0 d0 => f325_l23 K a0 a1 a2 q7 q8 c0 y1 y12 (fun v0 => L (f325_fr21 a0 a1 a2 q7 q8 y1 y12 v0)) K d0 := by
    funext c0 d0
    exact f325_t23 K a0 a1 a2 q7 q8 y1 y12 c0 L bq22 d0 K d0
  exact (key (realL (f325E K) 1) L x).trans (by rw [h23] <;> rfl)
theorem f325_t6 (K : Nat) (a0 : Int) (a1 : Int × Int × Int) (a2 : List tM) (y1 : List tA) (bq7 : Int) (bq8 : List (tM × Bool)) : ∀ (n : Nat) (q7 : Int) (q8 : List (tM × Bool)), loopN (exec (f325E K) 1 (selC f325C [1, 1, 0, 1, 0, 0])) 1 (f325_fr6 a0 a1 a2 y1 bq7 bq8) n (f325_fr6 a0 a1 a2 y1 q7 q8) (f325_k6 K a0 a1 a2 (realL (f325E K) 1)) = f325_l6 K a0 a1 a2 y1 n q7 q8 := by
  have key : ∀ (lr : LR Bool) (L : Fr → Option Bool) (q7 : Int) (q8 : List (tM × Bool)), execG (f325E K) 1 lr (selC f325C [1, 1, 0, 1, 0, 0]) (f325_fr6 a0 a1 a2 y1 q7 q8) (loopK 1 (f325_fr6 a0 a1 a2 y1 bq7 bq8) L (f325_k6 K a0 a1 a2 lr)) = f325_b6 K a0 a1 a2 y1 (fun c0 c1 c2 c3 d0 => lr (selC f325C [1, 1, 1, 1, 0, 1, 0, 0]) (f325_fr21 a0 a1 a2 c0 c1 c2 c3 d0) (f325_k21 K a0 a1 a2 lr)) (fun v0 v1 => L (f325_fr6 a0 a1 a2 y1 v0 v1)) q7 q8 := by
    intro lr L q7 q8; kernel_rfl
  intro n q7 q8
  refine loopN_iter (X := Int × List (tM × Bool)) (frame := fun x => (f325_fr6 a0 a1 a2 y1 x.1 x.2)) (body := (fun L x => (fun L6 => f325_b6 K a0 a1 a2 y1 (fun c0 c1 c2 c3 d0 => f325_l21 K a0 a1 a2 c0 c1 c2 c3 K d0) L6 x.1 x.2) (fun v0 v1 => L (v0, v1)))) (fun L x => ?_) n (q7, q8)
  rw [exec_G]
  have h21 : (fun c0 c1 c2 c3 d0 => (realL (f325E K) 1) (selC f325C [1, 1, 1, 1, 0, 1, 0, 0]) (f325_fr21 a0 a1 a2 c0 c1 c2 c3 d0) (f325_k21 K a0 a1 a2 (realL (f325E K) 1))) = fun c0 c1 c2 c3 d0 => f325_l21 K a0 a1 a2 c0 c1 c2 c3 K d0 := by
    funext c0 c1 c2 c3 d0
    exact f325_t21 K a0 a1 a2 c0 c1 c2 c3 d0 K d0
  exact (key (realL (f325E K) 1) L x.1 x.2).trans (by rw [h21] <;> rfl)
theorem f325_run (K : Nat) (a0 : Int) (a1 : Int × Int × Int) (a2 : List tM) : runF (f325E K) Tryz.f325 [(.ro, sI), (.ro, sL), (.ro, (.list 95 sM))] [.bool] (a0, a1, a2, ()) = f325G K a0 a1 a2 := by
  have key : ∀ (lr : LR Bool), runG (f325E K) Tryz.f325 [(.ro, sI), (.ro, sL), (.ro, (.list 95 sM))] [.bool] (a0, a1, a2, ()) lr = f325_g K a0 a1 a2 (fun c0 d0 d1 => lr (selC f325C [1, 1, 0, 1, 0, 0]) (f325_fr6 a0 a1 a2 c0 d0 d1) (f325_k6 K a0 a1 a2 lr)) := by intro lr; kernel_rfl
  have h6 : (fun c0 d0 d1 => (realL (f325E K) 1) (selC f325C [1, 1, 0, 1, 0, 0]) (f325_fr6 a0 a1 a2 c0 d0 d1) (f325_k6 K a0 a1 a2 (realL (f325E K) 1))) = fun c0 d0 d1 => f325_l6 K a0 a1 a2 c0 K d0 d1 := by
    funext c0 d0 d1
    exact f325_t6 K a0 a1 a2 c0 d0 d1 K d0 d1
  exact runF_G (n0 := 1) (by rfl) ((key (realL (f325E K) 1)).trans (by rw [h6] <;> rfl))
theorem f257_t4 (K : Nat) (a0 : Int) (a1 : Int × Int × Int) (a2 : List (List tM)) (y1 bq5 : Int) : ∀ (n : Nat) (q5 : Int), loopN (exec (f257E K) 1 (selC f257C [1, 1, 0, 1, 0, 0])) 1 (f257_fr4 a0 a1 a2 y1 bq5) n (f257_fr4 a0 a1 a2 y1 q5) (f257_k4 K a0 a1 a2 (realL (f257E K) 1)) = f257_l4 K a0 a1 a2 y1 n q5 := by
  have key : ∀ (lr : LR Int) (L : Fr → Option Int) (q5 : Int), execG (f257E K) 1 lr (selC f257C [1, 1, 0, 1, 0, 0]) (f257_fr4 a0 a1 a2 y1 q5) (loopK 1 (f257_fr4 a0 a1 a2 y1 bq5) L (f257_k4 K a0 a1 a2 lr)) = f257_b4 K a0 a1 a2 y1 (fun v0 => L (f257_fr4 a0 a1 a2 y1 v0)) q5 := by
    intro lr L q5; kernel_rfl
  intro n q5
  refine loopN_iter (X := Int) (frame := fun x => (f257_fr4 a0 a1 a2 y1 x)) (body := (fun L x => (fun L4 => f257_b4 K a0 a1 a2 y1 L4 x) (fun v0 => L v0))) (fun L x => ?_) n q5
  rw [exec_G]
  exact (key (realL (f257E K) 1) L x).trans (by rfl)
theorem f257_run (K : Nat) (a0 : Int) (a1 : Int × Int × Int) (a2 : List (List tM)) : runF (f257E K) Tryz.f257 [(.ro, sI), (.ro, sL), (.ro, (.list 68 (.list 95 sM)))] [sI] (a0, a1, a2, ()) = f257G K a0 a1 a2 := by
  have key : ∀ (lr : LR Int), runG (f257E K) Tryz.f257 [(.ro, sI), (.ro, sL), (.ro, (.list 68 (.list 95 sM)))] [sI] (a0, a1, a2, ()) lr = f257_g K a0 a1 a2 (fun c0 d0 => lr (selC f257C [1, 1, 0, 1, 0, 0]) (f257_fr4 a0 a1 a2 c0 d0) (f257_k4 K a0 a1 a2 lr)) := by intro lr; kernel_rfl
  have h4 : (fun c0 d0 => (realL (f257E K) 1) (selC f257C [1, 1, 0, 1, 0, 0]) (f257_fr4 a0 a1 a2 c0 d0) (f257_k4 K a0 a1 a2 (realL (f257E K) 1))) = fun c0 d0 => f257_l4 K a0 a1 a2 c0 K d0 := by
    funext c0 d0
    exact f257_t4 K a0 a1 a2 c0 d0 K d0
  exact runF_G (n0 := 1) (by rfl) ((key (realL (f257E K) 1)).trans (by rw [h4] <;> rfl))
theorem f175_run (K : Nat) (a0 : Int) (a1 : Int × Int × Int) (a2 : List tM) (a3 : List tV) : runF (f175E K) Tryz.f175 [(.ro, sI), (.ro, sL), (.ro, (.list 95 sM)), (.ro, (.list 79 sV))] [sI] (a0, a1, a2, a3, ()) = f175G K a0 a1 a2 a3 := by kernel_rfl
theorem f191_run (K : Nat) (a0 : tA × Int × Int) (a1 : Int × Int) : runF (f191E K) Tryz.f191 [(.ro, sM), (.ro, sV)] [sV] (a0, a1, ()) = f191G K a0 a1 := by kernel_rfl
theorem f267_run (K : Nat) (a0 : Int × Int × Int) (a1 : tA × Int × Int) (a2 : Int × Int) : runF (f267E K) Tryz.f267 [(.ro, sL), (.ro, sM), (.ro, sV)] [sV] (a0, a1, a2, ()) = f267G K a0 a1 a2 := by kernel_rfl
theorem f178_t11 (K : Nat) (a0 : Int × Int × Int) (a1 : List tM) (a2 : List tV) (q9 : Int) (q10 : List (List tV)) (F8 : Fr → Option (List (List tV))) (bq9 : Int) (bq10 : List (List tV)) (bq12 : Int) (bq13 : List tV) : ∀ (n : Nat) (q12 : Int) (q13 : List tV), loopN (exec (f178E K) 2 (selC f178C [1, 1, 0, 1, 0, 0, 1, 1, 0, 0, 1, 1, 0, 1, 0, 0])) 2 (f178_fr11 a0 a1 a2 q9 q10 bq12 bq13) n (f178_fr11 a0 a1 a2 q9 q10 q12 q13) (f178_k11 K a0 a1 a2 F8 bq9 bq10 (realL (f178E K) 2)) = f178_l11 K a0 a1 a2 q9 q10 (fun v0 v1 => F8 (f178_fr8 a0 a1 a2 v0 v1)) n q12 q13 := by
  have key : ∀ (lr : LR (List (List tV))) (L : Fr → Option (List (List tV))) (q12 : Int) (q13 : List tV), execG (f178E K) 2 lr (selC f178C [1, 1, 0, 1, 0, 0, 1, 1, 0, 0, 1, 1, 0, 1, 0, 0]) (f178_fr11 a0 a1 a2 q9 q10 q12 q13) (loopK 2 (f178_fr11 a0 a1 a2 q9 q10 bq12 bq13) L (f178_k11 K a0 a1 a2 F8 bq9 bq10 lr)) = f178_b11 K a0 a1 a2 q9 q10 (fun v0 v1 => F8 (f178_fr8 a0 a1 a2 v0 v1)) (fun v0 v1 => L (f178_fr11 a0 a1 a2 q9 q10 v0 v1)) q12 q13 := by
    intro lr L q12 q13; kernel_rfl
  intro n q12 q13
  refine loopN_iter (X := Int × List tV) (frame := fun x => (f178_fr11 a0 a1 a2 q9 q10 x.1 x.2)) (body := (fun L x => (fun L11 => f178_b11 K a0 a1 a2 q9 q10 (fun v0 v1 => F8 (f178_fr8 a0 a1 a2 v0 v1)) L11 x.1 x.2) (fun v0 v1 => L (v0, v1)))) (fun L x => ?_) n (q12, q13)
  rw [exec_G]
  exact (key (realL (f178E K) 2) L x.1 x.2).trans (by rfl)
theorem f178_t8 (K : Nat) (a0 : Int × Int × Int) (a1 : List tM) (a2 : List tV) (bq9 : Int) (bq10 : List (List tV)) : ∀ (n : Nat) (q9 : Int) (q10 : List (List tV)), loopN (exec (f178E K) 2 (selC f178C [1, 1, 0, 1, 0, 0])) 2 (f178_fr8 a0 a1 a2 bq9 bq10) n (f178_fr8 a0 a1 a2 q9 q10) (f178_k8 K a0 a1 a2 (realL (f178E K) 2)) = f178_l8 K a0 a1 a2 n q9 q10 := by
  have key : ∀ (lr : LR (List (List tV))) (L : Fr → Option (List (List tV))) (q9 : Int) (q10 : List (List tV)), execG (f178E K) 2 lr (selC f178C [1, 1, 0, 1, 0, 0]) (f178_fr8 a0 a1 a2 q9 q10) (loopK 2 (f178_fr8 a0 a1 a2 bq9 bq10) L (f178_k8 K a0 a1 a2 lr)) = f178_b8 K a0 a1 a2 (fun c0 c1 d0 d1 => lr (selC f178C [1, 1, 0, 1, 0, 0, 1, 1, 0, 0, 1, 1, 0, 1, 0, 0]) (f178_fr11 a0 a1 a2 c0 c1 d0 d1) (f178_k11 K a0 a1 a2 L bq9 bq10 lr)) (fun v0 v1 => L (f178_fr8 a0 a1 a2 v0 v1)) q9 q10 := by
    intro lr L q9 q10; kernel_rfl
  intro n q9 q10
  refine loopN_iter (X := Int × List (List tV)) (frame := fun x => (f178_fr8 a0 a1 a2 x.1 x.2)) (body := (fun L x => (fun L8 => f178_b8 K a0 a1 a2 (fun c0 c1 d0 d1 => f178_l11 K a0 a1 a2 c0 c1 L8 K d0 d1) L8 x.1 x.2) (fun v0 v1 => L (v0, v1)))) (fun L x => ?_) n (q9, q10)
  rw [exec_G]
  have h11 : (fun c0 c1 d0 d1 => (realL (f178E K) 2) (selC f178C [1, 1, 0, 1, 0, 0, 1, 1, 0, 0, 1, 1, 0, 1, 0, 0]) (f178_fr11 a0 a1 a2 c0 c1 d0 d1) (f178_k11 K a0 a1 a2 L bq9 bq10 (realL (f178E K) 2))) = fun c0 c1 d0 d1 => f178_l11 K a0 a1 a2 c0 c1 (fun v0 v1 => L (f178_fr8 a0 a1 a2 v0 v1)) K d0 d1 := by
    funext c0 c1 d0 d1
    exact f178_t11 K a0 a1 a2 c0 c1 L bq9 bq10 d0 d1 K d0 d1
  exact (key (realL (f178E K) 2) L x.1 x.2).trans (by rw [h11] <;> rfl)
theorem f178_run (K : Nat) (a0 : Int × Int × Int) (a1 : List tM) (a2 : List tV) : runF (f178E K) Tryz.f178 [(.ro, sL), (.ro, (.list 95 sM)), (.ro, (.list 79 sV))] [(.list 84 (.list 79 sV))] (a0, a1, a2, ()) = f178G K a0 a1 a2 := by
  have key : ∀ (lr : LR (List (List tV))), runG (f178E K) Tryz.f178 [(.ro, sL), (.ro, (.list 95 sM)), (.ro, (.list 79 sV))] [(.list 84 (.list 79 sV))] (a0, a1, a2, ()) lr = f178_g K a0 a1 a2 (fun d0 d1 => lr (selC f178C [1, 1, 0, 1, 0, 0]) (f178_fr8 a0 a1 a2 d0 d1) (f178_k8 K a0 a1 a2 lr)) := by intro lr; kernel_rfl
  have h8 : (fun d0 d1 => (realL (f178E K) 2) (selC f178C [1, 1, 0, 1, 0, 0]) (f178_fr8 a0 a1 a2 d0 d1) (f178_k8 K a0 a1 a2 (realL (f178E K) 2))) = fun d0 d1 => f178_l8 K a0 a1 a2 K d0 d1 := by
    funext d0 d1
    exact f178_t8 K a0 a1 a2 d0 d1 K d0 d1
  exact runF_G (n0 := 2) (by rfl) ((key (realL (f178E K) 2)).trans (by rw [h8] <;> rfl))
theorem f176_t10 (K : Nat) (a0 : Int × Int × Int) (a1 : List tM) (a2 : List tV) (y1 : List (List tV)) (q8 : Int) (F7 : Fr → Option Bool) (bq8 : Int) (bq9 : List (tV × Bool)) (bq11 : Int) (bq12 : List (tV × Bool)) : ∀ (n : Nat) (q11 : Int) (q12 : List (tV × Bool)), loopN (exec (f176E K) 2 (selC f176C [1, 1, 0, 1, 0, 0, 1, 1, 0, 0, 1, 1, 0, 0])) 2 (f176_fr10 a0 a1 a2 q8 y1 bq11 bq12) n (f176_fr10 a0 a1 a2 q8 y1 q11 q12) (f176_k10 K a0 a1 a2 y1 F7 bq8 bq9 (realL (f176E K) 2)) = f176_l10 K a0 a1 a2 q8 y1 (fun v0 v1 => F7 (f176_fr7 a0 a1 a2 y1 v0 v1)) n q11 q12 := by
  have key : ∀ (lr : LR Bool) (L : Fr → Option Bool) (q11 : Int) (q12 : List (tV × Bool)), execG (f176E K) 2 lr (selC f176C [1, 1, 0, 1, 0, 0, 1, 1, 0, 0, 1, 1, 0, 0]) (f176_fr10 a0 a1 a2 q8 y1 q11 q12) (loopK 2 (f176_fr10 a0 a1 a2 q8 y1 bq11 bq12) L (f176_k10 K a0 a1 a2 y1 F7 bq8 bq9 lr)) = f176_b10 K a0 a1 a2 q8 y1 (fun v0 v1 => F7 (f176_fr7 a0 a1 a2 y1 v0 v1)) (fun v0 v1 => L (f176_fr10 a0 a1 a2 q8 y1 v0 v1)) q11 q12 := by
    intro lr L q11 q12; kernel_rfl
  intro n q11 q12
  refine loopN_iter (X := Int × List (tV × Bool)) (frame := fun x => (f176_fr10 a0 a1 a2 q8 y1 x.1 x.2)) (body := (fun L x => (fun L10 => f176_b10 K a0 a1 a2 q8 y1 (fun v0 v1 => F7 (f176_fr7 a0 a1 a2 y1 v0 v1)) L10 x.1 x.2) (fun v0 v1 => L (v0, v1)))) (fun L x => ?_) n (q11, q12)
  rw [exec_G]
  exact (key (realL (f176E K) 2) L x.1 x.2).trans (by rfl)
theorem f176_t7 (K : Nat) (a0 : Int × Int × Int) (a1 : List tM) (a2 : List tV) (y1 : List (List tV)) (bq8 : Int) (bq9 : List (tV × Bool)) : ∀ (n : Nat) (q8 : Int) (q9 : List (tV × Bool)), loopN (exec (f176E K) 2 (selC f176C [1, 1, 0, 1, 0, 0])) 2 (f176_fr7 a0 a1 a2 y1 bq8 bq9) n (f176_fr7 a0 a1 a2 y1 q8 q9) (f176_k7 K a0 a1 a2 (realL (f176E K) 2)) = f176_l7 K a0 a1 a2 y1 n q8 q9 := by
  have key : ∀ (lr : LR Bool) (L : Fr → Option Bool) (q8 : Int) (q9 : List (tV × Bool)), execG (f176E K) 2 lr (selC f176C [1, 1, 0, 1, 0, 0]) (f176_fr7 a0 a1 a2 y1 q8 q9) (loopK 2 (f176_fr7 a0 a1 a2 y1 bq8 bq9) L (f176_k7 K a0 a1 a2 lr)) = f176_b7 K a0 a1 a2 y1 (fun c0 d0 d1 => lr (selC f176C [1, 1, 0, 1, 0, 0, 1, 1, 0, 0, 1, 1, 0, 0]) (f176_fr10 a0 a1 a2 c0 y1 d0 d1) (f176_k10 K a0 a1 a2 y1 L bq8 bq9 lr)) (fun v0 v1 => L (f176_fr7 a0 a1 a2 y1 v0 v1)) q8 q9 := by
    intro lr L q8 q9; kernel_rfl
  intro n q8 q9
  refine loopN_iter (X := Int × List (tV × Bool)) (frame := fun x => (f176_fr7 a0 a1 a2 y1 x.1 x.2)) (body := (fun L x => (fun L7 => f176_b7 K a0 a1 a2 y1 (fun c0 d0 d1 => f176_l10 K a0 a1 a2 c0 y1 L7 K d0 d1) L7 x.1 x.2) (fun v0 v1 => L (v0, v1)))) (fun L x => ?_) n (q8, q9)
  rw [exec_G]
  have h10 : (fun c0 d0 d1 => (realL (f176E K) 2) (selC f176C [1, 1, 0, 1, 0, 0, 1, 1, 0, 0, 1, 1, 0, 0]) (f176_fr10 a0 a1 a2 c0 y1 d0 d1) (f176_k10 K a0 a1 a2 y1 L bq8 bq9 (realL (f176E K) 2))) = fun c0 d0 d1 => f176_l10 K a0 a1 a2 c0 y1 (fun v0 v1 => L (f176_fr7 a0 a1 a2 y1 v0 v1)) K d0 d1 := by
    funext c0 d0 d1
    exact f176_t10 K a0 a1 a2 y1 c0 L bq8 bq9 d0 d1 K d0 d1
  exact (key (realL (f176E K) 2) L x.1 x.2).trans (by rw [h10] <;> rfl)
theorem f176_run (K : Nat) (a0 : Int × Int × Int) (a1 : List tM) (a2 : List tV) : runF (f176E K) Tryz.f176 [(.ro, sL), (.ro, (.list 95 sM)), (.ro, (.list 79 sV))] [.bool] (a0, a1, a2, ()) = f176G K a0 a1 a2 := by
  have key : ∀ (lr : LR Bool), runG (f176E K) Tryz.f176 [(.ro, sL), (.ro, (.list 95 sM)), (.ro, (.list 79 sV))] [.bool] (a0, a1, a2, ()) lr = f176_g K a0 a1 a2 (fun c0 d0 d1 => lr (selC f176C [1, 1, 0, 1, 0, 0]) (f176_fr7 a0 a1 a2 c0 d0 d1) (f176_k7 K a0 a1 a2 lr)) := by intro lr; kernel_rfl
  have h7 : (fun c0 d0 d1 => (realL (f176E K) 2) (selC f176C [1, 1, 0, 1, 0, 0]) (f176_fr7 a0 a1 a2 c0 d0 d1) (f176_k7 K a0 a1 a2 (realL (f176E K) 2))) = fun c0 d0 d1 => f176_l7 K a0 a1 a2 c0 K d0 d1 := by
    funext c0 d0 d1
    exact f176_t7 K a0 a1 a2 c0 d0 d1 K d0 d1
  exact runF_G (n0 := 2) (by rfl) ((key (realL (f176E K) 2)).trans (by rw [h7] <;> rfl))
theorem f130_run (K : Nat) (a0 : Int × Int × Int) (a1 : Int × Int) : runF (f130E K) Tryz.f130 [(.ro, sL), (.ro, sV)] [sI] (a0, a1, ()) = f130G K a0 a1 := by kernel_rfl
theorem f177_t4 (K : Nat) (a0 : Int) (a1 : Int × Int × Int) (a2 : List tV) (a3 bq5 : Int) (bq6 : List Int) : ∀ (n : Nat) (q5 : Int) (q6 : List Int), loopN (exec (f177E K) 1 (selC f177C [1, 1, 0, 1, 0, 0])) 1 (f177_fr4 a0 a1 a2 a3 bq5 bq6) n (f177_fr4 a0 a1 a2 a3 q5 q6) (f177_k4 K a0 a1 a2 a3 (realL (f177E K) 1)) = f177_l4 K a0 a1 a2 a3 n q5 q6 := by
  have key : ∀ (lr : LR (Int × tL × List Int)) (L : Fr → Option (Int × tL × List Int)) (q5 : Int) (q6 : List Int), execG (f177E K) 1 lr (selC f177C [1, 1, 0, 1, 0, 0]) (f177_fr4 a0 a1 a2 a3 q5 q6) (loopK 1 (f177_fr4 a0 a1 a2 a3 bq5 bq6) L (f177_k4 K a0 a1 a2 a3 lr)) = f177_b4 K a0 a1 a2 a3 (fun v0 v1 => L (f177_fr4 a0 a1 a2 a3 v0 v1)) q5 q6 := by
    intro lr L q5 q6; kernel_rfl
  intro n q5 q6
  refine loopN_iter (X := Int × List Int) (frame := fun x => (f177_fr4 a0 a1 a2 a3 x.1 x.2)) (body := (fun L x => (fun L4 => f177_b4 K a0 a1 a2 a3 L4 x.1 x.2) (fun v0 v1 => L (v0, v1)))) (fun L x => ?_) n (q5, q6)
  rw [exec_G]
  exact (key (realL (f177E K) 1) L x.1 x.2).trans (by rfl)
theorem f177_run (K : Nat) (a0 : Int) (a1 : Int × Int × Int) (a2 : List tV) (a3 : Int) : runF (f177E K) Tryz.f177 [(.ro, sI), (.ro, sL), (.ro, (.list 79 sV)), (.ro, sI)] [(.cons sI (.cons sL (.list 2 sI)))] (a0, a1, a2, a3, ()) = f177G K a0 a1 a2 a3 := by
  have key : ∀ (lr : LR (Int × tL × List Int)), runG (f177E K) Tryz.f177 [(.ro, sI), (.ro, sL), (.ro, (.list 79 sV)), (.ro, sI)] [(.cons sI (.cons sL (.list 2 sI)))] (a0, a1, a2, a3, ()) lr = f177_g K a0 a1 a2 a3 (fun d0 d1 => lr (selC f177C [1, 1, 0, 1, 0, 0]) (f177_fr4 a0 a1 a2 a3 d0 d1) (f177_k4 K a0 a1 a2 a3 lr)) := by intro lr; kernel_rfl
  have h4 : (fun d0 d1 => (realL (f177E K) 1) (selC f177C [1, 1, 0, 1, 0, 0]) (f177_fr4 a0 a1 a2 a3 d0 d1) (f177_k4 K a0 a1 a2 a3 (realL (f177E K) 1))) = fun d0 d1 => f177_l4 K a0 a1 a2 a3 K d0 d1 := by
    funext d0 d1
    exact f177_t4 K a0 a1 a2 a3 d0 d1 K d0 d1
  exact runF_G (n0 := 1) (by rfl) ((key (realL (f177E K) 1)).trans (by rw [h4] <;> rfl))
theorem f57_t15 (K : Nat) (a0 : Int) (a1 : Int × Int × Int) (a2 : List tM) (a3 : List tV) (y1 : Int) (y2 : Bool) (y3 : Int × tL × List Int) (y4 : List (List tV)) (q13 : Int) (F12 : Fr → Option ((Int × tL × List Int) × Int)) (bq13 : Int) (bq14 : List Int) (bq16 : Int) (bq17 : List Int) : ∀ (n : Nat) (q16 : Int) (q17 : List Int), loopN (exec (f57E K) 2 (selC f57C [1, 1, 1, 1, 0, 1, 0, 0, 1, 1, 0, 0, 1, 1, 0, 0])) 2 (f57_fr15 a0 a1 a2 a3 q13 y1 y2 y3 y4 bq16 bq17) n (f57_fr15 a0 a1 a2 a3 q13 y1 y2 y3 y4 q16 q17) (f57_k15 K a0 a1 a2 a3 y1 y2 y3 y4 F12 bq13 bq14 (realL (f57E K) 2)) = f57_l15 K a0 a1 a2 a3 q13 y1 y2 y3 y4 (fun v0 v1 => F12 (f57_fr12 a0 a1 a2 a3 y1 y2 y3 y4 v0 v1)) n q16 q17 := by
  have key : ∀ (lr : LR ((Int × tL × List Int) × Int)) (L : Fr → Option ((Int × tL × List Int) × Int)) (q16 : Int) (q17 : List Int), execG (f57E K) 2 lr (selC f57C [1, 1, 1, 1, 0, 1, 0, 0, 1, 1, 0, 0, 1, 1, 0, 0]) (f57_fr15 a0 a1 a2 a3 q13 y1 y2 y3 y4 q16 q17) (loopK 2 (f57_fr15 a0 a1 a2 a3 q13 y1 y2 y3 y4 bq16 bq17) L (f57_k15 K a0 a1 a2 a3 y1 y2 y3 y4 F12 bq13 bq14 lr)) = f57_b15 K a0 a1 a2 a3 q13 y1 y2 y3 y4 (fun v0 v1 => F12 (f57_fr12 a0 a1 a2 a3 y1 y2 y3 y4 v0 v1)) (fun v0 v1 => L (f57_fr15 a0 a1 a2 a3 q13 y1 y2 y3 y4 v0 v1)) q16 q17 := by
    intro lr L q16 q17; kernel_rfl
  intro n q16 q17
  refine loopN_iter (X := Int × List Int) (frame := fun x => (f57_fr15 a0 a1 a2 a3 q13 y1 y2 y3 y4 x.1 x.2)) (body := (fun L x => (fun L15 => f57_b15 K a0 a1 a2 a3 q13 y1 y2 y3 y4 (fun v0 v1 => F12 (f57_fr12 a0 a1 a2 a3 y1 y2 y3 y4 v0 v1)) L15 x.1 x.2) (fun v0 v1 => L (v0, v1)))) (fun L x => ?_) n (q16, q17)
  rw [exec_G]
  exact (key (realL (f57E K) 2) L x.1 x.2).trans (by rfl)
theorem f57_t12 (K : Nat) (a0 : Int) (a1 : Int × Int × Int) (a2 : List tM) (a3 : List tV) (y1 : Int) (y2 : Bool) (y3 : Int × tL × List Int) (y4 : List (List tV)) (bq13 : Int) (bq14 : List Int) : ∀ (n : Nat) (q13 : Int) (q14 : List Int), loopN (exec (f57E K) 2 (selC f57C [1, 1, 1, 1, 0, 1, 0, 0])) 2 (f57_fr12 a0 a1 a2 a3 y1 y2 y3 y4 bq13 bq14) n (f57_fr12 a0 a1 a2 a3 y1 y2 y3 y4 q13 q14) (f57_k12 K a0 a1 a2 a3 (realL (f57E K) 2)) = f57_l12 K a0 a1 a2 a3 y1 y2 y3 y4 n q13 q14 := by
  have key : ∀ (lr : LR ((Int × tL × List Int) × Int)) (L : Fr → Option ((Int × tL × List Int) × Int)) (q13 : Int) (q14 : List Int), execG (f57E K) 2 lr (selC f57C [1, 1, 1, 1, 0, 1, 0, 0]) (f57_fr12 a0 a1 a2 a3 y1 y2 y3 y4 q13 q14) (loopK 2 (f57_fr12 a0 a1 a2 a3 y1 y2 y3 y4 bq13 bq14) L (f57_k12 K a0 a1 a2 a3 lr)) = f57_b12 K a0 a1 a2 a3 y1 y2 y3 y4 (fun c0 d0 d1 => lr (selC f57C [1, 1, 1, 1, 0, 1, 0, 0, 1, 1, 0, 0, 1, 1, 0, 0]) (f57_fr15 a0 a1 a2 a3 c0 y1 y2 y3 y4 d0 d1) (f57_k15 K a0 a1 a2 a3 y1 y2 y3 y4 L bq13 bq14 lr)) (fun v0 v1 => L (f57_fr12 a0 a1 a2 a3 y1 y2 y3 y4 v0 v1)) q13 q14 := by
    intro lr L q13 q14; kernel_rfl
  intro n q13 q14
  refine loopN_iter (X := Int × List Int) (frame := fun x => (f57_fr12 a0 a1 a2 a3 y1 y2 y3 y4 x.1 x.2)) (body := (fun L x => (fun L12 => f57_b12 K a0 a1 a2 a3 y1 y2 y3 y4 (fun c0 d0 d1 => f57_l15 K a0 a1 a2 a3 c0 y1 y2 y3 y4 L12 K d0 d1) L12 x.1 x.2) (fun v0 v1 => L (v0, v1)))) (fun L x => ?_) n (q13, q14)
  rw [exec_G]
  have h15 : (fun c0 d0 d1 => (realL (f57E K) 2) (selC f57C [1, 1, 1, 1, 0, 1, 0, 0, 1, 1, 0, 0, 1, 1, 0, 0]) (f57_fr15 a0 a1 a2 a3 c0 y1 y2 y3 y4 d0 d1) (f57_k15 K a0 a1 a2 a3 y1 y2 y3 y4 L bq13 bq14 (realL (f57E K) 2))) = fun c0 d0 d1 => f57_l15 K a0 a1 a2 a3 c0 y1 y2 y3 y4 (fun v0 v1 => L (f57_fr12 a0 a1 a2 a3 y1 y2 y3 y4 v0 v1)) K d0 d1 := by
    funext c0 d0 d1
    exact f57_t15 K a0 a1 a2 a3 y1 y2 y3 y4 c0 L bq13 bq14 d0 d1 K d0 d1
  exact (key (realL (f57E K) 2) L x.1 x.2).trans (by rw [h15] <;> rfl)
theorem f57_run (K : Nat) (a0 : Int) (a1 : Int × Int × Int) (a2 : List tM) (a3 : List tV) : runF (f57E K) Tryz.f57 [(.ro, sI), (.ro, sL), (.ro, (.list 95 sM)), (.ro, (.list 79 sV))] [(.cons sI (.cons sL (.list 2 sI))), sI] (a0, a1, a2, a3, ()) = f57G K a0 a1 a2 a3 := by
  have key : ∀ (lr : LR ((Int × tL × List Int) × Int)), runG (f57E K) Tryz.f57 [(.ro, sI), (.ro, sL), (.ro, (.list 95 sM)), (.ro, (.list 79 sV))] [(.cons sI (.cons sL (.list 2 sI))), sI] (a0, a1, a2, a3, ()) lr = f57_g K a0 a1 a2 a3 (fun c0 c1 c2 c3 d0 d1 => lr (selC f57C [1, 1, 1, 1, 0, 1, 0, 0]) (f57_fr12 a0 a1 a2 a3 c0 c1 c2 c3 d0 d1) (f57_k12 K a0 a1 a2 a3 lr)) := by intro lr; kernel_rfl
  have h12 : (fun c0 c1 c2 c3 d0 d1 => (realL (f57E K) 2) (selC f57C [1, 1, 1, 1, 0, 1, 0, 0]) (f57_fr12 a0 a1 a2 a3 c0 c1 c2 c3 d0 d1) (f57_k12 K a0 a1 a2 a3 (realL (f57E K) 2))) = fun c0 c1 c2 c3 d0 d1 => f57_l12 K a0 a1 a2 a3 c0 c1 c2 c3 K d0 d1 := by
    funext c0 c1 c2 c3 d0 d1
    exact f57_t12 K a0 a1 a2 a3 c0 c1 c2 c3 d0 d1 K d0 d1
  exact runF_G (n0 := 2) (by rfl) ((key (realL (f57E K) 2)).trans (by rw [h12] <;> rfl))
theorem f282_t4 (K : Nat) (a0 : List tV) (bq5 : Int) : ∀ (n : Nat) (q5 : Int), loopN (exec (f282E K) 1 (selC f282C [1, 0, 1, 0, 0])) 1 (f282_fr4 a0 bq5) n (f282_fr4 a0 q5) (f282_k4 K a0 (realL (f282E K) 1)) = f282_l4 K a0 n q5 := by
  have key : ∀ (lr : LR Bool) (L : Fr → Option Bool) (q5 : Int), execG (f282E K) 1 lr (selC f282C [1, 0, 1, 0, 0]) (f282_fr4 a0 q5) (loopK 1 (f282_fr4 a0 bq5) L (f282_k4 K a0 lr)) = f282_b4 K a0 (fun v0 => L (f282_fr4 a0 v0)) q5 := by
    intro lr L q5; kernel_rfl
  intro n q5
  refine loopN_iter (X := Int) (frame := fun x => (f282_fr4 a0 x)) (body := (fun L x => (fun L4 => f282_b4 K a0 L4 x) (fun v0 => L v0))) (fun L x => ?_) n q5
  rw [exec_G]
  exact (key (realL (f282E K) 1) L x).trans (by rfl)
theorem f282_run (K : Nat) (a0 : List tV) : runF (f282E K) Tryz.f282 [(.ro, (.list 79 sV))] [.bool] (a0, ()) = f282G K a0 := by
  have key : ∀ (lr : LR Bool), runG (f282E K) Tryz.f282 [(.ro, (.list 79 sV))] [.bool] (a0, ()) lr = f282_g K a0 (fun d0 => lr (selC f282C [1, 0, 1, 0, 0]) (f282_fr4 a0 d0) (f282_k4 K a0 lr)) := by intro lr; kernel_rfl
  have h4 : (fun d0 => (realL (f282E K) 1) (selC f282C [1, 0, 1, 0, 0]) (f282_fr4 a0 d0) (f282_k4 K a0 (realL (f282E K) 1))) = fun d0 => f282_l4 K a0 K d0 := by
    funext d0
    exact f282_t4 K a0 d0 K d0
  exact runF_G (n0 := 1) (by rfl) ((key (realL (f282E K) 1)).trans (by rw [h4] <;> rfl))
theorem f179_run (K : Nat) (a0 : Int) (a1 : Int × Int × Int) (a2 : List tM) (a3 : List tV) : runF (f179E K) Tryz.f179 [(.ro, sI), (.ro, sL), (.ro, (.list 95 sM)), (.ro, (.list 79 sV))] [sI] (a0, a1, a2, a3, ()) = f179G K a0 a1 a2 a3 := by kernel_rfl
end Go.Proofs.YtfccacobkcglcaaGreat.X
