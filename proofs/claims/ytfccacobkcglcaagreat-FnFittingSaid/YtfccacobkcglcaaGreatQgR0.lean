/- Functions of the program as plain Lean functions, and that the program does what they say. Printed by gen.py. -/
import Derived.Test.YtfccacobkcglcaaGreatQgD1
namespace Go.Proofs.YtfccacobkcglcaaGreat.X
open Go
set_option maxRecDepth 100000
set_option linter.unusedVariables false
theorem f55_run (K : Nat) (a0 : List Int) : runF (f55E K) Tryz.f55 [(.ro, (.list 5 (.int .u8)))] [.bool] (a0, ()) = f55G K a0 := by kernel_rfl
theorem f174_t2 (K : Nat) (a0 : List Int) (bq3 bq4 : Int) : ∀ (n : Nat) (q3 q4 : Int), loopN (exec (f174E K) 1 (selC f174C [1, 1, 0, 1, 0, 0])) 1 (f174_fr2 a0 bq3 bq4) n (f174_fr2 a0 q3 q4) (f174_k2 K a0 (realL (f174E K) 1)) = f174_l2 K a0 n q3 q4 := by
  have key : ∀ (lr : LR tV) (L : Fr → Option tV) (q3 q4 : Int), execG (f174E K) 1 lr (selC f174C [1, 1, 0, 1, 0, 0]) (f174_fr2 a0 q3 q4) (loopK 1 (f174_fr2 a0 bq3 bq4) L (f174_k2 K a0 lr)) = f174_b2 K a0 (fun v0 v1 => L (f174_fr2 a0 v0 v1)) q3 q4 := by
    intro lr L q3 q4; kernel_rfl
  intro n q3 q4
  refine loopN_iter (X := Int × Int) (frame := fun x => (f174_fr2 a0 x.1 x.2)) (body := (fun L x => (fun L2 => f174_b2 K a0 L2 x.1 x.2) (fun v0 v1 => L (v0, v1)))) (fun L x => ?_) n (q3, q4)
  rw [exec_G]
  exact (key (realL (f174E K) 1) L x.1 x.2).trans (by rfl)
theorem f174_run (K : Nat) (a0 : List Int) : runN (f174E K) Tryz.f174 5 (.int .u8) sV [] (a0, ()) = f174G K a0 := by
  have key : ∀ (lr : LR tV), runNG (f174E K) Tryz.f174 5 (.int .u8) sV [] (a0, ()) lr = f174_g K a0 (fun d0 d1 => lr (selC f174C [1, 1, 0, 1, 0, 0]) (f174_fr2 a0 d0 d1) (f174_k2 K a0 lr)) := by intro lr; kernel_rfl
  have h2 : (fun d0 d1 => (realL (f174E K) 1) (selC f174C [1, 1, 0, 1, 0, 0]) (f174_fr2 a0 d0 d1) (f174_k2 K a0 (realL (f174E K) 1))) = fun d0 d1 => f174_l2 K a0 K d0 d1 := by
    funext d0 d1
    exact f174_t2 K a0 d0 d1 K d0 d1
  exact runN_G (n0 := 1) (by rfl) ((key (realL (f174E K) 1)).trans (by rw [h2] <;> rfl))
theorem f194_run (K : Nat) (a0 : (List Int) × Int × Int) (a1 : Int) : runP (f194E K) Tryz.f194 5 (.int .u8) sV [(.ro, sI)] [sI] (a0, a1, ()) = f194G K a0 a1 := by kernel_rfl
theorem f142_run (K : Nat) : runF (f142E K) Tryz.f142 [] [(.list 9 .str)] (()) = f142G K := by kernel_rfl
theorem f198_run (K : Nat) (a0 : (List Int) × Int × Int) : runP (f198E K) Tryz.f198 5 (.int .u8) sV [] [.str] (a0, ()) = f198G K a0 := by kernel_rfl
theorem f252_run (K : Nat) (a0 : ByteArray) (a1 : Int) : runF (f252E K) Tryz.f252 [(.ro, .str), (.ro, sI)] [sI, (.list 95 sM), .bool] (a0, a1, ()) = f252G K a0 a1 := by kernel_rfl
theorem f141_run (K : Nat) (a0 a1 a2 : Int) : runF (f141E K) Tryz.f141 [(.ro, sI), (.ro, sI), (.ro, sI)] [.bool] (a0, a1, a2, ()) = f141G K a0 a1 a2 := by kernel_rfl
theorem f233_run (K : Nat) : runF (f233E K) Tryz.f233 [] [sA] (()) = f233G K := by kernel_rfl
theorem f306_run (K : Nat) : runF (f306E K) Tryz.f306 [] [sM] (()) = f306G K := by kernel_rfl
theorem f351_run (K : Nat) (a0 a1 : Int × Int × Int × Int) : runF (f351E K) Tryz.f351 [(.ro, sA), (.ro, sA)] [sA] (a0, a1, ()) = f351G K a0 a1 := by kernel_rfl
theorem f341_run (K : Nat) (a0 : Int × Int × Int × Int) (a1 : Int × Int) : runF (f341E K) Tryz.f341 [(.ro, sA), (.ro, sV)] [sV] (a0, a1, ()) = f341G K a0 a1 := by kernel_rfl
theorem f340_run (K : Nat) (a0 a1 : Int × Int) : runF (f340E K) Tryz.f340 [(.ro, sV), (.ro, sV)] [sV] (a0, a1, ()) = f340G K a0 a1 := by kernel_rfl
theorem f307_run (K : Nat) (a0 a1 : tA × Int × Int) : runF (f307E K) Tryz.f307 [(.ro, sM), (.ro, sM)] [sM] (a0, a1, ()) = f307G K a0 a1 := by kernel_rfl
theorem f255_run (K : Nat) (a0 a1 : Int) : runF (f255E K) Tryz.f255 [(.ro, sI), (.ro, sI)] [sI] (a0, a1, ()) = f255G K a0 a1 := by kernel_rfl
theorem f153_run (K : Nat) (a0 : Int × Int × Int) (a1 : Int × Int) : runF (f153E K) Tryz.f153 [(.ro, sL), (.ro, sV)] [sV] (a0, a1, ()) = f153G K a0 a1 := by kernel_rfl
theorem f303_run (K : Nat) (a0 : Int × Int × Int) (a1 : tA × Int × Int) : runF (f303E K) Tryz.f303 [(.ro, sL), (.ro, sM)] [sM] (a0, a1, ()) = f303G K a0 a1 := by kernel_rfl
theorem f398_run (K : Nat) (a0 : Int × Int × Int × Int) : runF (f398E K) Tryz.f398 [(.ro, sA)] [(.list 2 sI)] (a0, ()) = f398G K a0 := by kernel_rfl
theorem f397_t2 (K : Nat) (a0 a1 : List Int) (bq3 : Int) : ∀ (n : Nat) (q3 : Int), loopN (exec (f397E K) 2 (selC f397C [1, 0, 1, 0, 0])) 2 (f397_fr2 a0 a1 bq3) n (f397_fr2 a0 a1 q3) (f397_k2 K a0 a1 (realL (f397E K) 2)) = f397_l2 K a0 a1 n q3 := by
  have key : ∀ (lr : LR Bool) (L : Fr → Option Bool) (q3 : Int), execG (f397E K) 2 lr (selC f397C [1, 0, 1, 0, 0]) (f397_fr2 a0 a1 q3) (loopK 2 (f397_fr2 a0 a1 bq3) L (f397_k2 K a0 a1 lr)) = f397_b2 K a0 a1 (fun v0 => L (f397_fr2 a0 a1 v0)) q3 := by
    intro lr L q3; kernel_rfl
  intro n q3
  refine loopN_iter (X := Int) (frame := fun x => (f397_fr2 a0 a1 x)) (body := (fun L x => (fun L2 => f397_b2 K a0 a1 L2 x) (fun v0 => L v0))) (fun L x => ?_) n q3
  rw [exec_G]
  exact (key (realL (f397E K) 2) L x).trans (by rfl)
theorem f397_run (K : Nat) (a0 a1 : List Int) : runF (f397E K) Tryz.f397 [(.ro, (.list 2 sI)), (.ro, (.list 2 sI))] [.bool] (a0, a1, ()) = f397G K a0 a1 := by
  have key : ∀ (lr : LR Bool), runG (f397E K) Tryz.f397 [(.ro, (.list 2 sI)), (.ro, (.list 2 sI))] [.bool] (a0, a1, ()) lr = f397_g K a0 a1 (fun d0 => lr (selC f397C [1, 0, 1, 0, 0]) (f397_fr2 a0 a1 d0) (f397_k2 K a0 a1 lr)) := by intro lr; kernel_rfl
  have h2 : (fun d0 => (realL (f397E K) 2) (selC f397C [1, 0, 1, 0, 0]) (f397_fr2 a0 a1 d0) (f397_k2 K a0 a1 (realL (f397E K) 2))) = fun d0 => f397_l2 K a0 a1 K d0 := by
    funext d0
    exact f397_t2 K a0 a1 d0 K d0
  exact runF_G (n0 := 2) (by rfl) ((key (realL (f397E K) 2)).trans (by rw [h2] <;> rfl))
theorem f350_run (K : Nat) (a0 a1 : Int × Int × Int × Int) : runF (f350E K) Tryz.f350 [(.ro, sA), (.ro, sA)] [.bool] (a0, a1, ()) = f350G K a0 a1 := by kernel_rfl
theorem f339_run (K : Nat) (a0 a1 : Int × Int) : runF (f339E K) Tryz.f339 [(.ro, sV), (.ro, sV)] [.bool] (a0, a1, ()) = f339G K a0 a1 := by kernel_rfl
theorem f304_run (K : Nat) (a0 a1 : tA × Int × Int) : runF (f304E K) Tryz.f304 [(.ro, sM), (.ro, sM)] [.bool] (a0, a1, ()) = f304G K a0 a1 := by kernel_rfl
theorem f328_t6 (K : Nat) (a0 : List tM) (a1 : tA × Int × Int) (bq7 bq8 : Int) : ∀ (n : Nat) (q7 q8 : Int), loopN (exec (f328E K) 1 (selC f328C [1, 1, 0, 0, 0])) 1 (f328_fr6 a0 a1 bq7 bq8) n (f328_fr6 a0 a1 q7 q8) (f328_k6 K a0 a1 (realL (f328E K) 1)) = f328_l6 K a0 a1 n q7 q8 := by
  have key : ∀ (lr : LR Int) (L : Fr → Option Int) (q7 q8 : Int), execG (f328E K) 1 lr (selC f328C [1, 1, 0, 0, 0]) (f328_fr6 a0 a1 q7 q8) (loopK 1 (f328_fr6 a0 a1 bq7 bq8) L (f328_k6 K a0 a1 lr)) = f328_b6 K a0 a1 (fun v0 v1 => L (f328_fr6 a0 a1 v0 v1)) q7 q8 := by
    intro lr L q7 q8; kernel_rfl
  intro n q7 q8
  refine loopN_iter (X := Int × Int) (frame := fun x => (f328_fr6 a0 a1 x.1 x.2)) (body := (fun L x => (fun L6 => f328_b6 K a0 a1 L6 x.1 x.2) (fun v0 v1 => L (v0, v1)))) (fun L x => ?_) n (q7, q8)
  rw [exec_G]
  exact (key (realL (f328E K) 1) L x.1 x.2).trans (by rfl)
theorem f328_run (K : Nat) (a0 : List tM) (a1 : tA × Int × Int) : runF (f328E K) Tryz.f328 [(.ro, (.list 95 sM)), (.ro, sM)] [sI] (a0, a1, ()) = f328G K a0 a1 := by
  have key : ∀ (lr : LR Int), runG (f328E K) Tryz.f328 [(.ro, (.list 95 sM)), (.ro, sM)] [sI] (a0, a1, ()) lr = f328_g K a0 a1 (fun d0 d1 => lr (selC f328C [1, 1, 0, 0, 0]) (f328_fr6 a0 a1 d0 d1) (f328_k6 K a0 a1 lr)) := by intro lr; kernel_rfl
  have h6 : (fun d0 d1 => (realL (f328E K) 1) (selC f328C [1, 1, 0, 0, 0]) (f328_fr6 a0 a1 d0 d1) (f328_k6 K a0 a1 (realL (f328E K) 1))) = fun d0 d1 => f328_l6 K a0 a1 K d0 d1 := by
    funext d0 d1
    exact f328_t6 K a0 a1 d0 d1 K d0 d1
  exact runF_G (n0 := 1) (by rfl) ((key (realL (f328E K) 1)).trans (by rw [h6] <;> rfl))
theorem f305_run (K : Nat) (a0 : List tM) (a1 : tA × Int × Int) : runF (f305E K) Tryz.f305 [(.ro, (.list 95 sM)), (.ro, sM)] [.bool] (a0, a1, ()) = f305G K a0 a1 := by kernel_rfl
theorem f324_run (K : Nat) (a0 : List tM) (a1 : tA × Int × Int) : runF (f324E K) Tryz.f324 [(.mv, (.list 95 sM)), (.ro, sM)] [(.list 95 sM)] (a0, a1, ()) = f324G K a0 a1 := by kernel_rfl
theorem f253_t21 (K : Nat) (a0 : Int × Int × Int) (a1 : List tM) (q18 : Int) (q20 : List tM) (F17 : Fr → Option (List tM)) (bq18 : Int) (bq19 bq20 : List tM) (bq22 : Int) (bq23 bq24 : List tM) : ∀ (n : Nat) (q22 : Int) (q23 q24 : List tM), loopN (exec (f253E K) 1 (selC f253C [1, 1, 1, 0, 1, 0, 0, 1, 0, 0, 1, 0, 0])) 1 (f253_fr21 a0 a1 q18 q20 bq22 bq23 bq24) n (f253_fr21 a0 a1 q18 q20 q22 q23 q24) (f253_k21 K a0 a1 F17 bq18 bq19 bq20 (realL (f253E K) 1)) = f253_l21 K a0 a1 q18 q20 (fun v0 v1 v2 => F17 (f253_fr17 a0 a1 v0 v1 v2)) n q22 q23 q24 := by
  have key : ∀ (lr : LR (List tM)) (L : Fr → Option (List tM)) (q22 : Int) (q23 q24 : List tM), execG (f253E K) 1 lr (selC f253C [1, 1, 1, 0, 1, 0, 0, 1, 0, 0, 1, 0, 0]) (f253_fr21 a0 a1 q18 q20 q22 q23 q24) (loopK 1 (f253_fr21 a0 a1 q18 q20 bq22 bq23 bq24) L (f253_k21 K a0 a1 F17 bq18 bq19 bq20 lr)) = f253_b21 K a0 a1 q18 q20 (fun v0 v1 v2 => F17 (f253_fr17 a0 a1 v0 v1 v2)) (fun v0 v1 v2 => L (f253_fr21 a0 a1 q18 q20 v0 v1 v2)) q22 q23 q24 := by
    intro lr L q22 q23 q24; kernel_rfl
  intro n q22 q23 q24
  refine loopN_iter (X := Int × List tM × List tM) (frame := fun x => (f253_fr21 a0 a1 q18 q20 x.1 x.2.1 x.2.2)) (body := (fun L x => (fun L21 => f253_b21 K a0 a1 q18 q20 (fun v0 v1 v2 => F17 (f253_fr17 a0 a1 v0 v1 v2)) L21 x.1 x.2.1 x.2.2) (fun v0 v1 v2 => L (v0, v1, v2)))) (fun L x => ?_) n (q22, q23, q24)
  rw [exec_G]
  exact (key (realL (f253E K) 1) L x.1 x.2.1 x.2.2).trans (by rfl)
theorem f253_t17 (K : Nat) (a0 : Int × Int × Int) (a1 : List tM) (bq18 : Int) (bq19 bq20 : List tM) : ∀ (n : Nat) (q18 : Int) (q19 q20 : List tM), loopN (exec (f253E K) 1 (selC f253C [1, 1, 1, 0, 1, 0, 0])) 1 (f253_fr17 a0 a1 bq18 bq19 bq20) n (f253_fr17 a0 a1 q18 q19 q20) (f253_k17 K a0 a1 (realL (f253E K) 1)) = f253_l17 K a0 a1 n q18 q19 q20 := by
  have key : ∀ (lr : LR (List tM)) (L : Fr → Option (List tM)) (q18 : Int) (q19 q20 : List tM), execG (f253E K) 1 lr (selC f253C [1, 1, 1, 0, 1, 0, 0]) (f253_fr17 a0 a1 q18 q19 q20) (loopK 1 (f253_fr17 a0 a1 bq18 bq19 bq20) L (f253_k17 K a0 a1 lr)) = f253_b17 K a0 a1 (fun c0 c1 d0 d1 d2 => lr (selC f253C [1, 1, 1, 0, 1, 0, 0, 1, 0, 0, 1, 0, 0]) (f253_fr21 a0 a1 c0 c1 d0 d1 d2) (f253_k21 K a0 a1 L bq18 bq19 bq20 lr)) (fun v0 v1 v2 => L (f253_fr17 a0 a1 v0 v1 v2)) q18 q19 q20 := by
    intro lr L q18 q19 q20; kernel_rfl
  intro n q18 q19 q20
  refine loopN_iter (X := Int × List tM × List tM) (frame := fun x => (f253_fr17 a0 a1 x.1 x.2.1 x.2.2)) (body := (fun L x => (fun L17 => f253_b17 K a0 a1 (fun c0 c1 d0 d1 d2 => f253_l21 K a0 a1 c0 c1 L17 K d0 d1 d2) L17 x.1 x.2.1 x.2.2) (fun v0 v1 v2 => L (v0, v1, v2)))) (fun L x => ?_) n (q18, q19, q20)
  rw [exec_G]
  have h21 : (fun c0 c1 d0 d1 d2 => (realL (f253E K) 1) (selC f253C [1, 1, 1, 0, 1, 0, 0, 1, 0, 0, 1, 0, 0]) (f253_fr21 a0 a1 c0 c1 d0 d1 d2) (f253_k21 K a0 a1 L bq18 bq19 bq20 (realL (f253E K) 1))) = fun c0 c1 d0 d1 d2 => f253_l21 K a0 a1 c0 c1 (fun v0 v1 v2 => L (f253_fr17 a0 a1 v0 v1 v2)) K d0 d1 d2 := by
    funext c0 c1 d0 d1 d2
    exact f253_t21 K a0 a1 c0 c1 L bq18 bq19 bq20 d0 d1 d2 K d0 d1 d2
  exact (key (realL (f253E K) 1) L x.1 x.2.1 x.2.2).trans (by rw [h21] <;> rfl)
theorem f253_run (K : Nat) (a0 : Int × Int × Int) (a1 : List tM) : runF (f253E K) Tryz.f253 [(.ro, sL), (.ro, (.list 95 sM))] [(.list 95 sM)] (a0, a1, ()) = f253G K a0 a1 := by
  have key : ∀ (lr : LR (List tM)), runG (f253E K) Tryz.f253 [(.ro, sL), (.ro, (.list 95 sM))] [(.list 95 sM)] (a0, a1, ()) lr = f253_g K a0 a1 (fun d0 d1 d2 => lr (selC f253C [1, 1, 1, 0, 1, 0, 0]) (f253_fr17 a0 a1 d0 d1 d2) (f253_k17 K a0 a1 lr)) := by intro lr; kernel_rfl
  have h17 : (fun d0 d1 d2 => (realL (f253E K) 1) (selC f253C [1, 1, 1, 0, 1, 0, 0]) (f253_fr17 a0 a1 d0 d1 d2) (f253_k17 K a0 a1 (realL (f253E K) 1))) = fun d0 d1 d2 => f253_l17 K a0 a1 K d0 d1 d2 := by
    funext d0 d1 d2
    exact f253_t17 K a0 a1 d0 d1 d2 K d0 d1 d2
  exact runF_G (n0 := 1) (by rfl) ((key (realL (f253E K) 1)).trans (by rw [h17] <;> rfl))
theorem f143_run (K : Nat) (a0 : ByteArray) (a1 : Int) : runF (f143E K) Tryz.f143 [(.ro, .str), (.ro, sI)] [sI, sL, (.list 95 sM), sI] (a0, a1, ()) = f143G K a0 a1 := by kernel_rfl
theorem f196_run (K : Nat) (a0 : (List Int) × Int × Int) (a1 : List Int) : runP (f196E K) Tryz.f196 5 (.int .u8) sV [(.ro, (.list 2 sI))] [sI] (a0, a1, ()) = f196G K a0 a1 := by kernel_rfl
theorem f291_run (K : Nat) (a0 : (List Int) × Int × Int) : runP (f291E K) Tryz.f291 5 (.int .u8) sV [] [sV] (a0, ()) = f291G K a0 := by kernel_rfl
theorem f199_t6 (K : Nat) (a0 : (List Int) × Int × Int) (bq7 bq8 bq9 : Int) (bq10 : List (tV × Int)) : ∀ (n : Nat) (q7 q8 q9 : Int) (q10 : List (tV × Int)), loopN (exec (f199E K) 1 (selC f199C [1, 1, 0, 1, 0, 0])) 1 (f199_fr6 a0 bq7 bq8 bq9 bq10) n (f199_fr6 a0 q7 q8 q9 q10) (f199_k6 K a0 (realL (f199E K) 1)) = f199_l6 K a0 n q7 q8 q9 q10 := by
  have key : ∀ (lr : LR (tV × List (tV × Int))) (L : Fr → Option (tV × List (tV × Int))) (q7 q8 q9 : Int) (q10 : List (tV × Int)), execG (f199E K) 1 lr (selC f199C [1, 1, 0, 1, 0, 0]) (f199_fr6 a0 q7 q8 q9 q10) (loopK 1 (f199_fr6 a0 bq7 bq8 bq9 bq10) L (f199_k6 K a0 lr)) = f199_b6 K a0 (fun v0 v1 v2 v3 => L (f199_fr6 a0 v0 v1 v2 v3)) q7 q8 q9 q10 := by
    intro lr L q7 q8 q9 q10; kernel_rfl
  intro n q7 q8 q9 q10
  refine loopN_iter (X := Int × Int × Int × List (tV × Int)) (frame := fun x => (f199_fr6 a0 x.1 x.2.1 x.2.2.1 x.2.2.2)) (body := (fun L x => (fun L6 => f199_b6 K a0 L6 x.1 x.2.1 x.2.2.1 x.2.2.2) (fun v0 v1 v2 v3 => L (v0, v1, v2, v3)))) (fun L x => ?_) n (q7, q8, q9, q10)
  rw [exec_G]
  exact (key (realL (f199E K) 1) L x.1 x.2.1 x.2.2.1 x.2.2.2).trans (by rfl)
theorem f199_run (K : Nat) (a0 : (List Int) × Int × Int) : runP (f199E K) Tryz.f199 5 (.int .u8) sV [] [(.list 133 (.cons sV sI))] (a0, ()) = f199G K a0 := by
  have key : ∀ (lr : LR (tV × List (tV × Int))), runPG (f199E K) Tryz.f199 5 (.int .u8) sV [] [(.list 133 (.cons sV sI))] (a0, ()) lr = f199_g K a0 (fun d0 d1 d2 d3 => lr (selC f199C [1, 1, 0, 1, 0, 0]) (f199_fr6 a0 d0 d1 d2 d3) (f199_k6 K a0 lr)) := by intro lr; kernel_rfl
  have h6 : (fun d0 d1 d2 d3 => (realL (f199E K) 1) (selC f199C [1, 1, 0, 1, 0, 0]) (f199_fr6 a0 d0 d1 d2 d3) (f199_k6 K a0 (realL (f199E K) 1))) = fun d0 d1 d2 d3 => f199_l6 K a0 K d0 d1 d2 d3 := by
    funext d0 d1 d2 d3
    exact f199_t6 K a0 d0 d1 d2 d3 K d0 d1 d2 d3
  exact runP_G (n0 := 1) (by rfl) ((key (realL (f199E K) 1)).trans (by rw [h6] <;> rfl))
theorem f232_t9 (K : Nat) (a0 : Int × Int × Int) (q7 : Int) (F6 : Fr → Option (List tV)) (bq7 : Int) (bq8 : List tV) (bq10 : Int) (bq11 : List tV) : ∀ (n : Nat) (q10 : Int) (q11 : List tV), loopN (exec (f232E K) 0 (selC f232C [1, 1, 0, 1, 0, 0, 1, 0, 0, 1, 0, 0])) 0 (f232_fr9 a0 q7 bq10 bq11) n (f232_fr9 a0 q7 q10 q11) (f232_k9 K a0 F6 bq7 bq8 (realL (f232E K) 0)) = f232_l9 K a0 q7 (fun v0 v1 => F6 (f232_fr6 a0 v0 v1)) n q10 q11 := by
  have key : ∀ (lr : LR (List tV)) (L : Fr → Option (List tV)) (q10 : Int) (q11 : List tV), execG (f232E K) 0 lr (selC f232C [1, 1, 0, 1, 0, 0, 1, 0, 0, 1, 0, 0]) (f232_fr9 a0 q7 q10 q11) (loopK 0 (f232_fr9 a0 q7 bq10 bq11) L (f232_k9 K a0 F6 bq7 bq8 lr)) = f232_b9 K a0 q7 (fun v0 v1 => F6 (f232_fr6 a0 v0 v1)) (fun v0 v1 => L (f232_fr9 a0 q7 v0 v1)) q10 q11 := by
    intro lr L q10 q11; kernel_rfl
  intro n q10 q11
  refine loopN_iter (X := Int × List tV) (frame := fun x => (f232_fr9 a0 q7 x.1 x.2)) (body := (fun L x => (fun L9 => f232_b9 K a0 q7 (fun v0 v1 => F6 (f232_fr6 a0 v0 v1)) L9 x.1 x.2) (fun v0 v1 => L (v0, v1)))) (fun L x => ?_) n (q10, q11)
  rw [exec_G]
  exact (key (realL (f232E K) 0) L x.1 x.2).trans (by rfl)
theorem f232_t6 (K : Nat) (a0 : Int × Int × Int) (bq7 : Int) (bq8 : List tV) : ∀ (n : Nat) (q7 : Int) (q8 : List tV), loopN (exec (f232E K) 0 (selC f232C [1, 1, 0, 1, 0, 0])) 0 (f232_fr6 a0 bq7 bq8) n (f232_fr6 a0 q7 q8) (f232_k6 K a0 (realL (f232E K) 0)) = f232_l6 K a0 n q7 q8 := by
  have key : ∀ (lr : LR (List tV)) (L : Fr → Option (List tV)) (q7 : Int) (q8 : List tV), execG (f232E K) 0 lr (selC f232C [1, 1, 0, 1, 0, 0]) (f232_fr6 a0 q7 q8) (loopK 0 (f232_fr6 a0 bq7 bq8) L (f232_k6 K a0 lr)) = f232_b6 K a0 (fun c0 d0 d1 => lr (selC f232C [1, 1, 0, 1, 0, 0, 1, 0, 0, 1, 0, 0]) (f232_fr9 a0 c0 d0 d1) (f232_k9 K a0 L bq7 bq8 lr)) (fun v0 v1 => L (f232_fr6 a0 v0 v1)) q7 q8 := by
    intro lr L q7 q8; kernel_rfl
  intro n q7 q8
  refine loopN_iter (X := Int × List tV) (frame := fun x => (f232_fr6 a0 x.1 x.2)) (body := (fun L x => (fun L6 => f232_b6 K a0 (fun c0 d0 d1 => f232_l9 K a0 c0 L6 K d0 d1) L6 x.1 x.2) (fun v0 v1 => L (v0, v1)))) (fun L x => ?_) n (q7, q8)
  rw [exec_G]
  have h9 : (fun c0 d0 d1 => (realL (f232E K) 0) (selC f232C [1, 1, 0, 1, 0, 0, 1, 0, 0, 1, 0, 0]) (f232_fr9 a0 c0 d0 d1) (f232_k9 K a0 L bq7 bq8 (realL (f232E K) 0))) = fun c0 d0 d1 => f232_l9 K a0 c0 (fun v0 v1 => L (f232_fr6 a0 v0 v1)) K d0 d1 := by
    funext c0 d0 d1
    exact f232_t9 K a0 c0 L bq7 bq8 d0 d1 K d0 d1
  exact (key (realL (f232E K) 0) L x.1 x.2).trans (by rw [h9] <;> rfl)
theorem f232_run (K : Nat) (a0 : Int × Int × Int) : runF (f232E K) Tryz.f232 [(.ro, sL)] [(.list 79 sV)] (a0, ()) = f232G K a0 := by
  have key : ∀ (lr : LR (List tV)), runG (f232E K) Tryz.f232 [(.ro, sL)] [(.list 79 sV)] (a0, ()) lr = f232_g K a0 (fun d0 d1 => lr (selC f232C [1, 1, 0, 1, 0, 0]) (f232_fr6 a0 d0 d1) (f232_k6 K a0 lr)) := by intro lr; kernel_rfl
  have h6 : (fun d0 d1 => (realL (f232E K) 0) (selC f232C [1, 1, 0, 1, 0, 0]) (f232_fr6 a0 d0 d1) (f232_k6 K a0 (realL (f232E K) 0))) = fun d0 d1 => f232_l6 K a0 K d0 d1 := by
    funext d0 d1
    exact f232_t6 K a0 d0 d1 K d0 d1
  exact runF_G (n0 := 0) (by rfl) ((key (realL (f232E K) 0)).trans (by rw [h6] <;> rfl))
theorem f284_run (K : Nat) (a0 : tA × Int × Int) (a1 : Int × Int) : runF (f284E K) Tryz.f284 [(.ro, sM), (.ro, sV)] [sV] (a0, a1, ()) = f284G K a0 a1 := by kernel_rfl
theorem f185_run (K : Nat) (a0 : Int × Int × Int) (a1 : tA × Int × Int) (a2 : Int × Int) : runF (f185E K) Tryz.f185 [(.ro, sL), (.ro, sM), (.ro, sV)] [sV] (a0, a1, a2, ()) = f185G K a0 a1 a2 := by kernel_rfl
theorem f280_t3 (K : Nat) (a0 : List tV) (a1 : Int × Int) (bq4 : Int) : ∀ (n : Nat) (q4 : Int), loopN (exec (f280E K) 1 (selC f280C [1, 1, 0, 0, 0])) 1 (f280_fr3 a0 a1 bq4) n (f280_fr3 a0 a1 q4) (f280_k3 K a0 a1 (realL (f280E K) 1)) = f280_l3 K a0 a1 n q4 := by
  have key : ∀ (lr : LR (List tV)) (L : Fr → Option (List tV)) (q4 : Int), execG (f280E K) 1 lr (selC f280C [1, 1, 0, 0, 0]) (f280_fr3 a0 a1 q4) (loopK 1 (f280_fr3 a0 a1 bq4) L (f280_k3 K a0 a1 lr)) = f280_b3 K a0 a1 (fun v0 => L (f280_fr3 a0 a1 v0)) q4 := by
    intro lr L q4; kernel_rfl
  intro n q4
  refine loopN_iter (X := Int) (frame := fun x => (f280_fr3 a0 a1 x)) (body := (fun L x => (fun L3 => f280_b3 K a0 a1 L3 x) (fun v0 => L v0))) (fun L x => ?_) n q4
  rw [exec_G]
  exact (key (realL (f280E K) 1) L x).trans (by rfl)
theorem f280_run (K : Nat) (a0 : List tV) (a1 : Int × Int) : runF (f280E K) Tryz.f280 [(.mv, (.list 79 sV)), (.ro, sV)] [(.list 79 sV)] (a0, a1, ()) = f280G K a0 a1 := by
  have key : ∀ (lr : LR (List tV)), runG (f280E K) Tryz.f280 [(.mv, (.list 79 sV)), (.ro, sV)] [(.list 79 sV)] (a0, a1, ()) lr = f280_g K a0 a1 (fun d0 => lr (selC f280C [1, 1, 0, 0, 0]) (f280_fr3 a0 a1 d0) (f280_k3 K a0 a1 lr)) := by intro lr; kernel_rfl
  have h3 : (fun d0 => (realL (f280E K) 1) (selC f280C [1, 1, 0, 0, 0]) (f280_fr3 a0 a1 d0) (f280_k3 K a0 a1 (realL (f280E K) 1))) = fun d0 => f280_l3 K a0 a1 K d0 := by
    funext d0
    exact f280_t3 K a0 a1 d0 K d0
  exact runF_G (n0 := 1) (by rfl) ((key (realL (f280E K) 1)).trans (by rw [h3] <;> rfl))
theorem f247_t4 (K : Nat) (a0 : Int × Int × Int) (a1 : List tM) (a2 : Int × Int) (bq5 : Int) (bq6 : List tV) : ∀ (n : Nat) (q5 : Int) (q6 : List tV), loopN (exec (f247E K) 1 (selC f247C [1, 1, 0, 1, 0, 0])) 1 (f247_fr4 a0 a1 a2 bq5 bq6) n (f247_fr4 a0 a1 a2 q5 q6) (f247_k4 K a0 a1 a2 (realL (f247E K) 1)) = f247_l4 K a0 a1 a2 n q5 q6 := by
  have key : ∀ (lr : LR (List tV)) (L : Fr → Option (List tV)) (q5 : Int) (q6 : List tV), execG (f247E K) 1 lr (selC f247C [1, 1, 0, 1, 0, 0]) (f247_fr4 a0 a1 a2 q5 q6) (loopK 1 (f247_fr4 a0 a1 a2 bq5 bq6) L (f247_k4 K a0 a1 a2 lr)) = f247_b4 K a0 a1 a2 (fun v0 v1 => L (f247_fr4 a0 a1 a2 v0 v1)) q5 q6 := by
    intro lr L q5 q6; kernel_rfl
  intro n q5 q6
  refine loopN_iter (X := Int × List tV) (frame := fun x => (f247_fr4 a0 a1 a2 x.1 x.2)) (body := (fun L x => (fun L4 => f247_b4 K a0 a1 a2 L4 x.1 x.2) (fun v0 v1 => L (v0, v1)))) (fun L x => ?_) n (q5, q6)
  rw [exec_G]
  exact (key (realL (f247E K) 1) L x.1 x.2).trans (by rfl)
theorem f247_run (K : Nat) (a0 : Int × Int × Int) (a1 : List tM) (a2 : Int × Int) : runF (f247E K) Tryz.f247 [(.ro, sL), (.ro, (.list 95 sM)), (.ro, sV)] [(.list 79 sV)] (a0, a1, a2, ()) = f247G K a0 a1 a2 := by
  have key : ∀ (lr : LR (List tV)), runG (f247E K) Tryz.f247 [(.ro, sL), (.ro, (.list 95 sM)), (.ro, sV)] [(.list 79 sV)] (a0, a1, a2, ()) lr = f247_g K a0 a1 a2 (fun d0 d1 => lr (selC f247C [1, 1, 0, 1, 0, 0]) (f247_fr4 a0 a1 a2 d0 d1) (f247_k4 K a0 a1 a2 lr)) := by intro lr; kernel_rfl
  have h4 : (fun d0 d1 => (realL (f247E K) 1) (selC f247C [1, 1, 0, 1, 0, 0]) (f247_fr4 a0 a1 a2 d0 d1) (f247_k4 K a0 a1 a2 (realL (f247E K) 1))) = fun d0 d1 => f247_l4 K a0 a1 a2 K d0 d1 := by
    funext d0 d1
    exact f247_t4 K a0 a1 a2 d0 d1 K d0 d1
  exact runF_G (n0 := 1) (by rfl) ((key (realL (f247E K) 1)).trans (by rw [h4] <;> rfl))
theorem f135_t4 (K : Nat) (a0 : Int × Int × Int) (a1 : List tM) (y1 : List tV) (bq5 : Int) (bq6 : List (List tV)) : ∀ (n : Nat) (q5 : Int) (q6 : List (List tV)), loopN (exec (f135E K) 1 (selC f135C [1, 1, 1, 0, 1, 0, 0])) 1 (f135_fr4 a0 a1 y1 bq5 bq6) n (f135_fr4 a0 a1 y1 q5 q6) (f135_k4 K a0 a1 (realL (f135E K) 1)) = f135_l4 K a0 a1 y1 n q5 q6 := by
  have key : ∀ (lr : LR (List (List tV))) (L : Fr → Option (List (List tV))) (q5 : Int) (q6 : List (List tV)), execG (f135E K) 1 lr (selC f135C [1, 1, 1, 0, 1, 0, 0]) (f135_fr4 a0 a1 y1 q5 q6) (loopK 1 (f135_fr4 a0 a1 y1 bq5 bq6) L (f135_k4 K a0 a1 lr)) = f135_b4 K a0 a1 y1 (fun v0 v1 => L (f135_fr4 a0 a1 y1 v0 v1)) q5 q6 := by
    intro lr L q5 q6; kernel_rfl
  intro n q5 q6
  refine loopN_iter (X := Int × List (List tV)) (frame := fun x => (f135_fr4 a0 a1 y1 x.1 x.2)) (body := (fun L x => (fun L4 => f135_b4 K a0 a1 y1 L4 x.1 x.2) (fun v0 v1 => L (v0, v1)))) (fun L x => ?_) n (q5, q6)
  rw [exec_G]
  exact (key (realL (f135E K) 1) L x.1 x.2).trans (by rfl)
theorem f135_run (K : Nat) (a0 : Int × Int × Int) (a1 : List tM) : runF (f135E K) Tryz.f135 [(.ro, sL), (.ro, (.list 95 sM))] [(.list 84 (.list 79 sV))] (a0, a1, ()) = f135G K a0 a1 := by
  have key : ∀ (lr : LR (List (List tV))), runG (f135E K) Tryz.f135 [(.ro, sL), (.ro, (.list 95 sM))] [(.list 84 (.list 79 sV))] (a0, a1, ()) lr = f135_g K a0 a1 (fun c0 d0 d1 => lr (selC f135C [1, 1, 1, 0, 1, 0, 0]) (f135_fr4 a0 a1 c0 d0 d1) (f135_k4 K a0 a1 lr)) := by intro lr; kernel_rfl
  have h4 : (fun c0 d0 d1 => (realL (f135E K) 1) (selC f135C [1, 1, 1, 0, 1, 0, 0]) (f135_fr4 a0 a1 c0 d0 d1) (f135_k4 K a0 a1 (realL (f135E K) 1))) = fun c0 d0 d1 => f135_l4 K a0 a1 c0 K d0 d1 := by
    funext c0 d0 d1
    exact f135_t4 K a0 a1 c0 d0 d1 K d0 d1
  exact runF_G (n0 := 1) (by rfl) ((key (realL (f135E K) 1)).trans (by rw [h4] <;> rfl))
theorem f127_run (K : Nat) (a0 : Int × Int × Int) (a1 : Int × Int) : runF (f127E K) Tryz.f127 [(.ro, sL), (.ro, sV)] [sI] (a0, a1, ()) = f127G K a0 a1 := by kernel_rfl
theorem f126_t12 (K : Nat) (a0 : Int × Int × Int) (a1 : List tM) (y1 : List (List tV)) (q10 : Int) (F9 : Fr → Option (List Int)) (bq10 : Int) (bq11 : List Int) (bq13 : Int) (bq14 : List Int) : ∀ (n : Nat) (q13 : Int) (q14 : List Int), loopN (exec (f126E K) 1 (selC f126C [1, 1, 1, 0, 1, 0, 0, 1, 0, 0, 1, 0, 0])) 1 (f126_fr12 a0 a1 q10 y1 bq13 bq14) n (f126_fr12 a0 a1 q10 y1 q13 q14) (f126_k12 K a0 a1 y1 F9 bq10 bq11 (realL (f126E K) 1)) = f126_l12 K a0 a1 q10 y1 (fun v0 v1 => F9 (f126_fr9 a0 a1 y1 v0 v1)) n q13 q14 := by
  have key : ∀ (lr : LR (List Int)) (L : Fr → Option (List Int)) (q13 : Int) (q14 : List Int), execG (f126E K) 1 lr (selC f126C [1, 1, 1, 0, 1, 0, 0, 1, 0, 0, 1, 0, 0]) (f126_fr12 a0 a1 q10 y1 q13 q14) (loopK 1 (f126_fr12 a0 a1 q10 y1 bq13 bq14) L (f126_k12 K a0 a1 y1 F9 bq10 bq11 lr)) = f126_b12 K a0 a1 q10 y1 (fun v0 v1 => F9 (f126_fr9 a0 a1 y1 v0 v1)) (fun v0 v1 => L (f126_fr12 a0 a1 q10 y1 v0 v1)) q13 q14 := by
    intro lr L q13 q14; kernel_rfl
  intro n q13 q14
  refine loopN_iter (X := Int × List Int) (frame := fun x => (f126_fr12 a0 a1 q10 y1 x.1 x.2)) (body := (fun L x => (fun L12 => f126_b12 K a0 a1 q10 y1 (fun v0 v1 => F9 (f126_fr9 a0 a1 y1 v0 v1)) L12 x.1 x.2) (fun v0 v1 => L (v0, v1)))) (fun L x => ?_) n (q13, q14)
  rw [exec_G]
  exact (key (realL (f126E K) 1) L x.1 x.2).trans (by rfl)
theorem f126_t9 (K : Nat) (a0 : Int × Int × Int) (a1 : List tM) (y1 : List (List tV)) (bq10 : Int) (bq11 : List Int) : ∀ (n : Nat) (q10 : Int) (q11 : List Int), loopN (exec (f126E K) 1 (selC f126C [1, 1, 1, 0, 1, 0, 0])) 1 (f126_fr9 a0 a1 y1 bq10 bq11) n (f126_fr9 a0 a1 y1 q10 q11) (f126_k9 K a0 a1 (realL (f126E K) 1)) = f126_l9 K a0 a1 y1 n q10 q11 := by
  have key : ∀ (lr : LR (List Int)) (L : Fr → Option (List Int)) (q10 : Int) (q11 : List Int), execG (f126E K) 1 lr (selC f126C [1, 1, 1, 0, 1, 0, 0]) (f126_fr9 a0 a1 y1 q10 q11) (loopK 1 (f126_fr9 a0 a1 y1 bq10 bq11) L (f126_k9 K a0 a1 lr)) = f126_b9 K a0 a1 y1 (fun c0 d0 d1 => lr (selC f126C [1, 1, 1, 0, 1, 0, 0, 1, 0, 0, 1, 0, 0]) (f126_fr12 a0 a1 c0 y1 d0 d1) (f126_k12 K a0 a1 y1 L bq10 bq11 lr)) (fun v0 v1 => L (f126_fr9 a0 a1 y1 v0 v1)) q10 q11 := by
    intro lr L q10 q11; kernel_rfl
  intro n q10 q11
  refine loopN_iter (X := Int × List Int) (frame := fun x => (f126_fr9 a0 a1 y1 x.1 x.2)) (body := (fun L x => (fun L9 => f126_b9 K a0 a1 y1 (fun c0 d0 d1 => f126_l12 K a0 a1 c0 y1 L9 K d0 d1) L9 x.1 x.2) (fun v0 v1 => L (v0, v1)))) (fun L x => ?_) n (q10, q11)
  rw [exec_G]
  have h12 : (fun c0 d0 d1 => (realL (f126E K) 1) (selC f126C [1, 1, 1, 0, 1, 0, 0, 1, 0, 0, 1, 0, 0]) (f126_fr12 a0 a1 c0 y1 d0 d1) (f126_k12 K a0 a1 y1 L bq10 bq11 (realL (f126E K) 1))) = fun c0 d0 d1 => f126_l12 K a0 a1 c0 y1 (fun v0 v1 => L (f126_fr9 a0 a1 y1 v0 v1)) K d0 d1 := by
    funext c0 d0 d1
    exact f126_t12 K a0 a1 y1 c0 L bq10 bq11 d0 d1 K d0 d1
  exact (key (realL (f126E K) 1) L x.1 x.2).trans (by rw [h12] <;> rfl)
theorem f126_run (K : Nat) (a0 : Int × Int × Int) (a1 : List tM) : runF (f126E K) Tryz.f126 [(.ro, sL), (.ro, (.list 95 sM))] [(.list 2 sI)] (a0, a1, ()) = f126G K a0 a1 := by
  have key : ∀ (lr : LR (List Int)), runG (f126E K) Tryz.f126 [(.ro, sL), (.ro, (.list 95 sM))] [(.list 2 sI)] (a0, a1, ()) lr = f126_g K a0 a1 (fun c0 d0 d1 => lr (selC f126C [1, 1, 1, 0, 1, 0, 0]) (f126_fr9 a0 a1 c0 d0 d1) (f126_k9 K a0 a1 lr)) := by intro lr; kernel_rfl
  have h9 : (fun c0 d0 d1 => (realL (f126E K) 1) (selC f126C [1, 1, 1, 0, 1, 0, 0]) (f126_fr9 a0 a1 c0 d0 d1) (f126_k9 K a0 a1 (realL (f126E K) 1))) = fun c0 d0 d1 => f126_l9 K a0 a1 c0 K d0 d1 := by
    funext c0 d0 d1
    exact f126_t9 K a0 a1 c0 d0 d1 K d0 d1
  exact runF_G (n0 := 1) (by rfl) ((key (realL (f126E K) 1)).trans (by rw [h9] <;> rfl))
theorem f201_t3 (K : Nat) (a0 : Int) (a1 : Int × Int × Int) (a2 : List tM) (a3 y1 : List Int) (bq4 : Int) (bq5 : List Int) : ∀ (n : Nat) (q4 : Int) (q5 : List Int), loopN (exec (f201E K) 2 (selC f201C [1, 1, 1, 0, 1, 0, 0])) 2 (f201_fr3 a0 a1 a2 a3 y1 bq4 bq5) n (f201_fr3 a0 a1 a2 a3 y1 q4 q5) (f201_k3 K a0 a1 a2 a3 (realL (f201E K) 2)) = f201_l3 K a0 a1 a2 a3 y1 n q4 q5 := by
  have key : ∀ (lr : LR (Int × tL × List Int)) (L : Fr → Option (Int × tL × List Int)) (q4 : Int) (q5 : List Int), execG (f201E K) 2 lr (selC f201C [1, 1, 1, 0, 1, 0, 0]) (f201_fr3 a0 a1 a2 a3 y1 q4 q5) (loopK 2 (f201_fr3 a0 a1 a2 a3 y1 bq4 bq5) L (f201_k3 K a0 a1 a2 a3 lr)) = f201_b3 K a0 a1 a2 a3 y1 (fun v0 v1 => L (f201_fr3 a0 a1 a2 a3 y1 v0 v1)) q4 q5 := by
    intro lr L q4 q5; kernel_rfl
  intro n q4 q5
  refine loopN_iter (X := Int × List Int) (frame := fun x => (f201_fr3 a0 a1 a2 a3 y1 x.1 x.2)) (body := (fun L x => (fun L3 => f201_b3 K a0 a1 a2 a3 y1 L3 x.1 x.2) (fun v0 v1 => L (v0, v1)))) (fun L x => ?_) n (q4, q5)
  rw [exec_G]
  exact (key (realL (f201E K) 2) L x.1 x.2).trans (by rfl)
theorem f201_run (K : Nat) (a0 : Int) (a1 : Int × Int × Int) (a2 : List tM) (a3 : List Int) : runF (f201E K) Tryz.f201 [(.ro, sI), (.ro, sL), (.ro, (.list 95 sM)), (.ro, (.list 2 sI))] [(.cons sI (.cons sL (.list 2 sI)))] (a0, a1, a2, a3, ()) = f201G K a0 a1 a2 a3 := by
  have key : ∀ (lr : LR (Int × tL × List Int)), runG (f201E K) Tryz.f201 [(.ro, sI), (.ro, sL), (.ro, (.list 95 sM)), (.ro, (.list 2 sI))] [(.cons sI (.cons sL (.list 2 sI)))] (a0, a1, a2, a3, ()) lr = f201_g K a0 a1 a2 a3 (fun c0 d0 d1 => lr (selC f201C [1, 1, 1, 0, 1, 0, 0]) (f201_fr3 a0 a1 a2 a3 c0 d0 d1) (f201_k3 K a0 a1 a2 a3 lr)) := by intro lr; kernel_rfl
  have h3 : (fun c0 d0 d1 => (realL (f201E K) 2) (selC f201C [1, 1, 1, 0, 1, 0, 0]) (f201_fr3 a0 a1 a2 a3 c0 d0 d1) (f201_k3 K a0 a1 a2 a3 (realL (f201E K) 2))) = fun c0 d0 d1 => f201_l3 K a0 a1 a2 a3 c0 K d0 d1 := by
    funext c0 d0 d1
    exact f201_t3 K a0 a1 a2 a3 c0 d0 d1 K d0 d1
  exact runF_G (n0 := 2) (by rfl) ((key (realL (f201E K) 2)).trans (by rw [h3] <;> rfl))
theorem f316_run (K : Nat) (a0 : Int) : runF (f316E K) Tryz.f316 [(.ro, sI)] [.bool] (a0, ()) = f316G K a0 := by kernel_rfl
theorem f317_run (K : Nat) (a0 : Int × Int × Int) : runF (f317E K) Tryz.f317 [(.ro, sL)] [.bool] (a0, ()) = f317G K a0 := by kernel_rfl
theorem f229_run (K : Nat) (a0 : Int) (a1 : Int × Int × Int) : runF (f229E K) Tryz.f229 [(.ro, sI), (.ro, sL)] [sI] (a0, a1, ()) = f229G K a0 a1 := by kernel_rfl
theorem f245_t3 (K : Nat) (a0 : List Int) (a1 a2 a3 bq4 : Int) : ∀ (n : Nat) (q4 : Int), loopN (exec (f245E K) 1 (selC f245C [1, 0, 1, 0, 0])) 1 (f245_fr3 a0 a1 a2 a3 bq4) n (f245_fr3 a0 a1 a2 a3 q4) (f245_k3 K a0 a1 a2 a3 (realL (f245E K) 1)) = f245_l3 K a0 a1 a2 a3 n q4 := by
  have key : ∀ (lr : LR Bool) (L : Fr → Option Bool) (q4 : Int), execG (f245E K) 1 lr (selC f245C [1, 0, 1, 0, 0]) (f245_fr3 a0 a1 a2 a3 q4) (loopK 1 (f245_fr3 a0 a1 a2 a3 bq4) L (f245_k3 K a0 a1 a2 a3 lr)) = f245_b3 K a0 a1 a2 a3 (fun v0 => L (f245_fr3 a0 a1 a2 a3 v0)) q4 := by
    intro lr L q4; kernel_rfl
  intro n q4
  refine loopN_iter (X := Int) (frame := fun x => (f245_fr3 a0 a1 a2 a3 x)) (body := (fun L x => (fun L3 => f245_b3 K a0 a1 a2 a3 L3 x) (fun v0 => L v0))) (fun L x => ?_) n q4
  rw [exec_G]
  exact (key (realL (f245E K) 1) L x).trans (by rfl)
theorem f245_run (K : Nat) (a0 : List Int) (a1 a2 a3 : Int) : runF (f245E K) Tryz.f245 [(.ro, (.list 2 sI)), (.ro, sI), (.ro, sI), (.ro, sI)] [.bool] (a0, a1, a2, a3, ()) = f245G K a0 a1 a2 a3 := by
  have key : ∀ (lr : LR Bool), runG (f245E K) Tryz.f245 [(.ro, (.list 2 sI)), (.ro, sI), (.ro, sI), (.ro, sI)] [.bool] (a0, a1, a2, a3, ()) lr = f245_g K a0 a1 a2 a3 (fun d0 => lr (selC f245C [1, 0, 1, 0, 0]) (f245_fr3 a0 a1 a2 a3 d0) (f245_k3 K a0 a1 a2 a3 lr)) := by intro lr; kernel_rfl
  have h3 : (fun d0 => (realL (f245E K) 1) (selC f245C [1, 0, 1, 0, 0]) (f245_fr3 a0 a1 a2 a3 d0) (f245_k3 K a0 a1 a2 a3 (realL (f245E K) 1))) = fun d0 => f245_l3 K a0 a1 a2 a3 K d0 := by
    funext d0
    exact f245_t3 K a0 a1 a2 a3 d0 K d0
  exact runF_G (n0 := 1) (by rfl) ((key (realL (f245E K) 1)).trans (by rw [h3] <;> rfl))
theorem f133_run (K : Nat) (a0 : Int × tL × List Int) : runF (f133E K) Tryz.f133 [(.ro, (.cons sI (.cons sL (.list 2 sI))))] [.bool] (a0, ()) = f133G K a0 := by kernel_rfl
theorem f136_run (K : Nat) (a0 : Int × tL × List Int) (a1 : Int × Int) : runF (f136E K) Tryz.f136 [(.ro, (.cons sI (.cons sL (.list 2 sI)))), (.ro, sV)] [sI] (a0, a1, ()) = f136G K a0 a1 := by kernel_rfl
theorem f200_t9 (K : Nat) (a0 : (List Int) × Int × Int) (a1 : Int × tL × List Int) (y1 : Bool) (y2 : tV × Int) (bq10 bq11 bq12 : Int) (bq13 : List (tV × Int)) : ∀ (n : Nat) (q10 q11 q12 : Int) (q13 : List (tV × Int)), loopN (exec (f200E K) 2 (selC f200C [1, 1, 1, 0, 1, 0, 0])) 2 (f200_fr9 a0 a1 y1 y2 bq10 bq11 bq12 bq13) n (f200_fr9 a0 a1 y1 y2 q10 q11 q12 q13) (f200_k9 K a0 a1 (realL (f200E K) 2)) = f200_l9 K a0 a1 y1 y2 n q10 q11 q12 q13 := by
  have key : ∀ (lr : LR (tV × List (tV × Int))) (L : Fr → Option (tV × List (tV × Int))) (q10 q11 q12 : Int) (q13 : List (tV × Int)), execG (f200E K) 2 lr (selC f200C [1, 1, 1, 0, 1, 0, 0]) (f200_fr9 a0 a1 y1 y2 q10 q11 q12 q13) (loopK 2 (f200_fr9 a0 a1 y1 y2 bq10 bq11 bq12 bq13) L (f200_k9 K a0 a1 lr)) = f200_b9 K a0 a1 y1 y2 (fun v0 v1 v2 v3 => L (f200_fr9 a0 a1 y1 y2 v0 v1 v2 v3)) q10 q11 q12 q13 := by
    intro lr L q10 q11 q12 q13; kernel_rfl
  intro n q10 q11 q12 q13
  refine loopN_iter (X := Int × Int × Int × List (tV × Int)) (frame := fun x => (f200_fr9 a0 a1 y1 y2 x.1 x.2.1 x.2.2.1 x.2.2.2)) (body := (fun L x => (fun L9 => f200_b9 K a0 a1 y1 y2 L9 x.1 x.2.1 x.2.2.1 x.2.2.2) (fun v0 v1 v2 v3 => L (v0, v1, v2, v3)))) (fun L x => ?_) n (q10, q11, q12, q13)
  rw [exec_G]
  exact (key (realL (f200E K) 2) L x.1 x.2.1 x.2.2.1 x.2.2.2).trans (by rfl)
theorem f200_run (K : Nat) (a0 : (List Int) × Int × Int) (a1 : Int × tL × List Int) : runP (f200E K) Tryz.f200 5 (.int .u8) sV [(.ro, (.cons sI (.cons sL (.list 2 sI))))] [(.list 133 (.cons sV sI))] (a0, a1, ()) = f200G K a0 a1 := by
  have key : ∀ (lr : LR (tV × List (tV × Int))), runPG (f200E K) Tryz.f200 5 (.int .u8) sV [(.ro, (.cons sI (.cons sL (.list 2 sI))))] [(.list 133 (.cons sV sI))] (a0, a1, ()) lr = f200_g K a0 a1 (fun c0 c1 d0 d1 d2 d3 => lr (selC f200C [1, 1, 1, 0, 1, 0, 0]) (f200_fr9 a0 a1 c0 c1 d0 d1 d2 d3) (f200_k9 K a0 a1 lr)) := by intro lr; kernel_rfl
  have h9 : (fun c0 c1 d0 d1 d2 d3 => (realL (f200E K) 2) (selC f200C [1, 1, 1, 0, 1, 0, 0]) (f200_fr9 a0 a1 c0 c1 d0 d1 d2 d3) (f200_k9 K a0 a1 (realL (f200E K) 2))) = fun c0 c1 d0 d1 d2 d3 => f200_l9 K a0 a1 c0 c1 K d0 d1 d2 d3 := by
    funext c0 c1 d0 d1 d2 d3
    exact f200_t9 K a0 a1 c0 c1 d0 d1 d2 d3 K d0 d1 d2 d3
  exact runP_G (n0 := 2) (by rfl) ((key (realL (f200E K) 2)).trans (by rw [h9] <;> rfl))
theorem f77_t11 (K : Nat) (a0 : List Int) (y2 : tV × Int) (y4 : Int × tL × (List tM) × Int) (y5 : tV × Int) (bq12 bq13 bq14 : Int) (bq15 : List Int) : ∀ (n : Nat) (q12 q13 q14 : Int) (q15 : List Int), loopN (exec (f77E K) 1 (selC f77C [1, 1, 1, 1, 1, 1, 0, 1, 0, 0])) 1 (f77_fr11 a0 y2 y4 y5 bq12 bq13 bq14 bq15) n (f77_fr11 a0 y2 y4 y5 q12 q13 q14 q15) (f77_k11 K a0 (realL (f77E K) 1)) = f77_l11 K a0 y2 y4 y5 n q12 q13 q14 q15 := by
  have key : ∀ (lr : LR (Int × List (tV × Int))) (L : Fr → Option (Int × List (tV × Int))) (q12 q13 q14 : Int) (q15 : List Int), execG (f77E K) 1 lr (selC f77C [1, 1, 1, 1, 1, 1, 0, 1, 0, 0]) (f77_fr11 a0 y2 y4 y5 q12 q13 q14 q15) (loopK 1 (f77_fr11 a0 y2 y4 y5 bq12 bq13 bq14 bq15) L (f77_k11 K a0 lr)) = f77_b11 K a0 y2 y4 y5 (fun v0 v1 v2 v3 => L (f77_fr11 a0 y2 y4 y5 v0 v1 v2 v3)) q12 q13 q14 q15 := by
    intro lr L q12 q13 q14 q15; kernel_rfl
  intro n q12 q13 q14 q15
  refine loopN_iter (X := Int × Int × Int × List Int) (frame := fun x => (f77_fr11 a0 y2 y4 y5 x.1 x.2.1 x.2.2.1 x.2.2.2)) (body := (fun L x => (fun L11 => f77_b11 K a0 y2 y4 y5 L11 x.1 x.2.1 x.2.2.1 x.2.2.2) (fun v0 v1 v2 v3 => L (v0, v1, v2, v3)))) (fun L x => ?_) n (q12, q13, q14, q15)
  rw [exec_G]
  exact (key (realL (f77E K) 1) L x.1 x.2.1 x.2.2.1 x.2.2.2).trans (by rfl)
theorem f77_run (K : Nat) (a0 : List Int) : runF (f77E K) Tryz.f77 [(.ro, (.list 5 (.int .u8)))] [sI, (.list 133 (.cons sV sI))] (a0, ()) = f77G K a0 := by
  have key : ∀ (lr : LR (Int × List (tV × Int))), runG (f77E K) Tryz.f77 [(.ro, (.list 5 (.int .u8)))] [sI, (.list 133 (.cons sV sI))] (a0, ()) lr = f77_g K a0 (fun c0 c1 c2 d0 d1 d2 d3 => lr (selC f77C [1, 1, 1, 1, 1, 1, 0, 1, 0, 0]) (f77_fr11 a0 c0 c1 c2 d0 d1 d2 d3) (f77_k11 K a0 lr)) := by intro lr; kernel_rfl
  have h11 : (fun c0 c1 c2 d0 d1 d2 d3 => (realL (f77E K) 1) (selC f77C [1, 1, 1, 1, 1, 1, 0, 1, 0, 0]) (f77_fr11 a0 c0 c1 c2 d0 d1 d2 d3) (f77_k11 K a0 (realL (f77E K) 1))) = fun c0 c1 c2 d0 d1 d2 d3 => f77_l11 K a0 c0 c1 c2 K d0 d1 d2 d3 := by
    funext c0 c1 c2 d0 d1 d2 d3
    exact f77_t11 K a0 c0 c1 c2 d0 d1 d2 d3 K d0 d1 d2 d3
  exact runF_G (n0 := 1) (by rfl) ((key (realL (f77E K) 1)).trans (by rw [h11] <;> rfl))
theorem f146_run (K : Nat) (a0 a1 a2 : Int) : runF (f146E K) Tryz.f146 [(.ro, sI), (.ro, sI), (.ro, sI)] [.bool] (a0, a1, a2, ()) = f146G K a0 a1 a2 := by kernel_rfl
theorem f287_run (K : Nat) (a0 : Int) : runF (f287E K) Tryz.f287 [(.ro, sI)] [.bool] (a0, ()) = f287G K a0 := by kernel_rfl
theorem f189_run (K : Nat) (a0 : Int × Int) : runF (f189E K) Tryz.f189 [(.ro, sV)] [.bool] (a0, ()) = f189G K a0 := by kernel_rfl
theorem f206_run (K : Nat) (a0 : Int) : runF (f206E K) Tryz.f206 [(.ro, sI)] [.bool] (a0, ()) = f206G K a0 := by kernel_rfl
theorem f210_run (K : Nat) (a0 : tV × Int) : runF (f210E K) Tryz.f210 [(.ro, (.cons sV sI))] [.bool] (a0, ()) = f210G K a0 := by kernel_rfl
theorem f259_t3 (K : Nat) (a0 : List (tV × Int)) (a1 : ((tV × Int) → Option Bool)) (bq4 : Int) : ∀ (n : Nat) (q4 : Int), loopN (exec (f259E K) 1 (selC f259C [1, 0, 1, 0, 0])) 1 (f259_fr3 a0 a1 bq4) n (f259_fr3 a0 a1 q4) (f259_k3 K a0 a1 (realL (f259E K) 1)) = f259_l3 K a0 a1 n q4 := by
  have key : ∀ (lr : LR Int) (L : Fr → Option Int) (q4 : Int), execG (f259E K) 1 lr (selC f259C [1, 0, 1, 0, 0]) (f259_fr3 a0 a1 q4) (loopK 1 (f259_fr3 a0 a1 bq4) L (f259_k3 K a0 a1 lr)) = f259_b3 K a0 a1 (fun v0 => L (f259_fr3 a0 a1 v0)) q4 := by
    intro lr L q4; kernel_rfl
  intro n q4
  refine loopN_iter (X := Int) (frame := fun x => (f259_fr3 a0 a1 x)) (body := (fun L x => (fun L3 => f259_b3 K a0 a1 L3 x) (fun v0 => L v0))) (fun L x => ?_) n q4
  rw [exec_G]
  exact (key (realL (f259E K) 1) L x).trans (by rfl)
theorem f259_run (K : Nat) (a0 : List (tV × Int)) (a1 : ((tV × Int) → Option Bool)) : runF (f259E K) Tryz.f259 [(.ro, (.list 133 (.cons sV sI))), (.ro, (.fn1 (.cons sV sI) .bool))] [sI] (a0, a1, ()) = f259G K a0 a1 := by
  have key : ∀ (lr : LR Int), runG (f259E K) Tryz.f259 [(.ro, (.list 133 (.cons sV sI))), (.ro, (.fn1 (.cons sV sI) .bool))] [sI] (a0, a1, ()) lr = f259_g K a0 a1 (fun d0 => lr (selC f259C [1, 0, 1, 0, 0]) (f259_fr3 a0 a1 d0) (f259_k3 K a0 a1 lr)) := by intro lr; kernel_rfl
  have h3 : (fun d0 => (realL (f259E K) 1) (selC f259C [1, 0, 1, 0, 0]) (f259_fr3 a0 a1 d0) (f259_k3 K a0 a1 (realL (f259E K) 1))) = fun d0 => f259_l3 K a0 a1 K d0 := by
    funext d0
    exact f259_t3 K a0 a1 d0 K d0
  exact runF_G (n0 := 1) (by rfl) ((key (realL (f259E K) 1)).trans (by rw [h3] <;> rfl))
theorem f158_run (K : Nat) (a0 : List (tV × Int)) (a1 : ((tV × Int) → Option Bool)) : runF (f158E K) Tryz.f158 [(.ro, (.list 133 (.cons sV sI))), (.ro, (.fn1 (.cons sV sI) .bool))] [.bool] (a0, a1, ()) = f158G K a0 a1 := by kernel_rfl
theorem f95_run (K : Nat) (a0 : List (tV × Int)) : runF (f95E K) Tryz.f95 [(.ro, (.list 133 (.cons sV sI)))] [.bool] (a0, ()) = f95G K a0 := by kernel_rfl
theorem f147_run (K : Nat) : runF (f147E K) Tryz.f147 [] [(.list 9 .str)] (()) = f147G K := by kernel_rfl
theorem f204_run (K : Nat) (a0 : ByteArray) (a1 : Int) : runF (f204E K) Tryz.f204 [(.ro, .str), (.ro, sI)] [sI, (.list 95 sM), .bool] (a0, a1, ()) = f204G K a0 a1 := by kernel_rfl
theorem f231_run (K : Nat) : runF (f231E K) Tryz.f231 [] [sA] (()) = f231G K := by kernel_rfl
theorem f347_run (K : Nat) (a0 a1 : Int × Int × Int × Int) : runF (f347E K) Tryz.f347 [(.ro, sA), (.ro, sA)] [sA] (a0, a1, ()) = f347G K a0 a1 := by kernel_rfl
theorem f288_run (K : Nat) (a0 : Int × Int × Int × Int) (a1 : Int × Int) : runF (f288E K) Tryz.f288 [(.ro, sA), (.ro, sV)] [sV] (a0, a1, ()) = f288G K a0 a1 := by kernel_rfl
theorem f289_run (K : Nat) (a0 a1 : Int × Int) : runF (f289E K) Tryz.f289 [(.ro, sV), (.ro, sV)] [sV] (a0, a1, ()) = f289G K a0 a1 := by kernel_rfl
theorem f298_run (K : Nat) (a0 a1 : tA × Int × Int) : runF (f298E K) Tryz.f298 [(.ro, sM), (.ro, sM)] [sM] (a0, a1, ()) = f298G K a0 a1 := by kernel_rfl
theorem f260_run (K : Nat) (a0 a1 : Int) : runF (f260E K) Tryz.f260 [(.ro, sI), (.ro, sI)] [sI] (a0, a1, ()) = f260G K a0 a1 := by kernel_rfl
theorem f161_run (K : Nat) (a0 : Int × Int × Int) (a1 : Int × Int) : runF (f161E K) Tryz.f161 [(.ro, sL), (.ro, sV)] [sV] (a0, a1, ()) = f161G K a0 a1 := by kernel_rfl
theorem f297_run (K : Nat) (a0 : Int × Int × Int) (a1 : tA × Int × Int) : runF (f297E K) Tryz.f297 [(.ro, sL), (.ro, sM)] [sM] (a0, a1, ()) = f297G K a0 a1 := by kernel_rfl
theorem f332_t2 (K : Nat) (a0 a1 : List Int) (bq3 : Int) : ∀ (n : Nat) (q3 : Int), loopN (exec (f332E K) 2 (selC f332C [1, 0, 1, 0, 0])) 2 (f332_fr2 a0 a1 bq3) n (f332_fr2 a0 a1 q3) (f332_k2 K a0 a1 (realL (f332E K) 2)) = f332_l2 K a0 a1 n q3 := by
  have key : ∀ (lr : LR Int) (L : Fr → Option Int) (q3 : Int), execG (f332E K) 2 lr (selC f332C [1, 0, 1, 0, 0]) (f332_fr2 a0 a1 q3) (loopK 2 (f332_fr2 a0 a1 bq3) L (f332_k2 K a0 a1 lr)) = f332_b2 K a0 a1 (fun v0 => L (f332_fr2 a0 a1 v0)) q3 := by
    intro lr L q3; kernel_rfl
  intro n q3
  refine loopN_iter (X := Int) (frame := fun x => (f332_fr2 a0 a1 x)) (body := (fun L x => (fun L2 => f332_b2 K a0 a1 L2 x) (fun v0 => L v0))) (fun L x => ?_) n q3
  rw [exec_G]
  exact (key (realL (f332E K) 2) L x).trans (by rfl)
theorem f332_run (K : Nat) (a0 a1 : List Int) : runF (f332E K) Tryz.f332 [(.ro, (.list 2 sI)), (.ro, (.list 2 sI))] [sI] (a0, a1, ()) = f332G K a0 a1 := by
  have key : ∀ (lr : LR Int), runG (f332E K) Tryz.f332 [(.ro, (.list 2 sI)), (.ro, (.list 2 sI))] [sI] (a0, a1, ()) lr = f332_g K a0 a1 (fun d0 => lr (selC f332C [1, 0, 1, 0, 0]) (f332_fr2 a0 a1 d0) (f332_k2 K a0 a1 lr)) := by intro lr; kernel_rfl
  have h2 : (fun d0 => (realL (f332E K) 2) (selC f332C [1, 0, 1, 0, 0]) (f332_fr2 a0 a1 d0) (f332_k2 K a0 a1 (realL (f332E K) 2))) = fun d0 => f332_l2 K a0 a1 K d0 := by
    funext d0
    exact f332_t2 K a0 a1 d0 K d0
  exact runF_G (n0 := 2) (by rfl) ((key (realL (f332E K) 2)).trans (by rw [h2] <;> rfl))
theorem f349_run (K : Nat) (a0 a1 : Int × Int × Int × Int) : runF (f349E K) Tryz.f349 [(.ro, sA), (.ro, sA)] [sI] (a0, a1, ()) = f349G K a0 a1 := by kernel_rfl
theorem f269_run (K : Nat) (a0 a1 : Int × Int) : runF (f269E K) Tryz.f269 [(.ro, sV), (.ro, sV)] [sI] (a0, a1, ()) = f269G K a0 a1 := by kernel_rfl
theorem f300_run (K : Nat) (a0 a1 : tA × Int × Int) : runF (f300E K) Tryz.f300 [(.ro, sM), (.ro, sM)] [sI] (a0, a1, ()) = f300G K a0 a1 := by kernel_rfl
theorem f205_t16 (K : Nat) (a0 : Int × Int × Int) (a1 : List tM) (q13 : Int) (q15 : List tM) (F12 : Fr → Option (List tM)) (bq13 : Int) (bq14 : List (tM × Bool)) (bq15 : List tM) (bq17 : Int) (bq18 : List (tM × Bool)) (bq19 : List tM) : ∀ (n : Nat) (q17 : Int) (q18 : List (tM × Bool)) (q19 : List tM), loopN (exec (f205E K) 1 (selC f205C [1, 1, 1, 0, 1, 0, 0, 1, 0, 0, 1, 0, 0])) 1 (f205_fr16 a0 a1 q13 q15 bq17 bq18 bq19) n (f205_fr16 a0 a1 q13 q15 q17 q18 q19) (f205_k16 K a0 a1 F12 bq13 bq14 bq15 (realL (f205E K) 1)) = f205_l16 K a0 a1 q13 q15 (fun v0 v1 v2 => F12 (f205_fr12 a0 a1 v0 v1 v2)) n q17 q18 q19 := by
  have key : ∀ (lr : LR (List tM)) (L : Fr → Option (List tM)) (q17 : Int) (q18 : List (tM × Bool)) (q19 : List tM), execG (f205E K) 1 lr (selC f205C [1, 1, 1, 0, 1, 0, 0, 1, 0, 0, 1, 0, 0]) (f205_fr16 a0 a1 q13 q15 q17 q18 q19) (loopK 1 (f205_fr16 a0 a1 q13 q15 bq17 bq18 bq19) L (f205_k16 K a0 a1 F12 bq13 bq14 bq15 lr)) = f205_b16 K a0 a1 q13 q15 (fun v0 v1 v2 => F12 (f205_fr12 a0 a1 v0 v1 v2)) (fun v0 v1 v2 => L (f205_fr16 a0 a1 q13 q15 v0 v1 v2)) q17 q18 q19 := by
    intro lr L q17 q18 q19; kernel_rfl
  intro n q17 q18 q19
  refine loopN_iter (X := Int × List (tM × Bool) × List tM) (frame := fun x => (f205_fr16 a0 a1 q13 q15 x.1 x.2.1 x.2.2)) (body := (fun L x => (fun L16 => f205_b16 K a0 a1 q13 q15 (fun v0 v1 v2 => F12 (f205_fr12 a0 a1 v0 v1 v2)) L16 x.1 x.2.1 x.2.2) (fun v0 v1 v2 => L (v0, v1, v2)))) (fun L x => ?_) n (q17, q18, q19)
  rw [exec_G]
  exact (key (realL (f205E K) 1) L x.1 x.2.1 x.2.2).trans (by rfl)
theorem f205_t12 (K : Nat) (a0 : Int × Int × Int) (a1 : List tM) (bq13 : Int) (bq14 : List (tM × Bool)) (bq15 : List tM) : ∀ (n : Nat) (q13 : Int) (q14 : List (tM × Bool)) (q15 : List tM), loopN (exec (f205E K) 1 (selC f205C [1, 1, 1, 0, 1, 0, 0])) 1 (f205_fr12 a0 a1 bq13 bq14 bq15) n (f205_fr12 a0 a1 q13 q14 q15) (f205_k12 K a0 a1 (realL (f205E K) 1)) = f205_l12 K a0 a1 n q13 q14 q15 := by
  have key : ∀ (lr : LR (List tM)) (L : Fr → Option (List tM)) (q13 : Int) (q14 : List (tM × Bool)) (q15 : List tM), execG (f205E K) 1 lr (selC f205C [1, 1, 1, 0, 1, 0, 0]) (f205_fr12 a0 a1 q13 q14 q15) (loopK 1 (f205_fr12 a0 a1 bq13 bq14 bq15) L (f205_k12 K a0 a1 lr)) = f205_b12 K a0 a1 (fun c0 c1 d0 d1 d2 => lr (selC f205C [1, 1, 1, 0, 1, 0, 0, 1, 0, 0, 1, 0, 0]) (f205_fr16 a0 a1 c0 c1 d0 d1 d2) (f205_k16 K a0 a1 L bq13 bq14 bq15 lr)) (fun v0 v1 v2 => L (f205_fr12 a0 a1 v0 v1 v2)) q13 q14 q15 := by
    intro lr L q13 q14 q15; kernel_rfl
  intro n q13 q14 q15
  refine loopN_iter (X := Int × List (tM × Bool) × List tM) (frame := fun x => (f205_fr12 a0 a1 x.1 x.2.1 x.2.2)) (body := (fun L x => (fun L12 => f205_b12 K a0 a1 (fun c0 c1 d0 d1 d2 => f205_l16 K a0 a1 c0 c1 L12 K d0 d1 d2) L12 x.1 x.2.1 x.2.2) (fun v0 v1 v2 => L (v0, v1, v2)))) (fun L x => ?_) n (q13, q14, q15)
  rw [exec_G]
  have h16 : (fun c0 c1 d0 d1 d2 => (realL (f205E K) 1) (selC f205C [1, 1, 1, 0, 1, 0, 0, 1, 0, 0, 1, 0, 0]) (f205_fr16 a0 a1 c0 c1 d0 d1 d2) (f205_k16 K a0 a1 L bq13 bq14 bq15 (realL (f205E K) 1))) = fun c0 c1 d0 d1 d2 => f205_l16 K a0 a1 c0 c1 (fun v0 v1 v2 => L (f205_fr12 a0 a1 v0 v1 v2)) K d0 d1 d2 := by
    funext c0 c1 d0 d1 d2
    exact f205_t16 K a0 a1 c0 c1 L bq13 bq14 bq15 d0 d1 d2 K d0 d1 d2
  exact (key (realL (f205E K) 1) L x.1 x.2.1 x.2.2).trans (by rw [h16] <;> rfl)
theorem f205_run (K : Nat) (a0 : Int × Int × Int) (a1 : List tM) : runF (f205E K) Tryz.f205 [(.ro, sL), (.ro, (.list 95 sM))] [(.list 95 sM)] (a0, a1, ()) = f205G K a0 a1 := by
  have key : ∀ (lr : LR (List tM)), runG (f205E K) Tryz.f205 [(.ro, sL), (.ro, (.list 95 sM))] [(.list 95 sM)] (a0, a1, ()) lr = f205_g K a0 a1 (fun d0 d1 d2 => lr (selC f205C [1, 1, 1, 0, 1, 0, 0]) (f205_fr12 a0 a1 d0 d1 d2) (f205_k12 K a0 a1 lr)) := by intro lr; kernel_rfl
  have h12 : (fun d0 d1 d2 => (realL (f205E K) 1) (selC f205C [1, 1, 1, 0, 1, 0, 0]) (f205_fr12 a0 a1 d0 d1 d2) (f205_k12 K a0 a1 (realL (f205E K) 1))) = fun d0 d1 d2 => f205_l12 K a0 a1 K d0 d1 d2 := by
    funext d0 d1 d2
    exact f205_t12 K a0 a1 d0 d1 d2 K d0 d1 d2
  exact runF_G (n0 := 1) (by rfl) ((key (realL (f205E K) 1)).trans (by rw [h12] <;> rfl))
theorem f86_run (K : Nat) (a0 : ByteArray) (a1 : Int) : runF (f86E K) Tryz.f86 [(.ro, .str), (.ro, sI)] [sI, sL, (.list 95 sM), sI] (a0, a1, ()) = f86G K a0 a1 := by kernel_rfl
theorem f238_run (K : Nat) (a0 : Int × Int × Int) : runF (f238E K) Tryz.f238 [(.ro, sL)] [sI] (a0, ()) = f238G K a0 := by kernel_rfl
theorem f243_t3 (K : Nat) (a0 : List Int) (a1 : Int) (y1 : Int × Int) (bq4 : Int) (bq5 : List Int) : ∀ (n : Nat) (q4 : Int) (q5 : List Int), loopN (exec (f243E K) 1 (selC f243C [1, 1, 1, 1, 1, 1, 0, 0, 0])) 1 (f243_fr3 a0 a1 y1 bq4 bq5) n (f243_fr3 a0 a1 y1 q4 q5) (f243_k3 K a0 a1 (realL (f243E K) 1)) = f243_l3 K a0 a1 y1 n q4 q5 := by
  have key : ∀ (lr : LR (List Int)) (L : Fr → Option (List Int)) (q4 : Int) (q5 : List Int), execG (f243E K) 1 lr (selC f243C [1, 1, 1, 1, 1, 1, 0, 0, 0]) (f243_fr3 a0 a1 y1 q4 q5) (loopK 1 (f243_fr3 a0 a1 y1 bq4 bq5) L (f243_k3 K a0 a1 lr)) = f243_b3 K a0 a1 y1 (fun v0 v1 => L (f243_fr3 a0 a1 y1 v0 v1)) q4 q5 := by
    intro lr L q4 q5; kernel_rfl
  intro n q4 q5
  refine loopN_iter (X := Int × List Int) (frame := fun x => (f243_fr3 a0 a1 y1 x.1 x.2)) (body := (fun L x => (fun L3 => f243_b3 K a0 a1 y1 L3 x.1 x.2) (fun v0 v1 => L (v0, v1)))) (fun L x => ?_) n (q4, q5)
  rw [exec_G]
  exact (key (realL (f243E K) 1) L x.1 x.2).trans (by rfl)
theorem f243_run (K : Nat) (a0 : List Int) (a1 : Int) : runF (f243E K) Tryz.f243 [(.ro, (.list 2 sI)), (.ro, sI)] [(.list 2 sI)] (a0, a1, ()) = f243G K a0 a1 := by
  have key : ∀ (lr : LR (List Int)), runG (f243E K) Tryz.f243 [(.ro, (.list 2 sI)), (.ro, sI)] [(.list 2 sI)] (a0, a1, ()) lr = f243_g K a0 a1 (fun c0 d0 d1 => lr (selC f243C [1, 1, 1, 1, 1, 1, 0, 0, 0]) (f243_fr3 a0 a1 c0 d0 d1) (f243_k3 K a0 a1 lr)) := by intro lr; kernel_rfl
  have h3 : (fun c0 d0 d1 => (realL (f243E K) 1) (selC f243C [1, 1, 1, 1, 1, 1, 0, 0, 0]) (f243_fr3 a0 a1 c0 d0 d1) (f243_k3 K a0 a1 (realL (f243E K) 1))) = fun c0 d0 d1 => f243_l3 K a0 a1 c0 K d0 d1 := by
    funext c0 d0 d1
    exact f243_t3 K a0 a1 c0 d0 d1 K d0 d1
  exact runF_G (n0 := 1) (by rfl) ((key (realL (f243E K) 1)).trans (by rw [h3] <;> rfl))
theorem f207_t9 (K : Nat) (a0 : Int × Int × Int) (q7 : Int) (F6 : Fr → Option (List tV)) (bq7 : Int) (bq8 : List tV) (bq10 : Int) (bq11 : List tV) : ∀ (n : Nat) (q10 : Int) (q11 : List tV), loopN (exec (f207E K) 0 (selC f207C [1, 1, 0, 1, 0, 0, 1, 1, 0, 0, 1, 1, 0, 0])) 0 (f207_fr9 a0 q7 bq10 bq11) n (f207_fr9 a0 q7 q10 q11) (f207_k9 K a0 F6 bq7 bq8 (realL (f207E K) 0)) = f207_l9 K a0 q7 (fun v0 v1 => F6 (f207_fr6 a0 v0 v1)) n q10 q11 := by
  have key : ∀ (lr : LR (List tV)) (L : Fr → Option (List tV)) (q10 : Int) (q11 : List tV), execG (f207E K) 0 lr (selC f207C [1, 1, 0, 1, 0, 0, 1, 1, 0, 0, 1, 1, 0, 0]) (f207_fr9 a0 q7 q10 q11) (loopK 0 (f207_fr9 a0 q7 bq10 bq11) L (f207_k9 K a0 F6 bq7 bq8 lr)) = f207_b9 K a0 q7 (fun v0 v1 => F6 (f207_fr6 a0 v0 v1)) (fun v0 v1 => L (f207_fr9 a0 q7 v0 v1)) q10 q11 := by
    intro lr L q10 q11; kernel_rfl
  intro n q10 q11
  refine loopN_iter (X := Int × List tV) (frame := fun x => (f207_fr9 a0 q7 x.1 x.2)) (body := (fun L x => (fun L9 => f207_b9 K a0 q7 (fun v0 v1 => F6 (f207_fr6 a0 v0 v1)) L9 x.1 x.2) (fun v0 v1 => L (v0, v1)))) (fun L x => ?_) n (q10, q11)
  rw [exec_G]
  exact (key (realL (f207E K) 0) L x.1 x.2).trans (by rfl)
theorem f207_t6 (K : Nat) (a0 : Int × Int × Int) (bq7 : Int) (bq8 : List tV) : ∀ (n : Nat) (q7 : Int) (q8 : List tV), loopN (exec (f207E K) 0 (selC f207C [1, 1, 0, 1, 0, 0])) 0 (f207_fr6 a0 bq7 bq8) n (f207_fr6 a0 q7 q8) (f207_k6 K a0 (realL (f207E K) 0)) = f207_l6 K a0 n q7 q8 := by
  have key : ∀ (lr : LR (List tV)) (L : Fr → Option (List tV)) (q7 : Int) (q8 : List tV), execG (f207E K) 0 lr (selC f207C [1, 1, 0, 1, 0, 0]) (f207_fr6 a0 q7 q8) (loopK 0 (f207_fr6 a0 bq7 bq8) L (f207_k6 K a0 lr)) = f207_b6 K a0 (fun c0 d0 d1 => lr (selC f207C [1, 1, 0, 1, 0, 0, 1, 1, 0, 0, 1, 1, 0, 0]) (f207_fr9 a0 c0 d0 d1) (f207_k9 K a0 L bq7 bq8 lr)) (fun v0 v1 => L (f207_fr6 a0 v0 v1)) q7 q8 := by
    intro lr L q7 q8; kernel_rfl
  intro n q7 q8
  refine loopN_iter (X := Int × List tV) (frame := fun x => (f207_fr6 a0 x.1 x.2)) (body := (fun L x => (fun L6 => f207_b6 K a0 (fun c0 d0 d1 => f207_l9 K a0 c0 L6 K d0 d1) L6 x.1 x.2) (fun v0 v1 => L (v0, v1)))) (fun L x => ?_) n (q7, q8)
  rw [exec_G]
  have h9 : (fun c0 d0 d1 => (realL (f207E K) 0) (selC f207C [1, 1, 0, 1, 0, 0, 1, 1, 0, 0, 1, 1, 0, 0]) (f207_fr9 a0 c0 d0 d1) (f207_k9 K a0 L bq7 bq8 (realL (f207E K) 0))) = fun c0 d0 d1 => f207_l9 K a0 c0 (fun v0 v1 => L (f207_fr6 a0 v0 v1)) K d0 d1 := by
    funext c0 d0 d1
    exact f207_t9 K a0 c0 L bq7 bq8 d0 d1 K d0 d1
  exact (key (realL (f207E K) 0) L x.1 x.2).trans (by rw [h9] <;> rfl)
theorem f207_run (K : Nat) (a0 : Int × Int × Int) : runF (f207E K) Tryz.f207 [(.ro, sL)] [(.list 79 sV)] (a0, ()) = f207G K a0 := by
  have key : ∀ (lr : LR (List tV)), runG (f207E K) Tryz.f207 [(.ro, sL)] [(.list 79 sV)] (a0, ()) lr = f207_g K a0 (fun d0 d1 => lr (selC f207C [1, 1, 0, 1, 0, 0]) (f207_fr6 a0 d0 d1) (f207_k6 K a0 lr)) := by intro lr; kernel_rfl
  have h6 : (fun d0 d1 => (realL (f207E K) 0) (selC f207C [1, 1, 0, 1, 0, 0]) (f207_fr6 a0 d0 d1) (f207_k6 K a0 (realL (f207E K) 0))) = fun d0 d1 => f207_l6 K a0 K d0 d1 := by
    funext d0 d1
    exact f207_t6 K a0 d0 d1 K d0 d1
  exact runF_G (n0 := 0) (by rfl) ((key (realL (f207E K) 0)).trans (by rw [h6] <;> rfl))
theorem f130_run (K : Nat) (a0 : Int × Int × Int) (a1 : Int × Int) : runF (f130E K) Tryz.f130 [(.ro, sL), (.ro, sV)] [sI] (a0, a1, ()) = f130G K a0 a1 := by kernel_rfl
theorem f191_run (K : Nat) (a0 : tA × Int × Int) (a1 : Int × Int) : runF (f191E K) Tryz.f191 [(.ro, sM), (.ro, sV)] [sV] (a0, a1, ()) = f191G K a0 a1 := by kernel_rfl
theorem f267_run (K : Nat) (a0 : Int × Int × Int) (a1 : tA × Int × Int) (a2 : Int × Int) : runF (f267E K) Tryz.f267 [(.ro, sL), (.ro, sM), (.ro, sV)] [sV] (a0, a1, a2, ()) = f267G K a0 a1 a2 := by kernel_rfl
theorem f270_t9 (K : Nat) (a0 : List tV) (q8 : Int) (F7 : Fr → Option (List tV)) (bq8 bq10 bq11 : Int) (bq12 : List tV) : ∀ (n : Nat) (q10 q11 : Int) (q12 : List tV), loopN (exec (f270E K) 1 (selC f270C [1, 1, 0, 1, 0, 0, 1, 0, 0, 1, 0, 1, 0, 1, 0, 0])) 1 (f270_fr9 a0 q8 bq10 bq11 bq12) n (f270_fr9 a0 q8 q10 q11 q12) (f270_k9 K a0 F7 bq8 (realL (f270E K) 1)) = f270_l9 K a0 q8 n q10 q11 q12 := by
  have key : ∀ (lr : LR (List tV)) (L : Fr → Option (List tV)) (q10 q11 : Int) (q12 : List tV), execG (f270E K) 1 lr (selC f270C [1, 1, 0, 1, 0, 0, 1, 0, 0, 1, 0, 1, 0, 1, 0, 0]) (f270_fr9 a0 q8 q10 q11 q12) (loopK 1 (f270_fr9 a0 q8 bq10 bq11 bq12) L (f270_k9 K a0 F7 bq8 lr)) = f270_b9 K a0 q8 (fun v0 v1 v2 => L (f270_fr9 a0 q8 v0 v1 v2)) q10 q11 q12 := by
    intro lr L q10 q11 q12; kernel_rfl
  intro n q10 q11 q12
  refine loopN_iter (X := Int × Int × List tV) (frame := fun x => (f270_fr9 a0 q8 x.1 x.2.1 x.2.2)) (body := (fun L x => (fun L9 => f270_b9 K a0 q8 L9 x.1 x.2.1 x.2.2) (fun v0 v1 v2 => L (v0, v1, v2)))) (fun L x => ?_) n (q10, q11, q12)
  rw [exec_G]
  exact (key (realL (f270E K) 1) L x.1 x.2.1 x.2.2).trans (by rfl)
theorem f270_t7 (K : Nat) (a0 : List tV) (bq8 : Int) : ∀ (n : Nat) (q8 : Int), loopN (exec (f270E K) 1 (selC f270C [1, 1, 0, 1, 0, 0])) 1 (f270_fr7 a0 bq8) n (f270_fr7 a0 q8) (f270_k7 K a0 (realL (f270E K) 1)) = f270_l7 K a0 n q8 := by
  have key : ∀ (lr : LR (List tV)) (L : Fr → Option (List tV)) (q8 : Int), execG (f270E K) 1 lr (selC f270C [1, 1, 0, 1, 0, 0]) (f270_fr7 a0 q8) (loopK 1 (f270_fr7 a0 bq8) L (f270_k7 K a0 lr)) = f270_b7 K a0 (fun c0 d0 d1 d2 => lr (selC f270C [1, 1, 0, 1, 0, 0, 1, 0, 0, 1, 0, 1, 0, 1, 0, 0]) (f270_fr9 a0 c0 d0 d1 d2) (f270_k9 K a0 L bq8 lr)) (fun v0 => L (f270_fr7 a0 v0)) q8 := by
    intro lr L q8; kernel_rfl
  intro n q8
  refine loopN_iter (X := Int) (frame := fun x => (f270_fr7 a0 x)) (body := (fun L x => (fun L7 => f270_b7 K a0 (fun c0 d0 d1 d2 => f270_l9 K a0 c0 K d0 d1 d2) L7 x) (fun v0 => L v0))) (fun L x => ?_) n q8
  rw [exec_G]
  have h9 : (fun c0 d0 d1 d2 => (realL (f270E K) 1) (selC f270C [1, 1, 0, 1, 0, 0, 1, 0, 0, 1, 0, 1, 0, 1, 0, 0]) (f270_fr9 a0 c0 d0 d1 d2) (f270_k9 K a0 L bq8 (realL (f270E K) 1))) = fun c0 d0 d1 d2 => f270_l9 K a0 c0 K d0 d1 d2 := by
    funext c0 d0 d1 d2
    exact f270_t9 K a0 c0 L bq8 d0 d1 d2 K d0 d1 d2
  exact (key (realL (f270E K) 1) L x).trans (by rw [h9] <;> rfl)
theorem f270_run (K : Nat) (a0 : List tV) : runF (f270E K) Tryz.f270 [(.mv, (.list 79 sV))] [(.list 79 sV)] (a0, ()) = f270G K a0 := by
  have key : ∀ (lr : LR (List tV)), runG (f270E K) Tryz.f270 [(.mv, (.list 79 sV))] [(.list 79 sV)] (a0, ()) lr = f270_g K a0 (fun d0 => lr (selC f270C [1, 1, 0, 1, 0, 0]) (f270_fr7 a0 d0) (f270_k7 K a0 lr)) := by intro lr; kernel_rfl
  have h7 : (fun d0 => (realL (f270E K) 1) (selC f270C [1, 1, 0, 1, 0, 0]) (f270_fr7 a0 d0) (f270_k7 K a0 (realL (f270E K) 1))) = fun d0 => f270_l7 K a0 K d0 := by
    funext d0
    exact f270_t7 K a0 d0 K d0
  exact runF_G (n0 := 1) (by rfl) ((key (realL (f270E K) 1)).trans (by rw [h7] <;> rfl))
theorem f171_t3 (K : Nat) (a0 : Int × Int × Int) (a1 : List tM) (a2 : Int × Int) (bq4 : Int) (bq5 : List tV) : ∀ (n : Nat) (q4 : Int) (q5 : List tV), loopN (exec (f171E K) 1 (selC f171C [1, 1, 0, 1, 0, 0])) 1 (f171_fr3 a0 a1 a2 bq4 bq5) n (f171_fr3 a0 a1 a2 q4 q5) (f171_k3 K a0 a1 a2 (realL (f171E K) 1)) = f171_l3 K a0 a1 a2 n q4 q5 := by
  have key : ∀ (lr : LR (List tV)) (L : Fr → Option (List tV)) (q4 : Int) (q5 : List tV), execG (f171E K) 1 lr (selC f171C [1, 1, 0, 1, 0, 0]) (f171_fr3 a0 a1 a2 q4 q5) (loopK 1 (f171_fr3 a0 a1 a2 bq4 bq5) L (f171_k3 K a0 a1 a2 lr)) = f171_b3 K a0 a1 a2 (fun v0 v1 => L (f171_fr3 a0 a1 a2 v0 v1)) q4 q5 := by
    intro lr L q4 q5; kernel_rfl
  intro n q4 q5
  refine loopN_iter (X := Int × List tV) (frame := fun x => (f171_fr3 a0 a1 a2 x.1 x.2)) (body := (fun L x => (fun L3 => f171_b3 K a0 a1 a2 L3 x.1 x.2) (fun v0 v1 => L (v0, v1)))) (fun L x => ?_) n (q4, q5)
  rw [exec_G]
  exact (key (realL (f171E K) 1) L x.1 x.2).trans (by rfl)
theorem f171_run (K : Nat) (a0 : Int × Int × Int) (a1 : List tM) (a2 : Int × Int) : runF (f171E K) Tryz.f171 [(.ro, sL), (.ro, (.list 95 sM)), (.ro, sV)] [(.list 79 sV)] (a0, a1, a2, ()) = f171G K a0 a1 a2 := by
  have key : ∀ (lr : LR (List tV)), runG (f171E K) Tryz.f171 [(.ro, sL), (.ro, (.list 95 sM)), (.ro, sV)] [(.list 79 sV)] (a0, a1, a2, ()) lr = f171_g K a0 a1 a2 (fun d0 d1 => lr (selC f171C [1, 1, 0, 1, 0, 0]) (f171_fr3 a0 a1 a2 d0 d1) (f171_k3 K a0 a1 a2 lr)) := by intro lr; kernel_rfl
  have h3 : (fun d0 d1 => (realL (f171E K) 1) (selC f171C [1, 1, 0, 1, 0, 0]) (f171_fr3 a0 a1 a2 d0 d1) (f171_k3 K a0 a1 a2 (realL (f171E K) 1))) = fun d0 d1 => f171_l3 K a0 a1 a2 K d0 d1 := by
    funext d0 d1
    exact f171_t3 K a0 a1 a2 d0 d1 K d0 d1
  exact runF_G (n0 := 1) (by rfl) ((key (realL (f171E K) 1)).trans (by rw [h3] <;> rfl))
theorem f128_t22 (K : Nat) (a0 : Int × Int × Int) (a1 : List tM) (y3 : List tV) (q17 : Int) (q18 : List (List tV)) (q19 : List Int) (y20 : Int) (y21 : List tV) (F16 : Fr → Option ((List (List tV)) × List Int)) (bq17 : Int) (bq18 : List (List tV)) (bq19 : List Int) (bq23 : Int) (bq24 : List Int) : ∀ (n : Nat) (q23 : Int) (q24 : List Int), loopN (exec (f128E K) 1 (selC f128C [1, 1, 0, 1, 0, 0, 1, 1, 0, 0, 1, 1, 1, 0, 1, 0, 0])) 1 (f128_fr22 a0 a1 q17 q18 q19 y3 y20 y21 bq23 bq24) n (f128_fr22 a0 a1 q17 q18 q19 y3 y20 y21 q23 q24) (f128_k22 K a0 a1 y3 F16 bq17 bq18 bq19 (realL (f128E K) 1)) = f128_l22 K a0 a1 q17 q18 q19 y3 y20 y21 (fun v0 v1 v2 => F16 (f128_fr16 a0 a1 y3 v0 v1 v2)) n q23 q24 := by
  have key : ∀ (lr : LR ((List (List tV)) × List Int)) (L : Fr → Option ((List (List tV)) × List Int)) (q23 : Int) (q24 : List Int), execG (f128E K) 1 lr (selC f128C [1, 1, 0, 1, 0, 0, 1, 1, 0, 0, 1, 1, 1, 0, 1, 0, 0]) (f128_fr22 a0 a1 q17 q18 q19 y3 y20 y21 q23 q24) (loopK 1 (f128_fr22 a0 a1 q17 q18 q19 y3 y20 y21 bq23 bq24) L (f128_k22 K a0 a1 y3 F16 bq17 bq18 bq19 lr)) = f128_b22 K a0 a1 q17 q18 q19 y3 y20 y21 (fun v0 v1 v2 => F16 (f128_fr16 a0 a1 y3 v0 v1 v2)) (fun v0 v1 => L (f128_fr22 a0 a1 q17 q18 q19 y3 y20 y21 v0 v1)) q23 q24 := by
    intro lr L q23 q24; kernel_rfl
  intro n q23 q24
  refine loopN_iter (X := Int × List Int) (frame := fun x => (f128_fr22 a0 a1 q17 q18 q19 y3 y20 y21 x.1 x.2)) (body := (fun L x => (fun L22 => f128_b22 K a0 a1 q17 q18 q19 y3 y20 y21 (fun v0 v1 v2 => F16 (f128_fr16 a0 a1 y3 v0 v1 v2)) L22 x.1 x.2) (fun v0 v1 => L (v0, v1)))) (fun L x => ?_) n (q23, q24)
  rw [exec_G]
  exact (key (realL (f128E K) 1) L x.1 x.2).trans (by rfl)
theorem f128_t16 (K : Nat) (a0 : Int × Int × Int) (a1 : List tM) (y3 : List tV) (bq17 : Int) (bq18 : List (List tV)) (bq19 : List Int) : ∀ (n : Nat) (q17 : Int) (q18 : List (List tV)) (q19 : List Int), loopN (exec (f128E K) 1 (selC f128C [1, 1, 0, 1, 0, 0])) 1 (f128_fr16 a0 a1 y3 bq17 bq18 bq19) n (f128_fr16 a0 a1 y3 q17 q18 q19) (f128_k16 K a0 a1 (realL (f128E K) 1)) = f128_l16 K a0 a1 y3 n q17 q18 q19 := by
  have key : ∀ (lr : LR ((List (List tV)) × List Int)) (L : Fr → Option ((List (List tV)) × List Int)) (q17 : Int) (q18 : List (List tV)) (q19 : List Int), execG (f128E K) 1 lr (selC f128C [1, 1, 0, 1, 0, 0]) (f128_fr16 a0 a1 y3 q17 q18 q19) (loopK 1 (f128_fr16 a0 a1 y3 bq17 bq18 bq19) L (f128_k16 K a0 a1 lr)) = f128_b16 K a0 a1 y3 (fun c0 c1 c2 c3 c4 d0 d1 => lr (selC f128C [1, 1, 0, 1, 0, 0, 1, 1, 0, 0, 1, 1, 1, 0, 1, 0, 0]) (f128_fr22 a0 a1 c0 c1 c2 y3 c3 c4 d0 d1) (f128_k22 K a0 a1 y3 L bq17 bq18 bq19 lr)) (fun v0 v1 v2 => L (f128_fr16 a0 a1 y3 v0 v1 v2)) q17 q18 q19 := by
    intro lr L q17 q18 q19; kernel_rfl
  intro n q17 q18 q19
  refine loopN_iter (X := Int × List (List tV) × List Int) (frame := fun x => (f128_fr16 a0 a1 y3 x.1 x.2.1 x.2.2)) (body := (fun L x => (fun L16 => f128_b16 K a0 a1 y3 (fun c0 c1 c2 c3 c4 d0 d1 => f128_l22 K a0 a1 c0 c1 c2 y3 c3 c4 L16 K d0 d1) L16 x.1 x.2.1 x.2.2) (fun v0 v1 v2 => L (v0, v1, v2)))) (fun L x => ?_) n (q17, q18, q19)
  rw [exec_G]
  have h22 : (fun c0 c1 c2 c3 c4 d0 d1 => (realL (f128E K) 1) (selC f128C [1, 1, 0, 1, 0, 0, 1, 1, 0, 0, 1, 1, 1, 0, 1, 0, 0]) (f128_fr22 a0 a1 c0 c1 c2 y3 c3 c4 d0 d1) (f128_k22 K a0 a1 y3 L bq17 bq18 bq19 (realL (f128E K) 1))) = fun c0 c1 c2 c3 c4 d0 d1 => f128_l22 K a0 a1 c0 c1 c2 y3 c3 c4 (fun v0 v1 v2 => L (f128_fr16 a0 a1 y3 v0 v1 v2)) K d0 d1 := by
    funext c0 c1 c2 c3 c4 d0 d1
    exact f128_t22 K a0 a1 y3 c0 c1 c2 c3 c4 L bq17 bq18 bq19 d0 d1 K d0 d1
  exact (key (realL (f128E K) 1) L x.1 x.2.1 x.2.2).trans (by rw [h22] <;> rfl)
theorem f128_run (K : Nat) (a0 : Int × Int × Int) (a1 : List tM) : runF (f128E K) Tryz.f128 [(.ro, sL), (.ro, (.list 95 sM))] [(.list 84 (.list 79 sV)), (.list 2 sI)] (a0, a1, ()) = f128G K a0 a1 := by
  have key : ∀ (lr : LR ((List (List tV)) × List Int)), runG (f128E K) Tryz.f128 [(.ro, sL), (.ro, (.list 95 sM))] [(.list 84 (.list 79 sV)), (.list 2 sI)] (a0, a1, ()) lr = f128_g K a0 a1 (fun c0 d0 d1 d2 => lr (selC f128C [1, 1, 0, 1, 0, 0]) (f128_fr16 a0 a1 c0 d0 d1 d2) (f128_k16 K a0 a1 lr)) := by intro lr; kernel_rfl
  have h16 : (fun c0 d0 d1 d2 => (realL (f128E K) 1) (selC f128C [1, 1, 0, 1, 0, 0]) (f128_fr16 a0 a1 c0 d0 d1 d2) (f128_k16 K a0 a1 (realL (f128E K) 1))) = fun c0 d0 d1 d2 => f128_l16 K a0 a1 c0 K d0 d1 d2 := by
    funext c0 d0 d1 d2
    exact f128_t16 K a0 a1 c0 d0 d1 d2 K d0 d1 d2
  exact runF_G (n0 := 1) (by rfl) ((key (realL (f128E K) 1)).trans (by rw [h16] <;> rfl))
theorem f254_run (K : Nat) (a0 : tV × Int) (a1 : List Int) (a2 : Int × Int × Int) : runF (f254E K) Tryz.f254 [(.ro, (.cons sV sI)), (.cap, (.list 2 sI)), (.cap, sL)] [sI] (a0, a1, a2, ()) = f254G K a0 a1 a2 := by kernel_rfl
theorem f148_t12 (K : Nat) (a0 : Int × Int × Int) (a1 : List tM) (a2 : List (tV × Int)) (y1 : (List (List tV)) × List Int) (q11 : Int) (F10 : Fr → Option (Int × Int × Bool)) (bq11 bq13 : Int) : ∀ (n : Nat) (q13 : Int), loopN (exec (f148E K) 2 (selC f148C [1, 1, 1, 0, 1, 0, 0, 1, 1, 0, 0, 1, 1, 0, 0])) 2 (f148_fr12 a0 a1 a2 q11 y1 bq13) n (f148_fr12 a0 a1 a2 q11 y1 q13) (f148_k12 K a0 a1 a2 y1 F10 bq11 (realL (f148E K) 2)) = f148_l12 K a0 a1 a2 q11 y1 (fun v0 => F10 (f148_fr10 a0 a1 a2 y1 v0)) n q13 := by
  have key : ∀ (lr : LR (Int × Int × Bool)) (L : Fr → Option (Int × Int × Bool)) (q13 : Int), execG (f148E K) 2 lr (selC f148C [1, 1, 1, 0, 1, 0, 0, 1, 1, 0, 0, 1, 1, 0, 0]) (f148_fr12 a0 a1 a2 q11 y1 q13) (loopK 2 (f148_fr12 a0 a1 a2 q11 y1 bq13) L (f148_k12 K a0 a1 a2 y1 F10 bq11 lr)) = f148_b12 K a0 a1 a2 q11 y1 (fun v0 => F10 (f148_fr10 a0 a1 a2 y1 v0)) (fun v0 => L (f148_fr12 a0 a1 a2 q11 y1 v0)) q13 := by
    intro lr L q13; kernel_rfl
  intro n q13
  refine loopN_iter (X := Int) (frame := fun x => (f148_fr12 a0 a1 a2 q11 y1 x)) (body := (fun L x => (fun L12 => f148_b12 K a0 a1 a2 q11 y1 (fun v0 => F10 (f148_fr10 a0 a1 a2 y1 v0)) L12 x) (fun v0 => L v0))) (fun L x => ?_) n q13
  rw [exec_G]
  exact (key (realL (f148E K) 2) L x).trans (by rfl)
theorem f148_t10 (K : Nat) (a0 : Int × Int × Int) (a1 : List tM) (a2 : List (tV × Int)) (y1 : (List (List tV)) × List Int) (bq11 : Int) : ∀ (n : Nat) (q11 : Int), loopN (exec (f148E K) 2 (selC f148C [1, 1, 1, 0, 1, 0, 0])) 2 (f148_fr10 a0 a1 a2 y1 bq11) n (f148_fr10 a0 a1 a2 y1 q11) (f148_k10 K a0 a1 a2 (realL (f148E K) 2)) = f148_l10 K a0 a1 a2 y1 n q11 := by
  have key : ∀ (lr : LR (Int × Int × Bool)) (L : Fr → Option (Int × Int × Bool)) (q11 : Int), execG (f148E K) 2 lr (selC f148C [1, 1, 1, 0, 1, 0, 0]) (f148_fr10 a0 a1 a2 y1 q11) (loopK 2 (f148_fr10 a0 a1 a2 y1 bq11) L (f148_k10 K a0 a1 a2 lr)) = f148_b10 K a0 a1 a2 y1 (fun c0 d0 => lr (selC f148C [1, 1, 1, 0, 1, 0, 0, 1, 1, 0, 0, 1, 1, 0, 0]) (f148_fr12 a0 a1 a2 c0 y1 d0) (f148_k12 K a0 a1 a2 y1 L bq11 lr)) (fun v0 => L (f148_fr10 a0 a1 a2 y1 v0)) q11 := by
    intro lr L q11; kernel_rfl
  intro n q11
  refine loopN_iter (X := Int) (frame := fun x => (f148_fr10 a0 a1 a2 y1 x)) (body := (fun L x => (fun L10 => f148_b10 K a0 a1 a2 y1 (fun c0 d0 => f148_l12 K a0 a1 a2 c0 y1 L10 K d0) L10 x) (fun v0 => L v0))) (fun L x => ?_) n q11
  rw [exec_G]
  have h12 : (fun c0 d0 => (realL (f148E K) 2) (selC f148C [1, 1, 1, 0, 1, 0, 0, 1, 1, 0, 0, 1, 1, 0, 0]) (f148_fr12 a0 a1 a2 c0 y1 d0) (f148_k12 K a0 a1 a2 y1 L bq11 (realL (f148E K) 2))) = fun c0 d0 => f148_l12 K a0 a1 a2 c0 y1 (fun v0 => L (f148_fr10 a0 a1 a2 y1 v0)) K d0 := by
    funext c0 d0
    exact f148_t12 K a0 a1 a2 y1 c0 L bq11 d0 K d0
  exact (key (realL (f148E K) 2) L x).trans (by rw [h12] <;> rfl)
theorem f148_run (K : Nat) (a0 : Int × Int × Int) (a1 : List tM) (a2 : List (tV × Int)) : runF (f148E K) Tryz.f148 [(.ro, sL), (.ro, (.list 95 sM)), (.ro, (.list 133 (.cons sV sI)))] [sI, sI, .bool] (a0, a1, a2, ()) = f148G K a0 a1 a2 := by
  have key : ∀ (lr : LR (Int × Int × Bool)), runG (f148E K) Tryz.f148 [(.ro, sL), (.ro, (.list 95 sM)), (.ro, (.list 133 (.cons sV sI)))] [sI, sI, .bool] (a0, a1, a2, ()) lr = f148_g K a0 a1 a2 (fun c0 d0 => lr (selC f148C [1, 1, 1, 0, 1, 0, 0]) (f148_fr10 a0 a1 a2 c0 d0) (f148_k10 K a0 a1 a2 lr)) := by intro lr; kernel_rfl
  have h10 : (fun c0 d0 => (realL (f148E K) 2) (selC f148C [1, 1, 1, 0, 1, 0, 0]) (f148_fr10 a0 a1 a2 c0 d0) (f148_k10 K a0 a1 a2 (realL (f148E K) 2))) = fun c0 d0 => f148_l10 K a0 a1 a2 c0 K d0 := by
    funext c0 d0
    exact f148_t10 K a0 a1 a2 c0 d0 K d0
  exact runF_G (n0 := 2) (by rfl) ((key (realL (f148E K) 2)).trans (by rw [h10] <;> rfl))
theorem f36_t7 (K : Nat) (a0 : Int) (a1 : List (tV × Int)) (y1 y2 : Bool) (y3 : List ByteArray) (bq8 : Int) (bq9 : List ByteArray) : ∀ (n : Nat) (q8 : Int) (q9 : List ByteArray), loopN (exec (f36E K) 1 (selC f36C [1, 1, 1, 0, 1, 0, 0])) 1 (f36_fr7 a0 a1 y1 y2 y3 bq8 bq9) n (f36_fr7 a0 a1 y1 y2 y3 q8 q9) (f36_k7 K a0 a1 (realL (f36E K) 1)) = f36_l7 K a0 a1 y1 y2 y3 n q8 q9 := by
  have key : ∀ (lr : LR ((List ByteArray) × Int)) (L : Fr → Option ((List ByteArray) × Int)) (q8 : Int) (q9 : List ByteArray), execG (f36E K) 1 lr (selC f36C [1, 1, 1, 0, 1, 0, 0]) (f36_fr7 a0 a1 y1 y2 y3 q8 q9) (loopK 1 (f36_fr7 a0 a1 y1 y2 y3 bq8 bq9) L (f36_k7 K a0 a1 lr)) = f36_b7 K a0 a1 y1 y2 y3 (fun v0 v1 => L (f36_fr7 a0 a1 y1 y2 y3 v0 v1)) q8 q9 := by
    intro lr L q8 q9; kernel_rfl
  intro n q8 q9
  refine loopN_iter (X := Int × List ByteArray) (frame := fun x => (f36_fr7 a0 a1 y1 y2 y3 x.1 x.2)) (body := (fun L x => (fun L7 => f36_b7 K a0 a1 y1 y2 y3 L7 x.1 x.2) (fun v0 v1 => L (v0, v1)))) (fun L x => ?_) n (q8, q9)
  rw [exec_G]
  exact (key (realL (f36E K) 1) L x.1 x.2).trans (by rfl)
theorem f36_run (K : Nat) (a0 : Int) (a1 : List (tV × Int)) : runF (f36E K) Tryz.f36 [(.ro, sI), (.ro, (.list 133 (.cons sV sI)))] [(.list 9 .str), sI] (a0, a1, ()) = f36G K a0 a1 := by
  have key : ∀ (lr : LR ((List ByteArray) × Int)), runG (f36E K) Tryz.f36 [(.ro, sI), (.ro, (.list 133 (.cons sV sI)))] [(.list 9 .str), sI] (a0, a1, ()) lr = f36_g K a0 a1 (fun c0 c1 c2 d0 d1 => lr (selC f36C [1, 1, 1, 0, 1, 0, 0]) (f36_fr7 a0 a1 c0 c1 c2 d0 d1) (f36_k7 K a0 a1 lr)) := by intro lr; kernel_rfl
  have h7 : (fun c0 c1 c2 d0 d1 => (realL (f36E K) 1) (selC f36C [1, 1, 1, 0, 1, 0, 0]) (f36_fr7 a0 a1 c0 c1 c2 d0 d1) (f36_k7 K a0 a1 (realL (f36E K) 1))) = fun c0 c1 c2 d0 d1 => f36_l7 K a0 a1 c0 c1 c2 K d0 d1 := by
    funext c0 c1 c2 d0 d1
    exact f36_t7 K a0 a1 c0 c1 c2 d0 d1 K d0 d1
  exact runF_G (n0 := 1) (by rfl) ((key (realL (f36E K) 1)).trans (by rw [h7] <;> rfl))
theorem f211_run (K : Nat) (a0 : Int × Int) : runF (f211E K) Tryz.f211 [(.ro, sV)] [.bool] (a0, ()) = f211G K a0 := by kernel_rfl
theorem f96_t4 (K : Nat) (a0 : List (tV × Int)) (bq5 : Int) : ∀ (n : Nat) (q5 : Int), loopN (exec (f96E K) 1 (selC f96C [1, 0, 1, 0, 0])) 1 (f96_fr4 a0 bq5) n (f96_fr4 a0 q5) (f96_k4 K a0 (realL (f96E K) 1)) = f96_l4 K a0 n q5 := by
  have key : ∀ (lr : LR Bool) (L : Fr → Option Bool) (q5 : Int), execG (f96E K) 1 lr (selC f96C [1, 0, 1, 0, 0]) (f96_fr4 a0 q5) (loopK 1 (f96_fr4 a0 bq5) L (f96_k4 K a0 lr)) = f96_b4 K a0 (fun v0 => L (f96_fr4 a0 v0)) q5 := by
    intro lr L q5; kernel_rfl
  intro n q5
  refine loopN_iter (X := Int) (frame := fun x => (f96_fr4 a0 x)) (body := (fun L x => (fun L4 => f96_b4 K a0 L4 x) (fun v0 => L v0))) (fun L x => ?_) n q5
  rw [exec_G]
  exact (key (realL (f96E K) 1) L x).trans (by rfl)
theorem f96_run (K : Nat) (a0 : List (tV × Int)) : runF (f96E K) Tryz.f96 [(.ro, (.list 133 (.cons sV sI)))] [.bool] (a0, ()) = f96G K a0 := by
  have key : ∀ (lr : LR Bool), runG (f96E K) Tryz.f96 [(.ro, (.list 133 (.cons sV sI)))] [.bool] (a0, ()) lr = f96_g K a0 (fun d0 => lr (selC f96C [1, 0, 1, 0, 0]) (f96_fr4 a0 d0) (f96_k4 K a0 lr)) := by intro lr; kernel_rfl
  have h4 : (fun d0 => (realL (f96E K) 1) (selC f96C [1, 0, 1, 0, 0]) (f96_fr4 a0 d0) (f96_k4 K a0 (realL (f96E K) 1))) = fun d0 => f96_l4 K a0 K d0 := by
    funext d0
    exact f96_t4 K a0 d0 K d0
  exact runF_G (n0 := 1) (by rfl) ((key (realL (f96E K) 1)).trans (by rw [h4] <;> rfl))
theorem f144_t11 (K : Nat) (a0 : Int × Int × Int) (a1 : List Int) (a2 : List (tV × Int)) (q10 : Int) (F9 : Fr → Option (Int × Int × Bool)) (bq10 bq12 : Int) : ∀ (n : Nat) (q12 : Int), loopN (exec (f144E K) 2 (selC f144C [1, 0, 1, 0, 0, 1, 0, 0, 1, 0, 0])) 2 (f144_fr11 a0 a1 a2 q10 bq12) n (f144_fr11 a0 a1 a2 q10 q12) (f144_k11 K a0 a1 a2 F9 bq10 (realL (f144E K) 2)) = f144_l11 K a0 a1 a2 q10 (fun v0 => F9 (f144_fr9 a0 a1 a2 v0)) n q12 := by
  have key : ∀ (lr : LR (Int × Int × Bool)) (L : Fr → Option (Int × Int × Bool)) (q12 : Int), execG (f144E K) 2 lr (selC f144C [1, 0, 1, 0, 0, 1, 0, 0, 1, 0, 0]) (f144_fr11 a0 a1 a2 q10 q12) (loopK 2 (f144_fr11 a0 a1 a2 q10 bq12) L (f144_k11 K a0 a1 a2 F9 bq10 lr)) = f144_b11 K a0 a1 a2 q10 (fun v0 => F9 (f144_fr9 a0 a1 a2 v0)) (fun v0 => L (f144_fr11 a0 a1 a2 q10 v0)) q12 := by
    intro lr L q12; kernel_rfl
  intro n q12
  refine loopN_iter (X := Int) (frame := fun x => (f144_fr11 a0 a1 a2 q10 x)) (body := (fun L x => (fun L11 => f144_b11 K a0 a1 a2 q10 (fun v0 => F9 (f144_fr9 a0 a1 a2 v0)) L11 x) (fun v0 => L v0))) (fun L x => ?_) n q12
  rw [exec_G]
  exact (key (realL (f144E K) 2) L x).trans (by rfl)
theorem f144_t9 (K : Nat) (a0 : Int × Int × Int) (a1 : List Int) (a2 : List (tV × Int)) (bq10 : Int) : ∀ (n : Nat) (q10 : Int), loopN (exec (f144E K) 2 (selC f144C [1, 0, 1, 0, 0])) 2 (f144_fr9 a0 a1 a2 bq10) n (f144_fr9 a0 a1 a2 q10) (f144_k9 K a0 a1 a2 (realL (f144E K) 2)) = f144_l9 K a0 a1 a2 n q10 := by
  have key : ∀ (lr : LR (Int × Int × Bool)) (L : Fr → Option (Int × Int × Bool)) (q10 : Int), execG (f144E K) 2 lr (selC f144C [1, 0, 1, 0, 0]) (f144_fr9 a0 a1 a2 q10) (loopK 2 (f144_fr9 a0 a1 a2 bq10) L (f144_k9 K a0 a1 a2 lr)) = f144_b9 K a0 a1 a2 (fun c0 d0 => lr (selC f144C [1, 0, 1, 0, 0, 1, 0, 0, 1, 0, 0]) (f144_fr11 a0 a1 a2 c0 d0) (f144_k11 K a0 a1 a2 L bq10 lr)) (fun v0 => L (f144_fr9 a0 a1 a2 v0)) q10 := by
    intro lr L q10; kernel_rfl
  intro n q10
  refine loopN_iter (X := Int) (frame := fun x => (f144_fr9 a0 a1 a2 x)) (body := (fun L x => (fun L9 => f144_b9 K a0 a1 a2 (fun c0 d0 => f144_l11 K a0 a1 a2 c0 L9 K d0) L9 x) (fun v0 => L v0))) (fun L x => ?_) n q10
  rw [exec_G]
  have h11 : (fun c0 d0 => (realL (f144E K) 2) (selC f144C [1, 0, 1, 0, 0, 1, 0, 0, 1, 0, 0]) (f144_fr11 a0 a1 a2 c0 d0) (f144_k11 K a0 a1 a2 L bq10 (realL (f144E K) 2))) = fun c0 d0 => f144_l11 K a0 a1 a2 c0 (fun v0 => L (f144_fr9 a0 a1 a2 v0)) K d0 := by
    funext c0 d0
    exact f144_t11 K a0 a1 a2 c0 L bq10 d0 K d0
  exact (key (realL (f144E K) 2) L x).trans (by rw [h11] <;> rfl)
theorem f144_run (K : Nat) (a0 : Int × Int × Int) (a1 : List Int) (a2 : List (tV × Int)) : runF (f144E K) Tryz.f144 [(.ro, sL), (.ro, (.list 2 sI)), (.ro, (.list 133 (.cons sV sI)))] [sI, sI, .bool] (a0, a1, a2, ()) = f144G K a0 a1 a2 := by
  have key : ∀ (lr : LR (Int × Int × Bool)), runG (f144E K) Tryz.f144 [(.ro, sL), (.ro, (.list 2 sI)), (.ro, (.list 133 (.cons sV sI)))] [sI, sI, .bool] (a0, a1, a2, ()) lr = f144_g K a0 a1 a2 (fun d0 => lr (selC f144C [1, 0, 1, 0, 0]) (f144_fr9 a0 a1 a2 d0) (f144_k9 K a0 a1 a2 lr)) := by intro lr; kernel_rfl
  have h9 : (fun d0 => (realL (f144E K) 2) (selC f144C [1, 0, 1, 0, 0]) (f144_fr9 a0 a1 a2 d0) (f144_k9 K a0 a1 a2 (realL (f144E K) 2))) = fun d0 => f144_l9 K a0 a1 a2 K d0 := by
    funext d0
    exact f144_t9 K a0 a1 a2 d0 K d0
  exact runF_G (n0 := 2) (by rfl) ((key (realL (f144E K) 2)).trans (by rw [h9] <;> rfl))
theorem f34_t8 (K : Nat) (a0 : Int) (a1 : List (tV × Int)) (y1 y2 : Bool) (y3 : List ByteArray) (bq9 : Int) (bq10 : List ByteArray) : ∀ (n : Nat) (q9 : Int) (q10 : List ByteArray), loopN (exec (f34E K) 1 (selC f34C [1, 1, 1, 1, 0, 1, 0, 0])) 1 (f34_fr8 a0 a1 y1 y2 y3 bq9 bq10) n (f34_fr8 a0 a1 y1 y2 y3 q9 q10) (f34_k8 K a0 a1 (realL (f34E K) 1)) = f34_l8 K a0 a1 y1 y2 y3 n q9 q10 := by
  have key : ∀ (lr : LR ((List ByteArray) × Int)) (L : Fr → Option ((List ByteArray) × Int)) (q9 : Int) (q10 : List ByteArray), execG (f34E K) 1 lr (selC f34C [1, 1, 1, 1, 0, 1, 0, 0]) (f34_fr8 a0 a1 y1 y2 y3 q9 q10) (loopK 1 (f34_fr8 a0 a1 y1 y2 y3 bq9 bq10) L (f34_k8 K a0 a1 lr)) = f34_b8 K a0 a1 y1 y2 y3 (fun v0 v1 => L (f34_fr8 a0 a1 y1 y2 y3 v0 v1)) q9 q10 := by
    intro lr L q9 q10; kernel_rfl
  intro n q9 q10
  refine loopN_iter (X := Int × List ByteArray) (frame := fun x => (f34_fr8 a0 a1 y1 y2 y3 x.1 x.2)) (body := (fun L x => (fun L8 => f34_b8 K a0 a1 y1 y2 y3 L8 x.1 x.2) (fun v0 v1 => L (v0, v1)))) (fun L x => ?_) n (q9, q10)
  rw [exec_G]
  exact (key (realL (f34E K) 1) L x.1 x.2).trans (by rfl)
theorem f34_run (K : Nat) (a0 : Int) (a1 : List (tV × Int)) : runF (f34E K) Tryz.f34 [(.ro, sI), (.ro, (.list 133 (.cons sV sI)))] [(.list 9 .str), sI] (a0, a1, ()) = f34G K a0 a1 := by
  have key : ∀ (lr : LR ((List ByteArray) × Int)), runG (f34E K) Tryz.f34 [(.ro, sI), (.ro, (.list 133 (.cons sV sI)))] [(.list 9 .str), sI] (a0, a1, ()) lr = f34_g K a0 a1 (fun c0 c1 c2 d0 d1 => lr (selC f34C [1, 1, 1, 1, 0, 1, 0, 0]) (f34_fr8 a0 a1 c0 c1 c2 d0 d1) (f34_k8 K a0 a1 lr)) := by intro lr; kernel_rfl
  have h8 : (fun c0 c1 c2 d0 d1 => (realL (f34E K) 1) (selC f34C [1, 1, 1, 1, 0, 1, 0, 0]) (f34_fr8 a0 a1 c0 c1 c2 d0 d1) (f34_k8 K a0 a1 (realL (f34E K) 1))) = fun c0 c1 c2 d0 d1 => f34_l8 K a0 a1 c0 c1 c2 K d0 d1 := by
    funext c0 c1 c2 d0 d1
    exact f34_t8 K a0 a1 c0 c1 c2 d0 d1 K d0 d1
  exact runF_G (n0 := 1) (by rfl) ((key (realL (f34E K) 1)).trans (by rw [h8] <;> rfl))
theorem f314_run (K : Nat) (a0 : (List Int) × Int × Int) : runP (f314E K) Tryz.f314 5 (.int .u8) sV [] [sI] (a0, ()) = f314G K a0 := by kernel_rfl
theorem f315_run (K : Nat) (a0 : (List Int) × Int × Int) : runP (f315E K) Tryz.f315 5 (.int .u8) sV [] [sL] (a0, ()) = f315G K a0 := by kernel_rfl
theorem f227_run (K : Nat) (a0 : (List Int) × Int × Int) : runP (f227E K) Tryz.f227 5 (.int .u8) sV [] [sI, sL] (a0, ()) = f227G K a0 := by kernel_rfl
theorem f404_run (K : Nat) (a0 : Int) (a1 : Int × Int) : runF (f404E K) Tryz.f404 [(.ro, sI), (.ro, sV)] [sI] (a0, a1, ()) = f404G K a0 a1 := by kernel_rfl
theorem f362_run (K : Nat) (a0 : Int) (a1 : Int × Int × Int × Int) : runF (f362E K) Tryz.f362 [(.ro, sI), (.ro, sA)] [.bool] (a0, a1, ()) = f362G K a0 a1 := by kernel_rfl
theorem f365_t3 (K : Nat) (a0 bq4 : Int) (bq5 : List tA) : ∀ (n : Nat) (q4 : Int) (q5 : List tA), loopN (exec (f365E K) 0 (selC f365C [1, 1, 0, 1, 0, 0])) 0 (f365_fr3 a0 bq4 bq5) n (f365_fr3 a0 q4 q5) (f365_k3 K a0 (realL (f365E K) 0)) = f365_l3 K a0 n q4 q5 := by
  have key : ∀ (lr : LR (List tA)) (L : Fr → Option (List tA)) (q4 : Int) (q5 : List tA), execG (f365E K) 0 lr (selC f365C [1, 1, 0, 1, 0, 0]) (f365_fr3 a0 q4 q5) (loopK 0 (f365_fr3 a0 bq4 bq5) L (f365_k3 K a0 lr)) = f365_b3 K a0 (fun v0 v1 => L (f365_fr3 a0 v0 v1)) q4 q5 := by
    intro lr L q4 q5; kernel_rfl
  intro n q4 q5
  refine loopN_iter (X := Int × List tA) (frame := fun x => (f365_fr3 a0 x.1 x.2)) (body := (fun L x => (fun L3 => f365_b3 K a0 L3 x.1 x.2) (fun v0 v1 => L (v0, v1)))) (fun L x => ?_) n (q4, q5)
  rw [exec_G]
  exact (key (realL (f365E K) 0) L x.1 x.2).trans (by rfl)
theorem f365_run (K : Nat) (a0 : Int) : runF (f365E K) Tryz.f365 [(.ro, sI)] [(.list 93 sA)] (a0, ()) = f365G K a0 := by
  have key : ∀ (lr : LR (List tA)), runG (f365E K) Tryz.f365 [(.ro, sI)] [(.list 93 sA)] (a0, ()) lr = f365_g K a0 (fun d0 d1 => lr (selC f365C [1, 1, 0, 1, 0, 0]) (f365_fr3 a0 d0 d1) (f365_k3 K a0 lr)) := by intro lr; kernel_rfl
  have h3 : (fun d0 d1 => (realL (f365E K) 0) (selC f365C [1, 1, 0, 1, 0, 0]) (f365_fr3 a0 d0 d1) (f365_k3 K a0 (realL (f365E K) 0))) = fun d0 d1 => f365_l3 K a0 K d0 d1 := by
    funext d0 d1
    exact f365_t3 K a0 d0 d1 K d0 d1
  exact runF_G (n0 := 0) (by rfl) ((key (realL (f365E K) 0)).trans (by rw [h3] <;> rfl))
theorem f363_run (K : Nat) (a0 : Int × Int × Int) : runF (f363E K) Tryz.f363 [(.ro, sL)] [(.list 79 sV)] (a0, ()) = f363G K a0 := by kernel_rfl
theorem f405_run (K : Nat) (rec : Int → Int → Option Int) (a0 a1 : Int) : runF (f405E K rec) Tryz.f405 [(.ro, sI), (.ro, sI)] [sI] (a0, a1, ()) = f405_s K rec a0 a1 := by kernel_rfl
theorem f406_run (K : Nat) (a0 : Int × Int) (a1 : Int) : runF (f406E K) Tryz.f406 [(.ro, sV), (.ro, sI)] [sV] (a0, a1, ()) = f406G K a0 a1 := by kernel_rfl
theorem f364_t15 (K : Nat) (a0 : List tV) (q11 q12 : Int) (F10 : Fr → Option tL) (bq11 bq12 bq13 bq14 bq16 bq17 bq18 bq19 : Int) : ∀ (n : Nat) (q16 q17 q18 q19 : Int), loopN (exec (f364E K) 1 (selC f364C [1, 1, 0, 1, 0, 0, 1, 0, 0, 1, 0, 0, 0])) 1 (f364_fr15 a0 q11 q12 bq16 bq17 bq18 bq19) n (f364_fr15 a0 q11 q12 q16 q17 q18 q19) (f364_k15 K a0 F10 bq11 bq12 bq13 bq14 (realL (f364E K) 1)) = f364_l15 K a0 q11 q12 (fun v0 v1 v2 v3 => F10 (f364_fr10 a0 v0 v1 v2 v3)) n q16 q17 q18 q19 := by
  have key : ∀ (lr : LR tL) (L : Fr → Option tL) (q16 q17 q18 q19 : Int), execG (f364E K) 1 lr (selC f364C [1, 1, 0, 1, 0, 0, 1, 0, 0, 1, 0, 0, 0]) (f364_fr15 a0 q11 q12 q16 q17 q18 q19) (loopK 1 (f364_fr15 a0 q11 q12 bq16 bq17 bq18 bq19) L (f364_k15 K a0 F10 bq11 bq12 bq13 bq14 lr)) = f364_b15 K a0 q11 q12 (fun v0 v1 v2 v3 => F10 (f364_fr10 a0 v0 v1 v2 v3)) (fun v0 v1 v2 v3 => L (f364_fr15 a0 q11 q12 v0 v1 v2 v3)) q16 q17 q18 q19 := by
    intro lr L q16 q17 q18 q19; kernel_rfl
  intro n q16 q17 q18 q19
  refine loopN_iter (X := Int × Int × Int × Int) (frame := fun x => (f364_fr15 a0 q11 q12 x.1 x.2.1 x.2.2.1 x.2.2.2)) (body := (fun L x => (fun L15 => f364_b15 K a0 q11 q12 (fun v0 v1 v2 v3 => F10 (f364_fr10 a0 v0 v1 v2 v3)) L15 x.1 x.2.1 x.2.2.1 x.2.2.2) (fun v0 v1 v2 v3 => L (v0, v1, v2, v3)))) (fun L x => ?_) n (q16, q17, q18, q19)
  rw [exec_G]
  exact (key (realL (f364E K) 1) L x.1 x.2.1 x.2.2.1 x.2.2.2).trans (by rfl)
theorem f364_t10 (K : Nat) (a0 : List tV) (bq11 bq12 bq13 bq14 : Int) : ∀ (n : Nat) (q11 q12 q13 q14 : Int), loopN (exec (f364E K) 1 (selC f364C [1, 1, 0, 1, 0, 0])) 1 (f364_fr10 a0 bq11 bq12 bq13 bq14) n (f364_fr10 a0 q11 q12 q13 q14) (f364_k10 K a0 (realL (f364E K) 1)) = f364_l10 K a0 n q11 q12 q13 q14 := by
  have key : ∀ (lr : LR tL) (L : Fr → Option tL) (q11 q12 q13 q14 : Int), execG (f364E K) 1 lr (selC f364C [1, 1, 0, 1, 0, 0]) (f364_fr10 a0 q11 q12 q13 q14) (loopK 1 (f364_fr10 a0 bq11 bq12 bq13 bq14) L (f364_k10 K a0 lr)) = f364_b10 K a0 (fun c0 c1 d0 d1 d2 d3 => lr (selC f364C [1, 1, 0, 1, 0, 0, 1, 0, 0, 1, 0, 0, 0]) (f364_fr15 a0 c0 c1 d0 d1 d2 d3) (f364_k15 K a0 L bq11 bq12 bq13 bq14 lr)) (fun v0 v1 v2 v3 => L (f364_fr10 a0 v0 v1 v2 v3)) q11 q12 q13 q14 := by
    intro lr L q11 q12 q13 q14; kernel_rfl
  intro n q11 q12 q13 q14
  refine loopN_iter (X := Int × Int × Int × Int) (frame := fun x => (f364_fr10 a0 x.1 x.2.1 x.2.2.1 x.2.2.2)) (body := (fun L x => (fun L10 => f364_b10 K a0 (fun c0 c1 d0 d1 d2 d3 => f364_l15 K a0 c0 c1 L10 K d0 d1 d2 d3) L10 x.1 x.2.1 x.2.2.1 x.2.2.2) (fun v0 v1 v2 v3 => L (v0, v1, v2, v3)))) (fun L x => ?_) n (q11, q12, q13, q14)
  rw [exec_G]
  have h15 : (fun c0 c1 d0 d1 d2 d3 => (realL (f364E K) 1) (selC f364C [1, 1, 0, 1, 0, 0, 1, 0, 0, 1, 0, 0, 0]) (f364_fr15 a0 c0 c1 d0 d1 d2 d3) (f364_k15 K a0 L bq11 bq12 bq13 bq14 (realL (f364E K) 1))) = fun c0 c1 d0 d1 d2 d3 => f364_l15 K a0 c0 c1 (fun v0 v1 v2 v3 => L (f364_fr10 a0 v0 v1 v2 v3)) K d0 d1 d2 d3 := by
    funext c0 c1 d0 d1 d2 d3
    exact f364_t15 K a0 c0 c1 L bq11 bq12 bq13 bq14 d0 d1 d2 d3 K d0 d1 d2 d3
  exact (key (realL (f364E K) 1) L x.1 x.2.1 x.2.2.1 x.2.2.2).trans (by rw [h15] <;> rfl)
theorem f364_run (K : Nat) (a0 : List tV) : runF (f364E K) Tryz.f364 [(.ro, (.list 79 sV))] [sL] (a0, ()) = f364G K a0 := by
  have key : ∀ (lr : LR tL), runG (f364E K) Tryz.f364 [(.ro, (.list 79 sV))] [sL] (a0, ()) lr = f364_g K a0 (fun d0 d1 d2 d3 => lr (selC f364C [1, 1, 0, 1, 0, 0]) (f364_fr10 a0 d0 d1 d2 d3) (f364_k10 K a0 lr)) := by intro lr; kernel_rfl
  have h10 : (fun d0 d1 d2 d3 => (realL (f364E K) 1) (selC f364C [1, 1, 0, 1, 0, 0]) (f364_fr10 a0 d0 d1 d2 d3) (f364_k10 K a0 (realL (f364E K) 1))) = fun d0 d1 d2 d3 => f364_l10 K a0 K d0 d1 d2 d3 := by
    funext d0 d1 d2 d3
    exact f364_t10 K a0 d0 d1 d2 d3 K d0 d1 d2 d3
  exact runF_G (n0 := 1) (by rfl) ((key (realL (f364E K) 1)).trans (by rw [h10] <;> rfl))
theorem f313_run (K : Nat) (a0 : Int × Int × Int × Int) (a1 : Int × Int × Int) : runF (f313E K) Tryz.f313 [(.ro, sA), (.ro, sL)] [sL] (a0, a1, ()) = f313G K a0 a1 := by kernel_rfl
theorem f318_t4 (K : Nat) (a0 : Int) (a1 : Int × Int × Int) (y1 : List tA) (bq5 : Int) (bq6 : List tA) : ∀ (n : Nat) (q5 : Int) (q6 : List tA), loopN (exec (f318E K) 0 (selC f318C [1, 1, 1, 0, 1, 0, 0])) 0 (f318_fr4 a0 a1 y1 bq5 bq6) n (f318_fr4 a0 a1 y1 q5 q6) (f318_k4 K a0 a1 (realL (f318E K) 0)) = f318_l4 K a0 a1 y1 n q5 q6 := by
  have key : ∀ (lr : LR (List tA)) (L : Fr → Option (List tA)) (q5 : Int) (q6 : List tA), execG (f318E K) 0 lr (selC f318C [1, 1, 1, 0, 1, 0, 0]) (f318_fr4 a0 a1 y1 q5 q6) (loopK 0 (f318_fr4 a0 a1 y1 bq5 bq6) L (f318_k4 K a0 a1 lr)) = f318_b4 K a0 a1 y1 (fun v0 v1 => L (f318_fr4 a0 a1 y1 v0 v1)) q5 q6 := by
    intro lr L q5 q6; kernel_rfl
  intro n q5 q6
  refine loopN_iter (X := Int × List tA) (frame := fun x => (f318_fr4 a0 a1 y1 x.1 x.2)) (body := (fun L x => (fun L4 => f318_b4 K a0 a1 y1 L4 x.1 x.2) (fun v0 v1 => L (v0, v1)))) (fun L x => ?_) n (q5, q6)
  rw [exec_G]
  exact (key (realL (f318E K) 0) L x.1 x.2).trans (by rfl)
theorem f318_run (K : Nat) (a0 : Int) (a1 : Int × Int × Int) : runF (f318E K) Tryz.f318 [(.ro, sI), (.ro, sL)] [(.list 93 sA)] (a0, a1, ()) = f318G K a0 a1 := by
  have key : ∀ (lr : LR (List tA)), runG (f318E K) Tryz.f318 [(.ro, sI), (.ro, sL)] [(.list 93 sA)] (a0, a1, ()) lr = f318_g K a0 a1 (fun c0 d0 d1 => lr (selC f318C [1, 1, 1, 0, 1, 0, 0]) (f318_fr4 a0 a1 c0 d0 d1) (f318_k4 K a0 a1 lr)) := by intro lr; kernel_rfl
  have h4 : (fun c0 d0 d1 => (realL (f318E K) 0) (selC f318C [1, 1, 1, 0, 1, 0, 0]) (f318_fr4 a0 a1 c0 d0 d1) (f318_k4 K a0 a1 (realL (f318E K) 0))) = fun c0 d0 d1 => f318_l4 K a0 a1 c0 K d0 d1 := by
    funext c0 d0 d1
    exact f318_t4 K a0 a1 c0 d0 d1 K d0 d1
  exact runF_G (n0 := 0) (by rfl) ((key (realL (f318E K) 0)).trans (by rw [h4] <;> rfl))
theorem f309_run (K : Nat) (a0 : (List Int) × Int × Int) (a1 : Int) (a2 : Int × Int × Int) : runP (f309E K) Tryz.f309 5 (.int .u8) sV [(.ro, sI), (.ro, sL)] [sM] (a0, a1, a2, ()) = f309G K a0 a1 a2 := by kernel_rfl
theorem f290_t27 (K : Nat) (a0 : (List Int) × Int × Int) (a1 : Int) (a2 : Int × Int × Int) (q9 : Int) (q12 : List tM) (q21 q22 q23 : Int) (q24 : List Int) (y1 : Int) (y3 : tV × Int) (y15 : List tM) (y16 : List Int) (y17 : tV × Int) (bq28 : Int) (bq29 : List Int) : ∀ (n : Nat) (q28 : Int) (q29 : List Int), loopN (exec (f290E K) 1 (selC f290C [1, 1, 1, 1, 1, 1, 1, 1, 1, 0, 1, 0, 0])) 1 (f290_fr27 a0 a1 a2 q9 q12 q21 q22 q23 q24 y1 y3 y15 y16 y17 bq28 bq29) n (f290_fr27 a0 a1 a2 q9 q12 q21 q22 q23 q24 y1 y3 y15 y16 y17 q28 q29) (f290_k27 K a0 a1 a2 (realL (f290E K) 1)) = f290_l27 K a0 a1 a2 q9 q12 q21 q22 q23 q24 y1 y3 y15 y16 y17 n q28 q29 := by
  have key : ∀ (lr : LR (tV × Int × tL × List Int)) (L : Fr → Option (tV × Int × tL × List Int)) (q28 : Int) (q29 : List Int), execG (f290E K) 1 lr (selC f290C [1, 1, 1, 1, 1, 1, 1, 1, 1, 0, 1, 0, 0]) (f290_fr27 a0 a1 a2 q9 q12 q21 q22 q23 q24 y1 y3 y15 y16 y17 q28 q29) (loopK 1 (f290_fr27 a0 a1 a2 q9 q12 q21 q22 q23 q24 y1 y3 y15 y16 y17 bq28 bq29) L (f290_k27 K a0 a1 a2 lr)) = f290_b27 K a0 a1 a2 q9 q12 q21 q22 q23 q24 y1 y3 y15 y16 y17 (fun v0 v1 => L (f290_fr27 a0 a1 a2 q9 q12 q21 q22 q23 q24 y1 y3 y15 y16 y17 v0 v1)) q28 q29 := by
    intro lr L q28 q29; kernel_rfl
  intro n q28 q29
  refine loopN_iter (X := Int × List Int) (frame := fun x => (f290_fr27 a0 a1 a2 q9 q12 q21 q22 q23 q24 y1 y3 y15 y16 y17 x.1 x.2)) (body := (fun L x => (fun L27 => f290_b27 K a0 a1 a2 q9 q12 q21 q22 q23 q24 y1 y3 y15 y16 y17 L27 x.1 x.2) (fun v0 v1 => L (v0, v1)))) (fun L x => ?_) n (q28, q29)
  rw [exec_G]
  exact (key (realL (f290E K) 1) L x.1 x.2).trans (by rfl)
theorem f290_t20 (K : Nat) (a0 : (List Int) × Int × Int) (a1 : Int) (a2 : Int × Int × Int) (q9 : Int) (q12 : List tM) (y1 : Int) (y3 : tV × Int) (y15 : List tM) (y16 : List Int) (y17 : tV × Int) (bq21 bq22 bq23 : Int) (bq24 : List Int) : ∀ (n : Nat) (q21 q22 q23 : Int) (q24 : List Int), loopN (exec (f290E K) 1 (selC f290C [1, 1, 1, 1, 1, 1, 1, 1, 0, 1, 0, 0])) 1 (f290_fr20 a0 a1 a2 q9 q12 y1 y3 y15 y16 y17 bq21 bq22 bq23 bq24) n (f290_fr20 a0 a1 a2 q9 q12 y1 y3 y15 y16 y17 q21 q22 q23 q24) (f290_k20 K a0 a1 a2 (realL (f290E K) 1)) = f290_l20 K a0 a1 a2 q9 q12 y1 y3 y15 y16 y17 n q21 q22 q23 q24 := by
  have key : ∀ (lr : LR (tV × Int × tL × List Int)) (L : Fr → Option (tV × Int × tL × List Int)) (q21 q22 q23 : Int) (q24 : List Int), execG (f290E K) 1 lr (selC f290C [1, 1, 1, 1, 1, 1, 1, 1, 0, 1, 0, 0]) (f290_fr20 a0 a1 a2 q9 q12 y1 y3 y15 y16 y17 q21 q22 q23 q24) (loopK 1 (f290_fr20 a0 a1 a2 q9 q12 y1 y3 y15 y16 y17 bq21 bq22 bq23 bq24) L (f290_k20 K a0 a1 a2 lr)) = f290_b20 K a0 a1 a2 q9 q12 y1 y3 y15 y16 y17 (fun c0 c1 c2 c3 c4 c5 c6 c7 c8 c9 c10 d0 d1 => lr (selC f290C [1, 1, 1, 1, 1, 1, 1, 1, 1, 0, 1, 0, 0]) (f290_fr27 a0 a1 a2 c0 c1 c2 c3 c4 c5 c6 c7 c8 c9 c10 d0 d1) (f290_k27 K a0 a1 a2 lr)) (fun v0 v1 v2 v3 => L (f290_fr20 a0 a1 a2 q9 q12 y1 y3 y15 y16 y17 v0 v1 v2 v3)) q21 q22 q23 q24 := by
    intro lr L q21 q22 q23 q24; kernel_rfl
  intro n q21 q22 q23 q24
  refine loopN_iter (X := Int × Int × Int × List Int) (frame := fun x => (f290_fr20 a0 a1 a2 q9 q12 y1 y3 y15 y16 y17 x.1 x.2.1 x.2.2.1 x.2.2.2)) (body := (fun L x => (fun L20 => f290_b20 K a0 a1 a2 q9 q12 y1 y3 y15 y16 y17 (fun c0 c1 c2 c3 c4 c5 c6 c7 c8 c9 c10 d0 d1 => f290_l27 K a0 a1 a2 c0 c1 c2 c3 c4 c5 c6 c7 c8 c9 c10 K d0 d1) L20 x.1 x.2.1 x.2.2.1 x.2.2.2) (fun v0 v1 v2 v3 => L (v0, v1, v2, v3)))) (fun L x => ?_) n (q21, q22, q23, q24)
  rw [exec_G]
  have h27 : (fun c0 c1 c2 c3 c4 c5 c6 c7 c8 c9 c10 d0 d1 => (realL (f290E K) 1) (selC f290C [1, 1, 1, 1, 1, 1, 1, 1, 1, 0, 1, 0, 0]) (f290_fr27 a0 a1 a2 c0 c1 c2 c3 c4 c5 c6 c7 c8 c9 c10 d0 d1) (f290_k27 K a0 a1 a2 (realL (f290E K) 1))) = fun c0 c1 c2 c3 c4 c5 c6 c7 c8 c9 c10 d0 d1 => f290_l27 K a0 a1 a2 c0 c1 c2 c3 c4 c5 c6 c7 c8 c9 c10 K d0 d1 := by
    funext c0 c1 c2 c3 c4 c5 c6 c7 c8 c9 c10 d0 d1
    exact f290_t27 K a0 a1 a2 c0 c1 c2 c3 c4 c5 c6 c7 c8 c9 c10 d0 d1 K d0 d1
  exact (key (realL (f290E K) 1) L x.1 x.2.1 x.2.2.1 x.2.2.2).trans (by rw [h27] <;> rfl)
theorem f290_t8 (K : Nat) (a0 : (List Int) × Int × Int) (a1 : Int) (a2 : Int × Int × Int) (y1 : Int) (y2 : tA × Int × Int) (y3 : tV × Int) (bq9 bq10 bq11 : Int) (bq12 : List tM) : ∀ (n : Nat) (q9 q10 q11 : Int) (q12 : List tM), loopN (exec (f290E K) 1 (selC f290C [1, 1, 1, 1, 0, 1, 0, 1, 0, 1, 0, 0])) 1 (f290_fr8 a0 a1 a2 y1 y2 y3 bq9 bq10 bq11 bq12) n (f290_fr8 a0 a1 a2 y1 y2 y3 q9 q10 q11 q12) (f290_k8 K a0 a1 a2 (realL (f290E K) 1)) = f290_l8 K a0 a1 a2 y1 y2 y3 n q9 q10 q11 q12 := by
  have key : ∀ (lr : LR (tV × Int × tL × List Int)) (L : Fr → Option (tV × Int × tL × List Int)) (q9 q10 q11 : Int) (q12 : List tM), execG (f290E K) 1 lr (selC f290C [1, 1, 1, 1, 0, 1, 0, 1, 0, 1, 0, 0]) (f290_fr8 a0 a1 a2 y1 y2 y3 q9 q10 q11 q12) (loopK 1 (f290_fr8 a0 a1 a2 y1 y2 y3 bq9 bq10 bq11 bq12) L (f290_k8 K a0 a1 a2 lr)) = f290_b8 K a0 a1 a2 y1 y2 y3 (fun c0 c1 c2 c3 c4 c5 c6 d0 d1 d2 d3 => lr (selC f290C [1, 1, 1, 1, 1, 1, 1, 1, 0, 1, 0, 0]) (f290_fr20 a0 a1 a2 c0 c1 c2 c3 c4 c5 c6 d0 d1 d2 d3) (f290_k20 K a0 a1 a2 lr)) (fun v0 v1 v2 v3 => L (f290_fr8 a0 a1 a2 y1 y2 y3 v0 v1 v2 v3)) q9 q10 q11 q12 := by
    intro lr L q9 q10 q11 q12; kernel_rfl
  intro n q9 q10 q11 q12
  refine loopN_iter (X := Int × Int × Int × List tM) (frame := fun x => (f290_fr8 a0 a1 a2 y1 y2 y3 x.1 x.2.1 x.2.2.1 x.2.2.2)) (body := (fun L x => (fun L8 => f290_b8 K a0 a1 a2 y1 y2 y3 (fun c0 c1 c2 c3 c4 c5 c6 d0 d1 d2 d3 => f290_l20 K a0 a1 a2 c0 c1 c2 c3 c4 c5 c6 K d0 d1 d2 d3) L8 x.1 x.2.1 x.2.2.1 x.2.2.2) (fun v0 v1 v2 v3 => L (v0, v1, v2, v3)))) (fun L x => ?_) n (q9, q10, q11, q12)
  rw [exec_G]
  have h20 : (fun c0 c1 c2 c3 c4 c5 c6 d0 d1 d2 d3 => (realL (f290E K) 1) (selC f290C [1, 1, 1, 1, 1, 1, 1, 1, 0, 1, 0, 0]) (f290_fr20 a0 a1 a2 c0 c1 c2 c3 c4 c5 c6 d0 d1 d2 d3) (f290_k20 K a0 a1 a2 (realL (f290E K) 1))) = fun c0 c1 c2 c3 c4 c5 c6 d0 d1 d2 d3 => f290_l20 K a0 a1 a2 c0 c1 c2 c3 c4 c5 c6 K d0 d1 d2 d3 := by
    funext c0 c1 c2 c3 c4 c5 c6 d0 d1 d2 d3
    exact f290_t20 K a0 a1 a2 c0 c1 c2 c3 c4 c5 c6 d0 d1 d2 d3 K d0 d1 d2 d3
  exact (key (realL (f290E K) 1) L x.1 x.2.1 x.2.2.1 x.2.2.2).trans (by rw [h20] <;> rfl)
theorem f290_t46 (K : Nat) (a0 : (List Int) × Int × Int) (a1 : Int) (a2 : Int × Int × Int) (q39 q40 q41 : Int) (q42 q43 : List Int) (y1 : Int) (y2 : tA × Int × Int) (y3 : tV × Int) (y30 : List Int) (y31 : tV × Int) (bq47 : Int) (bq48 : List Int) : ∀ (n : Nat) (q47 : Int) (q48 : List Int), loopN (exec (f290E K) 1 (selC f290C [1, 1, 1, 1, 1, 1, 1, 1, 1, 0, 1, 0, 0])) 1 (f290_fr46 a0 a1 a2 q39 q40 q41 q42 q43 y1 y2 y3 y30 y31 bq47 bq48) n (f290_fr46 a0 a1 a2 q39 q40 q41 q42 q43 y1 y2 y3 y30 y31 q47 q48) (f290_k46 K a0 a1 a2 (realL (f290E K) 1)) = f290_l46 K a0 a1 a2 q39 q40 q41 q42 q43 y1 y2 y3 y30 y31 n q47 q48 := by
  have key : ∀ (lr : LR (tV × Int × tL × List Int)) (L : Fr → Option (tV × Int × tL × List Int)) (q47 : Int) (q48 : List Int), execG (f290E K) 1 lr (selC f290C [1, 1, 1, 1, 1, 1, 1, 1, 1, 0, 1, 0, 0]) (f290_fr46 a0 a1 a2 q39 q40 q41 q42 q43 y1 y2 y3 y30 y31 q47 q48) (loopK 1 (f290_fr46 a0 a1 a2 q39 q40 q41 q42 q43 y1 y2 y3 y30 y31 bq47 bq48) L (f290_k46 K a0 a1 a2 lr)) = f290_b46 K a0 a1 a2 q39 q40 q41 q42 q43 y1 y2 y3 y30 y31 (fun v0 v1 => L (f290_fr46 a0 a1 a2 q39 q40 q41 q42 q43 y1 y2 y3 y30 y31 v0 v1)) q47 q48 := by
    intro lr L q47 q48; kernel_rfl
  intro n q47 q48
  refine loopN_iter (X := Int × List Int) (frame := fun x => (f290_fr46 a0 a1 a2 q39 q40 q41 q42 q43 y1 y2 y3 y30 y31 x.1 x.2)) (body := (fun L x => (fun L46 => f290_b46 K a0 a1 a2 q39 q40 q41 q42 q43 y1 y2 y3 y30 y31 L46 x.1 x.2) (fun v0 v1 => L (v0, v1)))) (fun L x => ?_) n (q47, q48)
  rw [exec_G]
  exact (key (realL (f290E K) 1) L x.1 x.2).trans (by rfl)
theorem f290_t38 (K : Nat) (a0 : (List Int) × Int × Int) (a1 : Int) (a2 : Int × Int × Int) (y1 : Int) (y2 : tA × Int × Int) (y3 : tV × Int) (y30 : List Int) (y31 : tV × Int) (bq39 bq40 bq41 : Int) (bq42 bq43 : List Int) : ∀ (n : Nat) (q39 q40 q41 : Int) (q42 q43 : List Int), loopN (exec (f290E K) 1 (selC f290C [1, 1, 1, 1, 1, 1, 1, 1, 0, 1, 0, 0])) 1 (f290_fr38 a0 a1 a2 y1 y2 y3 y30 y31 bq39 bq40 bq41 bq42 bq43) n (f290_fr38 a0 a1 a2 y1 y2 y3 y30 y31 q39 q40 q41 q42 q43) (f290_k38 K a0 a1 a2 (realL (f290E K) 1)) = f290_l38 K a0 a1 a2 y1 y2 y3 y30 y31 n q39 q40 q41 q42 q43 := by
  have key : ∀ (lr : LR (tV × Int × tL × List Int)) (L : Fr → Option (tV × Int × tL × List Int)) (q39 q40 q41 : Int) (q42 q43 : List Int), execG (f290E K) 1 lr (selC f290C [1, 1, 1, 1, 1, 1, 1, 1, 0, 1, 0, 0]) (f290_fr38 a0 a1 a2 y1 y2 y3 y30 y31 q39 q40 q41 q42 q43) (loopK 1 (f290_fr38 a0 a1 a2 y1 y2 y3 y30 y31 bq39 bq40 bq41 bq42 bq43) L (f290_k38 K a0 a1 a2 lr)) = f290_b38 K a0 a1 a2 y1 y2 y3 y30 y31 (fun c0 c1 c2 c3 c4 c5 c6 c7 c8 c9 d0 d1 => lr (selC f290C [1, 1, 1, 1, 1, 1, 1, 1, 1, 0, 1, 0, 0]) (f290_fr46 a0 a1 a2 c0 c1 c2 c3 c4 c5 c6 c7 c8 c9 d0 d1) (f290_k46 K a0 a1 a2 lr)) (fun v0 v1 v2 v3 v4 => L (f290_fr38 a0 a1 a2 y1 y2 y3 y30 y31 v0 v1 v2 v3 v4)) q39 q40 q41 q42 q43 := by
    intro lr L q39 q40 q41 q42 q43; kernel_rfl
  intro n q39 q40 q41 q42 q43
  refine loopN_iter (X := Int × Int × Int × List Int × List Int) (frame := fun x => (f290_fr38 a0 a1 a2 y1 y2 y3 y30 y31 x.1 x.2.1 x.2.2.1 x.2.2.2.1 x.2.2.2.2)) (body := (fun L x => (fun L38 => f290_b38 K a0 a1 a2 y1 y2 y3 y30 y31 (fun c0 c1 c2 c3 c4 c5 c6 c7 c8 c9 d0 d1 => f290_l46 K a0 a1 a2 c0 c1 c2 c3 c4 c5 c6 c7 c8 c9 K d0 d1) L38 x.1 x.2.1 x.2.2.1 x.2.2.2.1 x.2.2.2.2) (fun v0 v1 v2 v3 v4 => L (v0, v1, v2, v3, v4)))) (fun L x => ?_) n (q39, q40, q41, q42, q43)
  rw [exec_G]
  have h46 : (fun c0 c1 c2 c3 c4 c5 c6 c7 c8 c9 d0 d1 => (realL (f290E K) 1) (selC f290C [1, 1, 1, 1, 1, 1, 1, 1, 1, 0, 1, 0, 0]) (f290_fr46 a0 a1 a2 c0 c1 c2 c3 c4 c5 c6 c7 c8 c9 d0 d1) (f290_k46 K a0 a1 a2 (realL (f290E K) 1))) = fun c0 c1 c2 c3 c4 c5 c6 c7 c8 c9 d0 d1 => f290_l46 K a0 a1 a2 c0 c1 c2 c3 c4 c5 c6 c7 c8 c9 K d0 d1 := by
    funext c0 c1 c2 c3 c4 c5 c6 c7 c8 c9 d0 d1
    exact f290_t46 K a0 a1 a2 c0 c1 c2 c3 c4 c5 c6 c7 c8 c9 d0 d1 K d0 d1
  exact (key (realL (f290E K) 1) L x.1 x.2.1 x.2.2.1 x.2.2.2.1 x.2.2.2.2).trans (by rw [h46] <;> rfl)
theorem f290_run (K : Nat) (a0 : (List Int) × Int × Int) (a1 : Int) (a2 : Int × Int × Int) : runP (f290E K) Tryz.f290 5 (.int .u8) sV [(.ro, sI), (.ro, sL)] [(.cons sI (.cons sL (.list 2 sI)))] (a0, a1, a2, ()) = f290G K a0 a1 a2 := by
  have key : ∀ (lr : LR (tV × Int × tL × List Int)), runPG (f290E K) Tryz.f290 5 (.int .u8) sV [(.ro, sI), (.ro, sL)] [(.cons sI (.cons sL (.list 2 sI)))] (a0, a1, a2, ()) lr = f290_g K a0 a1 a2 (fun c0 c1 c2 d0 d1 d2 d3 => lr (selC f290C [1, 1, 1, 1, 0, 1, 0, 1, 0, 1, 0, 0]) (f290_fr8 a0 a1 a2 c0 c1 c2 d0 d1 d2 d3) (f290_k8 K a0 a1 a2 lr)) (fun c0 c1 c2 c3 c4 d0 d1 d2 d3 d4 => lr (selC f290C [1, 1, 1, 1, 1, 1, 1, 1, 0, 1, 0, 0]) (f290_fr38 a0 a1 a2 c0 c1 c2 c3 c4 d0 d1 d2 d3 d4) (f290_k38 K a0 a1 a2 lr)) := by intro lr; kernel_rfl
  have h8 : (fun c0 c1 c2 d0 d1 d2 d3 => (realL (f290E K) 1) (selC f290C [1, 1, 1, 1, 0, 1, 0, 1, 0, 1, 0, 0]) (f290_fr8 a0 a1 a2 c0 c1 c2 d0 d1 d2 d3) (f290_k8 K a0 a1 a2 (realL (f290E K) 1))) = fun c0 c1 c2 d0 d1 d2 d3 => f290_l8 K a0 a1 a2 c0 c1 c2 K d0 d1 d2 d3 := by
    funext c0 c1 c2 d0 d1 d2 d3
    exact f290_t8 K a0 a1 a2 c0 c1 c2 d0 d1 d2 d3 K d0 d1 d2 d3
  have h38 : (fun c0 c1 c2 c3 c4 d0 d1 d2 d3 d4 => (realL (f290E K) 1) (selC f290C [1, 1, 1, 1, 1, 1, 1, 1, 0, 1, 0, 0]) (f290_fr38 a0 a1 a2 c0 c1 c2 c3 c4 d0 d1 d2 d3 d4) (f290_k38 K a0 a1 a2 (realL (f290E K) 1))) = fun c0 c1 c2 c3 c4 d0 d1 d2 d3 d4 => f290_l38 K a0 a1 a2 c0 c1 c2 c3 c4 K d0 d1 d2 d3 d4 := by
    funext c0 c1 c2 c3 c4 d0 d1 d2 d3 d4
    exact f290_t38 K a0 a1 a2 c0 c1 c2 c3 c4 d0 d1 d2 d3 d4 K d0 d1 d2 d3 d4
  exact runP_G (n0 := 1) (by rfl) ((key (realL (f290E K) 1)).trans (by rw [h8, h38] <;> rfl))
theorem f195_run (K : Nat) (a0 : (List Int) × Int × Int) : runP (f195E K) Tryz.f195 5 (.int .u8) sV [] [(.cons sI (.cons sL (.list 2 sI)))] (a0, ()) = f195G K a0 := by kernel_rfl
theorem f78_run (K : Nat) (a0 : List Int) : runF (f78E K) Tryz.f78 [(.ro, (.list 5 (.int .u8)))] [(.list 133 (.cons sV sI)), sI] (a0, ()) = f78G K a0 := by kernel_rfl
end Go.Proofs.YtfccacobkcglcaaGreat.X
