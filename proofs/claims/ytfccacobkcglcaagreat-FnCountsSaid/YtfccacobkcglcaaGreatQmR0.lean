/- Functions of the program as plain Lean functions, and that the program does what they say. Printed by gen.py. -/
import Derived.Test.YtfccacobkcglcaaGreatQmD1
namespace Go.Proofs.YtfccacobkcglcaaGreat.X
open Go
set_option maxRecDepth 100000
set_option linter.unusedVariables false
theorem f55_run (K : Nat) (a0 : List Int) : runF (f55E K) Tryz.f55 [(.ro, (.list 5 (.int .u8)))] [.bool] (a0, ()) = f55G K a0 := by kernel_rfl
theorem f174_t2 (K : Nat) (a0 : List Int) (bq3 bq4 : Int) : ∀ (n : Nat) (q3 q4 : Int), loopN (exec (f174E K) 1 (selC f174C [1, 1, 0, 1, 0, 0])) 1 (f174_fr2 a0 bq3 bq4) n (f174_fr2 a0 q3 q4) (f174_k2 K a0 (realL (f174E K) 1)) = f174_l2 K a0 n q3 q4 := by
  have key : ∀ (lr : LR tV) (L : Fr → Option tV) (q3 q4 : Int), execG (f174E K) 1 lr (selC f174C [1, 1, 0, 1, 0, 0]) (f174_fr2 a0 q3 q4) (loopK 1 (f174_fr2 a0 bq3 bq4) L (f174_k2 K a0 lr)) = f174_b2 K a0 (fun v0 v1 => L (f174_fr2 a0 v0 v1)) q3 q4 := by
    intro lr L q3 q4; kernel_rfl
  intro n q3 q4
  refine loopN_iter (X := Int × Int) (frame := fun x => (f174_fr2 a0 x.1 x.2)) (body := (fun L x => (fun L2 => f174_b2 K a0 L2 x.1 x.2) (fun v0 v1 => L (v0, v1)))) (fun L x => ?_) n (q3, q4)
  rw [exec_G]
  exact (key (realL (f174E K) 1) L x.1 x.2).trans (by rfl)
theorem f174_run (K : Nat) (a0 : List Int) : runN (f174E K) Tryz.f174 5 (.int .u8) sV [] (a0, ()) = f174G K a0 := by
  have key : ∀ (lr : LR tV), runNG (f174E K) Tryz.f174 5 (.int .u8) sV [] (a0, ()) lr = f174_g K a0 (fun d0 d1 => lr (selC f174C [1, 1, 0, 1, 0, 0]) (f174_fr2 a0 d0 d1) (f174_k2 K a0 lr)) := by intro lr; kernel_rfl
  have h2 : (fun d0 d1 => (realL (f174E K) 1) (selC f174C [1, 1, 0, 1, 0, 0]) (f174_fr2 a0 d0 d1) (f174_k2 K a0 (realL (f174E K) 1))) = fun d0 d1 => f174_l2 K a0 K d0 d1 := by
    funext d0 d1
    exact f174_t2 K a0 d0 d1 K d0 d1
  exact runN_G (n0 := 1) (by rfl) ((key (realL (f174E K) 1)).trans (by rw [h2] <;> rfl))
theorem f194_run (K : Nat) (a0 : (List Int) × Int × Int) (a1 : Int) : runP (f194E K) Tryz.f194 5 (.int .u8) sV [(.ro, sI)] [sI] (a0, a1, ()) = f194G K a0 a1 := by kernel_rfl
theorem f196_run (K : Nat) (a0 : (List Int) × Int × Int) (a1 : List Int) : runP (f196E K) Tryz.f196 5 (.int .u8) sV [(.ro, (.list 2 sI))] [sI] (a0, a1, ()) = f196G K a0 a1 := by kernel_rfl
theorem f314_run (K : Nat) (a0 : (List Int) × Int × Int) : runP (f314E K) Tryz.f314 5 (.int .u8) sV [] [sI] (a0, ()) = f314G K a0 := by kernel_rfl
theorem f315_run (K : Nat) (a0 : (List Int) × Int × Int) : runP (f315E K) Tryz.f315 5 (.int .u8) sV [] [sL] (a0, ()) = f315G K a0 := by kernel_rfl
theorem f227_run (K : Nat) (a0 : (List Int) × Int × Int) : runP (f227E K) Tryz.f227 5 (.int .u8) sV [] [sI, sL] (a0, ()) = f227G K a0 := by kernel_rfl
theorem f316_run (K : Nat) (a0 : Int) : runF (f316E K) Tryz.f316 [(.ro, sI)] [.bool] (a0, ()) = f316G K a0 := by kernel_rfl
theorem f141_run (K : Nat) (a0 a1 a2 : Int) : runF (f141E K) Tryz.f141 [(.ro, sI), (.ro, sI), (.ro, sI)] [.bool] (a0, a1, a2, ()) = f141G K a0 a1 a2 := by kernel_rfl
theorem f317_run (K : Nat) (a0 : Int × Int × Int) : runF (f317E K) Tryz.f317 [(.ro, sL)] [.bool] (a0, ()) = f317G K a0 := by kernel_rfl
theorem f229_run (K : Nat) (a0 : Int) (a1 : Int × Int × Int) : runF (f229E K) Tryz.f229 [(.ro, sI), (.ro, sL)] [sI] (a0, a1, ()) = f229G K a0 a1 := by kernel_rfl
theorem f233_run (K : Nat) : runF (f233E K) Tryz.f233 [] [sA] (()) = f233G K := by kernel_rfl
theorem f404_run (K : Nat) (a0 : Int) (a1 : Int × Int) : runF (f404E K) Tryz.f404 [(.ro, sI), (.ro, sV)] [sI] (a0, a1, ()) = f404G K a0 a1 := by kernel_rfl
theorem f340_run (K : Nat) (a0 a1 : Int × Int) : runF (f340E K) Tryz.f340 [(.ro, sV), (.ro, sV)] [sV] (a0, a1, ()) = f340G K a0 a1 := by kernel_rfl
theorem f362_run (K : Nat) (a0 : Int) (a1 : Int × Int × Int × Int) : runF (f362E K) Tryz.f362 [(.ro, sI), (.ro, sA)] [.bool] (a0, a1, ()) = f362G K a0 a1 := by kernel_rfl
theorem f365_t3 (K : Nat) (a0 bq4 : Int) (bq5 : List tA) : ∀ (n : Nat) (q4 : Int) (q5 : List tA), loopN (exec (f365E K) 0 (selC f365C [1, 1, 0, 1, 0, 0])) 0 (f365_fr3 a0 bq4 bq5) n (f365_fr3 a0 q4 q5) (f365_k3 K a0 (realL (f365E K) 0)) = f365_l3 K a0 n q4 q5 := by
  have key : ∀ (lr : LR (List tA)) (L : Fr → Option (List tA)) (q4 : Int) (q5 : List tA), execG (f365E K) 0 lr (selC f365C [1, 1, 0, 1, 0, 0]) (f365_fr3 a0 q4 q5) (loopK 0 (f365_fr3 a0 bq4 bq5) L (f365_k3 K a0 lr)) = f365_b3 K a0 (fun v0 v1 => L (f365_fr3 a0 v0 v1)) q4 q5 := by
    intro lr L q4 q5; kernel_rfl
  intro n q4 q5
  refine loopN_iter (X := Int × List tA) (frame := fun x => (f365_fr3 a0 x.1 x.2)) (body := (fun L x => (fun L3 => f365_b3 K a0 L3 x.1 x.2) (fun v0 v1 => L (v0, v1)))) (fun L x => ?_) n (q4, q5)
  rw [exec_G]
  exact (key (realL (f365E K) 0) L x.1 x.2).trans (by rfl)
theorem f365_run (K : Nat) (a0 : Int) : runF (f365E K) Tryz.f365 [(.ro, sI)] [(.list 93 sA)] (a0, ()) = f365G K a0 := by
  have key : ∀ (lr : LR (List tA)), runG (f365E K) Tryz.f365 [(.ro, sI)] [(.list 93 sA)] (a0, ()) lr = f365_g K a0 (fun d0 d1 => lr (selC f365C [1, 1, 0, 1, 0, 0]) (f365_fr3 a0 d0 d1) (f365_k3 K a0 lr)) := by intro lr; kernel_rfl
  have h3 : (fun d0 d1 => (realL (f365E K) 0) (selC f365C [1, 1, 0, 1, 0, 0]) (f365_fr3 a0 d0 d1) (f365_k3 K a0 (realL (f365E K) 0))) = fun d0 d1 => f365_l3 K a0 K d0 d1 := by
    funext d0 d1
    exact f365_t3 K a0 d0 d1 K d0 d1
  exact runF_G (n0 := 0) (by rfl) ((key (realL (f365E K) 0)).trans (by rw [h3] <;> rfl))
theorem f363_run (K : Nat) (a0 : Int × Int × Int) : runF (f363E K) Tryz.f363 [(.ro, sL)] [(.list 79 sV)] (a0, ()) = f363G K a0 := by kernel_rfl
theorem f341_run (K : Nat) (a0 : Int × Int × Int × Int) (a1 : Int × Int) : runF (f341E K) Tryz.f341 [(.ro, sA), (.ro, sV)] [sV] (a0, a1, ()) = f341G K a0 a1 := by kernel_rfl
theorem f405_run (K : Nat) (rec : Int → Int → Option Int) (a0 a1 : Int) : runF (f405E K rec) Tryz.f405 [(.ro, sI), (.ro, sI)] [sI] (a0, a1, ()) = f405_s K rec a0 a1 := by kernel_rfl
theorem f255_run (K : Nat) (a0 a1 : Int) : runF (f255E K) Tryz.f255 [(.ro, sI), (.ro, sI)] [sI] (a0, a1, ()) = f255G K a0 a1 := by kernel_rfl
theorem f406_run (K : Nat) (a0 : Int × Int) (a1 : Int) : runF (f406E K) Tryz.f406 [(.ro, sV), (.ro, sI)] [sV] (a0, a1, ()) = f406G K a0 a1 := by kernel_rfl
theorem f364_t15 (K : Nat) (a0 : List tV) (q11 q12 : Int) (F10 : Fr → Option tL) (bq11 bq12 bq13 bq14 bq16 bq17 bq18 bq19 : Int) : ∀ (n : Nat) (q16 q17 q18 q19 : Int), loopN (exec (f364E K) 1 (selC f364C [1, 1, 0, 1, 0, 0, 1, 0, 0, 1, 0, 0, 0])) 1 (f364_fr15 a0 q11 q12 bq16 bq17 bq18 bq19) n (f364_fr15 a0 q11 q12 q16 q17 q18 q19) (f364_k15 K a0 F10 bq11 bq12 bq13 bq14 (realL (f364E K) 1)) = f364_l15 K a0 q11 q12 (fun v0 v1 v2 v3 => F10 (f364_fr10 a0 v0 v1 v2 v3)) n q16 q17 q18 q19 := by
  have key : ∀ (lr : LR tL) (L : Fr → Option tL) (q16 q17 q18 q19 : Int), execG (f364E K) 1 lr (selC f364C [1, 1, 0, 1, 0, 0, 1, 0, 0, 1, 0, 0, 0]) (f364_fr15 a0 q11 q12 q16 q17 q18 q19) (loopK 1 (f364_fr15 a0 q11 q12 bq16 bq17 bq18 bq19) L (f364_k15 K a0 F10 bq11 bq12 bq13 bq14 lr)) = f364_b15 K a0 q11 q12 (fun v0 v1 v2 v3 => F10 (f364_fr10 a0 v0 v1 v2 v3)) (fun v0 v1 v2 v3 => L (f364_fr15 a0 q11 q12 v0 v1 v2 v3)) q16 q17 q18 q19 := by
    intro lr L q16 q17 q18 q19; kernel_rfl
  intro n q16 q17 q18 q19
  refine loopN_iter (X := Int × Int × Int × Int) (frame := fun x => (f364_fr15 a0 q11 q12 x.1 x.2.1 x.2.2.1 x.2.2.2)) (body := (fun L x => (fun L15 => f364_b15 K a0 q11 q12 (fun v0 v1 v2 v3 => F10 (f364_fr10 a0 v0 v1 v2 v3)) L15 x.1 x.2.1 x.2.2.1 x.2.2.2) (fun v0 v1 v2 v3 => L (v0, v1, v2, v3)))) (fun L x => ?_) n (q16, q17, q18, q19)
  rw [exec_G]
  exact (key (realL (f364E K) 1) L x.1 x.2.1 x.2.2.1 x.2.2.2).trans (by rfl)
theorem f364_t10 (K : Nat) (a0 : List tV) (bq11 bq12 bq13 bq14 : Int) : ∀ (n : Nat) (q11 q12 q13 q14 : Int), loopN (exec (f364E K) 1 (selC f364C [1, 1, 0, 1, 0, 0])) 1 (f364_fr10 a0 bq11 bq12 bq13 bq14) n (f364_fr10 a0 q11 q12 q13 q14) (f364_k10 K a0 (realL (f364E K) 1)) = f364_l10 K a0 n q11 q12 q13 q14 := by
  have key : ∀ (lr : LR tL) (L : Fr → Option tL) (q11 q12 q13 q14 : Int), execG (f364E K) 1 lr (selC f364C [1, 1, 0, 1, 0, 0]) (f364_fr10 a0 q11 q12 q13 q14) (loopK 1 (f364_fr10 a0 bq11 bq12 bq13 bq14) L (f364_k10 K a0 lr)) = f364_b10 K a0 (fun c0 c1 d0 d1 d2 d3 => lr (selC f364C [1, 1, 0, 1, 0, 0, 1, 0, 0, 1, 0, 0, 0]) (f364_fr15 a0 c0 c1 d0 d1 d2 d3) (f364_k15 K a0 L bq11 bq12 bq13 bq14 lr)) (fun v0 v1 v2 v3 => L (f364_fr10 a0 v0 v1 v2 v3)) q11 q12 q13 q14 := by
    intro lr L q11 q12 q13 q14; kernel_rfl
  intro n q11 q12 q13 q14
  refine loopN_iter (X := Int × Int × Int × Int) (frame := fun x => (f364_fr10 a0 x.1 x.2.1 x.2.2.1 x.2.2.2)) (body := (fun L x => (fun L10 => f364_b10 K a0 (fun c0 c1 d0 d1 d2 d3 => f364_l15 K a0 c0 c1 L10 K d0 d1 d2 d3) L10 x.1 x.2.1 x.2.2.1 x.2.2.2) (fun v0 v1 v2 v3 => L (v0, v1, v2, v3)))) (fun L x => ?_) n (q11, q12, q13, q14)
  rw [exec_G]
  have h15 : (fun c0 c1 d0 d1 d2 d3 => (realL (f364E K) 1) (selC f364C [1, 1, 0, 1, 0, 0, 1, 0, 0, 1, 0, 0, 0]) (f364_fr15 a0 c0 c1 d0 d1 d2 d3) (f364_k15 K a0 L bq11 bq12 bq13 bq14 (realL (f364E K) 1))) = fun c0 c1 d0 d1 d2 d3 => f364_l15 K a0 c0 c1 (fun v0 v1 v2 v3 => L (f364_fr10 a0 v0 v1 v2 v3)) K d0 d1 d2 d3 := by
    funext c0 c1 d0 d1 d2 d3
    exact f364_t15 K a0 c0 c1 L bq11 bq12 bq13 bq14 d0 d1 d2 d3 K d0 d1 d2 d3
  exact (key (realL (f364E K) 1) L x.1 x.2.1 x.2.2.1 x.2.2.2).trans (by rw [h15] <;> rfl)
theorem f364_run (K : Nat) (a0 : List tV) : runF (f364E K) Tryz.f364 [(.ro, (.list 79 sV))] [sL] (a0, ()) = f364G K a0 := by
  have key : ∀ (lr : LR tL), runG (f364E K) Tryz.f364 [(.ro, (.list 79 sV))] [sL] (a0, ()) lr = f364_g K a0 (fun d0 d1 d2 d3 => lr (selC f364C [1, 1, 0, 1, 0, 0]) (f364_fr10 a0 d0 d1 d2 d3) (f364_k10 K a0 lr)) := by intro lr; kernel_rfl
  have h10 : (fun d0 d1 d2 d3 => (realL (f364E K) 1) (selC f364C [1, 1, 0, 1, 0, 0]) (f364_fr10 a0 d0 d1 d2 d3) (f364_k10 K a0 (realL (f364E K) 1))) = fun d0 d1 d2 d3 => f364_l10 K a0 K d0 d1 d2 d3 := by
    funext d0 d1 d2 d3
    exact f364_t10 K a0 d0 d1 d2 d3 K d0 d1 d2 d3
  exact runF_G (n0 := 1) (by rfl) ((key (realL (f364E K) 1)).trans (by rw [h10] <;> rfl))
theorem f313_run (K : Nat) (a0 : Int × Int × Int × Int) (a1 : Int × Int × Int) : runF (f313E K) Tryz.f313 [(.ro, sA), (.ro, sL)] [sL] (a0, a1, ()) = f313G K a0 a1 := by kernel_rfl
theorem f318_t4 (K : Nat) (a0 : Int) (a1 : Int × Int × Int) (y1 : List tA) (bq5 : Int) (bq6 : List tA) : ∀ (n : Nat) (q5 : Int) (q6 : List tA), loopN (exec (f318E K) 0 (selC f318C [1, 1, 1, 0, 1, 0, 0])) 0 (f318_fr4 a0 a1 y1 bq5 bq6) n (f318_fr4 a0 a1 y1 q5 q6) (f318_k4 K a0 a1 (realL (f318E K) 0)) = f318_l4 K a0 a1 y1 n q5 q6 := by
  have key : ∀ (lr : LR (List tA)) (L : Fr → Option (List tA)) (q5 : Int) (q6 : List tA), execG (f318E K) 0 lr (selC f318C [1, 1, 1, 0, 1, 0, 0]) (f318_fr4 a0 a1 y1 q5 q6) (loopK 0 (f318_fr4 a0 a1 y1 bq5 bq6) L (f318_k4 K a0 a1 lr)) = f318_b4 K a0 a1 y1 (fun v0 v1 => L (f318_fr4 a0 a1 y1 v0 v1)) q5 q6 := by
    intro lr L q5 q6; kernel_rfl
  intro n q5 q6
  refine loopN_iter (X := Int × List tA) (frame := fun x => (f318_fr4 a0 a1 y1 x.1 x.2)) (body := (fun L x => (fun L4 => f318_b4 K a0 a1 y1 L4 x.1 x.2) (fun v0 v1 => L (v0, v1)))) (fun L x => ?_) n (q5, q6)
  rw [exec_G]
  exact (key (realL (f318E K) 0) L x.1 x.2).trans (by rfl)
theorem f318_run (K : Nat) (a0 : Int) (a1 : Int × Int × Int) : runF (f318E K) Tryz.f318 [(.ro, sI), (.ro, sL)] [(.list 93 sA)] (a0, a1, ()) = f318G K a0 a1 := by
  have key : ∀ (lr : LR (List tA)), runG (f318E K) Tryz.f318 [(.ro, sI), (.ro, sL)] [(.list 93 sA)] (a0, a1, ()) lr = f318_g K a0 a1 (fun c0 d0 d1 => lr (selC f318C [1, 1, 1, 0, 1, 0, 0]) (f318_fr4 a0 a1 c0 d0 d1) (f318_k4 K a0 a1 lr)) := by intro lr; kernel_rfl
  have h4 : (fun c0 d0 d1 => (realL (f318E K) 0) (selC f318C [1, 1, 1, 0, 1, 0, 0]) (f318_fr4 a0 a1 c0 d0 d1) (f318_k4 K a0 a1 (realL (f318E K) 0))) = fun c0 d0 d1 => f318_l4 K a0 a1 c0 K d0 d1 := by
    funext c0 d0 d1
    exact f318_t4 K a0 a1 c0 d0 d1 K d0 d1
  exact runF_G (n0 := 0) (by rfl) ((key (realL (f318E K) 0)).trans (by rw [h4] <;> rfl))
theorem f309_run (K : Nat) (a0 : (List Int) × Int × Int) (a1 : Int) (a2 : Int × Int × Int) : runP (f309E K) Tryz.f309 5 (.int .u8) sV [(.ro, sI), (.ro, sL)] [sM] (a0, a1, a2, ()) = f309G K a0 a1 a2 := by kernel_rfl
theorem f153_run (K : Nat) (a0 : Int × Int × Int) (a1 : Int × Int) : runF (f153E K) Tryz.f153 [(.ro, sL), (.ro, sV)] [sV] (a0, a1, ()) = f153G K a0 a1 := by kernel_rfl
theorem f303_run (K : Nat) (a0 : Int × Int × Int) (a1 : tA × Int × Int) : runF (f303E K) Tryz.f303 [(.ro, sL), (.ro, sM)] [sM] (a0, a1, ()) = f303G K a0 a1 := by kernel_rfl
theorem f306_run (K : Nat) : runF (f306E K) Tryz.f306 [] [sM] (()) = f306G K := by kernel_rfl
theorem f351_run (K : Nat) (a0 a1 : Int × Int × Int × Int) : runF (f351E K) Tryz.f351 [(.ro, sA), (.ro, sA)] [sA] (a0, a1, ()) = f351G K a0 a1 := by kernel_rfl
theorem f307_run (K : Nat) (a0 a1 : tA × Int × Int) : runF (f307E K) Tryz.f307 [(.ro, sM), (.ro, sM)] [sM] (a0, a1, ()) = f307G K a0 a1 := by kernel_rfl
theorem f398_run (K : Nat) (a0 : Int × Int × Int × Int) : runF (f398E K) Tryz.f398 [(.ro, sA)] [(.list 2 sI)] (a0, ()) = f398G K a0 := by kernel_rfl
theorem f397_t2 (K : Nat) (a0 a1 : List Int) (bq3 : Int) : ∀ (n : Nat) (q3 : Int), loopN (exec (f397E K) 2 (selC f397C [1, 0, 1, 0, 0])) 2 (f397_fr2 a0 a1 bq3) n (f397_fr2 a0 a1 q3) (f397_k2 K a0 a1 (realL (f397E K) 2)) = f397_l2 K a0 a1 n q3 := by
  have key : ∀ (lr : LR Bool) (L : Fr → Option Bool) (q3 : Int), execG (f397E K) 2 lr (selC f397C [1, 0, 1, 0, 0]) (f397_fr2 a0 a1 q3) (loopK 2 (f397_fr2 a0 a1 bq3) L (f397_k2 K a0 a1 lr)) = f397_b2 K a0 a1 (fun v0 => L (f397_fr2 a0 a1 v0)) q3 := by
    intro lr L q3; kernel_rfl
  intro n q3
  refine loopN_iter (X := Int) (frame := fun x => (f397_fr2 a0 a1 x)) (body := (fun L x => (fun L2 => f397_b2 K a0 a1 L2 x) (fun v0 => L v0))) (fun L x => ?_) n q3
  rw [exec_G]
  exact (key (realL (f397E K) 2) L x).trans (by rfl)
theorem f397_run (K : Nat) (a0 a1 : List Int) : runF (f397E K) Tryz.f397 [(.ro, (.list 2 sI)), (.ro, (.list 2 sI))] [.bool] (a0, a1, ()) = f397G K a0 a1 := by
  have key : ∀ (lr : LR Bool), runG (f397E K) Tryz.f397 [(.ro, (.list 2 sI)), (.ro, (.list 2 sI))] [.bool] (a0, a1, ()) lr = f397_g K a0 a1 (fun d0 => lr (selC f397C [1, 0, 1, 0, 0]) (f397_fr2 a0 a1 d0) (f397_k2 K a0 a1 lr)) := by intro lr; kernel_rfl
  have h2 : (fun d0 => (realL (f397E K) 2) (selC f397C [1, 0, 1, 0, 0]) (f397_fr2 a0 a1 d0) (f397_k2 K a0 a1 (realL (f397E K) 2))) = fun d0 => f397_l2 K a0 a1 K d0 := by
    funext d0
    exact f397_t2 K a0 a1 d0 K d0
  exact runF_G (n0 := 2) (by rfl) ((key (realL (f397E K) 2)).trans (by rw [h2] <;> rfl))
theorem f350_run (K : Nat) (a0 a1 : Int × Int × Int × Int) : runF (f350E K) Tryz.f350 [(.ro, sA), (.ro, sA)] [.bool] (a0, a1, ()) = f350G K a0 a1 := by kernel_rfl
theorem f339_run (K : Nat) (a0 a1 : Int × Int) : runF (f339E K) Tryz.f339 [(.ro, sV), (.ro, sV)] [.bool] (a0, a1, ()) = f339G K a0 a1 := by kernel_rfl
theorem f304_run (K : Nat) (a0 a1 : tA × Int × Int) : runF (f304E K) Tryz.f304 [(.ro, sM), (.ro, sM)] [.bool] (a0, a1, ()) = f304G K a0 a1 := by kernel_rfl
theorem f328_t6 (K : Nat) (a0 : List tM) (a1 : tA × Int × Int) (bq7 bq8 : Int) : ∀ (n : Nat) (q7 q8 : Int), loopN (exec (f328E K) 1 (selC f328C [1, 1, 0, 0, 0])) 1 (f328_fr6 a0 a1 bq7 bq8) n (f328_fr6 a0 a1 q7 q8) (f328_k6 K a0 a1 (realL (f328E K) 1)) = f328_l6 K a0 a1 n q7 q8 := by
  have key : ∀ (lr : LR Int) (L : Fr → Option Int) (q7 q8 : Int), execG (f328E K) 1 lr (selC f328C [1, 1, 0, 0, 0]) (f328_fr6 a0 a1 q7 q8) (loopK 1 (f328_fr6 a0 a1 bq7 bq8) L (f328_k6 K a0 a1 lr)) = f328_b6 K a0 a1 (fun v0 v1 => L (f328_fr6 a0 a1 v0 v1)) q7 q8 := by
    intro lr L q7 q8; kernel_rfl
  intro n q7 q8
  refine loopN_iter (X := Int × Int) (frame := fun x => (f328_fr6 a0 a1 x.1 x.2)) (body := (fun L x => (fun L6 => f328_b6 K a0 a1 L6 x.1 x.2) (fun v0 v1 => L (v0, v1)))) (fun L x => ?_) n (q7, q8)
  rw [exec_G]
  exact (key (realL (f328E K) 1) L x.1 x.2).trans (by rfl)
theorem f328_run (K : Nat) (a0 : List tM) (a1 : tA × Int × Int) : runF (f328E K) Tryz.f328 [(.ro, (.list 95 sM)), (.ro, sM)] [sI] (a0, a1, ()) = f328G K a0 a1 := by
  have key : ∀ (lr : LR Int), runG (f328E K) Tryz.f328 [(.ro, (.list 95 sM)), (.ro, sM)] [sI] (a0, a1, ()) lr = f328_g K a0 a1 (fun d0 d1 => lr (selC f328C [1, 1, 0, 0, 0]) (f328_fr6 a0 a1 d0 d1) (f328_k6 K a0 a1 lr)) := by intro lr; kernel_rfl
  have h6 : (fun d0 d1 => (realL (f328E K) 1) (selC f328C [1, 1, 0, 0, 0]) (f328_fr6 a0 a1 d0 d1) (f328_k6 K a0 a1 (realL (f328E K) 1))) = fun d0 d1 => f328_l6 K a0 a1 K d0 d1 := by
    funext d0 d1
    exact f328_t6 K a0 a1 d0 d1 K d0 d1
  exact runF_G (n0 := 1) (by rfl) ((key (realL (f328E K) 1)).trans (by rw [h6] <;> rfl))
theorem f305_run (K : Nat) (a0 : List tM) (a1 : tA × Int × Int) : runF (f305E K) Tryz.f305 [(.ro, (.list 95 sM)), (.ro, sM)] [.bool] (a0, a1, ()) = f305G K a0 a1 := by kernel_rfl
theorem f324_run (K : Nat) (a0 : List tM) (a1 : tA × Int × Int) : runF (f324E K) Tryz.f324 [(.mv, (.list 95 sM)), (.ro, sM)] [(.list 95 sM)] (a0, a1, ()) = f324G K a0 a1 := by kernel_rfl
theorem f253_t21 (K : Nat) (a0 : Int × Int × Int) (a1 : List tM) (q18 : Int) (q20 : List tM) (F17 : Fr → Option (List tM)) (bq18 : Int) (bq19 bq20 : List tM) (bq22 : Int) (bq23 bq24 : List tM) : ∀ (n : Nat) (q22 : Int) (q23 q24 : List tM), loopN (exec (f253E K) 1 (selC f253C [1, 1, 1, 0, 1, 0, 0, 1, 0, 0, 1, 0, 0])) 1 (f253_fr21 a0 a1 q18 q20 bq22 bq23 bq24) n (f253_fr21 a0 a1 q18 q20 q22 q23 q24) (f253_k21 K a0 a1 F17 bq18 bq19 bq20 (realL (f253E K) 1)) = f253_l21 K a0 a1 q18 q20 (fun v0 v1 v2 => F17 (f253_fr17 a0 a1 v0 v1 v2)) n q22 q23 q24 := by
  have key : ∀ (lr : LR (List tM)) (L : Fr → Option (List tM)) (q22 : Int) (q23 q24 : List tM), execG (f253E K) 1 lr (selC f253C [1, 1, 1, 0, 1, 0, 0, 1, 0, 0, 1, 0, 0]) (f253_fr21 a0 a1 q18 q20 q22 q23 q24) (loopK 1 (f253_fr21 a0 a1 q18 q20 bq22 bq23 bq24) L (f253_k21 K a0 a1 F17 bq18 bq19 bq20 lr)) = f253_b21 K a0 a1 q18 q20 (fun v0 v1 v2 => F17 (f253_fr17 a0 a1 v0 v1 v2)) (fun v0 v1 v2 => L (f253_fr21 a0 a1 q18 q20 v0 v1 v2)) q22 q23 q24 := by
    intro lr L q22 q23 q24; kernel_rfl
  intro n q22 q23 q24
  refine loopN_iter (X := Int × List tM × List tM) (frame := fun x => (f253_fr21 a0 a1 q18 q20 x.1 x.2.1 x.2.2)) (body := (fun L x => (fun L21 => f253_b21 K a0 a1 q18 q20 (fun v0 v1 v2 => F17 (f253_fr17 a0 a1 v0 v1 v2)) L21 x.1 x.2.1 x.2.2) (fun v0 v1 v2 => L (v0, v1, v2)))) (fun L x => ?_) n (q22, q23, q24)
  rw [exec_G]
  exact (key (realL (f253E K) 1) L x.1 x.2.1 x.2.2).trans (by rfl)
theorem f253_t17 (K : Nat) (a0 : Int × Int × Int) (a1 : List tM) (bq18 : Int) (bq19 bq20 : List tM) : ∀ (n : Nat) (q18 : Int) (q19 q20 : List tM), loopN (exec (f253E K) 1 (selC f253C [1, 1, 1, 0, 1, 0, 0])) 1 (f253_fr17 a0 a1 bq18 bq19 bq20) n (f253_fr17 a0 a1 q18 q19 q20) (f253_k17 K a0 a1 (realL (f253E K) 1)) = f253_l17 K a0 a1 n q18 q19 q20 := by
  have key : ∀ (lr : LR (List tM)) (L : Fr → Option (List tM)) (q18 : Int) (q19 q20 : List tM), execG (f253E K) 1 lr (selC f253C [1, 1, 1, 0, 1, 0, 0]) (f253_fr17 a0 a1 q18 q19 q20) (loopK 1 (f253_fr17 a0 a1 bq18 bq19 bq20) L (f253_k17 K a0 a1 lr)) = f253_b17 K a0 a1 (fun c0 c1 d0 d1 d2 => lr (selC f253C [1, 1, 1, 0, 1, 0, 0, 1, 0, 0, 1, 0, 0]) (f253_fr21 a0 a1 c0 c1 d0 d1 d2) (f253_k21 K a0 a1 L bq18 bq19 bq20 lr)) (fun v0 v1 v2 => L (f253_fr17 a0 a1 v0 v1 v2)) q18 q19 q20 := by
    intro lr L q18 q19 q20; kernel_rfl
  intro n q18 q19 q20
  refine loopN_iter (X := Int × List tM × List tM) (frame := fun x => (f253_fr17 a0 a1 x.1 x.2.1 x.2.2)) (body := (fun L x => (fun L17 => f253_b17 K a0 a1 (fun c0 c1 d0 d1 d2 => f253_l21 K a0 a1 c0 c1 L17 K d0 d1 d2) L17 x.1 x.2.1 x.2.2) (fun v0 v1 v2 => L (v0, v1, v2)))) (fun L x => ?_) n (q18, q19, q20)
  rw [exec_G]
  have h21 : (fun c0 c1 d0 d1 d2 => (realL (f253E K) 1) (selC f253C [1, 1, 1, 0, 1, 0, 0, 1, 0, 0, 1, 0, 0]) (f253_fr21 a0 a1 c0 c1 d0 d1 d2) (f253_k21 K a0 a1 L bq18 bq19 bq20 (realL (f253E K) 1))) = fun c0 c1 d0 d1 d2 => f253_l21 K a0 a1 c0 c1 (fun v0 v1 v2 => L (f253_fr17 a0 a1 v0 v1 v2)) K d0 d1 d2 := by
    funext c0 c1 d0 d1 d2
    exact f253_t21 K a0 a1 c0 c1 L bq18 bq19 bq20 d0 d1 d2 K d0 d1 d2
  exact (key (realL (f253E K) 1) L x.1 x.2.1 x.2.2).trans (by rw [h21] <;> rfl)
theorem f253_run (K : Nat) (a0 : Int × Int × Int) (a1 : List tM) : runF (f253E K) Tryz.f253 [(.ro, sL), (.ro, (.list 95 sM))] [(.list 95 sM)] (a0, a1, ()) = f253G K a0 a1 := by
  have key : ∀ (lr : LR (List tM)), runG (f253E K) Tryz.f253 [(.ro, sL), (.ro, (.list 95 sM))] [(.list 95 sM)] (a0, a1, ()) lr = f253_g K a0 a1 (fun d0 d1 d2 => lr (selC f253C [1, 1, 1, 0, 1, 0, 0]) (f253_fr17 a0 a1 d0 d1 d2) (f253_k17 K a0 a1 lr)) := by intro lr; kernel_rfl
  have h17 : (fun d0 d1 d2 => (realL (f253E K) 1) (selC f253C [1, 1, 1, 0, 1, 0, 0]) (f253_fr17 a0 a1 d0 d1 d2) (f253_k17 K a0 a1 (realL (f253E K) 1))) = fun d0 d1 d2 => f253_l17 K a0 a1 K d0 d1 d2 := by
    funext d0 d1 d2
    exact f253_t17 K a0 a1 d0 d1 d2 K d0 d1 d2
  exact runF_G (n0 := 1) (by rfl) ((key (realL (f253E K) 1)).trans (by rw [h17] <;> rfl))
theorem f302_t7 (K : Nat) (a0 : (List Int) × Int × Int) (y1 : tV × Int × Int × Int × Int) (y2 bq8 bq9 bq10 : Int) (bq11 : List tM) : ∀ (n : Nat) (q8 q9 q10 : Int) (q11 : List tM), loopN (exec (f302E K) 1 (selC f302C [1, 1, 1, 0, 1, 0, 0, 1, 0, 0])) 1 (f302_fr7 a0 y1 y2 bq8 bq9 bq10 bq11) n (f302_fr7 a0 y1 y2 q8 q9 q10 q11) (f302_k7 K a0 (realL (f302E K) 1)) = f302_l7 K a0 y1 y2 n q8 q9 q10 q11 := by
  have key : ∀ (lr : LR (tV × Int × tL × List tM)) (L : Fr → Option (tV × Int × tL × List tM)) (q8 q9 q10 : Int) (q11 : List tM), execG (f302E K) 1 lr (selC f302C [1, 1, 1, 0, 1, 0, 0, 1, 0, 0]) (f302_fr7 a0 y1 y2 q8 q9 q10 q11) (loopK 1 (f302_fr7 a0 y1 y2 bq8 bq9 bq10 bq11) L (f302_k7 K a0 lr)) = f302_b7 K a0 y1 y2 (fun v0 v1 v2 v3 => L (f302_fr7 a0 y1 y2 v0 v1 v2 v3)) q8 q9 q10 q11 := by
    intro lr L q8 q9 q10 q11; kernel_rfl
  intro n q8 q9 q10 q11
  refine loopN_iter (X := Int × Int × Int × List tM) (frame := fun x => (f302_fr7 a0 y1 y2 x.1 x.2.1 x.2.2.1 x.2.2.2)) (body := (fun L x => (fun L7 => f302_b7 K a0 y1 y2 L7 x.1 x.2.1 x.2.2.1 x.2.2.2) (fun v0 v1 v2 v3 => L (v0, v1, v2, v3)))) (fun L x => ?_) n (q8, q9, q10, q11)
  rw [exec_G]
  exact (key (realL (f302E K) 1) L x.1 x.2.1 x.2.2.1 x.2.2.2).trans (by rfl)
theorem f302_run (K : Nat) (a0 : (List Int) × Int × Int) : runP (f302E K) Tryz.f302 5 (.int .u8) sV [] [sI, sL, (.list 95 sM)] (a0, ()) = f302G K a0 := by
  have key : ∀ (lr : LR (tV × Int × tL × List tM)), runPG (f302E K) Tryz.f302 5 (.int .u8) sV [] [sI, sL, (.list 95 sM)] (a0, ()) lr = f302_g K a0 (fun c0 c1 d0 d1 d2 d3 => lr (selC f302C [1, 1, 1, 0, 1, 0, 0, 1, 0, 0]) (f302_fr7 a0 c0 c1 d0 d1 d2 d3) (f302_k7 K a0 lr)) := by intro lr; kernel_rfl
  have h7 : (fun c0 c1 d0 d1 d2 d3 => (realL (f302E K) 1) (selC f302C [1, 1, 1, 0, 1, 0, 0, 1, 0, 0]) (f302_fr7 a0 c0 c1 d0 d1 d2 d3) (f302_k7 K a0 (realL (f302E K) 1))) = fun c0 c1 d0 d1 d2 d3 => f302_l7 K a0 c0 c1 K d0 d1 d2 d3 := by
    funext c0 c1 d0 d1 d2 d3
    exact f302_t7 K a0 c0 c1 d0 d1 d2 d3 K d0 d1 d2 d3
  exact runP_G (n0 := 1) (by rfl) ((key (realL (f302E K) 1)).trans (by rw [h7] <;> rfl))
theorem f232_t9 (K : Nat) (a0 : Int × Int × Int) (q7 : Int) (F6 : Fr → Option (List tV)) (bq7 : Int) (bq8 : List tV) (bq10 : Int) (bq11 : List tV) : ∀ (n : Nat) (q10 : Int) (q11 : List tV), loopN (exec (f232E K) 0 (selC f232C [1, 1, 0, 1, 0, 0, 1, 0, 0, 1, 0, 0])) 0 (f232_fr9 a0 q7 bq10 bq11) n (f232_fr9 a0 q7 q10 q11) (f232_k9 K a0 F6 bq7 bq8 (realL (f232E K) 0)) = f232_l9 K a0 q7 (fun v0 v1 => F6 (f232_fr6 a0 v0 v1)) n q10 q11 := by
  have key : ∀ (lr : LR (List tV)) (L : Fr → Option (List tV)) (q10 : Int) (q11 : List tV), execG (f232E K) 0 lr (selC f232C [1, 1, 0, 1, 0, 0, 1, 0, 0, 1, 0, 0]) (f232_fr9 a0 q7 q10 q11) (loopK 0 (f232_fr9 a0 q7 bq10 bq11) L (f232_k9 K a0 F6 bq7 bq8 lr)) = f232_b9 K a0 q7 (fun v0 v1 => F6 (f232_fr6 a0 v0 v1)) (fun v0 v1 => L (f232_fr9 a0 q7 v0 v1)) q10 q11 := by
    intro lr L q10 q11; kernel_rfl
  intro n q10 q11
  refine loopN_iter (X := Int × List tV) (frame := fun x => (f232_fr9 a0 q7 x.1 x.2)) (body := (fun L x => (fun L9 => f232_b9 K a0 q7 (fun v0 v1 => F6 (f232_fr6 a0 v0 v1)) L9 x.1 x.2) (fun v0 v1 => L (v0, v1)))) (fun L x => ?_) n (q10, q11)
  rw [exec_G]
  exact (key (realL (f232E K) 0) L x.1 x.2).trans (by rfl)
theorem f232_t6 (K : Nat) (a0 : Int × Int × Int) (bq7 : Int) (bq8 : List tV) : ∀ (n : Nat) (q7 : Int) (q8 : List tV), loopN (exec (f232E K) 0 (selC f232C [1, 1, 0, 1, 0, 0])) 0 (f232_fr6 a0 bq7 bq8) n (f232_fr6 a0 q7 q8) (f232_k6 K a0 (realL (f232E K) 0)) = f232_l6 K a0 n q7 q8 := by
  have key : ∀ (lr : LR (List tV)) (L : Fr → Option (List tV)) (q7 : Int) (q8 : List tV), execG (f232E K) 0 lr (selC f232C [1, 1, 0, 1, 0, 0]) (f232_fr6 a0 q7 q8) (loopK 0 (f232_fr6 a0 bq7 bq8) L (f232_k6 K a0 lr)) = f232_b6 K a0 (fun c0 d0 d1 => lr (selC f232C [1, 1, 0, 1, 0, 0, 1, 0, 0, 1, 0, 0]) (f232_fr9 a0 c0 d0 d1) (f232_k9 K a0 L bq7 bq8 lr)) (fun v0 v1 => L (f232_fr6 a0 v0 v1)) q7 q8 := by
    intro lr L q7 q8; kernel_rfl
  intro n q7 q8
  refine loopN_iter (X := Int × List tV) (frame := fun x => (f232_fr6 a0 x.1 x.2)) (body := (fun L x => (fun L6 => f232_b6 K a0 (fun c0 d0 d1 => f232_l9 K a0 c0 L6 K d0 d1) L6 x.1 x.2) (fun v0 v1 => L (v0, v1)))) (fun L x => ?_) n (q7, q8)
  rw [exec_G]
  have h9 : (fun c0 d0 d1 => (realL (f232E K) 0) (selC f232C [1, 1, 0, 1, 0, 0, 1, 0, 0, 1, 0, 0]) (f232_fr9 a0 c0 d0 d1) (f232_k9 K a0 L bq7 bq8 (realL (f232E K) 0))) = fun c0 d0 d1 => f232_l9 K a0 c0 (fun v0 v1 => L (f232_fr6 a0 v0 v1)) K d0 d1 := by
    funext c0 d0 d1
    exact f232_t9 K a0 c0 L bq7 bq8 d0 d1 K d0 d1
  exact (key (realL (f232E K) 0) L x.1 x.2).trans (by rw [h9] <;> rfl)
theorem f232_run (K : Nat) (a0 : Int × Int × Int) : runF (f232E K) Tryz.f232 [(.ro, sL)] [(.list 79 sV)] (a0, ()) = f232G K a0 := by
  have key : ∀ (lr : LR (List tV)), runG (f232E K) Tryz.f232 [(.ro, sL)] [(.list 79 sV)] (a0, ()) lr = f232_g K a0 (fun d0 d1 => lr (selC f232C [1, 1, 0, 1, 0, 0]) (f232_fr6 a0 d0 d1) (f232_k6 K a0 lr)) := by intro lr; kernel_rfl
  have h6 : (fun d0 d1 => (realL (f232E K) 0) (selC f232C [1, 1, 0, 1, 0, 0]) (f232_fr6 a0 d0 d1) (f232_k6 K a0 (realL (f232E K) 0))) = fun d0 d1 => f232_l6 K a0 K d0 d1 := by
    funext d0 d1
    exact f232_t6 K a0 d0 d1 K d0 d1
  exact runF_G (n0 := 0) (by rfl) ((key (realL (f232E K) 0)).trans (by rw [h6] <;> rfl))
theorem f230_t11 (K : Nat) (a0 : Int) (a1 : Int × Int × Int) (y1 : List tA) (y2 : List tV) (q9 : Int) (F8 : Fr → Option (List tM)) (bq9 : Int) (bq10 : List tM) (bq12 : Int) (bq13 : List tM) : ∀ (n : Nat) (q12 : Int) (q13 : List tM), loopN (exec (f230E K) 0 (selC f230C [1, 1, 1, 0, 1, 0, 0, 1, 0, 0, 1, 0, 0])) 0 (f230_fr11 a0 a1 q9 y1 y2 bq12 bq13) n (f230_fr11 a0 a1 q9 y1 y2 q12 q13) (f230_k11 K a0 a1 y1 y2 F8 bq9 bq10 (realL (f230E K) 0)) = f230_l11 K a0 a1 q9 y1 y2 (fun v0 v1 => F8 (f230_fr8 a0 a1 y1 y2 v0 v1)) n q12 q13 := by
  have key : ∀ (lr : LR (List tM)) (L : Fr → Option (List tM)) (q12 : Int) (q13 : List tM), execG (f230E K) 0 lr (selC f230C [1, 1, 1, 0, 1, 0, 0, 1, 0, 0, 1, 0, 0]) (f230_fr11 a0 a1 q9 y1 y2 q12 q13) (loopK 0 (f230_fr11 a0 a1 q9 y1 y2 bq12 bq13) L (f230_k11 K a0 a1 y1 y2 F8 bq9 bq10 lr)) = f230_b11 K a0 a1 q9 y1 y2 (fun v0 v1 => F8 (f230_fr8 a0 a1 y1 y2 v0 v1)) (fun v0 v1 => L (f230_fr11 a0 a1 q9 y1 y2 v0 v1)) q12 q13 := by
    intro lr L q12 q13; kernel_rfl
  intro n q12 q13
  refine loopN_iter (X := Int × List tM) (frame := fun x => (f230_fr11 a0 a1 q9 y1 y2 x.1 x.2)) (body := (fun L x => (fun L11 => f230_b11 K a0 a1 q9 y1 y2 (fun v0 v1 => F8 (f230_fr8 a0 a1 y1 y2 v0 v1)) L11 x.1 x.2) (fun v0 v1 => L (v0, v1)))) (fun L x => ?_) n (q12, q13)
  rw [exec_G]
  exact (key (realL (f230E K) 0) L x.1 x.2).trans (by rfl)
theorem f230_t8 (K : Nat) (a0 : Int) (a1 : Int × Int × Int) (y1 : List tA) (y2 : List tV) (bq9 : Int) (bq10 : List tM) : ∀ (n : Nat) (q9 : Int) (q10 : List tM), loopN (exec (f230E K) 0 (selC f230C [1, 1, 1, 0, 1, 0, 0])) 0 (f230_fr8 a0 a1 y1 y2 bq9 bq10) n (f230_fr8 a0 a1 y1 y2 q9 q10) (f230_k8 K a0 a1 (realL (f230E K) 0)) = f230_l8 K a0 a1 y1 y2 n q9 q10 := by
  have key : ∀ (lr : LR (List tM)) (L : Fr → Option (List tM)) (q9 : Int) (q10 : List tM), execG (f230E K) 0 lr (selC f230C [1, 1, 1, 0, 1, 0, 0]) (f230_fr8 a0 a1 y1 y2 q9 q10) (loopK 0 (f230_fr8 a0 a1 y1 y2 bq9 bq10) L (f230_k8 K a0 a1 lr)) = f230_b8 K a0 a1 y1 y2 (fun c0 d0 d1 => lr (selC f230C [1, 1, 1, 0, 1, 0, 0, 1, 0, 0, 1, 0, 0]) (f230_fr11 a0 a1 c0 y1 y2 d0 d1) (f230_k11 K a0 a1 y1 y2 L bq9 bq10 lr)) (fun v0 v1 => L (f230_fr8 a0 a1 y1 y2 v0 v1)) q9 q10 := by
    intro lr L q9 q10; kernel_rfl
  intro n q9 q10
  refine loopN_iter (X := Int × List tM) (frame := fun x => (f230_fr8 a0 a1 y1 y2 x.1 x.2)) (body := (fun L x => (fun L8 => f230_b8 K a0 a1 y1 y2 (fun c0 d0 d1 => f230_l11 K a0 a1 c0 y1 y2 L8 K d0 d1) L8 x.1 x.2) (fun v0 v1 => L (v0, v1)))) (fun L x => ?_) n (q9, q10)
  rw [exec_G]
  have h11 : (fun c0 d0 d1 => (realL (f230E K) 0) (selC f230C [1, 1, 1, 0, 1, 0, 0, 1, 0, 0, 1, 0, 0]) (f230_fr11 a0 a1 c0 y1 y2 d0 d1) (f230_k11 K a0 a1 y1 y2 L bq9 bq10 (realL (f230E K) 0))) = fun c0 d0 d1 => f230_l11 K a0 a1 c0 y1 y2 (fun v0 v1 => L (f230_fr8 a0 a1 y1 y2 v0 v1)) K d0 d1 := by
    funext c0 d0 d1
    exact f230_t11 K a0 a1 y1 y2 c0 L bq9 bq10 d0 d1 K d0 d1
  exact (key (realL (f230E K) 0) L x.1 x.2).trans (by rw [h11] <;> rfl)
theorem f230_run (K : Nat) (a0 : Int) (a1 : Int × Int × Int) : runF (f230E K) Tryz.f230 [(.ro, sI), (.ro, sL)] [(.list 95 sM)] (a0, a1, ()) = f230G K a0 a1 := by
  have key : ∀ (lr : LR (List tM)), runG (f230E K) Tryz.f230 [(.ro, sI), (.ro, sL)] [(.list 95 sM)] (a0, a1, ()) lr = f230_g K a0 a1 (fun c0 c1 d0 d1 => lr (selC f230C [1, 1, 1, 0, 1, 0, 0]) (f230_fr8 a0 a1 c0 c1 d0 d1) (f230_k8 K a0 a1 lr)) := by intro lr; kernel_rfl
  have h8 : (fun c0 c1 d0 d1 => (realL (f230E K) 0) (selC f230C [1, 1, 1, 0, 1, 0, 0]) (f230_fr8 a0 a1 c0 c1 d0 d1) (f230_k8 K a0 a1 (realL (f230E K) 0))) = fun c0 c1 d0 d1 => f230_l8 K a0 a1 c0 c1 K d0 d1 := by
    funext c0 c1 d0 d1
    exact f230_t8 K a0 a1 c0 c1 d0 d1 K d0 d1
  exact runF_G (n0 := 0) (by rfl) ((key (realL (f230E K) 0)).trans (by rw [h8] <;> rfl))
theorem f108_t5 (K : Nat) (a0 : Int) (a1 : Int × Int × Int) (y1 : Int) (y2 : List tV) (bq6 : Int) (bq7 : List tM) : ∀ (n : Nat) (q6 : Int) (q7 : List tM), loopN (exec (f108E K) 0 (selC f108C [1, 1, 1, 1, 1, 0, 1, 0, 0])) 0 (f108_fr5 a0 a1 y1 y2 bq6 bq7) n (f108_fr5 a0 a1 y1 y2 q6 q7) (f108_k5 K a0 a1 (realL (f108E K) 0)) = f108_l5 K a0 a1 y1 y2 n q6 q7 := by
  have key : ∀ (lr : LR ((List tM) × Int)) (L : Fr → Option ((List tM) × Int)) (q6 : Int) (q7 : List tM), execG (f108E K) 0 lr (selC f108C [1, 1, 1, 1, 1, 0, 1, 0, 0]) (f108_fr5 a0 a1 y1 y2 q6 q7) (loopK 0 (f108_fr5 a0 a1 y1 y2 bq6 bq7) L (f108_k5 K a0 a1 lr)) = f108_b5 K a0 a1 y1 y2 (fun v0 v1 => L (f108_fr5 a0 a1 y1 y2 v0 v1)) q6 q7 := by
    intro lr L q6 q7; kernel_rfl
  intro n q6 q7
  refine loopN_iter (X := Int × List tM) (frame := fun x => (f108_fr5 a0 a1 y1 y2 x.1 x.2)) (body := (fun L x => (fun L5 => f108_b5 K a0 a1 y1 y2 L5 x.1 x.2) (fun v0 v1 => L (v0, v1)))) (fun L x => ?_) n (q6, q7)
  rw [exec_G]
  exact (key (realL (f108E K) 0) L x.1 x.2).trans (by rfl)
theorem f108_run (K : Nat) (a0 : Int) (a1 : Int × Int × Int) : runF (f108E K) Tryz.f108 [(.ro, sI), (.ro, sL)] [(.list 95 sM), sI] (a0, a1, ()) = f108G K a0 a1 := by
  have key : ∀ (lr : LR ((List tM) × Int)), runG (f108E K) Tryz.f108 [(.ro, sI), (.ro, sL)] [(.list 95 sM), sI] (a0, a1, ()) lr = f108_g K a0 a1 (fun c0 c1 d0 d1 => lr (selC f108C [1, 1, 1, 1, 1, 0, 1, 0, 0]) (f108_fr5 a0 a1 c0 c1 d0 d1) (f108_k5 K a0 a1 lr)) := by intro lr; kernel_rfl
  have h5 : (fun c0 c1 d0 d1 => (realL (f108E K) 0) (selC f108C [1, 1, 1, 1, 1, 0, 1, 0, 0]) (f108_fr5 a0 a1 c0 c1 d0 d1) (f108_k5 K a0 a1 (realL (f108E K) 0))) = fun c0 c1 d0 d1 => f108_l5 K a0 a1 c0 c1 K d0 d1 := by
    funext c0 c1 d0 d1
    exact f108_t5 K a0 a1 c0 c1 d0 d1 K d0 d1
  exact runF_G (n0 := 0) (by rfl) ((key (realL (f108E K) 0)).trans (by rw [h5] <;> rfl))
theorem f213_run (K : Nat) (a0 : (List Int) × Int × Int) : runP (f213E K) Tryz.f213 5 (.int .u8) sV [] [sI, sL, (.list 95 sM)] (a0, ()) = f213G K a0 := by kernel_rfl
theorem f214_run (K : Nat) (a0 : (List Int) × Int × Int) : runP (f214E K) Tryz.f214 5 (.int .u8) sV [] [sI] (a0, ()) = f214G K a0 := by kernel_rfl
theorem f98_run (K : Nat) (a0 : List Int) : runF (f98E K) Tryz.f98 [(.ro, (.list 5 (.int .u8)))] [sI, sL, (.list 95 sM), sI] (a0, ()) = f98G K a0 := by kernel_rfl
theorem f146_run (K : Nat) (a0 a1 a2 : Int) : runF (f146E K) Tryz.f146 [(.ro, sI), (.ro, sI), (.ro, sI)] [.bool] (a0, a1, a2, ()) = f146G K a0 a1 a2 := by kernel_rfl
theorem f248_run (K : Nat) (a0 : Int) : runF (f248E K) Tryz.f248 [(.ro, sI)] [.bool] (a0, ()) = f248G K a0 := by kernel_rfl
theorem f238_run (K : Nat) (a0 : Int × Int × Int) : runF (f238E K) Tryz.f238 [(.ro, sL)] [sI] (a0, ()) = f238G K a0 := by kernel_rfl
theorem f249_run (K : Nat) (a0 : Int × Int × Int) : runF (f249E K) Tryz.f249 [(.ro, sL)] [.bool] (a0, ()) = f249G K a0 := by kernel_rfl
theorem f223_run (K : Nat) (a0 : Int) (a1 : Int × Int × Int) : runF (f223E K) Tryz.f223 [(.ro, sI), (.ro, sL)] [sI] (a0, a1, ()) = f223G K a0 a1 := by kernel_rfl
theorem f356_run (K : Nat) (a0 : Int × Int × Int) : runF (f356E K) Tryz.f356 [(.ro, sL)] [sV, sV] (a0, ()) = f356G K a0 := by kernel_rfl
theorem f288_run (K : Nat) (a0 : Int × Int × Int × Int) (a1 : Int × Int) : runF (f288E K) Tryz.f288 [(.ro, sA), (.ro, sV)] [sV] (a0, a1, ()) = f288G K a0 a1 := by kernel_rfl
theorem f401_run (K : Nat) (a0 : Int) (a1 : Int × Int) : runF (f401E K) Tryz.f401 [(.ro, sI), (.ro, sV)] [sI] (a0, a1, ()) = f401G K a0 a1 := by kernel_rfl
theorem f358_t8 (K : Nat) (a0 bq9 : Int) (bq10 : List tA) : ∀ (n : Nat) (q9 : Int) (q10 : List tA), loopN (exec (f358E K) 0 (selC f358C [1, 1, 0, 1, 0, 0])) 0 (f358_fr8 a0 bq9 bq10) n (f358_fr8 a0 q9 q10) (f358_k8 K a0 (realL (f358E K) 0)) = f358_l8 K a0 n q9 q10 := by
  have key : ∀ (lr : LR (List tA)) (L : Fr → Option (List tA)) (q9 : Int) (q10 : List tA), execG (f358E K) 0 lr (selC f358C [1, 1, 0, 1, 0, 0]) (f358_fr8 a0 q9 q10) (loopK 0 (f358_fr8 a0 bq9 bq10) L (f358_k8 K a0 lr)) = f358_b8 K a0 (fun v0 v1 => L (f358_fr8 a0 v0 v1)) q9 q10 := by
    intro lr L q9 q10; kernel_rfl
  intro n q9 q10
  refine loopN_iter (X := Int × List tA) (frame := fun x => (f358_fr8 a0 x.1 x.2)) (body := (fun L x => (fun L8 => f358_b8 K a0 L8 x.1 x.2) (fun v0 v1 => L (v0, v1)))) (fun L x => ?_) n (q9, q10)
  rw [exec_G]
  exact (key (realL (f358E K) 0) L x.1 x.2).trans (by rfl)
theorem f358_run (K : Nat) (a0 : Int) : runF (f358E K) Tryz.f358 [(.ro, sI)] [(.list 93 sA)] (a0, ()) = f358G K a0 := by
  have key : ∀ (lr : LR (List tA)), runG (f358E K) Tryz.f358 [(.ro, sI)] [(.list 93 sA)] (a0, ()) lr = f358_g K a0 (fun d0 d1 => lr (selC f358C [1, 1, 0, 1, 0, 0]) (f358_fr8 a0 d0 d1) (f358_k8 K a0 lr)) := by intro lr; kernel_rfl
  have h8 : (fun d0 d1 => (realL (f358E K) 0) (selC f358C [1, 1, 0, 1, 0, 0]) (f358_fr8 a0 d0 d1) (f358_k8 K a0 (realL (f358E K) 0))) = fun d0 d1 => f358_l8 K a0 K d0 d1 := by
    funext d0 d1
    exact f358_t8 K a0 d0 d1 K d0 d1
  exact runF_G (n0 := 0) (by rfl) ((key (realL (f358E K) 0)).trans (by rw [h8] <;> rfl))
theorem f260_run (K : Nat) (a0 a1 : Int) : runF (f260E K) Tryz.f260 [(.ro, sI), (.ro, sI)] [sI] (a0, a1, ()) = f260G K a0 a1 := by kernel_rfl
theorem f161_run (K : Nat) (a0 : Int × Int × Int) (a1 : Int × Int) : runF (f161E K) Tryz.f161 [(.ro, sL), (.ro, sV)] [sV] (a0, a1, ()) = f161G K a0 a1 := by kernel_rfl
theorem f360_run (K : Nat) (a0 : Int × Int × Int) (a1 : Int × Int) : runF (f360E K) Tryz.f360 [(.ro, sL), (.ro, sV)] [.bool] (a0, a1, ()) = f360G K a0 a1 := by kernel_rfl
theorem f359_run (K : Nat) (a0 : Int × Int × Int × Int) (a1 : Int × Int × Int) (a2 a3 : Int × Int) : runF (f359E K) Tryz.f359 [(.ro, sA), (.cap, sL), (.cap, sV), (.cap, sV)] [.bool] (a0, a1, a2, a3, ()) = f359G K a0 a1 a2 a3 := by kernel_rfl
theorem f400_t3 (K : Nat) (a0 : List tA) (a1 : (tA → Option Bool)) (bq4 : Int) : ∀ (n : Nat) (q4 : Int), loopN (exec (f400E K) 1 (selC f400C [1, 0, 1, 0, 0])) 1 (f400_fr3 a0 a1 bq4) n (f400_fr3 a0 a1 q4) (f400_k3 K a0 a1 (realL (f400E K) 1)) = f400_l3 K a0 a1 n q4 := by
  have key : ∀ (lr : LR Int) (L : Fr → Option Int) (q4 : Int), execG (f400E K) 1 lr (selC f400C [1, 0, 1, 0, 0]) (f400_fr3 a0 a1 q4) (loopK 1 (f400_fr3 a0 a1 bq4) L (f400_k3 K a0 a1 lr)) = f400_b3 K a0 a1 (fun v0 => L (f400_fr3 a0 a1 v0)) q4 := by
    intro lr L q4; kernel_rfl
  intro n q4
  refine loopN_iter (X := Int) (frame := fun x => (f400_fr3 a0 a1 x)) (body := (fun L x => (fun L3 => f400_b3 K a0 a1 L3 x) (fun v0 => L v0))) (fun L x => ?_) n q4
  rw [exec_G]
  exact (key (realL (f400E K) 1) L x).trans (by rfl)
theorem f400_run (K : Nat) (a0 : List tA) (a1 : (tA → Option Bool)) : runF (f400E K) Tryz.f400 [(.ro, (.list 93 sA)), (.ro, (.fn1 sA .bool))] [sI] (a0, a1, ()) = f400G K a0 a1 := by
  have key : ∀ (lr : LR Int), runG (f400E K) Tryz.f400 [(.ro, (.list 93 sA)), (.ro, (.fn1 sA .bool))] [sI] (a0, a1, ()) lr = f400_g K a0 a1 (fun d0 => lr (selC f400C [1, 0, 1, 0, 0]) (f400_fr3 a0 a1 d0) (f400_k3 K a0 a1 lr)) := by intro lr; kernel_rfl
  have h3 : (fun d0 => (realL (f400E K) 1) (selC f400C [1, 0, 1, 0, 0]) (f400_fr3 a0 a1 d0) (f400_k3 K a0 a1 (realL (f400E K) 1))) = fun d0 => f400_l3 K a0 a1 K d0 := by
    funext d0
    exact f400_t3 K a0 a1 d0 K d0
  exact runF_G (n0 := 1) (by rfl) ((key (realL (f400E K) 1)).trans (by rw [h3] <;> rfl))
theorem f357_t4 (K : Nat) (a0 : List tA) (a1 : (tA → Option Bool)) (y1 bq5 bq6 : Int) (bq7 : List tA) : ∀ (n : Nat) (q5 q6 : Int) (q7 : List tA), loopN (exec (f357E K) 1 (selC f357C [1, 1, 1, 0, 1, 0, 0])) 1 (f357_fr4 a1 y1 bq5 bq6 bq7) n (f357_fr4 a1 y1 q5 q6 q7) (f357_k4 K a0 a1 (realL (f357E K) 1)) = f357_l4 K a1 y1 n q5 q6 q7 := by
  have key : ∀ (lr : LR (List tA)) (L : Fr → Option (List tA)) (q5 q6 : Int) (q7 : List tA), execG (f357E K) 1 lr (selC f357C [1, 1, 1, 0, 1, 0, 0]) (f357_fr4 a1 y1 q5 q6 q7) (loopK 1 (f357_fr4 a1 y1 bq5 bq6 bq7) L (f357_k4 K a0 a1 lr)) = f357_b4 K a1 y1 (fun v0 v1 v2 => L (f357_fr4 a1 y1 v0 v1 v2)) q5 q6 q7 := by
    intro lr L q5 q6 q7; kernel_rfl
  intro n q5 q6 q7
  refine loopN_iter (X := Int × Int × List tA) (frame := fun x => (f357_fr4 a1 y1 x.1 x.2.1 x.2.2)) (body := (fun L x => (fun L4 => f357_b4 K a1 y1 L4 x.1 x.2.1 x.2.2) (fun v0 v1 v2 => L (v0, v1, v2)))) (fun L x => ?_) n (q5, q6, q7)
  rw [exec_G]
  exact (key (realL (f357E K) 1) L x.1 x.2.1 x.2.2).trans (by rfl)
theorem f357_run (K : Nat) (a0 : List tA) (a1 : (tA → Option Bool)) : runF (f357E K) Tryz.f357 [(.mv, (.list 93 sA)), (.ro, (.fn1 sA .bool))] [(.list 93 sA)] (a0, a1, ()) = f357G K a0 a1 := by
  have key : ∀ (lr : LR (List tA)), runG (f357E K) Tryz.f357 [(.mv, (.list 93 sA)), (.ro, (.fn1 sA .bool))] [(.list 93 sA)] (a0, a1, ()) lr = f357_g K a0 a1 (fun c0 d0 d1 d2 => lr (selC f357C [1, 1, 1, 0, 1, 0, 0]) (f357_fr4 a1 c0 d0 d1 d2) (f357_k4 K a0 a1 lr)) := by intro lr; kernel_rfl
  have h4 : (fun c0 d0 d1 d2 => (realL (f357E K) 1) (selC f357C [1, 1, 1, 0, 1, 0, 0]) (f357_fr4 a1 c0 d0 d1 d2) (f357_k4 K a0 a1 (realL (f357E K) 1))) = fun c0 d0 d1 d2 => f357_l4 K a1 c0 K d0 d1 d2 := by
    funext c0 d0 d1 d2
    exact f357_t4 K a0 a1 c0 d0 d1 d2 K d0 d1 d2
  exact runF_G (n0 := 1) (by rfl) ((key (realL (f357E K) 1)).trans (by rw [h4] <;> rfl))
theorem f311_run (K : Nat) (a0 : Int) (a1 : Int × Int × Int) : runF (f311E K) Tryz.f311 [(.ro, sI), (.ro, sL)] [(.list 93 sA)] (a0, a1, ()) = f311G K a0 a1 := by kernel_rfl
theorem f355_t2 (K : Nat) (a0 : List tA) (a1 : Int × Int × Int × Int) (bq3 : Int) : ∀ (n : Nat) (q3 : Int), loopN (exec (f355E K) 1 (selC f355C [1, 0, 1, 0, 0])) 1 (f355_fr2 a0 a1 bq3) n (f355_fr2 a0 a1 q3) (f355_k2 K a0 a1 (realL (f355E K) 1)) = f355_l2 K a0 a1 n q3 := by
  have key : ∀ (lr : LR Int) (L : Fr → Option Int) (q3 : Int), execG (f355E K) 1 lr (selC f355C [1, 0, 1, 0, 0]) (f355_fr2 a0 a1 q3) (loopK 1 (f355_fr2 a0 a1 bq3) L (f355_k2 K a0 a1 lr)) = f355_b2 K a0 a1 (fun v0 => L (f355_fr2 a0 a1 v0)) q3 := by
    intro lr L q3; kernel_rfl
  intro n q3
  refine loopN_iter (X := Int) (frame := fun x => (f355_fr2 a0 a1 x)) (body := (fun L x => (fun L2 => f355_b2 K a0 a1 L2 x) (fun v0 => L v0))) (fun L x => ?_) n q3
  rw [exec_G]
  exact (key (realL (f355E K) 1) L x).trans (by rfl)
theorem f355_run (K : Nat) (a0 : List tA) (a1 : Int × Int × Int × Int) : runF (f355E K) Tryz.f355 [(.ro, (.list 93 sA)), (.ro, sA)] [sI] (a0, a1, ()) = f355G K a0 a1 := by
  have key : ∀ (lr : LR Int), runG (f355E K) Tryz.f355 [(.ro, (.list 93 sA)), (.ro, sA)] [sI] (a0, a1, ()) lr = f355_g K a0 a1 (fun d0 => lr (selC f355C [1, 0, 1, 0, 0]) (f355_fr2 a0 a1 d0) (f355_k2 K a0 a1 lr)) := by intro lr; kernel_rfl
  have h2 : (fun d0 => (realL (f355E K) 1) (selC f355C [1, 0, 1, 0, 0]) (f355_fr2 a0 a1 d0) (f355_k2 K a0 a1 (realL (f355E K) 1))) = fun d0 => f355_l2 K a0 a1 K d0 := by
    funext d0
    exact f355_t2 K a0 a1 d0 K d0
  exact runF_G (n0 := 1) (by rfl) ((key (realL (f355E K) 1)).trans (by rw [h2] <;> rfl))
theorem f310_run (K : Nat) (a0 : List tA) (a1 : Int × Int × Int × Int) : runF (f310E K) Tryz.f310 [(.ro, (.list 93 sA)), (.ro, sA)] [.bool] (a0, a1, ()) = f310G K a0 a1 := by kernel_rfl
theorem f332_t2 (K : Nat) (a0 a1 : List Int) (bq3 : Int) : ∀ (n : Nat) (q3 : Int), loopN (exec (f332E K) 2 (selC f332C [1, 0, 1, 0, 0])) 2 (f332_fr2 a0 a1 bq3) n (f332_fr2 a0 a1 q3) (f332_k2 K a0 a1 (realL (f332E K) 2)) = f332_l2 K a0 a1 n q3 := by
  have key : ∀ (lr : LR Int) (L : Fr → Option Int) (q3 : Int), execG (f332E K) 2 lr (selC f332C [1, 0, 1, 0, 0]) (f332_fr2 a0 a1 q3) (loopK 2 (f332_fr2 a0 a1 bq3) L (f332_k2 K a0 a1 lr)) = f332_b2 K a0 a1 (fun v0 => L (f332_fr2 a0 a1 v0)) q3 := by
    intro lr L q3; kernel_rfl
  intro n q3
  refine loopN_iter (X := Int) (frame := fun x => (f332_fr2 a0 a1 x)) (body := (fun L x => (fun L2 => f332_b2 K a0 a1 L2 x) (fun v0 => L v0))) (fun L x => ?_) n q3
  rw [exec_G]
  exact (key (realL (f332E K) 2) L x).trans (by rfl)
theorem f332_run (K : Nat) (a0 a1 : List Int) : runF (f332E K) Tryz.f332 [(.ro, (.list 2 sI)), (.ro, (.list 2 sI))] [sI] (a0, a1, ()) = f332G K a0 a1 := by
  have key : ∀ (lr : LR Int), runG (f332E K) Tryz.f332 [(.ro, (.list 2 sI)), (.ro, (.list 2 sI))] [sI] (a0, a1, ()) lr = f332_g K a0 a1 (fun d0 => lr (selC f332C [1, 0, 1, 0, 0]) (f332_fr2 a0 a1 d0) (f332_k2 K a0 a1 lr)) := by intro lr; kernel_rfl
  have h2 : (fun d0 => (realL (f332E K) 2) (selC f332C [1, 0, 1, 0, 0]) (f332_fr2 a0 a1 d0) (f332_k2 K a0 a1 (realL (f332E K) 2))) = fun d0 => f332_l2 K a0 a1 K d0 := by
    funext d0
    exact f332_t2 K a0 a1 d0 K d0
  exact runF_G (n0 := 2) (by rfl) ((key (realL (f332E K) 2)).trans (by rw [h2] <;> rfl))
theorem f349_run (K : Nat) (a0 a1 : Int × Int × Int × Int) : runF (f349E K) Tryz.f349 [(.ro, sA), (.ro, sA)] [sI] (a0, a1, ()) = f349G K a0 a1 := by kernel_rfl
theorem f269_run (K : Nat) (a0 a1 : Int × Int) : runF (f269E K) Tryz.f269 [(.ro, sV), (.ro, sV)] [sI] (a0, a1, ()) = f269G K a0 a1 := by kernel_rfl
theorem f300_run (K : Nat) (a0 a1 : tA × Int × Int) : runF (f300E K) Tryz.f300 [(.ro, sM), (.ro, sM)] [sI] (a0, a1, ()) = f300G K a0 a1 := by kernel_rfl
theorem f231_run (K : Nat) : runF (f231E K) Tryz.f231 [] [sA] (()) = f231G K := by kernel_rfl
theorem f347_run (K : Nat) (a0 a1 : Int × Int × Int × Int) : runF (f347E K) Tryz.f347 [(.ro, sA), (.ro, sA)] [sA] (a0, a1, ()) = f347G K a0 a1 := by kernel_rfl
theorem f289_run (K : Nat) (a0 a1 : Int × Int) : runF (f289E K) Tryz.f289 [(.ro, sV), (.ro, sV)] [sV] (a0, a1, ()) = f289G K a0 a1 := by kernel_rfl
theorem f298_run (K : Nat) (a0 a1 : tA × Int × Int) : runF (f298E K) Tryz.f298 [(.ro, sM), (.ro, sM)] [sM] (a0, a1, ()) = f298G K a0 a1 := by kernel_rfl
theorem f297_run (K : Nat) (a0 : Int × Int × Int) (a1 : tA × Int × Int) : runF (f297E K) Tryz.f297 [(.ro, sL), (.ro, sM)] [sM] (a0, a1, ()) = f297G K a0 a1 := by kernel_rfl
theorem f325_t23 (K : Nat) (a0 : Int) (a1 : Int × Int × Int) (a2 : List tM) (q7 : Int) (q8 : List (tM × Bool)) (y1 : List tA) (y12 : Int × Int × Int × Int) (q22 : Int) (F21 : Fr → Option Bool) (bq22 bq24 : Int) : ∀ (n : Nat) (q24 : Int), loopN (exec (f325E K) 1 (selC f325C [1, 1, 1, 1, 0, 1, 0, 0, 1, 1, 0, 0, 1, 1, 0, 0])) 1 (f325_fr23 a0 a1 a2 q7 q8 q22 y1 y12 bq24) n (f325_fr23 a0 a1 a2 q7 q8 q22 y1 y12 q24) (f325_k23 K a0 a1 a2 q7 q8 y1 y12 F21 bq22 (realL (f325E K) 1)) = f325_l23 K a0 a1 a2 q7 q8 q22 y1 y12 (fun v0 => F21 (f325_fr21 a0 a1 a2 q7 q8 y1 y12 v0)) n q24 := by
  have key : ∀ (lr : LR Bool) (L : Fr → Option Bool) (q24 : Int), execG (f325E K) 1 lr (selC f325C [1, 1, 1, 1, 0, 1, 0, 0, 1, 1, 0, 0, 1, 1, 0, 0]) (f325_fr23 a0 a1 a2 q7 q8 q22 y1 y12 q24) (loopK 1 (f325_fr23 a0 a1 a2 q7 q8 q22 y1 y12 bq24) L (f325_k23 K a0 a1 a2 q7 q8 y1 y12 F21 bq22 lr)) = f325_b23 K a0 a1 a2 q7 q8 q22 y1 y12 (fun v0 => F21 (f325_fr21 a0 a1 a2 q7 q8 y1 y12 v0)) (fun v0 => L (f325_fr23 a0 a1 a2 q7 q8 q22 y1 y12 v0)) q24 := by
    intro lr L q24; kernel_rfl
  intro n q24
  refine loopN_iter (X := Int) (frame := fun x => (f325_fr23 a0 a1 a2 q7 q8 q22 y1 y12 x)) (body := (fun L x => (fun L23 => f325_b23 K a0 a1 a2 q7 q8 q22 y1 y12 (fun v0 => F21 (f325_fr21 a0 a1 a2 q7 q8 y1 y12 v0)) L23 x) (fun v0 => L v0))) (fun L x => ?_) n q24
  rw [exec_G]
  exact (key (realL (f325E K) 1) L x).trans (by rfl)
theorem f325_t21 (K : Nat) (a0 : Int) (a1 : Int × Int × Int) (a2 : List tM) (q7 : Int) (q8 : List (tM × Bool)) (y1 : List tA) (y12 : Int × Int × Int × Int) (bq22 : Int) : ∀ (n : Nat) (q22 : Int), loopN (exec (f325E K) 1 (selC f325C [1, 1, 1, 1, 0, 1, 0, 0])) 1 (f325_fr21 a0 a1 a2 q7 q8 y1 y12 bq22) n (f325_fr21 a0 a1 a2 q7 q8 y1 y12 q22) (f325_k21 K a0 a1 a2 (realL (f325E K) 1)) = f325_l21 K a0 a1 a2 q7 q8 y1 y12 n q22 := by
  have key : ∀ (lr : LR Bool) (L : Fr → Option Bool) (q22 : Int), execG (f325E K) 1 lr (selC f325C [1, 1, 1, 1, 0, 1, 0, 0]) (f325_fr21 a0 a1 a2 q7 q8 y1 y12 q22) (loopK 1 (f325_fr21 a0 a1 a2 q7 q8 y1 y12 bq22) L (f325_k21 K a0 a1 a2 lr)) = f325_b21 K a0 a1 a2 q7 q8 y1 y12 (fun c0 d0 => lr (selC f325C [1, 1, 1, 1, 0, 1, 0, 0, 1, 1, 0, 0, 1, 1, 0, 0]) (f325_fr23 a0 a1 a2 q7 q8 c0 y1 y12 d0) (f325_k23 K a0 a1 a2 q7 q8 y1 y12 L bq22 lr)) (fun v0 => L (f325_fr21 a0 a1 a2 q7 q8 y1 y12 v0)) q22 := by
    intro lr L q22; kernel_rfl
  intro n q22
  refine loopN_iter (X := Int) (frame := fun x => (f325_fr21 a0 a1 a2 q7 q8 y1 y12 x)) (body := (fun L x => (fun L21 => f325_b21 K a0 a1 a2 q7 q8 y1 y12 (fun c0 d0 => f325_l23 K a0 a1 a2 q7 q8 c0 y1 y12 L21 K d0) L21 x) (fun v0 => L v0))) (fun L x => ?_) n q22
  rw [exec_G]
  have h23 : (fun c0 d0 => (realL (f325E K) 1) (selC f325C [1, 1, 1, 1, 0, 1, 0, 0, 1, 1, 0, 0, 1, 1, 0, 0]) (f325_fr23 a0 a1 a2 q7 q8 c0 y1 y12 d0) (f325_k23 K a0 a1 a2 q7 q8 y1 y12 L bq22 (realL (f325E K) 1))) = fun c0 d0 => f325_l23 K a0 a1 a2 q7 q8 c0 y1 y12 (fun v0 => L (f325_fr21 a0 a1 a2 q7 q8 y1 y12 v0)) K d0 := by
    funext c0 d0
    exact f325_t23 K a0 a1 a2 q7 q8 y1 y12 c0 L bq22 d0 K d0
  exact (key (realL (f325E K) 1) L x).trans (by rw [h23] <;> rfl)
theorem f325_t6 (K : Nat) (a0 : Int) (a1 : Int × Int × Int) (a2 : List tM) (y1 : List tA) (bq7 : Int) (bq8 : List (tM × Bool)) : ∀ (n : Nat) (q7 : Int) (q8 : List (tM × Bool)), loopN (exec (f325E K) 1 (selC f325C [1, 1, 0, 1, 0, 0])) 1 (f325_fr6 a0 a1 a2 y1 bq7 bq8) n (f325_fr6 a0 a1 a2 y1 q7 q8) (f325_k6 K a0 a1 a2 (realL (f325E K) 1)) = f325_l6 K a0 a1 a2 y1 n q7 q8 := by
  have key : ∀ (lr : LR Bool) (L : Fr → Option Bool) (q7 : Int) (q8 : List (tM × Bool)), execG (f325E K) 1 lr (selC f325C [1, 1, 0, 1, 0, 0]) (f325_fr6 a0 a1 a2 y1 q7 q8) (loopK 1 (f325_fr6 a0 a1 a2 y1 bq7 bq8) L (f325_k6 K a0 a1 a2 lr)) = f325_b6 K a0 a1 a2 y1 (fun c0 c1 c2 c3 d0 => lr (selC f325C [1, 1, 1, 1, 0, 1, 0, 0]) (f325_fr21 a0 a1 a2 c0 c1 c2 c3 d0) (f325_k21 K a0 a1 a2 lr)) (fun v0 v1 => L (f325_fr6 a0 a1 a2 y1 v0 v1)) q7 q8 := by
    intro lr L q7 q8; kernel_rfl
  intro n q7 q8
  refine loopN_iter (X := Int × List (tM × Bool)) (frame := fun x => (f325_fr6 a0 a1 a2 y1 x.1 x.2)) (body := (fun L x => (fun L6 => f325_b6 K a0 a1 a2 y1 (fun c0 c1 c2 c3 d0 => f325_l21 K a0 a1 a2 c0 c1 c2 c3 K d0) L6 x.1 x.2) (fun v0 v1 => L (v0, v1)))) (fun L x => ?_) n (q7, q8)
  rw [exec_G]
  have h21 : (fun c0 c1 c2 c3 d0 => (realL (f325E K) 1) (selC f325C [1, 1, 1, 1, 0, 1, 0, 0]) (f325_fr21 a0 a1 a2 c0 c1 c2 c3 d0) (f325_k21 K a0 a1 a2 (realL (f325E K) 1))) = fun c0 c1 c2 c3 d0 => f325_l21 K a0 a1 a2 c0 c1 c2 c3 K d0 := by
    funext c0 c1 c2 c3 d0
    exact f325_t21 K a0 a1 a2 c0 c1 c2 c3 d0 K d0
  exact (key (realL (f325E K) 1) L x.1 x.2).trans (by rw [h21] <;> rfl)
theorem f325_run (K : Nat) (a0 : Int) (a1 : Int × Int × Int) (a2 : List tM) : runF (f325E K) Tryz.f325 [(.ro, sI), (.ro, sL), (.ro, (.list 95 sM))] [.bool] (a0, a1, a2, ()) = f325G K a0 a1 a2 := by
  have key : ∀ (lr : LR Bool), runG (f325E K) Tryz.f325 [(.ro, sI), (.ro, sL), (.ro, (.list 95 sM))] [.bool] (a0, a1, a2, ()) lr = f325_g K a0 a1 a2 (fun c0 d0 d1 => lr (selC f325C [1, 1, 0, 1, 0, 0]) (f325_fr6 a0 a1 a2 c0 d0 d1) (f325_k6 K a0 a1 a2 lr)) := by intro lr; kernel_rfl
  have h6 : (fun c0 d0 d1 => (realL (f325E K) 1) (selC f325C [1, 1, 0, 1, 0, 0]) (f325_fr6 a0 a1 a2 c0 d0 d1) (f325_k6 K a0 a1 a2 (realL (f325E K) 1))) = fun c0 d0 d1 => f325_l6 K a0 a1 a2 c0 K d0 d1 := by
    funext c0 d0 d1
    exact f325_t6 K a0 a1 a2 c0 d0 d1 K d0 d1
  exact runF_G (n0 := 1) (by rfl) ((key (realL (f325E K) 1)).trans (by rw [h6] <;> rfl))
theorem f257_t4 (K : Nat) (a0 : Int) (a1 : Int × Int × Int) (a2 : List (List tM)) (y1 bq5 : Int) : ∀ (n : Nat) (q5 : Int), loopN (exec (f257E K) 1 (selC f257C [1, 1, 0, 1, 0, 0])) 1 (f257_fr4 a0 a1 a2 y1 bq5) n (f257_fr4 a0 a1 a2 y1 q5) (f257_k4 K a0 a1 a2 (realL (f257E K) 1)) = f257_l4 K a0 a1 a2 y1 n q5 := by
  have key : ∀ (lr : LR Int) (L : Fr → Option Int) (q5 : Int), execG (f257E K) 1 lr (selC f257C [1, 1, 0, 1, 0, 0]) (f257_fr4 a0 a1 a2 y1 q5) (loopK 1 (f257_fr4 a0 a1 a2 y1 bq5) L (f257_k4 K a0 a1 a2 lr)) = f257_b4 K a0 a1 a2 y1 (fun v0 => L (f257_fr4 a0 a1 a2 y1 v0)) q5 := by
    intro lr L q5; kernel_rfl
  intro n q5
  refine loopN_iter (X := Int) (frame := fun x => (f257_fr4 a0 a1 a2 y1 x)) (body := (fun L x => (fun L4 => f257_b4 K a0 a1 a2 y1 L4 x) (fun v0 => L v0))) (fun L x => ?_) n q5
  rw [exec_G]
  exact (key (realL (f257E K) 1) L x).trans (by rfl)
theorem f257_run (K : Nat) (a0 : Int) (a1 : Int × Int × Int) (a2 : List (List tM)) : runF (f257E K) Tryz.f257 [(.ro, sI), (.ro, sL), (.ro, (.list 68 (.list 95 sM)))] [sI] (a0, a1, a2, ()) = f257G K a0 a1 a2 := by
  have key : ∀ (lr : LR Int), runG (f257E K) Tryz.f257 [(.ro, sI), (.ro, sL), (.ro, (.list 68 (.list 95 sM)))] [sI] (a0, a1, a2, ()) lr = f257_g K a0 a1 a2 (fun c0 d0 => lr (selC f257C [1, 1, 0, 1, 0, 0]) (f257_fr4 a0 a1 a2 c0 d0) (f257_k4 K a0 a1 a2 lr)) := by intro lr; kernel_rfl
  have h4 : (fun c0 d0 => (realL (f257E K) 1) (selC f257C [1, 1, 0, 1, 0, 0]) (f257_fr4 a0 a1 a2 c0 d0) (f257_k4 K a0 a1 a2 (realL (f257E K) 1))) = fun c0 d0 => f257_l4 K a0 a1 a2 c0 K d0 := by
    funext c0 d0
    exact f257_t4 K a0 a1 a2 c0 d0 K d0
  exact runF_G (n0 := 1) (by rfl) ((key (realL (f257E K) 1)).trans (by rw [h4] <;> rfl))
theorem f216_t2 (K : Nat) (a0 a1 a2 bq3 bq4 : Int) : ∀ (n : Nat) (q3 q4 : Int), loopN (exec (f216E K) 0 (selC f216C [1, 1, 0, 1, 0, 0])) 0 (f216_fr2 a0 a1 a2 bq3 bq4) n (f216_fr2 a0 a1 a2 q3 q4) (f216_k2 K a0 a1 a2 (realL (f216E K) 0)) = f216_l2 K a0 a1 a2 n q3 q4 := by
  have key : ∀ (lr : LR Int) (L : Fr → Option Int) (q3 q4 : Int), execG (f216E K) 0 lr (selC f216C [1, 1, 0, 1, 0, 0]) (f216_fr2 a0 a1 a2 q3 q4) (loopK 0 (f216_fr2 a0 a1 a2 bq3 bq4) L (f216_k2 K a0 a1 a2 lr)) = f216_b2 K a0 a1 a2 (fun v0 v1 => L (f216_fr2 a0 a1 a2 v0 v1)) q3 q4 := by
    intro lr L q3 q4; kernel_rfl
  intro n q3 q4
  refine loopN_iter (X := Int × Int) (frame := fun x => (f216_fr2 a0 a1 a2 x.1 x.2)) (body := (fun L x => (fun L2 => f216_b2 K a0 a1 a2 L2 x.1 x.2) (fun v0 v1 => L (v0, v1)))) (fun L x => ?_) n (q3, q4)
  rw [exec_G]
  exact (key (realL (f216E K) 0) L x.1 x.2).trans (by rfl)
theorem f216_run (K : Nat) (a0 a1 a2 : Int) : runF (f216E K) Tryz.f216 [(.ro, sI), (.ro, sI), (.ro, sI)] [sI] (a0, a1, a2, ()) = f216G K a0 a1 a2 := by
  have key : ∀ (lr : LR Int), runG (f216E K) Tryz.f216 [(.ro, sI), (.ro, sI), (.ro, sI)] [sI] (a0, a1, a2, ()) lr = f216_g K a0 a1 a2 (fun d0 d1 => lr (selC f216C [1, 1, 0, 1, 0, 0]) (f216_fr2 a0 a1 a2 d0 d1) (f216_k2 K a0 a1 a2 lr)) := by intro lr; kernel_rfl
  have h2 : (fun d0 d1 => (realL (f216E K) 0) (selC f216C [1, 1, 0, 1, 0, 0]) (f216_fr2 a0 a1 a2 d0 d1) (f216_k2 K a0 a1 a2 (realL (f216E K) 0))) = fun d0 d1 => f216_l2 K a0 a1 a2 K d0 d1 := by
    funext d0 d1
    exact f216_t2 K a0 a1 a2 d0 d1 K d0 d1
  exact runF_G (n0 := 0) (by rfl) ((key (realL (f216E K) 0)).trans (by rw [h2] <;> rfl))
theorem f237_run (K : Nat) (a0 : Int) (a1 : Int × Int × Int) (a2 a3 : Int) : runF (f237E K) Tryz.f237 [(.ro, sI), (.ro, sL), (.ro, sI), (.ro, sI)] [sI] (a0, a1, a2, a3, ()) = f237G K a0 a1 a2 a3 := by kernel_rfl
theorem f215_run (K : Nat) (a0 : Int) (a1 : Int × Int × Int) (a2 : List tM) (a3 a4 : Int) : runF (f215E K) Tryz.f215 [(.ro, sI), (.ro, sL), (.ro, (.list 95 sM)), (.ro, sI), (.ro, sI)] [sI] (a0, a1, a2, a3, a4, ()) = f215G K a0 a1 a2 a3 a4 := by kernel_rfl
theorem f207_t9 (K : Nat) (a0 : Int × Int × Int) (q7 : Int) (F6 : Fr → Option (List tV)) (bq7 : Int) (bq8 : List tV) (bq10 : Int) (bq11 : List tV) : ∀ (n : Nat) (q10 : Int) (q11 : List tV), loopN (exec (f207E K) 0 (selC f207C [1, 1, 0, 1, 0, 0, 1, 1, 0, 0, 1, 1, 0, 0])) 0 (f207_fr9 a0 q7 bq10 bq11) n (f207_fr9 a0 q7 q10 q11) (f207_k9 K a0 F6 bq7 bq8 (realL (f207E K) 0)) = f207_l9 K a0 q7 (fun v0 v1 => F6 (f207_fr6 a0 v0 v1)) n q10 q11 := by
  have key : ∀ (lr : LR (List tV)) (L : Fr → Option (List tV)) (q10 : Int) (q11 : List tV), execG (f207E K) 0 lr (selC f207C [1, 1, 0, 1, 0, 0, 1, 1, 0, 0, 1, 1, 0, 0]) (f207_fr9 a0 q7 q10 q11) (loopK 0 (f207_fr9 a0 q7 bq10 bq11) L (f207_k9 K a0 F6 bq7 bq8 lr)) = f207_b9 K a0 q7 (fun v0 v1 => F6 (f207_fr6 a0 v0 v1)) (fun v0 v1 => L (f207_fr9 a0 q7 v0 v1)) q10 q11 := by
    intro lr L q10 q11; kernel_rfl
  intro n q10 q11
  refine loopN_iter (X := Int × List tV) (frame := fun x => (f207_fr9 a0 q7 x.1 x.2)) (body := (fun L x => (fun L9 => f207_b9 K a0 q7 (fun v0 v1 => F6 (f207_fr6 a0 v0 v1)) L9 x.1 x.2) (fun v0 v1 => L (v0, v1)))) (fun L x => ?_) n (q10, q11)
  rw [exec_G]
  exact (key (realL (f207E K) 0) L x.1 x.2).trans (by rfl)
theorem f207_t6 (K : Nat) (a0 : Int × Int × Int) (bq7 : Int) (bq8 : List tV) : ∀ (n : Nat) (q7 : Int) (q8 : List tV), loopN (exec (f207E K) 0 (selC f207C [1, 1, 0, 1, 0, 0])) 0 (f207_fr6 a0 bq7 bq8) n (f207_fr6 a0 q7 q8) (f207_k6 K a0 (realL (f207E K) 0)) = f207_l6 K a0 n q7 q8 := by
  have key : ∀ (lr : LR (List tV)) (L : Fr → Option (List tV)) (q7 : Int) (q8 : List tV), execG (f207E K) 0 lr (selC f207C [1, 1, 0, 1, 0, 0]) (f207_fr6 a0 q7 q8) (loopK 0 (f207_fr6 a0 bq7 bq8) L (f207_k6 K a0 lr)) = f207_b6 K a0 (fun c0 d0 d1 => lr (selC f207C [1, 1, 0, 1, 0, 0, 1, 1, 0, 0, 1, 1, 0, 0]) (f207_fr9 a0 c0 d0 d1) (f207_k9 K a0 L bq7 bq8 lr)) (fun v0 v1 => L (f207_fr6 a0 v0 v1)) q7 q8 := by
    intro lr L q7 q8; kernel_rfl
  intro n q7 q8
  refine loopN_iter (X := Int × List tV) (frame := fun x => (f207_fr6 a0 x.1 x.2)) (body := (fun L x => (fun L6 => f207_b6 K a0 (fun c0 d0 d1 => f207_l9 K a0 c0 L6 K d0 d1) L6 x.1 x.2) (fun v0 v1 => L (v0, v1)))) (fun L x => ?_) n (q7, q8)
  rw [exec_G]
  have h9 : (fun c0 d0 d1 => (realL (f207E K) 0) (selC f207C [1, 1, 0, 1, 0, 0, 1, 1, 0, 0, 1, 1, 0, 0]) (f207_fr9 a0 c0 d0 d1) (f207_k9 K a0 L bq7 bq8 (realL (f207E K) 0))) = fun c0 d0 d1 => f207_l9 K a0 c0 (fun v0 v1 => L (f207_fr6 a0 v0 v1)) K d0 d1 := by
    funext c0 d0 d1
    exact f207_t9 K a0 c0 L bq7 bq8 d0 d1 K d0 d1
  exact (key (realL (f207E K) 0) L x.1 x.2).trans (by rw [h9] <;> rfl)
theorem f207_run (K : Nat) (a0 : Int × Int × Int) : runF (f207E K) Tryz.f207 [(.ro, sL)] [(.list 79 sV)] (a0, ()) = f207G K a0 := by
  have key : ∀ (lr : LR (List tV)), runG (f207E K) Tryz.f207 [(.ro, sL)] [(.list 79 sV)] (a0, ()) lr = f207_g K a0 (fun d0 d1 => lr (selC f207C [1, 1, 0, 1, 0, 0]) (f207_fr6 a0 d0 d1) (f207_k6 K a0 lr)) := by intro lr; kernel_rfl
  have h6 : (fun d0 d1 => (realL (f207E K) 0) (selC f207C [1, 1, 0, 1, 0, 0]) (f207_fr6 a0 d0 d1) (f207_k6 K a0 (realL (f207E K) 0))) = fun d0 d1 => f207_l6 K a0 K d0 d1 := by
    funext d0 d1
    exact f207_t6 K a0 d0 d1 K d0 d1
  exact runF_G (n0 := 0) (by rfl) ((key (realL (f207E K) 0)).trans (by rw [h6] <;> rfl))
theorem f191_run (K : Nat) (a0 : tA × Int × Int) (a1 : Int × Int) : runF (f191E K) Tryz.f191 [(.ro, sM), (.ro, sV)] [sV] (a0, a1, ()) = f191G K a0 a1 := by kernel_rfl
theorem f267_run (K : Nat) (a0 : Int × Int × Int) (a1 : tA × Int × Int) (a2 : Int × Int) : runF (f267E K) Tryz.f267 [(.ro, sL), (.ro, sM), (.ro, sV)] [sV] (a0, a1, a2, ()) = f267G K a0 a1 a2 := by kernel_rfl
theorem f217_t16 (K : Nat) (a0 : Int × Int × Int) (a1 : tA × Int × Int) (y1 : List tV) (q13 q14 : Int) (q15 : List (tV × Bool)) (F12 : Fr → Option Int) (bq13 bq14 : Int) (bq15 bq17 : List (tV × Bool)) (bq18 bq19 : Int) : ∀ (n : Nat) (q17 : List (tV × Bool)) (q18 q19 : Int), loopN (exec (f217E K) 0 (selC f217C [1, 1, 0, 1, 0, 0, 1, 1, 0, 0, 1, 1, 1, 1, 0, 0])) 0 (f217_fr16 a0 a1 q13 q14 q15 y1 bq17 bq18 bq19) n (f217_fr16 a0 a1 q13 q14 q15 y1 q17 q18 q19) (f217_k16 K a0 a1 y1 F12 bq13 bq14 bq15 (realL (f217E K) 0)) = f217_l16 K a0 a1 q13 q14 q15 y1 (fun v0 v1 v2 => F12 (f217_fr12 a0 a1 y1 v0 v1 v2)) n q17 q18 q19 := by
  have key : ∀ (lr : LR Int) (L : Fr → Option Int) (q17 : List (tV × Bool)) (q18 q19 : Int), execG (f217E K) 0 lr (selC f217C [1, 1, 0, 1, 0, 0, 1, 1, 0, 0, 1, 1, 1, 1, 0, 0]) (f217_fr16 a0 a1 q13 q14 q15 y1 q17 q18 q19) (loopK 0 (f217_fr16 a0 a1 q13 q14 q15 y1 bq17 bq18 bq19) L (f217_k16 K a0 a1 y1 F12 bq13 bq14 bq15 lr)) = f217_b16 K a0 a1 q13 q14 q15 y1 (fun v0 v1 v2 => F12 (f217_fr12 a0 a1 y1 v0 v1 v2)) (fun v0 v1 v2 => L (f217_fr16 a0 a1 q13 q14 q15 y1 v0 v1 v2)) q17 q18 q19 := by
    intro lr L q17 q18 q19; kernel_rfl
  intro n q17 q18 q19
  refine loopN_iter (X := List (tV × Bool) × Int × Int) (frame := fun x => (f217_fr16 a0 a1 q13 q14 q15 y1 x.1 x.2.1 x.2.2)) (body := (fun L x => (fun L16 => f217_b16 K a0 a1 q13 q14 q15 y1 (fun v0 v1 v2 => F12 (f217_fr12 a0 a1 y1 v0 v1 v2)) L16 x.1 x.2.1 x.2.2) (fun v0 v1 v2 => L (v0, v1, v2)))) (fun L x => ?_) n (q17, q18, q19)
  rw [exec_G]
  exact (key (realL (f217E K) 0) L x.1 x.2.1 x.2.2).trans (by rfl)
theorem f217_t12 (K : Nat) (a0 : Int × Int × Int) (a1 : tA × Int × Int) (y1 : List tV) (bq13 bq14 : Int) (bq15 : List (tV × Bool)) : ∀ (n : Nat) (q13 q14 : Int) (q15 : List (tV × Bool)), loopN (exec (f217E K) 0 (selC f217C [1, 1, 0, 1, 0, 0])) 0 (f217_fr12 a0 a1 y1 bq13 bq14 bq15) n (f217_fr12 a0 a1 y1 q13 q14 q15) (f217_k12 K a0 a1 (realL (f217E K) 0)) = f217_l12 K a0 a1 y1 n q13 q14 q15 := by
  have key : ∀ (lr : LR Int) (L : Fr → Option Int) (q13 q14 : Int) (q15 : List (tV × Bool)), execG (f217E K) 0 lr (selC f217C [1, 1, 0, 1, 0, 0]) (f217_fr12 a0 a1 y1 q13 q14 q15) (loopK 0 (f217_fr12 a0 a1 y1 bq13 bq14 bq15) L (f217_k12 K a0 a1 lr)) = f217_b12 K a0 a1 y1 (fun c0 c1 c2 d0 d1 d2 => lr (selC f217C [1, 1, 0, 1, 0, 0, 1, 1, 0, 0, 1, 1, 1, 1, 0, 0]) (f217_fr16 a0 a1 c0 c1 c2 y1 d0 d1 d2) (f217_k16 K a0 a1 y1 L bq13 bq14 bq15 lr)) (fun v0 v1 v2 => L (f217_fr12 a0 a1 y1 v0 v1 v2)) q13 q14 q15 := by
    intro lr L q13 q14 q15; kernel_rfl
  intro n q13 q14 q15
  refine loopN_iter (X := Int × Int × List (tV × Bool)) (frame := fun x => (f217_fr12 a0 a1 y1 x.1 x.2.1 x.2.2)) (body := (fun L x => (fun L12 => f217_b12 K a0 a1 y1 (fun c0 c1 c2 d0 d1 d2 => f217_l16 K a0 a1 c0 c1 c2 y1 L12 K d0 d1 d2) L12 x.1 x.2.1 x.2.2) (fun v0 v1 v2 => L (v0, v1, v2)))) (fun L x => ?_) n (q13, q14, q15)
  rw [exec_G]
  have h16 : (fun c0 c1 c2 d0 d1 d2 => (realL (f217E K) 0) (selC f217C [1, 1, 0, 1, 0, 0, 1, 1, 0, 0, 1, 1, 1, 1, 0, 0]) (f217_fr16 a0 a1 c0 c1 c2 y1 d0 d1 d2) (f217_k16 K a0 a1 y1 L bq13 bq14 bq15 (realL (f217E K) 0))) = fun c0 c1 c2 d0 d1 d2 => f217_l16 K a0 a1 c0 c1 c2 y1 (fun v0 v1 v2 => L (f217_fr12 a0 a1 y1 v0 v1 v2)) K d0 d1 d2 := by
    funext c0 c1 c2 d0 d1 d2
    exact f217_t16 K a0 a1 y1 c0 c1 c2 L bq13 bq14 bq15 d0 d1 d2 K d0 d1 d2
  exact (key (realL (f217E K) 0) L x.1 x.2.1 x.2.2).trans (by rw [h16] <;> rfl)
theorem f217_run (K : Nat) (a0 : Int × Int × Int) (a1 : tA × Int × Int) : runF (f217E K) Tryz.f217 [(.ro, sL), (.ro, sM)] [sI] (a0, a1, ()) = f217G K a0 a1 := by
  have key : ∀ (lr : LR Int), runG (f217E K) Tryz.f217 [(.ro, sL), (.ro, sM)] [sI] (a0, a1, ()) lr = f217_g K a0 a1 (fun c0 d0 d1 d2 => lr (selC f217C [1, 1, 0, 1, 0, 0]) (f217_fr12 a0 a1 c0 d0 d1 d2) (f217_k12 K a0 a1 lr)) := by intro lr; kernel_rfl
  have h12 : (fun c0 d0 d1 d2 => (realL (f217E K) 0) (selC f217C [1, 1, 0, 1, 0, 0]) (f217_fr12 a0 a1 c0 d0 d1 d2) (f217_k12 K a0 a1 (realL (f217E K) 0))) = fun c0 d0 d1 d2 => f217_l12 K a0 a1 c0 K d0 d1 d2 := by
    funext c0 d0 d1 d2
    exact f217_t12 K a0 a1 c0 d0 d1 d2 K d0 d1 d2
  exact runF_G (n0 := 0) (by rfl) ((key (realL (f217E K) 0)).trans (by rw [h12] <;> rfl))
theorem f99_t5 (K : Nat) (a0 : Int) (a1 : Int × Int × Int) (a2 : List tM) (a3 y1 bq6 bq7 : Int) : ∀ (n : Nat) (q6 q7 : Int), loopN (exec (f99E K) 1 (selC f99C [1, 1, 1, 0, 1, 0, 0])) 1 (f99_fr5 a0 a1 a2 a3 y1 bq6 bq7) n (f99_fr5 a0 a1 a2 a3 y1 q6 q7) (f99_k5 K a0 a1 a2 a3 (realL (f99E K) 1)) = f99_l5 K a0 a1 a2 a3 y1 n q6 q7 := by
  have key : ∀ (lr : LR tV) (L : Fr → Option tV) (q6 q7 : Int), execG (f99E K) 1 lr (selC f99C [1, 1, 1, 0, 1, 0, 0]) (f99_fr5 a0 a1 a2 a3 y1 q6 q7) (loopK 1 (f99_fr5 a0 a1 a2 a3 y1 bq6 bq7) L (f99_k5 K a0 a1 a2 a3 lr)) = f99_b5 K a0 a1 a2 a3 y1 (fun v0 v1 => L (f99_fr5 a0 a1 a2 a3 y1 v0 v1)) q6 q7 := by
    intro lr L q6 q7; kernel_rfl
  intro n q6 q7
  refine loopN_iter (X := Int × Int) (frame := fun x => (f99_fr5 a0 a1 a2 a3 y1 x.1 x.2)) (body := (fun L x => (fun L5 => f99_b5 K a0 a1 a2 a3 y1 L5 x.1 x.2) (fun v0 v1 => L (v0, v1)))) (fun L x => ?_) n (q6, q7)
  rw [exec_G]
  exact (key (realL (f99E K) 1) L x.1 x.2).trans (by rfl)
theorem f99_run (K : Nat) (a0 : Int) (a1 : Int × Int × Int) (a2 : List tM) (a3 : Int) : runF (f99E K) Tryz.f99 [(.ro, sI), (.ro, sL), (.ro, (.list 95 sM)), (.ro, sI)] [sI, sI] (a0, a1, a2, a3, ()) = f99G K a0 a1 a2 a3 := by
  have key : ∀ (lr : LR tV), runG (f99E K) Tryz.f99 [(.ro, sI), (.ro, sL), (.ro, (.list 95 sM)), (.ro, sI)] [sI, sI] (a0, a1, a2, a3, ()) lr = f99_g K a0 a1 a2 a3 (fun c0 d0 d1 => lr (selC f99C [1, 1, 1, 0, 1, 0, 0]) (f99_fr5 a0 a1 a2 a3 c0 d0 d1) (f99_k5 K a0 a1 a2 a3 lr)) := by intro lr; kernel_rfl
  have h5 : (fun c0 d0 d1 => (realL (f99E K) 1) (selC f99C [1, 1, 1, 0, 1, 0, 0]) (f99_fr5 a0 a1 a2 a3 c0 d0 d1) (f99_k5 K a0 a1 a2 a3 (realL (f99E K) 1))) = fun c0 d0 d1 => f99_l5 K a0 a1 a2 a3 c0 K d0 d1 := by
    funext c0 d0 d1
    exact f99_t5 K a0 a1 a2 a3 c0 d0 d1 K d0 d1
  exact runF_G (n0 := 1) (by rfl) ((key (realL (f99E K) 1)).trans (by rw [h5] <;> rfl))
theorem f211_run (K : Nat) (a0 : Int × Int) : runF (f211E K) Tryz.f211 [(.ro, sV)] [.bool] (a0, ()) = f211G K a0 := by kernel_rfl
theorem f402_run (K : Nat) (a0 : Int × Int × Int × Int) : runF (f402E K) Tryz.f402 [(.ro, sA)] [.bool] (a0, ()) = f402G K a0 := by kernel_rfl
theorem f403_run (K : Nat) (a0 : Int × Int × Int × Int) : runF (f403E K) Tryz.f403 [(.ro, sA)] [sI] (a0, ()) = f403G K a0 := by kernel_rfl
theorem f361_run (K : Nat) (a0 : Int × Int × Int × Int) : runF (f361E K) Tryz.f361 [(.ro, sA)] [.bool] (a0, ()) = f361G K a0 := by kernel_rfl
theorem f312_run (K : Nat) (a0 : Int) (a1 : Int × Int × Int × Int) : runF (f312E K) Tryz.f312 [(.ro, sI), (.ro, sA)] [.bool] (a0, a1, ()) = f312G K a0 a1 := by kernel_rfl
theorem f226_run (K : Nat) (a0 : Int) (a1 : Int × Int × Int) (a2 : tA × Int × Int) : runF (f226E K) Tryz.f226 [(.ro, sI), (.ro, sL), (.ro, sM)] [.bool] (a0, a1, a2, ()) = f226G K a0 a1 a2 := by kernel_rfl
theorem f219_t25 (K : Nat) (a0 : Int) (a1 : Int × Int × Int) (a2 : List tM) (q7 y1 : Int) (y12 : Bool) (q24 : Int) (F23 : Fr → Option Bool) (bq24 bq26 : Int) : ∀ (n : Nat) (q26 : Int), loopN (exec (f219E K) 1 (selC f219C [1, 1, 1, 1, 0, 1, 0, 0, 1, 0, 0, 1, 0, 0])) 1 (f219_fr25 a0 a1 a2 q7 q24 y1 y12 bq26) n (f219_fr25 a0 a1 a2 q7 q24 y1 y12 q26) (f219_k25 K a0 a1 a2 q7 y1 y12 F23 bq24 (realL (f219E K) 1)) = f219_l25 K a0 a1 a2 q7 q24 y1 y12 (fun v0 => F23 (f219_fr23 a0 a1 a2 q7 y1 y12 v0)) n q26 := by
  have key : ∀ (lr : LR Bool) (L : Fr → Option Bool) (q26 : Int), execG (f219E K) 1 lr (selC f219C [1, 1, 1, 1, 0, 1, 0, 0, 1, 0, 0, 1, 0, 0]) (f219_fr25 a0 a1 a2 q7 q24 y1 y12 q26) (loopK 1 (f219_fr25 a0 a1 a2 q7 q24 y1 y12 bq26) L (f219_k25 K a0 a1 a2 q7 y1 y12 F23 bq24 lr)) = f219_b25 K a0 a1 a2 q7 q24 y1 y12 (fun v0 => F23 (f219_fr23 a0 a1 a2 q7 y1 y12 v0)) (fun v0 => L (f219_fr25 a0 a1 a2 q7 q24 y1 y12 v0)) q26 := by
    intro lr L q26; kernel_rfl
  intro n q26
  refine loopN_iter (X := Int) (frame := fun x => (f219_fr25 a0 a1 a2 q7 q24 y1 y12 x)) (body := (fun L x => (fun L25 => f219_b25 K a0 a1 a2 q7 q24 y1 y12 (fun v0 => F23 (f219_fr23 a0 a1 a2 q7 y1 y12 v0)) L25 x) (fun v0 => L v0))) (fun L x => ?_) n q26
  rw [exec_G]
  exact (key (realL (f219E K) 1) L x).trans (by rfl)
theorem f219_t23 (K : Nat) (a0 : Int) (a1 : Int × Int × Int) (a2 : List tM) (q7 y1 : Int) (y12 : Bool) (bq24 : Int) : ∀ (n : Nat) (q24 : Int), loopN (exec (f219E K) 1 (selC f219C [1, 1, 1, 1, 0, 1, 0, 0])) 1 (f219_fr23 a0 a1 a2 q7 y1 y12 bq24) n (f219_fr23 a0 a1 a2 q7 y1 y12 q24) (f219_k23 K a0 a1 a2 (realL (f219E K) 1)) = f219_l23 K a0 a1 a2 q7 y1 y12 n q24 := by
  have key : ∀ (lr : LR Bool) (L : Fr → Option Bool) (q24 : Int), execG (f219E K) 1 lr (selC f219C [1, 1, 1, 1, 0, 1, 0, 0]) (f219_fr23 a0 a1 a2 q7 y1 y12 q24) (loopK 1 (f219_fr23 a0 a1 a2 q7 y1 y12 bq24) L (f219_k23 K a0 a1 a2 lr)) = f219_b23 K a0 a1 a2 q7 y1 y12 (fun c0 d0 => lr (selC f219C [1, 1, 1, 1, 0, 1, 0, 0, 1, 0, 0, 1, 0, 0]) (f219_fr25 a0 a1 a2 q7 c0 y1 y12 d0) (f219_k25 K a0 a1 a2 q7 y1 y12 L bq24 lr)) (fun v0 => L (f219_fr23 a0 a1 a2 q7 y1 y12 v0)) q24 := by
    intro lr L q24; kernel_rfl
  intro n q24
  refine loopN_iter (X := Int) (frame := fun x => (f219_fr23 a0 a1 a2 q7 y1 y12 x)) (body := (fun L x => (fun L23 => f219_b23 K a0 a1 a2 q7 y1 y12 (fun c0 d0 => f219_l25 K a0 a1 a2 q7 c0 y1 y12 L23 K d0) L23 x) (fun v0 => L v0))) (fun L x => ?_) n q24
  rw [exec_G]
  have h25 : (fun c0 d0 => (realL (f219E K) 1) (selC f219C [1, 1, 1, 1, 0, 1, 0, 0, 1, 0, 0, 1, 0, 0]) (f219_fr25 a0 a1 a2 q7 c0 y1 y12 d0) (f219_k25 K a0 a1 a2 q7 y1 y12 L bq24 (realL (f219E K) 1))) = fun c0 d0 => f219_l25 K a0 a1 a2 q7 c0 y1 y12 (fun v0 => L (f219_fr23 a0 a1 a2 q7 y1 y12 v0)) K d0 := by
    funext c0 d0
    exact f219_t25 K a0 a1 a2 q7 y1 y12 c0 L bq24 d0 K d0
  exact (key (realL (f219E K) 1) L x).trans (by rw [h25] <;> rfl)
theorem f219_t6 (K : Nat) (a0 : Int) (a1 : Int × Int × Int) (a2 : List tM) (y1 bq7 : Int) : ∀ (n : Nat) (q7 : Int), loopN (exec (f219E K) 1 (selC f219C [1, 1, 0, 1, 0, 0])) 1 (f219_fr6 a0 a1 a2 y1 bq7) n (f219_fr6 a0 a1 a2 y1 q7) (f219_k6 K a0 a1 a2 (realL (f219E K) 1)) = f219_l6 K a0 a1 a2 y1 n q7 := by
  have key : ∀ (lr : LR Bool) (L : Fr → Option Bool) (q7 : Int), execG (f219E K) 1 lr (selC f219C [1, 1, 0, 1, 0, 0]) (f219_fr6 a0 a1 a2 y1 q7) (loopK 1 (f219_fr6 a0 a1 a2 y1 bq7) L (f219_k6 K a0 a1 a2 lr)) = f219_b6 K a0 a1 a2 y1 (fun c0 c1 c2 d0 => lr (selC f219C [1, 1, 1, 1, 0, 1, 0, 0]) (f219_fr23 a0 a1 a2 c0 c1 c2 d0) (f219_k23 K a0 a1 a2 lr)) (fun v0 => L (f219_fr6 a0 a1 a2 y1 v0)) q7 := by
    intro lr L q7; kernel_rfl
  intro n q7
  refine loopN_iter (X := Int) (frame := fun x => (f219_fr6 a0 a1 a2 y1 x)) (body := (fun L x => (fun L6 => f219_b6 K a0 a1 a2 y1 (fun c0 c1 c2 d0 => f219_l23 K a0 a1 a2 c0 c1 c2 K d0) L6 x) (fun v0 => L v0))) (fun L x => ?_) n q7
  rw [exec_G]
  have h23 : (fun c0 c1 c2 d0 => (realL (f219E K) 1) (selC f219C [1, 1, 1, 1, 0, 1, 0, 0]) (f219_fr23 a0 a1 a2 c0 c1 c2 d0) (f219_k23 K a0 a1 a2 (realL (f219E K) 1))) = fun c0 c1 c2 d0 => f219_l23 K a0 a1 a2 c0 c1 c2 K d0 := by
    funext c0 c1 c2 d0
    exact f219_t23 K a0 a1 a2 c0 c1 c2 d0 K d0
  exact (key (realL (f219E K) 1) L x).trans (by rw [h23] <;> rfl)
theorem f219_run (K : Nat) (a0 : Int) (a1 : Int × Int × Int) (a2 : List tM) : runF (f219E K) Tryz.f219 [(.ro, sI), (.ro, sL), (.ro, (.list 95 sM))] [.bool] (a0, a1, a2, ()) = f219G K a0 a1 a2 := by
  have key : ∀ (lr : LR Bool), runG (f219E K) Tryz.f219 [(.ro, sI), (.ro, sL), (.ro, (.list 95 sM))] [.bool] (a0, a1, a2, ()) lr = f219_g K a0 a1 a2 (fun c0 d0 => lr (selC f219C [1, 1, 0, 1, 0, 0]) (f219_fr6 a0 a1 a2 c0 d0) (f219_k6 K a0 a1 a2 lr)) := by intro lr; kernel_rfl
  have h6 : (fun c0 d0 => (realL (f219E K) 1) (selC f219C [1, 1, 0, 1, 0, 0]) (f219_fr6 a0 a1 a2 c0 d0) (f219_k6 K a0 a1 a2 (realL (f219E K) 1))) = fun c0 d0 => f219_l6 K a0 a1 a2 c0 K d0 := by
    funext c0 d0
    exact f219_t6 K a0 a1 a2 c0 d0 K d0
  exact runF_G (n0 := 1) (by rfl) ((key (realL (f219E K) 1)).trans (by rw [h6] <;> rfl))
theorem f225_run (K : Nat) (a0 : Int) (a1 : Int × Int × Int) (a2 : Bool) : runF (f225E K) Tryz.f225 [(.ro, sI), (.ro, sL), (.ro, .bool)] [sI] (a0, a1, a2, ()) = f225G K a0 a1 a2 := by kernel_rfl
theorem f220_t2 (K : Nat) (a0 a1 a2 bq3 bq4 : Int) : ∀ (n : Nat) (q3 q4 : Int), loopN (exec (f220E K) 0 (selC f220C [1, 1, 0, 0, 0])) 0 (f220_fr2 a0 a2 bq3 bq4) n (f220_fr2 a0 a2 q3 q4) (f220_k2 K a0 a1 a2 (realL (f220E K) 0)) = f220_l2 K a0 a2 n q3 q4 := by
  have key : ∀ (lr : LR Int) (L : Fr → Option Int) (q3 q4 : Int), execG (f220E K) 0 lr (selC f220C [1, 1, 0, 0, 0]) (f220_fr2 a0 a2 q3 q4) (loopK 0 (f220_fr2 a0 a2 bq3 bq4) L (f220_k2 K a0 a1 a2 lr)) = f220_b2 K a0 a2 (fun v0 v1 => L (f220_fr2 a0 a2 v0 v1)) q3 q4 := by
    intro lr L q3 q4; kernel_rfl
  intro n q3 q4
  refine loopN_iter (X := Int × Int) (frame := fun x => (f220_fr2 a0 a2 x.1 x.2)) (body := (fun L x => (fun L2 => f220_b2 K a0 a2 L2 x.1 x.2) (fun v0 v1 => L (v0, v1)))) (fun L x => ?_) n (q3, q4)
  rw [exec_G]
  exact (key (realL (f220E K) 0) L x.1 x.2).trans (by rfl)
theorem f220_run (K : Nat) (a0 a1 a2 : Int) : runF (f220E K) Tryz.f220 [(.ro, sI), (.ro, sI), (.ro, sI)] [sI] (a0, a1, a2, ()) = f220G K a0 a1 a2 := by
  have key : ∀ (lr : LR Int), runG (f220E K) Tryz.f220 [(.ro, sI), (.ro, sI), (.ro, sI)] [sI] (a0, a1, a2, ()) lr = f220_g K a0 a1 a2 (fun d0 d1 => lr (selC f220C [1, 1, 0, 0, 0]) (f220_fr2 a0 a2 d0 d1) (f220_k2 K a0 a1 a2 lr)) := by intro lr; kernel_rfl
  have h2 : (fun d0 d1 => (realL (f220E K) 0) (selC f220C [1, 1, 0, 0, 0]) (f220_fr2 a0 a2 d0 d1) (f220_k2 K a0 a1 a2 (realL (f220E K) 0))) = fun d0 d1 => f220_l2 K a0 a2 K d0 d1 := by
    funext d0 d1
    exact f220_t2 K a0 a1 a2 d0 d1 K d0 d1
  exact runF_G (n0 := 0) (by rfl) ((key (realL (f220E K) 0)).trans (by rw [h2] <;> rfl))
theorem f218_run (K : Nat) (a0 : Int) (a1 : Int × Int × Int) (a2 : Bool) (a3 a4 : Int) : runF (f218E K) Tryz.f218 [(.ro, sI), (.ro, sL), (.ro, .bool), (.ro, sI), (.ro, sI)] [sI] (a0, a1, a2, a3, a4, ()) = f218G K a0 a1 a2 a3 a4 := by kernel_rfl
theorem f127_run (K : Nat) (a0 : Int × Int × Int) (a1 : Int × Int) : runF (f127E K) Tryz.f127 [(.ro, sL), (.ro, sV)] [sI] (a0, a1, ()) = f127G K a0 a1 := by kernel_rfl
theorem f284_run (K : Nat) (a0 : tA × Int × Int) (a1 : Int × Int) : runF (f284E K) Tryz.f284 [(.ro, sM), (.ro, sV)] [sV] (a0, a1, ()) = f284G K a0 a1 := by kernel_rfl
theorem f185_run (K : Nat) (a0 : Int × Int × Int) (a1 : tA × Int × Int) (a2 : Int × Int) : runF (f185E K) Tryz.f185 [(.ro, sL), (.ro, sM), (.ro, sV)] [sV] (a0, a1, a2, ()) = f185G K a0 a1 a2 := by kernel_rfl
theorem f221_t20 (K : Nat) (a0 : Int × Int × Int) (a1 : tA × Int × Int) (y1 : List tV) (q17 q18 : Int) (q19 : List Bool) (F16 : Fr → Option Int) (bq17 bq18 : Int) (bq19 : List Bool) (bq21 bq22 : Int) (bq23 : List Bool) : ∀ (n : Nat) (q21 q22 : Int) (q23 : List Bool), loopN (exec (f221E K) 0 (selC f221C [1, 1, 1, 1, 0, 1, 0, 0, 1, 0, 0, 1, 1, 1, 0, 0])) 0 (f221_fr20 a0 a1 q17 q18 q19 y1 bq21 bq22 bq23) n (f221_fr20 a0 a1 q17 q18 q19 y1 q21 q22 q23) (f221_k20 K a0 a1 y1 F16 bq17 bq18 bq19 (realL (f221E K) 0)) = f221_l20 K a0 a1 q17 q18 q19 y1 (fun v0 v1 v2 => F16 (f221_fr16 a0 a1 y1 v0 v1 v2)) n q21 q22 q23 := by
  have key : ∀ (lr : LR Int) (L : Fr → Option Int) (q21 q22 : Int) (q23 : List Bool), execG (f221E K) 0 lr (selC f221C [1, 1, 1, 1, 0, 1, 0, 0, 1, 0, 0, 1, 1, 1, 0, 0]) (f221_fr20 a0 a1 q17 q18 q19 y1 q21 q22 q23) (loopK 0 (f221_fr20 a0 a1 q17 q18 q19 y1 bq21 bq22 bq23) L (f221_k20 K a0 a1 y1 F16 bq17 bq18 bq19 lr)) = f221_b20 K a0 a1 q17 q18 q19 y1 (fun v0 v1 v2 => F16 (f221_fr16 a0 a1 y1 v0 v1 v2)) (fun v0 v1 v2 => L (f221_fr20 a0 a1 q17 q18 q19 y1 v0 v1 v2)) q21 q22 q23 := by
    intro lr L q21 q22 q23; kernel_rfl
  intro n q21 q22 q23
  refine loopN_iter (X := Int × Int × List Bool) (frame := fun x => (f221_fr20 a0 a1 q17 q18 q19 y1 x.1 x.2.1 x.2.2)) (body := (fun L x => (fun L20 => f221_b20 K a0 a1 q17 q18 q19 y1 (fun v0 v1 v2 => F16 (f221_fr16 a0 a1 y1 v0 v1 v2)) L20 x.1 x.2.1 x.2.2) (fun v0 v1 v2 => L (v0, v1, v2)))) (fun L x => ?_) n (q21, q22, q23)
  rw [exec_G]
  exact (key (realL (f221E K) 0) L x.1 x.2.1 x.2.2).trans (by rfl)
theorem f221_t16 (K : Nat) (a0 : Int × Int × Int) (a1 : tA × Int × Int) (y1 : List tV) (bq17 bq18 : Int) (bq19 : List Bool) : ∀ (n : Nat) (q17 q18 : Int) (q19 : List Bool), loopN (exec (f221E K) 0 (selC f221C [1, 1, 1, 1, 0, 1, 0, 0])) 0 (f221_fr16 a0 a1 y1 bq17 bq18 bq19) n (f221_fr16 a0 a1 y1 q17 q18 q19) (f221_k16 K a0 a1 (realL (f221E K) 0)) = f221_l16 K a0 a1 y1 n q17 q18 q19 := by
  have key : ∀ (lr : LR Int) (L : Fr → Option Int) (q17 q18 : Int) (q19 : List Bool), execG (f221E K) 0 lr (selC f221C [1, 1, 1, 1, 0, 1, 0, 0]) (f221_fr16 a0 a1 y1 q17 q18 q19) (loopK 0 (f221_fr16 a0 a1 y1 bq17 bq18 bq19) L (f221_k16 K a0 a1 lr)) = f221_b16 K a0 a1 y1 (fun c0 c1 c2 d0 d1 d2 => lr (selC f221C [1, 1, 1, 1, 0, 1, 0, 0, 1, 0, 0, 1, 1, 1, 0, 0]) (f221_fr20 a0 a1 c0 c1 c2 y1 d0 d1 d2) (f221_k20 K a0 a1 y1 L bq17 bq18 bq19 lr)) (fun v0 v1 v2 => L (f221_fr16 a0 a1 y1 v0 v1 v2)) q17 q18 q19 := by
    intro lr L q17 q18 q19; kernel_rfl
  intro n q17 q18 q19
  refine loopN_iter (X := Int × Int × List Bool) (frame := fun x => (f221_fr16 a0 a1 y1 x.1 x.2.1 x.2.2)) (body := (fun L x => (fun L16 => f221_b16 K a0 a1 y1 (fun c0 c1 c2 d0 d1 d2 => f221_l20 K a0 a1 c0 c1 c2 y1 L16 K d0 d1 d2) L16 x.1 x.2.1 x.2.2) (fun v0 v1 v2 => L (v0, v1, v2)))) (fun L x => ?_) n (q17, q18, q19)
  rw [exec_G]
  have h20 : (fun c0 c1 c2 d0 d1 d2 => (realL (f221E K) 0) (selC f221C [1, 1, 1, 1, 0, 1, 0, 0, 1, 0, 0, 1, 1, 1, 0, 0]) (f221_fr20 a0 a1 c0 c1 c2 y1 d0 d1 d2) (f221_k20 K a0 a1 y1 L bq17 bq18 bq19 (realL (f221E K) 0))) = fun c0 c1 c2 d0 d1 d2 => f221_l20 K a0 a1 c0 c1 c2 y1 (fun v0 v1 v2 => L (f221_fr16 a0 a1 y1 v0 v1 v2)) K d0 d1 d2 := by
    funext c0 c1 c2 d0 d1 d2
    exact f221_t20 K a0 a1 y1 c0 c1 c2 L bq17 bq18 bq19 d0 d1 d2 K d0 d1 d2
  exact (key (realL (f221E K) 0) L x.1 x.2.1 x.2.2).trans (by rw [h20] <;> rfl)
theorem f221_run (K : Nat) (a0 : Int × Int × Int) (a1 : tA × Int × Int) : runF (f221E K) Tryz.f221 [(.ro, sL), (.ro, sM)] [sI] (a0, a1, ()) = f221G K a0 a1 := by
  have key : ∀ (lr : LR Int), runG (f221E K) Tryz.f221 [(.ro, sL), (.ro, sM)] [sI] (a0, a1, ()) lr = f221_g K a0 a1 (fun c0 d0 d1 d2 => lr (selC f221C [1, 1, 1, 1, 0, 1, 0, 0]) (f221_fr16 a0 a1 c0 d0 d1 d2) (f221_k16 K a0 a1 lr)) := by intro lr; kernel_rfl
  have h16 : (fun c0 d0 d1 d2 => (realL (f221E K) 0) (selC f221C [1, 1, 1, 1, 0, 1, 0, 0]) (f221_fr16 a0 a1 c0 d0 d1 d2) (f221_k16 K a0 a1 (realL (f221E K) 0))) = fun c0 d0 d1 d2 => f221_l16 K a0 a1 c0 K d0 d1 d2 := by
    funext c0 d0 d1 d2
    exact f221_t16 K a0 a1 c0 d0 d1 d2 K d0 d1 d2
  exact runF_G (n0 := 0) (by rfl) ((key (realL (f221E K) 0)).trans (by rw [h16] <;> rfl))
theorem f100_t6 (K : Nat) (a0 : Int) (a1 : Int × Int × Int) (a2 : List tM) (a3 y2 bq7 bq8 : Int) : ∀ (n : Nat) (q7 q8 : Int), loopN (exec (f100E K) 1 (selC f100C [1, 1, 1, 1, 0, 1, 0, 0])) 1 (f100_fr6 a0 a1 a2 a3 y2 bq7 bq8) n (f100_fr6 a0 a1 a2 a3 y2 q7 q8) (f100_k6 K a0 a1 a2 a3 (realL (f100E K) 1)) = f100_l6 K a0 a1 a2 a3 y2 n q7 q8 := by
  have key : ∀ (lr : LR tV) (L : Fr → Option tV) (q7 q8 : Int), execG (f100E K) 1 lr (selC f100C [1, 1, 1, 1, 0, 1, 0, 0]) (f100_fr6 a0 a1 a2 a3 y2 q7 q8) (loopK 1 (f100_fr6 a0 a1 a2 a3 y2 bq7 bq8) L (f100_k6 K a0 a1 a2 a3 lr)) = f100_b6 K a0 a1 a2 a3 y2 (fun v0 v1 => L (f100_fr6 a0 a1 a2 a3 y2 v0 v1)) q7 q8 := by
    intro lr L q7 q8; kernel_rfl
  intro n q7 q8
  refine loopN_iter (X := Int × Int) (frame := fun x => (f100_fr6 a0 a1 a2 a3 y2 x.1 x.2)) (body := (fun L x => (fun L6 => f100_b6 K a0 a1 a2 a3 y2 L6 x.1 x.2) (fun v0 v1 => L (v0, v1)))) (fun L x => ?_) n (q7, q8)
  rw [exec_G]
  exact (key (realL (f100E K) 1) L x.1 x.2).trans (by rfl)
theorem f100_run (K : Nat) (a0 : Int) (a1 : Int × Int × Int) (a2 : List tM) (a3 : Int) : runF (f100E K) Tryz.f100 [(.ro, sI), (.ro, sL), (.ro, (.list 95 sM)), (.ro, sI)] [sI, sI] (a0, a1, a2, a3, ()) = f100G K a0 a1 a2 a3 := by
  have key : ∀ (lr : LR tV), runG (f100E K) Tryz.f100 [(.ro, sI), (.ro, sL), (.ro, (.list 95 sM)), (.ro, sI)] [sI, sI] (a0, a1, a2, a3, ()) lr = f100_g K a0 a1 a2 a3 (fun c0 d0 d1 => lr (selC f100C [1, 1, 1, 1, 0, 1, 0, 0]) (f100_fr6 a0 a1 a2 a3 c0 d0 d1) (f100_k6 K a0 a1 a2 a3 lr)) := by intro lr; kernel_rfl
  have h6 : (fun c0 d0 d1 => (realL (f100E K) 1) (selC f100C [1, 1, 1, 1, 0, 1, 0, 0]) (f100_fr6 a0 a1 a2 a3 c0 d0 d1) (f100_k6 K a0 a1 a2 a3 (realL (f100E K) 1))) = fun c0 d0 d1 => f100_l6 K a0 a1 a2 a3 c0 K d0 d1 := by
    funext c0 d0 d1
    exact f100_t6 K a0 a1 a2 a3 c0 d0 d1 K d0 d1
  exact runF_G (n0 := 1) (by rfl) ((key (realL (f100E K) 1)).trans (by rw [h6] <;> rfl))
theorem f352_run (K : Nat) (a0 : (List Int) × Int × Int) (a1 : Int) : runP (f352E K) Tryz.f352 5 (.int .u8) sV [(.ro, sI)] [sA] (a0, a1, ()) = f352G K a0 a1 := by kernel_rfl
theorem f399_run (K : Nat) (a0 : Int × Int × Int × Int) : runF (f399E K) Tryz.f399 [(.ro, sA)] [sA] (a0, ()) = f399G K a0 := by kernel_rfl
theorem f354_t10 (K : Nat) (a0 : (List Int) × Int × Int) (bq11 bq12 bq13 bq14 bq15 bq16 bq17 : Int) : ∀ (n : Nat) (q11 q12 q13 q14 q15 q16 q17 : Int), loopN (exec (f354E K) 1 (selC f354C [1, 1, 0, 1, 0, 0])) 1 (f354_fr10 a0 bq11 bq12 bq13 bq14 bq15 bq16 bq17) n (f354_fr10 a0 q11 q12 q13 q14 q15 q16 q17) (f354_k10 K a0 (realL (f354E K) 1)) = f354_l10 K a0 n q11 q12 q13 q14 q15 q16 q17 := by
  have key : ∀ (lr : LR (tV × Int × Int × Int × Int)) (L : Fr → Option (tV × Int × Int × Int × Int)) (q11 q12 q13 q14 q15 q16 q17 : Int), execG (f354E K) 1 lr (selC f354C [1, 1, 0, 1, 0, 0]) (f354_fr10 a0 q11 q12 q13 q14 q15 q16 q17) (loopK 1 (f354_fr10 a0 bq11 bq12 bq13 bq14 bq15 bq16 bq17) L (f354_k10 K a0 lr)) = f354_b10 K a0 (fun v0 v1 v2 v3 v4 v5 v6 => L (f354_fr10 a0 v0 v1 v2 v3 v4 v5 v6)) q11 q12 q13 q14 q15 q16 q17 := by
    intro lr L q11 q12 q13 q14 q15 q16 q17; kernel_rfl
  intro n q11 q12 q13 q14 q15 q16 q17
  refine loopN_iter (X := Int × Int × Int × Int × Int × Int × Int) (frame := fun x => (f354_fr10 a0 x.1 x.2.1 x.2.2.1 x.2.2.2.1 x.2.2.2.2.1 x.2.2.2.2.2.1 x.2.2.2.2.2.2)) (body := (fun L x => (fun L10 => f354_b10 K a0 L10 x.1 x.2.1 x.2.2.1 x.2.2.2.1 x.2.2.2.2.1 x.2.2.2.2.2.1 x.2.2.2.2.2.2) (fun v0 v1 v2 v3 v4 v5 v6 => L (v0, v1, v2, v3, v4, v5, v6)))) (fun L x => ?_) n (q11, q12, q13, q14, q15, q16, q17)
  rw [exec_G]
  exact (key (realL (f354E K) 1) L x.1 x.2.1 x.2.2.1 x.2.2.2.1 x.2.2.2.2.1 x.2.2.2.2.2.1 x.2.2.2.2.2.2).trans (by rfl)
theorem f354_run (K : Nat) (a0 : (List Int) × Int × Int) : runP (f354E K) Tryz.f354 5 (.int .u8) sV [] [sA] (a0, ()) = f354G K a0 := by
  have key : ∀ (lr : LR (tV × Int × Int × Int × Int)), runPG (f354E K) Tryz.f354 5 (.int .u8) sV [] [sA] (a0, ()) lr = f354_g K a0 (fun d0 d1 d2 d3 d4 d5 d6 => lr (selC f354C [1, 1, 0, 1, 0, 0]) (f354_fr10 a0 d0 d1 d2 d3 d4 d5 d6) (f354_k10 K a0 lr)) := by intro lr; kernel_rfl
  have h10 : (fun d0 d1 d2 d3 d4 d5 d6 => (realL (f354E K) 1) (selC f354C [1, 1, 0, 1, 0, 0]) (f354_fr10 a0 d0 d1 d2 d3 d4 d5 d6) (f354_k10 K a0 (realL (f354E K) 1))) = fun d0 d1 d2 d3 d4 d5 d6 => f354_l10 K a0 K d0 d1 d2 d3 d4 d5 d6 := by
    funext d0 d1 d2 d3 d4 d5 d6
    exact f354_t10 K a0 d0 d1 d2 d3 d4 d5 d6 K d0 d1 d2 d3 d4 d5 d6
  exact runP_G (n0 := 1) (by rfl) ((key (realL (f354E K) 1)).trans (by rw [h10] <;> rfl))
theorem f353_t8 (K : Nat) (a0 : (List Int) × Int × Int) (y1 : tV × Int) (bq9 bq10 bq11 bq12 bq13 bq14 bq15 : Int) : ∀ (n : Nat) (q9 q10 q11 q12 q13 q14 q15 : Int), loopN (exec (f353E K) 1 (selC f353C [1, 1, 1, 0, 1, 0, 0])) 1 (f353_fr8 a0 y1 bq9 bq10 bq11 bq12 bq13 bq14 bq15) n (f353_fr8 a0 y1 q9 q10 q11 q12 q13 q14 q15) (f353_k8 K a0 (realL (f353E K) 1)) = f353_l8 K a0 y1 n q9 q10 q11 q12 q13 q14 q15 := by
  have key : ∀ (lr : LR (tV × Int × Int × Int × Int)) (L : Fr → Option (tV × Int × Int × Int × Int)) (q9 q10 q11 q12 q13 q14 q15 : Int), execG (f353E K) 1 lr (selC f353C [1, 1, 1, 0, 1, 0, 0]) (f353_fr8 a0 y1 q9 q10 q11 q12 q13 q14 q15) (loopK 1 (f353_fr8 a0 y1 bq9 bq10 bq11 bq12 bq13 bq14 bq15) L (f353_k8 K a0 lr)) = f353_b8 K a0 y1 (fun v0 v1 v2 v3 v4 v5 v6 => L (f353_fr8 a0 y1 v0 v1 v2 v3 v4 v5 v6)) q9 q10 q11 q12 q13 q14 q15 := by
    intro lr L q9 q10 q11 q12 q13 q14 q15; kernel_rfl
  intro n q9 q10 q11 q12 q13 q14 q15
  refine loopN_iter (X := Int × Int × Int × Int × Int × Int × Int) (frame := fun x => (f353_fr8 a0 y1 x.1 x.2.1 x.2.2.1 x.2.2.2.1 x.2.2.2.2.1 x.2.2.2.2.2.1 x.2.2.2.2.2.2)) (body := (fun L x => (fun L8 => f353_b8 K a0 y1 L8 x.1 x.2.1 x.2.2.1 x.2.2.2.1 x.2.2.2.2.1 x.2.2.2.2.2.1 x.2.2.2.2.2.2) (fun v0 v1 v2 v3 v4 v5 v6 => L (v0, v1, v2, v3, v4, v5, v6)))) (fun L x => ?_) n (q9, q10, q11, q12, q13, q14, q15)
  rw [exec_G]
  exact (key (realL (f353E K) 1) L x.1 x.2.1 x.2.2.1 x.2.2.2.1 x.2.2.2.2.1 x.2.2.2.2.2.1 x.2.2.2.2.2.2).trans (by rfl)
theorem f353_run (K : Nat) (a0 : (List Int) × Int × Int) : runP (f353E K) Tryz.f353 5 (.int .u8) sV [] [sA] (a0, ()) = f353G K a0 := by
  have key : ∀ (lr : LR (tV × Int × Int × Int × Int)), runPG (f353E K) Tryz.f353 5 (.int .u8) sV [] [sA] (a0, ()) lr = f353_g K a0 (fun c0 d0 d1 d2 d3 d4 d5 d6 => lr (selC f353C [1, 1, 1, 0, 1, 0, 0]) (f353_fr8 a0 c0 d0 d1 d2 d3 d4 d5 d6) (f353_k8 K a0 lr)) := by intro lr; kernel_rfl
  have h8 : (fun c0 d0 d1 d2 d3 d4 d5 d6 => (realL (f353E K) 1) (selC f353C [1, 1, 1, 0, 1, 0, 0]) (f353_fr8 a0 c0 d0 d1 d2 d3 d4 d5 d6) (f353_k8 K a0 (realL (f353E K) 1))) = fun c0 d0 d1 d2 d3 d4 d5 d6 => f353_l8 K a0 c0 K d0 d1 d2 d3 d4 d5 d6 := by
    funext c0 d0 d1 d2 d3 d4 d5 d6
    exact f353_t8 K a0 c0 d0 d1 d2 d3 d4 d5 d6 K d0 d1 d2 d3 d4 d5 d6
  exact runP_G (n0 := 1) (by rfl) ((key (realL (f353E K) 1)).trans (by rw [h8] <;> rfl))
theorem f291_run (K : Nat) (a0 : (List Int) × Int × Int) : runP (f291E K) Tryz.f291 5 (.int .u8) sV [] [sV] (a0, ()) = f291G K a0 := by kernel_rfl
theorem f308_run (K : Nat) (a0 : (List Int) × Int × Int) : runP (f308E K) Tryz.f308 5 (.int .u8) sV [] [sM] (a0, ()) = f308G K a0 := by kernel_rfl
theorem f222_run (K : Nat) (a0 : List Int) : runF (f222E K) Tryz.f222 [(.ro, (.list 5 (.int .u8)))] [sI, sL, sM] (a0, ()) = f222G K a0 := by kernel_rfl
theorem f101_run (K : Nat) (a0 : List Int) : runF (f101E K) Tryz.f101 [(.ro, (.list 5 (.int .u8)))] [sI, sL, sM] (a0, ()) = f101G K a0 := by kernel_rfl
theorem f287_run (K : Nat) (a0 : Int) : runF (f287E K) Tryz.f287 [(.ro, sI)] [.bool] (a0, ()) = f287G K a0 := by kernel_rfl
theorem f189_run (K : Nat) (a0 : Int × Int) : runF (f189E K) Tryz.f189 [(.ro, sV)] [.bool] (a0, ()) = f189G K a0 := by kernel_rfl
theorem f224_run (K : Nat) (a0 : Int) (a1 : Int × Int × Int) (a2 : tA × Int × Int) : runF (f224E K) Tryz.f224 [(.ro, sI), (.ro, sL), (.ro, sM)] [.bool] (a0, a1, a2, ()) = f224G K a0 a1 a2 := by kernel_rfl
theorem f102_run (K : Nat) (a0 : Int) (a1 : Int × Int × Int) (a2 : tA × Int × Int) : runF (f102E K) Tryz.f102 [(.ro, sI), (.ro, sL), (.ro, sM)] [sI, sI] (a0, a1, a2, ()) = f102G K a0 a1 a2 := by kernel_rfl
theorem f103_run (K : Nat) (a0 : Int) (a1 : Int × Int × Int) (a2 : tA × Int × Int) : runF (f103E K) Tryz.f103 [(.ro, sI), (.ro, sL), (.ro, sM)] [sI, sI] (a0, a1, a2, ()) = f103G K a0 a1 a2 := by kernel_rfl
theorem f104_run (K : Nat) (a0 : List Int) : runF (f104E K) Tryz.f104 [(.ro, (.list 5 (.int .u8)))] [sI, sL] (a0, ()) = f104G K a0 := by kernel_rfl
theorem f228_t12 (K : Nat) (a0 : Int) (a1 : Int × Int × Int) (y1 : List tA) (q9 : Int) (y11 : List tV) (F8 : Fr → Option (List tM)) (bq9 : Int) (bq10 : List tM) (bq13 : Int) (bq14 : List tM) : ∀ (n : Nat) (q13 : Int) (q14 : List tM), loopN (exec (f228E K) 0 (selC f228C [1, 1, 0, 1, 0, 0, 1, 1, 0, 0, 1, 1, 0, 0])) 0 (f228_fr12 a0 a1 q9 y1 y11 bq13 bq14) n (f228_fr12 a0 a1 q9 y1 y11 q13 q14) (f228_k12 K a0 a1 y1 F8 bq9 bq10 (realL (f228E K) 0)) = f228_l12 K a0 a1 q9 y1 y11 (fun v0 v1 => F8 (f228_fr8 a0 a1 y1 v0 v1)) n q13 q14 := by
  have key : ∀ (lr : LR (List tM)) (L : Fr → Option (List tM)) (q13 : Int) (q14 : List tM), execG (f228E K) 0 lr (selC f228C [1, 1, 0, 1, 0, 0, 1, 1, 0, 0, 1, 1, 0, 0]) (f228_fr12 a0 a1 q9 y1 y11 q13 q14) (loopK 0 (f228_fr12 a0 a1 q9 y1 y11 bq13 bq14) L (f228_k12 K a0 a1 y1 F8 bq9 bq10 lr)) = f228_b12 K a0 a1 q9 y1 y11 (fun v0 v1 => F8 (f228_fr8 a0 a1 y1 v0 v1)) (fun v0 v1 => L (f228_fr12 a0 a1 q9 y1 y11 v0 v1)) q13 q14 := by
    intro lr L q13 q14; kernel_rfl
  intro n q13 q14
  refine loopN_iter (X := Int × List tM) (frame := fun x => (f228_fr12 a0 a1 q9 y1 y11 x.1 x.2)) (body := (fun L x => (fun L12 => f228_b12 K a0 a1 q9 y1 y11 (fun v0 v1 => F8 (f228_fr8 a0 a1 y1 v0 v1)) L12 x.1 x.2) (fun v0 v1 => L (v0, v1)))) (fun L x => ?_) n (q13, q14)
  rw [exec_G]
  exact (key (realL (f228E K) 0) L x.1 x.2).trans (by rfl)
theorem f228_t8 (K : Nat) (a0 : Int) (a1 : Int × Int × Int) (y1 : List tA) (bq9 : Int) (bq10 : List tM) : ∀ (n : Nat) (q9 : Int) (q10 : List tM), loopN (exec (f228E K) 0 (selC f228C [1, 1, 0, 1, 0, 0])) 0 (f228_fr8 a0 a1 y1 bq9 bq10) n (f228_fr8 a0 a1 y1 q9 q10) (f228_k8 K a0 a1 (realL (f228E K) 0)) = f228_l8 K a0 a1 y1 n q9 q10 := by
  have key : ∀ (lr : LR (List tM)) (L : Fr → Option (List tM)) (q9 : Int) (q10 : List tM), execG (f228E K) 0 lr (selC f228C [1, 1, 0, 1, 0, 0]) (f228_fr8 a0 a1 y1 q9 q10) (loopK 0 (f228_fr8 a0 a1 y1 bq9 bq10) L (f228_k8 K a0 a1 lr)) = f228_b8 K a0 a1 y1 (fun c0 c1 d0 d1 => lr (selC f228C [1, 1, 0, 1, 0, 0, 1, 1, 0, 0, 1, 1, 0, 0]) (f228_fr12 a0 a1 c0 y1 c1 d0 d1) (f228_k12 K a0 a1 y1 L bq9 bq10 lr)) (fun v0 v1 => L (f228_fr8 a0 a1 y1 v0 v1)) q9 q10 := by
    intro lr L q9 q10; kernel_rfl
  intro n q9 q10
  refine loopN_iter (X := Int × List tM) (frame := fun x => (f228_fr8 a0 a1 y1 x.1 x.2)) (body := (fun L x => (fun L8 => f228_b8 K a0 a1 y1 (fun c0 c1 d0 d1 => f228_l12 K a0 a1 c0 y1 c1 L8 K d0 d1) L8 x.1 x.2) (fun v0 v1 => L (v0, v1)))) (fun L x => ?_) n (q9, q10)
  rw [exec_G]
  have h12 : (fun c0 c1 d0 d1 => (realL (f228E K) 0) (selC f228C [1, 1, 0, 1, 0, 0, 1, 1, 0, 0, 1, 1, 0, 0]) (f228_fr12 a0 a1 c0 y1 c1 d0 d1) (f228_k12 K a0 a1 y1 L bq9 bq10 (realL (f228E K) 0))) = fun c0 c1 d0 d1 => f228_l12 K a0 a1 c0 y1 c1 (fun v0 v1 => L (f228_fr8 a0 a1 y1 v0 v1)) K d0 d1 := by
    funext c0 c1 d0 d1
    exact f228_t12 K a0 a1 y1 c0 c1 L bq9 bq10 d0 d1 K d0 d1
  exact (key (realL (f228E K) 0) L x.1 x.2).trans (by rw [h12] <;> rfl)
theorem f228_run (K : Nat) (a0 : Int) (a1 : Int × Int × Int) : runF (f228E K) Tryz.f228 [(.ro, sI), (.ro, sL)] [(.list 95 sM)] (a0, a1, ()) = f228G K a0 a1 := by
  have key : ∀ (lr : LR (List tM)), runG (f228E K) Tryz.f228 [(.ro, sI), (.ro, sL)] [(.list 95 sM)] (a0, a1, ()) lr = f228_g K a0 a1 (fun c0 d0 d1 => lr (selC f228C [1, 1, 0, 1, 0, 0]) (f228_fr8 a0 a1 c0 d0 d1) (f228_k8 K a0 a1 lr)) := by intro lr; kernel_rfl
  have h8 : (fun c0 d0 d1 => (realL (f228E K) 0) (selC f228C [1, 1, 0, 1, 0, 0]) (f228_fr8 a0 a1 c0 d0 d1) (f228_k8 K a0 a1 (realL (f228E K) 0))) = fun c0 d0 d1 => f228_l8 K a0 a1 c0 K d0 d1 := by
    funext c0 d0 d1
    exact f228_t8 K a0 a1 c0 d0 d1 K d0 d1
  exact runF_G (n0 := 0) (by rfl) ((key (realL (f228E K) 0)).trans (by rw [h8] <;> rfl))
theorem f105_run (K : Nat) (a0 : Int) (a1 : Int × Int × Int) : runF (f105E K) Tryz.f105 [(.ro, sI), (.ro, sL)] [(.list 95 sM), sI] (a0, a1, ()) = f105G K a0 a1 := by kernel_rfl
theorem f106_run (K : Nat) (a0 : Int) (a1 : Int × Int × Int) : runF (f106E K) Tryz.f106 [(.ro, sI), (.ro, sL)] [(.list 95 sM), sI] (a0, a1, ()) = f106G K a0 a1 := by kernel_rfl
theorem f107_t5 (K : Nat) (a0 : Int) (a1 : Int × Int × Int) (y1 : Int) (y2 : List tV) (bq6 : Int) (bq7 : List tM) : ∀ (n : Nat) (q6 : Int) (q7 : List tM), loopN (exec (f107E K) 0 (selC f107C [1, 1, 1, 0, 1, 0, 0])) 0 (f107_fr5 a0 a1 y1 y2 bq6 bq7) n (f107_fr5 a0 a1 y1 y2 q6 q7) (f107_k5 K a0 a1 (realL (f107E K) 0)) = f107_l5 K a0 a1 y1 y2 n q6 q7 := by
  have key : ∀ (lr : LR ((List tM) × Int)) (L : Fr → Option ((List tM) × Int)) (q6 : Int) (q7 : List tM), execG (f107E K) 0 lr (selC f107C [1, 1, 1, 0, 1, 0, 0]) (f107_fr5 a0 a1 y1 y2 q6 q7) (loopK 0 (f107_fr5 a0 a1 y1 y2 bq6 bq7) L (f107_k5 K a0 a1 lr)) = f107_b5 K a0 a1 y1 y2 (fun v0 v1 => L (f107_fr5 a0 a1 y1 y2 v0 v1)) q6 q7 := by
    intro lr L q6 q7; kernel_rfl
  intro n q6 q7
  refine loopN_iter (X := Int × List tM) (frame := fun x => (f107_fr5 a0 a1 y1 y2 x.1 x.2)) (body := (fun L x => (fun L5 => f107_b5 K a0 a1 y1 y2 L5 x.1 x.2) (fun v0 v1 => L (v0, v1)))) (fun L x => ?_) n (q6, q7)
  rw [exec_G]
  exact (key (realL (f107E K) 0) L x.1 x.2).trans (by rfl)
theorem f107_run (K : Nat) (a0 : Int) (a1 : Int × Int × Int) : runF (f107E K) Tryz.f107 [(.ro, sI), (.ro, sL)] [(.list 95 sM), sI] (a0, a1, ()) = f107G K a0 a1 := by
  have key : ∀ (lr : LR ((List tM) × Int)), runG (f107E K) Tryz.f107 [(.ro, sI), (.ro, sL)] [(.list 95 sM), sI] (a0, a1, ()) lr = f107_g K a0 a1 (fun c0 c1 d0 d1 => lr (selC f107C [1, 1, 1, 0, 1, 0, 0]) (f107_fr5 a0 a1 c0 c1 d0 d1) (f107_k5 K a0 a1 lr)) := by intro lr; kernel_rfl
  have h5 : (fun c0 c1 d0 d1 => (realL (f107E K) 0) (selC f107C [1, 1, 1, 0, 1, 0, 0]) (f107_fr5 a0 a1 c0 c1 d0 d1) (f107_k5 K a0 a1 (realL (f107E K) 0))) = fun c0 c1 d0 d1 => f107_l5 K a0 a1 c0 c1 K d0 d1 := by
    funext c0 c1 d0 d1
    exact f107_t5 K a0 a1 c0 c1 d0 d1 K d0 d1
  exact runF_G (n0 := 0) (by rfl) ((key (realL (f107E K) 0)).trans (by rw [h5] <;> rfl))
theorem f109_t2 (K : Nat) (a0 a1 : List tM) (bq3 : Int) : ∀ (n : Nat) (q3 : Int), loopN (exec (f109E K) 2 (selC f109C [1, 1, 0, 1, 0, 0])) 2 (f109_fr2 a0 a1 bq3) n (f109_fr2 a0 a1 q3) (f109_k2 K a0 a1 (realL (f109E K) 2)) = f109_l2 K a0 a1 n q3 := by
  have key : ∀ (lr : LR Bool) (L : Fr → Option Bool) (q3 : Int), execG (f109E K) 2 lr (selC f109C [1, 1, 0, 1, 0, 0]) (f109_fr2 a0 a1 q3) (loopK 2 (f109_fr2 a0 a1 bq3) L (f109_k2 K a0 a1 lr)) = f109_b2 K a0 a1 (fun v0 => L (f109_fr2 a0 a1 v0)) q3 := by
    intro lr L q3; kernel_rfl
  intro n q3
  refine loopN_iter (X := Int) (frame := fun x => (f109_fr2 a0 a1 x)) (body := (fun L x => (fun L2 => f109_b2 K a0 a1 L2 x) (fun v0 => L v0))) (fun L x => ?_) n q3
  rw [exec_G]
  exact (key (realL (f109E K) 2) L x).trans (by rfl)
theorem f109_run (K : Nat) (a0 a1 : List tM) : runF (f109E K) Tryz.f109 [(.ro, (.list 95 sM)), (.ro, (.list 95 sM))] [.bool] (a0, a1, ()) = f109G K a0 a1 := by
  have key : ∀ (lr : LR Bool), runG (f109E K) Tryz.f109 [(.ro, (.list 95 sM)), (.ro, (.list 95 sM))] [.bool] (a0, a1, ()) lr = f109_g K a0 a1 (fun d0 => lr (selC f109C [1, 1, 0, 1, 0, 0]) (f109_fr2 a0 a1 d0) (f109_k2 K a0 a1 lr)) := by intro lr; kernel_rfl
  have h2 : (fun d0 => (realL (f109E K) 2) (selC f109C [1, 1, 0, 1, 0, 0]) (f109_fr2 a0 a1 d0) (f109_k2 K a0 a1 (realL (f109E K) 2))) = fun d0 => f109_l2 K a0 a1 K d0 := by
    funext d0
    exact f109_t2 K a0 a1 d0 K d0
  exact runF_G (n0 := 2) (by rfl) ((key (realL (f109E K) 2)).trans (by rw [h2] <;> rfl))
theorem f235_run (K : Nat) (a0 : tA × Int × Int) (a1 : Int) (a2 : Int × Int × Int) : runF (f235E K) Tryz.f235 [(.ro, sM), (.cap, sI), (.cap, sL)] [.bool] (a0, a1, a2, ()) = f235G K a0 a1 a2 := by kernel_rfl
theorem f319_t3 (K : Nat) (a0 : List tM) (a1 : (tM → Option Bool)) (bq4 : Int) : ∀ (n : Nat) (q4 : Int), loopN (exec (f319E K) 1 (selC f319C [1, 0, 1, 0, 0])) 1 (f319_fr3 a0 a1 bq4) n (f319_fr3 a0 a1 q4) (f319_k3 K a0 a1 (realL (f319E K) 1)) = f319_l3 K a0 a1 n q4 := by
  have key : ∀ (lr : LR Int) (L : Fr → Option Int) (q4 : Int), execG (f319E K) 1 lr (selC f319C [1, 0, 1, 0, 0]) (f319_fr3 a0 a1 q4) (loopK 1 (f319_fr3 a0 a1 bq4) L (f319_k3 K a0 a1 lr)) = f319_b3 K a0 a1 (fun v0 => L (f319_fr3 a0 a1 v0)) q4 := by
    intro lr L q4; kernel_rfl
  intro n q4
  refine loopN_iter (X := Int) (frame := fun x => (f319_fr3 a0 a1 x)) (body := (fun L x => (fun L3 => f319_b3 K a0 a1 L3 x) (fun v0 => L v0))) (fun L x => ?_) n q4
  rw [exec_G]
  exact (key (realL (f319E K) 1) L x).trans (by rfl)
theorem f319_run (K : Nat) (a0 : List tM) (a1 : (tM → Option Bool)) : runF (f319E K) Tryz.f319 [(.ro, (.list 95 sM)), (.ro, (.fn1 sM .bool))] [sI] (a0, a1, ()) = f319G K a0 a1 := by
  have key : ∀ (lr : LR Int), runG (f319E K) Tryz.f319 [(.ro, (.list 95 sM)), (.ro, (.fn1 sM .bool))] [sI] (a0, a1, ()) lr = f319_g K a0 a1 (fun d0 => lr (selC f319C [1, 0, 1, 0, 0]) (f319_fr3 a0 a1 d0) (f319_k3 K a0 a1 lr)) := by intro lr; kernel_rfl
  have h3 : (fun d0 => (realL (f319E K) 1) (selC f319C [1, 0, 1, 0, 0]) (f319_fr3 a0 a1 d0) (f319_k3 K a0 a1 (realL (f319E K) 1))) = fun d0 => f319_l3 K a0 a1 K d0 := by
    funext d0
    exact f319_t3 K a0 a1 d0 K d0
  exact runF_G (n0 := 1) (by rfl) ((key (realL (f319E K) 1)).trans (by rw [h3] <;> rfl))
end Go.Proofs.YtfccacobkcglcaaGreat.X
