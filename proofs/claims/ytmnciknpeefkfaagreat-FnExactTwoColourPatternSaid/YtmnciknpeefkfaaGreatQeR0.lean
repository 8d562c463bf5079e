/- Functions of the program as plain Lean functions, and that the program does what they say. Printed by gen.py. -/
import Derived.Test.YtmnciknpeefkfaaGreatQeD0
namespace Go.Proofs.YtmnciknpeefkfaaGreat.X
open Go
set_option maxRecDepth 100000
set_option linter.unusedVariables false
theorem f13_run (K : Nat) (a0 : List tM) (a1 : Int) : runF (f13E K) Tryz.f13 [(.ro, (.list 95 sM)), (.ro, sI)] [sI] (a0, a1, ()) = f13G K a0 a1 := by kernel_rfl
theorem f15_run (K : Nat) (a0 : Int × Int × Int) : runF (f15E K) Tryz.f15 [(.ro, sL)] [sL] (a0, ()) = f15G K a0 := by kernel_rfl
theorem f130_run (K : Nat) (a0 : Int × Int × Int × Int) : runF (f130E K) Tryz.f130 [(.ro, sA)] [sA] (a0, ()) = f130G K a0 := by kernel_rfl
theorem f29_run (K : Nat) (a0 : Int × Int) : runF (f29E K) Tryz.f29 [(.ro, sV)] [sV] (a0, ()) = f29G K a0 := by kernel_rfl
theorem f61_run (K : Nat) (a0 : tA × Int × Int) : runF (f61E K) Tryz.f61 [(.ro, sM)] [sM] (a0, ()) = f61G K a0 := by kernel_rfl
theorem f16_t3 (K : Nat) (a0 : List tM) (bq4 : Int) (bq5 : List tM) : ∀ (n : Nat) (q4 : Int) (q5 : List tM), loopN (exec (f16E K) 1 (selC f16C [1, 1, 0, 1, 0, 0])) 1 (f16_fr3 a0 bq4 bq5) n (f16_fr3 a0 q4 q5) (f16_k3 K a0 (realL (f16E K) 1)) = f16_l3 K a0 n q4 q5 := by
  have key : ∀ (lr : LR (List tM)) (L : Fr → Option (List tM)) (q4 : Int) (q5 : List tM), execG (f16E K) 1 lr (selC f16C [1, 1, 0, 1, 0, 0]) (f16_fr3 a0 q4 q5) (loopK 1 (f16_fr3 a0 bq4 bq5) L (f16_k3 K a0 lr)) = f16_b3 K a0 (fun v0 v1 => L (f16_fr3 a0 v0 v1)) q4 q5 := by
    intro lr L q4 q5; kernel_rfl
  intro n q4 q5
  refine loopN_iter (X := Int × List tM) (frame := fun x => (f16_fr3 a0 x.1 x.2)) (body := (fun L x => (fun L3 => f16_b3 K a0 L3 x.1 x.2) (fun v0 v1 => L (v0, v1)))) (fun L x => ?_) n (q4, q5)
  rw [exec_G]
  exact (key (realL (f16E K) 1) L x.1 x.2).trans (by rfl)
theorem f16_run (K : Nat) (a0 : List tM) : runF (f16E K) Tryz.f16 [(.ro, (.list 95 sM))] [(.list 91 sM)] (a0, ()) = f16G K a0 := by
  have key : ∀ (lr : LR (List tM)), runG (f16E K) Tryz.f16 [(.ro, (.list 95 sM))] [(.list 91 sM)] (a0, ()) lr = f16_g K a0 (fun d0 d1 => lr (selC f16C [1, 1, 0, 1, 0, 0]) (f16_fr3 a0 d0 d1) (f16_k3 K a0 lr)) := by intro lr; kernel_rfl
  have h3 : (fun d0 d1 => (realL (f16E K) 1) (selC f16C [1, 1, 0, 1, 0, 0]) (f16_fr3 a0 d0 d1) (f16_k3 K a0 (realL (f16E K) 1))) = fun d0 d1 => f16_l3 K a0 K d0 d1 := by
    funext d0 d1
    exact f16_t3 K a0 d0 d1 K d0 d1
  exact runF_G (n0 := 1) (by rfl) ((key (realL (f16E K) 1)).trans (by rw [h3] <;> rfl))
theorem f190_run (K : Nat) (a0 : Int) : runF (f190E K) Tryz.f190 [(.ro, sI)] [.bool] (a0, ()) = f190G K a0 := by kernel_rfl
theorem f59_run (K : Nat) (a0 : Int) (a1 : Int) (a2 : Int) : runF (f59E K) Tryz.f59 [(.ro, sI), (.ro, sI), (.ro, sI)] [.bool] (a0, a1, a2, ()) = f59G K a0 a1 a2 := by kernel_rfl
theorem f191_run (K : Nat) (a0 : Int × Int × Int) : runF (f191E K) Tryz.f191 [(.ro, sL)] [.bool] (a0, ()) = f191G K a0 := by kernel_rfl
theorem f133_run (K : Nat) (a0 : Int) (a1 : Int × Int × Int) : runF (f133E K) Tryz.f133 [(.ro, sI), (.ro, sL)] [sI] (a0, a1, ()) = f133G K a0 a1 := by kernel_rfl
theorem f216_run (K : Nat) (a0 : Int × Int) : runF (f216E K) Tryz.f216 [(.ro, sV)] [.bool] (a0, ()) = f216G K a0 := by kernel_rfl
theorem f281_run (K : Nat) (a0 : Int × Int × Int × Int) : runF (f281E K) Tryz.f281 [(.ro, sA)] [.bool] (a0, ()) = f281G K a0 := by kernel_rfl
theorem f282_run (K : Nat) (a0 : Int × Int × Int × Int) : runF (f282E K) Tryz.f282 [(.ro, sA)] [sI] (a0, ()) = f282G K a0 := by kernel_rfl
theorem f272_run (K : Nat) (a0 : Int × Int × Int × Int) : runF (f272E K) Tryz.f272 [(.ro, sA)] [.bool] (a0, ()) = f272G K a0 := by kernel_rfl
theorem f275_run (K : Nat) (a0 : Int) (a1 : Int × Int) : runF (f275E K) Tryz.f275 [(.ro, sI), (.ro, sV)] [sI] (a0, a1, ()) = f275G K a0 a1 := by kernel_rfl
theorem f170_run (K : Nat) (a0 : Int × Int) (a1 : Int × Int) : runF (f170E K) Tryz.f170 [(.ro, sV), (.ro, sV)] [sV] (a0, a1, ()) = f170G K a0 a1 := by kernel_rfl
theorem f244_run (K : Nat) (a0 : Int) (a1 : Int × Int × Int × Int) : runF (f244E K) Tryz.f244 [(.ro, sI), (.ro, sA)] [.bool] (a0, a1, ()) = f244G K a0 a1 := by kernel_rfl
theorem f238_run (K : Nat) (a0 : Int) (a1 : Int × Int × Int × Int) : runF (f238E K) Tryz.f238 [(.ro, sI), (.ro, sA)] [.bool] (a0, a1, ()) = f238G K a0 a1 := by kernel_rfl
theorem f192_run (K : Nat) (a0 : Int × Int × Int) : runF (f192E K) Tryz.f192 [(.ro, sL)] [(.list 53 sV)] (a0, ()) = f192G K a0 := by kernel_rfl
theorem f241_run (K : Nat) (a0 : Int × Int × Int × Int) (a1 : Int × Int) : runF (f241E K) Tryz.f241 [(.ro, sA), (.ro, sV)] [sV] (a0, a1, ()) = f241G K a0 a1 := by kernel_rfl
theorem f242_run (K : Nat) (rec : Int → Int → Option Int) (a0 : Int) (a1 : Int) : runF (f242E K rec) Tryz.f242 [(.ro, sI), (.ro, sI)] [sI] (a0, a1, ()) = f242_s K rec a0 a1 := by kernel_rfl
theorem f180_run (K : Nat) (a0 : Int) (a1 : Int) : runF (f180E K) Tryz.f180 [(.ro, sI), (.ro, sI)] [sI] (a0, a1, ()) = f180G K a0 a1 := by kernel_rfl
theorem f243_run (K : Nat) (a0 : Int × Int) (a1 : Int) : runF (f243E K) Tryz.f243 [(.ro, sV), (.ro, sI)] [sV] (a0, a1, ()) = f243G K a0 a1 := by kernel_rfl
theorem f194_t15 (K : Nat) (a0 : List tV) (q11 : Int) (q12 : Int) (F10 : Fr → Option tL) (bq11 : Int) (bq12 : Int) (bq13 : Int) (bq14 : Int) (bq16 : Int) (bq17 : Int) (bq18 : Int) (bq19 : Int) : ∀ (n : Nat) (q16 : Int) (q17 : Int) (q18 : Int) (q19 : Int), loopN (exec (f194E K) 1 (selC f194C [1, 1, 0, 1, 0, 0, 1, 0, 0, 1, 0, 0, 0])) 1 (f194_fr15 a0 q11 q12 bq16 bq17 bq18 bq19) n (f194_fr15 a0 q11 q12 q16 q17 q18 q19) (f194_k15 K a0 F10 bq11 bq12 bq13 bq14 (realL (f194E K) 1)) = f194_l15 K a0 q11 q12 (fun v0 v1 v2 v3 => F10 (f194_fr10 a0 v0 v1 v2 v3)) n q16 q17 q18 q19 := by
  have key : ∀ (lr : LR tL) (L : Fr → Option tL) (q16 : Int) (q17 : Int) (q18 : Int) (q19 : Int), execG (f194E K) 1 lr (selC f194C [1, 1, 0, 1, 0, 0, 1, 0, 0, 1, 0, 0, 0]) (f194_fr15 a0 q11 q12 q16 q17 q18 q19) (loopK 1 (f194_fr15 a0 q11 q12 bq16 bq17 bq18 bq19) L (f194_k15 K a0 F10 bq11 bq12 bq13 bq14 lr)) = f194_b15 K a0 q11 q12 (fun v0 v1 v2 v3 => F10 (f194_fr10 a0 v0 v1 v2 v3)) (fun v0 v1 v2 v3 => L (f194_fr15 a0 q11 q12 v0 v1 v2 v3)) q16 q17 q18 q19 := by
    intro lr L q16 q17 q18 q19; kernel_rfl
  intro n q16 q17 q18 q19
  refine loopN_iter (X := Int × Int × Int × Int) (frame := fun x => (f194_fr15 a0 q11 q12 x.1 x.2.1 x.2.2.1 x.2.2.2)) (body := (fun L x => (fun L15 => f194_b15 K a0 q11 q12 (fun v0 v1 v2 v3 => F10 (f194_fr10 a0 v0 v1 v2 v3)) L15 x.1 x.2.1 x.2.2.1 x.2.2.2) (fun v0 v1 v2 v3 => L (v0, v1, v2, v3)))) (fun L x => ?_) n (q16, q17, q18, q19)
  rw [exec_G]
  exact (key (realL (f194E K) 1) L x.1 x.2.1 x.2.2.1 x.2.2.2).trans (by rfl)
theorem f194_t10 (K : Nat) (a0 : List tV) (bq11 : Int) (bq12 : Int) (bq13 : Int) (bq14 : Int) : ∀ (n : Nat) (q11 : Int) (q12 : Int) (q13 : Int) (q14 : Int), loopN (exec (f194E K) 1 (selC f194C [1, 1, 0, 1, 0, 0])) 1 (f194_fr10 a0 bq11 bq12 bq13 bq14) n (f194_fr10 a0 q11 q12 q13 q14) (f194_k10 K a0 (realL (f194E K) 1)) = f194_l10 K a0 n q11 q12 q13 q14 := by
  have key : ∀ (lr : LR tL) (L : Fr → Option tL) (q11 : Int) (q12 : Int) (q13 : Int) (q14 : Int), execG (f194E K) 1 lr (selC f194C [1, 1, 0, 1, 0, 0]) (f194_fr10 a0 q11 q12 q13 q14) (loopK 1 (f194_fr10 a0 bq11 bq12 bq13 bq14) L (f194_k10 K a0 lr)) = f194_b10 K a0 (fun c0 c1 d0 d1 d2 d3 => lr (selC f194C [1, 1, 0, 1, 0, 0, 1, 0, 0, 1, 0, 0, 0]) (f194_fr15 a0 c0 c1 d0 d1 d2 d3) (f194_k15 K a0 L bq11 bq12 bq13 bq14 lr)) (fun v0 v1 v2 v3 => L (f194_fr10 a0 v0 v1 v2 v3)) q11 q12 q13 q14 := by
    intro lr L q11 q12 q13 q14; kernel_rfl
  intro n q11 q12 q13 q14
  refine loopN_iter (X := Int × Int × Int × Int) (frame := fun x => (f194_fr10 a0 x.1 x.2.1 x.2.2.1 x.2.2.2)) (body := (fun L x => (fun L10 => f194_b10 K a0 (fun c0 c1 d0 d1 d2 d3 => f194_l15 K a0 c0 c1 L10 K d0 d1 d2 d3) L10 x.1 x.2.1 x.2.2.1 x.2.2.2) (fun v0 v1 v2 v3 => L (v0, v1, v2, v3)))) (fun L x => ?_) n (q11, q12, q13, q14)
  rw [exec_G]
  have h15 : (fun c0 c1 d0 d1 d2 d3 => (realL (f194E K) 1) (selC f194C [1, 1, 0, 1, 0, 0, 1, 0, 0, 1, 0, 0, 0]) (f194_fr15 a0 c0 c1 d0 d1 d2 d3) (f194_k15 K a0 L bq11 bq12 bq13 bq14 (realL (f194E K) 1))) = fun c0 c1 d0 d1 d2 d3 => f194_l15 K a0 c0 c1 (fun v0 v1 v2 v3 => L (f194_fr10 a0 v0 v1 v2 v3)) K d0 d1 d2 d3 := by
    funext c0 c1 d0 d1 d2 d3
    exact f194_t15 K a0 c0 c1 L bq11 bq12 bq13 bq14 d0 d1 d2 d3 K d0 d1 d2 d3
  exact (key (realL (f194E K) 1) L x.1 x.2.1 x.2.2.1 x.2.2.2).trans (by rw [h15] <;> rfl)
theorem f194_run (K : Nat) (a0 : List tV) : runF (f194E K) Tryz.f194 [(.ro, (.list 53 sV))] [sL] (a0, ()) = f194G K a0 := by
  have key : ∀ (lr : LR tL), runG (f194E K) Tryz.f194 [(.ro, (.list 53 sV))] [sL] (a0, ()) lr = f194_g K a0 (fun d0 d1 d2 d3 => lr (selC f194C [1, 1, 0, 1, 0, 0]) (f194_fr10 a0 d0 d1 d2 d3) (f194_k10 K a0 lr)) := by intro lr; kernel_rfl
  have h10 : (fun d0 d1 d2 d3 => (realL (f194E K) 1) (selC f194C [1, 1, 0, 1, 0, 0]) (f194_fr10 a0 d0 d1 d2 d3) (f194_k10 K a0 (realL (f194E K) 1))) = fun d0 d1 d2 d3 => f194_l10 K a0 K d0 d1 d2 d3 := by
    funext d0 d1 d2 d3
    exact f194_t10 K a0 d0 d1 d2 d3 K d0 d1 d2 d3
  exact runF_G (n0 := 1) (by rfl) ((key (realL (f194E K) 1)).trans (by rw [h10] <;> rfl))
theorem f196_run (K : Nat) (a0 : Int × Int × Int × Int) (a1 : Int × Int × Int) : runF (f196E K) Tryz.f196 [(.ro, sA), (.ro, sL)] [sL] (a0, a1, ()) = f196G K a0 a1 := by kernel_rfl
theorem f184_run (K : Nat) (a0 : Int) (a1 : Int × Int × Int) (a2 : tA × Int × Int) : runF (f184E K) Tryz.f184 [(.ro, sI), (.ro, sL), (.ro, sM)] [.bool] (a0, a1, a2, ()) = f184G K a0 a1 a2 := by kernel_rfl
theorem f114_run (K : Nat) (a0 : Int × Int × Int) (a1 : Int × Int) : runF (f114E K) Tryz.f114 [(.ro, sL), (.ro, sV)] [sV] (a0, a1, ()) = f114G K a0 a1 := by kernel_rfl
theorem f185_run (K : Nat) (a0 : Int × Int × Int) (a1 : tA × Int × Int) : runF (f185E K) Tryz.f185 [(.ro, sL), (.ro, sM)] [sM] (a0, a1, ()) = f185G K a0 a1 := by kernel_rfl
theorem f274_run (K : Nat) (a0 : Int × Int × Int × Int) : runF (f274E K) Tryz.f274 [(.ro, sA)] [(.list 2 sI)] (a0, ()) = f274G K a0 := by kernel_rfl
theorem f273_t2 (K : Nat) (a0 : List Int) (a1 : List Int) (bq3 : Int) : ∀ (n : Nat) (q3 : Int), loopN (exec (f273E K) 2 (selC f273C [1, 0, 1, 0, 0])) 2 (f273_fr2 a0 a1 bq3) n (f273_fr2 a0 a1 q3) (f273_k2 K a0 a1 (realL (f273E K) 2)) = f273_l2 K a0 a1 n q3 := by
  have key : ∀ (lr : LR Bool) (L : Fr → Option Bool) (q3 : Int), execG (f273E K) 2 lr (selC f273C [1, 0, 1, 0, 0]) (f273_fr2 a0 a1 q3) (loopK 2 (f273_fr2 a0 a1 bq3) L (f273_k2 K a0 a1 lr)) = f273_b2 K a0 a1 (fun v0 => L (f273_fr2 a0 a1 v0)) q3 := by
    intro lr L q3; kernel_rfl
  intro n q3
  refine loopN_iter (X := Int) (frame := fun x => (f273_fr2 a0 a1 x)) (body := (fun L x => (fun L2 => f273_b2 K a0 a1 L2 x) (fun v0 => L v0))) (fun L x => ?_) n q3
  rw [exec_G]
  exact (key (realL (f273E K) 2) L x).trans (by rfl)
theorem f273_run (K : Nat) (a0 : List Int) (a1 : List Int) : runF (f273E K) Tryz.f273 [(.ro, (.list 2 sI)), (.ro, (.list 2 sI))] [.bool] (a0, a1, ()) = f273G K a0 a1 := by
  have key : ∀ (lr : LR Bool), runG (f273E K) Tryz.f273 [(.ro, (.list 2 sI)), (.ro, (.list 2 sI))] [.bool] (a0, a1, ()) lr = f273_g K a0 a1 (fun d0 => lr (selC f273C [1, 0, 1, 0, 0]) (f273_fr2 a0 a1 d0) (f273_k2 K a0 a1 lr)) := by intro lr; kernel_rfl
  have h2 : (fun d0 => (realL (f273E K) 2) (selC f273C [1, 0, 1, 0, 0]) (f273_fr2 a0 a1 d0) (f273_k2 K a0 a1 (realL (f273E K) 2))) = fun d0 => f273_l2 K a0 a1 K d0 := by
    funext d0
    exact f273_t2 K a0 a1 d0 K d0
  exact runF_G (n0 := 2) (by rfl) ((key (realL (f273E K) 2)).trans (by rw [h2] <;> rfl))
theorem f239_run (K : Nat) (a0 : Int × Int × Int × Int) (a1 : Int × Int × Int × Int) : runF (f239E K) Tryz.f239 [(.ro, sA), (.ro, sA)] [.bool] (a0, a1, ()) = f239G K a0 a1 := by kernel_rfl
theorem f171_run (K : Nat) (a0 : Int × Int) (a1 : Int × Int) : runF (f171E K) Tryz.f171 [(.ro, sV), (.ro, sV)] [.bool] (a0, a1, ()) = f171G K a0 a1 := by kernel_rfl
theorem f186_run (K : Nat) (a0 : tA × Int × Int) (a1 : tA × Int × Int) : runF (f186E K) Tryz.f186 [(.ro, sM), (.ro, sM)] [.bool] (a0, a1, ()) = f186G K a0 a1 := by kernel_rfl
theorem f193_run (K : Nat) : runF (f193E K) Tryz.f193 [] [sA] (()) = f193G K := by kernel_rfl
theorem f188_run (K : Nat) : runF (f188E K) Tryz.f188 [] [sM] (()) = f188G K := by kernel_rfl
theorem f222_t6 (K : Nat) (a0 : List tM) (a1 : tA × Int × Int) (bq7 : Int) (bq8 : Int) : ∀ (n : Nat) (q7 : Int) (q8 : Int), loopN (exec (f222E K) 1 (selC f222C [1, 1, 0, 0, 0])) 1 (f222_fr6 a0 a1 bq7 bq8) n (f222_fr6 a0 a1 q7 q8) (f222_k6 K a0 a1 (realL (f222E K) 1)) = f222_l6 K a0 a1 n q7 q8 := by
  have key : ∀ (lr : LR Int) (L : Fr → Option Int) (q7 : Int) (q8 : Int), execG (f222E K) 1 lr (selC f222C [1, 1, 0, 0, 0]) (f222_fr6 a0 a1 q7 q8) (loopK 1 (f222_fr6 a0 a1 bq7 bq8) L (f222_k6 K a0 a1 lr)) = f222_b6 K a0 a1 (fun v0 v1 => L (f222_fr6 a0 a1 v0 v1)) q7 q8 := by
    intro lr L q7 q8; kernel_rfl
  intro n q7 q8
  refine loopN_iter (X := Int × Int) (frame := fun x => (f222_fr6 a0 a1 x.1 x.2)) (body := (fun L x => (fun L6 => f222_b6 K a0 a1 L6 x.1 x.2) (fun v0 v1 => L (v0, v1)))) (fun L x => ?_) n (q7, q8)
  rw [exec_G]
  exact (key (realL (f222E K) 1) L x.1 x.2).trans (by rfl)
theorem f222_run (K : Nat) (a0 : List tM) (a1 : tA × Int × Int) : runF (f222E K) Tryz.f222 [(.ro, (.list 91 sM)), (.ro, sM)] [sI] (a0, a1, ()) = f222G K a0 a1 := by
  have key : ∀ (lr : LR Int), runG (f222E K) Tryz.f222 [(.ro, (.list 91 sM)), (.ro, sM)] [sI] (a0, a1, ()) lr = f222_g K a0 a1 (fun d0 d1 => lr (selC f222C [1, 1, 0, 0, 0]) (f222_fr6 a0 a1 d0 d1) (f222_k6 K a0 a1 lr)) := by intro lr; kernel_rfl
  have h6 : (fun d0 d1 => (realL (f222E K) 1) (selC f222C [1, 1, 0, 0, 0]) (f222_fr6 a0 a1 d0 d1) (f222_k6 K a0 a1 (realL (f222E K) 1))) = fun d0 d1 => f222_l6 K a0 a1 K d0 d1 := by
    funext d0 d1
    exact f222_t6 K a0 a1 d0 d1 K d0 d1
  exact runF_G (n0 := 1) (by rfl) ((key (realL (f222E K) 1)).trans (by rw [h6] <;> rfl))
theorem f187_run (K : Nat) (a0 : List tM) (a1 : tA × Int × Int) : runF (f187E K) Tryz.f187 [(.ro, (.list 91 sM)), (.ro, sM)] [.bool] (a0, a1, ()) = f187G K a0 a1 := by kernel_rfl
theorem f240_run (K : Nat) (a0 : Int × Int × Int × Int) (a1 : Int × Int × Int × Int) : runF (f240E K) Tryz.f240 [(.ro, sA), (.ro, sA)] [sA] (a0, a1, ()) = f240G K a0 a1 := by kernel_rfl
theorem f189_run (K : Nat) (a0 : tA × Int × Int) (a1 : tA × Int × Int) : runF (f189E K) Tryz.f189 [(.ro, sM), (.ro, sM)] [sM] (a0, a1, ()) = f189G K a0 a1 := by kernel_rfl
theorem f128_t25 (K : Nat) (a0 : Int) (a1 : Int × Int × Int) (a2 : List tM) (q7 : Int) (y1 : Int) (y12 : Bool) (q24 : Int) (F23 : Fr → Option Bool) (bq24 : Int) (bq26 : Int) : ∀ (n : Nat) (q26 : Int), loopN (exec (f128E K) 1 (selC f128C [1, 1, 1, 1, 0, 1, 0, 0, 1, 0, 0, 1, 0, 0])) 1 (f128_fr25 a0 a1 a2 q7 q24 y1 y12 bq26) n (f128_fr25 a0 a1 a2 q7 q24 y1 y12 q26) (f128_k25 K a0 a1 a2 q7 y1 y12 F23 bq24 (realL (f128E K) 1)) = f128_l25 K a0 a1 a2 q7 q24 y1 y12 (fun v0 => F23 (f128_fr23 a0 a1 a2 q7 y1 y12 v0)) n q26 := by
  have key : ∀ (lr : LR Bool) (L : Fr → Option Bool) (q26 : Int), execG (f128E K) 1 lr (selC f128C [1, 1, 1, 1, 0, 1, 0, 0, 1, 0, 0, 1, 0, 0]) (f128_fr25 a0 a1 a2 q7 q24 y1 y12 q26) (loopK 1 (f128_fr25 a0 a1 a2 q7 q24 y1 y12 bq26) L (f128_k25 K a0 a1 a2 q7 y1 y12 F23 bq24 lr)) = f128_b25 K a0 a1 a2 q7 q24 y1 y12 (fun v0 => F23 (f128_fr23 a0 a1 a2 q7 y1 y12 v0)) (fun v0 => L (f128_fr25 a0 a1 a2 q7 q24 y1 y12 v0)) q26 := by
    intro lr L q26; kernel_rfl
  intro n q26
  refine loopN_iter (X := Int) (frame := fun x => (f128_fr25 a0 a1 a2 q7 q24 y1 y12 x)) (body := (fun L x => (fun L25 => f128_b25 K a0 a1 a2 q7 q24 y1 y12 (fun v0 => F23 (f128_fr23 a0 a1 a2 q7 y1 y12 v0)) L25 x) (fun v0 => L v0))) (fun L x => ?_) n q26
  rw [exec_G]
  exact (key (realL (f128E K) 1) L x).trans (by rfl)
theorem f128_t23 (K : Nat) (a0 : Int) (a1 : Int × Int × Int) (a2 : List tM) (q7 : Int) (y1 : Int) (y12 : Bool) (bq24 : Int) : ∀ (n : Nat) (q24 : Int), loopN (exec (f128E K) 1 (selC f128C [1, 1, 1, 1, 0, 1, 0, 0])) 1 (f128_fr23 a0 a1 a2 q7 y1 y12 bq24) n (f128_fr23 a0 a1 a2 q7 y1 y12 q24) (f128_k23 K a0 a1 a2 (realL (f128E K) 1)) = f128_l23 K a0 a1 a2 q7 y1 y12 n q24 := by
  have key : ∀ (lr : LR Bool) (L : Fr → Option Bool) (q24 : Int), execG (f128E K) 1 lr (selC f128C [1, 1, 1, 1, 0, 1, 0, 0]) (f128_fr23 a0 a1 a2 q7 y1 y12 q24) (loopK 1 (f128_fr23 a0 a1 a2 q7 y1 y12 bq24) L (f128_k23 K a0 a1 a2 lr)) = f128_b23 K a0 a1 a2 q7 y1 y12 (fun c0 d0 => lr (selC f128C [1, 1, 1, 1, 0, 1, 0, 0, 1, 0, 0, 1, 0, 0]) (f128_fr25 a0 a1 a2 q7 c0 y1 y12 d0) (f128_k25 K a0 a1 a2 q7 y1 y12 L bq24 lr)) (fun v0 => L (f128_fr23 a0 a1 a2 q7 y1 y12 v0)) q24 := by
    intro lr L q24; kernel_rfl
  intro n q24
  refine loopN_iter (X := Int) (frame := fun x => (f128_fr23 a0 a1 a2 q7 y1 y12 x)) (body := (fun L x => (fun L23 => f128_b23 K a0 a1 a2 q7 y1 y12 (fun c0 d0 => f128_l25 K a0 a1 a2 q7 c0 y1 y12 L23 K d0) L23 x) (fun v0 => L v0))) (fun L x => ?_) n q24
  rw [exec_G]
  have h25 : (fun c0 d0 => (realL (f128E K) 1) (selC f128C [1, 1, 1, 1, 0, 1, 0, 0, 1, 0, 0, 1, 0, 0]) (f128_fr25 a0 a1 a2 q7 c0 y1 y12 d0) (f128_k25 K a0 a1 a2 q7 y1 y12 L bq24 (realL (f128E K) 1))) = fun c0 d0 => f128_l25 K a0 a1 a2 q7 c0 y1 y12 (fun v0 => L (f128_fr23 a0 a1 a2 q7 y1 y12 v0)) K d0 := by
    funext c0 d0
    exact f128_t25 K a0 a1 a2 q7 y1 y12 c0 L bq24 d0 K d0
  exact (key (realL (f128E K) 1) L x).trans (by rw [h25] <;> rfl)
theorem f128_t6 (K : Nat) (a0 : Int) (a1 : Int × Int × Int) (a2 : List tM) (y1 : Int) (bq7 : Int) : ∀ (n : Nat) (q7 : Int), loopN (exec (f128E K) 1 (selC f128C [1, 1, 0, 1, 0, 0])) 1 (f128_fr6 a0 a1 a2 y1 bq7) n (f128_fr6 a0 a1 a2 y1 q7) (f128_k6 K a0 a1 a2 (realL (f128E K) 1)) = f128_l6 K a0 a1 a2 y1 n q7 := by
  have key : ∀ (lr : LR Bool) (L : Fr → Option Bool) (q7 : Int), execG (f128E K) 1 lr (selC f128C [1, 1, 0, 1, 0, 0]) (f128_fr6 a0 a1 a2 y1 q7) (loopK 1 (f128_fr6 a0 a1 a2 y1 bq7) L (f128_k6 K a0 a1 a2 lr)) = f128_b6 K a0 a1 a2 y1 (fun c0 c1 c2 d0 => lr (selC f128C [1, 1, 1, 1, 0, 1, 0, 0]) (f128_fr23 a0 a1 a2 c0 c1 c2 d0) (f128_k23 K a0 a1 a2 lr)) (fun v0 => L (f128_fr6 a0 a1 a2 y1 v0)) q7 := by
    intro lr L q7; kernel_rfl
  intro n q7
  refine loopN_iter (X := Int) (frame := fun x => (f128_fr6 a0 a1 a2 y1 x)) (body := (fun L x => (fun L6 => f128_b6 K a0 a1 a2 y1 (fun c0 c1 c2 d0 => f128_l23 K a0 a1 a2 c0 c1 c2 K d0) L6 x) (fun v0 => L v0))) (fun L x => ?_) n q7
  rw [exec_G]
  have h23 : (fun c0 c1 c2 d0 => (realL (f128E K) 1) (selC f128C [1, 1, 1, 1, 0, 1, 0, 0]) (f128_fr23 a0 a1 a2 c0 c1 c2 d0) (f128_k23 K a0 a1 a2 (realL (f128E K) 1))) = fun c0 c1 c2 d0 => f128_l23 K a0 a1 a2 c0 c1 c2 K d0 := by
    funext c0 c1 c2 d0
    exact f128_t23 K a0 a1 a2 c0 c1 c2 d0 K d0
  exact (key (realL (f128E K) 1) L x).trans (by rw [h23] <;> rfl)
theorem f128_run (K : Nat) (a0 : Int) (a1 : Int × Int × Int) (a2 : List tM) : runF (f128E K) Tryz.f128 [(.ro, sI), (.ro, sL), (.ro, (.list 91 sM))] [.bool] (a0, a1, a2, ()) = f128G K a0 a1 a2 := by
  have key : ∀ (lr : LR Bool), runG (f128E K) Tryz.f128 [(.ro, sI), (.ro, sL), (.ro, (.list 91 sM))] [.bool] (a0, a1, a2, ()) lr = f128_g K a0 a1 a2 (fun c0 d0 => lr (selC f128C [1, 1, 0, 1, 0, 0]) (f128_fr6 a0 a1 a2 c0 d0) (f128_k6 K a0 a1 a2 lr)) := by intro lr; kernel_rfl
  have h6 : (fun c0 d0 => (realL (f128E K) 1) (selC f128C [1, 1, 0, 1, 0, 0]) (f128_fr6 a0 a1 a2 c0 d0) (f128_k6 K a0 a1 a2 (realL (f128E K) 1))) = fun c0 d0 => f128_l6 K a0 a1 a2 c0 K d0 := by
    funext c0 d0
    exact f128_t6 K a0 a1 a2 c0 d0 K d0
  exact runF_G (n0 := 1) (by rfl) ((key (realL (f128E K) 1)).trans (by rw [h6] <;> rfl))
theorem f208_t3 (K : Nat) (a0 : List tM) (a1 : List tM) (bq4 : Int) : ∀ (n : Nat) (q4 : Int), loopN (exec (f208E K) 2 (selC f208C [1, 0, 1, 0, 0])) 2 (f208_fr3 a0 a1 bq4) n (f208_fr3 a0 a1 q4) (f208_k3 K a0 a1 (realL (f208E K) 2)) = f208_l3 K a0 a1 n q4 := by
  have key : ∀ (lr : LR Bool) (L : Fr → Option Bool) (q4 : Int), execG (f208E K) 2 lr (selC f208C [1, 0, 1, 0, 0]) (f208_fr3 a0 a1 q4) (loopK 2 (f208_fr3 a0 a1 bq4) L (f208_k3 K a0 a1 lr)) = f208_b3 K a0 a1 (fun v0 => L (f208_fr3 a0 a1 v0)) q4 := by
    intro lr L q4; kernel_rfl
  intro n q4
  refine loopN_iter (X := Int) (frame := fun x => (f208_fr3 a0 a1 x)) (body := (fun L x => (fun L3 => f208_b3 K a0 a1 L3 x) (fun v0 => L v0))) (fun L x => ?_) n q4
  rw [exec_G]
  exact (key (realL (f208E K) 2) L x).trans (by rfl)
theorem f208_run (K : Nat) (a0 : List tM) (a1 : List tM) : runF (f208E K) Tryz.f208 [(.ro, (.list 91 sM)), (.ro, (.list 91 sM))] [.bool] (a0, a1, ()) = f208G K a0 a1 := by
  have key : ∀ (lr : LR Bool), runG (f208E K) Tryz.f208 [(.ro, (.list 91 sM)), (.ro, (.list 91 sM))] [.bool] (a0, a1, ()) lr = f208_g K a0 a1 (fun d0 => lr (selC f208C [1, 0, 1, 0, 0]) (f208_fr3 a0 a1 d0) (f208_k3 K a0 a1 lr)) := by intro lr; kernel_rfl
  have h3 : (fun d0 => (realL (f208E K) 2) (selC f208C [1, 0, 1, 0, 0]) (f208_fr3 a0 a1 d0) (f208_k3 K a0 a1 (realL (f208E K) 2))) = fun d0 => f208_l3 K a0 a1 K d0 := by
    funext d0
    exact f208_t3 K a0 a1 d0 K d0
  exact runF_G (n0 := 2) (by rfl) ((key (realL (f208E K) 2)).trans (by rw [h3] <;> rfl))
theorem f146_run (K : Nat) (a0 : Int) (a1 : Int × Int × Int) (a2 : List tM) (a3 : List tM) : runF (f146E K) Tryz.f146 [(.ro, sI), (.ro, sL), (.ro, (.list 91 sM)), (.ro, (.list 91 sM))] [.bool] (a0, a1, a2, a3, ()) = f146G K a0 a1 a2 a3 := by kernel_rfl
theorem f94_run (K : Nat) (a0 : Int × Int × Int) (a1 : Int × Int) : runF (f94E K) Tryz.f94 [(.ro, sL), (.ro, sV)] [.bool] (a0, a1, ()) = f94G K a0 a1 := by kernel_rfl
theorem f127_run (K : Nat) (a0 : Int) (a1 : Int × Int × Int) (a2 : Bool) : runF (f127E K) Tryz.f127 [(.ro, sI), (.ro, sL), (.ro, .bool)] [sI] (a0, a1, a2, ()) = f127G K a0 a1 a2 := by kernel_rfl
theorem f75_run (K : Nat) (a0 : Int) (a1 : Int × Int × Int) (a2 : List tM) (a3 : List tM) (a4 : Int × Int) : runF (f75E K) Tryz.f75 [(.ro, sI), (.ro, sL), (.ro, (.list 91 sM)), (.ro, (.list 91 sM)), (.ro, sV)] [sI] (a0, a1, a2, a3, a4, ()) = f75G K a0 a1 a2 a3 a4 := by kernel_rfl
theorem f197_run (K : Nat) (a0 : tA × Int × Int) (a1 : Int × Int) : runF (f197E K) Tryz.f197 [(.ro, sM), (.ro, sV)] [sV] (a0, a1, ()) = f197G K a0 a1 := by kernel_rfl
theorem f147_run (K : Nat) (a0 : Int × Int × Int) (a1 : tA × Int × Int) (a2 : Int × Int) : runF (f147E K) Tryz.f147 [(.ro, sL), (.ro, sM), (.ro, sV)] [sV] (a0, a1, a2, ()) = f147G K a0 a1 a2 := by kernel_rfl
theorem f100_t3 (K : Nat) (a0 : List tV) (a1 : Int × Int) (bq4 : Int) : ∀ (n : Nat) (q4 : Int), loopN (exec (f100E K) 1 (selC f100C [1, 1, 0, 0, 0])) 1 (f100_fr3 a0 a1 bq4) n (f100_fr3 a0 a1 q4) (f100_k3 K a0 a1 (realL (f100E K) 1)) = f100_l3 K a0 a1 n q4 := by
  have key : ∀ (lr : LR (List tV)) (L : Fr → Option (List tV)) (q4 : Int), execG (f100E K) 1 lr (selC f100C [1, 1, 0, 0, 0]) (f100_fr3 a0 a1 q4) (loopK 1 (f100_fr3 a0 a1 bq4) L (f100_k3 K a0 a1 lr)) = f100_b3 K a0 a1 (fun v0 => L (f100_fr3 a0 a1 v0)) q4 := by
    intro lr L q4; kernel_rfl
  intro n q4
  refine loopN_iter (X := Int) (frame := fun x => (f100_fr3 a0 a1 x)) (body := (fun L x => (fun L3 => f100_b3 K a0 a1 L3 x) (fun v0 => L v0))) (fun L x => ?_) n q4
  rw [exec_G]
  exact (key (realL (f100E K) 1) L x).trans (by rfl)
theorem f100_run (K : Nat) (a0 : List tV) (a1 : Int × Int) : runF (f100E K) Tryz.f100 [(.mv, (.list 53 sV)), (.ro, sV)] [(.list 53 sV)] (a0, a1, ()) = f100G K a0 a1 := by
  have key : ∀ (lr : LR (List tV)), runG (f100E K) Tryz.f100 [(.mv, (.list 53 sV)), (.ro, sV)] [(.list 53 sV)] (a0, a1, ()) lr = f100_g K a0 a1 (fun d0 => lr (selC f100C [1, 1, 0, 0, 0]) (f100_fr3 a0 a1 d0) (f100_k3 K a0 a1 lr)) := by intro lr; kernel_rfl
  have h3 : (fun d0 => (realL (f100E K) 1) (selC f100C [1, 1, 0, 0, 0]) (f100_fr3 a0 a1 d0) (f100_k3 K a0 a1 (realL (f100E K) 1))) = fun d0 => f100_l3 K a0 a1 K d0 := by
    funext d0
    exact f100_t3 K a0 a1 d0 K d0
  exact runF_G (n0 := 1) (by rfl) ((key (realL (f100E K) 1)).trans (by rw [h3] <;> rfl))
theorem f77_t4 (K : Nat) (a0 : Int × Int × Int) (a1 : List tM) (a2 : Int × Int) (bq5 : Int) (bq6 : List tV) : ∀ (n : Nat) (q5 : Int) (q6 : List tV), loopN (exec (f77E K) 1 (selC f77C [1, 1, 0, 1, 0, 0])) 1 (f77_fr4 a0 a1 a2 bq5 bq6) n (f77_fr4 a0 a1 a2 q5 q6) (f77_k4 K a0 a1 a2 (realL (f77E K) 1)) = f77_l4 K a0 a1 a2 n q5 q6 := by
  have key : ∀ (lr : LR (List tV)) (L : Fr → Option (List tV)) (q5 : Int) (q6 : List tV), execG (f77E K) 1 lr (selC f77C [1, 1, 0, 1, 0, 0]) (f77_fr4 a0 a1 a2 q5 q6) (loopK 1 (f77_fr4 a0 a1 a2 bq5 bq6) L (f77_k4 K a0 a1 a2 lr)) = f77_b4 K a0 a1 a2 (fun v0 v1 => L (f77_fr4 a0 a1 a2 v0 v1)) q5 q6 := by
    intro lr L q5 q6; kernel_rfl
  intro n q5 q6
  refine loopN_iter (X := Int × List tV) (frame := fun x => (f77_fr4 a0 a1 a2 x.1 x.2)) (body := (fun L x => (fun L4 => f77_b4 K a0 a1 a2 L4 x.1 x.2) (fun v0 v1 => L (v0, v1)))) (fun L x => ?_) n (q5, q6)
  rw [exec_G]
  exact (key (realL (f77E K) 1) L x.1 x.2).trans (by rfl)
theorem f77_run (K : Nat) (a0 : Int × Int × Int) (a1 : List tM) (a2 : Int × Int) : runF (f77E K) Tryz.f77 [(.ro, sL), (.ro, (.list 91 sM)), (.ro, sV)] [(.list 53 sV)] (a0, a1, a2, ()) = f77G K a0 a1 a2 := by
  have key : ∀ (lr : LR (List tV)), runG (f77E K) Tryz.f77 [(.ro, sL), (.ro, (.list 91 sM)), (.ro, sV)] [(.list 53 sV)] (a0, a1, a2, ()) lr = f77_g K a0 a1 a2 (fun d0 d1 => lr (selC f77C [1, 1, 0, 1, 0, 0]) (f77_fr4 a0 a1 a2 d0 d1) (f77_k4 K a0 a1 a2 lr)) := by intro lr; kernel_rfl
  have h4 : (fun d0 d1 => (realL (f77E K) 1) (selC f77C [1, 1, 0, 1, 0, 0]) (f77_fr4 a0 a1 a2 d0 d1) (f77_k4 K a0 a1 a2 (realL (f77E K) 1))) = fun d0 d1 => f77_l4 K a0 a1 a2 K d0 d1 := by
    funext d0 d1
    exact f77_t4 K a0 a1 a2 d0 d1 K d0 d1
  exact runF_G (n0 := 1) (by rfl) ((key (realL (f77E K) 1)).trans (by rw [h4] <;> rfl))
theorem f76_run (K : Nat) (a0 : Int × Int × Int) (a1 : List tM) (a2 : List tM) (a3 : Int × Int) : runF (f76E K) Tryz.f76 [(.ro, sL), (.ro, (.list 91 sM)), (.ro, (.list 91 sM)), (.ro, sV)] [.bool] (a0, a1, a2, a3, ()) = f76G K a0 a1 a2 a3 := by kernel_rfl
theorem f78_run (K : Nat) (a0 : Int × Int × Int) (a1 : Int × Int) : runF (f78E K) Tryz.f78 [(.ro, sL), (.ro, sV)] [sI] (a0, a1, ()) = f78G K a0 a1 := by kernel_rfl
theorem f28_t13 (K : Nat) (a0 : Int) (a1 : Int × Int × Int) (a2 : List tM) (a3 : List tM) (a4 : Int × Int) (q8 : Int) (y1 : Int) (y2 : Bool) (y3 : List tV) (y4 : List tV) (bq14 : Int) (bq15 : List Int) : ∀ (n : Nat) (q14 : Int) (q15 : List Int), loopN (exec (f28E K) 2 (selC f28C [1, 1, 1, 1, 1, 1, 0, 1, 0, 0])) 2 (f28_fr13 a0 a1 a2 a3 a4 q8 y1 y2 y3 y4 bq14 bq15) n (f28_fr13 a0 a1 a2 a3 a4 q8 y1 y2 y3 y4 q14 q15) (f28_k13 K a0 a1 a2 a3 a4 (realL (f28E K) 2)) = f28_l13 K a0 a1 a2 a3 a4 q8 y1 y2 y3 y4 n q14 q15 := by
  have key : ∀ (lr : LR ((Int × tL × List Int) × Int)) (L : Fr → Option ((Int × tL × List Int) × Int)) (q14 : Int) (q15 : List Int), execG (f28E K) 2 lr (selC f28C [1, 1, 1, 1, 1, 1, 0, 1, 0, 0]) (f28_fr13 a0 a1 a2 a3 a4 q8 y1 y2 y3 y4 q14 q15) (loopK 2 (f28_fr13 a0 a1 a2 a3 a4 q8 y1 y2 y3 y4 bq14 bq15) L (f28_k13 K a0 a1 a2 a3 a4 lr)) = f28_b13 K a0 a1 a2 a3 a4 q8 y1 y2 y3 y4 (fun v0 v1 => L (f28_fr13 a0 a1 a2 a3 a4 q8 y1 y2 y3 y4 v0 v1)) q14 q15 := by
    intro lr L q14 q15; kernel_rfl
  intro n q14 q15
  refine loopN_iter (X := Int × List Int) (frame := fun x => (f28_fr13 a0 a1 a2 a3 a4 q8 y1 y2 y3 y4 x.1 x.2)) (body := (fun L x => (fun L13 => f28_b13 K a0 a1 a2 a3 a4 q8 y1 y2 y3 y4 L13 x.1 x.2) (fun v0 v1 => L (v0, v1)))) (fun L x => ?_) n (q14, q15)
  rw [exec_G]
  exact (key (realL (f28E K) 2) L x.1 x.2).trans (by rfl)
theorem f28_t7 (K : Nat) (a0 : Int) (a1 : Int × Int × Int) (a2 : List tM) (a3 : List tM) (a4 : Int × Int) (y1 : Int) (y2 : Bool) (y3 : List tV) (y4 : List tV) (bq8 : Int) (bq9 : List Int) : ∀ (n : Nat) (q8 : Int) (q9 : List Int), loopN (exec (f28E K) 2 (selC f28C [1, 1, 1, 1, 1, 0, 1, 0, 0])) 2 (f28_fr7 a0 a1 a2 a3 a4 y1 y2 y3 y4 bq8 bq9) n (f28_fr7 a0 a1 a2 a3 a4 y1 y2 y3 y4 q8 q9) (f28_k7 K a0 a1 a2 a3 a4 (realL (f28E K) 2)) = f28_l7 K a0 a1 a2 a3 a4 y1 y2 y3 y4 n q8 q9 := by
  have key : ∀ (lr : LR ((Int × tL × List Int) × Int)) (L : Fr → Option ((Int × tL × List Int) × Int)) (q8 : Int) (q9 : List Int), execG (f28E K) 2 lr (selC f28C [1, 1, 1, 1, 1, 0, 1, 0, 0]) (f28_fr7 a0 a1 a2 a3 a4 y1 y2 y3 y4 q8 q9) (loopK 2 (f28_fr7 a0 a1 a2 a3 a4 y1 y2 y3 y4 bq8 bq9) L (f28_k7 K a0 a1 a2 a3 a4 lr)) = f28_b7 K a0 a1 a2 a3 a4 y1 y2 y3 y4 (fun c0 c1 c2 c3 c4 d0 d1 => lr (selC f28C [1, 1, 1, 1, 1, 1, 0, 1, 0, 0]) (f28_fr13 a0 a1 a2 a3 a4 c0 c1 c2 c3 c4 d0 d1) (f28_k13 K a0 a1 a2 a3 a4 lr)) (fun v0 v1 => L (f28_fr7 a0 a1 a2 a3 a4 y1 y2 y3 y4 v0 v1)) q8 q9 := by
    intro lr L q8 q9; kernel_rfl
  intro n q8 q9
  refine loopN_iter (X := Int × List Int) (frame := fun x => (f28_fr7 a0 a1 a2 a3 a4 y1 y2 y3 y4 x.1 x.2)) (body := (fun L x => (fun L7 => f28_b7 K a0 a1 a2 a3 a4 y1 y2 y3 y4 (fun c0 c1 c2 c3 c4 d0 d1 => f28_l13 K a0 a1 a2 a3 a4 c0 c1 c2 c3 c4 K d0 d1) L7 x.1 x.2) (fun v0 v1 => L (v0, v1)))) (fun L x => ?_) n (q8, q9)
  rw [exec_G]
  have h13 : (fun c0 c1 c2 c3 c4 d0 d1 => (realL (f28E K) 2) (selC f28C [1, 1, 1, 1, 1, 1, 0, 1, 0, 0]) (f28_fr13 a0 a1 a2 a3 a4 c0 c1 c2 c3 c4 d0 d1) (f28_k13 K a0 a1 a2 a3 a4 (realL (f28E K) 2))) = fun c0 c1 c2 c3 c4 d0 d1 => f28_l13 K a0 a1 a2 a3 a4 c0 c1 c2 c3 c4 K d0 d1 := by
    funext c0 c1 c2 c3 c4 d0 d1
    exact f28_t13 K a0 a1 a2 a3 a4 c0 c1 c2 c3 c4 d0 d1 K d0 d1
  exact (key (realL (f28E K) 2) L x.1 x.2).trans (by rw [h13] <;> rfl)
theorem f28_run (K : Nat) (a0 : Int) (a1 : Int × Int × Int) (a2 : List tM) (a3 : List tM) (a4 : Int × Int) : runF (f28E K) Tryz.f28 [(.ro, sI), (.ro, sL), (.ro, (.list 91 sM)), (.ro, (.list 91 sM)), (.ro, sV)] [(.cons sI (.cons sL (.list 2 sI))), sI] (a0, a1, a2, a3, a4, ()) = f28G K a0 a1 a2 a3 a4 := by
  have key : ∀ (lr : LR ((Int × tL × List Int) × Int)), runG (f28E K) Tryz.f28 [(.ro, sI), (.ro, sL), (.ro, (.list 91 sM)), (.ro, (.list 91 sM)), (.ro, sV)] [(.cons sI (.cons sL (.list 2 sI))), sI] (a0, a1, a2, a3, a4, ()) lr = f28_g K a0 a1 a2 a3 a4 (fun c0 c1 c2 c3 d0 d1 => lr (selC f28C [1, 1, 1, 1, 1, 0, 1, 0, 0]) (f28_fr7 a0 a1 a2 a3 a4 c0 c1 c2 c3 d0 d1) (f28_k7 K a0 a1 a2 a3 a4 lr)) := by intro lr; kernel_rfl
  have h7 : (fun c0 c1 c2 c3 d0 d1 => (realL (f28E K) 2) (selC f28C [1, 1, 1, 1, 1, 0, 1, 0, 0]) (f28_fr7 a0 a1 a2 a3 a4 c0 c1 c2 c3 d0 d1) (f28_k7 K a0 a1 a2 a3 a4 (realL (f28E K) 2))) = fun c0 c1 c2 c3 d0 d1 => f28_l7 K a0 a1 a2 a3 a4 c0 c1 c2 c3 K d0 d1 := by
    funext c0 c1 c2 c3 d0 d1
    exact f28_t7 K a0 a1 a2 a3 a4 c0 c1 c2 c3 d0 d1 K d0 d1
  exact runF_G (n0 := 2) (by rfl) ((key (realL (f28E K) 2)).trans (by rw [h7] <;> rfl))
theorem f63_run (K : Nat) (a0 : Int) (a1 : Int) (a2 : Int) : runF (f63E K) Tryz.f63 [(.ro, sI), (.ro, sI), (.ro, sI)] [.bool] (a0, a1, a2, ()) = f63G K a0 a1 a2 := by kernel_rfl
theorem f138_run (K : Nat) (a0 : Int) : runF (f138E K) Tryz.f138 [(.ro, sI)] [.bool] (a0, ()) = f138G K a0 := by kernel_rfl
theorem f140_run (K : Nat) (a0 : Int × Int × Int) : runF (f140E K) Tryz.f140 [(.ro, sL)] [sI] (a0, ()) = f140G K a0 := by kernel_rfl
theorem f139_run (K : Nat) (a0 : Int × Int × Int) : runF (f139E K) Tryz.f139 [(.ro, sL)] [.bool] (a0, ()) = f139G K a0 := by kernel_rfl
theorem f155_run (K : Nat) (a0 : Int) (a1 : Int × Int × Int) : runF (f155E K) Tryz.f155 [(.ro, sI), (.ro, sL)] [sI] (a0, a1, ()) = f155G K a0 a1 := by kernel_rfl
theorem f198_run (K : Nat) (a0 : Int × Int × Int) : runF (f198E K) Tryz.f198 [(.ro, sL)] [sV, sV] (a0, ()) = f198G K a0 := by kernel_rfl
theorem f206_run (K : Nat) (a0 : Int × Int × Int × Int) (a1 : Int × Int) : runF (f206E K) Tryz.f206 [(.ro, sA), (.ro, sV)] [sV] (a0, a1, ()) = f206G K a0 a1 := by kernel_rfl
theorem f250_run (K : Nat) (a0 : Int) (a1 : Int × Int) : runF (f250E K) Tryz.f250 [(.ro, sI), (.ro, sV)] [sI] (a0, a1, ()) = f250G K a0 a1 := by kernel_rfl
theorem f203_t8 (K : Nat) (a0 : Int) (bq9 : Int) (bq10 : List tA) : ∀ (n : Nat) (q9 : Int) (q10 : List tA), loopN (exec (f203E K) 0 (selC f203C [1, 1, 0, 1, 0, 0])) 0 (f203_fr8 a0 bq9 bq10) n (f203_fr8 a0 q9 q10) (f203_k8 K a0 (realL (f203E K) 0)) = f203_l8 K a0 n q9 q10 := by
  have key : ∀ (lr : LR (List tA)) (L : Fr → Option (List tA)) (q9 : Int) (q10 : List tA), execG (f203E K) 0 lr (selC f203C [1, 1, 0, 1, 0, 0]) (f203_fr8 a0 q9 q10) (loopK 0 (f203_fr8 a0 bq9 bq10) L (f203_k8 K a0 lr)) = f203_b8 K a0 (fun v0 v1 => L (f203_fr8 a0 v0 v1)) q9 q10 := by
    intro lr L q9 q10; kernel_rfl
  intro n q9 q10
  refine loopN_iter (X := Int × List tA) (frame := fun x => (f203_fr8 a0 x.1 x.2)) (body := (fun L x => (fun L8 => f203_b8 K a0 L8 x.1 x.2) (fun v0 v1 => L (v0, v1)))) (fun L x => ?_) n (q9, q10)
  rw [exec_G]
  exact (key (realL (f203E K) 0) L x.1 x.2).trans (by rfl)
theorem f203_run (K : Nat) (a0 : Int) : runF (f203E K) Tryz.f203 [(.ro, sI)] [(.list 89 sA)] (a0, ()) = f203G K a0 := by
  have key : ∀ (lr : LR (List tA)), runG (f203E K) Tryz.f203 [(.ro, sI)] [(.list 89 sA)] (a0, ()) lr = f203_g K a0 (fun d0 d1 => lr (selC f203C [1, 1, 0, 1, 0, 0]) (f203_fr8 a0 d0 d1) (f203_k8 K a0 lr)) := by intro lr; kernel_rfl
  have h8 : (fun d0 d1 => (realL (f203E K) 0) (selC f203C [1, 1, 0, 1, 0, 0]) (f203_fr8 a0 d0 d1) (f203_k8 K a0 (realL (f203E K) 0))) = fun d0 d1 => f203_l8 K a0 K d0 d1 := by
    funext d0 d1
    exact f203_t8 K a0 d0 d1 K d0 d1
  exact runF_G (n0 := 0) (by rfl) ((key (realL (f203E K) 0)).trans (by rw [h8] <;> rfl))
theorem f183_run (K : Nat) (a0 : Int) (a1 : Int) : runF (f183E K) Tryz.f183 [(.ro, sI), (.ro, sI)] [sI] (a0, a1, ()) = f183G K a0 a1 := by kernel_rfl
theorem f119_run (K : Nat) (a0 : Int × Int × Int) (a1 : Int × Int) : runF (f119E K) Tryz.f119 [(.ro, sL), (.ro, sV)] [sV] (a0, a1, ()) = f119G K a0 a1 := by kernel_rfl
theorem f205_run (K : Nat) (a0 : Int × Int × Int) (a1 : Int × Int) : runF (f205E K) Tryz.f205 [(.ro, sL), (.ro, sV)] [.bool] (a0, a1, ()) = f205G K a0 a1 := by kernel_rfl
theorem f204_run (K : Nat) (a0 : Int × Int × Int × Int) (a1 : Int × Int × Int) (a2 : Int × Int) (a3 : Int × Int) : runF (f204E K) Tryz.f204 [(.ro, sA), (.cap, sL), (.cap, sV), (.cap, sV)] [.bool] (a0, a1, a2, a3, ()) = f204G K a0 a1 a2 a3 := by kernel_rfl
theorem f249_t3 (K : Nat) (a0 : List tA) (a1 : (tA → Option Bool)) (bq4 : Int) : ∀ (n : Nat) (q4 : Int), loopN (exec (f249E K) 1 (selC f249C [1, 0, 1, 0, 0])) 1 (f249_fr3 a0 a1 bq4) n (f249_fr3 a0 a1 q4) (f249_k3 K a0 a1 (realL (f249E K) 1)) = f249_l3 K a0 a1 n q4 := by
  have key : ∀ (lr : LR Int) (L : Fr → Option Int) (q4 : Int), execG (f249E K) 1 lr (selC f249C [1, 0, 1, 0, 0]) (f249_fr3 a0 a1 q4) (loopK 1 (f249_fr3 a0 a1 bq4) L (f249_k3 K a0 a1 lr)) = f249_b3 K a0 a1 (fun v0 => L (f249_fr3 a0 a1 v0)) q4 := by
    intro lr L q4; kernel_rfl
  intro n q4
  refine loopN_iter (X := Int) (frame := fun x => (f249_fr3 a0 a1 x)) (body := (fun L x => (fun L3 => f249_b3 K a0 a1 L3 x) (fun v0 => L v0))) (fun L x => ?_) n q4
  rw [exec_G]
  exact (key (realL (f249E K) 1) L x).trans (by rfl)
theorem f249_run (K : Nat) (a0 : List tA) (a1 : (tA → Option Bool)) : runF (f249E K) Tryz.f249 [(.ro, (.list 89 sA)), (.ro, (.fn1 sA .bool))] [sI] (a0, a1, ()) = f249G K a0 a1 := by
  have key : ∀ (lr : LR Int), runG (f249E K) Tryz.f249 [(.ro, (.list 89 sA)), (.ro, (.fn1 sA .bool))] [sI] (a0, a1, ()) lr = f249_g K a0 a1 (fun d0 => lr (selC f249C [1, 0, 1, 0, 0]) (f249_fr3 a0 a1 d0) (f249_k3 K a0 a1 lr)) := by intro lr; kernel_rfl
  have h3 : (fun d0 => (realL (f249E K) 1) (selC f249C [1, 0, 1, 0, 0]) (f249_fr3 a0 a1 d0) (f249_k3 K a0 a1 (realL (f249E K) 1))) = fun d0 => f249_l3 K a0 a1 K d0 := by
    funext d0
    exact f249_t3 K a0 a1 d0 K d0
  exact runF_G (n0 := 1) (by rfl) ((key (realL (f249E K) 1)).trans (by rw [h3] <;> rfl))
theorem f202_t4 (K : Nat) (a0 : List tA) (a1 : (tA → Option Bool)) (y1 : Int) (bq5 : Int) (bq6 : Int) (bq7 : List tA) : ∀ (n : Nat) (q5 : Int) (q6 : Int) (q7 : List tA), loopN (exec (f202E K) 1 (selC f202C [1, 1, 1, 0, 1, 0, 0])) 1 (f202_fr4 a1 y1 bq5 bq6 bq7) n (f202_fr4 a1 y1 q5 q6 q7) (f202_k4 K a0 a1 (realL (f202E K) 1)) = f202_l4 K a1 y1 n q5 q6 q7 := by
  have key : ∀ (lr : LR (List tA)) (L : Fr → Option (List tA)) (q5 : Int) (q6 : Int) (q7 : List tA), execG (f202E K) 1 lr (selC f202C [1, 1, 1, 0, 1, 0, 0]) (f202_fr4 a1 y1 q5 q6 q7) (loopK 1 (f202_fr4 a1 y1 bq5 bq6 bq7) L (f202_k4 K a0 a1 lr)) = f202_b4 K a1 y1 (fun v0 v1 v2 => L (f202_fr4 a1 y1 v0 v1 v2)) q5 q6 q7 := by
    intro lr L q5 q6 q7; kernel_rfl
  intro n q5 q6 q7
  refine loopN_iter (X := Int × Int × List tA) (frame := fun x => (f202_fr4 a1 y1 x.1 x.2.1 x.2.2)) (body := (fun L x => (fun L4 => f202_b4 K a1 y1 L4 x.1 x.2.1 x.2.2) (fun v0 v1 v2 => L (v0, v1, v2)))) (fun L x => ?_) n (q5, q6, q7)
  rw [exec_G]
  exact (key (realL (f202E K) 1) L x.1 x.2.1 x.2.2).trans (by rfl)
theorem f202_run (K : Nat) (a0 : List tA) (a1 : (tA → Option Bool)) : runF (f202E K) Tryz.f202 [(.mv, (.list 89 sA)), (.ro, (.fn1 sA .bool))] [(.list 89 sA)] (a0, a1, ()) = f202G K a0 a1 := by
  have key : ∀ (lr : LR (List tA)), runG (f202E K) Tryz.f202 [(.mv, (.list 89 sA)), (.ro, (.fn1 sA .bool))] [(.list 89 sA)] (a0, a1, ()) lr = f202_g K a0 a1 (fun c0 d0 d1 d2 => lr (selC f202C [1, 1, 1, 0, 1, 0, 0]) (f202_fr4 a1 c0 d0 d1 d2) (f202_k4 K a0 a1 lr)) := by intro lr; kernel_rfl
  have h4 : (fun c0 d0 d1 d2 => (realL (f202E K) 1) (selC f202C [1, 1, 1, 0, 1, 0, 0]) (f202_fr4 a1 c0 d0 d1 d2) (f202_k4 K a0 a1 (realL (f202E K) 1))) = fun c0 d0 d1 d2 => f202_l4 K a1 c0 K d0 d1 d2 := by
    funext c0 d0 d1 d2
    exact f202_t4 K a0 a1 c0 d0 d1 d2 K d0 d1 d2
  exact runF_G (n0 := 1) (by rfl) ((key (realL (f202E K) 1)).trans (by rw [h4] <;> rfl))
theorem f144_run (K : Nat) (a0 : Int) (a1 : Int × Int × Int) : runF (f144E K) Tryz.f144 [(.ro, sI), (.ro, sL)] [(.list 89 sA)] (a0, a1, ()) = f144G K a0 a1 := by kernel_rfl
theorem f251_t2 (K : Nat) (a0 : List tA) (a1 : Int × Int × Int × Int) (bq3 : Int) : ∀ (n : Nat) (q3 : Int), loopN (exec (f251E K) 1 (selC f251C [1, 0, 1, 0, 0])) 1 (f251_fr2 a0 a1 bq3) n (f251_fr2 a0 a1 q3) (f251_k2 K a0 a1 (realL (f251E K) 1)) = f251_l2 K a0 a1 n q3 := by
  have key : ∀ (lr : LR Int) (L : Fr → Option Int) (q3 : Int), execG (f251E K) 1 lr (selC f251C [1, 0, 1, 0, 0]) (f251_fr2 a0 a1 q3) (loopK 1 (f251_fr2 a0 a1 bq3) L (f251_k2 K a0 a1 lr)) = f251_b2 K a0 a1 (fun v0 => L (f251_fr2 a0 a1 v0)) q3 := by
    intro lr L q3; kernel_rfl
  intro n q3
  refine loopN_iter (X := Int) (frame := fun x => (f251_fr2 a0 a1 x)) (body := (fun L x => (fun L2 => f251_b2 K a0 a1 L2 x) (fun v0 => L v0))) (fun L x => ?_) n q3
  rw [exec_G]
  exact (key (realL (f251E K) 1) L x).trans (by rfl)
theorem f251_run (K : Nat) (a0 : List tA) (a1 : Int × Int × Int × Int) : runF (f251E K) Tryz.f251 [(.ro, (.list 89 sA)), (.ro, sA)] [sI] (a0, a1, ()) = f251G K a0 a1 := by
  have key : ∀ (lr : LR Int), runG (f251E K) Tryz.f251 [(.ro, (.list 89 sA)), (.ro, sA)] [sI] (a0, a1, ()) lr = f251_g K a0 a1 (fun d0 => lr (selC f251C [1, 0, 1, 0, 0]) (f251_fr2 a0 a1 d0) (f251_k2 K a0 a1 lr)) := by intro lr; kernel_rfl
  have h2 : (fun d0 => (realL (f251E K) 1) (selC f251C [1, 0, 1, 0, 0]) (f251_fr2 a0 a1 d0) (f251_k2 K a0 a1 (realL (f251E K) 1))) = fun d0 => f251_l2 K a0 a1 K d0 := by
    funext d0
    exact f251_t2 K a0 a1 d0 K d0
  exact runF_G (n0 := 1) (by rfl) ((key (realL (f251E K) 1)).trans (by rw [h2] <;> rfl))
theorem f209_run (K : Nat) (a0 : List tA) (a1 : Int × Int × Int × Int) : runF (f209E K) Tryz.f209 [(.ro, (.list 89 sA)), (.ro, sA)] [.bool] (a0, a1, ()) = f209G K a0 a1 := by kernel_rfl
theorem f179_t2 (K : Nat) (a0 : List Int) (a1 : List Int) (bq3 : Int) : ∀ (n : Nat) (q3 : Int), loopN (exec (f179E K) 2 (selC f179C [1, 0, 1, 0, 0])) 2 (f179_fr2 a0 a1 bq3) n (f179_fr2 a0 a1 q3) (f179_k2 K a0 a1 (realL (f179E K) 2)) = f179_l2 K a0 a1 n q3 := by
  have key : ∀ (lr : LR Int) (L : Fr → Option Int) (q3 : Int), execG (f179E K) 2 lr (selC f179C [1, 0, 1, 0, 0]) (f179_fr2 a0 a1 q3) (loopK 2 (f179_fr2 a0 a1 bq3) L (f179_k2 K a0 a1 lr)) = f179_b2 K a0 a1 (fun v0 => L (f179_fr2 a0 a1 v0)) q3 := by
    intro lr L q3; kernel_rfl
  intro n q3
  refine loopN_iter (X := Int) (frame := fun x => (f179_fr2 a0 a1 x)) (body := (fun L x => (fun L2 => f179_b2 K a0 a1 L2 x) (fun v0 => L v0))) (fun L x => ?_) n q3
  rw [exec_G]
  exact (key (realL (f179E K) 2) L x).trans (by rfl)
theorem f179_run (K : Nat) (a0 : List Int) (a1 : List Int) : runF (f179E K) Tryz.f179 [(.ro, (.list 2 sI)), (.ro, (.list 2 sI))] [sI] (a0, a1, ()) = f179G K a0 a1 := by
  have key : ∀ (lr : LR Int), runG (f179E K) Tryz.f179 [(.ro, (.list 2 sI)), (.ro, (.list 2 sI))] [sI] (a0, a1, ()) lr = f179_g K a0 a1 (fun d0 => lr (selC f179C [1, 0, 1, 0, 0]) (f179_fr2 a0 a1 d0) (f179_k2 K a0 a1 lr)) := by intro lr; kernel_rfl
  have h2 : (fun d0 => (realL (f179E K) 2) (selC f179C [1, 0, 1, 0, 0]) (f179_fr2 a0 a1 d0) (f179_k2 K a0 a1 (realL (f179E K) 2))) = fun d0 => f179_l2 K a0 a1 K d0 := by
    funext d0
    exact f179_t2 K a0 a1 d0 K d0
  exact runF_G (n0 := 2) (by rfl) ((key (realL (f179E K) 2)).trans (by rw [h2] <;> rfl))
theorem f252_run (K : Nat) (a0 : Int × Int × Int × Int) (a1 : Int × Int × Int × Int) : runF (f252E K) Tryz.f252 [(.ro, sA), (.ro, sA)] [sI] (a0, a1, ()) = f252G K a0 a1 := by kernel_rfl
theorem f111_run (K : Nat) (a0 : Int × Int) (a1 : Int × Int) : runF (f111E K) Tryz.f111 [(.ro, sV), (.ro, sV)] [sI] (a0, a1, ()) = f111G K a0 a1 := by kernel_rfl
theorem f210_run (K : Nat) (a0 : tA × Int × Int) (a1 : tA × Int × Int) : runF (f210E K) Tryz.f210 [(.ro, sM), (.ro, sM)] [sI] (a0, a1, ()) = f210G K a0 a1 := by kernel_rfl
theorem f199_run (K : Nat) : runF (f199E K) Tryz.f199 [] [sA] (()) = f199G K := by kernel_rfl
theorem f253_run (K : Nat) (a0 : Int × Int × Int × Int) (a1 : Int × Int × Int × Int) : runF (f253E K) Tryz.f253 [(.ro, sA), (.ro, sA)] [sA] (a0, a1, ()) = f253G K a0 a1 := by kernel_rfl
theorem f174_run (K : Nat) (a0 : Int × Int) (a1 : Int × Int) : runF (f174E K) Tryz.f174 [(.ro, sV), (.ro, sV)] [sV] (a0, a1, ()) = f174G K a0 a1 := by kernel_rfl
theorem f212_run (K : Nat) (a0 : tA × Int × Int) (a1 : tA × Int × Int) : runF (f212E K) Tryz.f212 [(.ro, sM), (.ro, sM)] [sM] (a0, a1, ()) = f212G K a0 a1 := by kernel_rfl
theorem f211_run (K : Nat) (a0 : Int × Int × Int) (a1 : tA × Int × Int) : runF (f211E K) Tryz.f211 [(.ro, sL), (.ro, sM)] [sM] (a0, a1, ()) = f211G K a0 a1 := by kernel_rfl
theorem f148_t23 (K : Nat) (a0 : Int) (a1 : Int × Int × Int) (a2 : List tM) (q7 : Int) (q8 : List (tM × Bool)) (y1 : List tA) (y12 : Int × Int × Int × Int) (q22 : Int) (F21 : Fr → Option Bool) (bq22 : Int) (bq24 : Int) : ∀ (n : Nat) (q24 : Int), loopN (exec (f148E K) 1 (selC f148C [1, 1, 1, 1, 0, 1, 0, 0, 1, 1, 0, 0, 1, 1, 0, 0])) 1 (f148_fr23 a0 a1 a2 q7 q8 q22 y1 y12 bq24) n (f148_fr23 a0 a1 a2 q7 q8 q22 y1 y12 q24) (f148_k23 K a0 a1 a2 q7 q8 y1 y12 F21 bq22 (realL (f148E K) 1)) = f148_l23 K a0 a1 a2 q7 q8 q22 y1 y12 (fun v0 => F21 (f148_fr21 a0 a1 a2 q7 q8 y1 y12 v0)) n q24 := by
  have key : ∀ (lr : LR Bool) (L : Fr → Option Bool) (q24 : Int), execG (f148E K) 1 lr (selC f148C [1, 1, 1, 1, 0, 1, 0, 0, 1, 1, 0, 0, 1, 1, 0, 0]) (f148_fr23 a0 a1 a2 q7 q8 q22 y1 y12 q24) (loopK 1 (f148_fr23 a0 a1 a2 q7 q8 q22 y1 y12 bq24) L (f148_k23 K a0 a1 a2 q7 q8 y1 y12 F21 bq22 lr)) = f148_b23 K a0 a1 a2 q7 q8 q22 y1 y12 (fun v0 => F21 (f148_fr21 a0 a1 a2 q7 q8 y1 y12 v0)) (fun v0 => L (f148_fr23 a0 a1 a2 q7 q8 q22 y1 y12 v0)) q24 := by
    intro lr L q24; kernel_rfl
  intro n q24
  refine loopN_iter (X := Int) (frame := fun x => (f148_fr23 a0 a1 a2 q7 q8 q22 y1 y12 x)) (body := (fun L x => (fun L23 => f148_b23 K a0 a1 a2 q7 q8 q22 y1 y12 (fun v0 => F21 (f148_fr21 a0 a1 a2 q7 q8 y1 y12 v0)) L23 x) (fun v0 => L v0))) (fun L x => ?_) n q24
  rw [exec_G]
  exact (key (realL (f148E K) 1) L x).trans (by rfl)
theorem f148_t21 (K : Nat) (a0 : Int) (a1 : Int × Int × Int) (a2 : List tM) (q7 : Int) (q8 : List (tM × Bool)) (y1 : List tA) (y12 : Int × Int × Int × Int) (bq22 : Int) : ∀ (n : Nat) (q22 : Int), loopN (exec (f148E K) 1 (selC f148C [1, 1, 1, 1, 0, 1, 0, 0])) 1 (f148_fr21 a0 a1 a2 q7 q8 y1 y12 bq22) n (f148_fr21 a0 a1 a2 q7 q8 y1 y12 q22) (f148_k21 K a0 a1 a2 (realL (f148E K) 1)) = f148_l21 K a0 a1 a2 q7 q8 y1 y12 n q22 := by
  have key : ∀ (lr : LR Bool) (L : Fr → Option Bool) (q22 : Int), execG (f148E K) 1 lr (selC f148C [1, 1, 1, 1, 0, 1, 0, 0]) (f148_fr21 a0 a1 a2 q7 q8 y1 y12 q22) (loopK 1 (f148_fr21 a0 a1 a2 q7 q8 y1 y12 bq22) L (f148_k21 K a0 a1 a2 lr)) = f148_b21 K a0 a1 a2 q7 q8 y1 y12 (fun c0 d0 => lr (selC f148C [1, 1, 1, 1, 0, 1, 0, 0, 1, 1, 0, 0, 1, 1, 0, 0]) (f148_fr23 a0 a1 a2 q7 q8 c0 y1 y12 d0) (f148_k23 K a0 a1 a2 q7 q8 y1 y12 L bq22 lr)) (fun v0 => L (f148_fr21 a0 a1 a2 q7 q8 y1 y12 v0)) q22 := by
    intro lr L q22; kernel_rfl
  intro n q22
  refine loopN_iter (X := Int) (frame := fun x => (f148_fr21 a0 a1 a2 q7 q8 y1 y12 x)) (body := (fun L x => (fun L21 => f148_b21 K a0 a1 a2 q7 q8 y1 y12 (fun c0 d0 => f148_l23 K a0 a1 a2 q7 q8 c0 y1 y12 L21 K d0) L21 x) (fun v0 => L v0))) (fun L x => ?_) n q22
  rw [exec_G]
  have h23 : (fun c0 d0 => (realL (f148E K) 1) (selC f148C [1, 1, 1, 1, 0, 1, 0, 0, 1, 1, 0, 0, 1, 1, 0, 0]) (f148_fr23 a0 a1 a2 q7 q8 c0 y1 y12 d0) (f148_k23 K a0 a1 a2 q7 q8 y1 y12 L bq22 (realL (f148E K) 1))) = fun c0 d0 => f148_l23 K a0 a1 a2 q7 q8 c0 y1 y12 (fun v0 => L (f148_fr21 a0 a1 a2 q7 q8 y1 y12 v0)) K d0 := by
    funext c0 d0
    exact f148_t23 K a0 a1 a2 q7 q8 y1 y12 c0 L bq22 d0 K d0
  exact (key (realL (f148E K) 1) L x).trans (by rw [h23] <;> rfl)
theorem f148_t6 (K : Nat) (a0 : Int) (a1 : Int × Int × Int) (a2 : List tM) (y1 : List tA) (bq7 : Int) (bq8 : List (tM × Bool)) : ∀ (n : Nat) (q7 : Int) (q8 : List (tM × Bool)), loopN (exec (f148E K) 1 (selC f148C [1, 1, 0, 1, 0, 0])) 1 (f148_fr6 a0 a1 a2 y1 bq7 bq8) n (f148_fr6 a0 a1 a2 y1 q7 q8) (f148_k6 K a0 a1 a2 (realL (f148E K) 1)) = f148_l6 K a0 a1 a2 y1 n q7 q8 := by
  have key : ∀ (lr : LR Bool) (L : Fr → Option Bool) (q7 : Int) (q8 : List (tM × Bool)), execG (f148E K) 1 lr (selC f148C [1, 1, 0, 1, 0, 0]) (f148_fr6 a0 a1 a2 y1 q7 q8) (loopK 1 (f148_fr6 a0 a1 a2 y1 bq7 bq8) L (f148_k6 K a0 a1 a2 lr)) = f148_b6 K a0 a1 a2 y1 (fun c0 c1 c2 c3 d0 => lr (selC f148C [1, 1, 1, 1, 0, 1, 0, 0]) (f148_fr21 a0 a1 a2 c0 c1 c2 c3 d0) (f148_k21 K a0 a1 a2 lr)) (fun v0 v1 => L (f148_fr6 a0 a1 a2 y1 v0 v1)) q7 q8 := by
    intro lr L q7 q8; kernel_rfl
  intro n q7 q8
  refine loopN_iter (X := Int × List (tM × Bool)) (frame := fun x => (f148_fr6 a0 a1 a2 y1 x.1 x.2)) (body := (fun L x => (fun L6 => f148_b6 K a0 a1 a2 y1 (fun c0 c1 c2 c3 d0 => f148_l21 K a0 a1 a2 c0 c1 c2 c3 K d0) L6 x.1 x.2) (fun v0 v1 => L (v0, v1)))) (fun L x => ?_) n (q7, q8)
  rw [exec_G]
  have h21 : (fun c0 c1 c2 c3 d0 => (realL (f148E K) 1) (selC f148C [1, 1, 1, 1, 0, 1, 0, 0]) (f148_fr21 a0 a1 a2 c0 c1 c2 c3 d0) (f148_k21 K a0 a1 a2 (realL (f148E K) 1))) = fun c0 c1 c2 c3 d0 => f148_l21 K a0 a1 a2 c0 c1 c2 c3 K d0 := by
    funext c0 c1 c2 c3 d0
    exact f148_t21 K a0 a1 a2 c0 c1 c2 c3 d0 K d0
  exact (key (realL (f148E K) 1) L x.1 x.2).trans (by rw [h21] <;> rfl)
theorem f148_run (K : Nat) (a0 : Int) (a1 : Int × Int × Int) (a2 : List tM) : runF (f148E K) Tryz.f148 [(.ro, sI), (.ro, sL), (.ro, (.list 91 sM))] [.bool] (a0, a1, a2, ()) = f148G K a0 a1 a2 := by
  have key : ∀ (lr : LR Bool), runG (f148E K) Tryz.f148 [(.ro, sI), (.ro, sL), (.ro, (.list 91 sM))] [.bool] (a0, a1, a2, ()) lr = f148_g K a0 a1 a2 (fun c0 d0 d1 => lr (selC f148C [1, 1, 0, 1, 0, 0]) (f148_fr6 a0 a1 a2 c0 d0 d1) (f148_k6 K a0 a1 a2 lr)) := by intro lr; kernel_rfl
  have h6 : (fun c0 d0 d1 => (realL (f148E K) 1) (selC f148C [1, 1, 0, 1, 0, 0]) (f148_fr6 a0 a1 a2 c0 d0 d1) (f148_k6 K a0 a1 a2 (realL (f148E K) 1))) = fun c0 d0 d1 => f148_l6 K a0 a1 a2 c0 K d0 d1 := by
    funext c0 d0 d1
    exact f148_t6 K a0 a1 a2 c0 d0 d1 K d0 d1
  exact runF_G (n0 := 1) (by rfl) ((key (realL (f148E K) 1)).trans (by rw [h6] <;> rfl))
theorem f92_t4 (K : Nat) (a0 : Int) (a1 : Int × Int × Int) (a2 : List (List tM)) (y1 : Int) (bq5 : Int) : ∀ (n : Nat) (q5 : Int), loopN (exec (f92E K) 1 (selC f92C [1, 1, 0, 1, 0, 0])) 1 (f92_fr4 a0 a1 a2 y1 bq5) n (f92_fr4 a0 a1 a2 y1 q5) (f92_k4 K a0 a1 a2 (realL (f92E K) 1)) = f92_l4 K a0 a1 a2 y1 n q5 := by
  have key : ∀ (lr : LR Int) (L : Fr → Option Int) (q5 : Int), execG (f92E K) 1 lr (selC f92C [1, 1, 0, 1, 0, 0]) (f92_fr4 a0 a1 a2 y1 q5) (loopK 1 (f92_fr4 a0 a1 a2 y1 bq5) L (f92_k4 K a0 a1 a2 lr)) = f92_b4 K a0 a1 a2 y1 (fun v0 => L (f92_fr4 a0 a1 a2 y1 v0)) q5 := by
    intro lr L q5; kernel_rfl
  intro n q5
  refine loopN_iter (X := Int) (frame := fun x => (f92_fr4 a0 a1 a2 y1 x)) (body := (fun L x => (fun L4 => f92_b4 K a0 a1 a2 y1 L4 x) (fun v0 => L v0))) (fun L x => ?_) n q5
  rw [exec_G]
  exact (key (realL (f92E K) 1) L x).trans (by rfl)
theorem f92_run (K : Nat) (a0 : Int) (a1 : Int × Int × Int) (a2 : List (List tM)) : runF (f92E K) Tryz.f92 [(.ro, sI), (.ro, sL), (.ro, (.list 30 (.list 91 sM)))] [sI] (a0, a1, a2, ()) = f92G K a0 a1 a2 := by
  have key : ∀ (lr : LR Int), runG (f92E K) Tryz.f92 [(.ro, sI), (.ro, sL), (.ro, (.list 30 (.list 91 sM)))] [sI] (a0, a1, a2, ()) lr = f92_g K a0 a1 a2 (fun c0 d0 => lr (selC f92C [1, 1, 0, 1, 0, 0]) (f92_fr4 a0 a1 a2 c0 d0) (f92_k4 K a0 a1 a2 lr)) := by intro lr; kernel_rfl
  have h4 : (fun c0 d0 => (realL (f92E K) 1) (selC f92C [1, 1, 0, 1, 0, 0]) (f92_fr4 a0 a1 a2 c0 d0) (f92_k4 K a0 a1 a2 (realL (f92E K) 1))) = fun c0 d0 => f92_l4 K a0 a1 a2 c0 K d0 := by
    funext c0 d0
    exact f92_t4 K a0 a1 a2 c0 d0 K d0
  exact runF_G (n0 := 1) (by rfl) ((key (realL (f92E K) 1)).trans (by rw [h4] <;> rfl))
theorem f162_run (K : Nat) (a0 : Int × Int × Int) (a1 : Int × Int) : runF (f162E K) Tryz.f162 [(.ro, sL), (.ro, sV)] [.bool] (a0, a1, ()) = f162G K a0 a1 := by kernel_rfl
theorem f161_run (K : Nat) (a0 : Int × Int) (a1 : Int × Int × Int) : runF (f161E K) Tryz.f161 [(.ro, sV), (.cap, sL)] [.bool] (a0, a1, ()) = f161G K a0 a1 := by kernel_rfl
theorem f109_t3 (K : Nat) (a0 : List tV) (a1 : (tV → Option Bool)) (bq4 : Int) : ∀ (n : Nat) (q4 : Int), loopN (exec (f109E K) 1 (selC f109C [1, 0, 1, 0, 0])) 1 (f109_fr3 a0 a1 bq4) n (f109_fr3 a0 a1 q4) (f109_k3 K a0 a1 (realL (f109E K) 1)) = f109_l3 K a0 a1 n q4 := by
  have key : ∀ (lr : LR Int) (L : Fr → Option Int) (q4 : Int), execG (f109E K) 1 lr (selC f109C [1, 0, 1, 0, 0]) (f109_fr3 a0 a1 q4) (loopK 1 (f109_fr3 a0 a1 bq4) L (f109_k3 K a0 a1 lr)) = f109_b3 K a0 a1 (fun v0 => L (f109_fr3 a0 a1 v0)) q4 := by
    intro lr L q4; kernel_rfl
  intro n q4
  refine loopN_iter (X := Int) (frame := fun x => (f109_fr3 a0 a1 x)) (body := (fun L x => (fun L3 => f109_b3 K a0 a1 L3 x) (fun v0 => L v0))) (fun L x => ?_) n q4
  rw [exec_G]
  exact (key (realL (f109E K) 1) L x).trans (by rfl)
theorem f109_run (K : Nat) (a0 : List tV) (a1 : (tV → Option Bool)) : runF (f109E K) Tryz.f109 [(.ro, (.list 53 sV)), (.ro, (.fn1 sV .bool))] [sI] (a0, a1, ()) = f109G K a0 a1 := by
  have key : ∀ (lr : LR Int), runG (f109E K) Tryz.f109 [(.ro, (.list 53 sV)), (.ro, (.fn1 sV .bool))] [sI] (a0, a1, ()) lr = f109_g K a0 a1 (fun d0 => lr (selC f109C [1, 0, 1, 0, 0]) (f109_fr3 a0 a1 d0) (f109_k3 K a0 a1 lr)) := by intro lr; kernel_rfl
  have h3 : (fun d0 => (realL (f109E K) 1) (selC f109C [1, 0, 1, 0, 0]) (f109_fr3 a0 a1 d0) (f109_k3 K a0 a1 (realL (f109E K) 1))) = fun d0 => f109_l3 K a0 a1 K d0 := by
    funext d0
    exact f109_t3 K a0 a1 d0 K d0
  exact runF_G (n0 := 1) (by rfl) ((key (realL (f109E K) 1)).trans (by rw [h3] <;> rfl))
theorem f103_run (K : Nat) (a0 : List tV) (a1 : (tV → Option Bool)) : runF (f103E K) Tryz.f103 [(.ro, (.list 53 sV)), (.ro, (.fn1 sV .bool))] [.bool] (a0, a1, ()) = f103G K a0 a1 := by kernel_rfl
theorem f96_run (K : Nat) (a0 : Int) (a1 : Int × Int × Int) (a2 : List tM) (a3 : List tV) : runF (f96E K) Tryz.f96 [(.ro, sI), (.ro, sL), (.ro, (.list 91 sM)), (.ro, (.list 53 sV))] [sI] (a0, a1, a2, a3, ()) = f96G K a0 a1 a2 a3 := by kernel_rfl
theorem f255_t2 (K : Nat) (a0 : List tM) (a1 : tA × Int × Int) (bq3 : Int) : ∀ (n : Nat) (q3 : Int), loopN (exec (f255E K) 1 (selC f255C [1, 0, 1, 0, 0])) 1 (f255_fr2 a0 a1 bq3) n (f255_fr2 a0 a1 q3) (f255_k2 K a0 a1 (realL (f255E K) 1)) = f255_l2 K a0 a1 n q3 := by
  have key : ∀ (lr : LR Int) (L : Fr → Option Int) (q3 : Int), execG (f255E K) 1 lr (selC f255C [1, 0, 1, 0, 0]) (f255_fr2 a0 a1 q3) (loopK 1 (f255_fr2 a0 a1 bq3) L (f255_k2 K a0 a1 lr)) = f255_b2 K a0 a1 (fun v0 => L (f255_fr2 a0 a1 v0)) q3 := by
    intro lr L q3; kernel_rfl
  intro n q3
  refine loopN_iter (X := Int) (frame := fun x => (f255_fr2 a0 a1 x)) (body := (fun L x => (fun L2 => f255_b2 K a0 a1 L2 x) (fun v0 => L v0))) (fun L x => ?_) n q3
  rw [exec_G]
  exact (key (realL (f255E K) 1) L x).trans (by rfl)
theorem f255_run (K : Nat) (a0 : List tM) (a1 : tA × Int × Int) : runF (f255E K) Tryz.f255 [(.ro, (.list 91 sM)), (.ro, sM)] [sI] (a0, a1, ()) = f255G K a0 a1 := by
  have key : ∀ (lr : LR Int), runG (f255E K) Tryz.f255 [(.ro, (.list 91 sM)), (.ro, sM)] [sI] (a0, a1, ()) lr = f255_g K a0 a1 (fun d0 => lr (selC f255C [1, 0, 1, 0, 0]) (f255_fr2 a0 a1 d0) (f255_k2 K a0 a1 lr)) := by intro lr; kernel_rfl
  have h2 : (fun d0 => (realL (f255E K) 1) (selC f255C [1, 0, 1, 0, 0]) (f255_fr2 a0 a1 d0) (f255_k2 K a0 a1 (realL (f255E K) 1))) = fun d0 => f255_l2 K a0 a1 K d0 := by
    funext d0
    exact f255_t2 K a0 a1 d0 K d0
  exact runF_G (n0 := 1) (by rfl) ((key (realL (f255E K) 1)).trans (by rw [h2] <;> rfl))
theorem f215_run (K : Nat) (a0 : List tM) (a1 : tA × Int × Int) : runF (f215E K) Tryz.f215 [(.ro, (.list 91 sM)), (.ro, sM)] [.bool] (a0, a1, ()) = f215G K a0 a1 := by kernel_rfl
theorem f214_run (K : Nat) (a0 : tA × Int × Int) (a1 : List tM) : runF (f214E K) Tryz.f214 [(.ro, sM), (.cap, (.list 91 sM))] [.bool] (a0, a1, ()) = f214G K a0 a1 := by kernel_rfl
theorem f254_t3 (K : Nat) (a0 : List tM) (a1 : (tM → Option Bool)) (bq4 : Int) : ∀ (n : Nat) (q4 : Int), loopN (exec (f254E K) 1 (selC f254C [1, 0, 1, 0, 0])) 1 (f254_fr3 a0 a1 bq4) n (f254_fr3 a0 a1 q4) (f254_k3 K a0 a1 (realL (f254E K) 1)) = f254_l3 K a0 a1 n q4 := by
  have key : ∀ (lr : LR Int) (L : Fr → Option Int) (q4 : Int), execG (f254E K) 1 lr (selC f254C [1, 0, 1, 0, 0]) (f254_fr3 a0 a1 q4) (loopK 1 (f254_fr3 a0 a1 bq4) L (f254_k3 K a0 a1 lr)) = f254_b3 K a0 a1 (fun v0 => L (f254_fr3 a0 a1 v0)) q4 := by
    intro lr L q4; kernel_rfl
  intro n q4
  refine loopN_iter (X := Int) (frame := fun x => (f254_fr3 a0 a1 x)) (body := (fun L x => (fun L3 => f254_b3 K a0 a1 L3 x) (fun v0 => L v0))) (fun L x => ?_) n q4
  rw [exec_G]
  exact (key (realL (f254E K) 1) L x).trans (by rfl)
theorem f254_run (K : Nat) (a0 : List tM) (a1 : (tM → Option Bool)) : runF (f254E K) Tryz.f254 [(.ro, (.list 91 sM)), (.ro, (.fn1 sM .bool))] [sI] (a0, a1, ()) = f254G K a0 a1 := by
  have key : ∀ (lr : LR Int), runG (f254E K) Tryz.f254 [(.ro, (.list 91 sM)), (.ro, (.fn1 sM .bool))] [sI] (a0, a1, ()) lr = f254_g K a0 a1 (fun d0 => lr (selC f254C [1, 0, 1, 0, 0]) (f254_fr3 a0 a1 d0) (f254_k3 K a0 a1 lr)) := by intro lr; kernel_rfl
  have h3 : (fun d0 => (realL (f254E K) 1) (selC f254C [1, 0, 1, 0, 0]) (f254_fr3 a0 a1 d0) (f254_k3 K a0 a1 (realL (f254E K) 1))) = fun d0 => f254_l3 K a0 a1 K d0 := by
    funext d0
    exact f254_t3 K a0 a1 d0 K d0
  exact runF_G (n0 := 1) (by rfl) ((key (realL (f254E K) 1)).trans (by rw [h3] <;> rfl))
theorem f213_run (K : Nat) (a0 : List tM) (a1 : (tM → Option Bool)) : runF (f213E K) Tryz.f213 [(.ro, (.list 91 sM)), (.ro, (.fn1 sM .bool))] [.bool] (a0, a1, ()) = f213G K a0 a1 := by kernel_rfl
theorem f149_run (K : Nat) (a0 : List tM) (a1 : List tM) : runF (f149E K) Tryz.f149 [(.ro, (.list 91 sM)), (.ro, (.list 91 sM))] [.bool] (a0, a1, ()) = f149G K a0 a1 := by kernel_rfl
theorem f79_run (K : Nat) (a0 : Int) (a1 : Int × Int × Int) (a2 : List tM) (a3 : List tM) (a4 : List tV) : runF (f79E K) Tryz.f79 [(.ro, sI), (.ro, sL), (.ro, (.list 91 sM)), (.ro, (.list 91 sM)), (.ro, (.list 53 sV))] [sI] (a0, a1, a2, a3, a4, ()) = f79G K a0 a1 a2 a3 a4 := by kernel_rfl
theorem f207_run (K : Nat) (a0 : tA × Int × Int) (a1 : Int × Int) : runF (f207E K) Tryz.f207 [(.ro, sM), (.ro, sV)] [sV] (a0, a1, ()) = f207G K a0 a1 := by kernel_rfl
theorem f150_run (K : Nat) (a0 : Int × Int × Int) (a1 : tA × Int × Int) (a2 : Int × Int) : runF (f150E K) Tryz.f150 [(.ro, sL), (.ro, sM), (.ro, sV)] [sV] (a0, a1, a2, ()) = f150G K a0 a1 a2 := by kernel_rfl
theorem f151_t9 (K : Nat) (a0 : List tV) (q8 : Int) (F7 : Fr → Option (List tV)) (bq8 : Int) (bq10 : Int) (bq11 : Int) (bq12 : List tV) : ∀ (n : Nat) (q10 : Int) (q11 : Int) (q12 : List tV), loopN (exec (f151E K) 1 (selC f151C [1, 1, 0, 1, 0, 0, 1, 0, 0, 1, 0, 1, 0, 1, 0, 0])) 1 (f151_fr9 a0 q8 bq10 bq11 bq12) n (f151_fr9 a0 q8 q10 q11 q12) (f151_k9 K a0 F7 bq8 (realL (f151E K) 1)) = f151_l9 K a0 q8 n q10 q11 q12 := by
  have key : ∀ (lr : LR (List tV)) (L : Fr → Option (List tV)) (q10 : Int) (q11 : Int) (q12 : List tV), execG (f151E K) 1 lr (selC f151C [1, 1, 0, 1, 0, 0, 1, 0, 0, 1, 0, 1, 0, 1, 0, 0]) (f151_fr9 a0 q8 q10 q11 q12) (loopK 1 (f151_fr9 a0 q8 bq10 bq11 bq12) L (f151_k9 K a0 F7 bq8 lr)) = f151_b9 K a0 q8 (fun v0 v1 v2 => L (f151_fr9 a0 q8 v0 v1 v2)) q10 q11 q12 := by
    intro lr L q10 q11 q12; kernel_rfl
  intro n q10 q11 q12
  refine loopN_iter (X := Int × Int × List tV) (frame := fun x => (f151_fr9 a0 q8 x.1 x.2.1 x.2.2)) (body := (fun L x => (fun L9 => f151_b9 K a0 q8 L9 x.1 x.2.1 x.2.2) (fun v0 v1 v2 => L (v0, v1, v2)))) (fun L x => ?_) n (q10, q11, q12)
  rw [exec_G]
  exact (key (realL (f151E K) 1) L x.1 x.2.1 x.2.2).trans (by rfl)
theorem f151_t7 (K : Nat) (a0 : List tV) (bq8 : Int) : ∀ (n : Nat) (q8 : Int), loopN (exec (f151E K) 1 (selC f151C [1, 1, 0, 1, 0, 0])) 1 (f151_fr7 a0 bq8) n (f151_fr7 a0 q8) (f151_k7 K a0 (realL (f151E K) 1)) = f151_l7 K a0 n q8 := by
  have key : ∀ (lr : LR (List tV)) (L : Fr → Option (List tV)) (q8 : Int), execG (f151E K) 1 lr (selC f151C [1, 1, 0, 1, 0, 0]) (f151_fr7 a0 q8) (loopK 1 (f151_fr7 a0 bq8) L (f151_k7 K a0 lr)) = f151_b7 K a0 (fun c0 d0 d1 d2 => lr (selC f151C [1, 1, 0, 1, 0, 0, 1, 0, 0, 1, 0, 1, 0, 1, 0, 0]) (f151_fr9 a0 c0 d0 d1 d2) (f151_k9 K a0 L bq8 lr)) (fun v0 => L (f151_fr7 a0 v0)) q8 := by
    intro lr L q8; kernel_rfl
  intro n q8
  refine loopN_iter (X := Int) (frame := fun x => (f151_fr7 a0 x)) (body := (fun L x => (fun L7 => f151_b7 K a0 (fun c0 d0 d1 d2 => f151_l9 K a0 c0 K d0 d1 d2) L7 x) (fun v0 => L v0))) (fun L x => ?_) n q8
  rw [exec_G]
  have h9 : (fun c0 d0 d1 d2 => (realL (f151E K) 1) (selC f151C [1, 1, 0, 1, 0, 0, 1, 0, 0, 1, 0, 1, 0, 1, 0, 0]) (f151_fr9 a0 c0 d0 d1 d2) (f151_k9 K a0 L bq8 (realL (f151E K) 1))) = fun c0 d0 d1 d2 => f151_l9 K a0 c0 K d0 d1 d2 := by
    funext c0 d0 d1 d2
    exact f151_t9 K a0 c0 L bq8 d0 d1 d2 K d0 d1 d2
  exact (key (realL (f151E K) 1) L x).trans (by rw [h9] <;> rfl)
theorem f151_run (K : Nat) (a0 : List tV) : runF (f151E K) Tryz.f151 [(.mv, (.list 53 sV))] [(.list 53 sV)] (a0, ()) = f151G K a0 := by
  have key : ∀ (lr : LR (List tV)), runG (f151E K) Tryz.f151 [(.mv, (.list 53 sV))] [(.list 53 sV)] (a0, ()) lr = f151_g K a0 (fun d0 => lr (selC f151C [1, 1, 0, 1, 0, 0]) (f151_fr7 a0 d0) (f151_k7 K a0 lr)) := by intro lr; kernel_rfl
  have h7 : (fun d0 => (realL (f151E K) 1) (selC f151C [1, 1, 0, 1, 0, 0]) (f151_fr7 a0 d0) (f151_k7 K a0 (realL (f151E K) 1))) = fun d0 => f151_l7 K a0 K d0 := by
    funext d0
    exact f151_t7 K a0 d0 K d0
  exact runF_G (n0 := 1) (by rfl) ((key (realL (f151E K) 1)).trans (by rw [h7] <;> rfl))
theorem f80_t3 (K : Nat) (a0 : Int × Int × Int) (a1 : List tM) (a2 : Int × Int) (bq4 : Int) (bq5 : List tV) : ∀ (n : Nat) (q4 : Int) (q5 : List tV), loopN (exec (f80E K) 1 (selC f80C [1, 1, 0, 1, 0, 0])) 1 (f80_fr3 a0 a1 a2 bq4 bq5) n (f80_fr3 a0 a1 a2 q4 q5) (f80_k3 K a0 a1 a2 (realL (f80E K) 1)) = f80_l3 K a0 a1 a2 n q4 q5 := by
  have key : ∀ (lr : LR (List tV)) (L : Fr → Option (List tV)) (q4 : Int) (q5 : List tV), execG (f80E K) 1 lr (selC f80C [1, 1, 0, 1, 0, 0]) (f80_fr3 a0 a1 a2 q4 q5) (loopK 1 (f80_fr3 a0 a1 a2 bq4 bq5) L (f80_k3 K a0 a1 a2 lr)) = f80_b3 K a0 a1 a2 (fun v0 v1 => L (f80_fr3 a0 a1 a2 v0 v1)) q4 q5 := by
    intro lr L q4 q5; kernel_rfl
  intro n q4 q5
  refine loopN_iter (X := Int × List tV) (frame := fun x => (f80_fr3 a0 a1 a2 x.1 x.2)) (body := (fun L x => (fun L3 => f80_b3 K a0 a1 a2 L3 x.1 x.2) (fun v0 v1 => L (v0, v1)))) (fun L x => ?_) n (q4, q5)
  rw [exec_G]
  exact (key (realL (f80E K) 1) L x.1 x.2).trans (by rfl)
theorem f80_run (K : Nat) (a0 : Int × Int × Int) (a1 : List tM) (a2 : Int × Int) : runF (f80E K) Tryz.f80 [(.ro, sL), (.ro, (.list 91 sM)), (.ro, sV)] [(.list 53 sV)] (a0, a1, a2, ()) = f80G K a0 a1 a2 := by
  have key : ∀ (lr : LR (List tV)), runG (f80E K) Tryz.f80 [(.ro, sL), (.ro, (.list 91 sM)), (.ro, sV)] [(.list 53 sV)] (a0, a1, a2, ()) lr = f80_g K a0 a1 a2 (fun d0 d1 => lr (selC f80C [1, 1, 0, 1, 0, 0]) (f80_fr3 a0 a1 a2 d0 d1) (f80_k3 K a0 a1 a2 lr)) := by intro lr; kernel_rfl
  have h3 : (fun d0 d1 => (realL (f80E K) 1) (selC f80C [1, 1, 0, 1, 0, 0]) (f80_fr3 a0 a1 a2 d0 d1) (f80_k3 K a0 a1 a2 (realL (f80E K) 1))) = fun d0 d1 => f80_l3 K a0 a1 a2 K d0 d1 := by
    funext d0 d1
    exact f80_t3 K a0 a1 a2 d0 d1 K d0 d1
  exact runF_G (n0 := 1) (by rfl) ((key (realL (f80E K) 1)).trans (by rw [h3] <;> rfl))
theorem f82_run (K : Nat) (a0 : Int × Int × Int) (a1 : Int × Int) : runF (f82E K) Tryz.f82 [(.ro, sL), (.ro, sV)] [sI] (a0, a1, ()) = f82G K a0 a1 := by kernel_rfl
theorem f81_t4 (K : Nat) (a0 : Int) (a1 : Int × Int × Int) (a2 : List tV) (a3 : Int) (bq5 : Int) (bq6 : List Int) : ∀ (n : Nat) (q5 : Int) (q6 : List Int), loopN (exec (f81E K) 1 (selC f81C [1, 1, 0, 1, 0, 0])) 1 (f81_fr4 a0 a1 a2 a3 bq5 bq6) n (f81_fr4 a0 a1 a2 a3 q5 q6) (f81_k4 K a0 a1 a2 a3 (realL (f81E K) 1)) = f81_l4 K a0 a1 a2 a3 n q5 q6 := by
  have key : ∀ (lr : LR (Int × tL × List Int)) (L : Fr → Option (Int × tL × List Int)) (q5 : Int) (q6 : List Int), execG (f81E K) 1 lr (selC f81C [1, 1, 0, 1, 0, 0]) (f81_fr4 a0 a1 a2 a3 q5 q6) (loopK 1 (f81_fr4 a0 a1 a2 a3 bq5 bq6) L (f81_k4 K a0 a1 a2 a3 lr)) = f81_b4 K a0 a1 a2 a3 (fun v0 v1 => L (f81_fr4 a0 a1 a2 a3 v0 v1)) q5 q6 := by
    intro lr L q5 q6; kernel_rfl
  intro n q5 q6
  refine loopN_iter (X := Int × List Int) (frame := fun x => (f81_fr4 a0 a1 a2 a3 x.1 x.2)) (body := (fun L x => (fun L4 => f81_b4 K a0 a1 a2 a3 L4 x.1 x.2) (fun v0 v1 => L (v0, v1)))) (fun L x => ?_) n (q5, q6)
  rw [exec_G]
  exact (key (realL (f81E K) 1) L x.1 x.2).trans (by rfl)
theorem f81_run (K : Nat) (a0 : Int) (a1 : Int × Int × Int) (a2 : List tV) (a3 : Int) : runF (f81E K) Tryz.f81 [(.ro, sI), (.ro, sL), (.ro, (.list 53 sV)), (.ro, sI)] [(.cons sI (.cons sL (.list 2 sI)))] (a0, a1, a2, a3, ()) = f81G K a0 a1 a2 a3 := by
  have key : ∀ (lr : LR (Int × tL × List Int)), runG (f81E K) Tryz.f81 [(.ro, sI), (.ro, sL), (.ro, (.list 53 sV)), (.ro, sI)] [(.cons sI (.cons sL (.list 2 sI)))] (a0, a1, a2, a3, ()) lr = f81_g K a0 a1 a2 a3 (fun d0 d1 => lr (selC f81C [1, 1, 0, 1, 0, 0]) (f81_fr4 a0 a1 a2 a3 d0 d1) (f81_k4 K a0 a1 a2 a3 lr)) := by intro lr; kernel_rfl
  have h4 : (fun d0 d1 => (realL (f81E K) 1) (selC f81C [1, 1, 0, 1, 0, 0]) (f81_fr4 a0 a1 a2 a3 d0 d1) (f81_k4 K a0 a1 a2 a3 (realL (f81E K) 1))) = fun d0 d1 => f81_l4 K a0 a1 a2 a3 K d0 d1 := by
    funext d0 d1
    exact f81_t4 K a0 a1 a2 a3 d0 d1 K d0 d1
  exact runF_G (n0 := 1) (by rfl) ((key (realL (f81E K) 1)).trans (by rw [h4] <;> rfl))
theorem f30_t7 (K : Nat) (a0 : Int) (a1 : Int × Int × Int) (a2 : List tM) (a3 : List tM) (a4 : Int × Int) (y1 : Int) (y2 : List tV) (y3 : List tV) (y4 : Int × tL × List Int) (bq8 : Int) (bq9 : List Int) : ∀ (n : Nat) (q8 : Int) (q9 : List Int), loopN (exec (f30E K) 2 (selC f30C [1, 1, 1, 1, 1, 0, 1, 0, 0])) 2 (f30_fr7 a0 a1 a2 a3 a4 y1 y2 y3 y4 bq8 bq9) n (f30_fr7 a0 a1 a2 a3 a4 y1 y2 y3 y4 q8 q9) (f30_k7 K a0 a1 a2 a3 a4 (realL (f30E K) 2)) = f30_l7 K a0 a1 a2 a3 a4 y1 y2 y3 y4 n q8 q9 := by
  have key : ∀ (lr : LR ((Int × tL × List Int) × Int)) (L : Fr → Option ((Int × tL × List Int) × Int)) (q8 : Int) (q9 : List Int), execG (f30E K) 2 lr (selC f30C [1, 1, 1, 1, 1, 0, 1, 0, 0]) (f30_fr7 a0 a1 a2 a3 a4 y1 y2 y3 y4 q8 q9) (loopK 2 (f30_fr7 a0 a1 a2 a3 a4 y1 y2 y3 y4 bq8 bq9) L (f30_k7 K a0 a1 a2 a3 a4 lr)) = f30_b7 K a0 a1 a2 a3 a4 y1 y2 y3 y4 (fun v0 v1 => L (f30_fr7 a0 a1 a2 a3 a4 y1 y2 y3 y4 v0 v1)) q8 q9 := by
    intro lr L q8 q9; kernel_rfl
  intro n q8 q9
  refine loopN_iter (X := Int × List Int) (frame := fun x => (f30_fr7 a0 a1 a2 a3 a4 y1 y2 y3 y4 x.1 x.2)) (body := (fun L x => (fun L7 => f30_b7 K a0 a1 a2 a3 a4 y1 y2 y3 y4 L7 x.1 x.2) (fun v0 v1 => L (v0, v1)))) (fun L x => ?_) n (q8, q9)
  rw [exec_G]
  exact (key (realL (f30E K) 2) L x.1 x.2).trans (by rfl)
theorem f30_run (K : Nat) (a0 : Int) (a1 : Int × Int × Int) (a2 : List tM) (a3 : List tM) (a4 : Int × Int) : runF (f30E K) Tryz.f30 [(.ro, sI), (.ro, sL), (.ro, (.list 91 sM)), (.ro, (.list 91 sM)), (.ro, sV)] [(.cons sI (.cons sL (.list 2 sI))), sI] (a0, a1, a2, a3, a4, ()) = f30G K a0 a1 a2 a3 a4 := by
  have key : ∀ (lr : LR ((Int × tL × List Int) × Int)), runG (f30E K) Tryz.f30 [(.ro, sI), (.ro, sL), (.ro, (.list 91 sM)), (.ro, (.list 91 sM)), (.ro, sV)] [(.cons sI (.cons sL (.list 2 sI))), sI] (a0, a1, a2, a3, a4, ()) lr = f30_g K a0 a1 a2 a3 a4 (fun c0 c1 c2 c3 d0 d1 => lr (selC f30C [1, 1, 1, 1, 1, 0, 1, 0, 0]) (f30_fr7 a0 a1 a2 a3 a4 c0 c1 c2 c3 d0 d1) (f30_k7 K a0 a1 a2 a3 a4 lr)) := by intro lr; kernel_rfl
  have h7 : (fun c0 c1 c2 c3 d0 d1 => (realL (f30E K) 2) (selC f30C [1, 1, 1, 1, 1, 0, 1, 0, 0]) (f30_fr7 a0 a1 a2 a3 a4 c0 c1 c2 c3 d0 d1) (f30_k7 K a0 a1 a2 a3 a4 (realL (f30E K) 2))) = fun c0 c1 c2 c3 d0 d1 => f30_l7 K a0 a1 a2 a3 a4 c0 c1 c2 c3 K d0 d1 := by
    funext c0 c1 c2 c3 d0 d1
    exact f30_t7 K a0 a1 a2 a3 a4 c0 c1 c2 c3 d0 d1 K d0 d1
  exact runF_G (n0 := 2) (by rfl) ((key (realL (f30E K) 2)).trans (by rw [h7] <;> rfl))
theorem f74_run (K : Nat) (a0 : Int × Int × Int) (a1 : Int × Int × Int) : runF (f74E K) Tryz.f74 [(.ro, sL), (.ro, sL)] [.bool] (a0, a1, ()) = f74G K a0 a1 := by kernel_rfl
theorem f41_t2 (K : Nat) (a0 : List Int) (a1 : List Int) (bq3 : Int) : ∀ (n : Nat) (q3 : Int), loopN (exec (f41E K) 2 (selC f41C [1, 1, 0, 1, 0, 0])) 2 (f41_fr2 a0 a1 bq3) n (f41_fr2 a0 a1 q3) (f41_k2 K a0 a1 (realL (f41E K) 2)) = f41_l2 K a0 a1 n q3 := by
  have key : ∀ (lr : LR Bool) (L : Fr → Option Bool) (q3 : Int), execG (f41E K) 2 lr (selC f41C [1, 1, 0, 1, 0, 0]) (f41_fr2 a0 a1 q3) (loopK 2 (f41_fr2 a0 a1 bq3) L (f41_k2 K a0 a1 lr)) = f41_b2 K a0 a1 (fun v0 => L (f41_fr2 a0 a1 v0)) q3 := by
    intro lr L q3; kernel_rfl
  intro n q3
  refine loopN_iter (X := Int) (frame := fun x => (f41_fr2 a0 a1 x)) (body := (fun L x => (fun L2 => f41_b2 K a0 a1 L2 x) (fun v0 => L v0))) (fun L x => ?_) n q3
  rw [exec_G]
  exact (key (realL (f41E K) 2) L x).trans (by rfl)
theorem f41_run (K : Nat) (a0 : List Int) (a1 : List Int) : runF (f41E K) Tryz.f41 [(.ro, (.list 2 sI)), (.ro, (.list 2 sI))] [.bool] (a0, a1, ()) = f41G K a0 a1 := by
  have key : ∀ (lr : LR Bool), runG (f41E K) Tryz.f41 [(.ro, (.list 2 sI)), (.ro, (.list 2 sI))] [.bool] (a0, a1, ()) lr = f41_g K a0 a1 (fun d0 => lr (selC f41C [1, 1, 0, 1, 0, 0]) (f41_fr2 a0 a1 d0) (f41_k2 K a0 a1 lr)) := by intro lr; kernel_rfl
  have h2 : (fun d0 => (realL (f41E K) 2) (selC f41C [1, 1, 0, 1, 0, 0]) (f41_fr2 a0 a1 d0) (f41_k2 K a0 a1 (realL (f41E K) 2))) = fun d0 => f41_l2 K a0 a1 K d0 := by
    funext d0
    exact f41_t2 K a0 a1 d0 K d0
  exact runF_G (n0 := 2) (by rfl) ((key (realL (f41E K) 2)).trans (by rw [h2] <;> rfl))
theorem f24_run (K : Nat) (a0 : Int × tL × List Int) (a1 : Int × tL × List Int) : runF (f24E K) Tryz.f24 [(.ro, (.cons sI (.cons sL (.list 2 sI)))), (.ro, (.cons sI (.cons sL (.list 2 sI))))] [.bool] (a0, a1, ()) = f24G K a0 a1 := by kernel_rfl
theorem f132_run (K : Nat) (a0 : Int × Int × Int × Int) (a1 : Int × Int × Int × Int) : runF (f132E K) Tryz.f132 [(.ro, sA), (.ro, sA)] [.bool] (a0, a1, ()) = f132G K a0 a1 := by kernel_rfl
theorem f112_run (K : Nat) (a0 : Int × Int) (a1 : Int × Int) : runF (f112E K) Tryz.f112 [(.ro, sV), (.ro, sV)] [.bool] (a0, a1, ()) = f112G K a0 a1 := by kernel_rfl
theorem f65_run (K : Nat) (a0 : tA × Int × Int) (a1 : tA × Int × Int) : runF (f65E K) Tryz.f65 [(.ro, sM), (.ro, sM)] [.bool] (a0, a1, ()) = f65G K a0 a1 := by kernel_rfl
theorem f18_t3 (K : Nat) (a0 : List tM) (a1 : List tM) (bq4 : Int) : ∀ (n : Nat) (q4 : Int), loopN (exec (f18E K) 2 (selC f18C [1, 1, 0, 1, 0, 0])) 2 (f18_fr3 a0 a1 bq4) n (f18_fr3 a0 a1 q4) (f18_k3 K a0 a1 (realL (f18E K) 2)) = f18_l3 K a0 a1 n q4 := by
  have key : ∀ (lr : LR Bool) (L : Fr → Option Bool) (q4 : Int), execG (f18E K) 2 lr (selC f18C [1, 1, 0, 1, 0, 0]) (f18_fr3 a0 a1 q4) (loopK 2 (f18_fr3 a0 a1 bq4) L (f18_k3 K a0 a1 lr)) = f18_b3 K a0 a1 (fun v0 => L (f18_fr3 a0 a1 v0)) q4 := by
    intro lr L q4; kernel_rfl
  intro n q4
  refine loopN_iter (X := Int) (frame := fun x => (f18_fr3 a0 a1 x)) (body := (fun L x => (fun L3 => f18_b3 K a0 a1 L3 x) (fun v0 => L v0))) (fun L x => ?_) n q4
  rw [exec_G]
  exact (key (realL (f18E K) 2) L x).trans (by rfl)
theorem f18_run (K : Nat) (a0 : List tM) (a1 : List tM) : runF (f18E K) Tryz.f18 [(.ro, (.list 91 sM)), (.ro, (.list 91 sM))] [.bool] (a0, a1, ()) = f18G K a0 a1 := by
  have key : ∀ (lr : LR Bool), runG (f18E K) Tryz.f18 [(.ro, (.list 91 sM)), (.ro, (.list 91 sM))] [.bool] (a0, a1, ()) lr = f18_g K a0 a1 (fun d0 => lr (selC f18C [1, 1, 0, 1, 0, 0]) (f18_fr3 a0 a1 d0) (f18_k3 K a0 a1 lr)) := by intro lr; kernel_rfl
  have h3 : (fun d0 => (realL (f18E K) 2) (selC f18C [1, 1, 0, 1, 0, 0]) (f18_fr3 a0 a1 d0) (f18_k3 K a0 a1 (realL (f18E K) 2))) = fun d0 => f18_l3 K a0 a1 K d0 := by
    funext d0
    exact f18_t3 K a0 a1 d0 K d0
  exact runF_G (n0 := 2) (by rfl) ((key (realL (f18E K) 2)).trans (by rw [h3] <;> rfl))
theorem f31_t2 (K : Nat) (a0 : List tM) (a1 : Int) (bq3 : Int) (bq4 : Int) (bq5 : List tM) : ∀ (n : Nat) (q3 : Int) (q4 : Int) (q5 : List tM), loopN (exec (f31E K) 1 (selC f31C [1, 0, 1, 0, 0])) 1 (f31_fr2 bq3 bq4 bq5) n (f31_fr2 q3 q4 q5) (f31_k2 K a0 a1 (realL (f31E K) 1)) = f31_l2 K n q3 q4 q5 := by
  have key : ∀ (lr : LR ((List tM) × Int)) (L : Fr → Option ((List tM) × Int)) (q3 : Int) (q4 : Int) (q5 : List tM), execG (f31E K) 1 lr (selC f31C [1, 0, 1, 0, 0]) (f31_fr2 q3 q4 q5) (loopK 1 (f31_fr2 bq3 bq4 bq5) L (f31_k2 K a0 a1 lr)) = f31_b2 K (fun v0 v1 v2 => L (f31_fr2 v0 v1 v2)) q3 q4 q5 := by
    intro lr L q3 q4 q5; kernel_rfl
  intro n q3 q4 q5
  refine loopN_iter (X := Int × Int × List tM) (frame := fun x => (f31_fr2 x.1 x.2.1 x.2.2)) (body := (fun L x => (fun L2 => f31_b2 K L2 x.1 x.2.1 x.2.2) (fun v0 v1 v2 => L (v0, v1, v2)))) (fun L x => ?_) n (q3, q4, q5)
  rw [exec_G]
  exact (key (realL (f31E K) 1) L x.1 x.2.1 x.2.2).trans (by rfl)
theorem f31_run (K : Nat) (a0 : List tM) (a1 : Int) : runF (f31E K) Tryz.f31 [(.io, (.list 91 sM)), (.ro, sI)] [sI] (a0, a1, ()) = f31G K a0 a1 := by
  have key : ∀ (lr : LR ((List tM) × Int)), runG (f31E K) Tryz.f31 [(.io, (.list 91 sM)), (.ro, sI)] [sI] (a0, a1, ()) lr = f31_g K a0 a1 (fun d0 d1 d2 => lr (selC f31C [1, 0, 1, 0, 0]) (f31_fr2 d0 d1 d2) (f31_k2 K a0 a1 lr)) := by intro lr; kernel_rfl
  have h2 : (fun d0 d1 d2 => (realL (f31E K) 1) (selC f31C [1, 0, 1, 0, 0]) (f31_fr2 d0 d1 d2) (f31_k2 K a0 a1 (realL (f31E K) 1))) = fun d0 d1 d2 => f31_l2 K K d0 d1 d2 := by
    funext d0 d1 d2
    exact f31_t2 K a0 a1 d0 d1 d2 K d0 d1 d2
  exact runF_G (n0 := 1) (by rfl) ((key (realL (f31E K) 1)).trans (by rw [h2] <;> rfl))
theorem f42_t2 (K : Nat) (a0 : List Int) (a1 : Int) (bq3 : Int) (bq4 : Int) (bq5 : List Int) : ∀ (n : Nat) (q3 : Int) (q4 : Int) (q5 : List Int), loopN (exec (f42E K) 1 (selC f42C [1, 0, 1, 0, 0])) 1 (f42_fr2 bq3 bq4 bq5) n (f42_fr2 q3 q4 q5) (f42_k2 K a0 a1 (realL (f42E K) 1)) = f42_l2 K n q3 q4 q5 := by
  have key : ∀ (lr : LR ((List Int) × Int)) (L : Fr → Option ((List Int) × Int)) (q3 : Int) (q4 : Int) (q5 : List Int), execG (f42E K) 1 lr (selC f42C [1, 0, 1, 0, 0]) (f42_fr2 q3 q4 q5) (loopK 1 (f42_fr2 bq3 bq4 bq5) L (f42_k2 K a0 a1 lr)) = f42_b2 K (fun v0 v1 v2 => L (f42_fr2 v0 v1 v2)) q3 q4 q5 := by
    intro lr L q3 q4 q5; kernel_rfl
  intro n q3 q4 q5
  refine loopN_iter (X := Int × Int × List Int) (frame := fun x => (f42_fr2 x.1 x.2.1 x.2.2)) (body := (fun L x => (fun L2 => f42_b2 K L2 x.1 x.2.1 x.2.2) (fun v0 v1 v2 => L (v0, v1, v2)))) (fun L x => ?_) n (q3, q4, q5)
  rw [exec_G]
  exact (key (realL (f42E K) 1) L x.1 x.2.1 x.2.2).trans (by rfl)
theorem f42_run (K : Nat) (a0 : List Int) (a1 : Int) : runF (f42E K) Tryz.f42 [(.io, (.list 2 sI)), (.ro, sI)] [sI] (a0, a1, ()) = f42G K a0 a1 := by
  have key : ∀ (lr : LR ((List Int) × Int)), runG (f42E K) Tryz.f42 [(.io, (.list 2 sI)), (.ro, sI)] [sI] (a0, a1, ()) lr = f42_g K a0 a1 (fun d0 d1 d2 => lr (selC f42C [1, 0, 1, 0, 0]) (f42_fr2 d0 d1 d2) (f42_k2 K a0 a1 lr)) := by intro lr; kernel_rfl
  have h2 : (fun d0 d1 d2 => (realL (f42E K) 1) (selC f42C [1, 0, 1, 0, 0]) (f42_fr2 d0 d1 d2) (f42_k2 K a0 a1 (realL (f42E K) 1))) = fun d0 d1 d2 => f42_l2 K K d0 d1 d2 := by
    funext d0 d1 d2
    exact f42_t2 K a0 a1 d0 d1 d2 K d0 d1 d2
  exact runF_G (n0 := 1) (by rfl) ((key (realL (f42E K) 1)).trans (by rw [h2] <;> rfl))
theorem f25_run (K : Nat) (a0 : Int × tL × List Int) (a1 : Int) : runF (f25E K) Tryz.f25 [(.io, (.cons sI (.cons sL (.list 2 sI)))), (.ro, sI)] [sI] (a0, a1, ()) = f25G K a0 a1 := by kernel_rfl
theorem f55_t2 (K : Nat) (a0 : List Int) (a1 : Int) (bq3 : Int) (bq4 : Int) : ∀ (n : Nat) (q3 : Int) (q4 : Int), loopN (exec (f55E K) 1 (selC f55C [1, 0, 1, 0, 0])) 1 (f55_fr2 a0 bq3 bq4) n (f55_fr2 a0 q3 q4) (f55_k2 K a0 a1 (realL (f55E K) 1)) = f55_l2 K a0 n q3 q4 := by
  have key : ∀ (lr : LR Int) (L : Fr → Option Int) (q3 : Int) (q4 : Int), execG (f55E K) 1 lr (selC f55C [1, 0, 1, 0, 0]) (f55_fr2 a0 q3 q4) (loopK 1 (f55_fr2 a0 bq3 bq4) L (f55_k2 K a0 a1 lr)) = f55_b2 K a0 (fun v0 v1 => L (f55_fr2 a0 v0 v1)) q3 q4 := by
    intro lr L q3 q4; kernel_rfl
  intro n q3 q4
  refine loopN_iter (X := Int × Int) (frame := fun x => (f55_fr2 a0 x.1 x.2)) (body := (fun L x => (fun L2 => f55_b2 K a0 L2 x.1 x.2) (fun v0 v1 => L (v0, v1)))) (fun L x => ?_) n (q3, q4)
  rw [exec_G]
  exact (key (realL (f55E K) 1) L x.1 x.2).trans (by rfl)
theorem f55_run (K : Nat) (a0 : List Int) (a1 : Int) : runF (f55E K) Tryz.f55 [(.ro, (.list 2 sI)), (.ro, sI)] [sI] (a0, a1, ()) = f55G K a0 a1 := by
  have key : ∀ (lr : LR Int), runG (f55E K) Tryz.f55 [(.ro, (.list 2 sI)), (.ro, sI)] [sI] (a0, a1, ()) lr = f55_g K a0 a1 (fun d0 d1 => lr (selC f55C [1, 0, 1, 0, 0]) (f55_fr2 a0 d0 d1) (f55_k2 K a0 a1 lr)) := by intro lr; kernel_rfl
  have h2 : (fun d0 d1 => (realL (f55E K) 1) (selC f55C [1, 0, 1, 0, 0]) (f55_fr2 a0 d0 d1) (f55_k2 K a0 a1 (realL (f55E K) 1))) = fun d0 d1 => f55_l2 K a0 K d0 d1 := by
    funext d0 d1
    exact f55_t2 K a0 a1 d0 d1 K d0 d1
  exact runF_G (n0 := 1) (by rfl) ((key (realL (f55E K) 1)).trans (by rw [h2] <;> rfl))
theorem f32_run (K : Nat) (a0 : Int × tL × List Int) (a1 : Int) : runF (f32E K) Tryz.f32 [(.ro, (.cons sI (.cons sL (.list 2 sI)))), (.ro, sI)] [sI] (a0, a1, ()) = f32G K a0 a1 := by kernel_rfl
theorem f5_run (K : Nat) (a0 : Int) (a1 : Int × Int × Int) (a2 : List tM) (a3 : List tM) (a4 : Int × Int) : runF (f5E K) Tryz.f5 [(.ro, sI), (.ro, sL), (.ro, (.list 95 sM)), (.ro, (.list 95 sM)), (.ro, sV)] [.bool] (a0, a1, a2, a3, a4, ()) = f5G K a0 a1 a2 a3 a4 := by kernel_rfl
end Go.Proofs.YtmnciknpeefkfaaGreat.X
