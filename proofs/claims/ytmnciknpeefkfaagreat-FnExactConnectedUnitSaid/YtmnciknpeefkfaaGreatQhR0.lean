/- Functions of the program as plain Lean functions, and that the program does what they say. Printed by gen.py. -/
import Derived.Test.YtmnciknpeefkfaaGreatQhD0
namespace Go.Proofs.YtmnciknpeefkfaaGreat.X
open Go
set_option maxRecDepth 100000
set_option linter.unusedVariables false
theorem f13_run (K : Nat) (a0 : List tM) (a1 : Int) : runF (f13E K) Tryz.f13 [(.ro, (.list 95 sM)), (.ro, sI)] [sI] (a0, a1, ()) = f13G K a0 a1 := by kernel_rfl
theorem f15_run (K : Nat) (a0 : Int × Int × Int) : runF (f15E K) Tryz.f15 [(.ro, sL)] [sL] (a0, ()) = f15G K a0 := by kernel_rfl
theorem f130_run (K : Nat) (a0 : Int × Int × Int × Int) : runF (f130E K) Tryz.f130 [(.ro, sA)] [sA] (a0, ()) = f130G K a0 := by kernel_rfl
theorem f29_run (K : Nat) (a0 : Int × Int) : runF (f29E K) Tryz.f29 [(.ro, sV)] [sV] (a0, ()) = f29G K a0 := by kernel_rfl
theorem f61_run (K : Nat) (a0 : tA × Int × Int) : runF (f61E K) Tryz.f61 [(.ro, sM)] [sM] (a0, ()) = f61G K a0 := by kernel_rfl
theorem f16_t3 (K : Nat) (a0 : List tM) (bq4 : Int) (bq5 : List tM) : ∀ (n : Nat) (q4 : Int) (q5 : List tM), loopN (exec (f16E K) 1 (selC f16C [1, 1, 0, 1, 0, 0])) 1 (f16_fr3 a0 bq4 bq5) n (f16_fr3 a0 q4 q5) (f16_k3 K a0 (realL (f16E K) 1)) = f16_l3 K a0 n q4 q5 := by
  have key : ∀ (lr : LR (List tM)) (L : Fr → Option (List tM)) (q4 : Int) (q5 : List tM), execG (f16E K) 1 lr (selC f16C [1, 1, 0, 1, 0, 0]) (f16_fr3 a0 q4 q5) (loopK 1 (f16_fr3 a0 bq4 bq5) L (f16_k3 K a0 lr)) = f16_b3 K a0 (fun v0 v1 => L (f16_fr3 a0 v0 v1)) q4 q5 := by
    intro lr L q4 q5; kernel_rfl
  intro n q4 q5
  refine loopN_iter (X := Int × List tM) (frame := fun x => (f16_fr3 a0 x.1 x.2)) (body := (fun L x => (fun L3 => f16_b3 K a0 L3 x.1 x.2) (fun v0 v1 => L (v0, v1)))) (fun L x => ?_) n (q4, q5)
  rw [exec_G]
  exact (key (realL (f16E K) 1) L x.1 x.2).trans (by rfl)
theorem f16_run (K : Nat) (a0 : List tM) : runF (f16E K) Tryz.f16 [(.ro, (.list 95 sM))] [(.list 91 sM)] (a0, ()) = f16G K a0 := by
  have key : ∀ (lr : LR (List tM)), runG (f16E K) Tryz.f16 [(.ro, (.list 95 sM))] [(.list 91 sM)] (a0, ()) lr = f16_g K a0 (fun d0 d1 => lr (selC f16C [1, 1, 0, 1, 0, 0]) (f16_fr3 a0 d0 d1) (f16_k3 K a0 lr)) := by intro lr; kernel_rfl
  have h3 : (fun d0 d1 => (realL (f16E K) 1) (selC f16C [1, 1, 0, 1, 0, 0]) (f16_fr3 a0 d0 d1) (f16_k3 K a0 (realL (f16E K) 1))) = fun d0 d1 => f16_l3 K a0 K d0 d1 := by
    funext d0 d1
    exact f16_t3 K a0 d0 d1 K d0 d1
  exact runF_G (n0 := 1) (by rfl) ((key (realL (f16E K) 1)).trans (by rw [h3] <;> rfl))
theorem f190_run (K : Nat) (a0 : Int) : runF (f190E K) Tryz.f190 [(.ro, sI)] [.bool] (a0, ()) = f190G K a0 := by kernel_rfl
theorem f59_run (K : Nat) (a0 : Int) (a1 : Int) (a2 : Int) : runF (f59E K) Tryz.f59 [(.ro, sI), (.ro, sI), (.ro, sI)] [.bool] (a0, a1, a2, ()) = f59G K a0 a1 a2 := by kernel_rfl
theorem f191_run (K : Nat) (a0 : Int × Int × Int) : runF (f191E K) Tryz.f191 [(.ro, sL)] [.bool] (a0, ()) = f191G K a0 := by kernel_rfl
theorem f133_run (K : Nat) (a0 : Int) (a1 : Int × Int × Int) : runF (f133E K) Tryz.f133 [(.ro, sI), (.ro, sL)] [sI] (a0, a1, ()) = f133G K a0 a1 := by kernel_rfl
theorem f216_run (K : Nat) (a0 : Int × Int) : runF (f216E K) Tryz.f216 [(.ro, sV)] [.bool] (a0, ()) = f216G K a0 := by kernel_rfl
theorem f281_run (K : Nat) (a0 : Int × Int × Int × Int) : runF (f281E K) Tryz.f281 [(.ro, sA)] [.bool] (a0, ()) = f281G K a0 := by kernel_rfl
theorem f282_run (K : Nat) (a0 : Int × Int × Int × Int) : runF (f282E K) Tryz.f282 [(.ro, sA)] [sI] (a0, ()) = f282G K a0 := by kernel_rfl
theorem f272_run (K : Nat) (a0 : Int × Int × Int × Int) : runF (f272E K) Tryz.f272 [(.ro, sA)] [.bool] (a0, ()) = f272G K a0 := by kernel_rfl
theorem f275_run (K : Nat) (a0 : Int) (a1 : Int × Int) : runF (f275E K) Tryz.f275 [(.ro, sI), (.ro, sV)] [sI] (a0, a1, ()) = f275G K a0 a1 := by kernel_rfl
theorem f170_run (K : Nat) (a0 : Int × Int) (a1 : Int × Int) : runF (f170E K) Tryz.f170 [(.ro, sV), (.ro, sV)] [sV] (a0, a1, ()) = f170G K a0 a1 := by kernel_rfl
theorem f244_run (K : Nat) (a0 : Int) (a1 : Int × Int × Int × Int) : runF (f244E K) Tryz.f244 [(.ro, sI), (.ro, sA)] [.bool] (a0, a1, ()) = f244G K a0 a1 := by kernel_rfl
theorem f238_run (K : Nat) (a0 : Int) (a1 : Int × Int × Int × Int) : runF (f238E K) Tryz.f238 [(.ro, sI), (.ro, sA)] [.bool] (a0, a1, ()) = f238G K a0 a1 := by kernel_rfl
theorem f192_run (K : Nat) (a0 : Int × Int × Int) : runF (f192E K) Tryz.f192 [(.ro, sL)] [(.list 53 sV)] (a0, ()) = f192G K a0 := by kernel_rfl
theorem f241_run (K : Nat) (a0 : Int × Int × Int × Int) (a1 : Int × Int) : runF (f241E K) Tryz.f241 [(.ro, sA), (.ro, sV)] [sV] (a0, a1, ()) = f241G K a0 a1 := by kernel_rfl
theorem f242_run (K : Nat) (rec : Int → Int → Option Int) (a0 : Int) (a1 : Int) : runF (f242E K rec) Tryz.f242 [(.ro, sI), (.ro, sI)] [sI] (a0, a1, ()) = f242_s K rec a0 a1 := by kernel_rfl
theorem f180_run (K : Nat) (a0 : Int) (a1 : Int) : runF (f180E K) Tryz.f180 [(.ro, sI), (.ro, sI)] [sI] (a0, a1, ()) = f180G K a0 a1 := by kernel_rfl
theorem f243_run (K : Nat) (a0 : Int × Int) (a1 : Int) : runF (f243E K) Tryz.f243 [(.ro, sV), (.ro, sI)] [sV] (a0, a1, ()) = f243G K a0 a1 := by kernel_rfl
theorem f194_t15 (K : Nat) (a0 : List tV) (q11 : Int) (q12 : Int) (F10 : Fr → Option tL) (bq11 : Int) (bq12 : Int) (bq13 : Int) (bq14 : Int) (bq16 : Int) (bq17 : Int) (bq18 : Int) (bq19 : Int) : ∀ (n : Nat) (q16 : Int) (q17 : Int) (q18 : Int) (q19 : Int), loopN (exec (f194E K) 1 (selC f194C [1, 1, 0, 1, 0, 0, 1, 0, 0, 1, 0, 0, 0])) 1 (f194_fr15 a0 q11 q12 bq16 bq17 bq18 bq19) n (f194_fr15 a0 q11 q12 q16 q17 q18 q19) (f194_k15 K a0 F10 bq11 bq12 bq13 bq14 (realL (f194E K) 1)) = f194_l15 K a0 q11 q12 (fun v0 v1 v2 v3 => F10 (f194_fr10 a0 v0 v1 v2 v3)) n q16 q17 q18 q19 := by
  have key : ∀ (lr : LR tL) (L : Fr → Option tL) (q16 : Int) (q17 : Int) (q18 : Int) (q19 : Int), execG (f194E K) 1 lr (selC f194C [1, 1, 0, 1, 0, 0, 1, 0, 0, 1, 0, 0, 0]) (f194_fr15 a0 q11 q12 q16 q17 q18 q19) (loopK 1 (f194_fr15 a0 q11 q12 bq16 bq17 bq18 bq19) L (f194_k15 K a0 F10 bq11 bq12 bq13 bq14 lr)) = f194_b15 K a0 q11 q12 (fun v0 v1 v2 v3 => F10 (f194_fr10 a0 v0 v1 v2 v3)) (fun v0 v1 v2 v3 => L (f194_fr15 a0 q11 q12 v0 v1 v2 v3)) q16 q17 q18 q19 := by
    intro lr L q16 q17 q18 q19; kernel_rfl
  intro n q16 q17 q18 q19
  refine loopN_iter (X := Int × Int × Int × Int) (frame := fun x => (f194_fr15 a0 q11 q12 x.1 x.2.1 x.2.2.1 x.2.2.2)) (body := (fun L x => (fun L15 => f194_b15 K a0 q11 q12 (fun v0 v1 v2 v3 => F10 (f194_fr10 a0 v0 v1 v2 v3)) L15 x.1 x.2.1 x.2.2.1 x.2.2.2) (fun v0 v1 v2 v3 => L (v0, v1, v2, v3)))) (fun L x => ?_) n (q16, q17, q18, q19)
  rw [exec_G]
  exact (key (realL (f194E K) 1) L x.1 x.2.1 x.2.2.1 x.2.2.2).trans (by rfl)
theorem f194_t10 (K : Nat) (a0 : List tV) (bq11 : Int) (bq12 : Int) (bq13 : Int) (bq14 : Int) : ∀ (n : Nat) (q11 : Int) (q12 : Int) (q13 : Int) (q14 : Int), loopN (exec (f194E K) 1 (selC f194C [1, 1, 0, 1, 0, 0])) 1 (f194_fr10 a0 bq11 bq12 bq13 bq14) n (f194_fr10 a0 q11 q12 q13 q14) (f194_k10 K a0 (realL (f194E K) 1)) = f194_l10 K a0 n q11 q12 q13 q14 := by
  have key : ∀ (lr : LR tL) (L : Fr → Option tL) (q11 : Int) (q12 : Int) (q13 : Int) (q14 : Int), execG (f194E K) 1 lr (selC f194C [1, 1, 0, 1, 0, 0]) (f194_fr10 a0 q11 q12 q13 q14) (loopK 1 (f194_fr10 a0 bq11 bq12 bq13 bq14) L (f194_k10 K a0 lr)) = f194_b10 K a0 (fun c0 c1 d0 d1 d2 d3 => lr (selC f194C [1, 1, 0, 1, 0, 0, 1, 0, 0, 1, 0, 0, 0]) (f194_fr15 a0 c0 c1 d0 d1 d2 d3) (f194_k15 K a0 L bq11 bq12 bq13 bq14 lr)) (fun v0 v1 v2 v3 => L (f194_fr10 a0 v0 v1 v2 v3)) q11 q12 q13 q14 := by
    intro lr L q11 q12 q13 q14; kernel_rfl
  intro n q11 q12 q13 q14
  refine loopN_iter (X := Int × Int × Int × Int) (frame := fun x => (f194_fr10 a0 x.1 x.2.1 x.2.2.1 x.2.2.2)) (body := (fun L x => (fun L10 => f194_b10 K a0 (fun c0 c1 d0 d1 d2 d3 => f194_l15 K a0 c0 c1 L10 K d0 d1 d2 d3) L10 x.1 x.2.1 x.2.2.1 x.2.2.2) (fun v0 v1 v2 v3 => L (v0, v1, v2, v3)))) (fun L x => ?_) n (q11, q12, q13, q14)
  rw [exec_G]
  have h15 : (fun c0 c1 d0 d1 d2 d3 => (realL (f194E K) 1) (selC f194C [1, 1, 0, 1, 0, 0, 1, 0, 0, 1, 0, 0, 0]) (f194_fr15 a0 c0 c1 d0 d1 d2 d3) (f194_k15 K a0 L bq11 bq12 bq13 bq14 (realL (f194E K) 1))) = fun c0 c1 d0 d1 d2 d3 => f194_l15 K a0 c0 c1 (fun v0 v1 v2 v3 => L (f194_fr10 a0 v0 v1 v2 v3)) K d0 d1 d2 d3 := by
    funext c0 c1 d0 d1 d2 d3
    exact f194_t15 K a0 c0 c1 L bq11 bq12 bq13 bq14 d0 d1 d2 d3 K d0 d1 d2 d3
  exact (key (realL (f194E K) 1) L x.1 x.2.1 x.2.2.1 x.2.2.2).trans (by rw [h15] <;> rfl)
theorem f194_run (K : Nat) (a0 : List tV) : runF (f194E K) Tryz.f194 [(.ro, (.list 53 sV))] [sL] (a0, ()) = f194G K a0 := by
  have key : ∀ (lr : LR tL), runG (f194E K) Tryz.f194 [(.ro, (.list 53 sV))] [sL] (a0, ()) lr = f194_g K a0 (fun d0 d1 d2 d3 => lr (selC f194C [1, 1, 0, 1, 0, 0]) (f194_fr10 a0 d0 d1 d2 d3) (f194_k10 K a0 lr)) := by intro lr; kernel_rfl
  have h10 : (fun d0 d1 d2 d3 => (realL (f194E K) 1) (selC f194C [1, 1, 0, 1, 0, 0]) (f194_fr10 a0 d0 d1 d2 d3) (f194_k10 K a0 (realL (f194E K) 1))) = fun d0 d1 d2 d3 => f194_l10 K a0 K d0 d1 d2 d3 := by
    funext d0 d1 d2 d3
    exact f194_t10 K a0 d0 d1 d2 d3 K d0 d1 d2 d3
  exact runF_G (n0 := 1) (by rfl) ((key (realL (f194E K) 1)).trans (by rw [h10] <;> rfl))
theorem f196_run (K : Nat) (a0 : Int × Int × Int × Int) (a1 : Int × Int × Int) : runF (f196E K) Tryz.f196 [(.ro, sA), (.ro, sL)] [sL] (a0, a1, ()) = f196G K a0 a1 := by kernel_rfl
theorem f184_run (K : Nat) (a0 : Int) (a1 : Int × Int × Int) (a2 : tA × Int × Int) : runF (f184E K) Tryz.f184 [(.ro, sI), (.ro, sL), (.ro, sM)] [.bool] (a0, a1, a2, ()) = f184G K a0 a1 a2 := by kernel_rfl
theorem f114_run (K : Nat) (a0 : Int × Int × Int) (a1 : Int × Int) : runF (f114E K) Tryz.f114 [(.ro, sL), (.ro, sV)] [sV] (a0, a1, ()) = f114G K a0 a1 := by kernel_rfl
theorem f185_run (K : Nat) (a0 : Int × Int × Int) (a1 : tA × Int × Int) : runF (f185E K) Tryz.f185 [(.ro, sL), (.ro, sM)] [sM] (a0, a1, ()) = f185G K a0 a1 := by kernel_rfl
theorem f274_run (K : Nat) (a0 : Int × Int × Int × Int) : runF (f274E K) Tryz.f274 [(.ro, sA)] [(.list 2 sI)] (a0, ()) = f274G K a0 := by kernel_rfl
theorem f273_t2 (K : Nat) (a0 : List Int) (a1 : List Int) (bq3 : Int) : ∀ (n : Nat) (q3 : Int), loopN (exec (f273E K) 2 (selC f273C [1, 0, 1, 0, 0])) 2 (f273_fr2 a0 a1 bq3) n (f273_fr2 a0 a1 q3) (f273_k2 K a0 a1 (realL (f273E K) 2)) = f273_l2 K a0 a1 n q3 := by
  have key : ∀ (lr : LR Bool) (L : Fr → Option Bool) (q3 : Int), execG (f273E K) 2 lr (selC f273C [1, 0, 1, 0, 0]) (f273_fr2 a0 a1 q3) (loopK 2 (f273_fr2 a0 a1 bq3) L (f273_k2 K a0 a1 lr)) = f273_b2 K a0 a1 (fun v0 => L (f273_fr2 a0 a1 v0)) q3 := by
    intro lr L q3; kernel_rfl
  intro n q3
  refine loopN_iter (X := Int) (frame := fun x => (f273_fr2 a0 a1 x)) (body := (fun L x => (fun L2 => f273_b2 K a0 a1 L2 x) (fun v0 => L v0))) (fun L x => ?_) n q3
  rw [exec_G]
  exact (key (realL (f273E K) 2) L x).trans (by rfl)
theorem f273_run (K : Nat) (a0 : List Int) (a1 : List Int) : runF (f273E K) Tryz.f273 [(.ro, (.list 2 sI)), (.ro, (.list 2 sI))] [.bool] (a0, a1, ()) = f273G K a0 a1 := by
  have key : ∀ (lr : LR Bool), runG (f273E K) Tryz.f273 [(.ro, (.list 2 sI)), (.ro, (.list 2 sI))] [.bool] (a0, a1, ()) lr = f273_g K a0 a1 (fun d0 => lr (selC f273C [1, 0, 1, 0, 0]) (f273_fr2 a0 a1 d0) (f273_k2 K a0 a1 lr)) := by intro lr; kernel_rfl
  have h2 : (fun d0 => (realL (f273E K) 2) (selC f273C [1, 0, 1, 0, 0]) (f273_fr2 a0 a1 d0) (f273_k2 K a0 a1 (realL (f273E K) 2))) = fun d0 => f273_l2 K a0 a1 K d0 := by
    funext d0
    exact f273_t2 K a0 a1 d0 K d0
  exact runF_G (n0 := 2) (by rfl) ((key (realL (f273E K) 2)).trans (by rw [h2] <;> rfl))
theorem f239_run (K : Nat) (a0 : Int × Int × Int × Int) (a1 : Int × Int × Int × Int) : runF (f239E K) Tryz.f239 [(.ro, sA), (.ro, sA)] [.bool] (a0, a1, ()) = f239G K a0 a1 := by kernel_rfl
theorem f171_run (K : Nat) (a0 : Int × Int) (a1 : Int × Int) : runF (f171E K) Tryz.f171 [(.ro, sV), (.ro, sV)] [.bool] (a0, a1, ()) = f171G K a0 a1 := by kernel_rfl
theorem f186_run (K : Nat) (a0 : tA × Int × Int) (a1 : tA × Int × Int) : runF (f186E K) Tryz.f186 [(.ro, sM), (.ro, sM)] [.bool] (a0, a1, ()) = f186G K a0 a1 := by kernel_rfl
theorem f193_run (K : Nat) : runF (f193E K) Tryz.f193 [] [sA] (()) = f193G K := by kernel_rfl
theorem f188_run (K : Nat) : runF (f188E K) Tryz.f188 [] [sM] (()) = f188G K := by kernel_rfl
theorem f222_t6 (K : Nat) (a0 : List tM) (a1 : tA × Int × Int) (bq7 : Int) (bq8 : Int) : ∀ (n : Nat) (q7 : Int) (q8 : Int), loopN (exec (f222E K) 1 (selC f222C [1, 1, 0, 0, 0])) 1 (f222_fr6 a0 a1 bq7 bq8) n (f222_fr6 a0 a1 q7 q8) (f222_k6 K a0 a1 (realL (f222E K) 1)) = f222_l6 K a0 a1 n q7 q8 := by
  have key : ∀ (lr : LR Int) (L : Fr → Option Int) (q7 : Int) (q8 : Int), execG (f222E K) 1 lr (selC f222C [1, 1, 0, 0, 0]) (f222_fr6 a0 a1 q7 q8) (loopK 1 (f222_fr6 a0 a1 bq7 bq8) L (f222_k6 K a0 a1 lr)) = f222_b6 K a0 a1 (fun v0 v1 => L (f222_fr6 a0 a1 v0 v1)) q7 q8 := by
    intro lr L q7 q8; kernel_rfl
  intro n q7 q8
  refine loopN_iter (X := Int × Int) (frame := fun x => (f222_fr6 a0 a1 x.1 x.2)) (body := (fun L x => (fun L6 => f222_b6 K a0 a1 L6 x.1 x.2) (fun v0 v1 => L (v0, v1)))) (fun L x => ?_) n (q7, q8)
  rw [exec_G]
  exact (key (realL (f222E K) 1) L x.1 x.2).trans (by rfl)
theorem f222_run (K : Nat) (a0 : List tM) (a1 : tA × Int × Int) : runF (f222E K) Tryz.f222 [(.ro, (.list 91 sM)), (.ro, sM)] [sI] (a0, a1, ()) = f222G K a0 a1 := by
  have key : ∀ (lr : LR Int), runG (f222E K) Tryz.f222 [(.ro, (.list 91 sM)), (.ro, sM)] [sI] (a0, a1, ()) lr = f222_g K a0 a1 (fun d0 d1 => lr (selC f222C [1, 1, 0, 0, 0]) (f222_fr6 a0 a1 d0 d1) (f222_k6 K a0 a1 lr)) := by intro lr; kernel_rfl
  have h6 : (fun d0 d1 => (realL (f222E K) 1) (selC f222C [1, 1, 0, 0, 0]) (f222_fr6 a0 a1 d0 d1) (f222_k6 K a0 a1 (realL (f222E K) 1))) = fun d0 d1 => f222_l6 K a0 a1 K d0 d1 := by
    funext d0 d1
    exact f222_t6 K a0 a1 d0 d1 K d0 d1
  exact runF_G (n0 := 1) (by rfl) ((key (realL (f222E K) 1)).trans (by rw [h6] <;> rfl))
theorem f187_run (K : Nat) (a0 : List tM) (a1 : tA × Int × Int) : runF (f187E K) Tryz.f187 [(.ro, (.list 91 sM)), (.ro, sM)] [.bool] (a0, a1, ()) = f187G K a0 a1 := by kernel_rfl
theorem f240_run (K : Nat) (a0 : Int × Int × Int × Int) (a1 : Int × Int × Int × Int) : runF (f240E K) Tryz.f240 [(.ro, sA), (.ro, sA)] [sA] (a0, a1, ()) = f240G K a0 a1 := by kernel_rfl
theorem f189_run (K : Nat) (a0 : tA × Int × Int) (a1 : tA × Int × Int) : runF (f189E K) Tryz.f189 [(.ro, sM), (.ro, sM)] [sM] (a0, a1, ()) = f189G K a0 a1 := by kernel_rfl
theorem f128_t25 (K : Nat) (a0 : Int) (a1 : Int × Int × Int) (a2 : List tM) (q7 : Int) (y1 : Int) (y12 : Bool) (q24 : Int) (F23 : Fr → Option Bool) (bq24 : Int) (bq26 : Int) : ∀ (n : Nat) (q26 : Int), loopN (exec (f128E K) 1 (selC f128C [1, 1, 1, 1, 0, 1, 0, 0, 1, 0, 0, 1, 0, 0])) 1 (f128_fr25 a0 a1 a2 q7 q24 y1 y12 bq26) n (f128_fr25 a0 a1 a2 q7 q24 y1 y12 q26) (f128_k25 K a0 a1 a2 q7 y1 y12 F23 bq24 (realL (f128E K) 1)) = f128_l25 K a0 a1 a2 q7 q24 y1 y12 (fun v0 => F23 (f128_fr23 a0 a1 a2 q7 y1 y12 v0)) n q26 := by
  have key : ∀ (lr : LR Bool) (L : Fr → Option Bool) (q26 : Int), execG (f128E K) 1 lr (selC f128C [1, 1, 1, 1, 0, 1, 0, 0, 1, 0, 0, 1, 0, 0]) (f128_fr25 a0 a1 a2 q7 q24 y1 y12 q26) (loopK 1 (f128_fr25 a0 a1 a2 q7 q24 y1 y12 bq26) L (f128_k25 K a0 a1 a2 q7 y1 y12 F23 bq24 lr)) = f128_b25 K a0 a1 a2 q7 q24 y1 y12 (fun v0 => F23 (f128_fr23 a0 a1 a2 q7 y1 y12 v0)) (fun v0 => L (f128_fr25 a0 a1 a2 q7 q24 y1 y12 v0)) q26 := by
    intro lr L q26; kernel_rfl
  intro n q26
  refine loopN_iter (X := Int) (frame := fun x => (f128_fr25 a0 a1 a2 q7 q24 y1 y12 x)) (body := (fun L x => (fun L25 => f128_b25 K a0 a1 a2 q7 q24 y1 y12 (fun v0 => F23 (f128_fr23 a0 a1 a2 q7 y1 y12 v0)) L25 x) (fun v0 => L v0))) (fun L x => ?_) n q26
  rw [exec_G]
  exact (key (realL (f128E K) 1) L x).trans (by rfl)
theorem f128_t23 (K : Nat) (a0 : Int) (a1 : Int × Int × Int) (a2 : List tM) (q7 : Int) (y1 : Int) (y12 : Bool) (bq24 : Int) : ∀ (n : Nat) (q24 : Int), loopN (exec (f128E K) 1 (selC f128C [1, 1, 1, 1, 0, 1, 0, 0])) 1 (f128_fr23 a0 a1 a2 q7 y1 y12 bq24) n (f128_fr23 a0 a1 a2 q7 y1 y12 q24) (f128_k23 K a0 a1 a2 (realL (f128E K) 1)) = f128_l23 K a0 a1 a2 q7 y1 y12 n q24 := by
  have key : ∀ (lr : LR Bool) (L : Fr → Option Bool) (q24 : Int), execG (f128E K) 1 lr (selC f128C [1, 1, 1, 1, 0, 1, 0, 0]) (f128_fr23 a0 a1 a2 q7 y1 y12 q24) (loopK 1 (f128_fr23 a0 a1 a2 q7 y1 y12 bq24) L (f128_k23 K a0 a1 a2 lr)) = f128_b23 K a0 a1 a2 q7 y1 y12 (fun c0 d0 => lr (selC f128C [1, 1, 1, 1, 0, 1, 0, 0, 1, 0, 0, 1, 0, 0]) (f128_fr25 a0 a1 a2 q7 c0 y1 y12 d0) (f128_k25 K a0 a1 a2 q7 y1 y12 L bq24 lr)) (fun v0 => L (f128_fr23 a0 a1 a2 q7 y1 y12 v0)) q24 := by
    intro lr L q24; kernel_rfl
  intro n q24
  refine loopN_iter (X := Int) (frame := fun x => (f128_fr23 a0 a1 a2 q7 y1 y12 x)) (body := (fun L x => (fun L23 => f128_b23 K a0 a1 a2 q7 y1 y12 (fun c0 d0 => f128_l25 K a0 a1 a2 q7 c0 y1 y12 L23 K d0) L23 x) (fun v0 => L v0))) (fun L x => ?_) n q24
  rw [exec_G]
  have h25 : (fun c0 d0 => (realL (f128E K) 1) (selC f128C [1, 1, 1, 1, 0, 1, 0, 0, 1, 0, 0, 1, 0, 0]) (f128_fr25 a0 a1 a2 q7 c0 y1 y12 d0) (f128_k25 K a0 a1 a2 q7 y1 y12 L bq24 (realL (f128E K) 1))) = fun c0 d0 => f128_l25 K a0 a1 a2 q7 c0 y1 y12 (fun v0 => L (f128_fr23 a0 a1 a2 q7 y1 y12 v0)) K d0 := by
    funext c0 d0
    exact f128_t25 K a0 a1 a2 q7 y1 y12 c0 L bq24 d0 K d0
  exact (key (realL (f128E K) 1) L x).trans (by rw [h25] <;> rfl)
theorem f128_t6 (K : Nat) (a0 : Int) (a1 : Int × Int × Int) (a2 : List tM) (y1 : Int) (bq7 : Int) : ∀ (n : Nat) (q7 : Int), loopN (exec (f128E K) 1 (selC f128C [1, 1, 0, 1, 0, 0])) 1 (f128_fr6 a0 a1 a2 y1 bq7) n (f128_fr6 a0 a1 a2 y1 q7) (f128_k6 K a0 a1 a2 (realL (f128E K) 1)) = f128_l6 K a0 a1 a2 y1 n q7 := by
  have key : ∀ (lr : LR Bool) (L : Fr → Option Bool) (q7 : Int), execG (f128E K) 1 lr (selC f128C [1, 1, 0, 1, 0, 0]) (f128_fr6 a0 a1 a2 y1 q7) (loopK 1 (f128_fr6 a0 a1 a2 y1 bq7) L (f128_k6 K a0 a1 a2 lr)) = f128_b6 K a0 a1 a2 y1 (fun c0 c1 c2 d0 => lr (selC f128C [1, 1, 1, 1, 0, 1, 0, 0]) (f128_fr23 a0 a1 a2 c0 c1 c2 d0) (f128_k23 K a0 a1 a2 lr)) (fun v0 => L (f128_fr6 a0 a1 a2 y1 v0)) q7 := by
    intro lr L q7; kernel_rfl
  intro n q7
  refine loopN_iter (X := Int) (frame := fun x => (f128_fr6 a0 a1 a2 y1 x)) (body := (fun L x => (fun L6 => f128_b6 K a0 a1 a2 y1 (fun c0 c1 c2 d0 => f128_l23 K a0 a1 a2 c0 c1 c2 K d0) L6 x) (fun v0 => L v0))) (fun L x => ?_) n q7
  rw [exec_G]
  have h23 : (fun c0 c1 c2 d0 => (realL (f128E K) 1) (selC f128C [1, 1, 1, 1, 0, 1, 0, 0]) (f128_fr23 a0 a1 a2 c0 c1 c2 d0) (f128_k23 K a0 a1 a2 (realL (f128E K) 1))) = fun c0 c1 c2 d0 => f128_l23 K a0 a1 a2 c0 c1 c2 K d0 := by
    funext c0 c1 c2 d0
    exact f128_t23 K a0 a1 a2 c0 c1 c2 d0 K d0
  exact (key (realL (f128E K) 1) L x).trans (by rw [h23] <;> rfl)
theorem f128_run (K : Nat) (a0 : Int) (a1 : Int × Int × Int) (a2 : List tM) : runF (f128E K) Tryz.f128 [(.ro, sI), (.ro, sL), (.ro, (.list 91 sM))] [.bool] (a0, a1, a2, ()) = f128G K a0 a1 a2 := by
  have key : ∀ (lr : LR Bool), runG (f128E K) Tryz.f128 [(.ro, sI), (.ro, sL), (.ro, (.list 91 sM))] [.bool] (a0, a1, a2, ()) lr = f128_g K a0 a1 a2 (fun c0 d0 => lr (selC f128C [1, 1, 0, 1, 0, 0]) (f128_fr6 a0 a1 a2 c0 d0) (f128_k6 K a0 a1 a2 lr)) := by intro lr; kernel_rfl
  have h6 : (fun c0 d0 => (realL (f128E K) 1) (selC f128C [1, 1, 0, 1, 0, 0]) (f128_fr6 a0 a1 a2 c0 d0) (f128_k6 K a0 a1 a2 (realL (f128E K) 1))) = fun c0 d0 => f128_l6 K a0 a1 a2 c0 K d0 := by
    funext c0 d0
    exact f128_t6 K a0 a1 a2 c0 d0 K d0
  exact runF_G (n0 := 1) (by rfl) ((key (realL (f128E K) 1)).trans (by rw [h6] <;> rfl))
theorem f127_run (K : Nat) (a0 : Int) (a1 : Int × Int × Int) (a2 : Bool) : runF (f127E K) Tryz.f127 [(.ro, sI), (.ro, sL), (.ro, .bool)] [sI] (a0, a1, a2, ()) = f127G K a0 a1 a2 := by kernel_rfl
theorem f58_run (K : Nat) (a0 : Int) (a1 : Int × Int × Int) (a2 : List tM) (a3 : Bool) : runF (f58E K) Tryz.f58 [(.ro, sI), (.ro, sL), (.ro, (.list 91 sM)), (.ro, .bool)] [sI] (a0, a1, a2, a3, ()) = f58G K a0 a1 a2 a3 := by kernel_rfl
theorem f129_t9 (K : Nat) (a0 : Int × Int × Int) (q7 : Int) (F6 : Fr → Option (List tV)) (bq7 : Int) (bq8 : List tV) (bq10 : Int) (bq11 : List tV) : ∀ (n : Nat) (q10 : Int) (q11 : List tV), loopN (exec (f129E K) 0 (selC f129C [1, 1, 0, 1, 0, 0, 1, 0, 0, 1, 0, 0])) 0 (f129_fr9 a0 q7 bq10 bq11) n (f129_fr9 a0 q7 q10 q11) (f129_k9 K a0 F6 bq7 bq8 (realL (f129E K) 0)) = f129_l9 K a0 q7 (fun v0 v1 => F6 (f129_fr6 a0 v0 v1)) n q10 q11 := by
  have key : ∀ (lr : LR (List tV)) (L : Fr → Option (List tV)) (q10 : Int) (q11 : List tV), execG (f129E K) 0 lr (selC f129C [1, 1, 0, 1, 0, 0, 1, 0, 0, 1, 0, 0]) (f129_fr9 a0 q7 q10 q11) (loopK 0 (f129_fr9 a0 q7 bq10 bq11) L (f129_k9 K a0 F6 bq7 bq8 lr)) = f129_b9 K a0 q7 (fun v0 v1 => F6 (f129_fr6 a0 v0 v1)) (fun v0 v1 => L (f129_fr9 a0 q7 v0 v1)) q10 q11 := by
    intro lr L q10 q11; kernel_rfl
  intro n q10 q11
  refine loopN_iter (X := Int × List tV) (frame := fun x => (f129_fr9 a0 q7 x.1 x.2)) (body := (fun L x => (fun L9 => f129_b9 K a0 q7 (fun v0 v1 => F6 (f129_fr6 a0 v0 v1)) L9 x.1 x.2) (fun v0 v1 => L (v0, v1)))) (fun L x => ?_) n (q10, q11)
  rw [exec_G]
  exact (key (realL (f129E K) 0) L x.1 x.2).trans (by rfl)
theorem f129_t6 (K : Nat) (a0 : Int × Int × Int) (bq7 : Int) (bq8 : List tV) : ∀ (n : Nat) (q7 : Int) (q8 : List tV), loopN (exec (f129E K) 0 (selC f129C [1, 1, 0, 1, 0, 0])) 0 (f129_fr6 a0 bq7 bq8) n (f129_fr6 a0 q7 q8) (f129_k6 K a0 (realL (f129E K) 0)) = f129_l6 K a0 n q7 q8 := by
  have key : ∀ (lr : LR (List tV)) (L : Fr → Option (List tV)) (q7 : Int) (q8 : List tV), execG (f129E K) 0 lr (selC f129C [1, 1, 0, 1, 0, 0]) (f129_fr6 a0 q7 q8) (loopK 0 (f129_fr6 a0 bq7 bq8) L (f129_k6 K a0 lr)) = f129_b6 K a0 (fun c0 d0 d1 => lr (selC f129C [1, 1, 0, 1, 0, 0, 1, 0, 0, 1, 0, 0]) (f129_fr9 a0 c0 d0 d1) (f129_k9 K a0 L bq7 bq8 lr)) (fun v0 v1 => L (f129_fr6 a0 v0 v1)) q7 q8 := by
    intro lr L q7 q8; kernel_rfl
  intro n q7 q8
  refine loopN_iter (X := Int × List tV) (frame := fun x => (f129_fr6 a0 x.1 x.2)) (body := (fun L x => (fun L6 => f129_b6 K a0 (fun c0 d0 d1 => f129_l9 K a0 c0 L6 K d0 d1) L6 x.1 x.2) (fun v0 v1 => L (v0, v1)))) (fun L x => ?_) n (q7, q8)
  rw [exec_G]
  have h9 : (fun c0 d0 d1 => (realL (f129E K) 0) (selC f129C [1, 1, 0, 1, 0, 0, 1, 0, 0, 1, 0, 0]) (f129_fr9 a0 c0 d0 d1) (f129_k9 K a0 L bq7 bq8 (realL (f129E K) 0))) = fun c0 d0 d1 => f129_l9 K a0 c0 (fun v0 v1 => L (f129_fr6 a0 v0 v1)) K d0 d1 := by
    funext c0 d0 d1
    exact f129_t9 K a0 c0 L bq7 bq8 d0 d1 K d0 d1
  exact (key (realL (f129E K) 0) L x.1 x.2).trans (by rw [h9] <;> rfl)
theorem f129_run (K : Nat) (a0 : Int × Int × Int) : runF (f129E K) Tryz.f129 [(.ro, sL)] [(.list 53 sV)] (a0, ()) = f129G K a0 := by
  have key : ∀ (lr : LR (List tV)), runG (f129E K) Tryz.f129 [(.ro, sL)] [(.list 53 sV)] (a0, ()) lr = f129_g K a0 (fun d0 d1 => lr (selC f129C [1, 1, 0, 1, 0, 0]) (f129_fr6 a0 d0 d1) (f129_k6 K a0 lr)) := by intro lr; kernel_rfl
  have h6 : (fun d0 d1 => (realL (f129E K) 0) (selC f129C [1, 1, 0, 1, 0, 0]) (f129_fr6 a0 d0 d1) (f129_k6 K a0 (realL (f129E K) 0))) = fun d0 d1 => f129_l6 K a0 K d0 d1 := by
    funext d0 d1
    exact f129_t6 K a0 d0 d1 K d0 d1
  exact runF_G (n0 := 0) (by rfl) ((key (realL (f129E K) 0)).trans (by rw [h6] <;> rfl))
theorem f197_run (K : Nat) (a0 : tA × Int × Int) (a1 : Int × Int) : runF (f197E K) Tryz.f197 [(.ro, sM), (.ro, sV)] [sV] (a0, a1, ()) = f197G K a0 a1 := by kernel_rfl
theorem f147_run (K : Nat) (a0 : Int × Int × Int) (a1 : tA × Int × Int) (a2 : Int × Int) : runF (f147E K) Tryz.f147 [(.ro, sL), (.ro, sM), (.ro, sV)] [sV] (a0, a1, a2, ()) = f147G K a0 a1 a2 := by kernel_rfl
theorem f100_t3 (K : Nat) (a0 : List tV) (a1 : Int × Int) (bq4 : Int) : ∀ (n : Nat) (q4 : Int), loopN (exec (f100E K) 1 (selC f100C [1, 1, 0, 0, 0])) 1 (f100_fr3 a0 a1 bq4) n (f100_fr3 a0 a1 q4) (f100_k3 K a0 a1 (realL (f100E K) 1)) = f100_l3 K a0 a1 n q4 := by
  have key : ∀ (lr : LR (List tV)) (L : Fr → Option (List tV)) (q4 : Int), execG (f100E K) 1 lr (selC f100C [1, 1, 0, 0, 0]) (f100_fr3 a0 a1 q4) (loopK 1 (f100_fr3 a0 a1 bq4) L (f100_k3 K a0 a1 lr)) = f100_b3 K a0 a1 (fun v0 => L (f100_fr3 a0 a1 v0)) q4 := by
    intro lr L q4; kernel_rfl
  intro n q4
  refine loopN_iter (X := Int) (frame := fun x => (f100_fr3 a0 a1 x)) (body := (fun L x => (fun L3 => f100_b3 K a0 a1 L3 x) (fun v0 => L v0))) (fun L x => ?_) n q4
  rw [exec_G]
  exact (key (realL (f100E K) 1) L x).trans (by rfl)
theorem f100_run (K : Nat) (a0 : List tV) (a1 : Int × Int) : runF (f100E K) Tryz.f100 [(.mv, (.list 53 sV)), (.ro, sV)] [(.list 53 sV)] (a0, a1, ()) = f100G K a0 a1 := by
  have key : ∀ (lr : LR (List tV)), runG (f100E K) Tryz.f100 [(.mv, (.list 53 sV)), (.ro, sV)] [(.list 53 sV)] (a0, a1, ()) lr = f100_g K a0 a1 (fun d0 => lr (selC f100C [1, 1, 0, 0, 0]) (f100_fr3 a0 a1 d0) (f100_k3 K a0 a1 lr)) := by intro lr; kernel_rfl
  have h3 : (fun d0 => (realL (f100E K) 1) (selC f100C [1, 1, 0, 0, 0]) (f100_fr3 a0 a1 d0) (f100_k3 K a0 a1 (realL (f100E K) 1))) = fun d0 => f100_l3 K a0 a1 K d0 := by
    funext d0
    exact f100_t3 K a0 a1 d0 K d0
  exact runF_G (n0 := 1) (by rfl) ((key (realL (f100E K) 1)).trans (by rw [h3] <;> rfl))
theorem f77_t4 (K : Nat) (a0 : Int × Int × Int) (a1 : List tM) (a2 : Int × Int) (bq5 : Int) (bq6 : List tV) : ∀ (n : Nat) (q5 : Int) (q6 : List tV), loopN (exec (f77E K) 1 (selC f77C [1, 1, 0, 1, 0, 0])) 1 (f77_fr4 a0 a1 a2 bq5 bq6) n (f77_fr4 a0 a1 a2 q5 q6) (f77_k4 K a0 a1 a2 (realL (f77E K) 1)) = f77_l4 K a0 a1 a2 n q5 q6 := by
  have key : ∀ (lr : LR (List tV)) (L : Fr → Option (List tV)) (q5 : Int) (q6 : List tV), execG (f77E K) 1 lr (selC f77C [1, 1, 0, 1, 0, 0]) (f77_fr4 a0 a1 a2 q5 q6) (loopK 1 (f77_fr4 a0 a1 a2 bq5 bq6) L (f77_k4 K a0 a1 a2 lr)) = f77_b4 K a0 a1 a2 (fun v0 v1 => L (f77_fr4 a0 a1 a2 v0 v1)) q5 q6 := by
    intro lr L q5 q6; kernel_rfl
  intro n q5 q6
  refine loopN_iter (X := Int × List tV) (frame := fun x => (f77_fr4 a0 a1 a2 x.1 x.2)) (body := (fun L x => (fun L4 => f77_b4 K a0 a1 a2 L4 x.1 x.2) (fun v0 v1 => L (v0, v1)))) (fun L x => ?_) n (q5, q6)
  rw [exec_G]
  exact (key (realL (f77E K) 1) L x.1 x.2).trans (by rfl)
theorem f77_run (K : Nat) (a0 : Int × Int × Int) (a1 : List tM) (a2 : Int × Int) : runF (f77E K) Tryz.f77 [(.ro, sL), (.ro, (.list 91 sM)), (.ro, sV)] [(.list 53 sV)] (a0, a1, a2, ()) = f77G K a0 a1 a2 := by
  have key : ∀ (lr : LR (List tV)), runG (f77E K) Tryz.f77 [(.ro, sL), (.ro, (.list 91 sM)), (.ro, sV)] [(.list 53 sV)] (a0, a1, a2, ()) lr = f77_g K a0 a1 a2 (fun d0 d1 => lr (selC f77C [1, 1, 0, 1, 0, 0]) (f77_fr4 a0 a1 a2 d0 d1) (f77_k4 K a0 a1 a2 lr)) := by intro lr; kernel_rfl
  have h4 : (fun d0 d1 => (realL (f77E K) 1) (selC f77C [1, 1, 0, 1, 0, 0]) (f77_fr4 a0 a1 a2 d0 d1) (f77_k4 K a0 a1 a2 (realL (f77E K) 1))) = fun d0 d1 => f77_l4 K a0 a1 a2 K d0 d1 := by
    funext d0 d1
    exact f77_t4 K a0 a1 a2 d0 d1 K d0 d1
  exact runF_G (n0 := 1) (by rfl) ((key (realL (f77E K) 1)).trans (by rw [h4] <;> rfl))
theorem f60_t4 (K : Nat) (a0 : Int × Int × Int) (a1 : List tM) (y1 : List tV) (bq5 : Int) (bq6 : List (List tV)) : ∀ (n : Nat) (q5 : Int) (q6 : List (List tV)), loopN (exec (f60E K) 1 (selC f60C [1, 1, 1, 0, 1, 0, 0])) 1 (f60_fr4 a0 a1 y1 bq5 bq6) n (f60_fr4 a0 a1 y1 q5 q6) (f60_k4 K a0 a1 (realL (f60E K) 1)) = f60_l4 K a0 a1 y1 n q5 q6 := by
  have key : ∀ (lr : LR (List (List tV))) (L : Fr → Option (List (List tV))) (q5 : Int) (q6 : List (List tV)), execG (f60E K) 1 lr (selC f60C [1, 1, 1, 0, 1, 0, 0]) (f60_fr4 a0 a1 y1 q5 q6) (loopK 1 (f60_fr4 a0 a1 y1 bq5 bq6) L (f60_k4 K a0 a1 lr)) = f60_b4 K a0 a1 y1 (fun v0 v1 => L (f60_fr4 a0 a1 y1 v0 v1)) q5 q6 := by
    intro lr L q5 q6; kernel_rfl
  intro n q5 q6
  refine loopN_iter (X := Int × List (List tV)) (frame := fun x => (f60_fr4 a0 a1 y1 x.1 x.2)) (body := (fun L x => (fun L4 => f60_b4 K a0 a1 y1 L4 x.1 x.2) (fun v0 v1 => L (v0, v1)))) (fun L x => ?_) n (q5, q6)
  rw [exec_G]
  exact (key (realL (f60E K) 1) L x.1 x.2).trans (by rfl)
theorem f60_run (K : Nat) (a0 : Int × Int × Int) (a1 : List tM) : runF (f60E K) Tryz.f60 [(.ro, sL), (.ro, (.list 91 sM))] [(.list 72 (.list 53 sV))] (a0, a1, ()) = f60G K a0 a1 := by
  have key : ∀ (lr : LR (List (List tV))), runG (f60E K) Tryz.f60 [(.ro, sL), (.ro, (.list 91 sM))] [(.list 72 (.list 53 sV))] (a0, a1, ()) lr = f60_g K a0 a1 (fun c0 d0 d1 => lr (selC f60C [1, 1, 1, 0, 1, 0, 0]) (f60_fr4 a0 a1 c0 d0 d1) (f60_k4 K a0 a1 lr)) := by intro lr; kernel_rfl
  have h4 : (fun c0 d0 d1 => (realL (f60E K) 1) (selC f60C [1, 1, 1, 0, 1, 0, 0]) (f60_fr4 a0 a1 c0 d0 d1) (f60_k4 K a0 a1 (realL (f60E K) 1))) = fun c0 d0 d1 => f60_l4 K a0 a1 c0 K d0 d1 := by
    funext c0 d0 d1
    exact f60_t4 K a0 a1 c0 d0 d1 K d0 d1
  exact runF_G (n0 := 1) (by rfl) ((key (realL (f60E K) 1)).trans (by rw [h4] <;> rfl))
theorem f98_t4 (K : Nat) (a0 : Int) (a1 : Int × Int × Int) (a2 : List tM) (y1 : Int) (y2 : List (List tV)) (bq5 : Int) : ∀ (n : Nat) (q5 : Int), loopN (exec (f98E K) 1 (selC f98C [1, 1, 1, 1, 0, 1, 0, 0])) 1 (f98_fr4 a0 a1 a2 y1 y2 bq5) n (f98_fr4 a0 a1 a2 y1 y2 q5) (f98_k4 K a0 a1 a2 (realL (f98E K) 1)) = f98_l4 K a0 a1 a2 y1 y2 n q5 := by
  have key : ∀ (lr : LR ((List (List tV)) × Int)) (L : Fr → Option ((List (List tV)) × Int)) (q5 : Int), execG (f98E K) 1 lr (selC f98C [1, 1, 1, 1, 0, 1, 0, 0]) (f98_fr4 a0 a1 a2 y1 y2 q5) (loopK 1 (f98_fr4 a0 a1 a2 y1 y2 bq5) L (f98_k4 K a0 a1 a2 lr)) = f98_b4 K a0 a1 a2 y1 y2 (fun v0 => L (f98_fr4 a0 a1 a2 y1 y2 v0)) q5 := by
    intro lr L q5; kernel_rfl
  intro n q5
  refine loopN_iter (X := Int) (frame := fun x => (f98_fr4 a0 a1 a2 y1 y2 x)) (body := (fun L x => (fun L4 => f98_b4 K a0 a1 a2 y1 y2 L4 x) (fun v0 => L v0))) (fun L x => ?_) n q5
  rw [exec_G]
  exact (key (realL (f98E K) 1) L x).trans (by rfl)
theorem f98_run (K : Nat) (a0 : Int) (a1 : Int × Int × Int) (a2 : List tM) : runF (f98E K) Tryz.f98 [(.ro, sI), (.ro, sL), (.ro, (.list 91 sM))] [(.list 72 (.list 53 sV)), sI] (a0, a1, a2, ()) = f98G K a0 a1 a2 := by
  have key : ∀ (lr : LR ((List (List tV)) × Int)), runG (f98E K) Tryz.f98 [(.ro, sI), (.ro, sL), (.ro, (.list 91 sM))] [(.list 72 (.list 53 sV)), sI] (a0, a1, a2, ()) lr = f98_g K a0 a1 a2 (fun c0 c1 d0 => lr (selC f98C [1, 1, 1, 1, 0, 1, 0, 0]) (f98_fr4 a0 a1 a2 c0 c1 d0) (f98_k4 K a0 a1 a2 lr)) := by intro lr; kernel_rfl
  have h4 : (fun c0 c1 d0 => (realL (f98E K) 1) (selC f98C [1, 1, 1, 1, 0, 1, 0, 0]) (f98_fr4 a0 a1 a2 c0 c1 d0) (f98_k4 K a0 a1 a2 (realL (f98E K) 1))) = fun c0 c1 d0 => f98_l4 K a0 a1 a2 c0 c1 K d0 := by
    funext c0 c1 d0
    exact f98_t4 K a0 a1 a2 c0 c1 d0 K d0
  exact runF_G (n0 := 1) (by rfl) ((key (realL (f98E K) 1)).trans (by rw [h4] <;> rfl))
theorem f78_run (K : Nat) (a0 : Int × Int × Int) (a1 : Int × Int) : runF (f78E K) Tryz.f78 [(.ro, sL), (.ro, sV)] [sI] (a0, a1, ()) = f78G K a0 a1 := by kernel_rfl
theorem f85_t12 (K : Nat) (a0 : Int × Int × Int) (a1 : List tM) (y1 : List (List tV)) (q10 : Int) (F9 : Fr → Option (List Int)) (bq10 : Int) (bq11 : List Int) (bq13 : Int) (bq14 : List Int) : ∀ (n : Nat) (q13 : Int) (q14 : List Int), loopN (exec (f85E K) 1 (selC f85C [1, 1, 1, 0, 1, 0, 0, 1, 0, 0, 1, 0, 0])) 1 (f85_fr12 a0 a1 q10 y1 bq13 bq14) n (f85_fr12 a0 a1 q10 y1 q13 q14) (f85_k12 K a0 a1 y1 F9 bq10 bq11 (realL (f85E K) 1)) = f85_l12 K a0 a1 q10 y1 (fun v0 v1 => F9 (f85_fr9 a0 a1 y1 v0 v1)) n q13 q14 := by
  have key : ∀ (lr : LR (List Int)) (L : Fr → Option (List Int)) (q13 : Int) (q14 : List Int), execG (f85E K) 1 lr (selC f85C [1, 1, 1, 0, 1, 0, 0, 1, 0, 0, 1, 0, 0]) (f85_fr12 a0 a1 q10 y1 q13 q14) (loopK 1 (f85_fr12 a0 a1 q10 y1 bq13 bq14) L (f85_k12 K a0 a1 y1 F9 bq10 bq11 lr)) = f85_b12 K a0 a1 q10 y1 (fun v0 v1 => F9 (f85_fr9 a0 a1 y1 v0 v1)) (fun v0 v1 => L (f85_fr12 a0 a1 q10 y1 v0 v1)) q13 q14 := by
    intro lr L q13 q14; kernel_rfl
  intro n q13 q14
  refine loopN_iter (X := Int × List Int) (frame := fun x => (f85_fr12 a0 a1 q10 y1 x.1 x.2)) (body := (fun L x => (fun L12 => f85_b12 K a0 a1 q10 y1 (fun v0 v1 => F9 (f85_fr9 a0 a1 y1 v0 v1)) L12 x.1 x.2) (fun v0 v1 => L (v0, v1)))) (fun L x => ?_) n (q13, q14)
  rw [exec_G]
  exact (key (realL (f85E K) 1) L x.1 x.2).trans (by rfl)
theorem f85_t9 (K : Nat) (a0 : Int × Int × Int) (a1 : List tM) (y1 : List (List tV)) (bq10 : Int) (bq11 : List Int) : ∀ (n : Nat) (q10 : Int) (q11 : List Int), loopN (exec (f85E K) 1 (selC f85C [1, 1, 1, 0, 1, 0, 0])) 1 (f85_fr9 a0 a1 y1 bq10 bq11) n (f85_fr9 a0 a1 y1 q10 q11) (f85_k9 K a0 a1 (realL (f85E K) 1)) = f85_l9 K a0 a1 y1 n q10 q11 := by
  have key : ∀ (lr : LR (List Int)) (L : Fr → Option (List Int)) (q10 : Int) (q11 : List Int), execG (f85E K) 1 lr (selC f85C [1, 1, 1, 0, 1, 0, 0]) (f85_fr9 a0 a1 y1 q10 q11) (loopK 1 (f85_fr9 a0 a1 y1 bq10 bq11) L (f85_k9 K a0 a1 lr)) = f85_b9 K a0 a1 y1 (fun c0 d0 d1 => lr (selC f85C [1, 1, 1, 0, 1, 0, 0, 1, 0, 0, 1, 0, 0]) (f85_fr12 a0 a1 c0 y1 d0 d1) (f85_k12 K a0 a1 y1 L bq10 bq11 lr)) (fun v0 v1 => L (f85_fr9 a0 a1 y1 v0 v1)) q10 q11 := by
    intro lr L q10 q11; kernel_rfl
  intro n q10 q11
  refine loopN_iter (X := Int × List Int) (frame := fun x => (f85_fr9 a0 a1 y1 x.1 x.2)) (body := (fun L x => (fun L9 => f85_b9 K a0 a1 y1 (fun c0 d0 d1 => f85_l12 K a0 a1 c0 y1 L9 K d0 d1) L9 x.1 x.2) (fun v0 v1 => L (v0, v1)))) (fun L x => ?_) n (q10, q11)
  rw [exec_G]
  have h12 : (fun c0 d0 d1 => (realL (f85E K) 1) (selC f85C [1, 1, 1, 0, 1, 0, 0, 1, 0, 0, 1, 0, 0]) (f85_fr12 a0 a1 c0 y1 d0 d1) (f85_k12 K a0 a1 y1 L bq10 bq11 (realL (f85E K) 1))) = fun c0 d0 d1 => f85_l12 K a0 a1 c0 y1 (fun v0 v1 => L (f85_fr9 a0 a1 y1 v0 v1)) K d0 d1 := by
    funext c0 d0 d1
    exact f85_t12 K a0 a1 y1 c0 L bq10 bq11 d0 d1 K d0 d1
  exact (key (realL (f85E K) 1) L x.1 x.2).trans (by rw [h12] <;> rfl)
theorem f85_run (K : Nat) (a0 : Int × Int × Int) (a1 : List tM) : runF (f85E K) Tryz.f85 [(.ro, sL), (.ro, (.list 91 sM))] [(.list 2 sI)] (a0, a1, ()) = f85G K a0 a1 := by
  have key : ∀ (lr : LR (List Int)), runG (f85E K) Tryz.f85 [(.ro, sL), (.ro, (.list 91 sM))] [(.list 2 sI)] (a0, a1, ()) lr = f85_g K a0 a1 (fun c0 d0 d1 => lr (selC f85C [1, 1, 1, 0, 1, 0, 0]) (f85_fr9 a0 a1 c0 d0 d1) (f85_k9 K a0 a1 lr)) := by intro lr; kernel_rfl
  have h9 : (fun c0 d0 d1 => (realL (f85E K) 1) (selC f85C [1, 1, 1, 0, 1, 0, 0]) (f85_fr9 a0 a1 c0 d0 d1) (f85_k9 K a0 a1 (realL (f85E K) 1))) = fun c0 d0 d1 => f85_l9 K a0 a1 c0 K d0 d1 := by
    funext c0 d0 d1
    exact f85_t9 K a0 a1 c0 d0 d1 K d0 d1
  exact runF_G (n0 := 1) (by rfl) ((key (realL (f85E K) 1)).trans (by rw [h9] <;> rfl))
theorem f169_run (K : Nat) : runF (f169E K) Tryz.f169 [] [(.list 53 sV)] (()) = f169G K := by kernel_rfl
theorem f99_t28 (K : Nat) (a0 : Int × Int × Int) (a1 : List Int) (a2 : List tV) (y1 : List tV) (y2 : List tV) (q22 : Int) (q25 : Bool) (q26 : Int) (y27 : Int) (F21 : Fr → Option (tV × Bool)) (bq22 : Int) (F23 : Fr → Option (tV × Bool)) (bq24 : Bool) (bq25 : Bool) (bq26 : Int) (bq29 : Bool) (bq30 : Int) : ∀ (n : Nat) (q29 : Bool) (q30 : Int), loopN (exec (f99E K) 2 (selC f99C [1, 1, 0, 1, 0, 0, 1, 0, 0, 1, 0, 1, 0, 0, 1, 0, 0, 1, 1, 0, 0])) 2 (f99_fr28 a0 a1 a2 q22 q25 q26 y1 y2 y27 bq29 bq30) n (f99_fr28 a0 a1 a2 q22 q25 q26 y1 y2 y27 q29 q30) (f99_k28 K a0 a1 a2 y1 y2 q22 F21 bq22 F23 bq24 bq25 bq26 (realL (f99E K) 2)) = f99_l28 K a0 a1 a2 q22 q25 q26 y1 y2 y27 (fun v0 v1 v2 => F23 (f99_fr23 a0 a1 a2 q22 y1 y2 v0 v1 v2)) n q29 q30 := by
  have key : ∀ (lr : LR (tV × Bool)) (L : Fr → Option (tV × Bool)) (q29 : Bool) (q30 : Int), execG (f99E K) 2 lr (selC f99C [1, 1, 0, 1, 0, 0, 1, 0, 0, 1, 0, 1, 0, 0, 1, 0, 0, 1, 1, 0, 0]) (f99_fr28 a0 a1 a2 q22 q25 q26 y1 y2 y27 q29 q30) (loopK 2 (f99_fr28 a0 a1 a2 q22 q25 q26 y1 y2 y27 bq29 bq30) L (f99_k28 K a0 a1 a2 y1 y2 q22 F21 bq22 F23 bq24 bq25 bq26 lr)) = f99_b28 K a0 a1 a2 q22 q25 q26 y1 y2 y27 (fun v0 v1 v2 => F23 (f99_fr23 a0 a1 a2 q22 y1 y2 v0 v1 v2)) (fun v0 v1 => L (f99_fr28 a0 a1 a2 q22 q25 q26 y1 y2 y27 v0 v1)) q29 q30 := by
    intro lr L q29 q30; kernel_rfl
  intro n q29 q30
  refine loopN_iter (X := Bool × Int) (frame := fun x => (f99_fr28 a0 a1 a2 q22 q25 q26 y1 y2 y27 x.1 x.2)) (body := (fun L x => (fun L28 => f99_b28 K a0 a1 a2 q22 q25 q26 y1 y2 y27 (fun v0 v1 v2 => F23 (f99_fr23 a0 a1 a2 q22 y1 y2 v0 v1 v2)) L28 x.1 x.2) (fun v0 v1 => L (v0, v1)))) (fun L x => ?_) n (q29, q30)
  rw [exec_G]
  exact (key (realL (f99E K) 2) L x.1 x.2).trans (by rfl)
theorem f99_t23 (K : Nat) (a0 : Int × Int × Int) (a1 : List Int) (a2 : List tV) (y1 : List tV) (y2 : List tV) (q22 : Int) (F21 : Fr → Option (tV × Bool)) (bq22 : Int) (bq24 : Bool) (bq25 : Bool) (bq26 : Int) : ∀ (n : Nat) (q24 : Bool) (q25 : Bool) (q26 : Int), loopN (exec (f99E K) 2 (selC f99C [1, 1, 0, 1, 0, 0, 1, 0, 0, 1, 0, 1, 0, 0])) 2 (f99_fr23 a0 a1 a2 q22 y1 y2 bq24 bq25 bq26) n (f99_fr23 a0 a1 a2 q22 y1 y2 q24 q25 q26) (f99_k23 K a0 a1 a2 y1 y2 F21 bq22 (realL (f99E K) 2)) = f99_l23 K a0 a1 a2 q22 y1 y2 (fun v0 => F21 (f99_fr21 a0 a1 a2 y1 y2 v0)) n q24 q25 q26 := by
  have key : ∀ (lr : LR (tV × Bool)) (L : Fr → Option (tV × Bool)) (q24 : Bool) (q25 : Bool) (q26 : Int), execG (f99E K) 2 lr (selC f99C [1, 1, 0, 1, 0, 0, 1, 0, 0, 1, 0, 1, 0, 0]) (f99_fr23 a0 a1 a2 q22 y1 y2 q24 q25 q26) (loopK 2 (f99_fr23 a0 a1 a2 q22 y1 y2 bq24 bq25 bq26) L (f99_k23 K a0 a1 a2 y1 y2 F21 bq22 lr)) = f99_b23 K a0 a1 a2 q22 y1 y2 (fun c0 c1 c2 d0 d1 => lr (selC f99C [1, 1, 0, 1, 0, 0, 1, 0, 0, 1, 0, 1, 0, 0, 1, 0, 0, 1, 1, 0, 0]) (f99_fr28 a0 a1 a2 q22 c0 c1 y1 y2 c2 d0 d1) (f99_k28 K a0 a1 a2 y1 y2 q22 F21 bq22 L bq24 bq25 bq26 lr)) (fun v0 => F21 (f99_fr21 a0 a1 a2 y1 y2 v0)) (fun v0 v1 v2 => L (f99_fr23 a0 a1 a2 q22 y1 y2 v0 v1 v2)) q24 q25 q26 := by
    intro lr L q24 q25 q26; kernel_rfl
  intro n q24 q25 q26
  refine loopN_iter (X := Bool × Bool × Int) (frame := fun x => (f99_fr23 a0 a1 a2 q22 y1 y2 x.1 x.2.1 x.2.2)) (body := (fun L x => (fun L23 => f99_b23 K a0 a1 a2 q22 y1 y2 (fun c0 c1 c2 d0 d1 => f99_l28 K a0 a1 a2 q22 c0 c1 y1 y2 c2 L23 K d0 d1) (fun v0 => F21 (f99_fr21 a0 a1 a2 y1 y2 v0)) L23 x.1 x.2.1 x.2.2) (fun v0 v1 v2 => L (v0, v1, v2)))) (fun L x => ?_) n (q24, q25, q26)
  rw [exec_G]
  have h28 : (fun c0 c1 c2 d0 d1 => (realL (f99E K) 2) (selC f99C [1, 1, 0, 1, 0, 0, 1, 0, 0, 1, 0, 1, 0, 0, 1, 0, 0, 1, 1, 0, 0]) (f99_fr28 a0 a1 a2 q22 c0 c1 y1 y2 c2 d0 d1) (f99_k28 K a0 a1 a2 y1 y2 q22 F21 bq22 L bq24 bq25 bq26 (realL (f99E K) 2))) = fun c0 c1 c2 d0 d1 => f99_l28 K a0 a1 a2 q22 c0 c1 y1 y2 c2 (fun v0 v1 v2 => L (f99_fr23 a0 a1 a2 q22 y1 y2 v0 v1 v2)) K d0 d1 := by
    funext c0 c1 c2 d0 d1
    exact f99_t28 K a0 a1 a2 y1 y2 q22 c0 c1 c2 F21 bq22 L bq24 bq25 bq26 d0 d1 K d0 d1
  exact (key (realL (f99E K) 2) L x.1 x.2.1 x.2.2).trans (by rw [h28] <;> rfl)
theorem f99_t21 (K : Nat) (a0 : Int × Int × Int) (a1 : List Int) (a2 : List tV) (y1 : List tV) (y2 : List tV) (bq22 : Int) : ∀ (n : Nat) (q22 : Int), loopN (exec (f99E K) 2 (selC f99C [1, 1, 0, 1, 0, 0])) 2 (f99_fr21 a0 a1 a2 y1 y2 bq22) n (f99_fr21 a0 a1 a2 y1 y2 q22) (f99_k21 K a0 a1 a2 (realL (f99E K) 2)) = f99_l21 K a0 a1 a2 y1 y2 n q22 := by
  have key : ∀ (lr : LR (tV × Bool)) (L : Fr → Option (tV × Bool)) (q22 : Int), execG (f99E K) 2 lr (selC f99C [1, 1, 0, 1, 0, 0]) (f99_fr21 a0 a1 a2 y1 y2 q22) (loopK 2 (f99_fr21 a0 a1 a2 y1 y2 bq22) L (f99_k21 K a0 a1 a2 lr)) = f99_b21 K a0 a1 a2 y1 y2 (fun c0 d0 d1 d2 => lr (selC f99C [1, 1, 0, 1, 0, 0, 1, 0, 0, 1, 0, 1, 0, 0]) (f99_fr23 a0 a1 a2 c0 y1 y2 d0 d1 d2) (f99_k23 K a0 a1 a2 y1 y2 L bq22 lr)) (fun v0 => L (f99_fr21 a0 a1 a2 y1 y2 v0)) q22 := by
    intro lr L q22; kernel_rfl
  intro n q22
  refine loopN_iter (X := Int) (frame := fun x => (f99_fr21 a0 a1 a2 y1 y2 x)) (body := (fun L x => (fun L21 => f99_b21 K a0 a1 a2 y1 y2 (fun c0 d0 d1 d2 => f99_l23 K a0 a1 a2 c0 y1 y2 L21 K d0 d1 d2) L21 x) (fun v0 => L v0))) (fun L x => ?_) n q22
  rw [exec_G]
  have h23 : (fun c0 d0 d1 d2 => (realL (f99E K) 2) (selC f99C [1, 1, 0, 1, 0, 0, 1, 0, 0, 1, 0, 1, 0, 0]) (f99_fr23 a0 a1 a2 c0 y1 y2 d0 d1 d2) (f99_k23 K a0 a1 a2 y1 y2 L bq22 (realL (f99E K) 2))) = fun c0 d0 d1 d2 => f99_l23 K a0 a1 a2 c0 y1 y2 (fun v0 => L (f99_fr21 a0 a1 a2 y1 y2 v0)) K d0 d1 d2 := by
    funext c0 d0 d1 d2
    exact f99_t23 K a0 a1 a2 y1 y2 c0 L bq22 d0 d1 d2 K d0 d1 d2
  exact (key (realL (f99E K) 2) L x).trans (by rw [h23] <;> rfl)
theorem f99_run (K : Nat) (a0 : Int × Int × Int) (a1 : List Int) (a2 : List tV) : runF (f99E K) Tryz.f99 [(.ro, sL), (.ro, (.list 2 sI)), (.ro, (.list 53 sV))] [sV, .bool] (a0, a1, a2, ()) = f99G K a0 a1 a2 := by
  have key : ∀ (lr : LR (tV × Bool)), runG (f99E K) Tryz.f99 [(.ro, sL), (.ro, (.list 2 sI)), (.ro, (.list 53 sV))] [sV, .bool] (a0, a1, a2, ()) lr = f99_g K a0 a1 a2 (fun c0 c1 d0 => lr (selC f99C [1, 1, 0, 1, 0, 0]) (f99_fr21 a0 a1 a2 c0 c1 d0) (f99_k21 K a0 a1 a2 lr)) := by intro lr; kernel_rfl
  have h21 : (fun c0 c1 d0 => (realL (f99E K) 2) (selC f99C [1, 1, 0, 1, 0, 0]) (f99_fr21 a0 a1 a2 c0 c1 d0) (f99_k21 K a0 a1 a2 (realL (f99E K) 2))) = fun c0 c1 d0 => f99_l21 K a0 a1 a2 c0 c1 K d0 := by
    funext c0 c1 d0
    exact f99_t21 K a0 a1 a2 c0 c1 d0 K d0
  exact runF_G (n0 := 2) (by rfl) ((key (realL (f99E K) 2)).trans (by rw [h21] <;> rfl))
theorem f45_t6 (K : Nat) (a0 : Int) (a1 : Int × Int × Int) (a2 : List tM) (y1 : (List (List tV)) × Int) (y2 : List Int) (bq7 : List tV) : ∀ (n : Nat) (q7 : List tV), loopN (exec (f45E K) 1 (selC f45C [1, 1, 1, 1, 1, 0, 0, 0])) 1 (f45_fr6 a0 a1 a2 y1 y2 bq7) n (f45_fr6 a0 a1 a2 y1 y2 q7) (f45_k6 K a0 a1 a2 (realL (f45E K) 1)) = f45_l6 K a0 a1 a2 y1 y2 n q7 := by
  have key : ∀ (lr : LR ((List tV) × Int)) (L : Fr → Option ((List tV) × Int)) (q7 : List tV), execG (f45E K) 1 lr (selC f45C [1, 1, 1, 1, 1, 0, 0, 0]) (f45_fr6 a0 a1 a2 y1 y2 q7) (loopK 1 (f45_fr6 a0 a1 a2 y1 y2 bq7) L (f45_k6 K a0 a1 a2 lr)) = f45_b6 K a0 a1 a2 y1 y2 (fun v0 => L (f45_fr6 a0 a1 a2 y1 y2 v0)) q7 := by
    intro lr L q7; kernel_rfl
  intro n q7
  refine loopN_iter (X := List tV) (frame := fun x => (f45_fr6 a0 a1 a2 y1 y2 x)) (body := (fun L x => (fun L6 => f45_b6 K a0 a1 a2 y1 y2 L6 x) (fun v0 => L v0))) (fun L x => ?_) n q7
  rw [exec_G]
  exact (key (realL (f45E K) 1) L x).trans (by rfl)
theorem f45_run (K : Nat) (a0 : Int) (a1 : Int × Int × Int) (a2 : List tM) : runF (f45E K) Tryz.f45 [(.ro, sI), (.ro, sL), (.ro, (.list 91 sM))] [(.list 53 sV), sI] (a0, a1, a2, ()) = f45G K a0 a1 a2 := by
  have key : ∀ (lr : LR ((List tV) × Int)), runG (f45E K) Tryz.f45 [(.ro, sI), (.ro, sL), (.ro, (.list 91 sM))] [(.list 53 sV), sI] (a0, a1, a2, ()) lr = f45_g K a0 a1 a2 (fun c0 c1 d0 => lr (selC f45C [1, 1, 1, 1, 1, 0, 0, 0]) (f45_fr6 a0 a1 a2 c0 c1 d0) (f45_k6 K a0 a1 a2 lr)) := by intro lr; kernel_rfl
  have h6 : (fun c0 c1 d0 => (realL (f45E K) 1) (selC f45C [1, 1, 1, 1, 1, 0, 0, 0]) (f45_fr6 a0 a1 a2 c0 c1 d0) (f45_k6 K a0 a1 a2 (realL (f45E K) 1))) = fun c0 c1 d0 => f45_l6 K a0 a1 a2 c0 c1 K d0 := by
    funext c0 c1 d0
    exact f45_t6 K a0 a1 a2 c0 c1 d0 K d0
  exact runF_G (n0 := 1) (by rfl) ((key (realL (f45E K) 1)).trans (by rw [h6] <;> rfl))
theorem f63_run (K : Nat) (a0 : Int) (a1 : Int) (a2 : Int) : runF (f63E K) Tryz.f63 [(.ro, sI), (.ro, sI), (.ro, sI)] [.bool] (a0, a1, a2, ()) = f63G K a0 a1 a2 := by kernel_rfl
theorem f138_run (K : Nat) (a0 : Int) : runF (f138E K) Tryz.f138 [(.ro, sI)] [.bool] (a0, ()) = f138G K a0 := by kernel_rfl
theorem f140_run (K : Nat) (a0 : Int × Int × Int) : runF (f140E K) Tryz.f140 [(.ro, sL)] [sI] (a0, ()) = f140G K a0 := by kernel_rfl
theorem f139_run (K : Nat) (a0 : Int × Int × Int) : runF (f139E K) Tryz.f139 [(.ro, sL)] [.bool] (a0, ()) = f139G K a0 := by kernel_rfl
theorem f155_run (K : Nat) (a0 : Int) (a1 : Int × Int × Int) : runF (f155E K) Tryz.f155 [(.ro, sI), (.ro, sL)] [sI] (a0, a1, ()) = f155G K a0 a1 := by kernel_rfl
theorem f198_run (K : Nat) (a0 : Int × Int × Int) : runF (f198E K) Tryz.f198 [(.ro, sL)] [sV, sV] (a0, ()) = f198G K a0 := by kernel_rfl
theorem f206_run (K : Nat) (a0 : Int × Int × Int × Int) (a1 : Int × Int) : runF (f206E K) Tryz.f206 [(.ro, sA), (.ro, sV)] [sV] (a0, a1, ()) = f206G K a0 a1 := by kernel_rfl
theorem f250_run (K : Nat) (a0 : Int) (a1 : Int × Int) : runF (f250E K) Tryz.f250 [(.ro, sI), (.ro, sV)] [sI] (a0, a1, ()) = f250G K a0 a1 := by kernel_rfl
theorem f203_t8 (K : Nat) (a0 : Int) (bq9 : Int) (bq10 : List tA) : ∀ (n : Nat) (q9 : Int) (q10 : List tA), loopN (exec (f203E K) 0 (selC f203C [1, 1, 0, 1, 0, 0])) 0 (f203_fr8 a0 bq9 bq10) n (f203_fr8 a0 q9 q10) (f203_k8 K a0 (realL (f203E K) 0)) = f203_l8 K a0 n q9 q10 := by
  have key : ∀ (lr : LR (List tA)) (L : Fr → Option (List tA)) (q9 : Int) (q10 : List tA), execG (f203E K) 0 lr (selC f203C [1, 1, 0, 1, 0, 0]) (f203_fr8 a0 q9 q10) (loopK 0 (f203_fr8 a0 bq9 bq10) L (f203_k8 K a0 lr)) = f203_b8 K a0 (fun v0 v1 => L (f203_fr8 a0 v0 v1)) q9 q10 := by
    intro lr L q9 q10; kernel_rfl
  intro n q9 q10
  refine loopN_iter (X := Int × List tA) (frame := fun x => (f203_fr8 a0 x.1 x.2)) (body := (fun L x => (fun L8 => f203_b8 K a0 L8 x.1 x.2) (fun v0 v1 => L (v0, v1)))) (fun L x => ?_) n (q9, q10)
  rw [exec_G]
  exact (key (realL (f203E K) 0) L x.1 x.2).trans (by rfl)
theorem f203_run (K : Nat) (a0 : Int) : runF (f203E K) Tryz.f203 [(.ro, sI)] [(.list 89 sA)] (a0, ()) = f203G K a0 := by
  have key : ∀ (lr : LR (List tA)), runG (f203E K) Tryz.f203 [(.ro, sI)] [(.list 89 sA)] (a0, ()) lr = f203_g K a0 (fun d0 d1 => lr (selC f203C [1, 1, 0, 1, 0, 0]) (f203_fr8 a0 d0 d1) (f203_k8 K a0 lr)) := by intro lr; kernel_rfl
  have h8 : (fun d0 d1 => (realL (f203E K) 0) (selC f203C [1, 1, 0, 1, 0, 0]) (f203_fr8 a0 d0 d1) (f203_k8 K a0 (realL (f203E K) 0))) = fun d0 d1 => f203_l8 K a0 K d0 d1 := by
    funext d0 d1
    exact f203_t8 K a0 d0 d1 K d0 d1
  exact runF_G (n0 := 0) (by rfl) ((key (realL (f203E K) 0)).trans (by rw [h8] <;> rfl))
theorem f183_run (K : Nat) (a0 : Int) (a1 : Int) : runF (f183E K) Tryz.f183 [(.ro, sI), (.ro, sI)] [sI] (a0, a1, ()) = f183G K a0 a1 := by kernel_rfl
theorem f119_run (K : Nat) (a0 : Int × Int × Int) (a1 : Int × Int) : runF (f119E K) Tryz.f119 [(.ro, sL), (.ro, sV)] [sV] (a0, a1, ()) = f119G K a0 a1 := by kernel_rfl
theorem f205_run (K : Nat) (a0 : Int × Int × Int) (a1 : Int × Int) : runF (f205E K) Tryz.f205 [(.ro, sL), (.ro, sV)] [.bool] (a0, a1, ()) = f205G K a0 a1 := by kernel_rfl
theorem f204_run (K : Nat) (a0 : Int × Int × Int × Int) (a1 : Int × Int × Int) (a2 : Int × Int) (a3 : Int × Int) : runF (f204E K) Tryz.f204 [(.ro, sA), (.cap, sL), (.cap, sV), (.cap, sV)] [.bool] (a0, a1, a2, a3, ()) = f204G K a0 a1 a2 a3 := by kernel_rfl
theorem f249_t3 (K : Nat) (a0 : List tA) (a1 : (tA → Option Bool)) (bq4 : Int) : ∀ (n : Nat) (q4 : Int), loopN (exec (f249E K) 1 (selC f249C [1, 0, 1, 0, 0])) 1 (f249_fr3 a0 a1 bq4) n (f249_fr3 a0 a1 q4) (f249_k3 K a0 a1 (realL (f249E K) 1)) = f249_l3 K a0 a1 n q4 := by
  have key : ∀ (lr : LR Int) (L : Fr → Option Int) (q4 : Int), execG (f249E K) 1 lr (selC f249C [1, 0, 1, 0, 0]) (f249_fr3 a0 a1 q4) (loopK 1 (f249_fr3 a0 a1 bq4) L (f249_k3 K a0 a1 lr)) = f249_b3 K a0 a1 (fun v0 => L (f249_fr3 a0 a1 v0)) q4 := by
    intro lr L q4; kernel_rfl
  intro n q4
  refine loopN_iter (X := Int) (frame := fun x => (f249_fr3 a0 a1 x)) (body := (fun L x => (fun L3 => f249_b3 K a0 a1 L3 x) (fun v0 => L v0))) (fun L x => ?_) n q4
  rw [exec_G]
  exact (key (realL (f249E K) 1) L x).trans (by rfl)
theorem f249_run (K : Nat) (a0 : List tA) (a1 : (tA → Option Bool)) : runF (f249E K) Tryz.f249 [(.ro, (.list 89 sA)), (.ro, (.fn1 sA .bool))] [sI] (a0, a1, ()) = f249G K a0 a1 := by
  have key : ∀ (lr : LR Int), runG (f249E K) Tryz.f249 [(.ro, (.list 89 sA)), (.ro, (.fn1 sA .bool))] [sI] (a0, a1, ()) lr = f249_g K a0 a1 (fun d0 => lr (selC f249C [1, 0, 1, 0, 0]) (f249_fr3 a0 a1 d0) (f249_k3 K a0 a1 lr)) := by intro lr; kernel_rfl
  have h3 : (fun d0 => (realL (f249E K) 1) (selC f249C [1, 0, 1, 0, 0]) (f249_fr3 a0 a1 d0) (f249_k3 K a0 a1 (realL (f249E K) 1))) = fun d0 => f249_l3 K a0 a1 K d0 := by
    funext d0
    exact f249_t3 K a0 a1 d0 K d0
  exact runF_G (n0 := 1) (by rfl) ((key (realL (f249E K) 1)).trans (by rw [h3] <;> rfl))
theorem f202_t4 (K : Nat) (a0 : List tA) (a1 : (tA → Option Bool)) (y1 : Int) (bq5 : Int) (bq6 : Int) (bq7 : List tA) : ∀ (n : Nat) (q5 : Int) (q6 : Int) (q7 : List tA), loopN (exec (f202E K) 1 (selC f202C [1, 1, 1, 0, 1, 0, 0])) 1 (f202_fr4 a1 y1 bq5 bq6 bq7) n (f202_fr4 a1 y1 q5 q6 q7) (f202_k4 K a0 a1 (realL (f202E K) 1)) = f202_l4 K a1 y1 n q5 q6 q7 := by
  have key : ∀ (lr : LR (List tA)) (L : Fr → Option (List tA)) (q5 : Int) (q6 : Int) (q7 : List tA), execG (f202E K) 1 lr (selC f202C [1, 1, 1, 0, 1, 0, 0]) (f202_fr4 a1 y1 q5 q6 q7) (loopK 1 (f202_fr4 a1 y1 bq5 bq6 bq7) L (f202_k4 K a0 a1 lr)) = f202_b4 K a1 y1 (fun v0 v1 v2 => L (f202_fr4 a1 y1 v0 v1 v2)) q5 q6 q7 := by
    intro lr L q5 q6 q7; kernel_rfl
  intro n q5 q6 q7
  refine loopN_iter (X := Int × Int × List tA) (frame := fun x => (f202_fr4 a1 y1 x.1 x.2.1 x.2.2)) (body := (fun L x => (fun L4 => f202_b4 K a1 y1 L4 x.1 x.2.1 x.2.2) (fun v0 v1 v2 => L (v0, v1, v2)))) (fun L x => ?_) n (q5, q6, q7)
  rw [exec_G]
  exact (key (realL (f202E K) 1) L x.1 x.2.1 x.2.2).trans (by rfl)
theorem f202_run (K : Nat) (a0 : List tA) (a1 : (tA → Option Bool)) : runF (f202E K) Tryz.f202 [(.mv, (.list 89 sA)), (.ro, (.fn1 sA .bool))] [(.list 89 sA)] (a0, a1, ()) = f202G K a0 a1 := by
  have key : ∀ (lr : LR (List tA)), runG (f202E K) Tryz.f202 [(.mv, (.list 89 sA)), (.ro, (.fn1 sA .bool))] [(.list 89 sA)] (a0, a1, ()) lr = f202_g K a0 a1 (fun c0 d0 d1 d2 => lr (selC f202C [1, 1, 1, 0, 1, 0, 0]) (f202_fr4 a1 c0 d0 d1 d2) (f202_k4 K a0 a1 lr)) := by intro lr; kernel_rfl
  have h4 : (fun c0 d0 d1 d2 => (realL (f202E K) 1) (selC f202C [1, 1, 1, 0, 1, 0, 0]) (f202_fr4 a1 c0 d0 d1 d2) (f202_k4 K a0 a1 (realL (f202E K) 1))) = fun c0 d0 d1 d2 => f202_l4 K a1 c0 K d0 d1 d2 := by
    funext c0 d0 d1 d2
    exact f202_t4 K a0 a1 c0 d0 d1 d2 K d0 d1 d2
  exact runF_G (n0 := 1) (by rfl) ((key (realL (f202E K) 1)).trans (by rw [h4] <;> rfl))
theorem f144_run (K : Nat) (a0 : Int) (a1 : Int × Int × Int) : runF (f144E K) Tryz.f144 [(.ro, sI), (.ro, sL)] [(.list 89 sA)] (a0, a1, ()) = f144G K a0 a1 := by kernel_rfl
theorem f251_t2 (K : Nat) (a0 : List tA) (a1 : Int × Int × Int × Int) (bq3 : Int) : ∀ (n : Nat) (q3 : Int), loopN (exec (f251E K) 1 (selC f251C [1, 0, 1, 0, 0])) 1 (f251_fr2 a0 a1 bq3) n (f251_fr2 a0 a1 q3) (f251_k2 K a0 a1 (realL (f251E K) 1)) = f251_l2 K a0 a1 n q3 := by
  have key : ∀ (lr : LR Int) (L : Fr → Option Int) (q3 : Int), execG (f251E K) 1 lr (selC f251C [1, 0, 1, 0, 0]) (f251_fr2 a0 a1 q3) (loopK 1 (f251_fr2 a0 a1 bq3) L (f251_k2 K a0 a1 lr)) = f251_b2 K a0 a1 (fun v0 => L (f251_fr2 a0 a1 v0)) q3 := by
    intro lr L q3; kernel_rfl
  intro n q3
  refine loopN_iter (X := Int) (frame := fun x => (f251_fr2 a0 a1 x)) (body := (fun L x => (fun L2 => f251_b2 K a0 a1 L2 x) (fun v0 => L v0))) (fun L x => ?_) n q3
  rw [exec_G]
  exact (key (realL (f251E K) 1) L x).trans (by rfl)
theorem f251_run (K : Nat) (a0 : List tA) (a1 : Int × Int × Int × Int) : runF (f251E K) Tryz.f251 [(.ro, (.list 89 sA)), (.ro, sA)] [sI] (a0, a1, ()) = f251G K a0 a1 := by
  have key : ∀ (lr : LR Int), runG (f251E K) Tryz.f251 [(.ro, (.list 89 sA)), (.ro, sA)] [sI] (a0, a1, ()) lr = f251_g K a0 a1 (fun d0 => lr (selC f251C [1, 0, 1, 0, 0]) (f251_fr2 a0 a1 d0) (f251_k2 K a0 a1 lr)) := by intro lr; kernel_rfl
  have h2 : (fun d0 => (realL (f251E K) 1) (selC f251C [1, 0, 1, 0, 0]) (f251_fr2 a0 a1 d0) (f251_k2 K a0 a1 (realL (f251E K) 1))) = fun d0 => f251_l2 K a0 a1 K d0 := by
    funext d0
    exact f251_t2 K a0 a1 d0 K d0
  exact runF_G (n0 := 1) (by rfl) ((key (realL (f251E K) 1)).trans (by rw [h2] <;> rfl))
theorem f209_run (K : Nat) (a0 : List tA) (a1 : Int × Int × Int × Int) : runF (f209E K) Tryz.f209 [(.ro, (.list 89 sA)), (.ro, sA)] [.bool] (a0, a1, ()) = f209G K a0 a1 := by kernel_rfl
theorem f179_t2 (K : Nat) (a0 : List Int) (a1 : List Int) (bq3 : Int) : ∀ (n : Nat) (q3 : Int), loopN (exec (f179E K) 2 (selC f179C [1, 0, 1, 0, 0])) 2 (f179_fr2 a0 a1 bq3) n (f179_fr2 a0 a1 q3) (f179_k2 K a0 a1 (realL (f179E K) 2)) = f179_l2 K a0 a1 n q3 := by
  have key : ∀ (lr : LR Int) (L : Fr → Option Int) (q3 : Int), execG (f179E K) 2 lr (selC f179C [1, 0, 1, 0, 0]) (f179_fr2 a0 a1 q3) (loopK 2 (f179_fr2 a0 a1 bq3) L (f179_k2 K a0 a1 lr)) = f179_b2 K a0 a1 (fun v0 => L (f179_fr2 a0 a1 v0)) q3 := by
    intro lr L q3; kernel_rfl
  intro n q3
  refine loopN_iter (X := Int) (frame := fun x => (f179_fr2 a0 a1 x)) (body := (fun L x => (fun L2 => f179_b2 K a0 a1 L2 x) (fun v0 => L v0))) (fun L x => ?_) n q3
  rw [exec_G]
  exact (key (realL (f179E K) 2) L x).trans (by rfl)
theorem f179_run (K : Nat) (a0 : List Int) (a1 : List Int) : runF (f179E K) Tryz.f179 [(.ro, (.list 2 sI)), (.ro, (.list 2 sI))] [sI] (a0, a1, ()) = f179G K a0 a1 := by
  have key : ∀ (lr : LR Int), runG (f179E K) Tryz.f179 [(.ro, (.list 2 sI)), (.ro, (.list 2 sI))] [sI] (a0, a1, ()) lr = f179_g K a0 a1 (fun d0 => lr (selC f179C [1, 0, 1, 0, 0]) (f179_fr2 a0 a1 d0) (f179_k2 K a0 a1 lr)) := by intro lr; kernel_rfl
  have h2 : (fun d0 => (realL (f179E K) 2) (selC f179C [1, 0, 1, 0, 0]) (f179_fr2 a0 a1 d0) (f179_k2 K a0 a1 (realL (f179E K) 2))) = fun d0 => f179_l2 K a0 a1 K d0 := by
    funext d0
    exact f179_t2 K a0 a1 d0 K d0
  exact runF_G (n0 := 2) (by rfl) ((key (realL (f179E K) 2)).trans (by rw [h2] <;> rfl))
theorem f252_run (K : Nat) (a0 : Int × Int × Int × Int) (a1 : Int × Int × Int × Int) : runF (f252E K) Tryz.f252 [(.ro, sA), (.ro, sA)] [sI] (a0, a1, ()) = f252G K a0 a1 := by kernel_rfl
theorem f111_run (K : Nat) (a0 : Int × Int) (a1 : Int × Int) : runF (f111E K) Tryz.f111 [(.ro, sV), (.ro, sV)] [sI] (a0, a1, ()) = f111G K a0 a1 := by kernel_rfl
theorem f210_run (K : Nat) (a0 : tA × Int × Int) (a1 : tA × Int × Int) : runF (f210E K) Tryz.f210 [(.ro, sM), (.ro, sM)] [sI] (a0, a1, ()) = f210G K a0 a1 := by kernel_rfl
theorem f199_run (K : Nat) : runF (f199E K) Tryz.f199 [] [sA] (()) = f199G K := by kernel_rfl
theorem f253_run (K : Nat) (a0 : Int × Int × Int × Int) (a1 : Int × Int × Int × Int) : runF (f253E K) Tryz.f253 [(.ro, sA), (.ro, sA)] [sA] (a0, a1, ()) = f253G K a0 a1 := by kernel_rfl
theorem f174_run (K : Nat) (a0 : Int × Int) (a1 : Int × Int) : runF (f174E K) Tryz.f174 [(.ro, sV), (.ro, sV)] [sV] (a0, a1, ()) = f174G K a0 a1 := by kernel_rfl
theorem f212_run (K : Nat) (a0 : tA × Int × Int) (a1 : tA × Int × Int) : runF (f212E K) Tryz.f212 [(.ro, sM), (.ro, sM)] [sM] (a0, a1, ()) = f212G K a0 a1 := by kernel_rfl
theorem f211_run (K : Nat) (a0 : Int × Int × Int) (a1 : tA × Int × Int) : runF (f211E K) Tryz.f211 [(.ro, sL), (.ro, sM)] [sM] (a0, a1, ()) = f211G K a0 a1 := by kernel_rfl
theorem f148_t23 (K : Nat) (a0 : Int) (a1 : Int × Int × Int) (a2 : List tM) (q7 : Int) (q8 : List (tM × Bool)) (y1 : List tA) (y12 : Int × Int × Int × Int) (q22 : Int) (F21 : Fr → Option Bool) (bq22 : Int) (bq24 : Int) : ∀ (n : Nat) (q24 : Int), loopN (exec (f148E K) 1 (selC f148C [1, 1, 1, 1, 0, 1, 0, 0, 1, 1, 0, 0, 1, 1, 0, 0])) 1 (f148_fr23 a0 a1 a2 q7 q8 q22 y1 y12 bq24) n (f148_fr23 a0 a1 a2 q7 q8 q22 y1 y12 q24) (f148_k23 K a0 a1 a2 q7 q8 y1 y12 F21 bq22 (realL (f148E K) 1)) = f148_l23 K a0 a1 a2 q7 q8 q22 y1 y12 (fun v0 => F21 (f148_fr21 a0 a1 a2 q7 q8 y1 y12 v0)) n q24 := by
  have key : ∀ (lr : LR Bool) (L : Fr → Option Bool) (q24 : Int), execG (f148E K) 1 lr (selC f148C [1, 1, 1, 1, 0, 1, 0, 0, 1, 1, 0, 0, 1, 1, 0, 0]) (f148_fr23 a0 a1 a2 q7 q8 q22 y1 y12 q24) (loopK 1 (f148_fr23 a0 a1 a2 q7 q8 q22 y1 y12 bq24) L (f148_k23 K a0 a1 a2 q7 q8 y1 y12 F21 bq22 lr)) = f148_b23 K a0 a1 a2 q7 q8 q22 y1 y12 (fun v0 => F21 (f148_fr21 a0 a1 a2 q7 q8 y1 y12 v0)) (fun v0 => L (f148_fr23 a0 a1 a2 q7 q8 q22 y1 y12 v0)) q24 := by
    intro lr L q24; kernel_rfl
  intro n q24
  refine loopN_iter (X := Int) (frame := fun x => (f148_fr23 a0 a1 a2 q7 q8 q22 y1 y12 x)) (body := (fun L x => (fun L23 => f148_b23 K a0 a1 a2 q7 q8 q22 y1 y12 (fun v0 => F21 (f148_fr21 a0 a1 a2 q7 q8 y1 y12 v0)) L23 x) (fun v0 => L v0))) (fun L x => ?_) n q24
  rw [exec_G]
  exact (key (realL (f148E K) 1) L x).trans (by rfl)
theorem f148_t21 (K : Nat) (a0 : Int) (a1 : Int × Int × Int) (a2 : List tM) (q7 : Int) (q8 : List (tM × Bool)) (y1 : List tA) (y12 : Int × Int × Int × Int) (bq22 : Int) : ∀ (n : Nat) (q22 : Int), loopN (exec (f148E K) 1 (selC f148C [1, 1, 1, 1, 0, 1, 0, 0])) 1 (f148_fr21 a0 a1 a2 q7 q8 y1 y12 bq22) n (f148_fr21 a0 a1 a2 q7 q8 y1 y12 q22) (f148_k21 K a0 a1 a2 (realL (f148E K) 1)) = f148_l21 K a0 a1 a2 q7 q8 y1 y12 n q22 := by
  have key : ∀ (lr : LR Bool) (L : Fr → Option Bool) (q22 : Int), execG (f148E K) 1 lr (selC f148C [1, 1, 1, 1, 0, 1, 0, 0]) (f148_fr21 a0 a1 a2 q7 q8 y1 y12 q22) (loopK 1 (f148_fr21 a0 a1 a2 q7 q8 y1 y12 bq22) L (f148_k21 K a0 a1 a2 lr)) = f148_b21 K a0 a1 a2 q7 q8 y1 y12 (fun c0 d0 => lr (selC f148C [1, 1, 1, 1, 0, 1, 0, 0, 1, 1, 0, 0, 1, 1, 0, 0]) (f148_fr23 a0 a1 a2 q7 q8 c0 y1 y12 d0) (f148_k23 K a0 a1 a2 q7 q8 y1 y12 L bq22 lr)) (fun v0 => L (f148_fr21 a0 a1 a2 q7 q8 y1 y12 v0)) q22 := by
    intro lr L q22; kernel_rfl
  intro n q22
  refine loopN_iter (X := Int) (frame := fun x => (f148_fr21 a0 a1 a2 q7 q8 y1 y12 x)) (body := (fun L x => (fun L21 => f148_b21 K a0 a1 a2 q7 q8 y1 y12 (fun c0 d0 => f148_l23 K a0 a1 a2 q7 q8 c0 y1 y12 L21 K d0) L21 x) (fun v0 => L v0))) (fun L x => ?_) n q22
  rw [exec_G]
  have h23 : (fun c0 d0 => (realL (f148E K) 1) (selC f148C [1, 1, 1, 1, 0, 1, 0, 0, 1, 1, 0, 0, 1, 1, 0, 0]) (f148_fr23 a0 a1 a2 q7 q8 c0 y1 y12 d0) (f148_k23 K a0 a1 a2 q7 q8 y1 y12 L bq22 (realL (f148E K) 1))) = fun c0 d0 => f148_l23 K a0 a1 a2 q7 q8 c0 y1 y12 (fun v0 => L (f148_fr21 a0 a1 a2 q7 q8 y1 y12 v0)) K d0 := by
    funext c0 d0
    exact f148_t23 K a0 a1 a2 q7 q8 y1 y12 c0 L bq22 d0 K d0
  exact (key (realL (f148E K) 1) L x).trans (by rw [h23] <;> rfl)
theorem f148_t6 (K : Nat) (a0 : Int) (a1 : Int × Int × Int) (a2 : List tM) (y1 : List tA) (bq7 : Int) (bq8 : List (tM × Bool)) : ∀ (n : Nat) (q7 : Int) (q8 : List (tM × Bool)), loopN (exec (f148E K) 1 (selC f148C [1, 1, 0, 1, 0, 0])) 1 (f148_fr6 a0 a1 a2 y1 bq7 bq8) n (f148_fr6 a0 a1 a2 y1 q7 q8) (f148_k6 K a0 a1 a2 (realL (f148E K) 1)) = f148_l6 K a0 a1 a2 y1 n q7 q8 := by
  have key : ∀ (lr : LR Bool) (L : Fr → Option Bool) (q7 : Int) (q8 : List (tM × Bool)), execG (f148E K) 1 lr (selC f148C [1, 1, 0, 1, 0, 0]) (f148_fr6 a0 a1 a2 y1 q7 q8) (loopK 1 (f148_fr6 a0 a1 a2 y1 bq7 bq8) L (f148_k6 K a0 a1 a2 lr)) = f148_b6 K a0 a1 a2 y1 (fun c0 c1 c2 c3 d0 => lr (selC f148C [1, 1, 1, 1, 0, 1, 0, 0]) (f148_fr21 a0 a1 a2 c0 c1 c2 c3 d0) (f148_k21 K a0 a1 a2 lr)) (fun v0 v1 => L (f148_fr6 a0 a1 a2 y1 v0 v1)) q7 q8 := by
    intro lr L q7 q8; kernel_rfl
  intro n q7 q8
  refine loopN_iter (X := Int × List (tM × Bool)) (frame := fun x => (f148_fr6 a0 a1 a2 y1 x.1 x.2)) (body := (fun L x => (fun L6 => f148_b6 K a0 a1 a2 y1 (fun c0 c1 c2 c3 d0 => f148_l21 K a0 a1 a2 c0 c1 c2 c3 K d0) L6 x.1 x.2) (fun v0 v1 => L (v0, v1)))) (fun L x => ?_) n (q7, q8)
  rw [exec_G]
  have h21 : (fun c0 c1 c2 c3 d0 => (realL (f148E K) 1) (selC f148C [1, 1, 1, 1, 0, 1, 0, 0]) (f148_fr21 a0 a1 a2 c0 c1 c2 c3 d0) (f148_k21 K a0 a1 a2 (realL (f148E K) 1))) = fun c0 c1 c2 c3 d0 => f148_l21 K a0 a1 a2 c0 c1 c2 c3 K d0 := by
    funext c0 c1 c2 c3 d0
    exact f148_t21 K a0 a1 a2 c0 c1 c2 c3 d0 K d0
  exact (key (realL (f148E K) 1) L x.1 x.2).trans (by rw [h21] <;> rfl)
theorem f148_run (K : Nat) (a0 : Int) (a1 : Int × Int × Int) (a2 : List tM) : runF (f148E K) Tryz.f148 [(.ro, sI), (.ro, sL), (.ro, (.list 91 sM))] [.bool] (a0, a1, a2, ()) = f148G K a0 a1 a2 := by
  have key : ∀ (lr : LR Bool), runG (f148E K) Tryz.f148 [(.ro, sI), (.ro, sL), (.ro, (.list 91 sM))] [.bool] (a0, a1, a2, ()) lr = f148_g K a0 a1 a2 (fun c0 d0 d1 => lr (selC f148C [1, 1, 0, 1, 0, 0]) (f148_fr6 a0 a1 a2 c0 d0 d1) (f148_k6 K a0 a1 a2 lr)) := by intro lr; kernel_rfl
  have h6 : (fun c0 d0 d1 => (realL (f148E K) 1) (selC f148C [1, 1, 0, 1, 0, 0]) (f148_fr6 a0 a1 a2 c0 d0 d1) (f148_k6 K a0 a1 a2 (realL (f148E K) 1))) = fun c0 d0 d1 => f148_l6 K a0 a1 a2 c0 K d0 d1 := by
    funext c0 d0 d1
    exact f148_t6 K a0 a1 a2 c0 d0 d1 K d0 d1
  exact runF_G (n0 := 1) (by rfl) ((key (realL (f148E K) 1)).trans (by rw [h6] <;> rfl))
theorem f92_t4 (K : Nat) (a0 : Int) (a1 : Int × Int × Int) (a2 : List (List tM)) (y1 : Int) (bq5 : Int) : ∀ (n : Nat) (q5 : Int), loopN (exec (f92E K) 1 (selC f92C [1, 1, 0, 1, 0, 0])) 1 (f92_fr4 a0 a1 a2 y1 bq5) n (f92_fr4 a0 a1 a2 y1 q5) (f92_k4 K a0 a1 a2 (realL (f92E K) 1)) = f92_l4 K a0 a1 a2 y1 n q5 := by
  have key : ∀ (lr : LR Int) (L : Fr → Option Int) (q5 : Int), execG (f92E K) 1 lr (selC f92C [1, 1, 0, 1, 0, 0]) (f92_fr4 a0 a1 a2 y1 q5) (loopK 1 (f92_fr4 a0 a1 a2 y1 bq5) L (f92_k4 K a0 a1 a2 lr)) = f92_b4 K a0 a1 a2 y1 (fun v0 => L (f92_fr4 a0 a1 a2 y1 v0)) q5 := by
    intro lr L q5; kernel_rfl
  intro n q5
  refine loopN_iter (X := Int) (frame := fun x => (f92_fr4 a0 a1 a2 y1 x)) (body := (fun L x => (fun L4 => f92_b4 K a0 a1 a2 y1 L4 x) (fun v0 => L v0))) (fun L x => ?_) n q5
  rw [exec_G]
  exact (key (realL (f92E K) 1) L x).trans (by rfl)
theorem f92_run (K : Nat) (a0 : Int) (a1 : Int × Int × Int) (a2 : List (List tM)) : runF (f92E K) Tryz.f92 [(.ro, sI), (.ro, sL), (.ro, (.list 30 (.list 91 sM)))] [sI] (a0, a1, a2, ()) = f92G K a0 a1 a2 := by
  have key : ∀ (lr : LR Int), runG (f92E K) Tryz.f92 [(.ro, sI), (.ro, sL), (.ro, (.list 30 (.list 91 sM)))] [sI] (a0, a1, a2, ()) lr = f92_g K a0 a1 a2 (fun c0 d0 => lr (selC f92C [1, 1, 0, 1, 0, 0]) (f92_fr4 a0 a1 a2 c0 d0) (f92_k4 K a0 a1 a2 lr)) := by intro lr; kernel_rfl
  have h4 : (fun c0 d0 => (realL (f92E K) 1) (selC f92C [1, 1, 0, 1, 0, 0]) (f92_fr4 a0 a1 a2 c0 d0) (f92_k4 K a0 a1 a2 (realL (f92E K) 1))) = fun c0 d0 => f92_l4 K a0 a1 a2 c0 K d0 := by
    funext c0 d0
    exact f92_t4 K a0 a1 a2 c0 d0 K d0
  exact runF_G (n0 := 1) (by rfl) ((key (realL (f92E K) 1)).trans (by rw [h4] <;> rfl))
theorem f143_t3 (K : Nat) (a0 : List Int) (a1 : Int) (y1 : Int × Int) (bq4 : Int) (bq5 : List Int) : ∀ (n : Nat) (q4 : Int) (q5 : List Int), loopN (exec (f143E K) 1 (selC f143C [1, 1, 1, 1, 1, 1, 0, 0, 0])) 1 (f143_fr3 a0 a1 y1 bq4 bq5) n (f143_fr3 a0 a1 y1 q4 q5) (f143_k3 K a0 a1 (realL (f143E K) 1)) = f143_l3 K a0 a1 y1 n q4 q5 := by
  have key : ∀ (lr : LR (List Int)) (L : Fr → Option (List Int)) (q4 : Int) (q5 : List Int), execG (f143E K) 1 lr (selC f143C [1, 1, 1, 1, 1, 1, 0, 0, 0]) (f143_fr3 a0 a1 y1 q4 q5) (loopK 1 (f143_fr3 a0 a1 y1 bq4 bq5) L (f143_k3 K a0 a1 lr)) = f143_b3 K a0 a1 y1 (fun v0 v1 => L (f143_fr3 a0 a1 y1 v0 v1)) q4 q5 := by
    intro lr L q4 q5; kernel_rfl
  intro n q4 q5
  refine loopN_iter (X := Int × List Int) (frame := fun x => (f143_fr3 a0 a1 y1 x.1 x.2)) (body := (fun L x => (fun L3 => f143_b3 K a0 a1 y1 L3 x.1 x.2) (fun v0 v1 => L (v0, v1)))) (fun L x => ?_) n (q4, q5)
  rw [exec_G]
  exact (key (realL (f143E K) 1) L x.1 x.2).trans (by rfl)
theorem f143_run (K : Nat) (a0 : List Int) (a1 : Int) : runF (f143E K) Tryz.f143 [(.ro, (.list 2 sI)), (.ro, sI)] [(.list 2 sI)] (a0, a1, ()) = f143G K a0 a1 := by
  have key : ∀ (lr : LR (List Int)), runG (f143E K) Tryz.f143 [(.ro, (.list 2 sI)), (.ro, sI)] [(.list 2 sI)] (a0, a1, ()) lr = f143_g K a0 a1 (fun c0 d0 d1 => lr (selC f143C [1, 1, 1, 1, 1, 1, 0, 0, 0]) (f143_fr3 a0 a1 c0 d0 d1) (f143_k3 K a0 a1 lr)) := by intro lr; kernel_rfl
  have h3 : (fun c0 d0 d1 => (realL (f143E K) 1) (selC f143C [1, 1, 1, 1, 1, 1, 0, 0, 0]) (f143_fr3 a0 a1 c0 d0 d1) (f143_k3 K a0 a1 (realL (f143E K) 1))) = fun c0 d0 d1 => f143_l3 K a0 a1 c0 K d0 d1 := by
    funext c0 d0 d1
    exact f143_t3 K a0 a1 c0 d0 d1 K d0 d1
  exact runF_G (n0 := 1) (by rfl) ((key (realL (f143E K) 1)).trans (by rw [h3] <;> rfl))
theorem f108_t9 (K : Nat) (a0 : Int × Int × Int) (q7 : Int) (F6 : Fr → Option (List tV)) (bq7 : Int) (bq8 : List tV) (bq10 : Int) (bq11 : List tV) : ∀ (n : Nat) (q10 : Int) (q11 : List tV), loopN (exec (f108E K) 0 (selC f108C [1, 1, 0, 1, 0, 0, 1, 1, 0, 0, 1, 1, 0, 0])) 0 (f108_fr9 a0 q7 bq10 bq11) n (f108_fr9 a0 q7 q10 q11) (f108_k9 K a0 F6 bq7 bq8 (realL (f108E K) 0)) = f108_l9 K a0 q7 (fun v0 v1 => F6 (f108_fr6 a0 v0 v1)) n q10 q11 := by
  have key : ∀ (lr : LR (List tV)) (L : Fr → Option (List tV)) (q10 : Int) (q11 : List tV), execG (f108E K) 0 lr (selC f108C [1, 1, 0, 1, 0, 0, 1, 1, 0, 0, 1, 1, 0, 0]) (f108_fr9 a0 q7 q10 q11) (loopK 0 (f108_fr9 a0 q7 bq10 bq11) L (f108_k9 K a0 F6 bq7 bq8 lr)) = f108_b9 K a0 q7 (fun v0 v1 => F6 (f108_fr6 a0 v0 v1)) (fun v0 v1 => L (f108_fr9 a0 q7 v0 v1)) q10 q11 := by
    intro lr L q10 q11; kernel_rfl
  intro n q10 q11
  refine loopN_iter (X := Int × List tV) (frame := fun x => (f108_fr9 a0 q7 x.1 x.2)) (body := (fun L x => (fun L9 => f108_b9 K a0 q7 (fun v0 v1 => F6 (f108_fr6 a0 v0 v1)) L9 x.1 x.2) (fun v0 v1 => L (v0, v1)))) (fun L x => ?_) n (q10, q11)
  rw [exec_G]
  exact (key (realL (f108E K) 0) L x.1 x.2).trans (by rfl)
theorem f108_t6 (K : Nat) (a0 : Int × Int × Int) (bq7 : Int) (bq8 : List tV) : ∀ (n : Nat) (q7 : Int) (q8 : List tV), loopN (exec (f108E K) 0 (selC f108C [1, 1, 0, 1, 0, 0])) 0 (f108_fr6 a0 bq7 bq8) n (f108_fr6 a0 q7 q8) (f108_k6 K a0 (realL (f108E K) 0)) = f108_l6 K a0 n q7 q8 := by
  have key : ∀ (lr : LR (List tV)) (L : Fr → Option (List tV)) (q7 : Int) (q8 : List tV), execG (f108E K) 0 lr (selC f108C [1, 1, 0, 1, 0, 0]) (f108_fr6 a0 q7 q8) (loopK 0 (f108_fr6 a0 bq7 bq8) L (f108_k6 K a0 lr)) = f108_b6 K a0 (fun c0 d0 d1 => lr (selC f108C [1, 1, 0, 1, 0, 0, 1, 1, 0, 0, 1, 1, 0, 0]) (f108_fr9 a0 c0 d0 d1) (f108_k9 K a0 L bq7 bq8 lr)) (fun v0 v1 => L (f108_fr6 a0 v0 v1)) q7 q8 := by
    intro lr L q7 q8; kernel_rfl
  intro n q7 q8
  refine loopN_iter (X := Int × List tV) (frame := fun x => (f108_fr6 a0 x.1 x.2)) (body := (fun L x => (fun L6 => f108_b6 K a0 (fun c0 d0 d1 => f108_l9 K a0 c0 L6 K d0 d1) L6 x.1 x.2) (fun v0 v1 => L (v0, v1)))) (fun L x => ?_) n (q7, q8)
  rw [exec_G]
  have h9 : (fun c0 d0 d1 => (realL (f108E K) 0) (selC f108C [1, 1, 0, 1, 0, 0, 1, 1, 0, 0, 1, 1, 0, 0]) (f108_fr9 a0 c0 d0 d1) (f108_k9 K a0 L bq7 bq8 (realL (f108E K) 0))) = fun c0 d0 d1 => f108_l9 K a0 c0 (fun v0 v1 => L (f108_fr6 a0 v0 v1)) K d0 d1 := by
    funext c0 d0 d1
    exact f108_t9 K a0 c0 L bq7 bq8 d0 d1 K d0 d1
  exact (key (realL (f108E K) 0) L x.1 x.2).trans (by rw [h9] <;> rfl)
theorem f108_run (K : Nat) (a0 : Int × Int × Int) : runF (f108E K) Tryz.f108 [(.ro, sL)] [(.list 53 sV)] (a0, ()) = f108G K a0 := by
  have key : ∀ (lr : LR (List tV)), runG (f108E K) Tryz.f108 [(.ro, sL)] [(.list 53 sV)] (a0, ()) lr = f108_g K a0 (fun d0 d1 => lr (selC f108C [1, 1, 0, 1, 0, 0]) (f108_fr6 a0 d0 d1) (f108_k6 K a0 lr)) := by intro lr; kernel_rfl
  have h6 : (fun d0 d1 => (realL (f108E K) 0) (selC f108C [1, 1, 0, 1, 0, 0]) (f108_fr6 a0 d0 d1) (f108_k6 K a0 (realL (f108E K) 0))) = fun d0 d1 => f108_l6 K a0 K d0 d1 := by
    funext d0 d1
    exact f108_t6 K a0 d0 d1 K d0 d1
  exact runF_G (n0 := 0) (by rfl) ((key (realL (f108E K) 0)).trans (by rw [h6] <;> rfl))
theorem f82_run (K : Nat) (a0 : Int × Int × Int) (a1 : Int × Int) : runF (f82E K) Tryz.f82 [(.ro, sL), (.ro, sV)] [sI] (a0, a1, ()) = f82G K a0 a1 := by kernel_rfl
theorem f207_run (K : Nat) (a0 : tA × Int × Int) (a1 : Int × Int) : runF (f207E K) Tryz.f207 [(.ro, sM), (.ro, sV)] [sV] (a0, a1, ()) = f207G K a0 a1 := by kernel_rfl
theorem f150_run (K : Nat) (a0 : Int × Int × Int) (a1 : tA × Int × Int) (a2 : Int × Int) : runF (f150E K) Tryz.f150 [(.ro, sL), (.ro, sM), (.ro, sV)] [sV] (a0, a1, a2, ()) = f150G K a0 a1 a2 := by kernel_rfl
theorem f151_t9 (K : Nat) (a0 : List tV) (q8 : Int) (F7 : Fr → Option (List tV)) (bq8 : Int) (bq10 : Int) (bq11 : Int) (bq12 : List tV) : ∀ (n : Nat) (q10 : Int) (q11 : Int) (q12 : List tV), loopN (exec (f151E K) 1 (selC f151C [1, 1, 0, 1, 0, 0, 1, 0, 0, 1, 0, 1, 0, 1, 0, 0])) 1 (f151_fr9 a0 q8 bq10 bq11 bq12) n (f151_fr9 a0 q8 q10 q11 q12) (f151_k9 K a0 F7 bq8 (realL (f151E K) 1)) = f151_l9 K a0 q8 n q10 q11 q12 := by
  have key : ∀ (lr : LR (List tV)) (L : Fr → Option (List tV)) (q10 : Int) (q11 : Int) (q12 : List tV), execG (f151E K) 1 lr (selC f151C [1, 1, 0, 1, 0, 0, 1, 0, 0, 1, 0, 1, 0, 1, 0, 0]) (f151_fr9 a0 q8 q10 q11 q12) (loopK 1 (f151_fr9 a0 q8 bq10 bq11 bq12) L (f151_k9 K a0 F7 bq8 lr)) = f151_b9 K a0 q8 (fun v0 v1 v2 => L (f151_fr9 a0 q8 v0 v1 v2)) q10 q11 q12 := by
    intro lr L q10 q11 q12; kernel_rfl
  intro n q10 q11 q12
  refine loopN_iter (X := Int × Int × List tV) (frame := fun x => (f151_fr9 a0 q8 x.1 x.2.1 x.2.2)) (body := (fun L x => (fun L9 => f151_b9 K a0 q8 L9 x.1 x.2.1 x.2.2) (fun v0 v1 v2 => L (v0, v1, v2)))) (fun L x => ?_) n (q10, q11, q12)
  rw [exec_G]
  exact (key (realL (f151E K) 1) L x.1 x.2.1 x.2.2).trans (by rfl)
theorem f151_t7 (K : Nat) (a0 : List tV) (bq8 : Int) : ∀ (n : Nat) (q8 : Int), loopN (exec (f151E K) 1 (selC f151C [1, 1, 0, 1, 0, 0])) 1 (f151_fr7 a0 bq8) n (f151_fr7 a0 q8) (f151_k7 K a0 (realL (f151E K) 1)) = f151_l7 K a0 n q8 := by
  have key : ∀ (lr : LR (List tV)) (L : Fr → Option (List tV)) (q8 : Int), execG (f151E K) 1 lr (selC f151C [1, 1, 0, 1, 0, 0]) (f151_fr7 a0 q8) (loopK 1 (f151_fr7 a0 bq8) L (f151_k7 K a0 lr)) = f151_b7 K a0 (fun c0 d0 d1 d2 => lr (selC f151C [1, 1, 0, 1, 0, 0, 1, 0, 0, 1, 0, 1, 0, 1, 0, 0]) (f151_fr9 a0 c0 d0 d1 d2) (f151_k9 K a0 L bq8 lr)) (fun v0 => L (f151_fr7 a0 v0)) q8 := by
    intro lr L q8; kernel_rfl
  intro n q8
  refine loopN_iter (X := Int) (frame := fun x => (f151_fr7 a0 x)) (body := (fun L x => (fun L7 => f151_b7 K a0 (fun c0 d0 d1 d2 => f151_l9 K a0 c0 K d0 d1 d2) L7 x) (fun v0 => L v0))) (fun L x => ?_) n q8
  rw [exec_G]
  have h9 : (fun c0 d0 d1 d2 => (realL (f151E K) 1) (selC f151C [1, 1, 0, 1, 0, 0, 1, 0, 0, 1, 0, 1, 0, 1, 0, 0]) (f151_fr9 a0 c0 d0 d1 d2) (f151_k9 K a0 L bq8 (realL (f151E K) 1))) = fun c0 d0 d1 d2 => f151_l9 K a0 c0 K d0 d1 d2 := by
    funext c0 d0 d1 d2
    exact f151_t9 K a0 c0 L bq8 d0 d1 d2 K d0 d1 d2
  exact (key (realL (f151E K) 1) L x).trans (by rw [h9] <;> rfl)
theorem f151_run (K : Nat) (a0 : List tV) : runF (f151E K) Tryz.f151 [(.mv, (.list 53 sV))] [(.list 53 sV)] (a0, ()) = f151G K a0 := by
  have key : ∀ (lr : LR (List tV)), runG (f151E K) Tryz.f151 [(.mv, (.list 53 sV))] [(.list 53 sV)] (a0, ()) lr = f151_g K a0 (fun d0 => lr (selC f151C [1, 1, 0, 1, 0, 0]) (f151_fr7 a0 d0) (f151_k7 K a0 lr)) := by intro lr; kernel_rfl
  have h7 : (fun d0 => (realL (f151E K) 1) (selC f151C [1, 1, 0, 1, 0, 0]) (f151_fr7 a0 d0) (f151_k7 K a0 (realL (f151E K) 1))) = fun d0 => f151_l7 K a0 K d0 := by
    funext d0
    exact f151_t7 K a0 d0 K d0
  exact runF_G (n0 := 1) (by rfl) ((key (realL (f151E K) 1)).trans (by rw [h7] <;> rfl))
theorem f80_t3 (K : Nat) (a0 : Int × Int × Int) (a1 : List tM) (a2 : Int × Int) (bq4 : Int) (bq5 : List tV) : ∀ (n : Nat) (q4 : Int) (q5 : List tV), loopN (exec (f80E K) 1 (selC f80C [1, 1, 0, 1, 0, 0])) 1 (f80_fr3 a0 a1 a2 bq4 bq5) n (f80_fr3 a0 a1 a2 q4 q5) (f80_k3 K a0 a1 a2 (realL (f80E K) 1)) = f80_l3 K a0 a1 a2 n q4 q5 := by
  have key : ∀ (lr : LR (List tV)) (L : Fr → Option (List tV)) (q4 : Int) (q5 : List tV), execG (f80E K) 1 lr (selC f80C [1, 1, 0, 1, 0, 0]) (f80_fr3 a0 a1 a2 q4 q5) (loopK 1 (f80_fr3 a0 a1 a2 bq4 bq5) L (f80_k3 K a0 a1 a2 lr)) = f80_b3 K a0 a1 a2 (fun v0 v1 => L (f80_fr3 a0 a1 a2 v0 v1)) q4 q5 := by
    intro lr L q4 q5; kernel_rfl
  intro n q4 q5
  refine loopN_iter (X := Int × List tV) (frame := fun x => (f80_fr3 a0 a1 a2 x.1 x.2)) (body := (fun L x => (fun L3 => f80_b3 K a0 a1 a2 L3 x.1 x.2) (fun v0 v1 => L (v0, v1)))) (fun L x => ?_) n (q4, q5)
  rw [exec_G]
  exact (key (realL (f80E K) 1) L x.1 x.2).trans (by rfl)
theorem f80_run (K : Nat) (a0 : Int × Int × Int) (a1 : List tM) (a2 : Int × Int) : runF (f80E K) Tryz.f80 [(.ro, sL), (.ro, (.list 91 sM)), (.ro, sV)] [(.list 53 sV)] (a0, a1, a2, ()) = f80G K a0 a1 a2 := by
  have key : ∀ (lr : LR (List tV)), runG (f80E K) Tryz.f80 [(.ro, sL), (.ro, (.list 91 sM)), (.ro, sV)] [(.list 53 sV)] (a0, a1, a2, ()) lr = f80_g K a0 a1 a2 (fun d0 d1 => lr (selC f80C [1, 1, 0, 1, 0, 0]) (f80_fr3 a0 a1 a2 d0 d1) (f80_k3 K a0 a1 a2 lr)) := by intro lr; kernel_rfl
  have h3 : (fun d0 d1 => (realL (f80E K) 1) (selC f80C [1, 1, 0, 1, 0, 0]) (f80_fr3 a0 a1 a2 d0 d1) (f80_k3 K a0 a1 a2 (realL (f80E K) 1))) = fun d0 d1 => f80_l3 K a0 a1 a2 K d0 d1 := by
    funext d0 d1
    exact f80_t3 K a0 a1 a2 d0 d1 K d0 d1
  exact runF_G (n0 := 1) (by rfl) ((key (realL (f80E K) 1)).trans (by rw [h3] <;> rfl))
theorem f72_t22 (K : Nat) (a0 : Int × Int × Int) (a1 : List tM) (y3 : List tV) (q17 : Int) (q18 : List (List tV)) (q19 : List Int) (y20 : Int) (y21 : List tV) (F16 : Fr → Option ((List (List tV)) × List Int)) (bq17 : Int) (bq18 : List (List tV)) (bq19 : List Int) (bq23 : Int) (bq24 : List Int) : ∀ (n : Nat) (q23 : Int) (q24 : List Int), loopN (exec (f72E K) 1 (selC f72C [1, 1, 0, 1, 0, 0, 1, 1, 0, 0, 1, 1, 1, 0, 1, 0, 0])) 1 (f72_fr22 a0 a1 q17 q18 q19 y3 y20 y21 bq23 bq24) n (f72_fr22 a0 a1 q17 q18 q19 y3 y20 y21 q23 q24) (f72_k22 K a0 a1 y3 F16 bq17 bq18 bq19 (realL (f72E K) 1)) = f72_l22 K a0 a1 q17 q18 q19 y3 y20 y21 (fun v0 v1 v2 => F16 (f72_fr16 a0 a1 y3 v0 v1 v2)) n q23 q24 := by
  have key : ∀ (lr : LR ((List (List tV)) × List Int)) (L : Fr → Option ((List (List tV)) × List Int)) (q23 : Int) (q24 : List Int), execG (f72E K) 1 lr (selC f72C [1, 1, 0, 1, 0, 0, 1, 1, 0, 0, 1, 1, 1, 0, 1, 0, 0]) (f72_fr22 a0 a1 q17 q18 q19 y3 y20 y21 q23 q24) (loopK 1 (f72_fr22 a0 a1 q17 q18 q19 y3 y20 y21 bq23 bq24) L (f72_k22 K a0 a1 y3 F16 bq17 bq18 bq19 lr)) = f72_b22 K a0 a1 q17 q18 q19 y3 y20 y21 (fun v0 v1 v2 => F16 (f72_fr16 a0 a1 y3 v0 v1 v2)) (fun v0 v1 => L (f72_fr22 a0 a1 q17 q18 q19 y3 y20 y21 v0 v1)) q23 q24 := by
    intro lr L q23 q24; kernel_rfl
  intro n q23 q24
  refine loopN_iter (X := Int × List Int) (frame := fun x => (f72_fr22 a0 a1 q17 q18 q19 y3 y20 y21 x.1 x.2)) (body := (fun L x => (fun L22 => f72_b22 K a0 a1 q17 q18 q19 y3 y20 y21 (fun v0 v1 v2 => F16 (f72_fr16 a0 a1 y3 v0 v1 v2)) L22 x.1 x.2) (fun v0 v1 => L (v0, v1)))) (fun L x => ?_) n (q23, q24)
  rw [exec_G]
  exact (key (realL (f72E K) 1) L x.1 x.2).trans (by rfl)
theorem f72_t16 (K : Nat) (a0 : Int × Int × Int) (a1 : List tM) (y3 : List tV) (bq17 : Int) (bq18 : List (List tV)) (bq19 : List Int) : ∀ (n : Nat) (q17 : Int) (q18 : List (List tV)) (q19 : List Int), loopN (exec (f72E K) 1 (selC f72C [1, 1, 0, 1, 0, 0])) 1 (f72_fr16 a0 a1 y3 bq17 bq18 bq19) n (f72_fr16 a0 a1 y3 q17 q18 q19) (f72_k16 K a0 a1 (realL (f72E K) 1)) = f72_l16 K a0 a1 y3 n q17 q18 q19 := by
  have key : ∀ (lr : LR ((List (List tV)) × List Int)) (L : Fr → Option ((List (List tV)) × List Int)) (q17 : Int) (q18 : List (List tV)) (q19 : List Int), execG (f72E K) 1 lr (selC f72C [1, 1, 0, 1, 0, 0]) (f72_fr16 a0 a1 y3 q17 q18 q19) (loopK 1 (f72_fr16 a0 a1 y3 bq17 bq18 bq19) L (f72_k16 K a0 a1 lr)) = f72_b16 K a0 a1 y3 (fun c0 c1 c2 c3 c4 d0 d1 => lr (selC f72C [1, 1, 0, 1, 0, 0, 1, 1, 0, 0, 1, 1, 1, 0, 1, 0, 0]) (f72_fr22 a0 a1 c0 c1 c2 y3 c3 c4 d0 d1) (f72_k22 K a0 a1 y3 L bq17 bq18 bq19 lr)) (fun v0 v1 v2 => L (f72_fr16 a0 a1 y3 v0 v1 v2)) q17 q18 q19 := by
    intro lr L q17 q18 q19; kernel_rfl
  intro n q17 q18 q19
  refine loopN_iter (X := Int × List (List tV) × List Int) (frame := fun x => (f72_fr16 a0 a1 y3 x.1 x.2.1 x.2.2)) (body := (fun L x => (fun L16 => f72_b16 K a0 a1 y3 (fun c0 c1 c2 c3 c4 d0 d1 => f72_l22 K a0 a1 c0 c1 c2 y3 c3 c4 L16 K d0 d1) L16 x.1 x.2.1 x.2.2) (fun v0 v1 v2 => L (v0, v1, v2)))) (fun L x => ?_) n (q17, q18, q19)
  rw [exec_G]
  have h22 : (fun c0 c1 c2 c3 c4 d0 d1 => (realL (f72E K) 1) (selC f72C [1, 1, 0, 1, 0, 0, 1, 1, 0, 0, 1, 1, 1, 0, 1, 0, 0]) (f72_fr22 a0 a1 c0 c1 c2 y3 c3 c4 d0 d1) (f72_k22 K a0 a1 y3 L bq17 bq18 bq19 (realL (f72E K) 1))) = fun c0 c1 c2 c3 c4 d0 d1 => f72_l22 K a0 a1 c0 c1 c2 y3 c3 c4 (fun v0 v1 v2 => L (f72_fr16 a0 a1 y3 v0 v1 v2)) K d0 d1 := by
    funext c0 c1 c2 c3 c4 d0 d1
    exact f72_t22 K a0 a1 y3 c0 c1 c2 c3 c4 L bq17 bq18 bq19 d0 d1 K d0 d1
  exact (key (realL (f72E K) 1) L x.1 x.2.1 x.2.2).trans (by rw [h22] <;> rfl)
theorem f72_run (K : Nat) (a0 : Int × Int × Int) (a1 : List tM) : runF (f72E K) Tryz.f72 [(.ro, sL), (.ro, (.list 91 sM))] [(.list 72 (.list 53 sV)), (.list 2 sI)] (a0, a1, ()) = f72G K a0 a1 := by
  have key : ∀ (lr : LR ((List (List tV)) × List Int)), runG (f72E K) Tryz.f72 [(.ro, sL), (.ro, (.list 91 sM))] [(.list 72 (.list 53 sV)), (.list 2 sI)] (a0, a1, ()) lr = f72_g K a0 a1 (fun c0 d0 d1 d2 => lr (selC f72C [1, 1, 0, 1, 0, 0]) (f72_fr16 a0 a1 c0 d0 d1 d2) (f72_k16 K a0 a1 lr)) := by intro lr; kernel_rfl
  have h16 : (fun c0 d0 d1 d2 => (realL (f72E K) 1) (selC f72C [1, 1, 0, 1, 0, 0]) (f72_fr16 a0 a1 c0 d0 d1 d2) (f72_k16 K a0 a1 (realL (f72E K) 1))) = fun c0 d0 d1 d2 => f72_l16 K a0 a1 c0 K d0 d1 d2 := by
    funext c0 d0 d1 d2
    exact f72_t16 K a0 a1 c0 d0 d1 d2 K d0 d1 d2
  exact runF_G (n0 := 1) (by rfl) ((key (realL (f72E K) 1)).trans (by rw [h16] <;> rfl))
theorem f173_run (K : Nat) (a0 : List tV) (a1 : List tM) : runF (f173E K) Tryz.f173 [(.ro, (.list 53 sV)), (.cap, (.list 91 sM))] [.bool] (a0, a1, ()) = f173G K a0 a1 := by kernel_rfl
theorem f181_t3 (K : Nat) (a0 : List (List tV)) (a1 : ((List tV) → Option Bool)) (bq4 : Int) : ∀ (n : Nat) (q4 : Int), loopN (exec (f181E K) 1 (selC f181C [1, 0, 1, 0, 0])) 1 (f181_fr3 a0 a1 bq4) n (f181_fr3 a0 a1 q4) (f181_k3 K a0 a1 (realL (f181E K) 1)) = f181_l3 K a0 a1 n q4 := by
  have key : ∀ (lr : LR Int) (L : Fr → Option Int) (q4 : Int), execG (f181E K) 1 lr (selC f181C [1, 0, 1, 0, 0]) (f181_fr3 a0 a1 q4) (loopK 1 (f181_fr3 a0 a1 bq4) L (f181_k3 K a0 a1 lr)) = f181_b3 K a0 a1 (fun v0 => L (f181_fr3 a0 a1 v0)) q4 := by
    intro lr L q4; kernel_rfl
  intro n q4
  refine loopN_iter (X := Int) (frame := fun x => (f181_fr3 a0 a1 x)) (body := (fun L x => (fun L3 => f181_b3 K a0 a1 L3 x) (fun v0 => L v0))) (fun L x => ?_) n q4
  rw [exec_G]
  exact (key (realL (f181E K) 1) L x).trans (by rfl)
theorem f181_run (K : Nat) (a0 : List (List tV)) (a1 : ((List tV) → Option Bool)) : runF (f181E K) Tryz.f181 [(.ro, (.list 72 (.list 53 sV))), (.ro, (.fn1 (.list 53 sV) .bool))] [sI] (a0, a1, ()) = f181G K a0 a1 := by
  have key : ∀ (lr : LR Int), runG (f181E K) Tryz.f181 [(.ro, (.list 72 (.list 53 sV))), (.ro, (.fn1 (.list 53 sV) .bool))] [sI] (a0, a1, ()) lr = f181_g K a0 a1 (fun d0 => lr (selC f181C [1, 0, 1, 0, 0]) (f181_fr3 a0 a1 d0) (f181_k3 K a0 a1 lr)) := by intro lr; kernel_rfl
  have h3 : (fun d0 => (realL (f181E K) 1) (selC f181C [1, 0, 1, 0, 0]) (f181_fr3 a0 a1 d0) (f181_k3 K a0 a1 (realL (f181E K) 1))) = fun d0 => f181_l3 K a0 a1 K d0 := by
    funext d0
    exact f181_t3 K a0 a1 d0 K d0
  exact runF_G (n0 := 1) (by rfl) ((key (realL (f181E K) 1)).trans (by rw [h3] <;> rfl))
theorem f172_run (K : Nat) (a0 : List (List tV)) (a1 : ((List tV) → Option Bool)) : runF (f172E K) Tryz.f172 [(.ro, (.list 72 (.list 53 sV))), (.ro, (.fn1 (.list 53 sV) .bool))] [.bool] (a0, a1, ()) = f172G K a0 a1 := by kernel_rfl
theorem f101_run (K : Nat) (a0 : Int) (a1 : Int × Int × Int) (a2 : List tM) : runF (f101E K) Tryz.f101 [(.ro, sI), (.ro, sL), (.ro, (.list 91 sM))] [(.list 72 (.list 53 sV)), sI] (a0, a1, a2, ()) = f101G K a0 a1 a2 := by kernel_rfl
theorem f104_run (K : Nat) (a0 : Int × Int) : runF (f104E K) Tryz.f104 [(.ro, sV)] [(.list 53 sV)] (a0, ()) = f104G K a0 := by kernel_rfl
theorem f175_t2 (K : Nat) (a0 : List tV) (a1 : Int × Int) (bq3 : Int) : ∀ (n : Nat) (q3 : Int), loopN (exec (f175E K) 1 (selC f175C [1, 0, 1, 0, 0])) 1 (f175_fr2 a0 a1 bq3) n (f175_fr2 a0 a1 q3) (f175_k2 K a0 a1 (realL (f175E K) 1)) = f175_l2 K a0 a1 n q3 := by
  have key : ∀ (lr : LR Int) (L : Fr → Option Int) (q3 : Int), execG (f175E K) 1 lr (selC f175C [1, 0, 1, 0, 0]) (f175_fr2 a0 a1 q3) (loopK 1 (f175_fr2 a0 a1 bq3) L (f175_k2 K a0 a1 lr)) = f175_b2 K a0 a1 (fun v0 => L (f175_fr2 a0 a1 v0)) q3 := by
    intro lr L q3; kernel_rfl
  intro n q3
  refine loopN_iter (X := Int) (frame := fun x => (f175_fr2 a0 a1 x)) (body := (fun L x => (fun L2 => f175_b2 K a0 a1 L2 x) (fun v0 => L v0))) (fun L x => ?_) n q3
  rw [exec_G]
  exact (key (realL (f175E K) 1) L x).trans (by rfl)
theorem f175_run (K : Nat) (a0 : List tV) (a1 : Int × Int) : runF (f175E K) Tryz.f175 [(.ro, (.list 53 sV)), (.ro, sV)] [sI] (a0, a1, ()) = f175G K a0 a1 := by
  have key : ∀ (lr : LR Int), runG (f175E K) Tryz.f175 [(.ro, (.list 53 sV)), (.ro, sV)] [sI] (a0, a1, ()) lr = f175_g K a0 a1 (fun d0 => lr (selC f175C [1, 0, 1, 0, 0]) (f175_fr2 a0 a1 d0) (f175_k2 K a0 a1 lr)) := by intro lr; kernel_rfl
  have h2 : (fun d0 => (realL (f175E K) 1) (selC f175C [1, 0, 1, 0, 0]) (f175_fr2 a0 a1 d0) (f175_k2 K a0 a1 (realL (f175E K) 1))) = fun d0 => f175_l2 K a0 a1 K d0 := by
    funext d0
    exact f175_t2 K a0 a1 d0 K d0
  exact runF_G (n0 := 1) (by rfl) ((key (realL (f175E K) 1)).trans (by rw [h2] <;> rfl))
theorem f106_run (K : Nat) (a0 : List tV) (a1 : Int × Int) : runF (f106E K) Tryz.f106 [(.ro, (.list 53 sV)), (.ro, sV)] [.bool] (a0, a1, ()) = f106G K a0 a1 := by kernel_rfl
theorem f105_run (K : Nat) (a0 : Int × Int) (a1 : List tV) : runF (f105E K) Tryz.f105 [(.ro, sV), (.cap, (.list 53 sV))] [.bool] (a0, a1, ()) = f105G K a0 a1 := by kernel_rfl
theorem f109_t3 (K : Nat) (a0 : List tV) (a1 : (tV → Option Bool)) (bq4 : Int) : ∀ (n : Nat) (q4 : Int), loopN (exec (f109E K) 1 (selC f109C [1, 0, 1, 0, 0])) 1 (f109_fr3 a0 a1 bq4) n (f109_fr3 a0 a1 q4) (f109_k3 K a0 a1 (realL (f109E K) 1)) = f109_l3 K a0 a1 n q4 := by
  have key : ∀ (lr : LR Int) (L : Fr → Option Int) (q4 : Int), execG (f109E K) 1 lr (selC f109C [1, 0, 1, 0, 0]) (f109_fr3 a0 a1 q4) (loopK 1 (f109_fr3 a0 a1 bq4) L (f109_k3 K a0 a1 lr)) = f109_b3 K a0 a1 (fun v0 => L (f109_fr3 a0 a1 v0)) q4 := by
    intro lr L q4; kernel_rfl
  intro n q4
  refine loopN_iter (X := Int) (frame := fun x => (f109_fr3 a0 a1 x)) (body := (fun L x => (fun L3 => f109_b3 K a0 a1 L3 x) (fun v0 => L v0))) (fun L x => ?_) n q4
  rw [exec_G]
  exact (key (realL (f109E K) 1) L x).trans (by rfl)
theorem f109_run (K : Nat) (a0 : List tV) (a1 : (tV → Option Bool)) : runF (f109E K) Tryz.f109 [(.ro, (.list 53 sV)), (.ro, (.fn1 sV .bool))] [sI] (a0, a1, ()) = f109G K a0 a1 := by
  have key : ∀ (lr : LR Int), runG (f109E K) Tryz.f109 [(.ro, (.list 53 sV)), (.ro, (.fn1 sV .bool))] [sI] (a0, a1, ()) lr = f109_g K a0 a1 (fun d0 => lr (selC f109C [1, 0, 1, 0, 0]) (f109_fr3 a0 a1 d0) (f109_k3 K a0 a1 lr)) := by intro lr; kernel_rfl
  have h3 : (fun d0 => (realL (f109E K) 1) (selC f109C [1, 0, 1, 0, 0]) (f109_fr3 a0 a1 d0) (f109_k3 K a0 a1 (realL (f109E K) 1))) = fun d0 => f109_l3 K a0 a1 K d0 := by
    funext d0
    exact f109_t3 K a0 a1 d0 K d0
  exact runF_G (n0 := 1) (by rfl) ((key (realL (f109E K) 1)).trans (by rw [h3] <;> rfl))
theorem f103_run (K : Nat) (a0 : List tV) (a1 : (tV → Option Bool)) : runF (f103E K) Tryz.f103 [(.ro, (.list 53 sV)), (.ro, (.fn1 sV .bool))] [.bool] (a0, a1, ()) = f103G K a0 a1 := by kernel_rfl
theorem f176_t2 (K : Nat) (a0 : List Int) (a1 : Int) (bq3 : Int) : ∀ (n : Nat) (q3 : Int), loopN (exec (f176E K) 1 (selC f176C [1, 0, 1, 0, 0])) 1 (f176_fr2 a0 a1 bq3) n (f176_fr2 a0 a1 q3) (f176_k2 K a0 a1 (realL (f176E K) 1)) = f176_l2 K a0 a1 n q3 := by
  have key : ∀ (lr : LR Int) (L : Fr → Option Int) (q3 : Int), execG (f176E K) 1 lr (selC f176C [1, 0, 1, 0, 0]) (f176_fr2 a0 a1 q3) (loopK 1 (f176_fr2 a0 a1 bq3) L (f176_k2 K a0 a1 lr)) = f176_b2 K a0 a1 (fun v0 => L (f176_fr2 a0 a1 v0)) q3 := by
    intro lr L q3; kernel_rfl
  intro n q3
  refine loopN_iter (X := Int) (frame := fun x => (f176_fr2 a0 a1 x)) (body := (fun L x => (fun L2 => f176_b2 K a0 a1 L2 x) (fun v0 => L v0))) (fun L x => ?_) n q3
  rw [exec_G]
  exact (key (realL (f176E K) 1) L x).trans (by rfl)
theorem f176_run (K : Nat) (a0 : List Int) (a1 : Int) : runF (f176E K) Tryz.f176 [(.ro, (.list 2 sI)), (.ro, sI)] [sI] (a0, a1, ()) = f176G K a0 a1 := by
  have key : ∀ (lr : LR Int), runG (f176E K) Tryz.f176 [(.ro, (.list 2 sI)), (.ro, sI)] [sI] (a0, a1, ()) lr = f176_g K a0 a1 (fun d0 => lr (selC f176C [1, 0, 1, 0, 0]) (f176_fr2 a0 a1 d0) (f176_k2 K a0 a1 lr)) := by intro lr; kernel_rfl
  have h2 : (fun d0 => (realL (f176E K) 1) (selC f176C [1, 0, 1, 0, 0]) (f176_fr2 a0 a1 d0) (f176_k2 K a0 a1 (realL (f176E K) 1))) = fun d0 => f176_l2 K a0 a1 K d0 := by
    funext d0
    exact f176_t2 K a0 a1 d0 K d0
  exact runF_G (n0 := 1) (by rfl) ((key (realL (f176E K) 1)).trans (by rw [h2] <;> rfl))
theorem f107_run (K : Nat) (a0 : List Int) (a1 : Int) : runF (f107E K) Tryz.f107 [(.ro, (.list 2 sI)), (.ro, sI)] [.bool] (a0, a1, ()) = f107G K a0 a1 := by kernel_rfl
theorem f102_run (K : Nat) (a0 : Int × Int) (a1 : List tV) (a2 : List Int) (a3 : List Int) (a4 : Int × Int × Int) : runF (f102E K) Tryz.f102 [(.ro, sV), (.cap, (.list 53 sV)), (.cap, (.list 2 sI)), (.cap, (.list 2 sI)), (.cap, sL)] [.bool] (a0, a1, a2, a3, a4, ()) = f102G K a0 a1 a2 a3 a4 := by kernel_rfl
theorem f46_t7 (K : Nat) (a0 : Int) (a1 : Int × Int × Int) (a2 : List tM) (y1 : (List (List tV)) × Int) (y2 : (List (List tV)) × List Int) (bq8 : List tV) (bq9 : List Int) : ∀ (n : Nat) (q8 : List tV) (q9 : List Int), loopN (exec (f46E K) 1 (selC f46C [1, 1, 1, 1, 1, 1, 0, 0, 0])) 1 (f46_fr7 a0 a1 a2 y1 y2 bq8 bq9) n (f46_fr7 a0 a1 a2 y1 y2 q8 q9) (f46_k7 K a0 a1 a2 (realL (f46E K) 1)) = f46_l7 K a0 a1 a2 y1 y2 n q8 q9 := by
  have key : ∀ (lr : LR ((List tV) × Int)) (L : Fr → Option ((List tV) × Int)) (q8 : List tV) (q9 : List Int), execG (f46E K) 1 lr (selC f46C [1, 1, 1, 1, 1, 1, 0, 0, 0]) (f46_fr7 a0 a1 a2 y1 y2 q8 q9) (loopK 1 (f46_fr7 a0 a1 a2 y1 y2 bq8 bq9) L (f46_k7 K a0 a1 a2 lr)) = f46_b7 K a0 a1 a2 y1 y2 (fun v0 v1 => L (f46_fr7 a0 a1 a2 y1 y2 v0 v1)) q8 q9 := by
    intro lr L q8 q9; kernel_rfl
  intro n q8 q9
  refine loopN_iter (X := List tV × List Int) (frame := fun x => (f46_fr7 a0 a1 a2 y1 y2 x.1 x.2)) (body := (fun L x => (fun L7 => f46_b7 K a0 a1 a2 y1 y2 L7 x.1 x.2) (fun v0 v1 => L (v0, v1)))) (fun L x => ?_) n (q8, q9)
  rw [exec_G]
  exact (key (realL (f46E K) 1) L x.1 x.2).trans (by rfl)
theorem f46_run (K : Nat) (a0 : Int) (a1 : Int × Int × Int) (a2 : List tM) : runF (f46E K) Tryz.f46 [(.ro, sI), (.ro, sL), (.ro, (.list 91 sM))] [(.list 53 sV), sI] (a0, a1, a2, ()) = f46G K a0 a1 a2 := by
  have key : ∀ (lr : LR ((List tV) × Int)), runG (f46E K) Tryz.f46 [(.ro, sI), (.ro, sL), (.ro, (.list 91 sM))] [(.list 53 sV), sI] (a0, a1, a2, ()) lr = f46_g K a0 a1 a2 (fun c0 c1 d0 d1 => lr (selC f46C [1, 1, 1, 1, 1, 1, 0, 0, 0]) (f46_fr7 a0 a1 a2 c0 c1 d0 d1) (f46_k7 K a0 a1 a2 lr)) := by intro lr; kernel_rfl
  have h7 : (fun c0 c1 d0 d1 => (realL (f46E K) 1) (selC f46C [1, 1, 1, 1, 1, 1, 0, 0, 0]) (f46_fr7 a0 a1 a2 c0 c1 d0 d1) (f46_k7 K a0 a1 a2 (realL (f46E K) 1))) = fun c0 c1 d0 d1 => f46_l7 K a0 a1 a2 c0 c1 K d0 d1 := by
    funext c0 c1 d0 d1
    exact f46_t7 K a0 a1 a2 c0 c1 d0 d1 K d0 d1
  exact runF_G (n0 := 1) (by rfl) ((key (realL (f46E K) 1)).trans (by rw [h7] <;> rfl))
theorem f112_run (K : Nat) (a0 : Int × Int) (a1 : Int × Int) : runF (f112E K) Tryz.f112 [(.ro, sV), (.ro, sV)] [.bool] (a0, a1, ()) = f112G K a0 a1 := by kernel_rfl
theorem f47_t3 (K : Nat) (a0 : List tV) (a1 : List tV) (bq4 : Int) : ∀ (n : Nat) (q4 : Int), loopN (exec (f47E K) 2 (selC f47C [1, 1, 0, 1, 0, 0])) 2 (f47_fr3 a0 a1 bq4) n (f47_fr3 a0 a1 q4) (f47_k3 K a0 a1 (realL (f47E K) 2)) = f47_l3 K a0 a1 n q4 := by
  have key : ∀ (lr : LR Bool) (L : Fr → Option Bool) (q4 : Int), execG (f47E K) 2 lr (selC f47C [1, 1, 0, 1, 0, 0]) (f47_fr3 a0 a1 q4) (loopK 2 (f47_fr3 a0 a1 bq4) L (f47_k3 K a0 a1 lr)) = f47_b3 K a0 a1 (fun v0 => L (f47_fr3 a0 a1 v0)) q4 := by
    intro lr L q4; kernel_rfl
  intro n q4
  refine loopN_iter (X := Int) (frame := fun x => (f47_fr3 a0 a1 x)) (body := (fun L x => (fun L3 => f47_b3 K a0 a1 L3 x) (fun v0 => L v0))) (fun L x => ?_) n q4
  rw [exec_G]
  exact (key (realL (f47E K) 2) L x).trans (by rfl)
theorem f47_run (K : Nat) (a0 : List tV) (a1 : List tV) : runF (f47E K) Tryz.f47 [(.ro, (.list 53 sV)), (.ro, (.list 53 sV))] [.bool] (a0, a1, ()) = f47G K a0 a1 := by
  have key : ∀ (lr : LR Bool), runG (f47E K) Tryz.f47 [(.ro, (.list 53 sV)), (.ro, (.list 53 sV))] [.bool] (a0, a1, ()) lr = f47_g K a0 a1 (fun d0 => lr (selC f47C [1, 1, 0, 1, 0, 0]) (f47_fr3 a0 a1 d0) (f47_k3 K a0 a1 lr)) := by intro lr; kernel_rfl
  have h3 : (fun d0 => (realL (f47E K) 2) (selC f47C [1, 1, 0, 1, 0, 0]) (f47_fr3 a0 a1 d0) (f47_k3 K a0 a1 (realL (f47E K) 2))) = fun d0 => f47_l3 K a0 a1 K d0 := by
    funext d0
    exact f47_t3 K a0 a1 d0 K d0
  exact runF_G (n0 := 2) (by rfl) ((key (realL (f47E K) 2)).trans (by rw [h3] <;> rfl))
theorem f132_run (K : Nat) (a0 : Int × Int × Int × Int) (a1 : Int × Int × Int × Int) : runF (f132E K) Tryz.f132 [(.ro, sA), (.ro, sA)] [.bool] (a0, a1, ()) = f132G K a0 a1 := by kernel_rfl
theorem f65_run (K : Nat) (a0 : tA × Int × Int) (a1 : tA × Int × Int) : runF (f65E K) Tryz.f65 [(.ro, sM), (.ro, sM)] [.bool] (a0, a1, ()) = f65G K a0 a1 := by kernel_rfl
theorem f18_t3 (K : Nat) (a0 : List tM) (a1 : List tM) (bq4 : Int) : ∀ (n : Nat) (q4 : Int), loopN (exec (f18E K) 2 (selC f18C [1, 1, 0, 1, 0, 0])) 2 (f18_fr3 a0 a1 bq4) n (f18_fr3 a0 a1 q4) (f18_k3 K a0 a1 (realL (f18E K) 2)) = f18_l3 K a0 a1 n q4 := by
  have key : ∀ (lr : LR Bool) (L : Fr → Option Bool) (q4 : Int), execG (f18E K) 2 lr (selC f18C [1, 1, 0, 1, 0, 0]) (f18_fr3 a0 a1 q4) (loopK 2 (f18_fr3 a0 a1 bq4) L (f18_k3 K a0 a1 lr)) = f18_b3 K a0 a1 (fun v0 => L (f18_fr3 a0 a1 v0)) q4 := by
    intro lr L q4; kernel_rfl
  intro n q4
  refine loopN_iter (X := Int) (frame := fun x => (f18_fr3 a0 a1 x)) (body := (fun L x => (fun L3 => f18_b3 K a0 a1 L3 x) (fun v0 => L v0))) (fun L x => ?_) n q4
  rw [exec_G]
  exact (key (realL (f18E K) 2) L x).trans (by rfl)
theorem f18_run (K : Nat) (a0 : List tM) (a1 : List tM) : runF (f18E K) Tryz.f18 [(.ro, (.list 91 sM)), (.ro, (.list 91 sM))] [.bool] (a0, a1, ()) = f18G K a0 a1 := by
  have key : ∀ (lr : LR Bool), runG (f18E K) Tryz.f18 [(.ro, (.list 91 sM)), (.ro, (.list 91 sM))] [.bool] (a0, a1, ()) lr = f18_g K a0 a1 (fun d0 => lr (selC f18C [1, 1, 0, 1, 0, 0]) (f18_fr3 a0 a1 d0) (f18_k3 K a0 a1 lr)) := by intro lr; kernel_rfl
  have h3 : (fun d0 => (realL (f18E K) 2) (selC f18C [1, 1, 0, 1, 0, 0]) (f18_fr3 a0 a1 d0) (f18_k3 K a0 a1 (realL (f18E K) 2))) = fun d0 => f18_l3 K a0 a1 K d0 := by
    funext d0
    exact f18_t3 K a0 a1 d0 K d0
  exact runF_G (n0 := 2) (by rfl) ((key (realL (f18E K) 2)).trans (by rw [h3] <;> rfl))
theorem f31_t2 (K : Nat) (a0 : List tM) (a1 : Int) (bq3 : Int) (bq4 : Int) (bq5 : List tM) : ∀ (n : Nat) (q3 : Int) (q4 : Int) (q5 : List tM), loopN (exec (f31E K) 1 (selC f31C [1, 0, 1, 0, 0])) 1 (f31_fr2 bq3 bq4 bq5) n (f31_fr2 q3 q4 q5) (f31_k2 K a0 a1 (realL (f31E K) 1)) = f31_l2 K n q3 q4 q5 := by
  have key : ∀ (lr : LR ((List tM) × Int)) (L : Fr → Option ((List tM) × Int)) (q3 : Int) (q4 : Int) (q5 : List tM), execG (f31E K) 1 lr (selC f31C [1, 0, 1, 0, 0]) (f31_fr2 q3 q4 q5) (loopK 1 (f31_fr2 bq3 bq4 bq5) L (f31_k2 K a0 a1 lr)) = f31_b2 K (fun v0 v1 v2 => L (f31_fr2 v0 v1 v2)) q3 q4 q5 := by
    intro lr L q3 q4 q5; kernel_rfl
  intro n q3 q4 q5
  refine loopN_iter (X := Int × Int × List tM) (frame := fun x => (f31_fr2 x.1 x.2.1 x.2.2)) (body := (fun L x => (fun L2 => f31_b2 K L2 x.1 x.2.1 x.2.2) (fun v0 v1 v2 => L (v0, v1, v2)))) (fun L x => ?_) n (q3, q4, q5)
  rw [exec_G]
  exact (key (realL (f31E K) 1) L x.1 x.2.1 x.2.2).trans (by rfl)
theorem f31_run (K : Nat) (a0 : List tM) (a1 : Int) : runF (f31E K) Tryz.f31 [(.io, (.list 91 sM)), (.ro, sI)] [sI] (a0, a1, ()) = f31G K a0 a1 := by
  have key : ∀ (lr : LR ((List tM) × Int)), runG (f31E K) Tryz.f31 [(.io, (.list 91 sM)), (.ro, sI)] [sI] (a0, a1, ()) lr = f31_g K a0 a1 (fun d0 d1 d2 => lr (selC f31C [1, 0, 1, 0, 0]) (f31_fr2 d0 d1 d2) (f31_k2 K a0 a1 lr)) := by intro lr; kernel_rfl
  have h2 : (fun d0 d1 d2 => (realL (f31E K) 1) (selC f31C [1, 0, 1, 0, 0]) (f31_fr2 d0 d1 d2) (f31_k2 K a0 a1 (realL (f31E K) 1))) = fun d0 d1 d2 => f31_l2 K K d0 d1 d2 := by
    funext d0 d1 d2
    exact f31_t2 K a0 a1 d0 d1 d2 K d0 d1 d2
  exact runF_G (n0 := 1) (by rfl) ((key (realL (f31E K) 1)).trans (by rw [h2] <;> rfl))
theorem f48_t2 (K : Nat) (a0 : List tV) (a1 : Int) (bq3 : Int) (bq4 : Int) (bq5 : List tV) : ∀ (n : Nat) (q3 : Int) (q4 : Int) (q5 : List tV), loopN (exec (f48E K) 1 (selC f48C [1, 0, 1, 0, 0])) 1 (f48_fr2 bq3 bq4 bq5) n (f48_fr2 q3 q4 q5) (f48_k2 K a0 a1 (realL (f48E K) 1)) = f48_l2 K n q3 q4 q5 := by
  have key : ∀ (lr : LR ((List tV) × Int)) (L : Fr → Option ((List tV) × Int)) (q3 : Int) (q4 : Int) (q5 : List tV), execG (f48E K) 1 lr (selC f48C [1, 0, 1, 0, 0]) (f48_fr2 q3 q4 q5) (loopK 1 (f48_fr2 bq3 bq4 bq5) L (f48_k2 K a0 a1 lr)) = f48_b2 K (fun v0 v1 v2 => L (f48_fr2 v0 v1 v2)) q3 q4 q5 := by
    intro lr L q3 q4 q5; kernel_rfl
  intro n q3 q4 q5
  refine loopN_iter (X := Int × Int × List tV) (frame := fun x => (f48_fr2 x.1 x.2.1 x.2.2)) (body := (fun L x => (fun L2 => f48_b2 K L2 x.1 x.2.1 x.2.2) (fun v0 v1 v2 => L (v0, v1, v2)))) (fun L x => ?_) n (q3, q4, q5)
  rw [exec_G]
  exact (key (realL (f48E K) 1) L x.1 x.2.1 x.2.2).trans (by rfl)
theorem f48_run (K : Nat) (a0 : List tV) (a1 : Int) : runF (f48E K) Tryz.f48 [(.io, (.list 53 sV)), (.ro, sI)] [sI] (a0, a1, ()) = f48G K a0 a1 := by
  have key : ∀ (lr : LR ((List tV) × Int)), runG (f48E K) Tryz.f48 [(.io, (.list 53 sV)), (.ro, sI)] [sI] (a0, a1, ()) lr = f48_g K a0 a1 (fun d0 d1 d2 => lr (selC f48C [1, 0, 1, 0, 0]) (f48_fr2 d0 d1 d2) (f48_k2 K a0 a1 lr)) := by intro lr; kernel_rfl
  have h2 : (fun d0 d1 d2 => (realL (f48E K) 1) (selC f48C [1, 0, 1, 0, 0]) (f48_fr2 d0 d1 d2) (f48_k2 K a0 a1 (realL (f48E K) 1))) = fun d0 d1 d2 => f48_l2 K K d0 d1 d2 := by
    funext d0 d1 d2
    exact f48_t2 K a0 a1 d0 d1 d2 K d0 d1 d2
  exact runF_G (n0 := 1) (by rfl) ((key (realL (f48E K) 1)).trans (by rw [h2] <;> rfl))
theorem f49_t2 (K : Nat) (a0 : List tV) (a1 : Int) (bq3 : Int) (bq4 : Int) : ∀ (n : Nat) (q3 : Int) (q4 : Int), loopN (exec (f49E K) 1 (selC f49C [1, 0, 1, 0, 0])) 1 (f49_fr2 a0 bq3 bq4) n (f49_fr2 a0 q3 q4) (f49_k2 K a0 a1 (realL (f49E K) 1)) = f49_l2 K a0 n q3 q4 := by
  have key : ∀ (lr : LR Int) (L : Fr → Option Int) (q3 : Int) (q4 : Int), execG (f49E K) 1 lr (selC f49C [1, 0, 1, 0, 0]) (f49_fr2 a0 q3 q4) (loopK 1 (f49_fr2 a0 bq3 bq4) L (f49_k2 K a0 a1 lr)) = f49_b2 K a0 (fun v0 v1 => L (f49_fr2 a0 v0 v1)) q3 q4 := by
    intro lr L q3 q4; kernel_rfl
  intro n q3 q4
  refine loopN_iter (X := Int × Int) (frame := fun x => (f49_fr2 a0 x.1 x.2)) (body := (fun L x => (fun L2 => f49_b2 K a0 L2 x.1 x.2) (fun v0 v1 => L (v0, v1)))) (fun L x => ?_) n (q3, q4)
  rw [exec_G]
  exact (key (realL (f49E K) 1) L x.1 x.2).trans (by rfl)
theorem f49_run (K : Nat) (a0 : List tV) (a1 : Int) : runF (f49E K) Tryz.f49 [(.ro, (.list 53 sV)), (.ro, sI)] [sI] (a0, a1, ()) = f49G K a0 a1 := by
  have key : ∀ (lr : LR Int), runG (f49E K) Tryz.f49 [(.ro, (.list 53 sV)), (.ro, sI)] [sI] (a0, a1, ()) lr = f49_g K a0 a1 (fun d0 d1 => lr (selC f49C [1, 0, 1, 0, 0]) (f49_fr2 a0 d0 d1) (f49_k2 K a0 a1 lr)) := by intro lr; kernel_rfl
  have h2 : (fun d0 d1 => (realL (f49E K) 1) (selC f49C [1, 0, 1, 0, 0]) (f49_fr2 a0 d0 d1) (f49_k2 K a0 a1 (realL (f49E K) 1))) = fun d0 d1 => f49_l2 K a0 K d0 d1 := by
    funext d0 d1
    exact f49_t2 K a0 a1 d0 d1 K d0 d1
  exact runF_G (n0 := 1) (by rfl) ((key (realL (f49E K) 1)).trans (by rw [h2] <;> rfl))
theorem f9_run (K : Nat) (a0 : Int) (a1 : Int × Int × Int) (a2 : List tM) : runF (f9E K) Tryz.f9 [(.ro, sI), (.ro, sL), (.ro, (.list 95 sM))] [.bool] (a0, a1, a2, ()) = f9G K a0 a1 a2 := by kernel_rfl
end Go.Proofs.YtmnciknpeefkfaaGreat.X
