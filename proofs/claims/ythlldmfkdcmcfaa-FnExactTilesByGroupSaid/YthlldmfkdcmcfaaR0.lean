/- Functions of the program as plain Lean functions, and that the program does what they say. Printed by gen.py. -/
import Derived.Test.YthlldmfkdcmcfaaD0
namespace Go.Proofs.Ythlldmfkdcmcfaa.X
open Go
set_option maxRecDepth 100000
set_option linter.unusedVariables false
theorem f5_run (K : Nat) (a0 : List ((Int × Int × Int × Int) × Int × Int)) (a1 : Int) : runF (f5E K) Try.f5 [(.ro, (.list 62 (.cons (.cons (.int .i64) (.cons (.int .i64) (.cons (.int .i64) (.int .i64)))) (.cons (.int .i64) (.int .i64))))), (.ro, (.int .i64))] [(.int .i64)] (a0, a1, ()) = f5G K a0 a1 := by kernel_rfl
theorem f6_run (K : Nat) (a0 : List (Int × Int)) (a1 : Int) : runF (f6E K) Try.f6 [(.ro, (.list 60 (.cons (.int .i64) (.int .i64)))), (.ro, (.int .i64))] [(.int .i64)] (a0, a1, ()) = f6G K a0 a1 := by kernel_rfl
theorem f8_run (K : Nat) (a0 : Int × Int × Int) : runF (f8E K) Try.f8 [(.ro, (.cons (.int .i64) (.cons (.int .i64) (.int .i64))))] [(.cons (.int .i64) (.cons (.int .i64) (.int .i64)))] (a0, ()) = f8G K a0 := by kernel_rfl
theorem f39_run (K : Nat) (a0 : Int × Int × Int × Int) : runF (f39E K) Try.f39 [(.ro, (.cons (.int .i64) (.cons (.int .i64) (.cons (.int .i64) (.int .i64)))))] [(.cons (.int .i64) (.cons (.int .i64) (.cons (.int .i64) (.int .i64))))] (a0, ()) = f39G K a0 := by kernel_rfl
theorem f22_run (K : Nat) (a0 : Int × Int) : runF (f22E K) Try.f22 [(.ro, (.cons (.int .i64) (.int .i64)))] [(.cons (.int .i64) (.int .i64))] (a0, ()) = f22G K a0 := by kernel_rfl
theorem f21_run (K : Nat) (a0 : (Int × Int × Int × Int) × Int × Int) : runF (f21E K) Try.f21 [(.ro, (.cons (.cons (.int .i64) (.cons (.int .i64) (.cons (.int .i64) (.int .i64)))) (.cons (.int .i64) (.int .i64))))] [(.cons (.cons (.int .i64) (.cons (.int .i64) (.cons (.int .i64) (.int .i64)))) (.cons (.int .i64) (.int .i64)))] (a0, ()) = f21G K a0 := by kernel_rfl
theorem f9_t3 (K : Nat) (a0 : List ((Int × Int × Int × Int) × Int × Int)) (bq4 : Int) (bq5 : List ((Int × Int × Int × Int) × Int × Int)) : ∀ (n : Nat) (q4 : Int) (q5 : List ((Int × Int × Int × Int) × Int × Int)), loopN (exec (f9E K) 1 (selC f9C [1, 1, 0, 1, 0, 0])) 1 (f9_fr3 a0 bq4 bq5) n (f9_fr3 a0 q4 q5) (f9_k3 K a0 (realL (f9E K) 1)) = f9_l3 K a0 n q4 q5 := by
  have key : ∀ (lr : LR (List ((Int × Int × Int × Int) × Int × Int))) (L : Fr → Option (List ((Int × Int × Int × Int) × Int × Int))) (q4 : Int) (q5 : List ((Int × Int × Int × Int) × Int × Int)), execG (f9E K) 1 lr (selC f9C [1, 1, 0, 1, 0, 0]) (f9_fr3 a0 q4 q5) (loopK 1 (f9_fr3 a0 bq4 bq5) L (f9_k3 K a0 lr)) = f9_b3 K a0 (fun v0 v1 => L (f9_fr3 a0 v0 v1)) q4 q5 := by
    intro lr L q4 q5; kernel_rfl
  intro n q4 q5
  refine loopN_iter (X := Int × List ((Int × Int × Int × Int) × Int × Int)) (frame := fun x => (f9_fr3 a0 x.1 x.2)) (body := (fun L x => (fun L3 => f9_b3 K a0 L3 x.1 x.2) (fun v0 v1 => L (v0, v1)))) (fun L x => ?_) n (q4, q5)
  rw [exec_G]
  exact (key (realL (f9E K) 1) L x.1 x.2).trans (by rfl)
theorem f9_run (K : Nat) (a0 : List ((Int × Int × Int × Int) × Int × Int)) : runF (f9E K) Try.f9 [(.ro, (.list 62 (.cons (.cons (.int .i64) (.cons (.int .i64) (.cons (.int .i64) (.int .i64)))) (.cons (.int .i64) (.int .i64)))))] [(.list 57 (.cons (.cons (.int .i64) (.cons (.int .i64) (.cons (.int .i64) (.int .i64)))) (.cons (.int .i64) (.int .i64))))] (a0, ()) = f9G K a0 := by
  have key : ∀ (lr : LR (List ((Int × Int × Int × Int) × Int × Int))), runG (f9E K) Try.f9 [(.ro, (.list 62 (.cons (.cons (.int .i64) (.cons (.int .i64) (.cons (.int .i64) (.int .i64)))) (.cons (.int .i64) (.int .i64)))))] [(.list 57 (.cons (.cons (.int .i64) (.cons (.int .i64) (.cons (.int .i64) (.int .i64)))) (.cons (.int .i64) (.int .i64))))] (a0, ()) lr = f9_g K a0 (fun d0 d1 => lr (selC f9C [1, 1, 0, 1, 0, 0]) (f9_fr3 a0 d0 d1) (f9_k3 K a0 lr)) := by intro lr; kernel_rfl
  have h3 : (fun d0 d1 => (realL (f9E K) 1) (selC f9C [1, 1, 0, 1, 0, 0]) (f9_fr3 a0 d0 d1) (f9_k3 K a0 (realL (f9E K) 1))) = fun d0 d1 => f9_l3 K a0 K d0 d1 := by
    funext d0 d1
    exact f9_t3 K a0 d0 d1 K d0 d1
  exact runF_G (n0 := 1) (by rfl) ((key (realL (f9E K) 1)).trans (by rw [h3] <;> rfl))
theorem f10_t3 (K : Nat) (a0 : List (Int × Int)) (bq4 : Int) (bq5 : List (Int × Int)) : ∀ (n : Nat) (q4 : Int) (q5 : List (Int × Int)), loopN (exec (f10E K) 1 (selC f10C [1, 1, 0, 1, 0, 0])) 1 (f10_fr3 a0 bq4 bq5) n (f10_fr3 a0 q4 q5) (f10_k3 K a0 (realL (f10E K) 1)) = f10_l3 K a0 n q4 q5 := by
  have key : ∀ (lr : LR (List (Int × Int))) (L : Fr → Option (List (Int × Int))) (q4 : Int) (q5 : List (Int × Int)), execG (f10E K) 1 lr (selC f10C [1, 1, 0, 1, 0, 0]) (f10_fr3 a0 q4 q5) (loopK 1 (f10_fr3 a0 bq4 bq5) L (f10_k3 K a0 lr)) = f10_b3 K a0 (fun v0 v1 => L (f10_fr3 a0 v0 v1)) q4 q5 := by
    intro lr L q4 q5; kernel_rfl
  intro n q4 q5
  refine loopN_iter (X := Int × List (Int × Int)) (frame := fun x => (f10_fr3 a0 x.1 x.2)) (body := (fun L x => (fun L3 => f10_b3 K a0 L3 x.1 x.2) (fun v0 v1 => L (v0, v1)))) (fun L x => ?_) n (q4, q5)
  rw [exec_G]
  exact (key (realL (f10E K) 1) L x.1 x.2).trans (by rfl)
theorem f10_run (K : Nat) (a0 : List (Int × Int)) : runF (f10E K) Try.f10 [(.ro, (.list 60 (.cons (.int .i64) (.int .i64))))] [(.list 55 (.cons (.int .i64) (.int .i64)))] (a0, ()) = f10G K a0 := by
  have key : ∀ (lr : LR (List (Int × Int))), runG (f10E K) Try.f10 [(.ro, (.list 60 (.cons (.int .i64) (.int .i64))))] [(.list 55 (.cons (.int .i64) (.int .i64)))] (a0, ()) lr = f10_g K a0 (fun d0 d1 => lr (selC f10C [1, 1, 0, 1, 0, 0]) (f10_fr3 a0 d0 d1) (f10_k3 K a0 lr)) := by intro lr; kernel_rfl
  have h3 : (fun d0 d1 => (realL (f10E K) 1) (selC f10C [1, 1, 0, 1, 0, 0]) (f10_fr3 a0 d0 d1) (f10_k3 K a0 (realL (f10E K) 1))) = fun d0 d1 => f10_l3 K a0 K d0 d1 := by
    funext d0 d1
    exact f10_t3 K a0 d0 d1 K d0 d1
  exact runF_G (n0 := 1) (by rfl) ((key (realL (f10E K) 1)).trans (by rw [h3] <;> rfl))
theorem f52_run (K : Nat) (a0 : Int) : runF (f52E K) Try.f52 [(.ro, (.int .i64))] [.bool] (a0, ()) = f52G K a0 := by kernel_rfl
theorem f66_run (K : Nat) (a0 : Int) (a1 : Int) (a2 : Int) : runF (f66E K) Try.f66 [(.ro, (.int .i64)), (.ro, (.int .i64)), (.ro, (.int .i64))] [.bool] (a0, a1, a2, ()) = f66G K a0 a1 a2 := by kernel_rfl
theorem f53_run (K : Nat) (a0 : Int × Int × Int) : runF (f53E K) Try.f53 [(.ro, (.cons (.int .i64) (.cons (.int .i64) (.int .i64))))] [.bool] (a0, ()) = f53G K a0 := by kernel_rfl
theorem f33_run (K : Nat) (a0 : Int) (a1 : Int × Int × Int) : runF (f33E K) Try.f33 [(.ro, (.int .i64)), (.ro, (.cons (.int .i64) (.cons (.int .i64) (.int .i64))))] [(.int .i64)] (a0, a1, ()) = f33G K a0 a1 := by kernel_rfl
theorem f54_run (K : Nat) (a0 : Int × Int) : runF (f54E K) Try.f54 [(.ro, (.cons (.int .i64) (.int .i64)))] [.bool] (a0, ()) = f54G K a0 := by kernel_rfl
theorem f55_run (K : Nat) (a0 : Int × Int) (a1 : Int × Int) : runF (f55E K) Try.f55 [(.ro, (.cons (.int .i64) (.int .i64))), (.ro, (.cons (.int .i64) (.int .i64)))] [.bool] (a0, a1, ()) = f55G K a0 a1 := by kernel_rfl
theorem f34_t4 (K : Nat) (a0 : List (Int × Int)) (bq5 : Int) : ∀ (n : Nat) (q5 : Int), loopN (exec (f34E K) 1 (selC f34C [1, 0, 1, 0, 0])) 1 (f34_fr4 a0 bq5) n (f34_fr4 a0 q5) (f34_k4 K a0 (realL (f34E K) 1)) = f34_l4 K a0 n q5 := by
  have key : ∀ (lr : LR Bool) (L : Fr → Option Bool) (q5 : Int), execG (f34E K) 1 lr (selC f34C [1, 0, 1, 0, 0]) (f34_fr4 a0 q5) (loopK 1 (f34_fr4 a0 bq5) L (f34_k4 K a0 lr)) = f34_b4 K a0 (fun v0 => L (f34_fr4 a0 v0)) q5 := by
    intro lr L q5; kernel_rfl
  intro n q5
  refine loopN_iter (X := Int) (frame := fun x => (f34_fr4 a0 x)) (body := (fun L x => (fun L4 => f34_b4 K a0 L4 x) (fun v0 => L v0))) (fun L x => ?_) n q5
  rw [exec_G]
  exact (key (realL (f34E K) 1) L x).trans (by rfl)
theorem f34_run (K : Nat) (a0 : List (Int × Int)) : runF (f34E K) Try.f34 [(.ro, (.list 55 (.cons (.int .i64) (.int .i64))))] [.bool] (a0, ()) = f34G K a0 := by
  have key : ∀ (lr : LR Bool), runG (f34E K) Try.f34 [(.ro, (.list 55 (.cons (.int .i64) (.int .i64))))] [.bool] (a0, ()) lr = f34_g K a0 (fun d0 => lr (selC f34C [1, 0, 1, 0, 0]) (f34_fr4 a0 d0) (f34_k4 K a0 lr)) := by intro lr; kernel_rfl
  have h4 : (fun d0 => (realL (f34E K) 1) (selC f34C [1, 0, 1, 0, 0]) (f34_fr4 a0 d0) (f34_k4 K a0 (realL (f34E K) 1))) = fun d0 => f34_l4 K a0 K d0 := by
    funext d0
    exact f34_t4 K a0 d0 K d0
  exact runF_G (n0 := 1) (by rfl) ((key (realL (f34E K) 1)).trans (by rw [h4] <;> rfl))
theorem f113_run (K : Nat) (a0 : Int × Int × Int × Int) : runF (f113E K) Try.f113 [(.ro, (.cons (.int .i64) (.cons (.int .i64) (.cons (.int .i64) (.int .i64)))))] [.bool] (a0, ()) = f113G K a0 := by kernel_rfl
theorem f114_run (K : Nat) (a0 : Int × Int × Int × Int) : runF (f114E K) Try.f114 [(.ro, (.cons (.int .i64) (.cons (.int .i64) (.cons (.int .i64) (.int .i64)))))] [(.int .i64)] (a0, ()) = f114G K a0 := by kernel_rfl
theorem f105_run (K : Nat) (a0 : Int × Int × Int × Int) : runF (f105E K) Try.f105 [(.ro, (.cons (.int .i64) (.cons (.int .i64) (.cons (.int .i64) (.int .i64)))))] [.bool] (a0, ()) = f105G K a0 := by kernel_rfl
theorem f115_run (K : Nat) (a0 : Int) (a1 : Int × Int) : runF (f115E K) Try.f115 [(.ro, (.int .i64)), (.ro, (.cons (.int .i64) (.int .i64)))] [(.int .i64)] (a0, a1, ()) = f115G K a0 a1 := by kernel_rfl
theorem f92_run (K : Nat) (a0 : Int × Int) (a1 : Int × Int) : runF (f92E K) Try.f92 [(.ro, (.cons (.int .i64) (.int .i64))), (.ro, (.cons (.int .i64) (.int .i64)))] [(.cons (.int .i64) (.int .i64))] (a0, a1, ()) = f92G K a0 a1 := by kernel_rfl
theorem f106_run (K : Nat) (a0 : Int) (a1 : Int × Int × Int × Int) : runF (f106E K) Try.f106 [(.ro, (.int .i64)), (.ro, (.cons (.int .i64) (.cons (.int .i64) (.cons (.int .i64) (.int .i64)))))] [.bool] (a0, a1, ()) = f106G K a0 a1 := by kernel_rfl
theorem f86_run (K : Nat) (a0 : Int) (a1 : Int × Int × Int × Int) : runF (f86E K) Try.f86 [(.ro, (.int .i64)), (.ro, (.cons (.int .i64) (.cons (.int .i64) (.cons (.int .i64) (.int .i64)))))] [.bool] (a0, a1, ()) = f86G K a0 a1 := by kernel_rfl
theorem f107_run (K : Nat) (a0 : Int × Int × Int) : runF (f107E K) Try.f107 [(.ro, (.cons (.int .i64) (.cons (.int .i64) (.int .i64))))] [(.list 55 (.cons (.int .i64) (.int .i64)))] (a0, ()) = f107G K a0 := by kernel_rfl
theorem f93_run (K : Nat) (a0 : Int × Int × Int × Int) (a1 : Int × Int) : runF (f93E K) Try.f93 [(.ro, (.cons (.int .i64) (.cons (.int .i64) (.cons (.int .i64) (.int .i64))))), (.ro, (.cons (.int .i64) (.int .i64)))] [(.cons (.int .i64) (.int .i64))] (a0, a1, ()) = f93G K a0 a1 := by kernel_rfl
theorem f116_run (K : Nat) (rec : Int → Int → Option Int) (a0 : Int) (a1 : Int) : runF (f116E K rec) Try.f116 [(.ro, (.int .i64)), (.ro, (.int .i64))] [(.int .i64)] (a0, a1, ()) = f116_s K rec a0 a1 := by kernel_rfl
theorem f74_run (K : Nat) (a0 : Int) (a1 : Int) : runF (f74E K) Try.f74 [(.ro, (.int .i64)), (.ro, (.int .i64))] [(.int .i64)] (a0, a1, ()) = f74G K a0 a1 := by kernel_rfl
theorem f117_run (K : Nat) (a0 : Int × Int) (a1 : Int) : runF (f117E K) Try.f117 [(.ro, (.cons (.int .i64) (.int .i64))), (.ro, (.int .i64))] [(.cons (.int .i64) (.int .i64))] (a0, a1, ()) = f117G K a0 a1 := by kernel_rfl
theorem f108_t15 (K : Nat) (a0 : List (Int × Int)) (q11 : Int) (q12 : Int) (F10 : Fr → Option (Int × Int × Int)) (bq11 : Int) (bq12 : Int) (bq13 : Int) (bq14 : Int) (bq16 : Int) (bq17 : Int) (bq18 : Int) (bq19 : Int) : ∀ (n : Nat) (q16 : Int) (q17 : Int) (q18 : Int) (q19 : Int), loopN (exec (f108E K) 1 (selC f108C [1, 1, 0, 1, 0, 0, 1, 0, 0, 1, 0, 0, 0])) 1 (f108_fr15 a0 q11 q12 bq16 bq17 bq18 bq19) n (f108_fr15 a0 q11 q12 q16 q17 q18 q19) (f108_k15 K a0 F10 bq11 bq12 bq13 bq14 (realL (f108E K) 1)) = f108_l15 K a0 q11 q12 (fun v0 v1 v2 v3 => F10 (f108_fr10 a0 v0 v1 v2 v3)) n q16 q17 q18 q19 := by
  have key : ∀ (lr : LR (Int × Int × Int)) (L : Fr → Option (Int × Int × Int)) (q16 : Int) (q17 : Int) (q18 : Int) (q19 : Int), execG (f108E K) 1 lr (selC f108C [1, 1, 0, 1, 0, 0, 1, 0, 0, 1, 0, 0, 0]) (f108_fr15 a0 q11 q12 q16 q17 q18 q19) (loopK 1 (f108_fr15 a0 q11 q12 bq16 bq17 bq18 bq19) L (f108_k15 K a0 F10 bq11 bq12 bq13 bq14 lr)) = f108_b15 K a0 q11 q12 (fun v0 v1 v2 v3 => F10 (f108_fr10 a0 v0 v1 v2 v3)) (fun v0 v1 v2 v3 => L (f108_fr15 a0 q11 q12 v0 v1 v2 v3)) q16 q17 q18 q19 := by
    intro lr L q16 q17 q18 q19; kernel_rfl
  intro n q16 q17 q18 q19
  refine loopN_iter (X := Int × Int × Int × Int) (frame := fun x => (f108_fr15 a0 q11 q12 x.1 x.2.1 x.2.2.1 x.2.2.2)) (body := (fun L x => (fun L15 => f108_b15 K a0 q11 q12 (fun v0 v1 v2 v3 => F10 (f108_fr10 a0 v0 v1 v2 v3)) L15 x.1 x.2.1 x.2.2.1 x.2.2.2) (fun v0 v1 v2 v3 => L (v0, v1, v2, v3)))) (fun L x => ?_) n (q16, q17, q18, q19)
  rw [exec_G]
  exact (key (realL (f108E K) 1) L x.1 x.2.1 x.2.2.1 x.2.2.2).trans (by rfl)
theorem f108_t10 (K : Nat) (a0 : List (Int × Int)) (bq11 : Int) (bq12 : Int) (bq13 : Int) (bq14 : Int) : ∀ (n : Nat) (q11 : Int) (q12 : Int) (q13 : Int) (q14 : Int), loopN (exec (f108E K) 1 (selC f108C [1, 1, 0, 1, 0, 0])) 1 (f108_fr10 a0 bq11 bq12 bq13 bq14) n (f108_fr10 a0 q11 q12 q13 q14) (f108_k10 K a0 (realL (f108E K) 1)) = f108_l10 K a0 n q11 q12 q13 q14 := by
  have key : ∀ (lr : LR (Int × Int × Int)) (L : Fr → Option (Int × Int × Int)) (q11 : Int) (q12 : Int) (q13 : Int) (q14 : Int), execG (f108E K) 1 lr (selC f108C [1, 1, 0, 1, 0, 0]) (f108_fr10 a0 q11 q12 q13 q14) (loopK 1 (f108_fr10 a0 bq11 bq12 bq13 bq14) L (f108_k10 K a0 lr)) = f108_b10 K a0 (fun c0 c1 d0 d1 d2 d3 => lr (selC f108C [1, 1, 0, 1, 0, 0, 1, 0, 0, 1, 0, 0, 0]) (f108_fr15 a0 c0 c1 d0 d1 d2 d3) (f108_k15 K a0 L bq11 bq12 bq13 bq14 lr)) (fun v0 v1 v2 v3 => L (f108_fr10 a0 v0 v1 v2 v3)) q11 q12 q13 q14 := by
    intro lr L q11 q12 q13 q14; kernel_rfl
  intro n q11 q12 q13 q14
  refine loopN_iter (X := Int × Int × Int × Int) (frame := fun x => (f108_fr10 a0 x.1 x.2.1 x.2.2.1 x.2.2.2)) (body := (fun L x => (fun L10 => f108_b10 K a0 (fun c0 c1 d0 d1 d2 d3 => f108_l15 K a0 c0 c1 L10 K d0 d1 d2 d3) L10 x.1 x.2.1 x.2.2.1 x.2.2.2) (fun v0 v1 v2 v3 => L (v0, v1, v2, v3)))) (fun L x => ?_) n (q11, q12, q13, q14)
  rw [exec_G]
  have h15 : (fun c0 c1 d0 d1 d2 d3 => (realL (f108E K) 1) (selC f108C [1, 1, 0, 1, 0, 0, 1, 0, 0, 1, 0, 0, 0]) (f108_fr15 a0 c0 c1 d0 d1 d2 d3) (f108_k15 K a0 L bq11 bq12 bq13 bq14 (realL (f108E K) 1))) = fun c0 c1 d0 d1 d2 d3 => f108_l15 K a0 c0 c1 (fun v0 v1 v2 v3 => L (f108_fr10 a0 v0 v1 v2 v3)) K d0 d1 d2 d3 := by
    funext c0 c1 d0 d1 d2 d3
    exact f108_t15 K a0 c0 c1 L bq11 bq12 bq13 bq14 d0 d1 d2 d3 K d0 d1 d2 d3
  exact (key (realL (f108E K) 1) L x.1 x.2.1 x.2.2.1 x.2.2.2).trans (by rw [h15] <;> rfl)
theorem f108_run (K : Nat) (a0 : List (Int × Int)) : runF (f108E K) Try.f108 [(.ro, (.list 55 (.cons (.int .i64) (.int .i64))))] [(.cons (.int .i64) (.cons (.int .i64) (.int .i64)))] (a0, ()) = f108G K a0 := by
  have key : ∀ (lr : LR (Int × Int × Int)), runG (f108E K) Try.f108 [(.ro, (.list 55 (.cons (.int .i64) (.int .i64))))] [(.cons (.int .i64) (.cons (.int .i64) (.int .i64)))] (a0, ()) lr = f108_g K a0 (fun d0 d1 d2 d3 => lr (selC f108C [1, 1, 0, 1, 0, 0]) (f108_fr10 a0 d0 d1 d2 d3) (f108_k10 K a0 lr)) := by intro lr; kernel_rfl
  have h10 : (fun d0 d1 d2 d3 => (realL (f108E K) 1) (selC f108C [1, 1, 0, 1, 0, 0]) (f108_fr10 a0 d0 d1 d2 d3) (f108_k10 K a0 (realL (f108E K) 1))) = fun d0 d1 d2 d3 => f108_l10 K a0 K d0 d1 d2 d3 := by
    funext d0 d1 d2 d3
    exact f108_t10 K a0 d0 d1 d2 d3 K d0 d1 d2 d3
  exact runF_G (n0 := 1) (by rfl) ((key (realL (f108E K) 1)).trans (by rw [h10] <;> rfl))
theorem f87_run (K : Nat) (a0 : Int × Int × Int × Int) (a1 : Int × Int × Int) : runF (f87E K) Try.f87 [(.ro, (.cons (.int .i64) (.cons (.int .i64) (.cons (.int .i64) (.int .i64))))), (.ro, (.cons (.int .i64) (.cons (.int .i64) (.int .i64))))] [(.cons (.int .i64) (.cons (.int .i64) (.int .i64)))] (a0, a1, ()) = f87G K a0 a1 := by kernel_rfl
theorem f67_run (K : Nat) (a0 : Int) (a1 : Int × Int × Int) (a2 : (Int × Int × Int × Int) × Int × Int) : runF (f67E K) Try.f67 [(.ro, (.int .i64)), (.ro, (.cons (.int .i64) (.cons (.int .i64) (.int .i64)))), (.ro, (.cons (.cons (.int .i64) (.cons (.int .i64) (.cons (.int .i64) (.int .i64)))) (.cons (.int .i64) (.int .i64))))] [.bool] (a0, a1, a2, ()) = f67G K a0 a1 a2 := by kernel_rfl
theorem f59_run (K : Nat) (a0 : Int × Int × Int) (a1 : Int × Int) : runF (f59E K) Try.f59 [(.ro, (.cons (.int .i64) (.cons (.int .i64) (.int .i64)))), (.ro, (.cons (.int .i64) (.int .i64)))] [(.cons (.int .i64) (.int .i64))] (a0, a1, ()) = f59G K a0 a1 := by kernel_rfl
theorem f68_run (K : Nat) (a0 : Int × Int × Int) (a1 : (Int × Int × Int × Int) × Int × Int) : runF (f68E K) Try.f68 [(.ro, (.cons (.int .i64) (.cons (.int .i64) (.int .i64)))), (.ro, (.cons (.cons (.int .i64) (.cons (.int .i64) (.cons (.int .i64) (.int .i64)))) (.cons (.int .i64) (.int .i64))))] [(.cons (.cons (.int .i64) (.cons (.int .i64) (.cons (.int .i64) (.int .i64)))) (.cons (.int .i64) (.int .i64)))] (a0, a1, ()) = f68G K a0 a1 := by kernel_rfl
theorem f110_run (K : Nat) (a0 : Int × Int × Int × Int) : runF (f110E K) Try.f110 [(.ro, (.cons (.int .i64) (.cons (.int .i64) (.cons (.int .i64) (.int .i64)))))] [(.list 2 (.int .i64))] (a0, ()) = f110G K a0 := by kernel_rfl
theorem f109_t2 (K : Nat) (a0 : List Int) (a1 : List Int) (bq3 : Int) : ∀ (n : Nat) (q3 : Int), loopN (exec (f109E K) 2 (selC f109C [1, 0, 1, 0, 0])) 2 (f109_fr2 a0 a1 bq3) n (f109_fr2 a0 a1 q3) (f109_k2 K a0 a1 (realL (f109E K) 2)) = f109_l2 K a0 a1 n q3 := by
  have key : ∀ (lr : LR Bool) (L : Fr → Option Bool) (q3 : Int), execG (f109E K) 2 lr (selC f109C [1, 0, 1, 0, 0]) (f109_fr2 a0 a1 q3) (loopK 2 (f109_fr2 a0 a1 bq3) L (f109_k2 K a0 a1 lr)) = f109_b2 K a0 a1 (fun v0 => L (f109_fr2 a0 a1 v0)) q3 := by
    intro lr L q3; kernel_rfl
  intro n q3
  refine loopN_iter (X := Int) (frame := fun x => (f109_fr2 a0 a1 x)) (body := (fun L x => (fun L2 => f109_b2 K a0 a1 L2 x) (fun v0 => L v0))) (fun L x => ?_) n q3
  rw [exec_G]
  exact (key (realL (f109E K) 2) L x).trans (by rfl)
theorem f109_run (K : Nat) (a0 : List Int) (a1 : List Int) : runF (f109E K) Try.f109 [(.ro, (.list 2 (.int .i64))), (.ro, (.list 2 (.int .i64)))] [.bool] (a0, a1, ()) = f109G K a0 a1 := by
  have key : ∀ (lr : LR Bool), runG (f109E K) Try.f109 [(.ro, (.list 2 (.int .i64))), (.ro, (.list 2 (.int .i64)))] [.bool] (a0, a1, ()) lr = f109_g K a0 a1 (fun d0 => lr (selC f109C [1, 0, 1, 0, 0]) (f109_fr2 a0 a1 d0) (f109_k2 K a0 a1 lr)) := by intro lr; kernel_rfl
  have h2 : (fun d0 => (realL (f109E K) 2) (selC f109C [1, 0, 1, 0, 0]) (f109_fr2 a0 a1 d0) (f109_k2 K a0 a1 (realL (f109E K) 2))) = fun d0 => f109_l2 K a0 a1 K d0 := by
    funext d0
    exact f109_t2 K a0 a1 d0 K d0
  exact runF_G (n0 := 2) (by rfl) ((key (realL (f109E K) 2)).trans (by rw [h2] <;> rfl))
theorem f88_run (K : Nat) (a0 : Int × Int × Int × Int) (a1 : Int × Int × Int × Int) : runF (f88E K) Try.f88 [(.ro, (.cons (.int .i64) (.cons (.int .i64) (.cons (.int .i64) (.int .i64))))), (.ro, (.cons (.int .i64) (.cons (.int .i64) (.cons (.int .i64) (.int .i64)))))] [.bool] (a0, a1, ()) = f88G K a0 a1 := by kernel_rfl
theorem f69_run (K : Nat) (a0 : (Int × Int × Int × Int) × Int × Int) (a1 : (Int × Int × Int × Int) × Int × Int) : runF (f69E K) Try.f69 [(.ro, (.cons (.cons (.int .i64) (.cons (.int .i64) (.cons (.int .i64) (.int .i64)))) (.cons (.int .i64) (.int .i64)))), (.ro, (.cons (.cons (.int .i64) (.cons (.int .i64) (.cons (.int .i64) (.int .i64)))) (.cons (.int .i64) (.int .i64))))] [.bool] (a0, a1, ()) = f69G K a0 a1 := by kernel_rfl
theorem f90_run (K : Nat) : runF (f90E K) Try.f90 [] [(.cons (.int .i64) (.cons (.int .i64) (.cons (.int .i64) (.int .i64))))] (()) = f90G K := by kernel_rfl
theorem f71_run (K : Nat) : runF (f71E K) Try.f71 [] [(.cons (.cons (.int .i64) (.cons (.int .i64) (.cons (.int .i64) (.int .i64)))) (.cons (.int .i64) (.int .i64)))] (()) = f71G K := by kernel_rfl
theorem f89_t6 (K : Nat) (a0 : List ((Int × Int × Int × Int) × Int × Int)) (a1 : (Int × Int × Int × Int) × Int × Int) (bq7 : Int) (bq8 : Int) : ∀ (n : Nat) (q7 : Int) (q8 : Int), loopN (exec (f89E K) 1 (selC f89C [1, 1, 0, 0, 0])) 1 (f89_fr6 a0 a1 bq7 bq8) n (f89_fr6 a0 a1 q7 q8) (f89_k6 K a0 a1 (realL (f89E K) 1)) = f89_l6 K a0 a1 n q7 q8 := by
  have key : ∀ (lr : LR Int) (L : Fr → Option Int) (q7 : Int) (q8 : Int), execG (f89E K) 1 lr (selC f89C [1, 1, 0, 0, 0]) (f89_fr6 a0 a1 q7 q8) (loopK 1 (f89_fr6 a0 a1 bq7 bq8) L (f89_k6 K a0 a1 lr)) = f89_b6 K a0 a1 (fun v0 v1 => L (f89_fr6 a0 a1 v0 v1)) q7 q8 := by
    intro lr L q7 q8; kernel_rfl
  intro n q7 q8
  refine loopN_iter (X := Int × Int) (frame := fun x => (f89_fr6 a0 a1 x.1 x.2)) (body := (fun L x => (fun L6 => f89_b6 K a0 a1 L6 x.1 x.2) (fun v0 v1 => L (v0, v1)))) (fun L x => ?_) n (q7, q8)
  rw [exec_G]
  exact (key (realL (f89E K) 1) L x.1 x.2).trans (by rfl)
theorem f89_run (K : Nat) (a0 : List ((Int × Int × Int × Int) × Int × Int)) (a1 : (Int × Int × Int × Int) × Int × Int) : runF (f89E K) Try.f89 [(.ro, (.list 57 (.cons (.cons (.int .i64) (.cons (.int .i64) (.cons (.int .i64) (.int .i64)))) (.cons (.int .i64) (.int .i64))))), (.ro, (.cons (.cons (.int .i64) (.cons (.int .i64) (.cons (.int .i64) (.int .i64)))) (.cons (.int .i64) (.int .i64))))] [(.int .i64)] (a0, a1, ()) = f89G K a0 a1 := by
  have key : ∀ (lr : LR Int), runG (f89E K) Try.f89 [(.ro, (.list 57 (.cons (.cons (.int .i64) (.cons (.int .i64) (.cons (.int .i64) (.int .i64)))) (.cons (.int .i64) (.int .i64))))), (.ro, (.cons (.cons (.int .i64) (.cons (.int .i64) (.cons (.int .i64) (.int .i64)))) (.cons (.int .i64) (.int .i64))))] [(.int .i64)] (a0, a1, ()) lr = f89_g K a0 a1 (fun d0 d1 => lr (selC f89C [1, 1, 0, 0, 0]) (f89_fr6 a0 a1 d0 d1) (f89_k6 K a0 a1 lr)) := by intro lr; kernel_rfl
  have h6 : (fun d0 d1 => (realL (f89E K) 1) (selC f89C [1, 1, 0, 0, 0]) (f89_fr6 a0 a1 d0 d1) (f89_k6 K a0 a1 (realL (f89E K) 1))) = fun d0 d1 => f89_l6 K a0 a1 K d0 d1 := by
    funext d0 d1
    exact f89_t6 K a0 a1 d0 d1 K d0 d1
  exact runF_G (n0 := 1) (by rfl) ((key (realL (f89E K) 1)).trans (by rw [h6] <;> rfl))
theorem f70_run (K : Nat) (a0 : List ((Int × Int × Int × Int) × Int × Int)) (a1 : (Int × Int × Int × Int) × Int × Int) : runF (f70E K) Try.f70 [(.ro, (.list 57 (.cons (.cons (.int .i64) (.cons (.int .i64) (.cons (.int .i64) (.int .i64)))) (.cons (.int .i64) (.int .i64))))), (.ro, (.cons (.cons (.int .i64) (.cons (.int .i64) (.cons (.int .i64) (.int .i64)))) (.cons (.int .i64) (.int .i64))))] [.bool] (a0, a1, ()) = f70G K a0 a1 := by kernel_rfl
theorem f91_run (K : Nat) (a0 : Int × Int × Int × Int) (a1 : Int × Int × Int × Int) : runF (f91E K) Try.f91 [(.ro, (.cons (.int .i64) (.cons (.int .i64) (.cons (.int .i64) (.int .i64))))), (.ro, (.cons (.int .i64) (.cons (.int .i64) (.cons (.int .i64) (.int .i64)))))] [(.cons (.int .i64) (.cons (.int .i64) (.cons (.int .i64) (.int .i64))))] (a0, a1, ()) = f91G K a0 a1 := by kernel_rfl
theorem f72_run (K : Nat) (a0 : (Int × Int × Int × Int) × Int × Int) (a1 : (Int × Int × Int × Int) × Int × Int) : runF (f72E K) Try.f72 [(.ro, (.cons (.cons (.int .i64) (.cons (.int .i64) (.cons (.int .i64) (.int .i64)))) (.cons (.int .i64) (.int .i64)))), (.ro, (.cons (.cons (.int .i64) (.cons (.int .i64) (.cons (.int .i64) (.int .i64)))) (.cons (.int .i64) (.int .i64))))] [(.cons (.cons (.int .i64) (.cons (.int .i64) (.cons (.int .i64) (.int .i64)))) (.cons (.int .i64) (.int .i64)))] (a0, a1, ()) = f72G K a0 a1 := by kernel_rfl
theorem f57_t25 (K : Nat) (a0 : Int) (a1 : Int × Int × Int) (a2 : List ((Int × Int × Int × Int) × Int × Int)) (q7 : Int) (y1 : Int) (y12 : Bool) (q24 : Int) (F23 : Fr → Option Bool) (bq24 : Int) (bq26 : Int) : ∀ (n : Nat) (q26 : Int), loopN (exec (f57E K) 1 (selC f57C [1, 1, 1, 1, 0, 1, 0, 0, 1, 0, 0, 1, 0, 0])) 1 (f57_fr25 a0 a1 a2 q7 q24 y1 y12 bq26) n (f57_fr25 a0 a1 a2 q7 q24 y1 y12 q26) (f57_k25 K a0 a1 a2 q7 y1 y12 F23 bq24 (realL (f57E K) 1)) = f57_l25 K a0 a1 a2 q7 q24 y1 y12 (fun v0 => F23 (f57_fr23 a0 a1 a2 q7 y1 y12 v0)) n q26 := by
  have key : ∀ (lr : LR Bool) (L : Fr → Option Bool) (q26 : Int), execG (f57E K) 1 lr (selC f57C [1, 1, 1, 1, 0, 1, 0, 0, 1, 0, 0, 1, 0, 0]) (f57_fr25 a0 a1 a2 q7 q24 y1 y12 q26) (loopK 1 (f57_fr25 a0 a1 a2 q7 q24 y1 y12 bq26) L (f57_k25 K a0 a1 a2 q7 y1 y12 F23 bq24 lr)) = f57_b25 K a0 a1 a2 q7 q24 y1 y12 (fun v0 => F23 (f57_fr23 a0 a1 a2 q7 y1 y12 v0)) (fun v0 => L (f57_fr25 a0 a1 a2 q7 q24 y1 y12 v0)) q26 := by
    intro lr L q26; kernel_rfl
  intro n q26
  refine loopN_iter (X := Int) (frame := fun x => (f57_fr25 a0 a1 a2 q7 q24 y1 y12 x)) (body := (fun L x => (fun L25 => f57_b25 K a0 a1 a2 q7 q24 y1 y12 (fun v0 => F23 (f57_fr23 a0 a1 a2 q7 y1 y12 v0)) L25 x) (fun v0 => L v0))) (fun L x => ?_) n q26
  rw [exec_G]
  exact (key (realL (f57E K) 1) L x).trans (by rfl)
theorem f57_t23 (K : Nat) (a0 : Int) (a1 : Int × Int × Int) (a2 : List ((Int × Int × Int × Int) × Int × Int)) (q7 : Int) (y1 : Int) (y12 : Bool) (bq24 : Int) : ∀ (n : Nat) (q24 : Int), loopN (exec (f57E K) 1 (selC f57C [1, 1, 1, 1, 0, 1, 0, 0])) 1 (f57_fr23 a0 a1 a2 q7 y1 y12 bq24) n (f57_fr23 a0 a1 a2 q7 y1 y12 q24) (f57_k23 K a0 a1 a2 (realL (f57E K) 1)) = f57_l23 K a0 a1 a2 q7 y1 y12 n q24 := by
  have key : ∀ (lr : LR Bool) (L : Fr → Option Bool) (q24 : Int), execG (f57E K) 1 lr (selC f57C [1, 1, 1, 1, 0, 1, 0, 0]) (f57_fr23 a0 a1 a2 q7 y1 y12 q24) (loopK 1 (f57_fr23 a0 a1 a2 q7 y1 y12 bq24) L (f57_k23 K a0 a1 a2 lr)) = f57_b23 K a0 a1 a2 q7 y1 y12 (fun c0 d0 => lr (selC f57C [1, 1, 1, 1, 0, 1, 0, 0, 1, 0, 0, 1, 0, 0]) (f57_fr25 a0 a1 a2 q7 c0 y1 y12 d0) (f57_k25 K a0 a1 a2 q7 y1 y12 L bq24 lr)) (fun v0 => L (f57_fr23 a0 a1 a2 q7 y1 y12 v0)) q24 := by
    intro lr L q24; kernel_rfl
  intro n q24
  refine loopN_iter (X := Int) (frame := fun x => (f57_fr23 a0 a1 a2 q7 y1 y12 x)) (body := (fun L x => (fun L23 => f57_b23 K a0 a1 a2 q7 y1 y12 (fun c0 d0 => f57_l25 K a0 a1 a2 q7 c0 y1 y12 L23 K d0) L23 x) (fun v0 => L v0))) (fun L x => ?_) n q24
  rw [exec_G]
  have h25 : (fun c0 d0 => (realL (f57E K) 1) (selC f57C [1, 1, 1, 1, 0, 1, 0, 0, 1, 0, 0, 1, 0, 0]) (f57_fr25 a0 a1 a2 q7 c0 y1 y12 d0) (f57_k25 K a0 a1 a2 q7 y1 y12 L bq24 (realL (f57E K) 1))) = fun c0 d0 => f57_l25 K a0 a1 a2 q7 c0 y1 y12 (fun v0 => L (f57_fr23 a0 a1 a2 q7 y1 y12 v0)) K d0 := by
    funext c0 d0
    exact f57_t25 K a0 a1 a2 q7 y1 y12 c0 L bq24 d0 K d0
  exact (key (realL (f57E K) 1) L x).trans (by rw [h25] <;> rfl)
theorem f57_t6 (K : Nat) (a0 : Int) (a1 : Int × Int × Int) (a2 : List ((Int × Int × Int × Int) × Int × Int)) (y1 : Int) (bq7 : Int) : ∀ (n : Nat) (q7 : Int), loopN (exec (f57E K) 1 (selC f57C [1, 1, 0, 1, 0, 0])) 1 (f57_fr6 a0 a1 a2 y1 bq7) n (f57_fr6 a0 a1 a2 y1 q7) (f57_k6 K a0 a1 a2 (realL (f57E K) 1)) = f57_l6 K a0 a1 a2 y1 n q7 := by
  have key : ∀ (lr : LR Bool) (L : Fr → Option Bool) (q7 : Int), execG (f57E K) 1 lr (selC f57C [1, 1, 0, 1, 0, 0]) (f57_fr6 a0 a1 a2 y1 q7) (loopK 1 (f57_fr6 a0 a1 a2 y1 bq7) L (f57_k6 K a0 a1 a2 lr)) = f57_b6 K a0 a1 a2 y1 (fun c0 c1 c2 d0 => lr (selC f57C [1, 1, 1, 1, 0, 1, 0, 0]) (f57_fr23 a0 a1 a2 c0 c1 c2 d0) (f57_k23 K a0 a1 a2 lr)) (fun v0 => L (f57_fr6 a0 a1 a2 y1 v0)) q7 := by
    intro lr L q7; kernel_rfl
  intro n q7
  refine loopN_iter (X := Int) (frame := fun x => (f57_fr6 a0 a1 a2 y1 x)) (body := (fun L x => (fun L6 => f57_b6 K a0 a1 a2 y1 (fun c0 c1 c2 d0 => f57_l23 K a0 a1 a2 c0 c1 c2 K d0) L6 x) (fun v0 => L v0))) (fun L x => ?_) n q7
  rw [exec_G]
  have h23 : (fun c0 c1 c2 d0 => (realL (f57E K) 1) (selC f57C [1, 1, 1, 1, 0, 1, 0, 0]) (f57_fr23 a0 a1 a2 c0 c1 c2 d0) (f57_k23 K a0 a1 a2 (realL (f57E K) 1))) = fun c0 c1 c2 d0 => f57_l23 K a0 a1 a2 c0 c1 c2 K d0 := by
    funext c0 c1 c2 d0
    exact f57_t23 K a0 a1 a2 c0 c1 c2 d0 K d0
  exact (key (realL (f57E K) 1) L x).trans (by rw [h23] <;> rfl)
theorem f57_run (K : Nat) (a0 : Int) (a1 : Int × Int × Int) (a2 : List ((Int × Int × Int × Int) × Int × Int)) : runF (f57E K) Try.f57 [(.ro, (.int .i64)), (.ro, (.cons (.int .i64) (.cons (.int .i64) (.int .i64)))), (.ro, (.list 57 (.cons (.cons (.int .i64) (.cons (.int .i64) (.cons (.int .i64) (.int .i64)))) (.cons (.int .i64) (.int .i64)))))] [.bool] (a0, a1, a2, ()) = f57G K a0 a1 a2 := by
  have key : ∀ (lr : LR Bool), runG (f57E K) Try.f57 [(.ro, (.int .i64)), (.ro, (.cons (.int .i64) (.cons (.int .i64) (.int .i64)))), (.ro, (.list 57 (.cons (.cons (.int .i64) (.cons (.int .i64) (.cons (.int .i64) (.int .i64)))) (.cons (.int .i64) (.int .i64)))))] [.bool] (a0, a1, a2, ()) lr = f57_g K a0 a1 a2 (fun c0 d0 => lr (selC f57C [1, 1, 0, 1, 0, 0]) (f57_fr6 a0 a1 a2 c0 d0) (f57_k6 K a0 a1 a2 lr)) := by intro lr; kernel_rfl
  have h6 : (fun c0 d0 => (realL (f57E K) 1) (selC f57C [1, 1, 0, 1, 0, 0]) (f57_fr6 a0 a1 a2 c0 d0) (f57_k6 K a0 a1 a2 (realL (f57E K) 1))) = fun c0 d0 => f57_l6 K a0 a1 a2 c0 K d0 := by
    funext c0 d0
    exact f57_t6 K a0 a1 a2 c0 d0 K d0
  exact runF_G (n0 := 1) (by rfl) ((key (realL (f57E K) 1)).trans (by rw [h6] <;> rfl))
theorem f56_run (K : Nat) (a0 : Int) (a1 : Int × Int × Int) (a2 : Bool) : runF (f56E K) Try.f56 [(.ro, (.int .i64)), (.ro, (.cons (.int .i64) (.cons (.int .i64) (.int .i64)))), (.ro, .bool)] [(.int .i64)] (a0, a1, a2, ()) = f56G K a0 a1 a2 := by kernel_rfl
theorem f35_run (K : Nat) (a0 : Int) (a1 : Int × Int × Int) (a2 : List ((Int × Int × Int × Int) × Int × Int)) (a3 : Bool) : runF (f35E K) Try.f35 [(.ro, (.int .i64)), (.ro, (.cons (.int .i64) (.cons (.int .i64) (.int .i64)))), (.ro, (.list 57 (.cons (.cons (.int .i64) (.cons (.int .i64) (.cons (.int .i64) (.int .i64)))) (.cons (.int .i64) (.int .i64))))), (.ro, .bool)] [(.int .i64)] (a0, a1, a2, a3, ()) = f35G K a0 a1 a2 a3 := by kernel_rfl
theorem f19_run (K : Nat) (a0 : Int) (a1 : Int × Int × Int) (a2 : List ((Int × Int × Int × Int) × Int × Int)) (a3 : List (Int × Int)) : runF (f19E K) Try.f19 [(.ro, (.int .i64)), (.ro, (.cons (.int .i64) (.cons (.int .i64) (.int .i64)))), (.ro, (.list 57 (.cons (.cons (.int .i64) (.cons (.int .i64) (.cons (.int .i64) (.int .i64)))) (.cons (.int .i64) (.int .i64))))), (.ro, (.list 55 (.cons (.int .i64) (.int .i64))))] [(.int .i64)] (a0, a1, a2, a3, ()) = f19G K a0 a1 a2 a3 := by kernel_rfl
theorem f73_run (K : Nat) (a0 : (Int × Int × Int × Int) × Int × Int) (a1 : Int × Int) : runF (f73E K) Try.f73 [(.ro, (.cons (.cons (.int .i64) (.cons (.int .i64) (.cons (.int .i64) (.int .i64)))) (.cons (.int .i64) (.int .i64)))), (.ro, (.cons (.int .i64) (.int .i64)))] [(.cons (.int .i64) (.int .i64))] (a0, a1, ()) = f73G K a0 a1 := by kernel_rfl
theorem f58_run (K : Nat) (a0 : Int × Int × Int) (a1 : (Int × Int × Int × Int) × Int × Int) (a2 : Int × Int) : runF (f58E K) Try.f58 [(.ro, (.cons (.int .i64) (.cons (.int .i64) (.int .i64)))), (.ro, (.cons (.cons (.int .i64) (.cons (.int .i64) (.cons (.int .i64) (.int .i64)))) (.cons (.int .i64) (.int .i64)))), (.ro, (.cons (.int .i64) (.int .i64)))] [(.cons (.int .i64) (.int .i64))] (a0, a1, a2, ()) = f58G K a0 a1 a2 := by kernel_rfl
theorem f36_t11 (K : Nat) (a0 : Int × Int × Int) (a1 : List ((Int × Int × Int × Int) × Int × Int)) (a2 : List (Int × Int)) (q9 : Int) (q10 : List (List (Int × Int))) (F8 : Fr → Option (List (List (Int × Int)))) (bq9 : Int) (bq10 : List (List (Int × Int))) (bq12 : Int) (bq13 : List (Int × Int)) : ∀ (n : Nat) (q12 : Int) (q13 : List (Int × Int)), loopN (exec (f36E K) 2 (selC f36C [1, 1, 0, 1, 0, 0, 1, 0, 0, 1, 0, 1, 0, 0])) 2 (f36_fr11 a0 a1 a2 q9 q10 bq12 bq13) n (f36_fr11 a0 a1 a2 q9 q10 q12 q13) (f36_k11 K a0 a1 a2 F8 bq9 bq10 (realL (f36E K) 2)) = f36_l11 K a0 a1 a2 q9 q10 (fun v0 v1 => F8 (f36_fr8 a0 a1 a2 v0 v1)) n q12 q13 := by
  have key : ∀ (lr : LR (List (List (Int × Int)))) (L : Fr → Option (List (List (Int × Int)))) (q12 : Int) (q13 : List (Int × Int)), execG (f36E K) 2 lr (selC f36C [1, 1, 0, 1, 0, 0, 1, 0, 0, 1, 0, 1, 0, 0]) (f36_fr11 a0 a1 a2 q9 q10 q12 q13) (loopK 2 (f36_fr11 a0 a1 a2 q9 q10 bq12 bq13) L (f36_k11 K a0 a1 a2 F8 bq9 bq10 lr)) = f36_b11 K a0 a1 a2 q9 q10 (fun v0 v1 => F8 (f36_fr8 a0 a1 a2 v0 v1)) (fun v0 v1 => L (f36_fr11 a0 a1 a2 q9 q10 v0 v1)) q12 q13 := by
    intro lr L q12 q13; kernel_rfl
  intro n q12 q13
  refine loopN_iter (X := Int × List (Int × Int)) (frame := fun x => (f36_fr11 a0 a1 a2 q9 q10 x.1 x.2)) (body := (fun L x => (fun L11 => f36_b11 K a0 a1 a2 q9 q10 (fun v0 v1 => F8 (f36_fr8 a0 a1 a2 v0 v1)) L11 x.1 x.2) (fun v0 v1 => L (v0, v1)))) (fun L x => ?_) n (q12, q13)
  rw [exec_G]
  exact (key (realL (f36E K) 2) L x.1 x.2).trans (by rfl)
theorem f36_t8 (K : Nat) (a0 : Int × Int × Int) (a1 : List ((Int × Int × Int × Int) × Int × Int)) (a2 : List (Int × Int)) (bq9 : Int) (bq10 : List (List (Int × Int))) : ∀ (n : Nat) (q9 : Int) (q10 : List (List (Int × Int))), loopN (exec (f36E K) 2 (selC f36C [1, 1, 0, 1, 0, 0])) 2 (f36_fr8 a0 a1 a2 bq9 bq10) n (f36_fr8 a0 a1 a2 q9 q10) (f36_k8 K a0 a1 a2 (realL (f36E K) 2)) = f36_l8 K a0 a1 a2 n q9 q10 := by
  have key : ∀ (lr : LR (List (List (Int × Int)))) (L : Fr → Option (List (List (Int × Int)))) (q9 : Int) (q10 : List (List (Int × Int))), execG (f36E K) 2 lr (selC f36C [1, 1, 0, 1, 0, 0]) (f36_fr8 a0 a1 a2 q9 q10) (loopK 2 (f36_fr8 a0 a1 a2 bq9 bq10) L (f36_k8 K a0 a1 a2 lr)) = f36_b8 K a0 a1 a2 (fun c0 c1 d0 d1 => lr (selC f36C [1, 1, 0, 1, 0, 0, 1, 0, 0, 1, 0, 1, 0, 0]) (f36_fr11 a0 a1 a2 c0 c1 d0 d1) (f36_k11 K a0 a1 a2 L bq9 bq10 lr)) (fun v0 v1 => L (f36_fr8 a0 a1 a2 v0 v1)) q9 q10 := by
    intro lr L q9 q10; kernel_rfl
  intro n q9 q10
  refine loopN_iter (X := Int × List (List (Int × Int))) (frame := fun x => (f36_fr8 a0 a1 a2 x.1 x.2)) (body := (fun L x => (fun L8 => f36_b8 K a0 a1 a2 (fun c0 c1 d0 d1 => f36_l11 K a0 a1 a2 c0 c1 L8 K d0 d1) L8 x.1 x.2) (fun v0 v1 => L (v0, v1)))) (fun L x => ?_) n (q9, q10)
  rw [exec_G]
  have h11 : (fun c0 c1 d0 d1 => (realL (f36E K) 2) (selC f36C [1, 1, 0, 1, 0, 0, 1, 0, 0, 1, 0, 1, 0, 0]) (f36_fr11 a0 a1 a2 c0 c1 d0 d1) (f36_k11 K a0 a1 a2 L bq9 bq10 (realL (f36E K) 2))) = fun c0 c1 d0 d1 => f36_l11 K a0 a1 a2 c0 c1 (fun v0 v1 => L (f36_fr8 a0 a1 a2 v0 v1)) K d0 d1 := by
    funext c0 c1 d0 d1
    exact f36_t11 K a0 a1 a2 c0 c1 L bq9 bq10 d0 d1 K d0 d1
  exact (key (realL (f36E K) 2) L x.1 x.2).trans (by rw [h11] <;> rfl)
theorem f36_run (K : Nat) (a0 : Int × Int × Int) (a1 : List ((Int × Int × Int × Int) × Int × Int)) (a2 : List (Int × Int)) : runF (f36E K) Try.f36 [(.ro, (.cons (.int .i64) (.cons (.int .i64) (.int .i64)))), (.ro, (.list 57 (.cons (.cons (.int .i64) (.cons (.int .i64) (.cons (.int .i64) (.int .i64)))) (.cons (.int .i64) (.int .i64))))), (.ro, (.list 55 (.cons (.int .i64) (.int .i64))))] [(.list 34 (.list 55 (.cons (.int .i64) (.int .i64))))] (a0, a1, a2, ()) = f36G K a0 a1 a2 := by
  have key : ∀ (lr : LR (List (List (Int × Int)))), runG (f36E K) Try.f36 [(.ro, (.cons (.int .i64) (.cons (.int .i64) (.int .i64)))), (.ro, (.list 57 (.cons (.cons (.int .i64) (.cons (.int .i64) (.cons (.int .i64) (.int .i64)))) (.cons (.int .i64) (.int .i64))))), (.ro, (.list 55 (.cons (.int .i64) (.int .i64))))] [(.list 34 (.list 55 (.cons (.int .i64) (.int .i64))))] (a0, a1, a2, ()) lr = f36_g K a0 a1 a2 (fun d0 d1 => lr (selC f36C [1, 1, 0, 1, 0, 0]) (f36_fr8 a0 a1 a2 d0 d1) (f36_k8 K a0 a1 a2 lr)) := by intro lr; kernel_rfl
  have h8 : (fun d0 d1 => (realL (f36E K) 2) (selC f36C [1, 1, 0, 1, 0, 0]) (f36_fr8 a0 a1 a2 d0 d1) (f36_k8 K a0 a1 a2 (realL (f36E K) 2))) = fun d0 d1 => f36_l8 K a0 a1 a2 K d0 d1 := by
    funext d0 d1
    exact f36_t8 K a0 a1 a2 d0 d1 K d0 d1
  exact runF_G (n0 := 2) (by rfl) ((key (realL (f36E K) 2)).trans (by rw [h8] <;> rfl))
theorem f37_run (K : Nat) (a0 : Int × Int × Int) (a1 : Int × Int) : runF (f37E K) Try.f37 [(.ro, (.cons (.int .i64) (.cons (.int .i64) (.int .i64)))), (.ro, (.cons (.int .i64) (.int .i64)))] [(.int .i64)] (a0, a1, ()) = f37G K a0 a1 := by kernel_rfl
theorem f38_t2 (K : Nat) (a0 : List Int) (a1 : Int) (bq3 : Int) : ∀ (n : Nat) (q3 : Int), loopN (exec (f38E K) 1 (selC f38C [1, 0, 1, 0, 0])) 1 (f38_fr2 a0 a1 bq3) n (f38_fr2 a0 a1 q3) (f38_k2 K a0 a1 (realL (f38E K) 1)) = f38_l2 K a0 a1 n q3 := by
  have key : ∀ (lr : LR Bool) (L : Fr → Option Bool) (q3 : Int), execG (f38E K) 1 lr (selC f38C [1, 0, 1, 0, 0]) (f38_fr2 a0 a1 q3) (loopK 1 (f38_fr2 a0 a1 bq3) L (f38_k2 K a0 a1 lr)) = f38_b2 K a0 a1 (fun v0 => L (f38_fr2 a0 a1 v0)) q3 := by
    intro lr L q3; kernel_rfl
  intro n q3
  refine loopN_iter (X := Int) (frame := fun x => (f38_fr2 a0 a1 x)) (body := (fun L x => (fun L2 => f38_b2 K a0 a1 L2 x) (fun v0 => L v0))) (fun L x => ?_) n q3
  rw [exec_G]
  exact (key (realL (f38E K) 1) L x).trans (by rfl)
theorem f38_run (K : Nat) (a0 : List Int) (a1 : Int) : runF (f38E K) Try.f38 [(.ro, (.list 2 (.int .i64))), (.ro, (.int .i64))] [.bool] (a0, a1, ()) = f38G K a0 a1 := by
  have key : ∀ (lr : LR Bool), runG (f38E K) Try.f38 [(.ro, (.list 2 (.int .i64))), (.ro, (.int .i64))] [.bool] (a0, a1, ()) lr = f38_g K a0 a1 (fun d0 => lr (selC f38C [1, 0, 1, 0, 0]) (f38_fr2 a0 a1 d0) (f38_k2 K a0 a1 lr)) := by intro lr; kernel_rfl
  have h2 : (fun d0 => (realL (f38E K) 1) (selC f38C [1, 0, 1, 0, 0]) (f38_fr2 a0 a1 d0) (f38_k2 K a0 a1 (realL (f38E K) 1))) = fun d0 => f38_l2 K a0 a1 K d0 := by
    funext d0
    exact f38_t2 K a0 a1 d0 K d0
  exact runF_G (n0 := 1) (by rfl) ((key (realL (f38E K) 1)).trans (by rw [h2] <;> rfl))
theorem f20_t16 (K : Nat) (a0 : Int × Int × Int) (a1 : List ((Int × Int × Int × Int) × Int × Int)) (a2 : List (Int × Int)) (q3 : Int) (y5 : List (List (Int × Int))) (q14 : Int) (F13 : Fr → Option ((List Int) × Bool)) (bq14 : Int) (bq15 : List Int) (bq17 : Int) (bq18 : List Int) : ∀ (n : Nat) (q17 : Int) (q18 : List Int), loopN (exec (f20E K) 2 (selC f20C [1, 1, 1, 1, 0, 1, 0, 0, 1, 0, 0, 1, 0, 0])) 2 (f20_fr16 a0 a1 a2 q3 q14 y5 bq17 bq18) n (f20_fr16 a0 a1 a2 q3 q14 y5 q17 q18) (f20_k16 K a0 a1 a2 q3 y5 F13 bq14 bq15 (realL (f20E K) 2)) = f20_l16 K a0 a1 a2 q3 q14 y5 (fun v0 v1 => F13 (f20_fr13 a0 a1 a2 q3 y5 v0 v1)) n q17 q18 := by
  have key : ∀ (lr : LR ((List Int) × Bool)) (L : Fr → Option ((List Int) × Bool)) (q17 : Int) (q18 : List Int), execG (f20E K) 2 lr (selC f20C [1, 1, 1, 1, 0, 1, 0, 0, 1, 0, 0, 1, 0, 0]) (f20_fr16 a0 a1 a2 q3 q14 y5 q17 q18) (loopK 2 (f20_fr16 a0 a1 a2 q3 q14 y5 bq17 bq18) L (f20_k16 K a0 a1 a2 q3 y5 F13 bq14 bq15 lr)) = f20_b16 K a0 a1 a2 q3 q14 y5 (fun v0 v1 => F13 (f20_fr13 a0 a1 a2 q3 y5 v0 v1)) (fun v0 v1 => L (f20_fr16 a0 a1 a2 q3 q14 y5 v0 v1)) q17 q18 := by
    intro lr L q17 q18; kernel_rfl
  intro n q17 q18
  refine loopN_iter (X := Int × List Int) (frame := fun x => (f20_fr16 a0 a1 a2 q3 q14 y5 x.1 x.2)) (body := (fun L x => (fun L16 => f20_b16 K a0 a1 a2 q3 q14 y5 (fun v0 v1 => F13 (f20_fr13 a0 a1 a2 q3 y5 v0 v1)) L16 x.1 x.2) (fun v0 v1 => L (v0, v1)))) (fun L x => ?_) n (q17, q18)
  rw [exec_G]
  exact (key (realL (f20E K) 2) L x.1 x.2).trans (by rfl)
theorem f20_t13 (K : Nat) (a0 : Int × Int × Int) (a1 : List ((Int × Int × Int × Int) × Int × Int)) (a2 : List (Int × Int)) (q3 : Int) (y5 : List (List (Int × Int))) (bq14 : Int) (bq15 : List Int) : ∀ (n : Nat) (q14 : Int) (q15 : List Int), loopN (exec (f20E K) 2 (selC f20C [1, 1, 1, 1, 0, 1, 0, 0])) 2 (f20_fr13 a0 a1 a2 q3 y5 bq14 bq15) n (f20_fr13 a0 a1 a2 q3 y5 q14 q15) (f20_k13 K a0 a1 a2 (realL (f20E K) 2)) = f20_l13 K a0 a1 a2 q3 y5 n q14 q15 := by
  have key : ∀ (lr : LR ((List Int) × Bool)) (L : Fr → Option ((List Int) × Bool)) (q14 : Int) (q15 : List Int), execG (f20E K) 2 lr (selC f20C [1, 1, 1, 1, 0, 1, 0, 0]) (f20_fr13 a0 a1 a2 q3 y5 q14 q15) (loopK 2 (f20_fr13 a0 a1 a2 q3 y5 bq14 bq15) L (f20_k13 K a0 a1 a2 lr)) = f20_b13 K a0 a1 a2 q3 y5 (fun c0 d0 d1 => lr (selC f20C [1, 1, 1, 1, 0, 1, 0, 0, 1, 0, 0, 1, 0, 0]) (f20_fr16 a0 a1 a2 q3 c0 y5 d0 d1) (f20_k16 K a0 a1 a2 q3 y5 L bq14 bq15 lr)) (fun v0 v1 => L (f20_fr13 a0 a1 a2 q3 y5 v0 v1)) q14 q15 := by
    intro lr L q14 q15; kernel_rfl
  intro n q14 q15
  refine loopN_iter (X := Int × List Int) (frame := fun x => (f20_fr13 a0 a1 a2 q3 y5 x.1 x.2)) (body := (fun L x => (fun L13 => f20_b13 K a0 a1 a2 q3 y5 (fun c0 d0 d1 => f20_l16 K a0 a1 a2 q3 c0 y5 L13 K d0 d1) L13 x.1 x.2) (fun v0 v1 => L (v0, v1)))) (fun L x => ?_) n (q14, q15)
  rw [exec_G]
  have h16 : (fun c0 d0 d1 => (realL (f20E K) 2) (selC f20C [1, 1, 1, 1, 0, 1, 0, 0, 1, 0, 0, 1, 0, 0]) (f20_fr16 a0 a1 a2 q3 c0 y5 d0 d1) (f20_k16 K a0 a1 a2 q3 y5 L bq14 bq15 (realL (f20E K) 2))) = fun c0 d0 d1 => f20_l16 K a0 a1 a2 q3 c0 y5 (fun v0 v1 => L (f20_fr13 a0 a1 a2 q3 y5 v0 v1)) K d0 d1 := by
    funext c0 d0 d1
    exact f20_t16 K a0 a1 a2 q3 y5 c0 L bq14 bq15 d0 d1 K d0 d1
  exact (key (realL (f20E K) 2) L x.1 x.2).trans (by rw [h16] <;> rfl)
theorem f20_t2 (K : Nat) (a0 : Int × Int × Int) (a1 : List ((Int × Int × Int × Int) × Int × Int)) (a2 : List (Int × Int)) (bq3 : Int) (bq4 : List Int) : ∀ (n : Nat) (q3 : Int) (q4 : List Int), loopN (exec (f20E K) 2 (selC f20C [1, 1, 0, 1, 0, 0])) 2 (f20_fr2 a0 a1 a2 bq3 bq4) n (f20_fr2 a0 a1 a2 q3 q4) (f20_k2 K a0 a1 a2 (realL (f20E K) 2)) = f20_l2 K a0 a1 a2 n q3 q4 := by
  have key : ∀ (lr : LR ((List Int) × Bool)) (L : Fr → Option ((List Int) × Bool)) (q3 : Int) (q4 : List Int), execG (f20E K) 2 lr (selC f20C [1, 1, 0, 1, 0, 0]) (f20_fr2 a0 a1 a2 q3 q4) (loopK 2 (f20_fr2 a0 a1 a2 bq3 bq4) L (f20_k2 K a0 a1 a2 lr)) = f20_b2 K a0 a1 a2 (fun c0 c1 d0 d1 => lr (selC f20C [1, 1, 1, 1, 0, 1, 0, 0]) (f20_fr13 a0 a1 a2 c0 c1 d0 d1) (f20_k13 K a0 a1 a2 lr)) (fun v0 v1 => L (f20_fr2 a0 a1 a2 v0 v1)) q3 q4 := by
    intro lr L q3 q4; kernel_rfl
  intro n q3 q4
  refine loopN_iter (X := Int × List Int) (frame := fun x => (f20_fr2 a0 a1 a2 x.1 x.2)) (body := (fun L x => (fun L2 => f20_b2 K a0 a1 a2 (fun c0 c1 d0 d1 => f20_l13 K a0 a1 a2 c0 c1 K d0 d1) L2 x.1 x.2) (fun v0 v1 => L (v0, v1)))) (fun L x => ?_) n (q3, q4)
  rw [exec_G]
  have h13 : (fun c0 c1 d0 d1 => (realL (f20E K) 2) (selC f20C [1, 1, 1, 1, 0, 1, 0, 0]) (f20_fr13 a0 a1 a2 c0 c1 d0 d1) (f20_k13 K a0 a1 a2 (realL (f20E K) 2))) = fun c0 c1 d0 d1 => f20_l13 K a0 a1 a2 c0 c1 K d0 d1 := by
    funext c0 c1 d0 d1
    exact f20_t13 K a0 a1 a2 c0 c1 d0 d1 K d0 d1
  exact (key (realL (f20E K) 2) L x.1 x.2).trans (by rw [h13] <;> rfl)
theorem f20_run (K : Nat) (a0 : Int × Int × Int) (a1 : List ((Int × Int × Int × Int) × Int × Int)) (a2 : List (Int × Int)) : runF (f20E K) Try.f20 [(.ro, (.cons (.int .i64) (.cons (.int .i64) (.int .i64)))), (.ro, (.list 57 (.cons (.cons (.int .i64) (.cons (.int .i64) (.cons (.int .i64) (.int .i64)))) (.cons (.int .i64) (.int .i64))))), (.ro, (.list 55 (.cons (.int .i64) (.int .i64))))] [(.list 2 (.int .i64)), .bool] (a0, a1, a2, ()) = f20G K a0 a1 a2 := by
  have key : ∀ (lr : LR ((List Int) × Bool)), runG (f20E K) Try.f20 [(.ro, (.cons (.int .i64) (.cons (.int .i64) (.int .i64)))), (.ro, (.list 57 (.cons (.cons (.int .i64) (.cons (.int .i64) (.cons (.int .i64) (.int .i64)))) (.cons (.int .i64) (.int .i64))))), (.ro, (.list 55 (.cons (.int .i64) (.int .i64))))] [(.list 2 (.int .i64)), .bool] (a0, a1, a2, ()) lr = f20_g K a0 a1 a2 (fun d0 d1 => lr (selC f20C [1, 1, 0, 1, 0, 0]) (f20_fr2 a0 a1 a2 d0 d1) (f20_k2 K a0 a1 a2 lr)) := by intro lr; kernel_rfl
  have h2 : (fun d0 d1 => (realL (f20E K) 2) (selC f20C [1, 1, 0, 1, 0, 0]) (f20_fr2 a0 a1 a2 d0 d1) (f20_k2 K a0 a1 a2 (realL (f20E K) 2))) = fun d0 d1 => f20_l2 K a0 a1 a2 K d0 d1 := by
    funext d0 d1
    exact f20_t2 K a0 a1 a2 d0 d1 K d0 d1
  exact runF_G (n0 := 2) (by rfl) ((key (realL (f20E K) 2)).trans (by rw [h2] <;> rfl))
theorem f7_run (K : Nat) (a0 : Int) (a1 : Int × Int × Int) (a2 : List ((Int × Int × Int × Int) × Int × Int)) (a3 : List (Int × Int)) : runF (f7E K) Try.f7 [(.ro, (.int .i64)), (.ro, (.cons (.int .i64) (.cons (.int .i64) (.int .i64)))), (.ro, (.list 57 (.cons (.cons (.int .i64) (.cons (.int .i64) (.cons (.int .i64) (.int .i64)))) (.cons (.int .i64) (.int .i64))))), (.ro, (.list 55 (.cons (.int .i64) (.int .i64))))] [.bool, (.int .i64)] (a0, a1, a2, a3, ()) = f7G K a0 a1 a2 a3 := by kernel_rfl
theorem f75_run (K : Nat) (a0 : Int) (a1 : Int) (a2 : Int) : runF (f75E K) Try.f75 [(.ro, (.int .i64)), (.ro, (.int .i64)), (.ro, (.int .i64))] [.bool] (a0, a1, a2, ()) = f75G K a0 a1 a2 := by kernel_rfl
theorem f60_run (K : Nat) (a0 : Int) : runF (f60E K) Try.f60 [(.ro, (.int .i64))] [.bool] (a0, ()) = f60G K a0 := by kernel_rfl
theorem f44_run (K : Nat) (a0 : Int × Int × Int) : runF (f44E K) Try.f44 [(.ro, (.cons (.int .i64) (.cons (.int .i64) (.int .i64))))] [(.int .i64)] (a0, ()) = f44G K a0 := by kernel_rfl
theorem f61_run (K : Nat) (a0 : Int × Int × Int) : runF (f61E K) Try.f61 [(.ro, (.cons (.int .i64) (.cons (.int .i64) (.int .i64))))] [.bool] (a0, ()) = f61G K a0 := by kernel_rfl
theorem f40_run (K : Nat) (a0 : Int) (a1 : Int × Int × Int) : runF (f40E K) Try.f40 [(.ro, (.int .i64)), (.ro, (.cons (.int .i64) (.cons (.int .i64) (.int .i64))))] [(.int .i64)] (a0, a1, ()) = f40G K a0 a1 := by kernel_rfl
theorem f76_run (K : Nat) (a0 : Int) : runF (f76E K) Try.f76 [(.ro, (.int .i64))] [.bool] (a0, ()) = f76G K a0 := by kernel_rfl
theorem f62_run (K : Nat) (a0 : Int × Int) : runF (f62E K) Try.f62 [(.ro, (.cons (.int .i64) (.int .i64)))] [.bool] (a0, ()) = f62G K a0 := by kernel_rfl
theorem f77_t2 (K : Nat) (a0 : List Int) (a1 : List Int) (bq3 : Int) : ∀ (n : Nat) (q3 : Int), loopN (exec (f77E K) 2 (selC f77C [1, 0, 1, 0, 0])) 2 (f77_fr2 a0 a1 bq3) n (f77_fr2 a0 a1 q3) (f77_k2 K a0 a1 (realL (f77E K) 2)) = f77_l2 K a0 a1 n q3 := by
  have key : ∀ (lr : LR Int) (L : Fr → Option Int) (q3 : Int), execG (f77E K) 2 lr (selC f77C [1, 0, 1, 0, 0]) (f77_fr2 a0 a1 q3) (loopK 2 (f77_fr2 a0 a1 bq3) L (f77_k2 K a0 a1 lr)) = f77_b2 K a0 a1 (fun v0 => L (f77_fr2 a0 a1 v0)) q3 := by
    intro lr L q3; kernel_rfl
  intro n q3
  refine loopN_iter (X := Int) (frame := fun x => (f77_fr2 a0 a1 x)) (body := (fun L x => (fun L2 => f77_b2 K a0 a1 L2 x) (fun v0 => L v0))) (fun L x => ?_) n q3
  rw [exec_G]
  exact (key (realL (f77E K) 2) L x).trans (by rfl)
theorem f77_run (K : Nat) (a0 : List Int) (a1 : List Int) : runF (f77E K) Try.f77 [(.ro, (.list 2 (.int .i64))), (.ro, (.list 2 (.int .i64)))] [(.int .i64)] (a0, a1, ()) = f77G K a0 a1 := by
  have key : ∀ (lr : LR Int), runG (f77E K) Try.f77 [(.ro, (.list 2 (.int .i64))), (.ro, (.list 2 (.int .i64)))] [(.int .i64)] (a0, a1, ()) lr = f77_g K a0 a1 (fun d0 => lr (selC f77C [1, 0, 1, 0, 0]) (f77_fr2 a0 a1 d0) (f77_k2 K a0 a1 lr)) := by intro lr; kernel_rfl
  have h2 : (fun d0 => (realL (f77E K) 2) (selC f77C [1, 0, 1, 0, 0]) (f77_fr2 a0 a1 d0) (f77_k2 K a0 a1 (realL (f77E K) 2))) = fun d0 => f77_l2 K a0 a1 K d0 := by
    funext d0
    exact f77_t2 K a0 a1 d0 K d0
  exact runF_G (n0 := 2) (by rfl) ((key (realL (f77E K) 2)).trans (by rw [h2] <;> rfl))
theorem f63_run (K : Nat) (a0 : Int × Int) (a1 : Int × Int) : runF (f63E K) Try.f63 [(.ro, (.cons (.int .i64) (.int .i64))), (.ro, (.cons (.int .i64) (.int .i64)))] [(.int .i64)] (a0, a1, ()) = f63G K a0 a1 := by kernel_rfl
theorem f41_t4 (K : Nat) (a0 : List (Int × Int)) (bq5 : Int) : ∀ (n : Nat) (q5 : Int), loopN (exec (f41E K) 1 (selC f41C [1, 0, 1, 0, 0])) 1 (f41_fr4 a0 bq5) n (f41_fr4 a0 q5) (f41_k4 K a0 (realL (f41E K) 1)) = f41_l4 K a0 n q5 := by
  have key : ∀ (lr : LR Bool) (L : Fr → Option Bool) (q5 : Int), execG (f41E K) 1 lr (selC f41C [1, 0, 1, 0, 0]) (f41_fr4 a0 q5) (loopK 1 (f41_fr4 a0 bq5) L (f41_k4 K a0 lr)) = f41_b4 K a0 (fun v0 => L (f41_fr4 a0 v0)) q5 := by
    intro lr L q5; kernel_rfl
  intro n q5
  refine loopN_iter (X := Int) (frame := fun x => (f41_fr4 a0 x)) (body := (fun L x => (fun L4 => f41_b4 K a0 L4 x) (fun v0 => L v0))) (fun L x => ?_) n q5
  rw [exec_G]
  exact (key (realL (f41E K) 1) L x).trans (by rfl)
theorem f41_run (K : Nat) (a0 : List (Int × Int)) : runF (f41E K) Try.f41 [(.ro, (.list 55 (.cons (.int .i64) (.int .i64))))] [.bool] (a0, ()) = f41G K a0 := by
  have key : ∀ (lr : LR Bool), runG (f41E K) Try.f41 [(.ro, (.list 55 (.cons (.int .i64) (.int .i64))))] [.bool] (a0, ()) lr = f41_g K a0 (fun d0 => lr (selC f41C [1, 0, 1, 0, 0]) (f41_fr4 a0 d0) (f41_k4 K a0 lr)) := by intro lr; kernel_rfl
  have h4 : (fun d0 => (realL (f41E K) 1) (selC f41C [1, 0, 1, 0, 0]) (f41_fr4 a0 d0) (f41_k4 K a0 (realL (f41E K) 1))) = fun d0 => f41_l4 K a0 K d0 := by
    funext d0
    exact f41_t4 K a0 d0 K d0
  exact runF_G (n0 := 1) (by rfl) ((key (realL (f41E K) 1)).trans (by rw [h4] <;> rfl))
theorem f94_run (K : Nat) (a0 : Int × Int × Int) : runF (f94E K) Try.f94 [(.ro, (.cons (.int .i64) (.cons (.int .i64) (.int .i64))))] [(.cons (.int .i64) (.int .i64)), (.cons (.int .i64) (.int .i64))] (a0, ()) = f94G K a0 := by kernel_rfl
theorem f99_run (K : Nat) (a0 : Int × Int × Int × Int) (a1 : Int × Int) : runF (f99E K) Try.f99 [(.ro, (.cons (.int .i64) (.cons (.int .i64) (.cons (.int .i64) (.int .i64))))), (.ro, (.cons (.int .i64) (.int .i64)))] [(.cons (.int .i64) (.int .i64))] (a0, a1, ()) = f99G K a0 a1 := by kernel_rfl
theorem f112_run (K : Nat) (a0 : Int) (a1 : Int × Int) : runF (f112E K) Try.f112 [(.ro, (.int .i64)), (.ro, (.cons (.int .i64) (.int .i64)))] [(.int .i64)] (a0, a1, ()) = f112G K a0 a1 := by kernel_rfl
theorem f96_t8 (K : Nat) (a0 : Int) (bq9 : Int) (bq10 : List (Int × Int × Int × Int)) : ∀ (n : Nat) (q9 : Int) (q10 : List (Int × Int × Int × Int)), loopN (exec (f96E K) 0 (selC f96C [1, 1, 0, 1, 0, 0])) 0 (f96_fr8 a0 bq9 bq10) n (f96_fr8 a0 q9 q10) (f96_k8 K a0 (realL (f96E K) 0)) = f96_l8 K a0 n q9 q10 := by
  have key : ∀ (lr : LR (List (Int × Int × Int × Int))) (L : Fr → Option (List (Int × Int × Int × Int))) (q9 : Int) (q10 : List (Int × Int × Int × Int)), execG (f96E K) 0 lr (selC f96C [1, 1, 0, 1, 0, 0]) (f96_fr8 a0 q9 q10) (loopK 0 (f96_fr8 a0 bq9 bq10) L (f96_k8 K a0 lr)) = f96_b8 K a0 (fun v0 v1 => L (f96_fr8 a0 v0 v1)) q9 q10 := by
    intro lr L q9 q10; kernel_rfl
  intro n q9 q10
  refine loopN_iter (X := Int × List (Int × Int × Int × Int)) (frame := fun x => (f96_fr8 a0 x.1 x.2)) (body := (fun L x => (fun L8 => f96_b8 K a0 L8 x.1 x.2) (fun v0 v1 => L (v0, v1)))) (fun L x => ?_) n (q9, q10)
  rw [exec_G]
  exact (key (realL (f96E K) 0) L x.1 x.2).trans (by rfl)
theorem f96_run (K : Nat) (a0 : Int) : runF (f96E K) Try.f96 [(.ro, (.int .i64))] [(.list 53 (.cons (.int .i64) (.cons (.int .i64) (.cons (.int .i64) (.int .i64)))))] (a0, ()) = f96G K a0 := by
  have key : ∀ (lr : LR (List (Int × Int × Int × Int))), runG (f96E K) Try.f96 [(.ro, (.int .i64))] [(.list 53 (.cons (.int .i64) (.cons (.int .i64) (.cons (.int .i64) (.int .i64)))))] (a0, ()) lr = f96_g K a0 (fun d0 d1 => lr (selC f96C [1, 1, 0, 1, 0, 0]) (f96_fr8 a0 d0 d1) (f96_k8 K a0 lr)) := by intro lr; kernel_rfl
  have h8 : (fun d0 d1 => (realL (f96E K) 0) (selC f96C [1, 1, 0, 1, 0, 0]) (f96_fr8 a0 d0 d1) (f96_k8 K a0 (realL (f96E K) 0))) = fun d0 d1 => f96_l8 K a0 K d0 d1 := by
    funext d0 d1
    exact f96_t8 K a0 d0 d1 K d0 d1
  exact runF_G (n0 := 0) (by rfl) ((key (realL (f96E K) 0)).trans (by rw [h8] <;> rfl))
theorem f101_run (K : Nat) (a0 : Int) (a1 : Int) : runF (f101E K) Try.f101 [(.ro, (.int .i64)), (.ro, (.int .i64))] [(.int .i64)] (a0, a1, ()) = f101G K a0 a1 := by kernel_rfl
theorem f80_run (K : Nat) (a0 : Int × Int × Int) (a1 : Int × Int) : runF (f80E K) Try.f80 [(.ro, (.cons (.int .i64) (.cons (.int .i64) (.int .i64)))), (.ro, (.cons (.int .i64) (.int .i64)))] [(.cons (.int .i64) (.int .i64))] (a0, a1, ()) = f80G K a0 a1 := by kernel_rfl
theorem f98_run (K : Nat) (a0 : Int × Int × Int) (a1 : Int × Int) : runF (f98E K) Try.f98 [(.ro, (.cons (.int .i64) (.cons (.int .i64) (.int .i64)))), (.ro, (.cons (.int .i64) (.int .i64)))] [.bool] (a0, a1, ()) = f98G K a0 a1 := by kernel_rfl
theorem f97_run (K : Nat) (a0 : Int × Int × Int × Int) (a1 : Int × Int × Int) (a2 : Int × Int) (a3 : Int × Int) : runF (f97E K) Try.f97 [(.ro, (.cons (.int .i64) (.cons (.int .i64) (.cons (.int .i64) (.int .i64))))), (.cap, (.cons (.int .i64) (.cons (.int .i64) (.int .i64)))), (.cap, (.cons (.int .i64) (.int .i64))), (.cap, (.cons (.int .i64) (.int .i64)))] [.bool] (a0, a1, a2, a3, ()) = f97G K a0 a1 a2 a3 := by kernel_rfl
theorem f111_t3 (K : Nat) (a0 : List (Int × Int × Int × Int)) (a1 : ((Int × Int × Int × Int) → Option Bool)) (bq4 : Int) : ∀ (n : Nat) (q4 : Int), loopN (exec (f111E K) 1 (selC f111C [1, 0, 1, 0, 0])) 1 (f111_fr3 a0 a1 bq4) n (f111_fr3 a0 a1 q4) (f111_k3 K a0 a1 (realL (f111E K) 1)) = f111_l3 K a0 a1 n q4 := by
  have key : ∀ (lr : LR Int) (L : Fr → Option Int) (q4 : Int), execG (f111E K) 1 lr (selC f111C [1, 0, 1, 0, 0]) (f111_fr3 a0 a1 q4) (loopK 1 (f111_fr3 a0 a1 bq4) L (f111_k3 K a0 a1 lr)) = f111_b3 K a0 a1 (fun v0 => L (f111_fr3 a0 a1 v0)) q4 := by
    intro lr L q4; kernel_rfl
  intro n q4
  refine loopN_iter (X := Int) (frame := fun x => (f111_fr3 a0 a1 x)) (body := (fun L x => (fun L3 => f111_b3 K a0 a1 L3 x) (fun v0 => L v0))) (fun L x => ?_) n q4
  rw [exec_G]
  exact (key (realL (f111E K) 1) L x).trans (by rfl)
theorem f111_run (K : Nat) (a0 : List (Int × Int × Int × Int)) (a1 : ((Int × Int × Int × Int) → Option Bool)) : runF (f111E K) Try.f111 [(.ro, (.list 53 (.cons (.int .i64) (.cons (.int .i64) (.cons (.int .i64) (.int .i64)))))), (.ro, (.fn1 (.cons (.int .i64) (.cons (.int .i64) (.cons (.int .i64) (.int .i64)))) .bool))] [(.int .i64)] (a0, a1, ()) = f111G K a0 a1 := by
  have key : ∀ (lr : LR Int), runG (f111E K) Try.f111 [(.ro, (.list 53 (.cons (.int .i64) (.cons (.int .i64) (.cons (.int .i64) (.int .i64)))))), (.ro, (.fn1 (.cons (.int .i64) (.cons (.int .i64) (.cons (.int .i64) (.int .i64)))) .bool))] [(.int .i64)] (a0, a1, ()) lr = f111_g K a0 a1 (fun d0 => lr (selC f111C [1, 0, 1, 0, 0]) (f111_fr3 a0 a1 d0) (f111_k3 K a0 a1 lr)) := by intro lr; kernel_rfl
  have h3 : (fun d0 => (realL (f111E K) 1) (selC f111C [1, 0, 1, 0, 0]) (f111_fr3 a0 a1 d0) (f111_k3 K a0 a1 (realL (f111E K) 1))) = fun d0 => f111_l3 K a0 a1 K d0 := by
    funext d0
    exact f111_t3 K a0 a1 d0 K d0
  exact runF_G (n0 := 1) (by rfl) ((key (realL (f111E K) 1)).trans (by rw [h3] <;> rfl))
theorem f95_t4 (K : Nat) (a0 : List (Int × Int × Int × Int)) (a1 : ((Int × Int × Int × Int) → Option Bool)) (y1 : Int) (bq5 : Int) (bq6 : Int) (bq7 : List (Int × Int × Int × Int)) : ∀ (n : Nat) (q5 : Int) (q6 : Int) (q7 : List (Int × Int × Int × Int)), loopN (exec (f95E K) 1 (selC f95C [1, 1, 1, 0, 1, 0, 0])) 1 (f95_fr4 a1 y1 bq5 bq6 bq7) n (f95_fr4 a1 y1 q5 q6 q7) (f95_k4 K a0 a1 (realL (f95E K) 1)) = f95_l4 K a1 y1 n q5 q6 q7 := by
  have key : ∀ (lr : LR (List (Int × Int × Int × Int))) (L : Fr → Option (List (Int × Int × Int × Int))) (q5 : Int) (q6 : Int) (q7 : List (Int × Int × Int × Int)), execG (f95E K) 1 lr (selC f95C [1, 1, 1, 0, 1, 0, 0]) (f95_fr4 a1 y1 q5 q6 q7) (loopK 1 (f95_fr4 a1 y1 bq5 bq6 bq7) L (f95_k4 K a0 a1 lr)) = f95_b4 K a1 y1 (fun v0 v1 v2 => L (f95_fr4 a1 y1 v0 v1 v2)) q5 q6 q7 := by
    intro lr L q5 q6 q7; kernel_rfl
  intro n q5 q6 q7
  refine loopN_iter (X := Int × Int × List (Int × Int × Int × Int)) (frame := fun x => (f95_fr4 a1 y1 x.1 x.2.1 x.2.2)) (body := (fun L x => (fun L4 => f95_b4 K a1 y1 L4 x.1 x.2.1 x.2.2) (fun v0 v1 v2 => L (v0, v1, v2)))) (fun L x => ?_) n (q5, q6, q7)
  rw [exec_G]
  exact (key (realL (f95E K) 1) L x.1 x.2.1 x.2.2).trans (by rfl)
theorem f95_run (K : Nat) (a0 : List (Int × Int × Int × Int)) (a1 : ((Int × Int × Int × Int) → Option Bool)) : runF (f95E K) Try.f95 [(.mv, (.list 53 (.cons (.int .i64) (.cons (.int .i64) (.cons (.int .i64) (.int .i64)))))), (.ro, (.fn1 (.cons (.int .i64) (.cons (.int .i64) (.cons (.int .i64) (.int .i64)))) .bool))] [(.list 53 (.cons (.int .i64) (.cons (.int .i64) (.cons (.int .i64) (.int .i64)))))] (a0, a1, ()) = f95G K a0 a1 := by
  have key : ∀ (lr : LR (List (Int × Int × Int × Int))), runG (f95E K) Try.f95 [(.mv, (.list 53 (.cons (.int .i64) (.cons (.int .i64) (.cons (.int .i64) (.int .i64)))))), (.ro, (.fn1 (.cons (.int .i64) (.cons (.int .i64) (.cons (.int .i64) (.int .i64)))) .bool))] [(.list 53 (.cons (.int .i64) (.cons (.int .i64) (.cons (.int .i64) (.int .i64)))))] (a0, a1, ()) lr = f95_g K a0 a1 (fun c0 d0 d1 d2 => lr (selC f95C [1, 1, 1, 0, 1, 0, 0]) (f95_fr4 a1 c0 d0 d1 d2) (f95_k4 K a0 a1 lr)) := by intro lr; kernel_rfl
  have h4 : (fun c0 d0 d1 d2 => (realL (f95E K) 1) (selC f95C [1, 1, 1, 0, 1, 0, 0]) (f95_fr4 a1 c0 d0 d1 d2) (f95_k4 K a0 a1 (realL (f95E K) 1))) = fun c0 d0 d1 d2 => f95_l4 K a1 c0 K d0 d1 d2 := by
    funext c0 d0 d1 d2
    exact f95_t4 K a0 a1 c0 d0 d1 d2 K d0 d1 d2
  exact runF_G (n0 := 1) (by rfl) ((key (realL (f95E K) 1)).trans (by rw [h4] <;> rfl))
theorem f78_run (K : Nat) (a0 : Int) (a1 : Int × Int × Int) : runF (f78E K) Try.f78 [(.ro, (.int .i64)), (.ro, (.cons (.int .i64) (.cons (.int .i64) (.int .i64))))] [(.list 53 (.cons (.int .i64) (.cons (.int .i64) (.cons (.int .i64) (.int .i64)))))] (a0, a1, ()) = f78G K a0 a1 := by kernel_rfl
theorem f100_t2 (K : Nat) (a0 : List (Int × Int × Int × Int)) (a1 : Int × Int × Int × Int) (bq3 : Int) : ∀ (n : Nat) (q3 : Int), loopN (exec (f100E K) 1 (selC f100C [1, 0, 1, 0, 0])) 1 (f100_fr2 a0 a1 bq3) n (f100_fr2 a0 a1 q3) (f100_k2 K a0 a1 (realL (f100E K) 1)) = f100_l2 K a0 a1 n q3 := by
  have key : ∀ (lr : LR Int) (L : Fr → Option Int) (q3 : Int), execG (f100E K) 1 lr (selC f100C [1, 0, 1, 0, 0]) (f100_fr2 a0 a1 q3) (loopK 1 (f100_fr2 a0 a1 bq3) L (f100_k2 K a0 a1 lr)) = f100_b2 K a0 a1 (fun v0 => L (f100_fr2 a0 a1 v0)) q3 := by
    intro lr L q3; kernel_rfl
  intro n q3
  refine loopN_iter (X := Int) (frame := fun x => (f100_fr2 a0 a1 x)) (body := (fun L x => (fun L2 => f100_b2 K a0 a1 L2 x) (fun v0 => L v0))) (fun L x => ?_) n q3
  rw [exec_G]
  exact (key (realL (f100E K) 1) L x).trans (by rfl)
theorem f100_run (K : Nat) (a0 : List (Int × Int × Int × Int)) (a1 : Int × Int × Int × Int) : runF (f100E K) Try.f100 [(.ro, (.list 53 (.cons (.int .i64) (.cons (.int .i64) (.cons (.int .i64) (.int .i64)))))), (.ro, (.cons (.int .i64) (.cons (.int .i64) (.cons (.int .i64) (.int .i64)))))] [(.int .i64)] (a0, a1, ()) = f100G K a0 a1 := by
  have key : ∀ (lr : LR Int), runG (f100E K) Try.f100 [(.ro, (.list 53 (.cons (.int .i64) (.cons (.int .i64) (.cons (.int .i64) (.int .i64)))))), (.ro, (.cons (.int .i64) (.cons (.int .i64) (.cons (.int .i64) (.int .i64)))))] [(.int .i64)] (a0, a1, ()) lr = f100_g K a0 a1 (fun d0 => lr (selC f100C [1, 0, 1, 0, 0]) (f100_fr2 a0 a1 d0) (f100_k2 K a0 a1 lr)) := by intro lr; kernel_rfl
  have h2 : (fun d0 => (realL (f100E K) 1) (selC f100C [1, 0, 1, 0, 0]) (f100_fr2 a0 a1 d0) (f100_k2 K a0 a1 (realL (f100E K) 1))) = fun d0 => f100_l2 K a0 a1 K d0 := by
    funext d0
    exact f100_t2 K a0 a1 d0 K d0
  exact runF_G (n0 := 1) (by rfl) ((key (realL (f100E K) 1)).trans (by rw [h2] <;> rfl))
theorem f79_run (K : Nat) (a0 : List (Int × Int × Int × Int)) (a1 : Int × Int × Int × Int) : runF (f79E K) Try.f79 [(.ro, (.list 53 (.cons (.int .i64) (.cons (.int .i64) (.cons (.int .i64) (.int .i64)))))), (.ro, (.cons (.int .i64) (.cons (.int .i64) (.cons (.int .i64) (.int .i64)))))] [.bool] (a0, a1, ()) = f79G K a0 a1 := by kernel_rfl
theorem f102_run (K : Nat) (a0 : Int × Int × Int × Int) (a1 : Int × Int × Int × Int) : runF (f102E K) Try.f102 [(.ro, (.cons (.int .i64) (.cons (.int .i64) (.cons (.int .i64) (.int .i64))))), (.ro, (.cons (.int .i64) (.cons (.int .i64) (.cons (.int .i64) (.int .i64)))))] [(.int .i64)] (a0, a1, ()) = f102G K a0 a1 := by kernel_rfl
theorem f81_run (K : Nat) (a0 : (Int × Int × Int × Int) × Int × Int) (a1 : (Int × Int × Int × Int) × Int × Int) : runF (f81E K) Try.f81 [(.ro, (.cons (.cons (.int .i64) (.cons (.int .i64) (.cons (.int .i64) (.int .i64)))) (.cons (.int .i64) (.int .i64)))), (.ro, (.cons (.cons (.int .i64) (.cons (.int .i64) (.cons (.int .i64) (.int .i64)))) (.cons (.int .i64) (.int .i64))))] [(.int .i64)] (a0, a1, ()) = f81G K a0 a1 := by kernel_rfl
theorem f82_run (K : Nat) : runF (f82E K) Try.f82 [] [(.cons (.int .i64) (.cons (.int .i64) (.cons (.int .i64) (.int .i64))))] (()) = f82G K := by kernel_rfl
theorem f103_run (K : Nat) (a0 : Int × Int × Int × Int) (a1 : Int × Int × Int × Int) : runF (f103E K) Try.f103 [(.ro, (.cons (.int .i64) (.cons (.int .i64) (.cons (.int .i64) (.int .i64))))), (.ro, (.cons (.int .i64) (.cons (.int .i64) (.cons (.int .i64) (.int .i64)))))] [(.cons (.int .i64) (.cons (.int .i64) (.cons (.int .i64) (.int .i64))))] (a0, a1, ()) = f103G K a0 a1 := by kernel_rfl
theorem f104_run (K : Nat) (a0 : Int × Int) (a1 : Int × Int) : runF (f104E K) Try.f104 [(.ro, (.cons (.int .i64) (.int .i64))), (.ro, (.cons (.int .i64) (.int .i64)))] [(.cons (.int .i64) (.int .i64))] (a0, a1, ()) = f104G K a0 a1 := by kernel_rfl
end Go.Proofs.Ythlldmfkdcmcfaa.X
