/- Functions of the program as plain Lean functions, and that the program does what they say. Printed by gen.py. -/
import Derived.Test.YtbgdojniimdihaaD0
namespace Go.Proofs.Ytbgdojniimdihaa.X
open Go
set_option maxRecDepth 100000
set_option linter.unusedVariables false
theorem f193_t3 (K : Nat) (a0 : List (Int × Int × Int × Int)) (a1 : ((Int × Int × Int × Int) → Option Bool)) (bq4 : Int) : ∀ (n : Nat) (q4 : Int), loopN (exec (f193E K) 1 (selC f193C [1, 0, 1, 0, 0])) 1 (f193_fr3 a0 a1 bq4) n (f193_fr3 a0 a1 q4) (f193_k3 K a0 a1 (realL (f193E K) 1)) = f193_l3 K a0 a1 n q4 := by
  have key : ∀ (lr : LR Int) (L : Fr → Option Int) (q4 : Int), execG (f193E K) 1 lr (selC f193C [1, 0, 1, 0, 0]) (f193_fr3 a0 a1 q4) (loopK 1 (f193_fr3 a0 a1 bq4) L (f193_k3 K a0 a1 lr)) = f193_b3 K a0 a1 (fun v0 => L (f193_fr3 a0 a1 v0)) q4 := by
    intro lr L q4; kernel_rfl
  intro n q4
  refine loopN_iter (X := Int) (frame := fun x => (f193_fr3 a0 a1 x)) (body := (fun L x => (fun L3 => f193_b3 K a0 a1 L3 x) (fun v0 => L v0))) (fun L x => ?_) n q4
  rw [exec_G]
  exact (key (realL (f193E K) 1) L x).trans (by rfl)
theorem f193_run (K : Nat) (a0 : List (Int × Int × Int × Int)) (a1 : ((Int × Int × Int × Int) → Option Bool)) : runF (f193E K) Try.f193 [(.ro, (.list 86 (.cons (.int .i64) (.cons (.int .i64) (.cons (.int .i64) (.int .i64)))))), (.ro, (.fn1 (.cons (.int .i64) (.cons (.int .i64) (.cons (.int .i64) (.int .i64)))) .bool))] [(.int .i64)] (a0, a1, ()) = f193G K a0 a1 := by
  have key : ∀ (lr : LR Int), runG (f193E K) Try.f193 [(.ro, (.list 86 (.cons (.int .i64) (.cons (.int .i64) (.cons (.int .i64) (.int .i64)))))), (.ro, (.fn1 (.cons (.int .i64) (.cons (.int .i64) (.cons (.int .i64) (.int .i64)))) .bool))] [(.int .i64)] (a0, a1, ()) lr = f193_g K a0 a1 (fun d0 => lr (selC f193C [1, 0, 1, 0, 0]) (f193_fr3 a0 a1 d0) (f193_k3 K a0 a1 lr)) := by intro lr; kernel_rfl
  have h3 : (fun d0 => (realL (f193E K) 1) (selC f193C [1, 0, 1, 0, 0]) (f193_fr3 a0 a1 d0) (f193_k3 K a0 a1 (realL (f193E K) 1))) = fun d0 => f193_l3 K a0 a1 K d0 := by
    funext d0
    exact f193_t3 K a0 a1 d0 K d0
  exact runF_G (n0 := 1) (by rfl) ((key (realL (f193E K) 1)).trans (by rw [h3] <;> rfl))
theorem f161_t4 (K : Nat) (a0 : List (Int × Int × Int × Int)) (a1 : ((Int × Int × Int × Int) → Option Bool)) (y1 : Int) (bq5 : Int) (bq6 : Int) (bq7 : List (Int × Int × Int × Int)) : ∀ (n : Nat) (q5 : Int) (q6 : Int) (q7 : List (Int × Int × Int × Int)), loopN (exec (f161E K) 1 (selC f161C [1, 1, 1, 0, 1, 0, 0])) 1 (f161_fr4 a1 y1 bq5 bq6 bq7) n (f161_fr4 a1 y1 q5 q6 q7) (f161_k4 K a0 a1 (realL (f161E K) 1)) = f161_l4 K a1 y1 n q5 q6 q7 := by
  have key : ∀ (lr : LR (List (Int × Int × Int × Int))) (L : Fr → Option (List (Int × Int × Int × Int))) (q5 : Int) (q6 : Int) (q7 : List (Int × Int × Int × Int)), execG (f161E K) 1 lr (selC f161C [1, 1, 1, 0, 1, 0, 0]) (f161_fr4 a1 y1 q5 q6 q7) (loopK 1 (f161_fr4 a1 y1 bq5 bq6 bq7) L (f161_k4 K a0 a1 lr)) = f161_b4 K a1 y1 (fun v0 v1 v2 => L (f161_fr4 a1 y1 v0 v1 v2)) q5 q6 q7 := by
    intro lr L q5 q6 q7; kernel_rfl
  intro n q5 q6 q7
  refine loopN_iter (X := Int × Int × List (Int × Int × Int × Int)) (frame := fun x => (f161_fr4 a1 y1 x.1 x.2.1 x.2.2)) (body := (fun L x => (fun L4 => f161_b4 K a1 y1 L4 x.1 x.2.1 x.2.2) (fun v0 v1 v2 => L (v0, v1, v2)))) (fun L x => ?_) n (q5, q6, q7)
  rw [exec_G]
  exact (key (realL (f161E K) 1) L x.1 x.2.1 x.2.2).trans (by rfl)
theorem f161_run (K : Nat) (a0 : List (Int × Int × Int × Int)) (a1 : ((Int × Int × Int × Int) → Option Bool)) : runF (f161E K) Try.f161 [(.mv, (.list 86 (.cons (.int .i64) (.cons (.int .i64) (.cons (.int .i64) (.int .i64)))))), (.ro, (.fn1 (.cons (.int .i64) (.cons (.int .i64) (.cons (.int .i64) (.int .i64)))) .bool))] [(.list 86 (.cons (.int .i64) (.cons (.int .i64) (.cons (.int .i64) (.int .i64)))))] (a0, a1, ()) = f161G K a0 a1 := by
  have key : ∀ (lr : LR (List (Int × Int × Int × Int))), runG (f161E K) Try.f161 [(.mv, (.list 86 (.cons (.int .i64) (.cons (.int .i64) (.cons (.int .i64) (.int .i64)))))), (.ro, (.fn1 (.cons (.int .i64) (.cons (.int .i64) (.cons (.int .i64) (.int .i64)))) .bool))] [(.list 86 (.cons (.int .i64) (.cons (.int .i64) (.cons (.int .i64) (.int .i64)))))] (a0, a1, ()) lr = f161_g K a0 a1 (fun c0 d0 d1 d2 => lr (selC f161C [1, 1, 1, 0, 1, 0, 0]) (f161_fr4 a1 c0 d0 d1 d2) (f161_k4 K a0 a1 lr)) := by intro lr; kernel_rfl
  have h4 : (fun c0 d0 d1 d2 => (realL (f161E K) 1) (selC f161C [1, 1, 1, 0, 1, 0, 0]) (f161_fr4 a1 c0 d0 d1 d2) (f161_k4 K a0 a1 (realL (f161E K) 1))) = fun c0 d0 d1 d2 => f161_l4 K a1 c0 K d0 d1 d2 := by
    funext c0 d0 d1 d2
    exact f161_t4 K a0 a1 c0 d0 d1 d2 K d0 d1 d2
  exact runF_G (n0 := 1) (by rfl) ((key (realL (f161E K) 1)).trans (by rw [h4] <;> rfl))
theorem f116_run (K : Nat) (a0 : Int) (a1 : Int × Int × Int) : runF (f116E K) Try.f116 [(.ro, (.int .i64)), (.ro, (.cons (.int .i64) (.cons (.int .i64) (.int .i64))))] [(.list 86 (.cons (.int .i64) (.cons (.int .i64) (.cons (.int .i64) (.int .i64)))))] (a0, a1, ()) = f116G K a0 a1 := by kernel_rfl
theorem f69_t14 (K : Nat) (a0 : Int × (Int × Int × Int) × List Int) (y1 : List (Int × Int × Int × Int)) (q11 : Int) (y13 : List (Int × Int)) (F10 : Fr → Option (List ((Int × Int × Int × Int) × Int × Int))) (bq11 : Int) (bq12 : List ((Int × Int × Int × Int) × Int × Int)) (bq15 : Int) (bq16 : List ((Int × Int × Int × Int) × Int × Int)) : ∀ (n : Nat) (q15 : Int) (q16 : List ((Int × Int × Int × Int) × Int × Int)), loopN (exec (f69E K) 1 (selC f69C [1, 1, 0, 1, 0, 0, 1, 1, 0, 0, 1, 1, 0, 0])) 1 (f69_fr14 a0 q11 y1 y13 bq15 bq16) n (f69_fr14 a0 q11 y1 y13 q15 q16) (f69_k14 K a0 y1 F10 bq11 bq12 (realL (f69E K) 1)) = f69_l14 K a0 q11 y1 y13 (fun v0 v1 => F10 (f69_fr10 a0 y1 v0 v1)) n q15 q16 := by
  have key : ∀ (lr : LR (List ((Int × Int × Int × Int) × Int × Int))) (L : Fr → Option (List ((Int × Int × Int × Int) × Int × Int))) (q15 : Int) (q16 : List ((Int × Int × Int × Int) × Int × Int)), execG (f69E K) 1 lr (selC f69C [1, 1, 0, 1, 0, 0, 1, 1, 0, 0, 1, 1, 0, 0]) (f69_fr14 a0 q11 y1 y13 q15 q16) (loopK 1 (f69_fr14 a0 q11 y1 y13 bq15 bq16) L (f69_k14 K a0 y1 F10 bq11 bq12 lr)) = f69_b14 K a0 q11 y1 y13 (fun v0 v1 => F10 (f69_fr10 a0 y1 v0 v1)) (fun v0 v1 => L (f69_fr14 a0 q11 y1 y13 v0 v1)) q15 q16 := by
    intro lr L q15 q16; kernel_rfl
  intro n q15 q16
  refine loopN_iter (X := Int × List ((Int × Int × Int × Int) × Int × Int)) (frame := fun x => (f69_fr14 a0 q11 y1 y13 x.1 x.2)) (body := (fun L x => (fun L14 => f69_b14 K a0 q11 y1 y13 (fun v0 v1 => F10 (f69_fr10 a0 y1 v0 v1)) L14 x.1 x.2) (fun v0 v1 => L (v0, v1)))) (fun L x => ?_) n (q15, q16)
  rw [exec_G]
  exact (key (realL (f69E K) 1) L x.1 x.2).trans (by rfl)
theorem f69_t10 (K : Nat) (a0 : Int × (Int × Int × Int) × List Int) (y1 : List (Int × Int × Int × Int)) (bq11 : Int) (bq12 : List ((Int × Int × Int × Int) × Int × Int)) : ∀ (n : Nat) (q11 : Int) (q12 : List ((Int × Int × Int × Int) × Int × Int)), loopN (exec (f69E K) 1 (selC f69C [1, 1, 0, 1, 0, 0])) 1 (f69_fr10 a0 y1 bq11 bq12) n (f69_fr10 a0 y1 q11 q12) (f69_k10 K a0 (realL (f69E K) 1)) = f69_l10 K a0 y1 n q11 q12 := by
  have key : ∀ (lr : LR (List ((Int × Int × Int × Int) × Int × Int))) (L : Fr → Option (List ((Int × Int × Int × Int) × Int × Int))) (q11 : Int) (q12 : List ((Int × Int × Int × Int) × Int × Int)), execG (f69E K) 1 lr (selC f69C [1, 1, 0, 1, 0, 0]) (f69_fr10 a0 y1 q11 q12) (loopK 1 (f69_fr10 a0 y1 bq11 bq12) L (f69_k10 K a0 lr)) = f69_b10 K a0 y1 (fun c0 c1 d0 d1 => lr (selC f69C [1, 1, 0, 1, 0, 0, 1, 1, 0, 0, 1, 1, 0, 0]) (f69_fr14 a0 c0 y1 c1 d0 d1) (f69_k14 K a0 y1 L bq11 bq12 lr)) (fun v0 v1 => L (f69_fr10 a0 y1 v0 v1)) q11 q12 := by
    intro lr L q11 q12; kernel_rfl
  intro n q11 q12
  refine loopN_iter (X := Int × List ((Int × Int × Int × Int) × Int × Int)) (frame := fun x => (f69_fr10 a0 y1 x.1 x.2)) (body := (fun L x => (fun L10 => f69_b10 K a0 y1 (fun c0 c1 d0 d1 => f69_l14 K a0 c0 y1 c1 L10 K d0 d1) L10 x.1 x.2) (fun v0 v1 => L (v0, v1)))) (fun L x => ?_) n (q11, q12)
  rw [exec_G]
  have h14 : (fun c0 c1 d0 d1 => (realL (f69E K) 1) (selC f69C [1, 1, 0, 1, 0, 0, 1, 1, 0, 0, 1, 1, 0, 0]) (f69_fr14 a0 c0 y1 c1 d0 d1) (f69_k14 K a0 y1 L bq11 bq12 (realL (f69E K) 1))) = fun c0 c1 d0 d1 => f69_l14 K a0 c0 y1 c1 (fun v0 v1 => L (f69_fr10 a0 y1 v0 v1)) K d0 d1 := by
    funext c0 c1 d0 d1
    exact f69_t14 K a0 y1 c0 c1 L bq11 bq12 d0 d1 K d0 d1
  exact (key (realL (f69E K) 1) L x.1 x.2).trans (by rw [h14] <;> rfl)
theorem f69_run (K : Nat) (a0 : Int × (Int × Int × Int) × List Int) : runF (f69E K) Try.f69 [(.ro, (.cons (.int .i64) (.cons (.cons (.int .i64) (.cons (.int .i64) (.int .i64))) (.list 2 (.int .i64)))))] [(.list 88 (.cons (.cons (.int .i64) (.cons (.int .i64) (.cons (.int .i64) (.int .i64)))) (.cons (.int .i64) (.int .i64))))] (a0, ()) = f69G K a0 := by
  have key : ∀ (lr : LR (List ((Int × Int × Int × Int) × Int × Int))), runG (f69E K) Try.f69 [(.ro, (.cons (.int .i64) (.cons (.cons (.int .i64) (.cons (.int .i64) (.int .i64))) (.list 2 (.int .i64)))))] [(.list 88 (.cons (.cons (.int .i64) (.cons (.int .i64) (.cons (.int .i64) (.int .i64)))) (.cons (.int .i64) (.int .i64))))] (a0, ()) lr = f69_g K a0 (fun c0 d0 d1 => lr (selC f69C [1, 1, 0, 1, 0, 0]) (f69_fr10 a0 c0 d0 d1) (f69_k10 K a0 lr)) := by intro lr; kernel_rfl
  have h10 : (fun c0 d0 d1 => (realL (f69E K) 1) (selC f69C [1, 1, 0, 1, 0, 0]) (f69_fr10 a0 c0 d0 d1) (f69_k10 K a0 (realL (f69E K) 1))) = fun c0 d0 d1 => f69_l10 K a0 c0 K d0 d1 := by
    funext c0 d0 d1
    exact f69_t10 K a0 c0 d0 d1 K d0 d1
  exact runF_G (n0 := 1) (by rfl) ((key (realL (f69E K) 1)).trans (by rw [h10] <;> rfl))
theorem f76_run (K : Nat) (a0 : Int × Int × Int × Int) : runF (f76E K) Try.f76 [(.ro, (.cons (.int .i64) (.cons (.int .i64) (.cons (.int .i64) (.int .i64)))))] [(.int .i64)] (a0, ()) = f76G K a0 := by kernel_rfl
theorem f77_run (K : Nat) (a0 : Int × Int × Int × Int) : runF (f77E K) Try.f77 [(.ro, (.cons (.int .i64) (.cons (.int .i64) (.cons (.int .i64) (.int .i64)))))] [(.int .i64)] (a0, ()) = f77G K a0 := by kernel_rfl
theorem f144_run (K : Nat) (a0 : Int × Int × Int × Int) : runF (f144E K) Try.f144 [(.ro, (.cons (.int .i64) (.cons (.int .i64) (.cons (.int .i64) (.int .i64)))))] [.bool] (a0, ()) = f144G K a0 := by kernel_rfl
theorem f169_run (K : Nat) (a0 : Int) : runF (f169E K) Try.f169 [(.ro, (.int .i64))] [.bool] (a0, ()) = f169G K a0 := by kernel_rfl
theorem f209_run (K : Nat) (a0 : Int × Int × Int × Int) : runF (f209E K) Try.f209 [(.ro, (.cons (.int .i64) (.cons (.int .i64) (.cons (.int .i64) (.int .i64)))))] [.bool] (a0, ()) = f209G K a0 := by kernel_rfl
theorem f198_run (K : Nat) (a0 : Int × Int × Int × Int) : runF (f198E K) Try.f198 [(.ro, (.cons (.int .i64) (.cons (.int .i64) (.cons (.int .i64) (.int .i64)))))] [.bool] (a0, ()) = f198G K a0 := by kernel_rfl
theorem f188_t2 (K : Nat) (a0 : List Int) (a1 : List Int) (bq3 : Int) : ∀ (n : Nat) (q3 : Int), loopN (exec (f188E K) 2 (selC f188C [1, 0, 1, 0, 0])) 2 (f188_fr2 a0 a1 bq3) n (f188_fr2 a0 a1 q3) (f188_k2 K a0 a1 (realL (f188E K) 2)) = f188_l2 K a0 a1 n q3 := by
  have key : ∀ (lr : LR Int) (L : Fr → Option Int) (q3 : Int), execG (f188E K) 2 lr (selC f188C [1, 0, 1, 0, 0]) (f188_fr2 a0 a1 q3) (loopK 2 (f188_fr2 a0 a1 bq3) L (f188_k2 K a0 a1 lr)) = f188_b2 K a0 a1 (fun v0 => L (f188_fr2 a0 a1 v0)) q3 := by
    intro lr L q3; kernel_rfl
  intro n q3
  refine loopN_iter (X := Int) (frame := fun x => (f188_fr2 a0 a1 x)) (body := (fun L x => (fun L2 => f188_b2 K a0 a1 L2 x) (fun v0 => L v0))) (fun L x => ?_) n q3
  rw [exec_G]
  exact (key (realL (f188E K) 2) L x).trans (by rfl)
theorem f188_run (K : Nat) (a0 : List Int) (a1 : List Int) : runF (f188E K) Try.f188 [(.ro, (.list 2 (.int .i64))), (.ro, (.list 2 (.int .i64)))] [(.int .i64)] (a0, a1, ()) = f188G K a0 a1 := by
  have key : ∀ (lr : LR Int), runG (f188E K) Try.f188 [(.ro, (.list 2 (.int .i64))), (.ro, (.list 2 (.int .i64)))] [(.int .i64)] (a0, a1, ()) lr = f188_g K a0 a1 (fun d0 => lr (selC f188C [1, 0, 1, 0, 0]) (f188_fr2 a0 a1 d0) (f188_k2 K a0 a1 lr)) := by intro lr; kernel_rfl
  have h2 : (fun d0 => (realL (f188E K) 2) (selC f188C [1, 0, 1, 0, 0]) (f188_fr2 a0 a1 d0) (f188_k2 K a0 a1 (realL (f188E K) 2))) = fun d0 => f188_l2 K a0 a1 K d0 := by
    funext d0
    exact f188_t2 K a0 a1 d0 K d0
  exact runF_G (n0 := 2) (by rfl) ((key (realL (f188E K) 2)).trans (by rw [h2] <;> rfl))
theorem f154_run (K : Nat) (a0 : Int × Int) (a1 : Int × Int) : runF (f154E K) Try.f154 [(.ro, (.cons (.int .i64) (.int .i64))), (.ro, (.cons (.int .i64) (.int .i64)))] [(.int .i64)] (a0, a1, ()) = f154G K a0 a1 := by kernel_rfl
theorem f125_run (K : Nat) (a0 : Int × Int) : runF (f125E K) Try.f125 [(.ro, (.cons (.int .i64) (.int .i64)))] [.bool] (a0, ()) = f125G K a0 := by kernel_rfl
theorem f199_run (K : Nat) (a0 : Int × Int) : runF (f199E K) Try.f199 [(.ro, (.cons (.int .i64) (.int .i64)))] [(.cons (.int .i64) (.int .i64)), (.int .i64)] (a0, ()) = f199G K a0 := by kernel_rfl
theorem f181_run (K : Nat) (a0 : Int × Int × Int × Int) : runF (f181E K) Try.f181 [(.ro, (.cons (.int .i64) (.cons (.int .i64) (.cons (.int .i64) (.int .i64)))))] [(.cons (.int .i64) (.int .i64)), (.int .i64)] (a0, ()) = f181G K a0 := by kernel_rfl
theorem f149_run (K : Nat) (a0 : Int × Int × Int × Int) : runF (f149E K) Try.f149 [(.ro, (.cons (.int .i64) (.cons (.int .i64) (.cons (.int .i64) (.int .i64)))))] [(.cons (.int .i64) (.int .i64))] (a0, ()) = f149G K a0 := by kernel_rfl
theorem f145_run (K : Nat) (a0 : Int × Int × Int × Int) (a1 : Int × Int) : runF (f145E K) Try.f145 [(.ro, (.cons (.int .i64) (.cons (.int .i64) (.cons (.int .i64) (.int .i64))))), (.ro, (.cons (.int .i64) (.int .i64)))] [(.int .i64)] (a0, a1, ()) = f145G K a0 a1 := by kernel_rfl
theorem f99_run (K : Nat) (a0 : Int × Int × Int) (a1 : (Int × Int × Int × Int) × Int × Int) : runF (f99E K) Try.f99 [(.ro, (.cons (.int .i64) (.cons (.int .i64) (.int .i64)))), (.ro, (.cons (.cons (.int .i64) (.cons (.int .i64) (.cons (.int .i64) (.int .i64)))) (.cons (.int .i64) (.int .i64))))] [.bool] (a0, a1, ()) = f99G K a0 a1 := by kernel_rfl
theorem f148_t4 (K : Nat) (a0 : Int × Int × Int) (a1 : Int × Int) (bq5 : Int) (bq6 : Int) : ∀ (n : Nat) (q5 : Int) (q6 : Int), loopN (exec (f148E K) 0 (selC f148C [1, 1, 0, 0, 0])) 0 (f148_fr4 a0 a1 bq5 bq6) n (f148_fr4 a0 a1 q5 q6) (f148_k4 K a0 a1 (realL (f148E K) 0)) = f148_l4 K a0 a1 n q5 q6 := by
  have key : ∀ (lr : LR (Int × Int)) (L : Fr → Option (Int × Int)) (q5 : Int) (q6 : Int), execG (f148E K) 0 lr (selC f148C [1, 1, 0, 0, 0]) (f148_fr4 a0 a1 q5 q6) (loopK 0 (f148_fr4 a0 a1 bq5 bq6) L (f148_k4 K a0 a1 lr)) = f148_b4 K a0 a1 (fun v0 v1 => L (f148_fr4 a0 a1 v0 v1)) q5 q6 := by
    intro lr L q5 q6; kernel_rfl
  intro n q5 q6
  refine loopN_iter (X := Int × Int) (frame := fun x => (f148_fr4 a0 a1 x.1 x.2)) (body := (fun L x => (fun L4 => f148_b4 K a0 a1 L4 x.1 x.2) (fun v0 v1 => L (v0, v1)))) (fun L x => ?_) n (q5, q6)
  rw [exec_G]
  exact (key (realL (f148E K) 0) L x.1 x.2).trans (by rfl)
theorem f148_run (K : Nat) (a0 : Int × Int × Int) (a1 : Int × Int) : runF (f148E K) Try.f148 [(.ro, (.cons (.int .i64) (.cons (.int .i64) (.int .i64)))), (.ro, (.cons (.int .i64) (.int .i64)))] [(.cons (.int .i64) (.int .i64))] (a0, a1, ()) = f148G K a0 a1 := by
  have key : ∀ (lr : LR (Int × Int)), runG (f148E K) Try.f148 [(.ro, (.cons (.int .i64) (.cons (.int .i64) (.int .i64)))), (.ro, (.cons (.int .i64) (.int .i64)))] [(.cons (.int .i64) (.int .i64))] (a0, a1, ()) lr = f148_g K a0 a1 (fun d0 d1 => lr (selC f148C [1, 1, 0, 0, 0]) (f148_fr4 a0 a1 d0 d1) (f148_k4 K a0 a1 lr)) := by intro lr; kernel_rfl
  have h4 : (fun d0 d1 => (realL (f148E K) 0) (selC f148C [1, 1, 0, 0, 0]) (f148_fr4 a0 a1 d0 d1) (f148_k4 K a0 a1 (realL (f148E K) 0))) = fun d0 d1 => f148_l4 K a0 a1 K d0 d1 := by
    funext d0 d1
    exact f148_t4 K a0 a1 d0 d1 K d0 d1
  exact runF_G (n0 := 0) (by rfl) ((key (realL (f148E K) 0)).trans (by rw [h4] <;> rfl))
theorem f150_run (K : Nat) (a0 : Int × Int × Int × Int) : runF (f150E K) Try.f150 [(.ro, (.cons (.int .i64) (.cons (.int .i64) (.cons (.int .i64) (.int .i64)))))] [(.cons (.int .i64) (.cons (.int .i64) (.cons (.int .i64) (.int .i64))))] (a0, ()) = f150G K a0 := by kernel_rfl
theorem f147_run (K : Nat) (a0 : Int × Int) (a1 : Int × Int) : runF (f147E K) Try.f147 [(.ro, (.cons (.int .i64) (.int .i64))), (.ro, (.cons (.int .i64) (.int .i64)))] [(.int .i64)] (a0, a1, ()) = f147G K a0 a1 := by kernel_rfl
theorem f100_run (K : Nat) (a0 : Int × Int × Int) (a1 : Int × Int × Int × Int) : runF (f100E K) Try.f100 [(.ro, (.cons (.int .i64) (.cons (.int .i64) (.int .i64)))), (.ro, (.cons (.int .i64) (.cons (.int .i64) (.cons (.int .i64) (.int .i64)))))] [.bool] (a0, a1, ()) = f100G K a0 a1 := by kernel_rfl
theorem f56_t14 (K : Nat) (a0 : Int × (Int × Int × Int) × List Int) (y1 : List ((Int × Int × Int × Int) × Int × Int)) (bq15 : Int) (bq16 : Int) (bq17 : Int) : ∀ (n : Nat) (q15 : Int) (q16 : Int) (q17 : Int), loopN (exec (f56E K) 1 (selC f56C [1, 1, 0, 1, 0, 0])) 1 (f56_fr14 a0 y1 bq15 bq16 bq17) n (f56_fr14 a0 y1 q15 q16 q17) (f56_k14 K a0 (realL (f56E K) 1)) = f56_l14 K a0 y1 n q15 q16 q17 := by
  have key : ∀ (lr : LR (Int × Int)) (L : Fr → Option (Int × Int)) (q15 : Int) (q16 : Int) (q17 : Int), execG (f56E K) 1 lr (selC f56C [1, 1, 0, 1, 0, 0]) (f56_fr14 a0 y1 q15 q16 q17) (loopK 1 (f56_fr14 a0 y1 bq15 bq16 bq17) L (f56_k14 K a0 lr)) = f56_b14 K a0 y1 (fun v0 v1 v2 => L (f56_fr14 a0 y1 v0 v1 v2)) q15 q16 q17 := by
    intro lr L q15 q16 q17; kernel_rfl
  intro n q15 q16 q17
  refine loopN_iter (X := Int × Int × Int) (frame := fun x => (f56_fr14 a0 y1 x.1 x.2.1 x.2.2)) (body := (fun L x => (fun L14 => f56_b14 K a0 y1 L14 x.1 x.2.1 x.2.2) (fun v0 v1 v2 => L (v0, v1, v2)))) (fun L x => ?_) n (q15, q16, q17)
  rw [exec_G]
  exact (key (realL (f56E K) 1) L x.1 x.2.1 x.2.2).trans (by rfl)
theorem f56_run (K : Nat) (a0 : Int × (Int × Int × Int) × List Int) : runF (f56E K) Try.f56 [(.ro, (.cons (.int .i64) (.cons (.cons (.int .i64) (.cons (.int .i64) (.int .i64))) (.list 2 (.int .i64)))))] [(.int .i64), (.int .i64)] (a0, ()) = f56G K a0 := by
  have key : ∀ (lr : LR (Int × Int)), runG (f56E K) Try.f56 [(.ro, (.cons (.int .i64) (.cons (.cons (.int .i64) (.cons (.int .i64) (.int .i64))) (.list 2 (.int .i64)))))] [(.int .i64), (.int .i64)] (a0, ()) lr = f56_g K a0 (fun c0 d0 d1 d2 => lr (selC f56C [1, 1, 0, 1, 0, 0]) (f56_fr14 a0 c0 d0 d1 d2) (f56_k14 K a0 lr)) := by intro lr; kernel_rfl
  have h14 : (fun c0 d0 d1 d2 => (realL (f56E K) 1) (selC f56C [1, 1, 0, 1, 0, 0]) (f56_fr14 a0 c0 d0 d1 d2) (f56_k14 K a0 (realL (f56E K) 1))) = fun c0 d0 d1 d2 => f56_l14 K a0 c0 K d0 d1 d2 := by
    funext c0 d0 d1 d2
    exact f56_t14 K a0 c0 d0 d1 d2 K d0 d1 d2
  exact runF_G (n0 := 1) (by rfl) ((key (realL (f56E K) 1)).trans (by rw [h14] <;> rfl))
theorem f17_run (K : Nat) (a0 : Int × (Int × Int × Int) × List Int) : runF (f17E K) Try.f17 [(.ro, (.cons (.int .i64) (.cons (.cons (.int .i64) (.cons (.int .i64) (.int .i64))) (.list 2 (.int .i64)))))] [.bool, (.int .i64)] (a0, ()) = f17G K a0 := by kernel_rfl
theorem f42_run (K : Nat) (a0 : Int × Int × Int) (a1 : Int × Int × Int) : runF (f42E K) Try.f42 [(.ro, (.cons (.int .i64) (.cons (.int .i64) (.int .i64)))), (.ro, (.cons (.int .i64) (.cons (.int .i64) (.int .i64))))] [.bool] (a0, a1, ()) = f42G K a0 a1 := by kernel_rfl
theorem f57_t2 (K : Nat) (a0 : List Int) (a1 : List Int) (bq3 : Int) : ∀ (n : Nat) (q3 : Int), loopN (exec (f57E K) 2 (selC f57C [1, 1, 0, 1, 0, 0])) 2 (f57_fr2 a0 a1 bq3) n (f57_fr2 a0 a1 q3) (f57_k2 K a0 a1 (realL (f57E K) 2)) = f57_l2 K a0 a1 n q3 := by
  have key : ∀ (lr : LR Bool) (L : Fr → Option Bool) (q3 : Int), execG (f57E K) 2 lr (selC f57C [1, 1, 0, 1, 0, 0]) (f57_fr2 a0 a1 q3) (loopK 2 (f57_fr2 a0 a1 bq3) L (f57_k2 K a0 a1 lr)) = f57_b2 K a0 a1 (fun v0 => L (f57_fr2 a0 a1 v0)) q3 := by
    intro lr L q3; kernel_rfl
  intro n q3
  refine loopN_iter (X := Int) (frame := fun x => (f57_fr2 a0 a1 x)) (body := (fun L x => (fun L2 => f57_b2 K a0 a1 L2 x) (fun v0 => L v0))) (fun L x => ?_) n q3
  rw [exec_G]
  exact (key (realL (f57E K) 2) L x).trans (by rfl)
theorem f57_run (K : Nat) (a0 : List Int) (a1 : List Int) : runF (f57E K) Try.f57 [(.ro, (.list 2 (.int .i64))), (.ro, (.list 2 (.int .i64)))] [.bool] (a0, a1, ()) = f57G K a0 a1 := by
  have key : ∀ (lr : LR Bool), runG (f57E K) Try.f57 [(.ro, (.list 2 (.int .i64))), (.ro, (.list 2 (.int .i64)))] [.bool] (a0, a1, ()) lr = f57_g K a0 a1 (fun d0 => lr (selC f57C [1, 1, 0, 1, 0, 0]) (f57_fr2 a0 a1 d0) (f57_k2 K a0 a1 lr)) := by intro lr; kernel_rfl
  have h2 : (fun d0 => (realL (f57E K) 2) (selC f57C [1, 1, 0, 1, 0, 0]) (f57_fr2 a0 a1 d0) (f57_k2 K a0 a1 (realL (f57E K) 2))) = fun d0 => f57_l2 K a0 a1 K d0 := by
    funext d0
    exact f57_t2 K a0 a1 d0 K d0
  exact runF_G (n0 := 2) (by rfl) ((key (realL (f57E K) 2)).trans (by rw [h2] <;> rfl))
theorem f18_run (K : Nat) (a0 : Int × (Int × Int × Int) × List Int) (a1 : Int × (Int × Int × Int) × List Int) : runF (f18E K) Try.f18 [(.ro, (.cons (.int .i64) (.cons (.cons (.int .i64) (.cons (.int .i64) (.int .i64))) (.list 2 (.int .i64))))), (.ro, (.cons (.int .i64) (.cons (.cons (.int .i64) (.cons (.int .i64) (.int .i64))) (.list 2 (.int .i64)))))] [.bool] (a0, a1, ()) = f18G K a0 a1 := by kernel_rfl
theorem f4_run (K : Nat) (a0 : Int × (Int × Int × Int) × List Int) : runF (f4E K) Try.f4 [(.ro, (.cons (.int .i64) (.cons (.cons (.int .i64) (.cons (.int .i64) (.int .i64))) (.list 2 (.int .i64)))))] [.bool] (a0, ()) = f4G K a0 := by kernel_rfl
theorem f71_t2 (K : Nat) (a0 : List Int) (a1 : Int) (bq3 : Int) : ∀ (n : Nat) (q3 : Int), loopN (exec (f71E K) 1 (selC f71C [1, 0, 1, 0, 0])) 1 (f71_fr2 a0 a1 bq3) n (f71_fr2 a0 a1 q3) (f71_k2 K a0 a1 (realL (f71E K) 1)) = f71_l2 K a0 a1 n q3 := by
  have key : ∀ (lr : LR Bool) (L : Fr → Option Bool) (q3 : Int), execG (f71E K) 1 lr (selC f71C [1, 0, 1, 0, 0]) (f71_fr2 a0 a1 q3) (loopK 1 (f71_fr2 a0 a1 bq3) L (f71_k2 K a0 a1 lr)) = f71_b2 K a0 a1 (fun v0 => L (f71_fr2 a0 a1 v0)) q3 := by
    intro lr L q3; kernel_rfl
  intro n q3
  refine loopN_iter (X := Int) (frame := fun x => (f71_fr2 a0 a1 x)) (body := (fun L x => (fun L2 => f71_b2 K a0 a1 L2 x) (fun v0 => L v0))) (fun L x => ?_) n q3
  rw [exec_G]
  exact (key (realL (f71E K) 1) L x).trans (by rfl)
theorem f71_run (K : Nat) (a0 : List Int) (a1 : Int) : runF (f71E K) Try.f71 [(.ro, (.list 2 (.int .i64))), (.ro, (.int .i64))] [.bool] (a0, a1, ()) = f71G K a0 a1 := by
  have key : ∀ (lr : LR Bool), runG (f71E K) Try.f71 [(.ro, (.list 2 (.int .i64))), (.ro, (.int .i64))] [.bool] (a0, a1, ()) lr = f71_g K a0 a1 (fun d0 => lr (selC f71C [1, 0, 1, 0, 0]) (f71_fr2 a0 a1 d0) (f71_k2 K a0 a1 lr)) := by intro lr; kernel_rfl
  have h2 : (fun d0 => (realL (f71E K) 1) (selC f71C [1, 0, 1, 0, 0]) (f71_fr2 a0 a1 d0) (f71_k2 K a0 a1 (realL (f71E K) 1))) = fun d0 => f71_l2 K a0 a1 K d0 := by
    funext d0
    exact f71_t2 K a0 a1 d0 K d0
  exact runF_G (n0 := 1) (by rfl) ((key (realL (f71E K) 1)).trans (by rw [h2] <;> rfl))
theorem f166_run (K : Nat) (a0 : Int × Int × Int × Int) (a1 : Int × Int × Int × Int) : runF (f166E K) Try.f166 [(.ro, (.cons (.int .i64) (.cons (.int .i64) (.cons (.int .i64) (.int .i64))))), (.ro, (.cons (.int .i64) (.cons (.int .i64) (.cons (.int .i64) (.int .i64)))))] [(.cons (.int .i64) (.cons (.int .i64) (.cons (.int .i64) (.int .i64))))] (a0, a1, ()) = f166G K a0 a1 := by kernel_rfl
theorem f120_run (K : Nat) (a0 : Int × Int) : runF (f120E K) Try.f120 [(.ro, (.cons (.int .i64) (.int .i64)))] [.bool] (a0, ()) = f120G K a0 := by kernel_rfl
theorem f167_run (K : Nat) (a0 : Int × Int × Int × Int) : runF (f167E K) Try.f167 [(.ro, (.cons (.int .i64) (.cons (.int .i64) (.cons (.int .i64) (.int .i64)))))] [.bool] (a0, ()) = f167G K a0 := by kernel_rfl
theorem f118_t6 (K : Nat) (a0 : Int × Int × Int × Int) (bq7 : Int) (bq8 : Int) (bq9 : Int) (bq10 : Int) (bq11 : Int) : ∀ (n : Nat) (q7 : Int) (q8 : Int) (q9 : Int) (q10 : Int) (q11 : Int), loopN (exec (f118E K) 0 (selC f118C [1, 1, 0, 1, 0, 0])) 0 (f118_fr6 a0 bq7 bq8 bq9 bq10 bq11) n (f118_fr6 a0 q7 q8 q9 q10 q11) (f118_k6 K a0 (realL (f118E K) 0)) = f118_l6 K a0 n q7 q8 q9 q10 q11 := by
  have key : ∀ (lr : LR Int) (L : Fr → Option Int) (q7 : Int) (q8 : Int) (q9 : Int) (q10 : Int) (q11 : Int), execG (f118E K) 0 lr (selC f118C [1, 1, 0, 1, 0, 0]) (f118_fr6 a0 q7 q8 q9 q10 q11) (loopK 0 (f118_fr6 a0 bq7 bq8 bq9 bq10 bq11) L (f118_k6 K a0 lr)) = f118_b6 K a0 (fun v0 v1 v2 v3 v4 => L (f118_fr6 a0 v0 v1 v2 v3 v4)) q7 q8 q9 q10 q11 := by
    intro lr L q7 q8 q9 q10 q11; kernel_rfl
  intro n q7 q8 q9 q10 q11
  refine loopN_iter (X := Int × Int × Int × Int × Int) (frame := fun x => (f118_fr6 a0 x.1 x.2.1 x.2.2.1 x.2.2.2.1 x.2.2.2.2)) (body := (fun L x => (fun L6 => f118_b6 K a0 L6 x.1 x.2.1 x.2.2.1 x.2.2.2.1 x.2.2.2.2) (fun v0 v1 v2 v3 v4 => L (v0, v1, v2, v3, v4)))) (fun L x => ?_) n (q7, q8, q9, q10, q11)
  rw [exec_G]
  exact (key (realL (f118E K) 0) L x.1 x.2.1 x.2.2.1 x.2.2.2.1 x.2.2.2.2).trans (by rfl)
theorem f118_run (K : Nat) (a0 : Int × Int × Int × Int) : runF (f118E K) Try.f118 [(.ro, (.cons (.int .i64) (.cons (.int .i64) (.cons (.int .i64) (.int .i64)))))] [(.int .i64)] (a0, ()) = f118G K a0 := by
  have key : ∀ (lr : LR Int), runG (f118E K) Try.f118 [(.ro, (.cons (.int .i64) (.cons (.int .i64) (.cons (.int .i64) (.int .i64)))))] [(.int .i64)] (a0, ()) lr = f118_g K a0 (fun d0 d1 d2 d3 d4 => lr (selC f118C [1, 1, 0, 1, 0, 0]) (f118_fr6 a0 d0 d1 d2 d3 d4) (f118_k6 K a0 lr)) := by intro lr; kernel_rfl
  have h6 : (fun d0 d1 d2 d3 d4 => (realL (f118E K) 0) (selC f118C [1, 1, 0, 1, 0, 0]) (f118_fr6 a0 d0 d1 d2 d3 d4) (f118_k6 K a0 (realL (f118E K) 0))) = fun d0 d1 d2 d3 d4 => f118_l6 K a0 K d0 d1 d2 d3 d4 := by
    funext d0 d1 d2 d3 d4
    exact f118_t6 K a0 d0 d1 d2 d3 d4 K d0 d1 d2 d3 d4
  exact runF_G (n0 := 0) (by rfl) ((key (realL (f118E K) 0)).trans (by rw [h6] <;> rfl))
theorem f73_run (K : Nat) (a0 : Int × Int × Int × Int) : runF (f73E K) Try.f73 [(.ro, (.cons (.int .i64) (.cons (.int .i64) (.cons (.int .i64) (.int .i64)))))] [(.int .i64)] (a0, ()) = f73G K a0 := by kernel_rfl
theorem f66_run (K : Nat) (a0 : Int × Int × Int) (a1 : (Int × Int × Int × Int) × Int × Int) (a2 : Int × Int) : runF (f66E K) Try.f66 [(.ro, (.cons (.int .i64) (.cons (.int .i64) (.int .i64)))), (.ro, (.cons (.cons (.int .i64) (.cons (.int .i64) (.cons (.int .i64) (.int .i64)))) (.cons (.int .i64) (.int .i64)))), (.ro, (.cons (.int .i64) (.int .i64)))] [(.cons (.int .i64) (.int .i64))] (a0, a1, a2, ()) = f66G K a0 a1 a2 := by kernel_rfl
theorem f74_t3 (K : Nat) (a0 : Int × Int × Int) (a1 : List ((Int × Int × Int × Int) × Int × Int)) (a2 : Int × Int) (bq4 : Int) (bq5 : Int) : ∀ (n : Nat) (q4 : Int) (q5 : Int), loopN (exec (f74E K) 1 (selC f74C [1, 1, 0, 1, 0, 0])) 1 (f74_fr3 a0 a1 a2 bq4 bq5) n (f74_fr3 a0 a1 a2 q4 q5) (f74_k3 K a0 a1 a2 (realL (f74E K) 1)) = f74_l3 K a0 a1 a2 n q4 q5 := by
  have key : ∀ (lr : LR Int) (L : Fr → Option Int) (q4 : Int) (q5 : Int), execG (f74E K) 1 lr (selC f74C [1, 1, 0, 1, 0, 0]) (f74_fr3 a0 a1 a2 q4 q5) (loopK 1 (f74_fr3 a0 a1 a2 bq4 bq5) L (f74_k3 K a0 a1 a2 lr)) = f74_b3 K a0 a1 a2 (fun v0 v1 => L (f74_fr3 a0 a1 a2 v0 v1)) q4 q5 := by
    intro lr L q4 q5; kernel_rfl
  intro n q4 q5
  refine loopN_iter (X := Int × Int) (frame := fun x => (f74_fr3 a0 a1 a2 x.1 x.2)) (body := (fun L x => (fun L3 => f74_b3 K a0 a1 a2 L3 x.1 x.2) (fun v0 v1 => L (v0, v1)))) (fun L x => ?_) n (q4, q5)
  rw [exec_G]
  exact (key (realL (f74E K) 1) L x.1 x.2).trans (by rfl)
theorem f74_run (K : Nat) (a0 : Int × Int × Int) (a1 : List ((Int × Int × Int × Int) × Int × Int)) (a2 : Int × Int) : runF (f74E K) Try.f74 [(.ro, (.cons (.int .i64) (.cons (.int .i64) (.int .i64)))), (.ro, (.list 88 (.cons (.cons (.int .i64) (.cons (.int .i64) (.cons (.int .i64) (.int .i64)))) (.cons (.int .i64) (.int .i64))))), (.ro, (.cons (.int .i64) (.int .i64)))] [(.int .i64)] (a0, a1, a2, ()) = f74G K a0 a1 a2 := by
  have key : ∀ (lr : LR Int), runG (f74E K) Try.f74 [(.ro, (.cons (.int .i64) (.cons (.int .i64) (.int .i64)))), (.ro, (.list 88 (.cons (.cons (.int .i64) (.cons (.int .i64) (.cons (.int .i64) (.int .i64)))) (.cons (.int .i64) (.int .i64))))), (.ro, (.cons (.int .i64) (.int .i64)))] [(.int .i64)] (a0, a1, a2, ()) lr = f74_g K a0 a1 a2 (fun d0 d1 => lr (selC f74C [1, 1, 0, 1, 0, 0]) (f74_fr3 a0 a1 a2 d0 d1) (f74_k3 K a0 a1 a2 lr)) := by intro lr; kernel_rfl
  have h3 : (fun d0 d1 => (realL (f74E K) 1) (selC f74C [1, 1, 0, 1, 0, 0]) (f74_fr3 a0 a1 a2 d0 d1) (f74_k3 K a0 a1 a2 (realL (f74E K) 1))) = fun d0 d1 => f74_l3 K a0 a1 a2 K d0 d1 := by
    funext d0 d1
    exact f74_t3 K a0 a1 a2 d0 d1 K d0 d1
  exact runF_G (n0 := 1) (by rfl) ((key (realL (f74E K) 1)).trans (by rw [h3] <;> rfl))
theorem f34_t14 (K : Nat) (a0 : Int × (Int × Int × Int) × List Int) (a1 : Int) (q9 : Int) (q10 : List ((Int × Int × Int × Int) × Int × Int)) (y1 : Bool) (y2 : Bool) (y3 : Int × (Int × Int × Int) × List Int) (y4 : List ((Int × Int × Int × Int) × Int × Int)) (y5 : List (Int × Int)) (bq15 : Int) (bq16 : List (Int × Int)) : ∀ (n : Nat) (q15 : Int) (q16 : List (Int × Int)), loopN (exec (f34E K) 1 (selC f34C [1, 1, 1, 1, 1, 1, 1, 0, 1, 0, 0])) 1 (f34_fr14 a0 a1 q9 q10 y1 y2 y3 y4 y5 bq15 bq16) n (f34_fr14 a0 a1 q9 q10 y1 y2 y3 y4 y5 q15 q16) (f34_k14 K a0 a1 (realL (f34E K) 1)) = f34_l14 K a0 a1 q9 q10 y1 y2 y3 y4 y5 n q15 q16 := by
  have key : ∀ (lr : LR ((List (Int × Int)) × Int)) (L : Fr → Option ((List (Int × Int)) × Int)) (q15 : Int) (q16 : List (Int × Int)), execG (f34E K) 1 lr (selC f34C [1, 1, 1, 1, 1, 1, 1, 0, 1, 0, 0]) (f34_fr14 a0 a1 q9 q10 y1 y2 y3 y4 y5 q15 q16) (loopK 1 (f34_fr14 a0 a1 q9 q10 y1 y2 y3 y4 y5 bq15 bq16) L (f34_k14 K a0 a1 lr)) = f34_b14 K a0 a1 q9 q10 y1 y2 y3 y4 y5 (fun v0 v1 => L (f34_fr14 a0 a1 q9 q10 y1 y2 y3 y4 y5 v0 v1)) q15 q16 := by
    intro lr L q15 q16; kernel_rfl
  intro n q15 q16
  refine loopN_iter (X := Int × List (Int × Int)) (frame := fun x => (f34_fr14 a0 a1 q9 q10 y1 y2 y3 y4 y5 x.1 x.2)) (body := (fun L x => (fun L14 => f34_b14 K a0 a1 q9 q10 y1 y2 y3 y4 y5 L14 x.1 x.2) (fun v0 v1 => L (v0, v1)))) (fun L x => ?_) n (q15, q16)
  rw [exec_G]
  exact (key (realL (f34E K) 1) L x.1 x.2).trans (by rfl)
theorem f34_t8 (K : Nat) (a0 : Int × (Int × Int × Int) × List Int) (a1 : Int) (y1 : Bool) (y2 : Bool) (y3 : Int × (Int × Int × Int) × List Int) (y4 : List ((Int × Int × Int × Int) × Int × Int)) (y5 : List (Int × Int)) (bq9 : Int) (bq10 : List ((Int × Int × Int × Int) × Int × Int)) : ∀ (n : Nat) (q9 : Int) (q10 : List ((Int × Int × Int × Int) × Int × Int)), loopN (exec (f34E K) 1 (selC f34C [1, 1, 1, 1, 1, 0, 1, 0, 0])) 1 (f34_fr8 a0 a1 y1 y2 y3 y4 y5 bq9 bq10) n (f34_fr8 a0 a1 y1 y2 y3 y4 y5 q9 q10) (f34_k8 K a0 a1 (realL (f34E K) 1)) = f34_l8 K a0 a1 y1 y2 y3 y4 y5 n q9 q10 := by
  have key : ∀ (lr : LR ((List (Int × Int)) × Int)) (L : Fr → Option ((List (Int × Int)) × Int)) (q9 : Int) (q10 : List ((Int × Int × Int × Int) × Int × Int)), execG (f34E K) 1 lr (selC f34C [1, 1, 1, 1, 1, 0, 1, 0, 0]) (f34_fr8 a0 a1 y1 y2 y3 y4 y5 q9 q10) (loopK 1 (f34_fr8 a0 a1 y1 y2 y3 y4 y5 bq9 bq10) L (f34_k8 K a0 a1 lr)) = f34_b8 K a0 a1 y1 y2 y3 y4 y5 (fun c0 c1 c2 c3 c4 c5 c6 d0 d1 => lr (selC f34C [1, 1, 1, 1, 1, 1, 1, 0, 1, 0, 0]) (f34_fr14 a0 a1 c0 c1 c2 c3 c4 c5 c6 d0 d1) (f34_k14 K a0 a1 lr)) (fun v0 v1 => L (f34_fr8 a0 a1 y1 y2 y3 y4 y5 v0 v1)) q9 q10 := by
    intro lr L q9 q10; kernel_rfl
  intro n q9 q10
  refine loopN_iter (X := Int × List ((Int × Int × Int × Int) × Int × Int)) (frame := fun x => (f34_fr8 a0 a1 y1 y2 y3 y4 y5 x.1 x.2)) (body := (fun L x => (fun L8 => f34_b8 K a0 a1 y1 y2 y3 y4 y5 (fun c0 c1 c2 c3 c4 c5 c6 d0 d1 => f34_l14 K a0 a1 c0 c1 c2 c3 c4 c5 c6 K d0 d1) L8 x.1 x.2) (fun v0 v1 => L (v0, v1)))) (fun L x => ?_) n (q9, q10)
  rw [exec_G]
  have h14 : (fun c0 c1 c2 c3 c4 c5 c6 d0 d1 => (realL (f34E K) 1) (selC f34C [1, 1, 1, 1, 1, 1, 1, 0, 1, 0, 0]) (f34_fr14 a0 a1 c0 c1 c2 c3 c4 c5 c6 d0 d1) (f34_k14 K a0 a1 (realL (f34E K) 1))) = fun c0 c1 c2 c3 c4 c5 c6 d0 d1 => f34_l14 K a0 a1 c0 c1 c2 c3 c4 c5 c6 K d0 d1 := by
    funext c0 c1 c2 c3 c4 c5 c6 d0 d1
    exact f34_t14 K a0 a1 c0 c1 c2 c3 c4 c5 c6 d0 d1 K d0 d1
  exact (key (realL (f34E K) 1) L x.1 x.2).trans (by rw [h14] <;> rfl)
theorem f34_run (K : Nat) (a0 : Int × (Int × Int × Int) × List Int) (a1 : Int) : runF (f34E K) Try.f34 [(.ro, (.cons (.int .i64) (.cons (.cons (.int .i64) (.cons (.int .i64) (.int .i64))) (.list 2 (.int .i64))))), (.ro, (.int .i64))] [(.list 60 (.cons (.int .i64) (.int .i64))), (.int .i64)] (a0, a1, ()) = f34G K a0 a1 := by
  have key : ∀ (lr : LR ((List (Int × Int)) × Int)), runG (f34E K) Try.f34 [(.ro, (.cons (.int .i64) (.cons (.cons (.int .i64) (.cons (.int .i64) (.int .i64))) (.list 2 (.int .i64))))), (.ro, (.int .i64))] [(.list 60 (.cons (.int .i64) (.int .i64))), (.int .i64)] (a0, a1, ()) lr = f34_g K a0 a1 (fun c0 c1 c2 c3 c4 d0 d1 => lr (selC f34C [1, 1, 1, 1, 1, 0, 1, 0, 0]) (f34_fr8 a0 a1 c0 c1 c2 c3 c4 d0 d1) (f34_k8 K a0 a1 lr)) := by intro lr; kernel_rfl
  have h8 : (fun c0 c1 c2 c3 c4 d0 d1 => (realL (f34E K) 1) (selC f34C [1, 1, 1, 1, 1, 0, 1, 0, 0]) (f34_fr8 a0 a1 c0 c1 c2 c3 c4 d0 d1) (f34_k8 K a0 a1 (realL (f34E K) 1))) = fun c0 c1 c2 c3 c4 d0 d1 => f34_l8 K a0 a1 c0 c1 c2 c3 c4 K d0 d1 := by
    funext c0 c1 c2 c3 c4 d0 d1
    exact f34_t8 K a0 a1 c0 c1 c2 c3 c4 d0 d1 K d0 d1
  exact runF_G (n0 := 1) (by rfl) ((key (realL (f34E K) 1)).trans (by rw [h8] <;> rfl))
theorem f115_run (K : Nat) (a0 : Int × Int × Int) (a1 : (Int × Int × Int × Int) × Int × Int) (a2 : Int × Int) : runF (f115E K) Try.f115 [(.ro, (.cons (.int .i64) (.cons (.int .i64) (.int .i64)))), (.ro, (.cons (.cons (.int .i64) (.cons (.int .i64) (.cons (.int .i64) (.int .i64)))) (.cons (.int .i64) (.int .i64)))), (.ro, (.cons (.int .i64) (.int .i64)))] [(.cons (.int .i64) (.int .i64))] (a0, a1, a2, ()) = f115G K a0 a1 a2 := by kernel_rfl
theorem f68_t3 (K : Nat) (a0 : Int × Int × Int) (a1 : List ((Int × Int × Int × Int) × Int × Int)) (a2 : Int × Int) (bq4 : Int) (bq5 : List ((Int × Int × Int × Int) × Int × Int)) : ∀ (n : Nat) (q4 : Int) (q5 : List ((Int × Int × Int × Int) × Int × Int)), loopN (exec (f68E K) 1 (selC f68C [1, 1, 0, 1, 0, 0])) 1 (f68_fr3 a0 a1 a2 bq4 bq5) n (f68_fr3 a0 a1 a2 q4 q5) (f68_k3 K a0 a1 a2 (realL (f68E K) 1)) = f68_l3 K a0 a1 a2 n q4 q5 := by
  have key : ∀ (lr : LR (List ((Int × Int × Int × Int) × Int × Int))) (L : Fr → Option (List ((Int × Int × Int × Int) × Int × Int))) (q4 : Int) (q5 : List ((Int × Int × Int × Int) × Int × Int)), execG (f68E K) 1 lr (selC f68C [1, 1, 0, 1, 0, 0]) (f68_fr3 a0 a1 a2 q4 q5) (loopK 1 (f68_fr3 a0 a1 a2 bq4 bq5) L (f68_k3 K a0 a1 a2 lr)) = f68_b3 K a0 a1 a2 (fun v0 v1 => L (f68_fr3 a0 a1 a2 v0 v1)) q4 q5 := by
    intro lr L q4 q5; kernel_rfl
  intro n q4 q5
  refine loopN_iter (X := Int × List ((Int × Int × Int × Int) × Int × Int)) (frame := fun x => (f68_fr3 a0 a1 a2 x.1 x.2)) (body := (fun L x => (fun L3 => f68_b3 K a0 a1 a2 L3 x.1 x.2) (fun v0 v1 => L (v0, v1)))) (fun L x => ?_) n (q4, q5)
  rw [exec_G]
  exact (key (realL (f68E K) 1) L x.1 x.2).trans (by rfl)
theorem f68_run (K : Nat) (a0 : Int × Int × Int) (a1 : List ((Int × Int × Int × Int) × Int × Int)) (a2 : Int × Int) : runF (f68E K) Try.f68 [(.ro, (.cons (.int .i64) (.cons (.int .i64) (.int .i64)))), (.ro, (.list 88 (.cons (.cons (.int .i64) (.cons (.int .i64) (.cons (.int .i64) (.int .i64)))) (.cons (.int .i64) (.int .i64))))), (.ro, (.cons (.int .i64) (.int .i64)))] [(.list 88 (.cons (.cons (.int .i64) (.cons (.int .i64) (.cons (.int .i64) (.int .i64)))) (.cons (.int .i64) (.int .i64))))] (a0, a1, a2, ()) = f68G K a0 a1 a2 := by
  have key : ∀ (lr : LR (List ((Int × Int × Int × Int) × Int × Int))), runG (f68E K) Try.f68 [(.ro, (.cons (.int .i64) (.cons (.int .i64) (.int .i64)))), (.ro, (.list 88 (.cons (.cons (.int .i64) (.cons (.int .i64) (.cons (.int .i64) (.int .i64)))) (.cons (.int .i64) (.int .i64))))), (.ro, (.cons (.int .i64) (.int .i64)))] [(.list 88 (.cons (.cons (.int .i64) (.cons (.int .i64) (.cons (.int .i64) (.int .i64)))) (.cons (.int .i64) (.int .i64))))] (a0, a1, a2, ()) lr = f68_g K a0 a1 a2 (fun d0 d1 => lr (selC f68C [1, 1, 0, 1, 0, 0]) (f68_fr3 a0 a1 a2 d0 d1) (f68_k3 K a0 a1 a2 lr)) := by intro lr; kernel_rfl
  have h3 : (fun d0 d1 => (realL (f68E K) 1) (selC f68C [1, 1, 0, 1, 0, 0]) (f68_fr3 a0 a1 a2 d0 d1) (f68_k3 K a0 a1 a2 (realL (f68E K) 1))) = fun d0 d1 => f68_l3 K a0 a1 a2 K d0 d1 := by
    funext d0 d1
    exact f68_t3 K a0 a1 a2 d0 d1 K d0 d1
  exact runF_G (n0 := 1) (by rfl) ((key (realL (f68E K) 1)).trans (by rw [h3] <;> rfl))
theorem f35_t17 (K : Nat) (a0 : Int × (Int × Int × Int) × List Int) (a1 : Int) (y1 : Bool) (y2 : Int × (Int × Int × Int) × List Int) (y3 : List ((Int × Int × Int × Int) × Int × Int)) (y4 : List (Int × Int)) (q11 : Int) (q12 : List (Int × Int)) (y13 : List ((Int × Int × Int × Int) × Int × Int)) (F10 : Fr → Option ((List (Int × Int)) × Int)) (bq11 : Int) (bq12 : List (Int × Int)) (bq18 : Int) : ∀ (n : Nat) (q18 : Int), loopN (exec (f35E K) 1 (selC f35C [1, 1, 1, 1, 1, 0, 1, 0, 0, 1, 1, 0, 0, 1, 1, 0, 0])) 1 (f35_fr17 a0 a1 q11 q12 y1 y2 y3 y4 y13 bq18) n (f35_fr17 a0 a1 q11 q12 y1 y2 y3 y4 y13 q18) (f35_k17 K a0 a1 y1 y2 y3 y4 F10 bq11 bq12 (realL (f35E K) 1)) = f35_l17 K a0 a1 q11 q12 y1 y2 y3 y4 y13 (fun v0 v1 => F10 (f35_fr10 a0 a1 y1 y2 y3 y4 v0 v1)) n q18 := by
  have key : ∀ (lr : LR ((List (Int × Int)) × Int)) (L : Fr → Option ((List (Int × Int)) × Int)) (q18 : Int), execG (f35E K) 1 lr (selC f35C [1, 1, 1, 1, 1, 0, 1, 0, 0, 1, 1, 0, 0, 1, 1, 0, 0]) (f35_fr17 a0 a1 q11 q12 y1 y2 y3 y4 y13 q18) (loopK 1 (f35_fr17 a0 a1 q11 q12 y1 y2 y3 y4 y13 bq18) L (f35_k17 K a0 a1 y1 y2 y3 y4 F10 bq11 bq12 lr)) = f35_b17 K a0 a1 q11 q12 y1 y2 y3 y4 y13 (fun v0 v1 => F10 (f35_fr10 a0 a1 y1 y2 y3 y4 v0 v1)) (fun v0 => L (f35_fr17 a0 a1 q11 q12 y1 y2 y3 y4 y13 v0)) q18 := by
    intro lr L q18; kernel_rfl
  intro n q18
  refine loopN_iter (X := Int) (frame := fun x => (f35_fr17 a0 a1 q11 q12 y1 y2 y3 y4 y13 x)) (body := (fun L x => (fun L17 => f35_b17 K a0 a1 q11 q12 y1 y2 y3 y4 y13 (fun v0 v1 => F10 (f35_fr10 a0 a1 y1 y2 y3 y4 v0 v1)) L17 x) (fun v0 => L v0))) (fun L x => ?_) n q18
  rw [exec_G]
  exact (key (realL (f35E K) 1) L x).trans (by rfl)
theorem f35_t10 (K : Nat) (a0 : Int × (Int × Int × Int) × List Int) (a1 : Int) (y1 : Bool) (y2 : Int × (Int × Int × Int) × List Int) (y3 : List ((Int × Int × Int × Int) × Int × Int)) (y4 : List (Int × Int)) (bq11 : Int) (bq12 : List (Int × Int)) : ∀ (n : Nat) (q11 : Int) (q12 : List (Int × Int)), loopN (exec (f35E K) 1 (selC f35C [1, 1, 1, 1, 1, 0, 1, 0, 0])) 1 (f35_fr10 a0 a1 y1 y2 y3 y4 bq11 bq12) n (f35_fr10 a0 a1 y1 y2 y3 y4 q11 q12) (f35_k10 K a0 a1 (realL (f35E K) 1)) = f35_l10 K a0 a1 y1 y2 y3 y4 n q11 q12 := by
  have key : ∀ (lr : LR ((List (Int × Int)) × Int)) (L : Fr → Option ((List (Int × Int)) × Int)) (q11 : Int) (q12 : List (Int × Int)), execG (f35E K) 1 lr (selC f35C [1, 1, 1, 1, 1, 0, 1, 0, 0]) (f35_fr10 a0 a1 y1 y2 y3 y4 q11 q12) (loopK 1 (f35_fr10 a0 a1 y1 y2 y3 y4 bq11 bq12) L (f35_k10 K a0 a1 lr)) = f35_b10 K a0 a1 y1 y2 y3 y4 (fun c0 c1 c2 d0 => lr (selC f35C [1, 1, 1, 1, 1, 0, 1, 0, 0, 1, 1, 0, 0, 1, 1, 0, 0]) (f35_fr17 a0 a1 c0 c1 y1 y2 y3 y4 c2 d0) (f35_k17 K a0 a1 y1 y2 y3 y4 L bq11 bq12 lr)) (fun v0 v1 => L (f35_fr10 a0 a1 y1 y2 y3 y4 v0 v1)) q11 q12 := by
    intro lr L q11 q12; kernel_rfl
  intro n q11 q12
  refine loopN_iter (X := Int × List (Int × Int)) (frame := fun x => (f35_fr10 a0 a1 y1 y2 y3 y4 x.1 x.2)) (body := (fun L x => (fun L10 => f35_b10 K a0 a1 y1 y2 y3 y4 (fun c0 c1 c2 d0 => f35_l17 K a0 a1 c0 c1 y1 y2 y3 y4 c2 L10 K d0) L10 x.1 x.2) (fun v0 v1 => L (v0, v1)))) (fun L x => ?_) n (q11, q12)
  rw [exec_G]
  have h17 : (fun c0 c1 c2 d0 => (realL (f35E K) 1) (selC f35C [1, 1, 1, 1, 1, 0, 1, 0, 0, 1, 1, 0, 0, 1, 1, 0, 0]) (f35_fr17 a0 a1 c0 c1 y1 y2 y3 y4 c2 d0) (f35_k17 K a0 a1 y1 y2 y3 y4 L bq11 bq12 (realL (f35E K) 1))) = fun c0 c1 c2 d0 => f35_l17 K a0 a1 c0 c1 y1 y2 y3 y4 c2 (fun v0 v1 => L (f35_fr10 a0 a1 y1 y2 y3 y4 v0 v1)) K d0 := by
    funext c0 c1 c2 d0
    exact f35_t17 K a0 a1 y1 y2 y3 y4 c0 c1 c2 L bq11 bq12 d0 K d0
  exact (key (realL (f35E K) 1) L x.1 x.2).trans (by rw [h17] <;> rfl)
theorem f35_run (K : Nat) (a0 : Int × (Int × Int × Int) × List Int) (a1 : Int) : runF (f35E K) Try.f35 [(.ro, (.cons (.int .i64) (.cons (.cons (.int .i64) (.cons (.int .i64) (.int .i64))) (.list 2 (.int .i64))))), (.ro, (.int .i64))] [(.list 60 (.cons (.int .i64) (.int .i64))), (.int .i64)] (a0, a1, ()) = f35G K a0 a1 := by
  have key : ∀ (lr : LR ((List (Int × Int)) × Int)), runG (f35E K) Try.f35 [(.ro, (.cons (.int .i64) (.cons (.cons (.int .i64) (.cons (.int .i64) (.int .i64))) (.list 2 (.int .i64))))), (.ro, (.int .i64))] [(.list 60 (.cons (.int .i64) (.int .i64))), (.int .i64)] (a0, a1, ()) lr = f35_g K a0 a1 (fun c0 c1 c2 c3 d0 d1 => lr (selC f35C [1, 1, 1, 1, 1, 0, 1, 0, 0]) (f35_fr10 a0 a1 c0 c1 c2 c3 d0 d1) (f35_k10 K a0 a1 lr)) := by intro lr; kernel_rfl
  have h10 : (fun c0 c1 c2 c3 d0 d1 => (realL (f35E K) 1) (selC f35C [1, 1, 1, 1, 1, 0, 1, 0, 0]) (f35_fr10 a0 a1 c0 c1 c2 c3 d0 d1) (f35_k10 K a0 a1 (realL (f35E K) 1))) = fun c0 c1 c2 c3 d0 d1 => f35_l10 K a0 a1 c0 c1 c2 c3 K d0 d1 := by
    funext c0 c1 c2 c3 d0 d1
    exact f35_t10 K a0 a1 c0 c1 c2 c3 d0 d1 K d0 d1
  exact runF_G (n0 := 1) (by rfl) ((key (realL (f35E K) 1)).trans (by rw [h10] <;> rfl))
theorem f64_run (K : Nat) (a0 : Int × Int) (a1 : Int × Int) : runF (f64E K) Try.f64 [(.ro, (.cons (.int .i64) (.int .i64))), (.ro, (.cons (.int .i64) (.int .i64)))] [.bool] (a0, a1, ()) = f64G K a0 a1 := by kernel_rfl
theorem f27_t3 (K : Nat) (a0 : List (Int × Int)) (a1 : List (Int × Int)) (bq4 : Int) : ∀ (n : Nat) (q4 : Int), loopN (exec (f27E K) 2 (selC f27C [1, 1, 0, 1, 0, 0])) 2 (f27_fr3 a0 a1 bq4) n (f27_fr3 a0 a1 q4) (f27_k3 K a0 a1 (realL (f27E K) 2)) = f27_l3 K a0 a1 n q4 := by
  have key : ∀ (lr : LR Bool) (L : Fr → Option Bool) (q4 : Int), execG (f27E K) 2 lr (selC f27C [1, 1, 0, 1, 0, 0]) (f27_fr3 a0 a1 q4) (loopK 2 (f27_fr3 a0 a1 bq4) L (f27_k3 K a0 a1 lr)) = f27_b3 K a0 a1 (fun v0 => L (f27_fr3 a0 a1 v0)) q4 := by
    intro lr L q4; kernel_rfl
  intro n q4
  refine loopN_iter (X := Int) (frame := fun x => (f27_fr3 a0 a1 x)) (body := (fun L x => (fun L3 => f27_b3 K a0 a1 L3 x) (fun v0 => L v0))) (fun L x => ?_) n q4
  rw [exec_G]
  exact (key (realL (f27E K) 2) L x).trans (by rfl)
theorem f27_run (K : Nat) (a0 : List (Int × Int)) (a1 : List (Int × Int)) : runF (f27E K) Try.f27 [(.ro, (.list 60 (.cons (.int .i64) (.int .i64)))), (.ro, (.list 60 (.cons (.int .i64) (.int .i64))))] [.bool] (a0, a1, ()) = f27G K a0 a1 := by
  have key : ∀ (lr : LR Bool), runG (f27E K) Try.f27 [(.ro, (.list 60 (.cons (.int .i64) (.int .i64)))), (.ro, (.list 60 (.cons (.int .i64) (.int .i64))))] [.bool] (a0, a1, ()) lr = f27_g K a0 a1 (fun d0 => lr (selC f27C [1, 1, 0, 1, 0, 0]) (f27_fr3 a0 a1 d0) (f27_k3 K a0 a1 lr)) := by intro lr; kernel_rfl
  have h3 : (fun d0 => (realL (f27E K) 2) (selC f27C [1, 1, 0, 1, 0, 0]) (f27_fr3 a0 a1 d0) (f27_k3 K a0 a1 (realL (f27E K) 2))) = fun d0 => f27_l3 K a0 a1 K d0 := by
    funext d0
    exact f27_t3 K a0 a1 d0 K d0
  exact runF_G (n0 := 2) (by rfl) ((key (realL (f27E K) 2)).trans (by rw [h3] <;> rfl))
theorem f70_t2 (K : Nat) (a0 : List Int) (a1 : Int) (bq3 : Int) (bq4 : Int) (bq5 : List Int) : ∀ (n : Nat) (q3 : Int) (q4 : Int) (q5 : List Int), loopN (exec (f70E K) 1 (selC f70C [1, 0, 1, 0, 0])) 1 (f70_fr2 bq3 bq4 bq5) n (f70_fr2 q3 q4 q5) (f70_k2 K a0 a1 (realL (f70E K) 1)) = f70_l2 K n q3 q4 q5 := by
  have key : ∀ (lr : LR ((List Int) × Int)) (L : Fr → Option ((List Int) × Int)) (q3 : Int) (q4 : Int) (q5 : List Int), execG (f70E K) 1 lr (selC f70C [1, 0, 1, 0, 0]) (f70_fr2 q3 q4 q5) (loopK 1 (f70_fr2 bq3 bq4 bq5) L (f70_k2 K a0 a1 lr)) = f70_b2 K (fun v0 v1 v2 => L (f70_fr2 v0 v1 v2)) q3 q4 q5 := by
    intro lr L q3 q4 q5; kernel_rfl
  intro n q3 q4 q5
  refine loopN_iter (X := Int × Int × List Int) (frame := fun x => (f70_fr2 x.1 x.2.1 x.2.2)) (body := (fun L x => (fun L2 => f70_b2 K L2 x.1 x.2.1 x.2.2) (fun v0 v1 v2 => L (v0, v1, v2)))) (fun L x => ?_) n (q3, q4, q5)
  rw [exec_G]
  exact (key (realL (f70E K) 1) L x.1 x.2.1 x.2.2).trans (by rfl)
theorem f70_run (K : Nat) (a0 : List Int) (a1 : Int) : runF (f70E K) Try.f70 [(.io, (.list 2 (.int .i64))), (.ro, (.int .i64))] [(.int .i64)] (a0, a1, ()) = f70G K a0 a1 := by
  have key : ∀ (lr : LR ((List Int) × Int)), runG (f70E K) Try.f70 [(.io, (.list 2 (.int .i64))), (.ro, (.int .i64))] [(.int .i64)] (a0, a1, ()) lr = f70_g K a0 a1 (fun d0 d1 d2 => lr (selC f70C [1, 0, 1, 0, 0]) (f70_fr2 d0 d1 d2) (f70_k2 K a0 a1 lr)) := by intro lr; kernel_rfl
  have h2 : (fun d0 d1 d2 => (realL (f70E K) 1) (selC f70C [1, 0, 1, 0, 0]) (f70_fr2 d0 d1 d2) (f70_k2 K a0 a1 (realL (f70E K) 1))) = fun d0 d1 d2 => f70_l2 K K d0 d1 d2 := by
    funext d0 d1 d2
    exact f70_t2 K a0 a1 d0 d1 d2 K d0 d1 d2
  exact runF_G (n0 := 1) (by rfl) ((key (realL (f70E K) 1)).trans (by rw [h2] <;> rfl))
theorem f31_run (K : Nat) (a0 : Int × (Int × Int × Int) × List Int) (a1 : Int) : runF (f31E K) Try.f31 [(.mv, (.cons (.int .i64) (.cons (.cons (.int .i64) (.cons (.int .i64) (.int .i64))) (.list 2 (.int .i64))))), (.ro, (.int .i64))] [(.int .i64)] (a0, a1, ()) = f31G K a0 a1 := by kernel_rfl
theorem f36_t2 (K : Nat) (a0 : List (Int × Int)) (a1 : Int) (bq3 : Int) (bq4 : Int) (bq5 : List (Int × Int)) : ∀ (n : Nat) (q3 : Int) (q4 : Int) (q5 : List (Int × Int)), loopN (exec (f36E K) 1 (selC f36C [1, 0, 1, 0, 0])) 1 (f36_fr2 bq3 bq4 bq5) n (f36_fr2 q3 q4 q5) (f36_k2 K a0 a1 (realL (f36E K) 1)) = f36_l2 K n q3 q4 q5 := by
  have key : ∀ (lr : LR ((List (Int × Int)) × Int)) (L : Fr → Option ((List (Int × Int)) × Int)) (q3 : Int) (q4 : Int) (q5 : List (Int × Int)), execG (f36E K) 1 lr (selC f36C [1, 0, 1, 0, 0]) (f36_fr2 q3 q4 q5) (loopK 1 (f36_fr2 bq3 bq4 bq5) L (f36_k2 K a0 a1 lr)) = f36_b2 K (fun v0 v1 v2 => L (f36_fr2 v0 v1 v2)) q3 q4 q5 := by
    intro lr L q3 q4 q5; kernel_rfl
  intro n q3 q4 q5
  refine loopN_iter (X := Int × Int × List (Int × Int)) (frame := fun x => (f36_fr2 x.1 x.2.1 x.2.2)) (body := (fun L x => (fun L2 => f36_b2 K L2 x.1 x.2.1 x.2.2) (fun v0 v1 v2 => L (v0, v1, v2)))) (fun L x => ?_) n (q3, q4, q5)
  rw [exec_G]
  exact (key (realL (f36E K) 1) L x.1 x.2.1 x.2.2).trans (by rfl)
theorem f36_run (K : Nat) (a0 : List (Int × Int)) (a1 : Int) : runF (f36E K) Try.f36 [(.io, (.list 60 (.cons (.int .i64) (.int .i64)))), (.ro, (.int .i64))] [(.int .i64)] (a0, a1, ()) = f36G K a0 a1 := by
  have key : ∀ (lr : LR ((List (Int × Int)) × Int)), runG (f36E K) Try.f36 [(.io, (.list 60 (.cons (.int .i64) (.int .i64)))), (.ro, (.int .i64))] [(.int .i64)] (a0, a1, ()) lr = f36_g K a0 a1 (fun d0 d1 d2 => lr (selC f36C [1, 0, 1, 0, 0]) (f36_fr2 d0 d1 d2) (f36_k2 K a0 a1 lr)) := by intro lr; kernel_rfl
  have h2 : (fun d0 d1 d2 => (realL (f36E K) 1) (selC f36C [1, 0, 1, 0, 0]) (f36_fr2 d0 d1 d2) (f36_k2 K a0 a1 (realL (f36E K) 1))) = fun d0 d1 d2 => f36_l2 K K d0 d1 d2 := by
    funext d0 d1 d2
    exact f36_t2 K a0 a1 d0 d1 d2 K d0 d1 d2
  exact runF_G (n0 := 1) (by rfl) ((key (realL (f36E K) 1)).trans (by rw [h2] <;> rfl))
theorem f37_t2 (K : Nat) (a0 : List (Int × Int)) (a1 : Int) (bq3 : Int) (bq4 : Int) : ∀ (n : Nat) (q3 : Int) (q4 : Int), loopN (exec (f37E K) 1 (selC f37C [1, 0, 1, 0, 0])) 1 (f37_fr2 a0 bq3 bq4) n (f37_fr2 a0 q3 q4) (f37_k2 K a0 a1 (realL (f37E K) 1)) = f37_l2 K a0 n q3 q4 := by
  have key : ∀ (lr : LR Int) (L : Fr → Option Int) (q3 : Int) (q4 : Int), execG (f37E K) 1 lr (selC f37C [1, 0, 1, 0, 0]) (f37_fr2 a0 q3 q4) (loopK 1 (f37_fr2 a0 bq3 bq4) L (f37_k2 K a0 a1 lr)) = f37_b2 K a0 (fun v0 v1 => L (f37_fr2 a0 v0 v1)) q3 q4 := by
    intro lr L q3 q4; kernel_rfl
  intro n q3 q4
  refine loopN_iter (X := Int × Int) (frame := fun x => (f37_fr2 a0 x.1 x.2)) (body := (fun L x => (fun L2 => f37_b2 K a0 L2 x.1 x.2) (fun v0 v1 => L (v0, v1)))) (fun L x => ?_) n (q3, q4)
  rw [exec_G]
  exact (key (realL (f37E K) 1) L x.1 x.2).trans (by rfl)
theorem f37_run (K : Nat) (a0 : List (Int × Int)) (a1 : Int) : runF (f37E K) Try.f37 [(.ro, (.list 60 (.cons (.int .i64) (.int .i64)))), (.ro, (.int .i64))] [(.int .i64)] (a0, a1, ()) = f37G K a0 a1 := by
  have key : ∀ (lr : LR Int), runG (f37E K) Try.f37 [(.ro, (.list 60 (.cons (.int .i64) (.int .i64)))), (.ro, (.int .i64))] [(.int .i64)] (a0, a1, ()) lr = f37_g K a0 a1 (fun d0 d1 => lr (selC f37C [1, 0, 1, 0, 0]) (f37_fr2 a0 d0 d1) (f37_k2 K a0 a1 lr)) := by intro lr; kernel_rfl
  have h2 : (fun d0 d1 => (realL (f37E K) 1) (selC f37C [1, 0, 1, 0, 0]) (f37_fr2 a0 d0 d1) (f37_k2 K a0 a1 (realL (f37E K) 1))) = fun d0 d1 => f37_l2 K a0 K d0 d1 := by
    funext d0 d1
    exact f37_t2 K a0 a1 d0 d1 K d0 d1
  exact runF_G (n0 := 1) (by rfl) ((key (realL (f37E K) 1)).trans (by rw [h2] <;> rfl))
theorem f7_run (K : Nat) (a0 : Int × (Int × Int × Int) × List Int) (a1 : Int) : runF (f7E K) Try.f7 [(.ro, (.cons (.int .i64) (.cons (.cons (.int .i64) (.cons (.int .i64) (.int .i64))) (.list 2 (.int .i64))))), (.ro, (.int .i64))] [.bool] (a0, a1, ()) = f7G K a0 a1 := by kernel_rfl
theorem f29_run (K : Nat) (a0 : Int × Int) : runF (f29E K) Try.f29 [(.ro, (.cons (.int .i64) (.int .i64)))] [(.cons (.int .i64) (.int .i64))] (a0, ()) = f29G K a0 := by kernel_rfl
theorem f65_run (K : Nat) (a0 : Int × Int × Int) (a1 : Int × Int) : runF (f65E K) Try.f65 [(.ro, (.cons (.int .i64) (.cons (.int .i64) (.int .i64)))), (.ro, (.cons (.int .i64) (.int .i64)))] [.bool] (a0, a1, ()) = f65G K a0 a1 := by kernel_rfl
theorem f28_t7 (K : Nat) (a0 : Int × (Int × Int × Int) × List Int) (a1 : Int × Int) (y1 : Bool) (y2 : Int × (Int × Int × Int) × List Int) (y3 : Bool) (y4 : List ((Int × Int × Int × Int) × Int × Int)) (bq8 : Int) (bq9 : List ((Int × Int × Int × Int) × Int × Int)) : ∀ (n : Nat) (q8 : Int) (q9 : List ((Int × Int × Int × Int) × Int × Int)), loopN (exec (f28E K) 1 (selC f28C [1, 1, 1, 1, 1, 1, 0, 1, 0, 0])) 1 (f28_fr7 a0 a1 y1 y2 y3 y4 bq8 bq9) n (f28_fr7 a0 a1 y1 y2 y3 y4 q8 q9) (f28_k7 K a0 a1 (realL (f28E K) 1)) = f28_l7 K a0 a1 y1 y2 y3 y4 n q8 q9 := by
  have key : ∀ (lr : LR ((List ((Int × Int × Int × Int) × Int × Int)) × Int)) (L : Fr → Option ((List ((Int × Int × Int × Int) × Int × Int)) × Int)) (q8 : Int) (q9 : List ((Int × Int × Int × Int) × Int × Int)), execG (f28E K) 1 lr (selC f28C [1, 1, 1, 1, 1, 1, 0, 1, 0, 0]) (f28_fr7 a0 a1 y1 y2 y3 y4 q8 q9) (loopK 1 (f28_fr7 a0 a1 y1 y2 y3 y4 bq8 bq9) L (f28_k7 K a0 a1 lr)) = f28_b7 K a0 a1 y1 y2 y3 y4 (fun v0 v1 => L (f28_fr7 a0 a1 y1 y2 y3 y4 v0 v1)) q8 q9 := by
    intro lr L q8 q9; kernel_rfl
  intro n q8 q9
  refine loopN_iter (X := Int × List ((Int × Int × Int × Int) × Int × Int)) (frame := fun x => (f28_fr7 a0 a1 y1 y2 y3 y4 x.1 x.2)) (body := (fun L x => (fun L7 => f28_b7 K a0 a1 y1 y2 y3 y4 L7 x.1 x.2) (fun v0 v1 => L (v0, v1)))) (fun L x => ?_) n (q8, q9)
  rw [exec_G]
  exact (key (realL (f28E K) 1) L x.1 x.2).trans (by rfl)
theorem f28_run (K : Nat) (a0 : Int × (Int × Int × Int) × List Int) (a1 : Int × Int) : runF (f28E K) Try.f28 [(.ro, (.cons (.int .i64) (.cons (.cons (.int .i64) (.cons (.int .i64) (.int .i64))) (.list 2 (.int .i64))))), (.ro, (.cons (.int .i64) (.int .i64)))] [(.list 88 (.cons (.cons (.int .i64) (.cons (.int .i64) (.cons (.int .i64) (.int .i64)))) (.cons (.int .i64) (.int .i64)))), (.int .i64)] (a0, a1, ()) = f28G K a0 a1 := by
  have key : ∀ (lr : LR ((List ((Int × Int × Int × Int) × Int × Int)) × Int)), runG (f28E K) Try.f28 [(.ro, (.cons (.int .i64) (.cons (.cons (.int .i64) (.cons (.int .i64) (.int .i64))) (.list 2 (.int .i64))))), (.ro, (.cons (.int .i64) (.int .i64)))] [(.list 88 (.cons (.cons (.int .i64) (.cons (.int .i64) (.cons (.int .i64) (.int .i64)))) (.cons (.int .i64) (.int .i64)))), (.int .i64)] (a0, a1, ()) lr = f28_g K a0 a1 (fun c0 c1 c2 c3 d0 d1 => lr (selC f28C [1, 1, 1, 1, 1, 1, 0, 1, 0, 0]) (f28_fr7 a0 a1 c0 c1 c2 c3 d0 d1) (f28_k7 K a0 a1 lr)) := by intro lr; kernel_rfl
  have h7 : (fun c0 c1 c2 c3 d0 d1 => (realL (f28E K) 1) (selC f28C [1, 1, 1, 1, 1, 1, 0, 1, 0, 0]) (f28_fr7 a0 a1 c0 c1 c2 c3 d0 d1) (f28_k7 K a0 a1 (realL (f28E K) 1))) = fun c0 c1 c2 c3 d0 d1 => f28_l7 K a0 a1 c0 c1 c2 c3 K d0 d1 := by
    funext c0 c1 c2 c3 d0 d1
    exact f28_t7 K a0 a1 c0 c1 c2 c3 d0 d1 K d0 d1
  exact runF_G (n0 := 1) (by rfl) ((key (realL (f28E K) 1)).trans (by rw [h7] <;> rfl))
theorem f67_run (K : Nat) (a0 : Int × Int × Int) (a1 : Int × Int) : runF (f67E K) Try.f67 [(.ro, (.cons (.int .i64) (.cons (.int .i64) (.int .i64)))), (.ro, (.cons (.int .i64) (.int .i64)))] [.bool] (a0, a1, ()) = f67G K a0 a1 := by kernel_rfl
theorem f30_run (K : Nat) (a0 : Int × (Int × Int × Int) × List Int) (a1 : Int × Int) : runF (f30E K) Try.f30 [(.ro, (.cons (.int .i64) (.cons (.cons (.int .i64) (.cons (.int .i64) (.int .i64))) (.list 2 (.int .i64))))), (.ro, (.cons (.int .i64) (.int .i64)))] [(.list 88 (.cons (.cons (.int .i64) (.cons (.int .i64) (.cons (.int .i64) (.int .i64)))) (.cons (.int .i64) (.int .i64)))), (.int .i64)] (a0, a1, ()) = f30G K a0 a1 := by kernel_rfl
theorem f110_run (K : Nat) (a0 : Int × Int × Int × Int) (a1 : Int × Int × Int × Int) : runF (f110E K) Try.f110 [(.ro, (.cons (.int .i64) (.cons (.int .i64) (.cons (.int .i64) (.int .i64))))), (.ro, (.cons (.int .i64) (.cons (.int .i64) (.cons (.int .i64) (.int .i64)))))] [.bool] (a0, a1, ()) = f110G K a0 a1 := by kernel_rfl
theorem f63_run (K : Nat) (a0 : (Int × Int × Int × Int) × Int × Int) (a1 : (Int × Int × Int × Int) × Int × Int) : runF (f63E K) Try.f63 [(.ro, (.cons (.cons (.int .i64) (.cons (.int .i64) (.cons (.int .i64) (.int .i64)))) (.cons (.int .i64) (.int .i64)))), (.ro, (.cons (.cons (.int .i64) (.cons (.int .i64) (.cons (.int .i64) (.int .i64)))) (.cons (.int .i64) (.int .i64))))] [.bool] (a0, a1, ()) = f63G K a0 a1 := by kernel_rfl
theorem f26_t3 (K : Nat) (a0 : List ((Int × Int × Int × Int) × Int × Int)) (a1 : List ((Int × Int × Int × Int) × Int × Int)) (bq4 : Int) : ∀ (n : Nat) (q4 : Int), loopN (exec (f26E K) 2 (selC f26C [1, 1, 0, 1, 0, 0])) 2 (f26_fr3 a0 a1 bq4) n (f26_fr3 a0 a1 q4) (f26_k3 K a0 a1 (realL (f26E K) 2)) = f26_l3 K a0 a1 n q4 := by
  have key : ∀ (lr : LR Bool) (L : Fr → Option Bool) (q4 : Int), execG (f26E K) 2 lr (selC f26C [1, 1, 0, 1, 0, 0]) (f26_fr3 a0 a1 q4) (loopK 2 (f26_fr3 a0 a1 bq4) L (f26_k3 K a0 a1 lr)) = f26_b3 K a0 a1 (fun v0 => L (f26_fr3 a0 a1 v0)) q4 := by
    intro lr L q4; kernel_rfl
  intro n q4
  refine loopN_iter (X := Int) (frame := fun x => (f26_fr3 a0 a1 x)) (body := (fun L x => (fun L3 => f26_b3 K a0 a1 L3 x) (fun v0 => L v0))) (fun L x => ?_) n q4
  rw [exec_G]
  exact (key (realL (f26E K) 2) L x).trans (by rfl)
theorem f26_run (K : Nat) (a0 : List ((Int × Int × Int × Int) × Int × Int)) (a1 : List ((Int × Int × Int × Int) × Int × Int)) : runF (f26E K) Try.f26 [(.ro, (.list 88 (.cons (.cons (.int .i64) (.cons (.int .i64) (.cons (.int .i64) (.int .i64)))) (.cons (.int .i64) (.int .i64))))), (.ro, (.list 88 (.cons (.cons (.int .i64) (.cons (.int .i64) (.cons (.int .i64) (.int .i64)))) (.cons (.int .i64) (.int .i64)))))] [.bool] (a0, a1, ()) = f26G K a0 a1 := by
  have key : ∀ (lr : LR Bool), runG (f26E K) Try.f26 [(.ro, (.list 88 (.cons (.cons (.int .i64) (.cons (.int .i64) (.cons (.int .i64) (.int .i64)))) (.cons (.int .i64) (.int .i64))))), (.ro, (.list 88 (.cons (.cons (.int .i64) (.cons (.int .i64) (.cons (.int .i64) (.int .i64)))) (.cons (.int .i64) (.int .i64)))))] [.bool] (a0, a1, ()) lr = f26_g K a0 a1 (fun d0 => lr (selC f26C [1, 1, 0, 1, 0, 0]) (f26_fr3 a0 a1 d0) (f26_k3 K a0 a1 lr)) := by intro lr; kernel_rfl
  have h3 : (fun d0 => (realL (f26E K) 2) (selC f26C [1, 1, 0, 1, 0, 0]) (f26_fr3 a0 a1 d0) (f26_k3 K a0 a1 (realL (f26E K) 2))) = fun d0 => f26_l3 K a0 a1 K d0 := by
    funext d0
    exact f26_t3 K a0 a1 d0 K d0
  exact runF_G (n0 := 2) (by rfl) ((key (realL (f26E K) 2)).trans (by rw [h3] <;> rfl))
theorem f32_t2 (K : Nat) (a0 : List ((Int × Int × Int × Int) × Int × Int)) (a1 : Int) (bq3 : Int) (bq4 : Int) (bq5 : List ((Int × Int × Int × Int) × Int × Int)) : ∀ (n : Nat) (q3 : Int) (q4 : Int) (q5 : List ((Int × Int × Int × Int) × Int × Int)), loopN (exec (f32E K) 1 (selC f32C [1, 0, 1, 0, 0])) 1 (f32_fr2 bq3 bq4 bq5) n (f32_fr2 q3 q4 q5) (f32_k2 K a0 a1 (realL (f32E K) 1)) = f32_l2 K n q3 q4 q5 := by
  have key : ∀ (lr : LR ((List ((Int × Int × Int × Int) × Int × Int)) × Int)) (L : Fr → Option ((List ((Int × Int × Int × Int) × Int × Int)) × Int)) (q3 : Int) (q4 : Int) (q5 : List ((Int × Int × Int × Int) × Int × Int)), execG (f32E K) 1 lr (selC f32C [1, 0, 1, 0, 0]) (f32_fr2 q3 q4 q5) (loopK 1 (f32_fr2 bq3 bq4 bq5) L (f32_k2 K a0 a1 lr)) = f32_b2 K (fun v0 v1 v2 => L (f32_fr2 v0 v1 v2)) q3 q4 q5 := by
    intro lr L q3 q4 q5; kernel_rfl
  intro n q3 q4 q5
  refine loopN_iter (X := Int × Int × List ((Int × Int × Int × Int) × Int × Int)) (frame := fun x => (f32_fr2 x.1 x.2.1 x.2.2)) (body := (fun L x => (fun L2 => f32_b2 K L2 x.1 x.2.1 x.2.2) (fun v0 v1 v2 => L (v0, v1, v2)))) (fun L x => ?_) n (q3, q4, q5)
  rw [exec_G]
  exact (key (realL (f32E K) 1) L x.1 x.2.1 x.2.2).trans (by rfl)
theorem f32_run (K : Nat) (a0 : List ((Int × Int × Int × Int) × Int × Int)) (a1 : Int) : runF (f32E K) Try.f32 [(.io, (.list 88 (.cons (.cons (.int .i64) (.cons (.int .i64) (.cons (.int .i64) (.int .i64)))) (.cons (.int .i64) (.int .i64))))), (.ro, (.int .i64))] [(.int .i64)] (a0, a1, ()) = f32G K a0 a1 := by
  have key : ∀ (lr : LR ((List ((Int × Int × Int × Int) × Int × Int)) × Int)), runG (f32E K) Try.f32 [(.io, (.list 88 (.cons (.cons (.int .i64) (.cons (.int .i64) (.cons (.int .i64) (.int .i64)))) (.cons (.int .i64) (.int .i64))))), (.ro, (.int .i64))] [(.int .i64)] (a0, a1, ()) lr = f32_g K a0 a1 (fun d0 d1 d2 => lr (selC f32C [1, 0, 1, 0, 0]) (f32_fr2 d0 d1 d2) (f32_k2 K a0 a1 lr)) := by intro lr; kernel_rfl
  have h2 : (fun d0 d1 d2 => (realL (f32E K) 1) (selC f32C [1, 0, 1, 0, 0]) (f32_fr2 d0 d1 d2) (f32_k2 K a0 a1 (realL (f32E K) 1))) = fun d0 d1 d2 => f32_l2 K K d0 d1 d2 := by
    funext d0 d1 d2
    exact f32_t2 K a0 a1 d0 d1 d2 K d0 d1 d2
  exact runF_G (n0 := 1) (by rfl) ((key (realL (f32E K) 1)).trans (by rw [h2] <;> rfl))
theorem f33_t2 (K : Nat) (a0 : List ((Int × Int × Int × Int) × Int × Int)) (a1 : Int) (bq3 : Int) (bq4 : Int) : ∀ (n : Nat) (q3 : Int) (q4 : Int), loopN (exec (f33E K) 1 (selC f33C [1, 0, 1, 0, 0])) 1 (f33_fr2 a0 bq3 bq4) n (f33_fr2 a0 q3 q4) (f33_k2 K a0 a1 (realL (f33E K) 1)) = f33_l2 K a0 n q3 q4 := by
  have key : ∀ (lr : LR Int) (L : Fr → Option Int) (q3 : Int) (q4 : Int), execG (f33E K) 1 lr (selC f33C [1, 0, 1, 0, 0]) (f33_fr2 a0 q3 q4) (loopK 1 (f33_fr2 a0 bq3 bq4) L (f33_k2 K a0 a1 lr)) = f33_b2 K a0 (fun v0 v1 => L (f33_fr2 a0 v0 v1)) q3 q4 := by
    intro lr L q3 q4; kernel_rfl
  intro n q3 q4
  refine loopN_iter (X := Int × Int) (frame := fun x => (f33_fr2 a0 x.1 x.2)) (body := (fun L x => (fun L2 => f33_b2 K a0 L2 x.1 x.2) (fun v0 v1 => L (v0, v1)))) (fun L x => ?_) n (q3, q4)
  rw [exec_G]
  exact (key (realL (f33E K) 1) L x.1 x.2).trans (by rfl)
theorem f33_run (K : Nat) (a0 : List ((Int × Int × Int × Int) × Int × Int)) (a1 : Int) : runF (f33E K) Try.f33 [(.ro, (.list 88 (.cons (.cons (.int .i64) (.cons (.int .i64) (.cons (.int .i64) (.int .i64)))) (.cons (.int .i64) (.int .i64))))), (.ro, (.int .i64))] [(.int .i64)] (a0, a1, ()) = f33G K a0 a1 := by
  have key : ∀ (lr : LR Int), runG (f33E K) Try.f33 [(.ro, (.list 88 (.cons (.cons (.int .i64) (.cons (.int .i64) (.cons (.int .i64) (.int .i64)))) (.cons (.int .i64) (.int .i64))))), (.ro, (.int .i64))] [(.int .i64)] (a0, a1, ()) lr = f33_g K a0 a1 (fun d0 d1 => lr (selC f33C [1, 0, 1, 0, 0]) (f33_fr2 a0 d0 d1) (f33_k2 K a0 a1 lr)) := by intro lr; kernel_rfl
  have h2 : (fun d0 d1 => (realL (f33E K) 1) (selC f33C [1, 0, 1, 0, 0]) (f33_fr2 a0 d0 d1) (f33_k2 K a0 a1 (realL (f33E K) 1))) = fun d0 d1 => f33_l2 K a0 K d0 d1 := by
    funext d0 d1
    exact f33_t2 K a0 a1 d0 d1 K d0 d1
  exact runF_G (n0 := 1) (by rfl) ((key (realL (f33E K) 1)).trans (by rw [h2] <;> rfl))
theorem f6_run (K : Nat) (a0 : Int × (Int × Int × Int) × List Int) (a1 : Int × Int) : runF (f6E K) Try.f6 [(.ro, (.cons (.int .i64) (.cons (.cons (.int .i64) (.cons (.int .i64) (.int .i64))) (.list 2 (.int .i64))))), (.ro, (.cons (.int .i64) (.int .i64)))] [.bool] (a0, a1, ()) = f6G K a0 a1 := by kernel_rfl
end Go.Proofs.Ytbgdojniimdihaa.X
