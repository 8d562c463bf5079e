/- Functions of the program as plain Lean functions, and that the program does what they say. Printed by gen.py. -/
import Derived.Test.YthlldmfkdcmcfaaGreatD0
namespace Go.Proofs.YthlldmfkdcmcfaaGreat.X
open Go
set_option maxRecDepth 100000
set_option linter.unusedVariables false
theorem f176_t3 (K : Nat) (a0 : List (List (Int × Int))) (a1 : ((List (Int × Int)) → Option Bool)) (bq4 : Int) : ∀ (n : Nat) (q4 : Int), loopN (exec (f176E K) 1 (selC f176C [1, 0, 1, 0, 0])) 1 (f176_fr3 a0 a1 bq4) n (f176_fr3 a0 a1 q4) (f176_k3 K a0 a1 (realL (f176E K) 1)) = f176_l3 K a0 a1 n q4 := by
  have key : ∀ (lr : LR Int) (L : Fr → Option Int) (q4 : Int), execG (f176E K) 1 lr (selC f176C [1, 0, 1, 0, 0]) (f176_fr3 a0 a1 q4) (loopK 1 (f176_fr3 a0 a1 bq4) L (f176_k3 K a0 a1 lr)) = f176_b3 K a0 a1 (fun v0 => L (f176_fr3 a0 a1 v0)) q4 := by
    intro lr L q4; kernel_rfl
  intro n q4
  refine loopN_iter (X := Int) (frame := fun x => (f176_fr3 a0 a1 x)) (body := (fun L x => (fun L3 => f176_b3 K a0 a1 L3 x) (fun v0 => L v0))) (fun L x => ?_) n q4
  rw [exec_G]
  exact (key (realL (f176E K) 1) L x).trans (by rfl)
theorem f176_run (K : Nat) (a0 : List (List (Int × Int))) (a1 : ((List (Int × Int)) → Option Bool)) : runF (f176E K) Tryz.f176 [(.ro, (.list 41 (.list 32 (.cons (.int .i64) (.int .i64))))), (.ro, (.fn1 (.list 32 (.cons (.int .i64) (.int .i64))) .bool))] [(.int .i64)] (a0, a1, ()) = f176G K a0 a1 := by
  have key : ∀ (lr : LR Int), runG (f176E K) Tryz.f176 [(.ro, (.list 41 (.list 32 (.cons (.int .i64) (.int .i64))))), (.ro, (.fn1 (.list 32 (.cons (.int .i64) (.int .i64))) .bool))] [(.int .i64)] (a0, a1, ()) lr = f176_g K a0 a1 (fun d0 => lr (selC f176C [1, 0, 1, 0, 0]) (f176_fr3 a0 a1 d0) (f176_k3 K a0 a1 lr)) := by intro lr; kernel_rfl
  have h3 : (fun d0 => (realL (f176E K) 1) (selC f176C [1, 0, 1, 0, 0]) (f176_fr3 a0 a1 d0) (f176_k3 K a0 a1 (realL (f176E K) 1))) = fun d0 => f176_l3 K a0 a1 K d0 := by
    funext d0
    exact f176_t3 K a0 a1 d0 K d0
  exact runF_G (n0 := 1) (by rfl) ((key (realL (f176E K) 1)).trans (by rw [h3] <;> rfl))
theorem f129_run (K : Nat) (a0 : List (List (Int × Int))) (a1 : ((List (Int × Int)) → Option Bool)) : runF (f129E K) Tryz.f129 [(.ro, (.list 41 (.list 32 (.cons (.int .i64) (.int .i64))))), (.ro, (.fn1 (.list 32 (.cons (.int .i64) (.int .i64))) .bool))] [.bool] (a0, a1, ()) = f129G K a0 a1 := by kernel_rfl
theorem f89_run (K : Nat) (a0 : Int) (a1 : Int × Int × Int) (a2 : List ((Int × Int × Int × Int) × Int × Int)) : runF (f89E K) Tryz.f89 [(.ro, (.int .i64)), (.ro, (.cons (.int .i64) (.cons (.int .i64) (.int .i64)))), (.ro, (.list 34 (.cons (.cons (.int .i64) (.cons (.int .i64) (.cons (.int .i64) (.int .i64)))) (.cons (.int .i64) (.int .i64)))))] [(.list 41 (.list 32 (.cons (.int .i64) (.int .i64)))), (.int .i64)] (a0, a1, a2, ()) = f89G K a0 a1 a2 := by kernel_rfl
theorem f52_t3 (K : Nat) (a0 : Int) (a1 : Int × Int × Int) (a2 : List ((Int × Int × Int × Int) × Int × Int)) (y1 : (List (List (Int × Int))) × Int) (bq4 : Int) (bq5 : List (Int × Int)) : ∀ (n : Nat) (q4 : Int) (q5 : List (Int × Int)), loopN (exec (f52E K) 1 (selC f52C [1, 1, 1, 1, 0, 1, 0, 0])) 1 (f52_fr3 a0 a1 a2 y1 bq4 bq5) n (f52_fr3 a0 a1 a2 y1 q4 q5) (f52_k3 K a0 a1 a2 (realL (f52E K) 1)) = f52_l3 K a0 a1 a2 y1 n q4 q5 := by
  have key : ∀ (lr : LR ((List (Int × Int)) × Int)) (L : Fr → Option ((List (Int × Int)) × Int)) (q4 : Int) (q5 : List (Int × Int)), execG (f52E K) 1 lr (selC f52C [1, 1, 1, 1, 0, 1, 0, 0]) (f52_fr3 a0 a1 a2 y1 q4 q5) (loopK 1 (f52_fr3 a0 a1 a2 y1 bq4 bq5) L (f52_k3 K a0 a1 a2 lr)) = f52_b3 K a0 a1 a2 y1 (fun v0 v1 => L (f52_fr3 a0 a1 a2 y1 v0 v1)) q4 q5 := by
    intro lr L q4 q5; kernel_rfl
  intro n q4 q5
  refine loopN_iter (X := Int × List (Int × Int)) (frame := fun x => (f52_fr3 a0 a1 a2 y1 x.1 x.2)) (body := (fun L x => (fun L3 => f52_b3 K a0 a1 a2 y1 L3 x.1 x.2) (fun v0 v1 => L (v0, v1)))) (fun L x => ?_) n (q4, q5)
  rw [exec_G]
  exact (key (realL (f52E K) 1) L x.1 x.2).trans (by rfl)
theorem f52_run (K : Nat) (a0 : Int) (a1 : Int × Int × Int) (a2 : List ((Int × Int × Int × Int) × Int × Int)) : runF (f52E K) Tryz.f52 [(.ro, (.int .i64)), (.ro, (.cons (.int .i64) (.cons (.int .i64) (.int .i64)))), (.ro, (.list 34 (.cons (.cons (.int .i64) (.cons (.int .i64) (.cons (.int .i64) (.int .i64)))) (.cons (.int .i64) (.int .i64)))))] [(.list 32 (.cons (.int .i64) (.int .i64))), (.int .i64)] (a0, a1, a2, ()) = f52G K a0 a1 a2 := by
  have key : ∀ (lr : LR ((List (Int × Int)) × Int)), runG (f52E K) Tryz.f52 [(.ro, (.int .i64)), (.ro, (.cons (.int .i64) (.cons (.int .i64) (.int .i64)))), (.ro, (.list 34 (.cons (.cons (.int .i64) (.cons (.int .i64) (.cons (.int .i64) (.int .i64)))) (.cons (.int .i64) (.int .i64)))))] [(.list 32 (.cons (.int .i64) (.int .i64))), (.int .i64)] (a0, a1, a2, ()) lr = f52_g K a0 a1 a2 (fun c0 d0 d1 => lr (selC f52C [1, 1, 1, 1, 0, 1, 0, 0]) (f52_fr3 a0 a1 a2 c0 d0 d1) (f52_k3 K a0 a1 a2 lr)) := by intro lr; kernel_rfl
  have h3 : (fun c0 d0 d1 => (realL (f52E K) 1) (selC f52C [1, 1, 1, 1, 0, 1, 0, 0]) (f52_fr3 a0 a1 a2 c0 d0 d1) (f52_k3 K a0 a1 a2 (realL (f52E K) 1))) = fun c0 d0 d1 => f52_l3 K a0 a1 a2 c0 K d0 d1 := by
    funext c0 d0 d1
    exact f52_t3 K a0 a1 a2 c0 d0 d1 K d0 d1
  exact runF_G (n0 := 1) (by rfl) ((key (realL (f52E K) 1)).trans (by rw [h3] <;> rfl))
theorem f11_run (K : Nat) (a0 : Int) (a1 : Int × Int × Int) (a2 : List ((Int × Int × Int × Int) × Int × Int)) : runF (f11E K) Tryz.f11 [(.ro, (.int .i64)), (.ro, (.cons (.int .i64) (.cons (.int .i64) (.int .i64)))), (.ro, (.list 96 (.cons (.cons (.int .i64) (.cons (.int .i64) (.cons (.int .i64) (.int .i64)))) (.cons (.int .i64) (.int .i64)))))] [.bool] (a0, a1, a2, ()) = f11G K a0 a1 a2 := by kernel_rfl
theorem f14_run (K : Nat) (a0 : List (Int × Int)) (a1 : Int) : runF (f14E K) Tryz.f14 [(.ro, (.list 27 (.cons (.int .i64) (.int .i64)))), (.ro, (.int .i64))] [(.int .i64)] (a0, a1, ()) = f14G K a0 a1 := by kernel_rfl
theorem f18_t3 (K : Nat) (a0 : List (Int × Int)) (bq4 : Int) (bq5 : List (Int × Int)) : ∀ (n : Nat) (q4 : Int) (q5 : List (Int × Int)), loopN (exec (f18E K) 1 (selC f18C [1, 1, 0, 1, 0, 0])) 1 (f18_fr3 a0 bq4 bq5) n (f18_fr3 a0 q4 q5) (f18_k3 K a0 (realL (f18E K) 1)) = f18_l3 K a0 n q4 q5 := by
  have key : ∀ (lr : LR (List (Int × Int))) (L : Fr → Option (List (Int × Int))) (q4 : Int) (q5 : List (Int × Int)), execG (f18E K) 1 lr (selC f18C [1, 1, 0, 1, 0, 0]) (f18_fr3 a0 q4 q5) (loopK 1 (f18_fr3 a0 bq4 bq5) L (f18_k3 K a0 lr)) = f18_b3 K a0 (fun v0 v1 => L (f18_fr3 a0 v0 v1)) q4 q5 := by
    intro lr L q4 q5; kernel_rfl
  intro n q4 q5
  refine loopN_iter (X := Int × List (Int × Int)) (frame := fun x => (f18_fr3 a0 x.1 x.2)) (body := (fun L x => (fun L3 => f18_b3 K a0 L3 x.1 x.2) (fun v0 v1 => L (v0, v1)))) (fun L x => ?_) n (q4, q5)
  rw [exec_G]
  exact (key (realL (f18E K) 1) L x.1 x.2).trans (by rfl)
theorem f18_run (K : Nat) (a0 : List (Int × Int)) : runF (f18E K) Tryz.f18 [(.ro, (.list 27 (.cons (.int .i64) (.int .i64))))] [(.list 32 (.cons (.int .i64) (.int .i64)))] (a0, ()) = f18G K a0 := by
  have key : ∀ (lr : LR (List (Int × Int))), runG (f18E K) Tryz.f18 [(.ro, (.list 27 (.cons (.int .i64) (.int .i64))))] [(.list 32 (.cons (.int .i64) (.int .i64)))] (a0, ()) lr = f18_g K a0 (fun d0 d1 => lr (selC f18C [1, 1, 0, 1, 0, 0]) (f18_fr3 a0 d0 d1) (f18_k3 K a0 lr)) := by intro lr; kernel_rfl
  have h3 : (fun d0 d1 => (realL (f18E K) 1) (selC f18C [1, 1, 0, 1, 0, 0]) (f18_fr3 a0 d0 d1) (f18_k3 K a0 (realL (f18E K) 1))) = fun d0 d1 => f18_l3 K a0 K d0 d1 := by
    funext d0 d1
    exact f18_t3 K a0 d0 d1 K d0 d1
  exact runF_G (n0 := 1) (by rfl) ((key (realL (f18E K) 1)).trans (by rw [h3] <;> rfl))
theorem f107_t4 (K : Nat) (a0 : List (Int × Int)) (bq5 : Int) : ∀ (n : Nat) (q5 : Int), loopN (exec (f107E K) 1 (selC f107C [1, 0, 1, 0, 0])) 1 (f107_fr4 a0 bq5) n (f107_fr4 a0 q5) (f107_k4 K a0 (realL (f107E K) 1)) = f107_l4 K a0 n q5 := by
  have key : ∀ (lr : LR Bool) (L : Fr → Option Bool) (q5 : Int), execG (f107E K) 1 lr (selC f107C [1, 0, 1, 0, 0]) (f107_fr4 a0 q5) (loopK 1 (f107_fr4 a0 bq5) L (f107_k4 K a0 lr)) = f107_b4 K a0 (fun v0 => L (f107_fr4 a0 v0)) q5 := by
    intro lr L q5; kernel_rfl
  intro n q5
  refine loopN_iter (X := Int) (frame := fun x => (f107_fr4 a0 x)) (body := (fun L x => (fun L4 => f107_b4 K a0 L4 x) (fun v0 => L v0))) (fun L x => ?_) n q5
  rw [exec_G]
  exact (key (realL (f107E K) 1) L x).trans (by rfl)
theorem f107_run (K : Nat) (a0 : List (Int × Int)) : runF (f107E K) Tryz.f107 [(.ro, (.list 32 (.cons (.int .i64) (.int .i64))))] [.bool] (a0, ()) = f107G K a0 := by
  have key : ∀ (lr : LR Bool), runG (f107E K) Tryz.f107 [(.ro, (.list 32 (.cons (.int .i64) (.int .i64))))] [.bool] (a0, ()) lr = f107_g K a0 (fun d0 => lr (selC f107C [1, 0, 1, 0, 0]) (f107_fr4 a0 d0) (f107_k4 K a0 lr)) := by intro lr; kernel_rfl
  have h4 : (fun d0 => (realL (f107E K) 1) (selC f107C [1, 0, 1, 0, 0]) (f107_fr4 a0 d0) (f107_k4 K a0 (realL (f107E K) 1))) = fun d0 => f107_l4 K a0 K d0 := by
    funext d0
    exact f107_t4 K a0 d0 K d0
  exact runF_G (n0 := 1) (by rfl) ((key (realL (f107E K) 1)).trans (by rw [h4] <;> rfl))
theorem f65_run (K : Nat) (a0 : Int) (a1 : Int × Int × Int) (a2 : List ((Int × Int × Int × Int) × Int × Int)) (a3 : List (Int × Int)) : runF (f65E K) Tryz.f65 [(.ro, (.int .i64)), (.ro, (.cons (.int .i64) (.cons (.int .i64) (.int .i64)))), (.ro, (.list 34 (.cons (.cons (.int .i64) (.cons (.int .i64) (.cons (.int .i64) (.int .i64)))) (.cons (.int .i64) (.int .i64))))), (.ro, (.list 32 (.cons (.int .i64) (.int .i64))))] [(.int .i64)] (a0, a1, a2, a3, ()) = f65G K a0 a1 a2 a3 := by kernel_rfl
theorem f77_t11 (K : Nat) (a0 : Int × Int × Int) (a1 : List ((Int × Int × Int × Int) × Int × Int)) (a2 : List (Int × Int)) (q9 : Int) (q10 : List (List (Int × Int))) (F8 : Fr → Option (List (List (Int × Int)))) (bq9 : Int) (bq10 : List (List (Int × Int))) (bq12 : Int) (bq13 : List (Int × Int)) : ∀ (n : Nat) (q12 : Int) (q13 : List (Int × Int)), loopN (exec (f77E K) 2 (selC f77C [1, 1, 0, 1, 0, 0, 1, 0, 0, 1, 0, 1, 0, 0])) 2 (f77_fr11 a0 a1 a2 q9 q10 bq12 bq13) n (f77_fr11 a0 a1 a2 q9 q10 q12 q13) (f77_k11 K a0 a1 a2 F8 bq9 bq10 (realL (f77E K) 2)) = f77_l11 K a0 a1 a2 q9 q10 (fun v0 v1 => F8 (f77_fr8 a0 a1 a2 v0 v1)) n q12 q13 := by
  have key : ∀ (lr : LR (List (List (Int × Int)))) (L : Fr → Option (List (List (Int × Int)))) (q12 : Int) (q13 : List (Int × Int)), execG (f77E K) 2 lr (selC f77C [1, 1, 0, 1, 0, 0, 1, 0, 0, 1, 0, 1, 0, 0]) (f77_fr11 a0 a1 a2 q9 q10 q12 q13) (loopK 2 (f77_fr11 a0 a1 a2 q9 q10 bq12 bq13) L (f77_k11 K a0 a1 a2 F8 bq9 bq10 lr)) = f77_b11 K a0 a1 a2 q9 q10 (fun v0 v1 => F8 (f77_fr8 a0 a1 a2 v0 v1)) (fun v0 v1 => L (f77_fr11 a0 a1 a2 q9 q10 v0 v1)) q12 q13 := by
    intro lr L q12 q13; kernel_rfl
  intro n q12 q13
  refine loopN_iter (X := Int × List (Int × Int)) (frame := fun x => (f77_fr11 a0 a1 a2 q9 q10 x.1 x.2)) (body := (fun L x => (fun L11 => f77_b11 K a0 a1 a2 q9 q10 (fun v0 v1 => F8 (f77_fr8 a0 a1 a2 v0 v1)) L11 x.1 x.2) (fun v0 v1 => L (v0, v1)))) (fun L x => ?_) n (q12, q13)
  rw [exec_G]
  exact (key (realL (f77E K) 2) L x.1 x.2).trans (by rfl)
theorem f77_t8 (K : Nat) (a0 : Int × Int × Int) (a1 : List ((Int × Int × Int × Int) × Int × Int)) (a2 : List (Int × Int)) (bq9 : Int) (bq10 : List (List (Int × Int))) : ∀ (n : Nat) (q9 : Int) (q10 : List (List (Int × Int))), loopN (exec (f77E K) 2 (selC f77C [1, 1, 0, 1, 0, 0])) 2 (f77_fr8 a0 a1 a2 bq9 bq10) n (f77_fr8 a0 a1 a2 q9 q10) (f77_k8 K a0 a1 a2 (realL (f77E K) 2)) = f77_l8 K a0 a1 a2 n q9 q10 := by
  have key : ∀ (lr : LR (List (List (Int × Int)))) (L : Fr → Option (List (List (Int × Int)))) (q9 : Int) (q10 : List (List (Int × Int))), execG (f77E K) 2 lr (selC f77C [1, 1, 0, 1, 0, 0]) (f77_fr8 a0 a1 a2 q9 q10) (loopK 2 (f77_fr8 a0 a1 a2 bq9 bq10) L (f77_k8 K a0 a1 a2 lr)) = f77_b8 K a0 a1 a2 (fun c0 c1 d0 d1 => lr (selC f77C [1, 1, 0, 1, 0, 0, 1, 0, 0, 1, 0, 1, 0, 0]) (f77_fr11 a0 a1 a2 c0 c1 d0 d1) (f77_k11 K a0 a1 a2 L bq9 bq10 lr)) (fun v0 v1 => L (f77_fr8 a0 a1 a2 v0 v1)) q9 q10 := by
    intro lr L q9 q10; kernel_rfl
  intro n q9 q10
  refine loopN_iter (X := Int × List (List (Int × Int))) (frame := fun x => (f77_fr8 a0 a1 a2 x.1 x.2)) (body := (fun L x => (fun L8 => f77_b8 K a0 a1 a2 (fun c0 c1 d0 d1 => f77_l11 K a0 a1 a2 c0 c1 L8 K d0 d1) L8 x.1 x.2) (fun v0 v1 => L (v0, v1)))) (fun L x => ?_) n (q9, q10)
  rw [exec_G]
  have h11 : (fun c0 c1 d0 d1 => (realL (f77E K) 2) (selC f77C [1, 1, 0, 1, 0, 0, 1, 0, 0, 1, 0, 1, 0, 0]) (f77_fr11 a0 a1 a2 c0 c1 d0 d1) (f77_k11 K a0 a1 a2 L bq9 bq10 (realL (f77E K) 2))) = fun c0 c1 d0 d1 => f77_l11 K a0 a1 a2 c0 c1 (fun v0 v1 => L (f77_fr8 a0 a1 a2 v0 v1)) K d0 d1 := by
    funext c0 c1 d0 d1
    exact f77_t11 K a0 a1 a2 c0 c1 L bq9 bq10 d0 d1 K d0 d1
  exact (key (realL (f77E K) 2) L x.1 x.2).trans (by rw [h11] <;> rfl)
theorem f77_run (K : Nat) (a0 : Int × Int × Int) (a1 : List ((Int × Int × Int × Int) × Int × Int)) (a2 : List (Int × Int)) : runF (f77E K) Tryz.f77 [(.ro, (.cons (.int .i64) (.cons (.int .i64) (.int .i64)))), (.ro, (.list 34 (.cons (.cons (.int .i64) (.cons (.int .i64) (.cons (.int .i64) (.int .i64)))) (.cons (.int .i64) (.int .i64))))), (.ro, (.list 32 (.cons (.int .i64) (.int .i64))))] [(.list 41 (.list 32 (.cons (.int .i64) (.int .i64))))] (a0, a1, a2, ()) = f77G K a0 a1 a2 := by
  have key : ∀ (lr : LR (List (List (Int × Int)))), runG (f77E K) Tryz.f77 [(.ro, (.cons (.int .i64) (.cons (.int .i64) (.int .i64)))), (.ro, (.list 34 (.cons (.cons (.int .i64) (.cons (.int .i64) (.cons (.int .i64) (.int .i64)))) (.cons (.int .i64) (.int .i64))))), (.ro, (.list 32 (.cons (.int .i64) (.int .i64))))] [(.list 41 (.list 32 (.cons (.int .i64) (.int .i64))))] (a0, a1, a2, ()) lr = f77_g K a0 a1 a2 (fun d0 d1 => lr (selC f77C [1, 1, 0, 1, 0, 0]) (f77_fr8 a0 a1 a2 d0 d1) (f77_k8 K a0 a1 a2 lr)) := by intro lr; kernel_rfl
  have h8 : (fun d0 d1 => (realL (f77E K) 2) (selC f77C [1, 1, 0, 1, 0, 0]) (f77_fr8 a0 a1 a2 d0 d1) (f77_k8 K a0 a1 a2 (realL (f77E K) 2))) = fun d0 d1 => f77_l8 K a0 a1 a2 K d0 d1 := by
    funext d0 d1
    exact f77_t8 K a0 a1 a2 d0 d1 K d0 d1
  exact runF_G (n0 := 2) (by rfl) ((key (realL (f77E K) 2)).trans (by rw [h8] <;> rfl))
theorem f25_run (K : Nat) (a0 : Int) (a1 : Int × Int × Int) (a2 : List ((Int × Int × Int × Int) × Int × Int)) (a3 : List (Int × Int)) : runF (f25E K) Tryz.f25 [(.ro, (.int .i64)), (.ro, (.cons (.int .i64) (.cons (.int .i64) (.int .i64)))), (.ro, (.list 34 (.cons (.cons (.int .i64) (.cons (.int .i64) (.cons (.int .i64) (.int .i64)))) (.cons (.int .i64) (.int .i64))))), (.ro, (.list 32 (.cons (.int .i64) (.int .i64))))] [(.list 41 (.list 32 (.cons (.int .i64) (.int .i64)))), (.int .i64)] (a0, a1, a2, a3, ()) = f25G K a0 a1 a2 a3 := by kernel_rfl
theorem f208_run (K : Nat) (a0 : Int) : runF (f208E K) Tryz.f208 [(.ro, (.int .i64))] [.bool] (a0, ()) = f208G K a0 := by kernel_rfl
theorem f161_run (K : Nat) (a0 : Int × Int) : runF (f161E K) Tryz.f161 [(.ro, (.cons (.int .i64) (.int .i64)))] [.bool] (a0, ()) = f161G K a0 := by kernel_rfl
theorem f114_t4 (K : Nat) (a0 : List (Int × Int)) (bq5 : Int) : ∀ (n : Nat) (q5 : Int), loopN (exec (f114E K) 1 (selC f114C [1, 0, 1, 0, 0])) 1 (f114_fr4 a0 bq5) n (f114_fr4 a0 q5) (f114_k4 K a0 (realL (f114E K) 1)) = f114_l4 K a0 n q5 := by
  have key : ∀ (lr : LR Bool) (L : Fr → Option Bool) (q5 : Int), execG (f114E K) 1 lr (selC f114C [1, 0, 1, 0, 0]) (f114_fr4 a0 q5) (loopK 1 (f114_fr4 a0 bq5) L (f114_k4 K a0 lr)) = f114_b4 K a0 (fun v0 => L (f114_fr4 a0 v0)) q5 := by
    intro lr L q5; kernel_rfl
  intro n q5
  refine loopN_iter (X := Int) (frame := fun x => (f114_fr4 a0 x)) (body := (fun L x => (fun L4 => f114_b4 K a0 L4 x) (fun v0 => L v0))) (fun L x => ?_) n q5
  rw [exec_G]
  exact (key (realL (f114E K) 1) L x).trans (by rfl)
theorem f114_run (K : Nat) (a0 : List (Int × Int)) : runF (f114E K) Tryz.f114 [(.ro, (.list 32 (.cons (.int .i64) (.int .i64))))] [.bool] (a0, ()) = f114G K a0 := by
  have key : ∀ (lr : LR Bool), runG (f114E K) Tryz.f114 [(.ro, (.list 32 (.cons (.int .i64) (.int .i64))))] [.bool] (a0, ()) lr = f114_g K a0 (fun d0 => lr (selC f114C [1, 0, 1, 0, 0]) (f114_fr4 a0 d0) (f114_k4 K a0 lr)) := by intro lr; kernel_rfl
  have h4 : (fun d0 => (realL (f114E K) 1) (selC f114C [1, 0, 1, 0, 0]) (f114_fr4 a0 d0) (f114_k4 K a0 (realL (f114E K) 1))) = fun d0 => f114_l4 K a0 K d0 := by
    funext d0
    exact f114_t4 K a0 d0 K d0
  exact runF_G (n0 := 1) (by rfl) ((key (realL (f114E K) 1)).trans (by rw [h4] <;> rfl))
theorem f71_run (K : Nat) (a0 : Int) (a1 : Int × Int × Int) (a2 : List ((Int × Int × Int × Int) × Int × Int)) (a3 : List (Int × Int)) : runF (f71E K) Tryz.f71 [(.ro, (.int .i64)), (.ro, (.cons (.int .i64) (.cons (.int .i64) (.int .i64)))), (.ro, (.list 34 (.cons (.cons (.int .i64) (.cons (.int .i64) (.cons (.int .i64) (.int .i64)))) (.cons (.int .i64) (.int .i64))))), (.ro, (.list 32 (.cons (.int .i64) (.int .i64))))] [(.int .i64)] (a0, a1, a2, a3, ()) = f71G K a0 a1 a2 a3 := by kernel_rfl
theorem f74_t11 (K : Nat) (a0 : Int × Int × Int) (a1 : List ((Int × Int × Int × Int) × Int × Int)) (a2 : List (Int × Int)) (q9 : Int) (q10 : List (List (Int × Int))) (F8 : Fr → Option (List (List (Int × Int)))) (bq9 : Int) (bq10 : List (List (Int × Int))) (bq12 : Int) (bq13 : List (Int × Int)) : ∀ (n : Nat) (q12 : Int) (q13 : List (Int × Int)), loopN (exec (f74E K) 2 (selC f74C [1, 1, 0, 1, 0, 0, 1, 1, 0, 0, 1, 1, 0, 1, 0, 0])) 2 (f74_fr11 a0 a1 a2 q9 q10 bq12 bq13) n (f74_fr11 a0 a1 a2 q9 q10 q12 q13) (f74_k11 K a0 a1 a2 F8 bq9 bq10 (realL (f74E K) 2)) = f74_l11 K a0 a1 a2 q9 q10 (fun v0 v1 => F8 (f74_fr8 a0 a1 a2 v0 v1)) n q12 q13 := by
  have key : ∀ (lr : LR (List (List (Int × Int)))) (L : Fr → Option (List (List (Int × Int)))) (q12 : Int) (q13 : List (Int × Int)), execG (f74E K) 2 lr (selC f74C [1, 1, 0, 1, 0, 0, 1, 1, 0, 0, 1, 1, 0, 1, 0, 0]) (f74_fr11 a0 a1 a2 q9 q10 q12 q13) (loopK 2 (f74_fr11 a0 a1 a2 q9 q10 bq12 bq13) L (f74_k11 K a0 a1 a2 F8 bq9 bq10 lr)) = f74_b11 K a0 a1 a2 q9 q10 (fun v0 v1 => F8 (f74_fr8 a0 a1 a2 v0 v1)) (fun v0 v1 => L (f74_fr11 a0 a1 a2 q9 q10 v0 v1)) q12 q13 := by
    intro lr L q12 q13; kernel_rfl
  intro n q12 q13
  refine loopN_iter (X := Int × List (Int × Int)) (frame := fun x => (f74_fr11 a0 a1 a2 q9 q10 x.1 x.2)) (body := (fun L x => (fun L11 => f74_b11 K a0 a1 a2 q9 q10 (fun v0 v1 => F8 (f74_fr8 a0 a1 a2 v0 v1)) L11 x.1 x.2) (fun v0 v1 => L (v0, v1)))) (fun L x => ?_) n (q12, q13)
  rw [exec_G]
  exact (key (realL (f74E K) 2) L x.1 x.2).trans (by rfl)
theorem f74_t8 (K : Nat) (a0 : Int × Int × Int) (a1 : List ((Int × Int × Int × Int) × Int × Int)) (a2 : List (Int × Int)) (bq9 : Int) (bq10 : List (List (Int × Int))) : ∀ (n : Nat) (q9 : Int) (q10 : List (List (Int × Int))), loopN (exec (f74E K) 2 (selC f74C [1, 1, 0, 1, 0, 0])) 2 (f74_fr8 a0 a1 a2 bq9 bq10) n (f74_fr8 a0 a1 a2 q9 q10) (f74_k8 K a0 a1 a2 (realL (f74E K) 2)) = f74_l8 K a0 a1 a2 n q9 q10 := by
  have key : ∀ (lr : LR (List (List (Int × Int)))) (L : Fr → Option (List (List (Int × Int)))) (q9 : Int) (q10 : List (List (Int × Int))), execG (f74E K) 2 lr (selC f74C [1, 1, 0, 1, 0, 0]) (f74_fr8 a0 a1 a2 q9 q10) (loopK 2 (f74_fr8 a0 a1 a2 bq9 bq10) L (f74_k8 K a0 a1 a2 lr)) = f74_b8 K a0 a1 a2 (fun c0 c1 d0 d1 => lr (selC f74C [1, 1, 0, 1, 0, 0, 1, 1, 0, 0, 1, 1, 0, 1, 0, 0]) (f74_fr11 a0 a1 a2 c0 c1 d0 d1) (f74_k11 K a0 a1 a2 L bq9 bq10 lr)) (fun v0 v1 => L (f74_fr8 a0 a1 a2 v0 v1)) q9 q10 := by
    intro lr L q9 q10; kernel_rfl
  intro n q9 q10
  refine loopN_iter (X := Int × List (List (Int × Int))) (frame := fun x => (f74_fr8 a0 a1 a2 x.1 x.2)) (body := (fun L x => (fun L8 => f74_b8 K a0 a1 a2 (fun c0 c1 d0 d1 => f74_l11 K a0 a1 a2 c0 c1 L8 K d0 d1) L8 x.1 x.2) (fun v0 v1 => L (v0, v1)))) (fun L x => ?_) n (q9, q10)
  rw [exec_G]
  have h11 : (fun c0 c1 d0 d1 => (realL (f74E K) 2) (selC f74C [1, 1, 0, 1, 0, 0, 1, 1, 0, 0, 1, 1, 0, 1, 0, 0]) (f74_fr11 a0 a1 a2 c0 c1 d0 d1) (f74_k11 K a0 a1 a2 L bq9 bq10 (realL (f74E K) 2))) = fun c0 c1 d0 d1 => f74_l11 K a0 a1 a2 c0 c1 (fun v0 v1 => L (f74_fr8 a0 a1 a2 v0 v1)) K d0 d1 := by
    funext c0 c1 d0 d1
    exact f74_t11 K a0 a1 a2 c0 c1 L bq9 bq10 d0 d1 K d0 d1
  exact (key (realL (f74E K) 2) L x.1 x.2).trans (by rw [h11] <;> rfl)
theorem f74_run (K : Nat) (a0 : Int × Int × Int) (a1 : List ((Int × Int × Int × Int) × Int × Int)) (a2 : List (Int × Int)) : runF (f74E K) Tryz.f74 [(.ro, (.cons (.int .i64) (.cons (.int .i64) (.int .i64)))), (.ro, (.list 34 (.cons (.cons (.int .i64) (.cons (.int .i64) (.cons (.int .i64) (.int .i64)))) (.cons (.int .i64) (.int .i64))))), (.ro, (.list 32 (.cons (.int .i64) (.int .i64))))] [(.list 41 (.list 32 (.cons (.int .i64) (.int .i64))))] (a0, a1, a2, ()) = f74G K a0 a1 a2 := by
  have key : ∀ (lr : LR (List (List (Int × Int)))), runG (f74E K) Tryz.f74 [(.ro, (.cons (.int .i64) (.cons (.int .i64) (.int .i64)))), (.ro, (.list 34 (.cons (.cons (.int .i64) (.cons (.int .i64) (.cons (.int .i64) (.int .i64)))) (.cons (.int .i64) (.int .i64))))), (.ro, (.list 32 (.cons (.int .i64) (.int .i64))))] [(.list 41 (.list 32 (.cons (.int .i64) (.int .i64))))] (a0, a1, a2, ()) lr = f74_g K a0 a1 a2 (fun d0 d1 => lr (selC f74C [1, 1, 0, 1, 0, 0]) (f74_fr8 a0 a1 a2 d0 d1) (f74_k8 K a0 a1 a2 lr)) := by intro lr; kernel_rfl
  have h8 : (fun d0 d1 => (realL (f74E K) 2) (selC f74C [1, 1, 0, 1, 0, 0]) (f74_fr8 a0 a1 a2 d0 d1) (f74_k8 K a0 a1 a2 (realL (f74E K) 2))) = fun d0 d1 => f74_l8 K a0 a1 a2 K d0 d1 := by
    funext d0 d1
    exact f74_t8 K a0 a1 a2 d0 d1 K d0 d1
  exact runF_G (n0 := 2) (by rfl) ((key (realL (f74E K) 2)).trans (by rw [h8] <;> rfl))
theorem f26_run (K : Nat) (a0 : Int) (a1 : Int × Int × Int) (a2 : List ((Int × Int × Int × Int) × Int × Int)) (a3 : List (Int × Int)) : runF (f26E K) Tryz.f26 [(.ro, (.int .i64)), (.ro, (.cons (.int .i64) (.cons (.int .i64) (.int .i64)))), (.ro, (.list 34 (.cons (.cons (.int .i64) (.cons (.int .i64) (.cons (.int .i64) (.int .i64)))) (.cons (.int .i64) (.int .i64))))), (.ro, (.list 32 (.cons (.int .i64) (.int .i64))))] [(.list 41 (.list 32 (.cons (.int .i64) (.int .i64)))), (.int .i64)] (a0, a1, a2, a3, ()) = f26G K a0 a1 a2 a3 := by kernel_rfl
theorem f27_t3 (K : Nat) (a0 : List (List (Int × Int))) (a1 : List (List (Int × Int))) (bq4 : Int) : ∀ (n : Nat) (q4 : Int), loopN (exec (f27E K) 2 (selC f27C [1, 1, 0, 1, 0, 0])) 2 (f27_fr3 a0 a1 bq4) n (f27_fr3 a0 a1 q4) (f27_k3 K a0 a1 (realL (f27E K) 2)) = f27_l3 K a0 a1 n q4 := by
  have key : ∀ (lr : LR Bool) (L : Fr → Option Bool) (q4 : Int), execG (f27E K) 2 lr (selC f27C [1, 1, 0, 1, 0, 0]) (f27_fr3 a0 a1 q4) (loopK 2 (f27_fr3 a0 a1 bq4) L (f27_k3 K a0 a1 lr)) = f27_b3 K a0 a1 (fun v0 => L (f27_fr3 a0 a1 v0)) q4 := by
    intro lr L q4; kernel_rfl
  intro n q4
  refine loopN_iter (X := Int) (frame := fun x => (f27_fr3 a0 a1 x)) (body := (fun L x => (fun L3 => f27_b3 K a0 a1 L3 x) (fun v0 => L v0))) (fun L x => ?_) n q4
  rw [exec_G]
  exact (key (realL (f27E K) 2) L x).trans (by rfl)
theorem f27_run (K : Nat) (a0 : List (List (Int × Int))) (a1 : List (List (Int × Int))) : runF (f27E K) Tryz.f27 [(.ro, (.list 41 (.list 32 (.cons (.int .i64) (.int .i64))))), (.ro, (.list 41 (.list 32 (.cons (.int .i64) (.int .i64)))))] [.bool] (a0, a1, ()) = f27G K a0 a1 := by
  have key : ∀ (lr : LR Bool), runG (f27E K) Tryz.f27 [(.ro, (.list 41 (.list 32 (.cons (.int .i64) (.int .i64))))), (.ro, (.list 41 (.list 32 (.cons (.int .i64) (.int .i64)))))] [.bool] (a0, a1, ()) lr = f27_g K a0 a1 (fun d0 => lr (selC f27C [1, 1, 0, 1, 0, 0]) (f27_fr3 a0 a1 d0) (f27_k3 K a0 a1 lr)) := by intro lr; kernel_rfl
  have h3 : (fun d0 => (realL (f27E K) 2) (selC f27C [1, 1, 0, 1, 0, 0]) (f27_fr3 a0 a1 d0) (f27_k3 K a0 a1 (realL (f27E K) 2))) = fun d0 => f27_l3 K a0 a1 K d0 := by
    funext d0
    exact f27_t3 K a0 a1 d0 K d0
  exact runF_G (n0 := 2) (by rfl) ((key (realL (f27E K) 2)).trans (by rw [h3] <;> rfl))
theorem f30_t3 (K : Nat) (a0 : List (List (Int × Int))) (a1 : Int) (bq4 : Int) (bq5 : Int) (bq6 : List (List (Int × Int))) : ∀ (n : Nat) (q4 : Int) (q5 : Int) (q6 : List (List (Int × Int))), loopN (exec (f30E K) 1 (selC f30C [1, 0, 1, 0, 0])) 1 (f30_fr3 bq4 bq5 bq6) n (f30_fr3 q4 q5 q6) (f30_k3 K a0 a1 (realL (f30E K) 1)) = f30_l3 K n q4 q5 q6 := by
  have key : ∀ (lr : LR ((List (List (Int × Int))) × Int)) (L : Fr → Option ((List (List (Int × Int))) × Int)) (q4 : Int) (q5 : Int) (q6 : List (List (Int × Int))), execG (f30E K) 1 lr (selC f30C [1, 0, 1, 0, 0]) (f30_fr3 q4 q5 q6) (loopK 1 (f30_fr3 bq4 bq5 bq6) L (f30_k3 K a0 a1 lr)) = f30_b3 K (fun v0 v1 v2 => L (f30_fr3 v0 v1 v2)) q4 q5 q6 := by
    intro lr L q4 q5 q6; kernel_rfl
  intro n q4 q5 q6
  refine loopN_iter (X := Int × Int × List (List (Int × Int))) (frame := fun x => (f30_fr3 x.1 x.2.1 x.2.2)) (body := (fun L x => (fun L3 => f30_b3 K L3 x.1 x.2.1 x.2.2) (fun v0 v1 v2 => L (v0, v1, v2)))) (fun L x => ?_) n (q4, q5, q6)
  rw [exec_G]
  exact (key (realL (f30E K) 1) L x.1 x.2.1 x.2.2).trans (by rfl)
theorem f30_run (K : Nat) (a0 : List (List (Int × Int))) (a1 : Int) : runF (f30E K) Tryz.f30 [(.io, (.list 41 (.list 32 (.cons (.int .i64) (.int .i64))))), (.ro, (.int .i64))] [(.int .i64)] (a0, a1, ()) = f30G K a0 a1 := by
  have key : ∀ (lr : LR ((List (List (Int × Int))) × Int)), runG (f30E K) Tryz.f30 [(.io, (.list 41 (.list 32 (.cons (.int .i64) (.int .i64))))), (.ro, (.int .i64))] [(.int .i64)] (a0, a1, ()) lr = f30_g K a0 a1 (fun d0 d1 d2 => lr (selC f30C [1, 0, 1, 0, 0]) (f30_fr3 d0 d1 d2) (f30_k3 K a0 a1 lr)) := by intro lr; kernel_rfl
  have h3 : (fun d0 d1 d2 => (realL (f30E K) 1) (selC f30C [1, 0, 1, 0, 0]) (f30_fr3 d0 d1 d2) (f30_k3 K a0 a1 (realL (f30E K) 1))) = fun d0 d1 d2 => f30_l3 K K d0 d1 d2 := by
    funext d0 d1 d2
    exact f30_t3 K a0 a1 d0 d1 d2 K d0 d1 d2
  exact runF_G (n0 := 1) (by rfl) ((key (realL (f30E K) 1)).trans (by rw [h3] <;> rfl))
theorem f31_t3 (K : Nat) (a0 : List (List (Int × Int))) (a1 : Int) (bq4 : Int) (bq5 : Int) : ∀ (n : Nat) (q4 : Int) (q5 : Int), loopN (exec (f31E K) 1 (selC f31C [1, 0, 1, 0, 0])) 1 (f31_fr3 a0 bq4 bq5) n (f31_fr3 a0 q4 q5) (f31_k3 K a0 a1 (realL (f31E K) 1)) = f31_l3 K a0 n q4 q5 := by
  have key : ∀ (lr : LR Int) (L : Fr → Option Int) (q4 : Int) (q5 : Int), execG (f31E K) 1 lr (selC f31C [1, 0, 1, 0, 0]) (f31_fr3 a0 q4 q5) (loopK 1 (f31_fr3 a0 bq4 bq5) L (f31_k3 K a0 a1 lr)) = f31_b3 K a0 (fun v0 v1 => L (f31_fr3 a0 v0 v1)) q4 q5 := by
    intro lr L q4 q5; kernel_rfl
  intro n q4 q5
  refine loopN_iter (X := Int × Int) (frame := fun x => (f31_fr3 a0 x.1 x.2)) (body := (fun L x => (fun L3 => f31_b3 K a0 L3 x.1 x.2) (fun v0 v1 => L (v0, v1)))) (fun L x => ?_) n (q4, q5)
  rw [exec_G]
  exact (key (realL (f31E K) 1) L x.1 x.2).trans (by rfl)
theorem f31_run (K : Nat) (a0 : List (List (Int × Int))) (a1 : Int) : runF (f31E K) Tryz.f31 [(.ro, (.list 41 (.list 32 (.cons (.int .i64) (.int .i64))))), (.ro, (.int .i64))] [(.int .i64)] (a0, a1, ()) = f31G K a0 a1 := by
  have key : ∀ (lr : LR Int), runG (f31E K) Tryz.f31 [(.ro, (.list 41 (.list 32 (.cons (.int .i64) (.int .i64))))), (.ro, (.int .i64))] [(.int .i64)] (a0, a1, ()) lr = f31_g K a0 a1 (fun d0 d1 => lr (selC f31C [1, 0, 1, 0, 0]) (f31_fr3 a0 d0 d1) (f31_k3 K a0 a1 lr)) := by intro lr; kernel_rfl
  have h3 : (fun d0 d1 => (realL (f31E K) 1) (selC f31C [1, 0, 1, 0, 0]) (f31_fr3 a0 d0 d1) (f31_k3 K a0 a1 (realL (f31E K) 1))) = fun d0 d1 => f31_l3 K a0 K d0 d1 := by
    funext d0 d1
    exact f31_t3 K a0 a1 d0 d1 K d0 d1
  exact runF_G (n0 := 1) (by rfl) ((key (realL (f31E K) 1)).trans (by rw [h3] <;> rfl))
theorem f4_run (K : Nat) (a0 : Int) (a1 : Int × Int × Int) (a2 : List ((Int × Int × Int × Int) × Int × Int)) (a3 : List (Int × Int)) : runF (f4E K) Tryz.f4 [(.ro, (.int .i64)), (.ro, (.cons (.int .i64) (.cons (.int .i64) (.int .i64)))), (.ro, (.list 96 (.cons (.cons (.int .i64) (.cons (.int .i64) (.cons (.int .i64) (.int .i64)))) (.cons (.int .i64) (.int .i64))))), (.ro, (.list 27 (.cons (.int .i64) (.int .i64))))] [.bool] (a0, a1, a2, a3, ()) = f4G K a0 a1 a2 a3 := by kernel_rfl
theorem f47_run (K : Nat) (a0 : Int) (a1 : Int × Int × Int) (a2 : List ((Int × Int × Int × Int) × Int × Int)) : runF (f47E K) Tryz.f47 [(.ro, (.int .i64)), (.ro, (.cons (.int .i64) (.cons (.int .i64) (.int .i64)))), (.ro, (.list 34 (.cons (.cons (.int .i64) (.cons (.int .i64) (.cons (.int .i64) (.int .i64)))) (.cons (.int .i64) (.int .i64)))))] [(.list 41 (.list 32 (.cons (.int .i64) (.int .i64)))), (.int .i64)] (a0, a1, a2, ()) = f47G K a0 a1 a2 := by kernel_rfl
theorem f9_run (K : Nat) (a0 : Int) (a1 : Int × Int × Int) (a2 : List ((Int × Int × Int × Int) × Int × Int)) : runF (f9E K) Tryz.f9 [(.ro, (.int .i64)), (.ro, (.cons (.int .i64) (.cons (.int .i64) (.int .i64)))), (.ro, (.list 96 (.cons (.cons (.int .i64) (.cons (.int .i64) (.cons (.int .i64) (.int .i64)))) (.cons (.int .i64) (.int .i64)))))] [.bool] (a0, a1, a2, ()) = f9G K a0 a1 a2 := by kernel_rfl
end Go.Proofs.YthlldmfkdcmcfaaGreat.X
