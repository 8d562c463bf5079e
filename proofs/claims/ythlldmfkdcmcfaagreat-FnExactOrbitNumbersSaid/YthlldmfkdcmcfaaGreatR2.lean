/- Functions of the program as plain Lean functions, and that the program does what they say. Printed by gen.py. -/
import Derived.Test.YthlldmfkdcmcfaaGreatD0
namespace Go.Proofs.YthlldmfkdcmcfaaGreat.X
open Go
set_option maxRecDepth 100000
set_option linter.unusedVariables false
theorem f176_t3 (K : Nat) (a0 : List (List (Int × Int))) (a1 : ((List (Int × Int)) → Option Bool)) (bq4 : Int) : ∀ (n : Nat) (q4 : Int), loopN (exec (f176E K) 1 (selC f176C [1, 0, 1, 0, 0])) 1 (f176_fr3 a0 a1 bq4) n (f176_fr3 a0 a1 q4) (f176_k3 K a0 a1 (realL (f176E K) 1)) = f176_l3 K a0 a1 n q4 := by
  have key : ∀ (lr : LR Int) (L : Fr → Option Int) (q4 : Int), execG (f176E K) 1 lr (selC f176C [1, 0, 1, 0, 0]) (f176_fr3 a0 a1 q4) (loopK 1 (f176_fr3 a0 a1 bq4) L (f176_k3 K a0 a1 lr)) = f176_b3 K a0 a1 (fun v0 => L (f176_fr3 a0 a1 v0)) q4 := by
    intro lr L q4; kernel_rfl
  intro n q4
  refine loopN_iter (X := Int) (frame := fun x => (f176_fr3 a0 a1 x)) (body := (fun L x => (fun L3 => f176_b3 K a0 a1 L3 x) (fun v0 => L v0))) (fun L x => ?_) n q4
  rw [exec_G]
  exact (key (realL (f176E K) 1) L x).trans (by rfl)
theorem f176_run (K : Nat) (a0 : List (List (Int × Int))) (a1 : ((List (Int × Int)) → Option Bool)) : runF (f176E K) Tryz.f176 [(.ro, (.list 41 (.list 32 (.cons (.int .i64) (.int .i64))))), (.ro, (.fn1 (.list 32 (.cons (.int .i64) (.int .i64))) .bool))] [(.int .i64)] (a0, a1, ()) = f176G K a0 a1 := by
  have key : ∀ (lr : LR Int), runG (f176E K) Tryz.f176 [(.ro, (.list 41 (.list 32 (.cons (.int .i64) (.int .i64))))), (.ro, (.fn1 (.list 32 (.cons (.int .i64) (.int .i64))) .bool))] [(.int .i64)] (a0, a1, ()) lr = f176_g K a0 a1 (fun d0 => lr (selC f176C [1, 0, 1, 0, 0]) (f176_fr3 a0 a1 d0) (f176_k3 K a0 a1 lr)) := by intro lr; kernel_rfl
  have h3 : (fun d0 => (realL (f176E K) 1) (selC f176C [1, 0, 1, 0, 0]) (f176_fr3 a0 a1 d0) (f176_k3 K a0 a1 (realL (f176E K) 1))) = fun d0 => f176_l3 K a0 a1 K d0 := by
    funext d0
    exact f176_t3 K a0 a1 d0 K d0
  exact runF_G (n0 := 1) (by rfl) ((key (realL (f176E K) 1)).trans (by rw [h3] <;> rfl))
theorem f129_run (K : Nat) (a0 : List (List (Int × Int))) (a1 : ((List (Int × Int)) → Option Bool)) : runF (f129E K) Tryz.f129 [(.ro, (.list 41 (.list 32 (.cons (.int .i64) (.int .i64))))), (.ro, (.fn1 (.list 32 (.cons (.int .i64) (.int .i64))) .bool))] [.bool] (a0, a1, ()) = f129G K a0 a1 := by kernel_rfl
theorem f89_run (K : Nat) (a0 : Int) (a1 : Int × Int × Int) (a2 : List ((Int × Int × Int × Int) × Int × Int)) : runF (f89E K) Tryz.f89 [(.ro, (.int .i64)), (.ro, (.cons (.int .i64) (.cons (.int .i64) (.int .i64)))), (.ro, (.list 34 (.cons (.cons (.int .i64) (.cons (.int .i64) (.cons (.int .i64) (.int .i64)))) (.cons (.int .i64) (.int .i64)))))] [(.list 41 (.list 32 (.cons (.int .i64) (.int .i64)))), (.int .i64)] (a0, a1, a2, ()) = f89G K a0 a1 a2 := by kernel_rfl
theorem f52_t3 (K : Nat) (a0 : Int) (a1 : Int × Int × Int) (a2 : List ((Int × Int × Int × Int) × Int × Int)) (y1 : (List (List (Int × Int))) × Int) (bq4 : Int) (bq5 : List (Int × Int)) : ∀ (n : Nat) (q4 : Int) (q5 : List (Int × Int)), loopN (exec (f52E K) 1 (selC f52C [1, 1, 1, 1, 0, 1, 0, 0])) 1 (f52_fr3 a0 a1 a2 y1 bq4 bq5) n (f52_fr3 a0 a1 a2 y1 q4 q5) (f52_k3 K a0 a1 a2 (realL (f52E K) 1)) = f52_l3 K a0 a1 a2 y1 n q4 q5 := by
  have key : ∀ (lr : LR ((List (Int × Int)) × Int)) (L : Fr → Option ((List (Int × Int)) × Int)) (q4 : Int) (q5 : List (Int × Int)), execG (f52E K) 1 lr (selC f52C [1, 1, 1, 1, 0, 1, 0, 0]) (f52_fr3 a0 a1 a2 y1 q4 q5) (loopK 1 (f52_fr3 a0 a1 a2 y1 bq4 bq5) L (f52_k3 K a0 a1 a2 lr)) = f52_b3 K a0 a1 a2 y1 (fun v0 v1 => L (f52_fr3 a0 a1 a2 y1 v0 v1)) q4 q5 := by
    intro lr L q4 q5; kernel_rfl
  intro n q4 q5
  refine loopN_iter (X := Int × List (Int × Int)) (frame := fun x => (f52_fr3 a0 a1 a2 y1 x.1 x.2)) (body := (fun L x => (fun L3 => f52_b3 K a0 a1 a2 y1 L3 x.1 x.2) (fun v0 v1 => L (v0, v1)))) (fun L x => ?_) n (q4, q5)
  rw [exec_G]
  exact (key (realL (f52E K) 1) L x.1 x.2).trans (by rfl)
theorem f52_run (K : Nat) (a0 : Int) (a1 : Int × Int × Int) (a2 : List ((Int × Int × Int × Int) × Int × Int)) : runF (f52E K) Tryz.f52 [(.ro, (.int .i64)), (.ro, (.cons (.int .i64) (.cons (.int .i64) (.int .i64)))), (.ro, (.list 34 (.cons (.cons (.int .i64) (.cons (.int .i64) (.cons (.int .i64) (.int .i64)))) (.cons (.int .i64) (.int .i64)))))] [(.list 32 (.cons (.int .i64) (.int .i64))), (.int .i64)] (a0, a1, a2, ()) = f52G K a0 a1 a2 := by
  have key : ∀ (lr : LR ((List (Int × Int)) × Int)), runG (f52E K) Tryz.f52 [(.ro, (.int .i64)), (.ro, (.cons (.int .i64) (.cons (.int .i64) (.int .i64)))), (.ro, (.list 34 (.cons (.cons (.int .i64) (.cons (.int .i64) (.cons (.int .i64) (.int .i64)))) (.cons (.int .i64) (.int .i64)))))] [(.list 32 (.cons (.int .i64) (.int .i64))), (.int .i64)] (a0, a1, a2, ()) lr = f52_g K a0 a1 a2 (fun c0 d0 d1 => lr (selC f52C [1, 1, 1, 1, 0, 1, 0, 0]) (f52_fr3 a0 a1 a2 c0 d0 d1) (f52_k3 K a0 a1 a2 lr)) := by intro lr; kernel_rfl
  have h3 : (fun c0 d0 d1 => (realL (f52E K) 1) (selC f52C [1, 1, 1, 1, 0, 1, 0, 0]) (f52_fr3 a0 a1 a2 c0 d0 d1) (f52_k3 K a0 a1 a2 (realL (f52E K) 1))) = fun c0 d0 d1 => f52_l3 K a0 a1 a2 c0 K d0 d1 := by
    funext c0 d0 d1
    exact f52_t3 K a0 a1 a2 c0 d0 d1 K d0 d1
  exact runF_G (n0 := 1) (by rfl) ((key (realL (f52E K) 1)).trans (by rw [h3] <;> rfl))
theorem f11_run (K : Nat) (a0 : Int) (a1 : Int × Int × Int) (a2 : List ((Int × Int × Int × Int) × Int × Int)) : runF (f11E K) Tryz.f11 [(.ro, (.int .i64)), (.ro, (.cons (.int .i64) (.cons (.int .i64) (.int .i64)))), (.ro, (.list 96 (.cons (.cons (.int .i64) (.cons (.int .i64) (.cons (.int .i64) (.int .i64)))) (.cons (.int .i64) (.int .i64)))))] [.bool] (a0, a1, a2, ()) = f11G K a0 a1 a2 := by kernel_rfl
end Go.Proofs.YthlldmfkdcmcfaaGreat.X
