/- Functions of the program as plain Lean functions, and that the program does what they say. Printed by gen.py. -/
import Derived.Test.YtniidcalfhhciaaGreatQfD1
namespace Go.Proofs.YtniidcalfhhciaaGreat.X
open Go
set_option maxRecDepth 100000
set_option linter.unusedVariables false
theorem f47_t2 (K : Nat) (a0 : List tV) (a1 : Int × Int) (bq3 : Int) : ∀ (n : Nat) (q3 : Int), loopN (exec (f47E K) 1 (selC f47C [1, 0, 1, 0, 0])) 1 (f47_fr2 a0 a1 bq3) n (f47_fr2 a0 a1 q3) (f47_k2 K a0 a1 (realL (f47E K) 1)) = f47_l2 K a0 a1 n q3 := by
  have key : ∀ (lr : LR Bool) (L : Fr → Option Bool) (q3 : Int), execG (f47E K) 1 lr (selC f47C [1, 0, 1, 0, 0]) (f47_fr2 a0 a1 q3) (loopK 1 (f47_fr2 a0 a1 bq3) L (f47_k2 K a0 a1 lr)) = f47_b2 K a0 a1 (fun v0 => L (f47_fr2 a0 a1 v0)) q3 := by
    intro lr L q3; kernel_rfl
  intro n q3
  refine loopN_iter (X := Int) (frame := fun x => (f47_fr2 a0 a1 x)) (body := (fun L x => (fun L2 => f47_b2 K a0 a1 L2 x) (fun v0 => L v0))) (fun L x => ?_) n q3
  rw [exec_G]
  exact (key (realL (f47E K) 1) L x).trans (by rfl)
theorem f47_run (K : Nat) (a0 : List tV) (a1 : Int × Int) : runF (f47E K) Tryz.f47 [(.ro, (.list 55 sV)), (.ro, sV)] [.bool] (a0, a1, ()) = f47G K a0 a1 := by
  have key : ∀ (lr : LR Bool), runG (f47E K) Tryz.f47 [(.ro, (.list 55 sV)), (.ro, sV)] [.bool] (a0, a1, ()) lr = f47_g K a0 a1 (fun d0 => lr (selC f47C [1, 0, 1, 0, 0]) (f47_fr2 a0 a1 d0) (f47_k2 K a0 a1 lr)) := by intro lr; kernel_rfl
  have h2 : (fun d0 => (realL (f47E K) 1) (selC f47C [1, 0, 1, 0, 0]) (f47_fr2 a0 a1 d0) (f47_k2 K a0 a1 (realL (f47E K) 1))) = fun d0 => f47_l2 K a0 a1 K d0 := by
    funext d0
    exact f47_t2 K a0 a1 d0 K d0
  exact runF_G (n0 := 1) (by rfl) ((key (realL (f47E K) 1)).trans (by rw [h2] <;> rfl))
theorem f10_run (K : Nat) (a0 : List Int) : runF (f10E K) Tryz.f10 [(.ro, (.list 5 (.int .u8)))] [.bool] (a0, ()) = f10G K a0 := by kernel_rfl
end Go.Proofs.YtniidcalfhhciaaGreat.X
