/- Functions of the program as plain Lean functions, and that the program does what they say. Printed by gen.py. -/
import Derived.Test.YtniidcalfhhciaaGreatQdD0
namespace Go.Proofs.YtniidcalfhhciaaGreat.X
open Go
set_option maxRecDepth 100000
set_option linter.unusedVariables false
theorem f129_t14 (K : Nat) (a0 : Int × tL × List Int) (y1 : List tM) (bq15 : Int) (bq16 : Int) (bq17 : Int) : ∀ (n : Nat) (q15 : Int) (q16 : Int) (q17 : Int), loopN (exec (f129E K) 1 (selC f129C [1, 1, 1, 0, 1, 0, 0])) 1 (f129_fr14 a0 y1 bq15 bq16 bq17) n (f129_fr14 a0 y1 q15 q16 q17) (f129_k14 K a0 (realL (f129E K) 1)) = f129_l14 K a0 y1 n q15 q16 q17 := by
  have key : ∀ (lr : LR tV) (L : Fr → Option tV) (q15 : Int) (q16 : Int) (q17 : Int), execG (f129E K) 1 lr (selC f129C [1, 1, 1, 0, 1, 0, 0]) (f129_fr14 a0 y1 q15 q16 q17) (loopK 1 (f129_fr14 a0 y1 bq15 bq16 bq17) L (f129_k14 K a0 lr)) = f129_b14 K a0 y1 (fun v0 v1 v2 => L (f129_fr14 a0 y1 v0 v1 v2)) q15 q16 q17 := by
    intro lr L q15 q16 q17; kernel_rfl
  intro n q15 q16 q17
  refine loopN_iter (X := Int × Int × Int) (frame := fun x => (f129_fr14 a0 y1 x.1 x.2.1 x.2.2)) (body := (fun L x => (fun L14 => f129_b14 K a0 y1 L14 x.1 x.2.1 x.2.2) (fun v0 v1 v2 => L (v0, v1, v2)))) (fun L x => ?_) n (q15, q16, q17)
  rw [exec_G]
  exact (key (realL (f129E K) 1) L x.1 x.2.1 x.2.2).trans (by rfl)
theorem f129_run (K : Nat) (a0 : Int × tL × List Int) : runF (f129E K) Tryz.f129 [(.ro, (.cons sI (.cons sL (.list 2 sI))))] [sI, sI] (a0, ()) = f129G K a0 := by
  have key : ∀ (lr : LR tV), runG (f129E K) Tryz.f129 [(.ro, (.cons sI (.cons sL (.list 2 sI))))] [sI, sI] (a0, ()) lr = f129_g K a0 (fun c0 d0 d1 d2 => lr (selC f129C [1, 1, 1, 0, 1, 0, 0]) (f129_fr14 a0 c0 d0 d1 d2) (f129_k14 K a0 lr)) := by intro lr; kernel_rfl
  have h14 : (fun c0 d0 d1 d2 => (realL (f129E K) 1) (selC f129C [1, 1, 1, 0, 1, 0, 0]) (f129_fr14 a0 c0 d0 d1 d2) (f129_k14 K a0 (realL (f129E K) 1))) = fun c0 d0 d1 d2 => f129_l14 K a0 c0 K d0 d1 d2 := by
    funext c0 d0 d1 d2
    exact f129_t14 K a0 c0 d0 d1 d2 K d0 d1 d2
  exact runF_G (n0 := 1) (by rfl) ((key (realL (f129E K) 1)).trans (by rw [h14] <;> rfl))
theorem f17_run (K : Nat) (a0 : Int × tL × List Int) : runF (f17E K) Tryz.f17 [(.ro, (.cons sI (.cons sL (.list 2 sI))))] [sI, sI] (a0, ()) = f17G K a0 := by kernel_rfl
theorem f18_run (K : Nat) (a0 : Int × tL × List Int) : runF (f18E K) Tryz.f18 [(.ro, (.cons sI (.cons sL (.list 2 sI))))] [sI, sI] (a0, ()) = f18G K a0 := by kernel_rfl
theorem f19_run (K : Nat) (a0 : Int × tL × List Int) : runF (f19E K) Tryz.f19 [(.ro, (.cons sI (.cons sL (.list 2 sI))))] [sI, sI] (a0, ()) = f19G K a0 := by kernel_rfl
theorem f20_run (K : Nat) (a0 : Int × tL × List Int) : runF (f20E K) Tryz.f20 [(.ro, (.cons sI (.cons sL (.list 2 sI))))] [.bool, sI] (a0, ()) = f20G K a0 := by kernel_rfl
theorem f21_t6 (K : Nat) (a0 : Int × tL × List Int) (y1 : Bool) (y3 : List tM) (bq7 : Int) : ∀ (n : Nat) (q7 : Int), loopN (exec (f21E K) 1 (selC f21C [1, 1, 1, 0, 1, 0, 0])) 1 (f21_fr6 a0 y1 y3 bq7) n (f21_fr6 a0 y1 y3 q7) (f21_k6 K a0 (realL (f21E K) 1)) = f21_l6 K a0 y1 y3 n q7 := by
  have key : ∀ (lr : LR (Bool × Int)) (L : Fr → Option (Bool × Int)) (q7 : Int), execG (f21E K) 1 lr (selC f21C [1, 1, 1, 0, 1, 0, 0]) (f21_fr6 a0 y1 y3 q7) (loopK 1 (f21_fr6 a0 y1 y3 bq7) L (f21_k6 K a0 lr)) = f21_b6 K a0 y1 y3 (fun v0 => L (f21_fr6 a0 y1 y3 v0)) q7 := by
    intro lr L q7; kernel_rfl
  intro n q7
  refine loopN_iter (X := Int) (frame := fun x => (f21_fr6 a0 y1 y3 x)) (body := (fun L x => (fun L6 => f21_b6 K a0 y1 y3 L6 x) (fun v0 => L v0))) (fun L x => ?_) n q7
  rw [exec_G]
  exact (key (realL (f21E K) 1) L x).trans (by rfl)
theorem f21_run (K : Nat) (a0 : Int × tL × List Int) : runF (f21E K) Tryz.f21 [(.ro, (.cons sI (.cons sL (.list 2 sI))))] [.bool, sI] (a0, ()) = f21G K a0 := by
  have key : ∀ (lr : LR (Bool × Int)), runG (f21E K) Tryz.f21 [(.ro, (.cons sI (.cons sL (.list 2 sI))))] [.bool, sI] (a0, ()) lr = f21_g K a0 (fun c0 c1 d0 => lr (selC f21C [1, 1, 1, 0, 1, 0, 0]) (f21_fr6 a0 c0 c1 d0) (f21_k6 K a0 lr)) := by intro lr; kernel_rfl
  have h6 : (fun c0 c1 d0 => (realL (f21E K) 1) (selC f21C [1, 1, 1, 0, 1, 0, 0]) (f21_fr6 a0 c0 c1 d0) (f21_k6 K a0 (realL (f21E K) 1))) = fun c0 c1 d0 => f21_l6 K a0 c0 c1 K d0 := by
    funext c0 c1 d0
    exact f21_t6 K a0 c0 c1 d0 K d0
  exact runF_G (n0 := 1) (by rfl) ((key (realL (f21E K) 1)).trans (by rw [h6] <;> rfl))
theorem f22_run (K : Nat) (a0 : Int × tL × List Int) : runF (f22E K) Tryz.f22 [(.ro, (.cons sI (.cons sL (.list 2 sI))))] [sI, sI, sI] (a0, ()) = f22G K a0 := by kernel_rfl
theorem f23_run (K : Nat) (a0 : Int × tL × List Int) : runF (f23E K) Tryz.f23 [(.ro, (.cons sI (.cons sL (.list 2 sI))))] [sI, sI, sI] (a0, ()) = f23G K a0 := by kernel_rfl
theorem f24_run (K : Nat) (a0 : Int × tL × List Int) : runF (f24E K) Tryz.f24 [(.ro, (.cons sI (.cons sL (.list 2 sI))))] [sL, sI] (a0, ()) = f24G K a0 := by kernel_rfl
theorem f138_run (K : Nat) (a0 : Int × tL × List Int) : runF (f138E K) Tryz.f138 [(.ro, (.cons sI (.cons sL (.list 2 sI))))] [(.list 57 sM), sI] (a0, ()) = f138G K a0 := by kernel_rfl
theorem f25_run (K : Nat) (a0 : Int × tL × List Int) : runF (f25E K) Tryz.f25 [(.ro, (.cons sI (.cons sL (.list 2 sI))))] [sI, sI] (a0, ()) = f25G K a0 := by kernel_rfl
theorem f3_run (K : Nat) (a0 : List Int) : runF (f3E K) Tryz.f3 [(.ro, (.list 5 (.int .u8)))] [.bool] (a0, ()) = f3G K a0 := by kernel_rfl
end Go.Proofs.YtniidcalfhhciaaGreat.X
