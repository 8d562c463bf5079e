/- Functions of the program as plain Lean functions, and that the program does what they say. Printed by gen.py. -/
import Derived.Test.YtloicbfdofgggaaDoorD0
namespace Go.Proofs.YtloicbfdofgggaaDoor.X
open Go
set_option maxRecDepth 100000
attribute [local instance] cwD
set_option linter.unusedVariables false
theorem f8_t2 (K : Nat) (a0 : ByteArray) (a1 : Int) (bq3 : Int) (bq4 : Int) (bq5 : List ByteArray) : ∀ (n : Nat) (q3 : Int) (q4 : Int) (q5 : List ByteArray), loopN (exec (f8E K) 0 (selC f8C [1, 1, 1, 0, 1, 0, 0])) 0 (f8_fr2 a0 a1 bq3 bq4 bq5) n (f8_fr2 a0 a1 q3 q4 q5) (f8_k2 K a0 a1 (realL (f8E K) 0)) = f8_l2 K a0 a1 n q3 q4 q5 := by
  have key : ∀ (lr : LR (List ByteArray)) (L : Fr → Option (List ByteArray)) (q3 : Int) (q4 : Int) (q5 : List ByteArray), execG (f8E K) 0 lr (selC f8C [1, 1, 1, 0, 1, 0, 0]) (f8_fr2 a0 a1 q3 q4 q5) (loopK 0 (f8_fr2 a0 a1 bq3 bq4 bq5) L (f8_k2 K a0 a1 lr)) = f8_b2 K a0 a1 (fun v0 v1 v2 => L (f8_fr2 a0 a1 v0 v1 v2)) q3 q4 q5 := by
    intro lr L q3 q4 q5; kernel_rfl
  intro n q3 q4 q5
  refine loopN_iter (X := Int × Int × List ByteArray) (frame := fun x => (f8_fr2 a0 a1 x.1 x.2.1 x.2.2)) (body := (fun L x => (fun L2 => f8_b2 K a0 a1 L2 x.1 x.2.1 x.2.2) (fun v0 v1 v2 => L (v0, v1, v2)))) (fun L x => ?_) n (q3, q4, q5)
  rw [exec_G]
  exact (key (realL (f8E K) 0) L x.1 x.2.1 x.2.2).trans (by rfl)
theorem f8_run (K : Nat) (a0 : ByteArray) (a1 : Int) : runF (f8E K) Tryd.f8 [(.ro, .str), (.ro, (.int .u8))] [(.list 9 .str)] (a0, a1, ()) = f8G K a0 a1 := by
  have key : ∀ (lr : LR (List ByteArray)), runG (f8E K) Tryd.f8 [(.ro, .str), (.ro, (.int .u8))] [(.list 9 .str)] (a0, a1, ()) lr = f8_g K a0 a1 (fun d0 d1 d2 => lr (selC f8C [1, 1, 1, 0, 1, 0, 0]) (f8_fr2 a0 a1 d0 d1 d2) (f8_k2 K a0 a1 lr)) := by intro lr; kernel_rfl
  have h2 : (fun d0 d1 d2 => (realL (f8E K) 0) (selC f8C [1, 1, 1, 0, 1, 0, 0]) (f8_fr2 a0 a1 d0 d1 d2) (f8_k2 K a0 a1 (realL (f8E K) 0))) = fun d0 d1 d2 => f8_l2 K a0 a1 K d0 d1 d2 := by
    funext d0 d1 d2
    exact f8_t2 K a0 a1 d0 d1 d2 K d0 d1 d2
  exact runF_G (n0 := 0) (by rfl) ((key (realL (f8E K) 0)).trans (by rw [h2] <;> rfl))
theorem f26_run (K : Nat) (rec : Int → Option ByteArray) (a0 : Int) : runF (f26E K rec) Tryd.f26 [(.ro, (.int .i64))] [.str] (a0, ()) = f26_s K rec a0 := by kernel_rfl
theorem f18_t2 (K : Nat) (a0 : ByteArray) (bq3 : Int) (bq4 : Int) : ∀ (n : Nat) (q3 : Int) (q4 : Int), loopN (exec (f18E K) 0 (selC f18C [1, 1, 1, 0, 1, 0, 0])) 0 (f18_fr2 a0 bq3 bq4) n (f18_fr2 a0 q3 q4) (f18_k2 K a0 (realL (f18E K) 0)) = f18_l2 K a0 n q3 q4 := by
  have key : ∀ (lr : LR (Int × Bool)) (L : Fr → Option (Int × Bool)) (q3 : Int) (q4 : Int), execG (f18E K) 0 lr (selC f18C [1, 1, 1, 0, 1, 0, 0]) (f18_fr2 a0 q3 q4) (loopK 0 (f18_fr2 a0 bq3 bq4) L (f18_k2 K a0 lr)) = f18_b2 K a0 (fun v0 v1 => L (f18_fr2 a0 v0 v1)) q3 q4 := by
    intro lr L q3 q4; kernel_rfl
  intro n q3 q4
  refine loopN_iter (X := Int × Int) (frame := fun x => (f18_fr2 a0 x.1 x.2)) (body := (fun L x => (fun L2 => f18_b2 K a0 L2 x.1 x.2) (fun v0 v1 => L (v0, v1)))) (fun L x => ?_) n (q3, q4)
  rw [exec_G]
  exact (key (realL (f18E K) 0) L x.1 x.2).trans (by rfl)
theorem f18_run (K : Nat) (a0 : ByteArray) : runF (f18E K) Tryd.f18 [(.ro, .str)] [(.int .i64), .bool] (a0, ()) = f18G K a0 := by
  have key : ∀ (lr : LR (Int × Bool)), runG (f18E K) Tryd.f18 [(.ro, .str)] [(.int .i64), .bool] (a0, ()) lr = f18_g K a0 (fun d0 d1 => lr (selC f18C [1, 1, 1, 0, 1, 0, 0]) (f18_fr2 a0 d0 d1) (f18_k2 K a0 lr)) := by intro lr; kernel_rfl
  have h2 : (fun d0 d1 => (realL (f18E K) 0) (selC f18C [1, 1, 1, 0, 1, 0, 0]) (f18_fr2 a0 d0 d1) (f18_k2 K a0 (realL (f18E K) 0))) = fun d0 d1 => f18_l2 K a0 K d0 d1 := by
    funext d0 d1
    exact f18_t2 K a0 d0 d1 K d0 d1
  exact runF_G (n0 := 0) (by rfl) ((key (realL (f18E K) 0)).trans (by rw [h2] <;> rfl))
theorem f13_run (K : Nat) (a0 : ByteArray) : runF (f13E K) Tryd.f13 [(.ro, .str)] [(.int .i64), .bool] (a0, ()) = f13G K a0 := by kernel_rfl
theorem f9_t3 (K : Nat) (a0 : List ByteArray) (bq4 : Int) (bq5 : List Int) : ∀ (n : Nat) (q4 : Int) (q5 : List Int), loopN (exec (f9E K) 1 (selC f9C [1, 1, 0, 1, 0, 0])) 1 (f9_fr3 a0 bq4 bq5) n (f9_fr3 a0 q4 q5) (f9_k3 K a0 (realL (f9E K) 1)) = f9_l3 K a0 n q4 q5 := by
  have key : ∀ (lr : LR ((List Int) × Bool)) (L : Fr → Option ((List Int) × Bool)) (q4 : Int) (q5 : List Int), execG (f9E K) 1 lr (selC f9C [1, 1, 0, 1, 0, 0]) (f9_fr3 a0 q4 q5) (loopK 1 (f9_fr3 a0 bq4 bq5) L (f9_k3 K a0 lr)) = f9_b3 K a0 (fun v0 v1 => L (f9_fr3 a0 v0 v1)) q4 q5 := by
    intro lr L q4 q5; kernel_rfl
  intro n q4 q5
  refine loopN_iter (X := Int × List Int) (frame := fun x => (f9_fr3 a0 x.1 x.2)) (body := (fun L x => (fun L3 => f9_b3 K a0 L3 x.1 x.2) (fun v0 v1 => L (v0, v1)))) (fun L x => ?_) n (q4, q5)
  rw [exec_G]
  exact (key (realL (f9E K) 1) L x.1 x.2).trans (by rfl)
theorem f9_run (K : Nat) (a0 : List ByteArray) : runF (f9E K) Tryd.f9 [(.ro, (.list 9 .str))] [(.list 2 (.int .i64)), .bool] (a0, ()) = f9G K a0 := by
  have key : ∀ (lr : LR ((List Int) × Bool)), runG (f9E K) Tryd.f9 [(.ro, (.list 9 .str))] [(.list 2 (.int .i64)), .bool] (a0, ()) lr = f9_g K a0 (fun d0 d1 => lr (selC f9C [1, 1, 0, 1, 0, 0]) (f9_fr3 a0 d0 d1) (f9_k3 K a0 lr)) := by intro lr; kernel_rfl
  have h3 : (fun d0 d1 => (realL (f9E K) 1) (selC f9C [1, 1, 0, 1, 0, 0]) (f9_fr3 a0 d0 d1) (f9_k3 K a0 (realL (f9E K) 1))) = fun d0 d1 => f9_l3 K a0 K d0 d1 := by
    funext d0 d1
    exact f9_t3 K a0 d0 d1 K d0 d1
  exact runF_G (n0 := 1) (by rfl) ((key (realL (f9E K) 1)).trans (by rw [h3] <;> rfl))
theorem f6_t5 (K : Nat) (a0 : ByteArray) (bq6 : Int) : ∀ (n : Nat) (q6 : Int), loopN (exec (f6E K) 0 (selC f6C [1, 1, 0, 1, 0, 0])) 0 (f6_fr5 a0 bq6) n (f6_fr5 a0 q6) (f6_k5 K a0 (realL (f6E K) 0)) = f6_l5 K a0 n q6 := by
  have key : ∀ (lr : LR (ByteArray × ByteArray × (List Int) × Bool)) (L : Fr → Option (ByteArray × ByteArray × (List Int) × Bool)) (q6 : Int), execG (f6E K) 0 lr (selC f6C [1, 1, 0, 1, 0, 0]) (f6_fr5 a0 q6) (loopK 0 (f6_fr5 a0 bq6) L (f6_k5 K a0 lr)) = f6_b5 K a0 (fun v0 => L (f6_fr5 a0 v0)) q6 := by
    intro lr L q6; kernel_rfl
  intro n q6
  refine loopN_iter (X := Int) (frame := fun x => (f6_fr5 a0 x)) (body := (fun L x => (fun L5 => f6_b5 K a0 L5 x) (fun v0 => L v0))) (fun L x => ?_) n q6
  rw [exec_G]
  exact (key (realL (f6E K) 0) L x).trans (by rfl)
theorem f6_run (K : Nat) (a0 : ByteArray) : runF (f6E K) Tryd.f6 [(.ro, .str)] [.str, .str, (.list 2 (.int .i64)), .bool] (a0, ()) = f6G K a0 := by
  have key : ∀ (lr : LR (ByteArray × ByteArray × (List Int) × Bool)), runG (f6E K) Tryd.f6 [(.ro, .str)] [.str, .str, (.list 2 (.int .i64)), .bool] (a0, ()) lr = f6_g K a0 (fun d0 => lr (selC f6C [1, 1, 0, 1, 0, 0]) (f6_fr5 a0 d0) (f6_k5 K a0 lr)) := by intro lr; kernel_rfl
  have h5 : (fun d0 => (realL (f6E K) 0) (selC f6C [1, 1, 0, 1, 0, 0]) (f6_fr5 a0 d0) (f6_k5 K a0 (realL (f6E K) 0))) = fun d0 => f6_l5 K a0 K d0 := by
    funext d0
    exact f6_t5 K a0 d0 K d0
  exact runF_G (n0 := 0) (by rfl) ((key (realL (f6E K) 0)).trans (by rw [h5] <;> rfl))
theorem f4_run (K : Nat) (a0 : ByteArray) : runF (f4E K) Tryd.f4 [(.ro, .str)] [.bool] (a0, ()) = f4G K a0 := by kernel_rfl
theorem f24_run (K : Nat) (a0 : Int) : runF (f24E K) Tryd.f24 [(.ro, (.int .i64))] [.str] (a0, ()) = f24G K a0 := by kernel_rfl
theorem f37_run (K : Nat) (a0 : ByteArray) (a1 : ByteArray) : runF (f37E K) Tryd.f37 [(.ro, .str), (.ro, .str)] [.bool] (a0, a1, ()) = f37G K a0 a1 := by kernel_rfl
theorem f25_run (K : Nat) (a0 : ByteArray) (a1 : ByteArray) : runF (f25E K) Tryd.f25 [(.ro, .str), (.ro, .str)] [.str] (a0, a1, ()) = f25G K a0 a1 := by kernel_rfl
theorem f17_run (K : Nat) (a0 : ByteArray) (a1 : ByteArray) : runF (f17E K) Tryd.f17 [(.ro, .str), (.ro, .str)] [.str] (a0, a1, ()) = f17G K a0 a1 := by kernel_rfl
theorem f12_t4 (K : Nat) (a0 : List ByteArray) (bq5 : Int) (bq6 : List Int) : ∀ (n : Nat) (q5 : Int) (q6 : List Int), loopN (exec (f12E K) 1 (selC f12C [1, 1, 0, 1, 0, 0])) 1 (f12_fr4 a0 bq5 bq6) n (f12_fr4 a0 q5 q6) (f12_k4 K a0 (realL (f12E K) 1)) = f12_l4 K a0 n q5 q6 := by
  have key : ∀ (lr : LR ((List Int) × Bool)) (L : Fr → Option ((List Int) × Bool)) (q5 : Int) (q6 : List Int), execG (f12E K) 1 lr (selC f12C [1, 1, 0, 1, 0, 0]) (f12_fr4 a0 q5 q6) (loopK 1 (f12_fr4 a0 bq5 bq6) L (f12_k4 K a0 lr)) = f12_b4 K a0 (fun v0 v1 => L (f12_fr4 a0 v0 v1)) q5 q6 := by
    intro lr L q5 q6; kernel_rfl
  intro n q5 q6
  refine loopN_iter (X := Int × List Int) (frame := fun x => (f12_fr4 a0 x.1 x.2)) (body := (fun L x => (fun L4 => f12_b4 K a0 L4 x.1 x.2) (fun v0 v1 => L (v0, v1)))) (fun L x => ?_) n (q5, q6)
  rw [exec_G]
  exact (key (realL (f12E K) 1) L x.1 x.2).trans (by rfl)
theorem f12_run (K : Nat) (a0 : List ByteArray) : runF (f12E K) Tryd.f12 [(.ro, (.list 9 .str))] [(.list 2 (.int .i64)), .bool] (a0, ()) = f12G K a0 := by
  have key : ∀ (lr : LR ((List Int) × Bool)), runG (f12E K) Tryd.f12 [(.ro, (.list 9 .str))] [(.list 2 (.int .i64)), .bool] (a0, ()) lr = f12_g K a0 (fun d0 d1 => lr (selC f12C [1, 1, 0, 1, 0, 0]) (f12_fr4 a0 d0 d1) (f12_k4 K a0 lr)) := by intro lr; kernel_rfl
  have h4 : (fun d0 d1 => (realL (f12E K) 1) (selC f12C [1, 1, 0, 1, 0, 0]) (f12_fr4 a0 d0 d1) (f12_k4 K a0 (realL (f12E K) 1))) = fun d0 d1 => f12_l4 K a0 K d0 d1 := by
    funext d0 d1
    exact f12_t4 K a0 d0 d1 K d0 d1
  exact runF_G (n0 := 1) (by rfl) ((key (realL (f12E K) 1)).trans (by rw [h4] <;> rfl))
theorem f7_run (K : Nat) (a0 : ByteArray) : runF (f7E K) Tryd.f7 [(.ro, .str)] [(.cons .str (.cons .str (.cons .str (.list 2 (.int .i64))))), .bool] (a0, ()) = f7G K a0 := by kernel_rfl
theorem f5_run (K : Nat) (a0 : ByteArray) : runF (f5E K) Tryd.f5 [(.ro, .str)] [.bool] (a0, ()) = f5G K a0 := by kernel_rfl
theorem f3_run (K : Nat) (a0 : ByteArray) : runF (f3E K) Tryd.f3 [(.ro, .str)] [.bool] (a0, ()) = f3G K a0 := by kernel_rfl
end Go.Proofs.YtloicbfdofgggaaDoor.X
