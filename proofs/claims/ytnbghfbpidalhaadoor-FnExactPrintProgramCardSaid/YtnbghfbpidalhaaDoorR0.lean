/- Functions of the program as plain Lean functions, and that the program does what they say. Printed by gen.py. -/
import Derived.Test.YtnbghfbpidalhaaDoorD0
namespace Go.Proofs.YtnbghfbpidalhaaDoor.X
open Go
set_option maxRecDepth 100000
set_option linter.unusedVariables false
theorem f9_run (K : Nat) (a0 : List Int) (a1 : Int) : runF (f9E K) Tryd.f9 [(.ro, (.list 2 (.int .i64))), (.ro, (.int .i64))] [(.int .i64)] (a0, a1, ()) = f9G K a0 a1 := by kernel_rfl
theorem f4_run (K : Nat) (a0 : Int × (Int × Int × Int) × List Int) (a1 : Int) : runF (f4E K) Tryd.f4 [(.ro, (.cons (.int .i64) (.cons (.cons (.int .i64) (.cons (.int .i64) (.int .i64))) (.list 2 (.int .i64))))), (.ro, (.int .i64))] [(.int .i64)] (a0, a1, ()) = f4G K a0 a1 := by kernel_rfl
theorem f14_run (K : Nat) (a0 : Int × Int × Int) : runF (f14E K) Tryd.f14 [(.ro, (.cons (.int .i64) (.cons (.int .i64) (.int .i64))))] [(.cons (.int .i64) (.cons (.int .i64) (.int .i64)))] (a0, ()) = f14G K a0 := by kernel_rfl
theorem f15_t2 (K : Nat) (a0 : List Int) (bq3 : Int) (bq4 : List Int) : ∀ (n : Nat) (q3 : Int) (q4 : List Int), loopN (exec (f15E K) 1 (selC f15C [1, 1, 0, 1, 0, 0])) 1 (f15_fr2 a0 bq3 bq4) n (f15_fr2 a0 q3 q4) (f15_k2 K a0 (realL (f15E K) 1)) = f15_l2 K a0 n q3 q4 := by
  have key : ∀ (lr : LR (List Int)) (L : Fr → Option (List Int)) (q3 : Int) (q4 : List Int), execG (f15E K) 1 lr (selC f15C [1, 1, 0, 1, 0, 0]) (f15_fr2 a0 q3 q4) (loopK 1 (f15_fr2 a0 bq3 bq4) L (f15_k2 K a0 lr)) = f15_b2 K a0 (fun v0 v1 => L (f15_fr2 a0 v0 v1)) q3 q4 := by
    intro lr L q3 q4; kernel_rfl
  intro n q3 q4
  refine loopN_iter (X := Int × List Int) (frame := fun x => (f15_fr2 a0 x.1 x.2)) (body := (fun L x => (fun L2 => f15_b2 K a0 L2 x.1 x.2) (fun v0 v1 => L (v0, v1)))) (fun L x => ?_) n (q3, q4)
  rw [exec_G]
  exact (key (realL (f15E K) 1) L x.1 x.2).trans (by rfl)
theorem f15_run (K : Nat) (a0 : List Int) : runF (f15E K) Tryd.f15 [(.ro, (.list 2 (.int .i64)))] [(.list 2 (.int .i64))] (a0, ()) = f15G K a0 := by
  have key : ∀ (lr : LR (List Int)), runG (f15E K) Tryd.f15 [(.ro, (.list 2 (.int .i64)))] [(.list 2 (.int .i64))] (a0, ()) lr = f15_g K a0 (fun d0 d1 => lr (selC f15C [1, 1, 0, 1, 0, 0]) (f15_fr2 a0 d0 d1) (f15_k2 K a0 lr)) := by intro lr; kernel_rfl
  have h2 : (fun d0 d1 => (realL (f15E K) 1) (selC f15C [1, 1, 0, 1, 0, 0]) (f15_fr2 a0 d0 d1) (f15_k2 K a0 (realL (f15E K) 1))) = fun d0 d1 => f15_l2 K a0 K d0 d1 := by
    funext d0 d1
    exact f15_t2 K a0 d0 d1 K d0 d1
  exact runF_G (n0 := 1) (by rfl) ((key (realL (f15E K) 1)).trans (by rw [h2] <;> rfl))
theorem f6_run (K : Nat) (a0 : Int × (Int × Int × Int) × List Int) : runF (f6E K) Tryd.f6 [(.ro, (.cons (.int .i64) (.cons (.cons (.int .i64) (.cons (.int .i64) (.int .i64))) (.list 2 (.int .i64)))))] [(.cons (.int .i64) (.cons (.cons (.int .i64) (.cons (.int .i64) (.int .i64))) (.list 2 (.int .i64))))] (a0, ()) = f6G K a0 := by kernel_rfl
theorem f35_run (K : Nat) (a0 : Int) : runF (f35E K) Tryd.f35 [(.ro, (.int .i64))] [.bool] (a0, ()) = f35G K a0 := by kernel_rfl
theorem f37_run (K : Nat) (a0 : Int) (a1 : Int) (a2 : Int) : runF (f37E K) Tryd.f37 [(.ro, (.int .i64)), (.ro, (.int .i64)), (.ro, (.int .i64))] [.bool] (a0, a1, a2, ()) = f37G K a0 a1 a2 := by kernel_rfl
theorem f36_run (K : Nat) (a0 : Int × Int × Int) : runF (f36E K) Tryd.f36 [(.ro, (.cons (.int .i64) (.cons (.int .i64) (.int .i64))))] [.bool] (a0, ()) = f36G K a0 := by kernel_rfl
theorem f22_run (K : Nat) (a0 : Int) (a1 : Int × Int × Int) : runF (f22E K) Tryd.f22 [(.ro, (.int .i64)), (.ro, (.cons (.int .i64) (.cons (.int .i64) (.int .i64))))] [(.int .i64)] (a0, a1, ()) = f22G K a0 a1 := by kernel_rfl
theorem f23_t3 (K : Nat) (a0 : List Int) (a1 : Int) (a2 : Int) (a3 : Int) (bq4 : Int) : ∀ (n : Nat) (q4 : Int), loopN (exec (f23E K) 1 (selC f23C [1, 0, 1, 0, 0])) 1 (f23_fr3 a0 a1 a2 a3 bq4) n (f23_fr3 a0 a1 a2 a3 q4) (f23_k3 K a0 a1 a2 a3 (realL (f23E K) 1)) = f23_l3 K a0 a1 a2 a3 n q4 := by
  have key : ∀ (lr : LR Bool) (L : Fr → Option Bool) (q4 : Int), execG (f23E K) 1 lr (selC f23C [1, 0, 1, 0, 0]) (f23_fr3 a0 a1 a2 a3 q4) (loopK 1 (f23_fr3 a0 a1 a2 a3 bq4) L (f23_k3 K a0 a1 a2 a3 lr)) = f23_b3 K a0 a1 a2 a3 (fun v0 => L (f23_fr3 a0 a1 a2 a3 v0)) q4 := by
    intro lr L q4; kernel_rfl
  intro n q4
  refine loopN_iter (X := Int) (frame := fun x => (f23_fr3 a0 a1 a2 a3 x)) (body := (fun L x => (fun L3 => f23_b3 K a0 a1 a2 a3 L3 x) (fun v0 => L v0))) (fun L x => ?_) n q4
  rw [exec_G]
  exact (key (realL (f23E K) 1) L x).trans (by rfl)
theorem f23_run (K : Nat) (a0 : List Int) (a1 : Int) (a2 : Int) (a3 : Int) : runF (f23E K) Tryd.f23 [(.ro, (.list 2 (.int .i64))), (.ro, (.int .i64)), (.ro, (.int .i64)), (.ro, (.int .i64))] [.bool] (a0, a1, a2, a3, ()) = f23G K a0 a1 a2 a3 := by
  have key : ∀ (lr : LR Bool), runG (f23E K) Tryd.f23 [(.ro, (.list 2 (.int .i64))), (.ro, (.int .i64)), (.ro, (.int .i64)), (.ro, (.int .i64))] [.bool] (a0, a1, a2, a3, ()) lr = f23_g K a0 a1 a2 a3 (fun d0 => lr (selC f23C [1, 0, 1, 0, 0]) (f23_fr3 a0 a1 a2 a3 d0) (f23_k3 K a0 a1 a2 a3 lr)) := by intro lr; kernel_rfl
  have h3 : (fun d0 => (realL (f23E K) 1) (selC f23C [1, 0, 1, 0, 0]) (f23_fr3 a0 a1 a2 a3 d0) (f23_k3 K a0 a1 a2 a3 (realL (f23E K) 1))) = fun d0 => f23_l3 K a0 a1 a2 a3 K d0 := by
    funext d0
    exact f23_t3 K a0 a1 a2 a3 d0 K d0
  exact runF_G (n0 := 1) (by rfl) ((key (realL (f23E K) 1)).trans (by rw [h3] <;> rfl))
theorem f10_run (K : Nat) (a0 : Int × (Int × Int × Int) × List Int) : runF (f10E K) Tryd.f10 [(.ro, (.cons (.int .i64) (.cons (.cons (.int .i64) (.cons (.int .i64) (.int .i64))) (.list 2 (.int .i64)))))] [.bool] (a0, ()) = f10G K a0 := by kernel_rfl
theorem f11_t9 (K : Nat) (a0 : Int × Int × Int) (q7 : Int) (F6 : Fr → Option (List (Int × Int))) (bq7 : Int) (bq8 : List (Int × Int)) (bq10 : Int) (bq11 : List (Int × Int)) : ∀ (n : Nat) (q10 : Int) (q11 : List (Int × Int)), loopN (exec (f11E K) 0 (selC f11C [1, 1, 0, 1, 0, 0, 1, 0, 0, 1, 0, 0])) 0 (f11_fr9 a0 q7 bq10 bq11) n (f11_fr9 a0 q7 q10 q11) (f11_k9 K a0 F6 bq7 bq8 (realL (f11E K) 0)) = f11_l9 K a0 q7 (fun v0 v1 => F6 (f11_fr6 a0 v0 v1)) n q10 q11 := by
  have key : ∀ (lr : LR (List (Int × Int))) (L : Fr → Option (List (Int × Int))) (q10 : Int) (q11 : List (Int × Int)), execG (f11E K) 0 lr (selC f11C [1, 1, 0, 1, 0, 0, 1, 0, 0, 1, 0, 0]) (f11_fr9 a0 q7 q10 q11) (loopK 0 (f11_fr9 a0 q7 bq10 bq11) L (f11_k9 K a0 F6 bq7 bq8 lr)) = f11_b9 K a0 q7 (fun v0 v1 => F6 (f11_fr6 a0 v0 v1)) (fun v0 v1 => L (f11_fr9 a0 q7 v0 v1)) q10 q11 := by
    intro lr L q10 q11; kernel_rfl
  intro n q10 q11
  refine loopN_iter (X := Int × List (Int × Int)) (frame := fun x => (f11_fr9 a0 q7 x.1 x.2)) (body := (fun L x => (fun L9 => f11_b9 K a0 q7 (fun v0 v1 => F6 (f11_fr6 a0 v0 v1)) L9 x.1 x.2) (fun v0 v1 => L (v0, v1)))) (fun L x => ?_) n (q10, q11)
  rw [exec_G]
  exact (key (realL (f11E K) 0) L x.1 x.2).trans (by rfl)
theorem f11_t6 (K : Nat) (a0 : Int × Int × Int) (bq7 : Int) (bq8 : List (Int × Int)) : ∀ (n : Nat) (q7 : Int) (q8 : List (Int × Int)), loopN (exec (f11E K) 0 (selC f11C [1, 1, 0, 1, 0, 0])) 0 (f11_fr6 a0 bq7 bq8) n (f11_fr6 a0 q7 q8) (f11_k6 K a0 (realL (f11E K) 0)) = f11_l6 K a0 n q7 q8 := by
  have key : ∀ (lr : LR (List (Int × Int))) (L : Fr → Option (List (Int × Int))) (q7 : Int) (q8 : List (Int × Int)), execG (f11E K) 0 lr (selC f11C [1, 1, 0, 1, 0, 0]) (f11_fr6 a0 q7 q8) (loopK 0 (f11_fr6 a0 bq7 bq8) L (f11_k6 K a0 lr)) = f11_b6 K a0 (fun c0 d0 d1 => lr (selC f11C [1, 1, 0, 1, 0, 0, 1, 0, 0, 1, 0, 0]) (f11_fr9 a0 c0 d0 d1) (f11_k9 K a0 L bq7 bq8 lr)) (fun v0 v1 => L (f11_fr6 a0 v0 v1)) q7 q8 := by
    intro lr L q7 q8; kernel_rfl
  intro n q7 q8
  refine loopN_iter (X := Int × List (Int × Int)) (frame := fun x => (f11_fr6 a0 x.1 x.2)) (body := (fun L x => (fun L6 => f11_b6 K a0 (fun c0 d0 d1 => f11_l9 K a0 c0 L6 K d0 d1) L6 x.1 x.2) (fun v0 v1 => L (v0, v1)))) (fun L x => ?_) n (q7, q8)
  rw [exec_G]
  have h9 : (fun c0 d0 d1 => (realL (f11E K) 0) (selC f11C [1, 1, 0, 1, 0, 0, 1, 0, 0, 1, 0, 0]) (f11_fr9 a0 c0 d0 d1) (f11_k9 K a0 L bq7 bq8 (realL (f11E K) 0))) = fun c0 d0 d1 => f11_l9 K a0 c0 (fun v0 v1 => L (f11_fr6 a0 v0 v1)) K d0 d1 := by
    funext c0 d0 d1
    exact f11_t9 K a0 c0 L bq7 bq8 d0 d1 K d0 d1
  exact (key (realL (f11E K) 0) L x.1 x.2).trans (by rw [h9] <;> rfl)
theorem f11_run (K : Nat) (a0 : Int × Int × Int) : runF (f11E K) Tryd.f11 [(.ro, (.cons (.int .i64) (.cons (.int .i64) (.int .i64))))] [(.list 43 (.cons (.int .i64) (.int .i64)))] (a0, ()) = f11G K a0 := by
  have key : ∀ (lr : LR (List (Int × Int))), runG (f11E K) Tryd.f11 [(.ro, (.cons (.int .i64) (.cons (.int .i64) (.int .i64))))] [(.list 43 (.cons (.int .i64) (.int .i64)))] (a0, ()) lr = f11_g K a0 (fun d0 d1 => lr (selC f11C [1, 1, 0, 1, 0, 0]) (f11_fr6 a0 d0 d1) (f11_k6 K a0 lr)) := by intro lr; kernel_rfl
  have h6 : (fun d0 d1 => (realL (f11E K) 0) (selC f11C [1, 1, 0, 1, 0, 0]) (f11_fr6 a0 d0 d1) (f11_k6 K a0 (realL (f11E K) 0))) = fun d0 d1 => f11_l6 K a0 K d0 d1 := by
    funext d0 d1
    exact f11_t6 K a0 d0 d1 K d0 d1
  exact runF_G (n0 := 0) (by rfl) ((key (realL (f11E K) 0)).trans (by rw [h6] <;> rfl))
theorem f26_run (K : Nat) (rec : Int → Option ByteArray) (a0 : Int) : runF (f26E K rec) Tryd.f26 [(.ro, (.int .i64))] [.str] (a0, ()) = f26_s K rec a0 := by kernel_rfl
theorem f40_run (K : Nat) (a0 : Int) : runF (f40E K) Tryd.f40 [(.ro, (.int .i64))] [.str] (a0, ()) = f40G K a0 := by kernel_rfl
theorem f38_t3 (K : Nat) (a0 : List Int) (a1 : ByteArray) (bq4 : ByteArray) (bq5 : Int) : ∀ (n : Nat) (q4 : ByteArray) (q5 : Int), loopN (exec (f38E K) 1 (selC f38C [1, 1, 0, 1, 0, 0])) 1 (f38_fr3 a0 a1 bq4 bq5) n (f38_fr3 a0 a1 q4 q5) (f38_k3 K a0 a1 (realL (f38E K) 1)) = f38_l3 K a0 a1 n q4 q5 := by
  have key : ∀ (lr : LR ByteArray) (L : Fr → Option ByteArray) (q4 : ByteArray) (q5 : Int), execG (f38E K) 1 lr (selC f38C [1, 1, 0, 1, 0, 0]) (f38_fr3 a0 a1 q4 q5) (loopK 1 (f38_fr3 a0 a1 bq4 bq5) L (f38_k3 K a0 a1 lr)) = f38_b3 K a0 a1 (fun v0 v1 => L (f38_fr3 a0 a1 v0 v1)) q4 q5 := by
    intro lr L q4 q5; kernel_rfl
  intro n q4 q5
  refine loopN_iter (X := ByteArray × Int) (frame := fun x => (f38_fr3 a0 a1 x.1 x.2)) (body := (fun L x => (fun L3 => f38_b3 K a0 a1 L3 x.1 x.2) (fun v0 v1 => L (v0, v1)))) (fun L x => ?_) n (q4, q5)
  rw [exec_G]
  exact (key (realL (f38E K) 1) L x.1 x.2).trans (by rfl)
theorem f38_run (K : Nat) (a0 : List Int) (a1 : ByteArray) : runF (f38E K) Tryd.f38 [(.ro, (.list 2 (.int .i64))), (.ro, .str)] [.str] (a0, a1, ()) = f38G K a0 a1 := by
  have key : ∀ (lr : LR ByteArray), runG (f38E K) Tryd.f38 [(.ro, (.list 2 (.int .i64))), (.ro, .str)] [.str] (a0, a1, ()) lr = f38_g K a0 a1 (fun d0 d1 => lr (selC f38C [1, 1, 0, 1, 0, 0]) (f38_fr3 a0 a1 d0 d1) (f38_k3 K a0 a1 lr)) := by intro lr; kernel_rfl
  have h3 : (fun d0 d1 => (realL (f38E K) 1) (selC f38C [1, 1, 0, 1, 0, 0]) (f38_fr3 a0 a1 d0 d1) (f38_k3 K a0 a1 (realL (f38E K) 1))) = fun d0 d1 => f38_l3 K a0 a1 K d0 d1 := by
    funext d0 d1
    exact f38_t3 K a0 a1 d0 d1 K d0 d1
  exact runF_G (n0 := 1) (by rfl) ((key (realL (f38E K) 1)).trans (by rw [h3] <;> rfl))
theorem f24_run (K : Nat) (a0 : Int × Int × Int) : runF (f24E K) Tryd.f24 [(.ro, (.cons (.int .i64) (.cons (.int .i64) (.int .i64))))] [.str] (a0, ()) = f24G K a0 := by kernel_rfl
theorem f12_run (K : Nat) (a0 : Int × (Int × Int × Int) × List Int) : runF (f12E K) Tryd.f12 [(.ro, (.cons (.int .i64) (.cons (.cons (.int .i64) (.cons (.int .i64) (.int .i64))) (.list 2 (.int .i64)))))] [.str] (a0, ()) = f12G K a0 := by kernel_rfl
theorem f39_run (K : Nat) (a0 : Int × Int) : runF (f39E K) Tryd.f39 [(.ro, (.cons (.int .i64) (.int .i64)))] [.bool] (a0, ()) = f39G K a0 := by kernel_rfl
theorem f25_run (K : Nat) (a0 : Int × Int) : runF (f25E K) Tryd.f25 [(.ro, (.cons (.int .i64) (.int .i64)))] [.str] (a0, ()) = f25G K a0 := by kernel_rfl
theorem f13_run (K : Nat) (a0 : Int × Int) (a1 : Int) : runF (f13E K) Tryd.f13 [(.ro, (.cons (.int .i64) (.int .i64))), (.ro, (.int .i64))] [.str] (a0, a1, ()) = f13G K a0 a1 := by kernel_rfl
theorem f5_t6 (K : Nat) (a0 : Int × (Int × Int × Int) × List Int) (y1 : Bool) (y2 : List (Int × Int)) (bq7 : ByteArray) (bq8 : Int) (bq9 : Int) : ∀ (n : Nat) (q7 : ByteArray) (q8 : Int) (q9 : Int), loopN (exec (f5E K) 1 (selC f5C [1, 1, 1, 1, 0, 1, 0, 0])) 1 (f5_fr6 a0 y1 y2 bq7 bq8 bq9) n (f5_fr6 a0 y1 y2 q7 q8 q9) (f5_k6 K a0 (realL (f5E K) 1)) = f5_l6 K a0 y1 y2 n q7 q8 q9 := by
  have key : ∀ (lr : LR (ByteArray × Int)) (L : Fr → Option (ByteArray × Int)) (q7 : ByteArray) (q8 : Int) (q9 : Int), execG (f5E K) 1 lr (selC f5C [1, 1, 1, 1, 0, 1, 0, 0]) (f5_fr6 a0 y1 y2 q7 q8 q9) (loopK 1 (f5_fr6 a0 y1 y2 bq7 bq8 bq9) L (f5_k6 K a0 lr)) = f5_b6 K a0 y1 y2 (fun v0 v1 v2 => L (f5_fr6 a0 y1 y2 v0 v1 v2)) q7 q8 q9 := by
    intro lr L q7 q8 q9; kernel_rfl
  intro n q7 q8 q9
  refine loopN_iter (X := ByteArray × Int × Int) (frame := fun x => (f5_fr6 a0 y1 y2 x.1 x.2.1 x.2.2)) (body := (fun L x => (fun L6 => f5_b6 K a0 y1 y2 L6 x.1 x.2.1 x.2.2) (fun v0 v1 v2 => L (v0, v1, v2)))) (fun L x => ?_) n (q7, q8, q9)
  rw [exec_G]
  exact (key (realL (f5E K) 1) L x.1 x.2.1 x.2.2).trans (by rfl)
theorem f5_run (K : Nat) (a0 : Int × (Int × Int × Int) × List Int) : runF (f5E K) Tryd.f5 [(.ro, (.cons (.int .i64) (.cons (.cons (.int .i64) (.cons (.int .i64) (.int .i64))) (.list 2 (.int .i64)))))] [.str, (.int .i64)] (a0, ()) = f5G K a0 := by
  have key : ∀ (lr : LR (ByteArray × Int)), runG (f5E K) Tryd.f5 [(.ro, (.cons (.int .i64) (.cons (.cons (.int .i64) (.cons (.int .i64) (.int .i64))) (.list 2 (.int .i64)))))] [.str, (.int .i64)] (a0, ()) lr = f5_g K a0 (fun c0 c1 d0 d1 d2 => lr (selC f5C [1, 1, 1, 1, 0, 1, 0, 0]) (f5_fr6 a0 c0 c1 d0 d1 d2) (f5_k6 K a0 lr)) := by intro lr; kernel_rfl
  have h6 : (fun c0 c1 d0 d1 d2 => (realL (f5E K) 1) (selC f5C [1, 1, 1, 1, 0, 1, 0, 0]) (f5_fr6 a0 c0 c1 d0 d1 d2) (f5_k6 K a0 (realL (f5E K) 1))) = fun c0 c1 d0 d1 d2 => f5_l6 K a0 c0 c1 K d0 d1 d2 := by
    funext c0 c1 d0 d1 d2
    exact f5_t6 K a0 c0 c1 d0 d1 d2 K d0 d1 d2
  exact runF_G (n0 := 1) (by rfl) ((key (realL (f5E K) 1)).trans (by rw [h6] <;> rfl))
theorem f41_run (K : Nat) (a0 : Int) (a1 : Int) (a2 : Int) : runF (f41E K) Tryd.f41 [(.ro, (.int .i64)), (.ro, (.int .i64)), (.ro, (.int .i64))] [.bool] (a0, a1, a2, ()) = f41G K a0 a1 a2 := by kernel_rfl
theorem f27_run (K : Nat) (a0 : Int) : runF (f27E K) Tryd.f27 [(.ro, (.int .i64))] [.bool] (a0, ()) = f27G K a0 := by kernel_rfl
theorem f29_run (K : Nat) (a0 : Int × Int × Int) : runF (f29E K) Tryd.f29 [(.ro, (.cons (.int .i64) (.cons (.int .i64) (.int .i64))))] [(.int .i64)] (a0, ()) = f29G K a0 := by kernel_rfl
theorem f28_run (K : Nat) (a0 : Int × Int × Int) : runF (f28E K) Tryd.f28 [(.ro, (.cons (.int .i64) (.cons (.int .i64) (.int .i64))))] [.bool] (a0, ()) = f28G K a0 := by kernel_rfl
theorem f43_run (K : Nat) (a0 : Int) (a1 : Int) (a2 : Int) : runF (f43E K) Tryd.f43 [(.ro, (.int .i64)), (.cap, (.int .i64)), (.cap, (.int .i64))] [.bool] (a0, a1, a2, ()) = f43G K a0 a1 a2 := by kernel_rfl
theorem f49_t3 (K : Nat) (a0 : List Int) (a1 : (Int → Option Bool)) (bq4 : Int) : ∀ (n : Nat) (q4 : Int), loopN (exec (f49E K) 1 (selC f49C [1, 0, 1, 0, 0])) 1 (f49_fr3 a0 a1 bq4) n (f49_fr3 a0 a1 q4) (f49_k3 K a0 a1 (realL (f49E K) 1)) = f49_l3 K a0 a1 n q4 := by
  have key : ∀ (lr : LR Int) (L : Fr → Option Int) (q4 : Int), execG (f49E K) 1 lr (selC f49C [1, 0, 1, 0, 0]) (f49_fr3 a0 a1 q4) (loopK 1 (f49_fr3 a0 a1 bq4) L (f49_k3 K a0 a1 lr)) = f49_b3 K a0 a1 (fun v0 => L (f49_fr3 a0 a1 v0)) q4 := by
    intro lr L q4; kernel_rfl
  intro n q4
  refine loopN_iter (X := Int) (frame := fun x => (f49_fr3 a0 a1 x)) (body := (fun L x => (fun L3 => f49_b3 K a0 a1 L3 x) (fun v0 => L v0))) (fun L x => ?_) n q4
  rw [exec_G]
  exact (key (realL (f49E K) 1) L x).trans (by rfl)
theorem f49_run (K : Nat) (a0 : List Int) (a1 : (Int → Option Bool)) : runF (f49E K) Tryd.f49 [(.ro, (.list 2 (.int .i64))), (.ro, (.fn1 (.int .i64) .bool))] [(.int .i64)] (a0, a1, ()) = f49G K a0 a1 := by
  have key : ∀ (lr : LR Int), runG (f49E K) Tryd.f49 [(.ro, (.list 2 (.int .i64))), (.ro, (.fn1 (.int .i64) .bool))] [(.int .i64)] (a0, a1, ()) lr = f49_g K a0 a1 (fun d0 => lr (selC f49C [1, 0, 1, 0, 0]) (f49_fr3 a0 a1 d0) (f49_k3 K a0 a1 lr)) := by intro lr; kernel_rfl
  have h3 : (fun d0 => (realL (f49E K) 1) (selC f49C [1, 0, 1, 0, 0]) (f49_fr3 a0 a1 d0) (f49_k3 K a0 a1 (realL (f49E K) 1))) = fun d0 => f49_l3 K a0 a1 K d0 := by
    funext d0
    exact f49_t3 K a0 a1 d0 K d0
  exact runF_G (n0 := 1) (by rfl) ((key (realL (f49E K) 1)).trans (by rw [h3] <;> rfl))
theorem f42_run (K : Nat) (a0 : List Int) (a1 : (Int → Option Bool)) : runF (f42E K) Tryd.f42 [(.ro, (.list 2 (.int .i64))), (.ro, (.fn1 (.int .i64) .bool))] [.bool] (a0, a1, ()) = f42G K a0 a1 := by kernel_rfl
theorem f30_run (K : Nat) (a0 : List Int) (a1 : Int) (a2 : Int) : runF (f30E K) Tryd.f30 [(.ro, (.list 2 (.int .i64))), (.ro, (.int .i64)), (.ro, (.int .i64))] [.bool] (a0, a1, a2, ()) = f30G K a0 a1 a2 := by kernel_rfl
theorem f16_run (K : Nat) (a0 : Int × (Int × Int × Int) × List Int) : runF (f16E K) Tryd.f16 [(.ro, (.cons (.int .i64) (.cons (.cons (.int .i64) (.cons (.int .i64) (.int .i64))) (.list 2 (.int .i64)))))] [.bool] (a0, ()) = f16G K a0 := by kernel_rfl
theorem f18_t9 (K : Nat) (a0 : Int × Int × Int) (q7 : Int) (F6 : Fr → Option (List (Int × Int))) (bq7 : Int) (bq8 : List (Int × Int)) (bq10 : Int) (bq11 : List (Int × Int)) : ∀ (n : Nat) (q10 : Int) (q11 : List (Int × Int)), loopN (exec (f18E K) 0 (selC f18C [1, 1, 0, 1, 0, 0, 1, 1, 0, 0, 1, 1, 0, 0])) 0 (f18_fr9 a0 q7 bq10 bq11) n (f18_fr9 a0 q7 q10 q11) (f18_k9 K a0 F6 bq7 bq8 (realL (f18E K) 0)) = f18_l9 K a0 q7 (fun v0 v1 => F6 (f18_fr6 a0 v0 v1)) n q10 q11 := by
  have key : ∀ (lr : LR (List (Int × Int))) (L : Fr → Option (List (Int × Int))) (q10 : Int) (q11 : List (Int × Int)), execG (f18E K) 0 lr (selC f18C [1, 1, 0, 1, 0, 0, 1, 1, 0, 0, 1, 1, 0, 0]) (f18_fr9 a0 q7 q10 q11) (loopK 0 (f18_fr9 a0 q7 bq10 bq11) L (f18_k9 K a0 F6 bq7 bq8 lr)) = f18_b9 K a0 q7 (fun v0 v1 => F6 (f18_fr6 a0 v0 v1)) (fun v0 v1 => L (f18_fr9 a0 q7 v0 v1)) q10 q11 := by
    intro lr L q10 q11; kernel_rfl
  intro n q10 q11
  refine loopN_iter (X := Int × List (Int × Int)) (frame := fun x => (f18_fr9 a0 q7 x.1 x.2)) (body := (fun L x => (fun L9 => f18_b9 K a0 q7 (fun v0 v1 => F6 (f18_fr6 a0 v0 v1)) L9 x.1 x.2) (fun v0 v1 => L (v0, v1)))) (fun L x => ?_) n (q10, q11)
  rw [exec_G]
  exact (key (realL (f18E K) 0) L x.1 x.2).trans (by rfl)
theorem f18_t6 (K : Nat) (a0 : Int × Int × Int) (bq7 : Int) (bq8 : List (Int × Int)) : ∀ (n : Nat) (q7 : Int) (q8 : List (Int × Int)), loopN (exec (f18E K) 0 (selC f18C [1, 1, 0, 1, 0, 0])) 0 (f18_fr6 a0 bq7 bq8) n (f18_fr6 a0 q7 q8) (f18_k6 K a0 (realL (f18E K) 0)) = f18_l6 K a0 n q7 q8 := by
  have key : ∀ (lr : LR (List (Int × Int))) (L : Fr → Option (List (Int × Int))) (q7 : Int) (q8 : List (Int × Int)), execG (f18E K) 0 lr (selC f18C [1, 1, 0, 1, 0, 0]) (f18_fr6 a0 q7 q8) (loopK 0 (f18_fr6 a0 bq7 bq8) L (f18_k6 K a0 lr)) = f18_b6 K a0 (fun c0 d0 d1 => lr (selC f18C [1, 1, 0, 1, 0, 0, 1, 1, 0, 0, 1, 1, 0, 0]) (f18_fr9 a0 c0 d0 d1) (f18_k9 K a0 L bq7 bq8 lr)) (fun v0 v1 => L (f18_fr6 a0 v0 v1)) q7 q8 := by
    intro lr L q7 q8; kernel_rfl
  intro n q7 q8
  refine loopN_iter (X := Int × List (Int × Int)) (frame := fun x => (f18_fr6 a0 x.1 x.2)) (body := (fun L x => (fun L6 => f18_b6 K a0 (fun c0 d0 d1 => f18_l9 K a0 c0 L6 K d0 d1) L6 x.1 x.2) (fun v0 v1 => L (v0, v1)))) (fun L x => ?_) n (q7, q8)
  rw [exec_G]
  have h9 : (fun c0 d0 d1 => (realL (f18E K) 0) (selC f18C [1, 1, 0, 1, 0, 0, 1, 1, 0, 0, 1, 1, 0, 0]) (f18_fr9 a0 c0 d0 d1) (f18_k9 K a0 L bq7 bq8 (realL (f18E K) 0))) = fun c0 d0 d1 => f18_l9 K a0 c0 (fun v0 v1 => L (f18_fr6 a0 v0 v1)) K d0 d1 := by
    funext c0 d0 d1
    exact f18_t9 K a0 c0 L bq7 bq8 d0 d1 K d0 d1
  exact (key (realL (f18E K) 0) L x.1 x.2).trans (by rw [h9] <;> rfl)
theorem f18_run (K : Nat) (a0 : Int × Int × Int) : runF (f18E K) Tryd.f18 [(.ro, (.cons (.int .i64) (.cons (.int .i64) (.int .i64))))] [(.list 43 (.cons (.int .i64) (.int .i64)))] (a0, ()) = f18G K a0 := by
  have key : ∀ (lr : LR (List (Int × Int))), runG (f18E K) Tryd.f18 [(.ro, (.cons (.int .i64) (.cons (.int .i64) (.int .i64))))] [(.list 43 (.cons (.int .i64) (.int .i64)))] (a0, ()) lr = f18_g K a0 (fun d0 d1 => lr (selC f18C [1, 1, 0, 1, 0, 0]) (f18_fr6 a0 d0 d1) (f18_k6 K a0 lr)) := by intro lr; kernel_rfl
  have h6 : (fun d0 d1 => (realL (f18E K) 0) (selC f18C [1, 1, 0, 1, 0, 0]) (f18_fr6 a0 d0 d1) (f18_k6 K a0 (realL (f18E K) 0))) = fun d0 d1 => f18_l6 K a0 K d0 d1 := by
    funext d0 d1
    exact f18_t6 K a0 d0 d1 K d0 d1
  exact runF_G (n0 := 0) (by rfl) ((key (realL (f18E K) 0)).trans (by rw [h6] <;> rfl))
theorem f50_run (K : Nat) (a0 : Int) (a1 : Int) : runF (f50E K) Tryd.f50 [(.ro, (.int .i64)), (.ro, (.int .i64))] [(.int .i64)] (a0, a1, ()) = f50G K a0 a1 := by kernel_rfl
theorem f45_run (K : Nat) (a0 : Int × Int × Int) (a1 : Int × Int) : runF (f45E K) Tryd.f45 [(.ro, (.cons (.int .i64) (.cons (.int .i64) (.int .i64)))), (.ro, (.cons (.int .i64) (.int .i64)))] [(.cons (.int .i64) (.int .i64))] (a0, a1, ()) = f45G K a0 a1 := by kernel_rfl
theorem f44_run (K : Nat) (a0 : Int × Int × Int) (a1 : Int × Int) : runF (f44E K) Tryd.f44 [(.ro, (.cons (.int .i64) (.cons (.int .i64) (.int .i64)))), (.ro, (.cons (.int .i64) (.int .i64)))] [(.int .i64)] (a0, a1, ()) = f44G K a0 a1 := by kernel_rfl
theorem f31_run (K : Nat) (a0 : Int × (Int × Int × Int) × List Int) (a1 : Int × Int) : runF (f31E K) Tryd.f31 [(.ro, (.cons (.int .i64) (.cons (.cons (.int .i64) (.cons (.int .i64) (.int .i64))) (.list 2 (.int .i64))))), (.ro, (.cons (.int .i64) (.int .i64)))] [(.int .i64)] (a0, a1, ()) = f31G K a0 a1 := by kernel_rfl
theorem f51_run (K : Nat) (a0 : Int) : runF (f51E K) Tryd.f51 [(.ro, (.int .i64))] [.bool] (a0, ()) = f51G K a0 := by kernel_rfl
theorem f46_run (K : Nat) (a0 : Int × Int) : runF (f46E K) Tryd.f46 [(.ro, (.cons (.int .i64) (.int .i64)))] [.bool] (a0, ()) = f46G K a0 := by kernel_rfl
theorem f33_run (K : Nat) (a0 : Int) : runF (f33E K) Tryd.f33 [(.ro, (.int .i64))] [.str] (a0, ()) = f33G K a0 := by kernel_rfl
theorem f47_t3 (K : Nat) (a0 : ByteArray) (a1 : List Int) (bq4 : Int) (bq5 : List ByteArray) : ∀ (n : Nat) (q4 : Int) (q5 : List ByteArray), loopN (exec (f47E K) 1 (selC f47C [1, 1, 0, 1, 0, 0])) 1 (f47_fr3 a0 a1 bq4 bq5) n (f47_fr3 a0 a1 q4 q5) (f47_k3 K a0 a1 (realL (f47E K) 1)) = f47_l3 K a0 a1 n q4 q5 := by
  have key : ∀ (lr : LR ByteArray) (L : Fr → Option ByteArray) (q4 : Int) (q5 : List ByteArray), execG (f47E K) 1 lr (selC f47C [1, 1, 0, 1, 0, 0]) (f47_fr3 a0 a1 q4 q5) (loopK 1 (f47_fr3 a0 a1 bq4 bq5) L (f47_k3 K a0 a1 lr)) = f47_b3 K a0 a1 (fun v0 v1 => L (f47_fr3 a0 a1 v0 v1)) q4 q5 := by
    intro lr L q4 q5; kernel_rfl
  intro n q4 q5
  refine loopN_iter (X := Int × List ByteArray) (frame := fun x => (f47_fr3 a0 a1 x.1 x.2)) (body := (fun L x => (fun L3 => f47_b3 K a0 a1 L3 x.1 x.2) (fun v0 v1 => L (v0, v1)))) (fun L x => ?_) n (q4, q5)
  rw [exec_G]
  exact (key (realL (f47E K) 1) L x.1 x.2).trans (by rfl)
theorem f47_run (K : Nat) (a0 : ByteArray) (a1 : List Int) : runF (f47E K) Tryd.f47 [(.ro, .str), (.ro, (.list 2 (.int .i64)))] [.str] (a0, a1, ()) = f47G K a0 a1 := by
  have key : ∀ (lr : LR ByteArray), runG (f47E K) Tryd.f47 [(.ro, .str), (.ro, (.list 2 (.int .i64)))] [.str] (a0, a1, ()) lr = f47_g K a0 a1 (fun d0 d1 => lr (selC f47C [1, 1, 0, 1, 0, 0]) (f47_fr3 a0 a1 d0 d1) (f47_k3 K a0 a1 lr)) := by intro lr; kernel_rfl
  have h3 : (fun d0 d1 => (realL (f47E K) 1) (selC f47C [1, 1, 0, 1, 0, 0]) (f47_fr3 a0 a1 d0 d1) (f47_k3 K a0 a1 (realL (f47E K) 1))) = fun d0 d1 => f47_l3 K a0 a1 K d0 d1 := by
    funext d0 d1
    exact f47_t3 K a0 a1 d0 d1 K d0 d1
  exact runF_G (n0 := 1) (by rfl) ((key (realL (f47E K) 1)).trans (by rw [h3] <;> rfl))
theorem f32_run (K : Nat) (a0 : Int × Int) : runF (f32E K) Tryd.f32 [(.ro, (.cons (.int .i64) (.int .i64)))] [.str] (a0, ()) = f32G K a0 := by kernel_rfl
theorem f17_t5 (K : Nat) (a0 : Int × (Int × Int × Int) × List Int) (a1 : List (Int × Int)) (bq6 : ByteArray) (bq7 : Int) (bq8 : Int) : ∀ (n : Nat) (q6 : ByteArray) (q7 : Int) (q8 : Int), loopN (exec (f17E K) 2 (selC f17C [1, 1, 0, 1, 0, 0])) 2 (f17_fr5 a0 a1 bq6 bq7 bq8) n (f17_fr5 a0 a1 q6 q7 q8) (f17_k5 K a0 a1 (realL (f17E K) 2)) = f17_l5 K a0 a1 n q6 q7 q8 := by
  have key : ∀ (lr : LR (ByteArray × Int)) (L : Fr → Option (ByteArray × Int)) (q6 : ByteArray) (q7 : Int) (q8 : Int), execG (f17E K) 2 lr (selC f17C [1, 1, 0, 1, 0, 0]) (f17_fr5 a0 a1 q6 q7 q8) (loopK 2 (f17_fr5 a0 a1 bq6 bq7 bq8) L (f17_k5 K a0 a1 lr)) = f17_b5 K a0 a1 (fun v0 v1 v2 => L (f17_fr5 a0 a1 v0 v1 v2)) q6 q7 q8 := by
    intro lr L q6 q7 q8; kernel_rfl
  intro n q6 q7 q8
  refine loopN_iter (X := ByteArray × Int × Int) (frame := fun x => (f17_fr5 a0 a1 x.1 x.2.1 x.2.2)) (body := (fun L x => (fun L5 => f17_b5 K a0 a1 L5 x.1 x.2.1 x.2.2) (fun v0 v1 v2 => L (v0, v1, v2)))) (fun L x => ?_) n (q6, q7, q8)
  rw [exec_G]
  exact (key (realL (f17E K) 2) L x.1 x.2.1 x.2.2).trans (by rfl)
theorem f17_run (K : Nat) (a0 : Int × (Int × Int × Int) × List Int) (a1 : List (Int × Int)) : runF (f17E K) Tryd.f17 [(.ro, (.cons (.int .i64) (.cons (.cons (.int .i64) (.cons (.int .i64) (.int .i64))) (.list 2 (.int .i64))))), (.ro, (.list 43 (.cons (.int .i64) (.int .i64))))] [.str, (.int .i64)] (a0, a1, ()) = f17G K a0 a1 := by
  have key : ∀ (lr : LR (ByteArray × Int)), runG (f17E K) Tryd.f17 [(.ro, (.cons (.int .i64) (.cons (.cons (.int .i64) (.cons (.int .i64) (.int .i64))) (.list 2 (.int .i64))))), (.ro, (.list 43 (.cons (.int .i64) (.int .i64))))] [.str, (.int .i64)] (a0, a1, ()) lr = f17_g K a0 a1 (fun d0 d1 d2 => lr (selC f17C [1, 1, 0, 1, 0, 0]) (f17_fr5 a0 a1 d0 d1 d2) (f17_k5 K a0 a1 lr)) := by intro lr; kernel_rfl
  have h5 : (fun d0 d1 d2 => (realL (f17E K) 2) (selC f17C [1, 1, 0, 1, 0, 0]) (f17_fr5 a0 a1 d0 d1 d2) (f17_k5 K a0 a1 (realL (f17E K) 2))) = fun d0 d1 d2 => f17_l5 K a0 a1 K d0 d1 d2 := by
    funext d0 d1 d2
    exact f17_t5 K a0 a1 d0 d1 d2 K d0 d1 d2
  exact runF_G (n0 := 2) (by rfl) ((key (realL (f17E K) 2)).trans (by rw [h5] <;> rfl))
theorem f34_run (K : Nat) (a0 : Int × Int × Int) : runF (f34E K) Tryd.f34 [(.ro, (.cons (.int .i64) (.cons (.int .i64) (.int .i64))))] [.str] (a0, ()) = f34G K a0 := by kernel_rfl
theorem f19_run (K : Nat) (a0 : Int × (Int × Int × Int) × List Int) : runF (f19E K) Tryd.f19 [(.ro, (.cons (.int .i64) (.cons (.cons (.int .i64) (.cons (.int .i64) (.int .i64))) (.list 2 (.int .i64)))))] [.str] (a0, ()) = f19G K a0 := by kernel_rfl
theorem f7_run (K : Nat) (a0 : Int × (Int × Int × Int) × List Int) : runF (f7E K) Tryd.f7 [(.ro, (.cons (.int .i64) (.cons (.cons (.int .i64) (.cons (.int .i64) (.int .i64))) (.list 2 (.int .i64)))))] [.str, (.int .i64)] (a0, ()) = f7G K a0 := by kernel_rfl
theorem f20_run (K : Nat) (a0 : Int × Int × Int) (a1 : Int × Int × Int) : runF (f20E K) Tryd.f20 [(.ro, (.cons (.int .i64) (.cons (.int .i64) (.int .i64)))), (.ro, (.cons (.int .i64) (.cons (.int .i64) (.int .i64))))] [.bool] (a0, a1, ()) = f20G K a0 a1 := by kernel_rfl
theorem f21_t2 (K : Nat) (a0 : List Int) (a1 : List Int) (bq3 : Int) : ∀ (n : Nat) (q3 : Int), loopN (exec (f21E K) 2 (selC f21C [1, 1, 0, 1, 0, 0])) 2 (f21_fr2 a0 a1 bq3) n (f21_fr2 a0 a1 q3) (f21_k2 K a0 a1 (realL (f21E K) 2)) = f21_l2 K a0 a1 n q3 := by
  have key : ∀ (lr : LR Bool) (L : Fr → Option Bool) (q3 : Int), execG (f21E K) 2 lr (selC f21C [1, 1, 0, 1, 0, 0]) (f21_fr2 a0 a1 q3) (loopK 2 (f21_fr2 a0 a1 bq3) L (f21_k2 K a0 a1 lr)) = f21_b2 K a0 a1 (fun v0 => L (f21_fr2 a0 a1 v0)) q3 := by
    intro lr L q3; kernel_rfl
  intro n q3
  refine loopN_iter (X := Int) (frame := fun x => (f21_fr2 a0 a1 x)) (body := (fun L x => (fun L2 => f21_b2 K a0 a1 L2 x) (fun v0 => L v0))) (fun L x => ?_) n q3
  rw [exec_G]
  exact (key (realL (f21E K) 2) L x).trans (by rfl)
theorem f21_run (K : Nat) (a0 : List Int) (a1 : List Int) : runF (f21E K) Tryd.f21 [(.ro, (.list 2 (.int .i64))), (.ro, (.list 2 (.int .i64)))] [.bool] (a0, a1, ()) = f21G K a0 a1 := by
  have key : ∀ (lr : LR Bool), runG (f21E K) Tryd.f21 [(.ro, (.list 2 (.int .i64))), (.ro, (.list 2 (.int .i64)))] [.bool] (a0, a1, ()) lr = f21_g K a0 a1 (fun d0 => lr (selC f21C [1, 1, 0, 1, 0, 0]) (f21_fr2 a0 a1 d0) (f21_k2 K a0 a1 lr)) := by intro lr; kernel_rfl
  have h2 : (fun d0 => (realL (f21E K) 2) (selC f21C [1, 1, 0, 1, 0, 0]) (f21_fr2 a0 a1 d0) (f21_k2 K a0 a1 (realL (f21E K) 2))) = fun d0 => f21_l2 K a0 a1 K d0 := by
    funext d0
    exact f21_t2 K a0 a1 d0 K d0
  exact runF_G (n0 := 2) (by rfl) ((key (realL (f21E K) 2)).trans (by rw [h2] <;> rfl))
theorem f8_run (K : Nat) (a0 : Int × (Int × Int × Int) × List Int) (a1 : Int × (Int × Int × Int) × List Int) : runF (f8E K) Tryd.f8 [(.ro, (.cons (.int .i64) (.cons (.cons (.int .i64) (.cons (.int .i64) (.int .i64))) (.list 2 (.int .i64))))), (.ro, (.cons (.int .i64) (.cons (.cons (.int .i64) (.cons (.int .i64) (.int .i64))) (.list 2 (.int .i64)))))] [.bool] (a0, a1, ()) = f8G K a0 a1 := by kernel_rfl
theorem f3_run (K : Nat) (a0 : Int × (Int × Int × Int) × List Int) : runF (f3E K) Tryd.f3 [(.ro, (.cons (.int .i64) (.cons (.cons (.int .i64) (.cons (.int .i64) (.int .i64))) (.list 2 (.int .i64)))))] [.bool] (a0, ()) = f3G K a0 := by kernel_rfl
end Go.Proofs.YtnbghfbpidalhaaDoor.X
