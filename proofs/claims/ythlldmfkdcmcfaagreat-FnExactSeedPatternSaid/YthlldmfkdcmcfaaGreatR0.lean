/- Functions of the program as plain Lean functions, and that the program does what they say. Printed by gen.py. -/
import Derived.Test.YthlldmfkdcmcfaaGreatD0
namespace Go.Proofs.YthlldmfkdcmcfaaGreat.X
open Go
set_option maxRecDepth 100000
set_option linter.unusedVariables false
theorem f13_run (K : Nat) (a0 : List ((Int × Int × Int × Int) × Int × Int)) (a1 : Int) : runF (f13E K) Tryz.f13 [(.ro, (.list 96 (.cons (.cons (.int .i64) (.cons (.int .i64) (.cons (.int .i64) (.int .i64)))) (.cons (.int .i64) (.int .i64))))), (.ro, (.int .i64))] [(.int .i64)] (a0, a1, ()) = f13G K a0 a1 := by kernel_rfl
theorem f16_run (K : Nat) (a0 : Int × Int × Int) : runF (f16E K) Tryz.f16 [(.ro, (.cons (.int .i64) (.cons (.int .i64) (.int .i64))))] [(.cons (.int .i64) (.cons (.int .i64) (.int .i64)))] (a0, ()) = f16G K a0 := by kernel_rfl
theorem f112_run (K : Nat) (a0 : Int × Int × Int × Int) : runF (f112E K) Tryz.f112 [(.ro, (.cons (.int .i64) (.cons (.int .i64) (.cons (.int .i64) (.int .i64)))))] [(.cons (.int .i64) (.cons (.int .i64) (.cons (.int .i64) (.int .i64))))] (a0, ()) = f112G K a0 := by kernel_rfl
theorem f19_run (K : Nat) (a0 : Int × Int) : runF (f19E K) Tryz.f19 [(.ro, (.cons (.int .i64) (.int .i64)))] [(.cons (.int .i64) (.int .i64))] (a0, ()) = f19G K a0 := by kernel_rfl
theorem f70_run (K : Nat) (a0 : (Int × Int × Int × Int) × Int × Int) : runF (f70E K) Tryz.f70 [(.ro, (.cons (.cons (.int .i64) (.cons (.int .i64) (.cons (.int .i64) (.int .i64)))) (.cons (.int .i64) (.int .i64))))] [(.cons (.cons (.int .i64) (.cons (.int .i64) (.cons (.int .i64) (.int .i64)))) (.cons (.int .i64) (.int .i64)))] (a0, ()) = f70G K a0 := by kernel_rfl
theorem f17_t3 (K : Nat) (a0 : List ((Int × Int × Int × Int) × Int × Int)) (bq4 : Int) (bq5 : List ((Int × Int × Int × Int) × Int × Int)) : ∀ (n : Nat) (q4 : Int) (q5 : List ((Int × Int × Int × Int) × Int × Int)), loopN (exec (f17E K) 1 (selC f17C [1, 1, 0, 1, 0, 0])) 1 (f17_fr3 a0 bq4 bq5) n (f17_fr3 a0 q4 q5) (f17_k3 K a0 (realL (f17E K) 1)) = f17_l3 K a0 n q4 q5 := by
  have key : ∀ (lr : LR (List ((Int × Int × Int × Int) × Int × Int))) (L : Fr → Option (List ((Int × Int × Int × Int) × Int × Int))) (q4 : Int) (q5 : List ((Int × Int × Int × Int) × Int × Int)), execG (f17E K) 1 lr (selC f17C [1, 1, 0, 1, 0, 0]) (f17_fr3 a0 q4 q5) (loopK 1 (f17_fr3 a0 bq4 bq5) L (f17_k3 K a0 lr)) = f17_b3 K a0 (fun v0 v1 => L (f17_fr3 a0 v0 v1)) q4 q5 := by
    intro lr L q4 q5; kernel_rfl
  intro n q4 q5
  refine loopN_iter (X := Int × List ((Int × Int × Int × Int) × Int × Int)) (frame := fun x => (f17_fr3 a0 x.1 x.2)) (body := (fun L x => (fun L3 => f17_b3 K a0 L3 x.1 x.2) (fun v0 v1 => L (v0, v1)))) (fun L x => ?_) n (q4, q5)
  rw [exec_G]
  exact (key (realL (f17E K) 1) L x.1 x.2).trans (by rfl)
theorem f17_run (K : Nat) (a0 : List ((Int × Int × Int × Int) × Int × Int)) : runF (f17E K) Tryz.f17 [(.ro, (.list 96 (.cons (.cons (.int .i64) (.cons (.int .i64) (.cons (.int .i64) (.int .i64)))) (.cons (.int .i64) (.int .i64)))))] [(.list 34 (.cons (.cons (.int .i64) (.cons (.int .i64) (.cons (.int .i64) (.int .i64)))) (.cons (.int .i64) (.int .i64))))] (a0, ()) = f17G K a0 := by
  have key : ∀ (lr : LR (List ((Int × Int × Int × Int) × Int × Int))), runG (f17E K) Tryz.f17 [(.ro, (.list 96 (.cons (.cons (.int .i64) (.cons (.int .i64) (.cons (.int .i64) (.int .i64)))) (.cons (.int .i64) (.int .i64)))))] [(.list 34 (.cons (.cons (.int .i64) (.cons (.int .i64) (.cons (.int .i64) (.int .i64)))) (.cons (.int .i64) (.int .i64))))] (a0, ()) lr = f17_g K a0 (fun d0 d1 => lr (selC f17C [1, 1, 0, 1, 0, 0]) (f17_fr3 a0 d0 d1) (f17_k3 K a0 lr)) := by intro lr; kernel_rfl
  have h3 : (fun d0 d1 => (realL (f17E K) 1) (selC f17C [1, 1, 0, 1, 0, 0]) (f17_fr3 a0 d0 d1) (f17_k3 K a0 (realL (f17E K) 1))) = fun d0 d1 => f17_l3 K a0 K d0 d1 := by
    funext d0 d1
    exact f17_t3 K a0 d0 d1 K d0 d1
  exact runF_G (n0 := 1) (by rfl) ((key (realL (f17E K) 1)).trans (by rw [h3] <;> rfl))
theorem f108_run (K : Nat) (a0 : Int) (a1 : Int) (a2 : Int) : runF (f108E K) Tryz.f108 [(.ro, (.int .i64)), (.ro, (.int .i64)), (.ro, (.int .i64))] [.bool] (a0, a1, a2, ()) = f108G K a0 a1 a2 := by kernel_rfl
theorem f66_run (K : Nat) (a0 : Int × Int × Int) (a1 : Int × Int) : runF (f66E K) Tryz.f66 [(.ro, (.cons (.int .i64) (.cons (.int .i64) (.int .i64)))), (.ro, (.cons (.int .i64) (.int .i64)))] [.bool] (a0, a1, ()) = f66G K a0 a1 := by kernel_rfl
theorem f154_run (K : Nat) (a0 : Int) : runF (f154E K) Tryz.f154 [(.ro, (.int .i64))] [.bool] (a0, ()) = f154G K a0 := by kernel_rfl
theorem f155_run (K : Nat) (a0 : Int × Int × Int) : runF (f155E K) Tryz.f155 [(.ro, (.cons (.int .i64) (.cons (.int .i64) (.int .i64))))] [.bool] (a0, ()) = f155G K a0 := by kernel_rfl
theorem f106_run (K : Nat) (a0 : Int) (a1 : Int × Int × Int) : runF (f106E K) Tryz.f106 [(.ro, (.int .i64)), (.ro, (.cons (.int .i64) (.cons (.int .i64) (.int .i64))))] [(.int .i64)] (a0, a1, ()) = f106G K a0 a1 := by kernel_rfl
theorem f156_run (K : Nat) (a0 : Int × Int) : runF (f156E K) Tryz.f156 [(.ro, (.cons (.int .i64) (.int .i64)))] [.bool] (a0, ()) = f156G K a0 := by kernel_rfl
theorem f252_run (K : Nat) (a0 : Int × Int × Int × Int) : runF (f252E K) Tryz.f252 [(.ro, (.cons (.int .i64) (.cons (.int .i64) (.cons (.int .i64) (.int .i64)))))] [.bool] (a0, ()) = f252G K a0 := by kernel_rfl
theorem f99_run (K : Nat) (a0 : Int × Int × Int × Int) : runF (f99E K) Tryz.f99 [(.ro, (.cons (.int .i64) (.cons (.int .i64) (.cons (.int .i64) (.int .i64)))))] [(.int .i64)] (a0, ()) = f99G K a0 := by kernel_rfl
theorem f241_run (K : Nat) (a0 : Int × Int × Int × Int) : runF (f241E K) Tryz.f241 [(.ro, (.cons (.int .i64) (.cons (.int .i64) (.cons (.int .i64) (.int .i64)))))] [.bool] (a0, ()) = f241G K a0 := by kernel_rfl
theorem f251_run (K : Nat) (a0 : Int) (a1 : Int × Int) : runF (f251E K) Tryz.f251 [(.ro, (.int .i64)), (.ro, (.cons (.int .i64) (.int .i64)))] [(.int .i64)] (a0, a1, ()) = f251G K a0 a1 := by kernel_rfl
theorem f159_run (K : Nat) (a0 : Int × Int) (a1 : Int × Int) : runF (f159E K) Tryz.f159 [(.ro, (.cons (.int .i64) (.int .i64))), (.ro, (.cons (.int .i64) (.int .i64)))] [(.cons (.int .i64) (.int .i64))] (a0, a1, ()) = f159G K a0 a1 := by kernel_rfl
theorem f235_run (K : Nat) (a0 : Int) (a1 : Int × Int × Int × Int) : runF (f235E K) Tryz.f235 [(.ro, (.int .i64)), (.ro, (.cons (.int .i64) (.cons (.int .i64) (.cons (.int .i64) (.int .i64)))))] [.bool] (a0, a1, ()) = f235G K a0 a1 := by kernel_rfl
theorem f213_run (K : Nat) (a0 : Int) (a1 : Int × Int × Int × Int) : runF (f213E K) Tryz.f213 [(.ro, (.int .i64)), (.ro, (.cons (.int .i64) (.cons (.int .i64) (.cons (.int .i64) (.int .i64)))))] [.bool] (a0, a1, ()) = f213G K a0 a1 := by kernel_rfl
theorem f195_run (K : Nat) (a0 : Int × Int × Int) : runF (f195E K) Tryz.f195 [(.ro, (.cons (.int .i64) (.cons (.int .i64) (.int .i64))))] [(.list 32 (.cons (.int .i64) (.int .i64)))] (a0, ()) = f195G K a0 := by kernel_rfl
theorem f160_run (K : Nat) (a0 : Int × Int × Int × Int) (a1 : Int × Int) : runF (f160E K) Tryz.f160 [(.ro, (.cons (.int .i64) (.cons (.int .i64) (.cons (.int .i64) (.int .i64))))), (.ro, (.cons (.int .i64) (.int .i64)))] [(.cons (.int .i64) (.int .i64))] (a0, a1, ()) = f160G K a0 a1 := by kernel_rfl
theorem f103_run (K : Nat) (rec : Int → Int → Option Int) (a0 : Int) (a1 : Int) : runF (f103E K rec) Tryz.f103 [(.ro, (.int .i64)), (.ro, (.int .i64))] [(.int .i64)] (a0, a1, ()) = f103_s K rec a0 a1 := by kernel_rfl
theorem f158_run (K : Nat) (a0 : Int) (a1 : Int) : runF (f158E K) Tryz.f158 [(.ro, (.int .i64)), (.ro, (.int .i64))] [(.int .i64)] (a0, a1, ()) = f158G K a0 a1 := by kernel_rfl
theorem f191_run (K : Nat) (a0 : Int × Int) (a1 : Int) : runF (f191E K) Tryz.f191 [(.ro, (.cons (.int .i64) (.int .i64))), (.ro, (.int .i64))] [(.cons (.int .i64) (.int .i64))] (a0, a1, ()) = f191G K a0 a1 := by kernel_rfl
theorem f197_t15 (K : Nat) (a0 : List (Int × Int)) (q11 : Int) (q12 : Int) (F10 : Fr → Option (Int × Int × Int)) (bq11 : Int) (bq12 : Int) (bq13 : Int) (bq14 : Int) (bq16 : Int) (bq17 : Int) (bq18 : Int) (bq19 : Int) : ∀ (n : Nat) (q16 : Int) (q17 : Int) (q18 : Int) (q19 : Int), loopN (exec (f197E K) 1 (selC f197C [1, 1, 0, 1, 0, 0, 1, 0, 0, 1, 0, 0, 0])) 1 (f197_fr15 a0 q11 q12 bq16 bq17 bq18 bq19) n (f197_fr15 a0 q11 q12 q16 q17 q18 q19) (f197_k15 K a0 F10 bq11 bq12 bq13 bq14 (realL (f197E K) 1)) = f197_l15 K a0 q11 q12 (fun v0 v1 v2 v3 => F10 (f197_fr10 a0 v0 v1 v2 v3)) n q16 q17 q18 q19 := by
  have key : ∀ (lr : LR (Int × Int × Int)) (L : Fr → Option (Int × Int × Int)) (q16 : Int) (q17 : Int) (q18 : Int) (q19 : Int), execG (f197E K) 1 lr (selC f197C [1, 1, 0, 1, 0, 0, 1, 0, 0, 1, 0, 0, 0]) (f197_fr15 a0 q11 q12 q16 q17 q18 q19) (loopK 1 (f197_fr15 a0 q11 q12 bq16 bq17 bq18 bq19) L (f197_k15 K a0 F10 bq11 bq12 bq13 bq14 lr)) = f197_b15 K a0 q11 q12 (fun v0 v1 v2 v3 => F10 (f197_fr10 a0 v0 v1 v2 v3)) (fun v0 v1 v2 v3 => L (f197_fr15 a0 q11 q12 v0 v1 v2 v3)) q16 q17 q18 q19 := by
    intro lr L q16 q17 q18 q19; kernel_rfl
  intro n q16 q17 q18 q19
  refine loopN_iter (X := Int × Int × Int × Int) (frame := fun x => (f197_fr15 a0 q11 q12 x.1 x.2.1 x.2.2.1 x.2.2.2)) (body := (fun L x => (fun L15 => f197_b15 K a0 q11 q12 (fun v0 v1 v2 v3 => F10 (f197_fr10 a0 v0 v1 v2 v3)) L15 x.1 x.2.1 x.2.2.1 x.2.2.2) (fun v0 v1 v2 v3 => L (v0, v1, v2, v3)))) (fun L x => ?_) n (q16, q17, q18, q19)
  rw [exec_G]
  exact (key (realL (f197E K) 1) L x.1 x.2.1 x.2.2.1 x.2.2.2).trans (by rfl)
theorem f197_t10 (K : Nat) (a0 : List (Int × Int)) (bq11 : Int) (bq12 : Int) (bq13 : Int) (bq14 : Int) : ∀ (n : Nat) (q11 : Int) (q12 : Int) (q13 : Int) (q14 : Int), loopN (exec (f197E K) 1 (selC f197C [1, 1, 0, 1, 0, 0])) 1 (f197_fr10 a0 bq11 bq12 bq13 bq14) n (f197_fr10 a0 q11 q12 q13 q14) (f197_k10 K a0 (realL (f197E K) 1)) = f197_l10 K a0 n q11 q12 q13 q14 := by
  have key : ∀ (lr : LR (Int × Int × Int)) (L : Fr → Option (Int × Int × Int)) (q11 : Int) (q12 : Int) (q13 : Int) (q14 : Int), execG (f197E K) 1 lr (selC f197C [1, 1, 0, 1, 0, 0]) (f197_fr10 a0 q11 q12 q13 q14) (loopK 1 (f197_fr10 a0 bq11 bq12 bq13 bq14) L (f197_k10 K a0 lr)) = f197_b10 K a0 (fun c0 c1 d0 d1 d2 d3 => lr (selC f197C [1, 1, 0, 1, 0, 0, 1, 0, 0, 1, 0, 0, 0]) (f197_fr15 a0 c0 c1 d0 d1 d2 d3) (f197_k15 K a0 L bq11 bq12 bq13 bq14 lr)) (fun v0 v1 v2 v3 => L (f197_fr10 a0 v0 v1 v2 v3)) q11 q12 q13 q14 := by
    intro lr L q11 q12 q13 q14; kernel_rfl
  intro n q11 q12 q13 q14
  refine loopN_iter (X := Int × Int × Int × Int) (frame := fun x => (f197_fr10 a0 x.1 x.2.1 x.2.2.1 x.2.2.2)) (body := (fun L x => (fun L10 => f197_b10 K a0 (fun c0 c1 d0 d1 d2 d3 => f197_l15 K a0 c0 c1 L10 K d0 d1 d2 d3) L10 x.1 x.2.1 x.2.2.1 x.2.2.2) (fun v0 v1 v2 v3 => L (v0, v1, v2, v3)))) (fun L x => ?_) n (q11, q12, q13, q14)
  rw [exec_G]
  have h15 : (fun c0 c1 d0 d1 d2 d3 => (realL (f197E K) 1) (selC f197C [1, 1, 0, 1, 0, 0, 1, 0, 0, 1, 0, 0, 0]) (f197_fr15 a0 c0 c1 d0 d1 d2 d3) (f197_k15 K a0 L bq11 bq12 bq13 bq14 (realL (f197E K) 1))) = fun c0 c1 d0 d1 d2 d3 => f197_l15 K a0 c0 c1 (fun v0 v1 v2 v3 => L (f197_fr10 a0 v0 v1 v2 v3)) K d0 d1 d2 d3 := by
    funext c0 c1 d0 d1 d2 d3
    exact f197_t15 K a0 c0 c1 L bq11 bq12 bq13 bq14 d0 d1 d2 d3 K d0 d1 d2 d3
  exact (key (realL (f197E K) 1) L x.1 x.2.1 x.2.2.1 x.2.2.2).trans (by rw [h15] <;> rfl)
theorem f197_run (K : Nat) (a0 : List (Int × Int)) : runF (f197E K) Tryz.f197 [(.ro, (.list 32 (.cons (.int .i64) (.int .i64))))] [(.cons (.int .i64) (.cons (.int .i64) (.int .i64)))] (a0, ()) = f197G K a0 := by
  have key : ∀ (lr : LR (Int × Int × Int)), runG (f197E K) Tryz.f197 [(.ro, (.list 32 (.cons (.int .i64) (.int .i64))))] [(.cons (.int .i64) (.cons (.int .i64) (.int .i64)))] (a0, ()) lr = f197_g K a0 (fun d0 d1 d2 d3 => lr (selC f197C [1, 1, 0, 1, 0, 0]) (f197_fr10 a0 d0 d1 d2 d3) (f197_k10 K a0 lr)) := by intro lr; kernel_rfl
  have h10 : (fun d0 d1 d2 d3 => (realL (f197E K) 1) (selC f197C [1, 1, 0, 1, 0, 0]) (f197_fr10 a0 d0 d1 d2 d3) (f197_k10 K a0 (realL (f197E K) 1))) = fun d0 d1 d2 d3 => f197_l10 K a0 K d0 d1 d2 d3 := by
    funext d0 d1 d2 d3
    exact f197_t10 K a0 d0 d1 d2 d3 K d0 d1 d2 d3
  exact runF_G (n0 := 1) (by rfl) ((key (realL (f197E K) 1)).trans (by rw [h10] <;> rfl))
theorem f199_run (K : Nat) (a0 : Int × Int × Int × Int) (a1 : Int × Int × Int) : runF (f199E K) Tryz.f199 [(.ro, (.cons (.int .i64) (.cons (.int .i64) (.cons (.int .i64) (.int .i64))))), (.ro, (.cons (.int .i64) (.cons (.int .i64) (.int .i64))))] [(.cons (.int .i64) (.cons (.int .i64) (.int .i64)))] (a0, a1, ()) = f199G K a0 a1 := by kernel_rfl
theorem f165_run (K : Nat) (a0 : Int) (a1 : Int × Int × Int) (a2 : (Int × Int × Int × Int) × Int × Int) : runF (f165E K) Tryz.f165 [(.ro, (.int .i64)), (.ro, (.cons (.int .i64) (.cons (.int .i64) (.int .i64)))), (.ro, (.cons (.cons (.int .i64) (.cons (.int .i64) (.cons (.int .i64) (.int .i64)))) (.cons (.int .i64) (.int .i64))))] [.bool] (a0, a1, a2, ()) = f165G K a0 a1 a2 := by kernel_rfl
theorem f110_run (K : Nat) (a0 : Int × Int × Int) (a1 : Int × Int) : runF (f110E K) Tryz.f110 [(.ro, (.cons (.int .i64) (.cons (.int .i64) (.int .i64)))), (.ro, (.cons (.int .i64) (.int .i64)))] [(.cons (.int .i64) (.int .i64))] (a0, a1, ()) = f110G K a0 a1 := by kernel_rfl
theorem f166_run (K : Nat) (a0 : Int × Int × Int) (a1 : (Int × Int × Int × Int) × Int × Int) : runF (f166E K) Tryz.f166 [(.ro, (.cons (.int .i64) (.cons (.int .i64) (.int .i64)))), (.ro, (.cons (.cons (.int .i64) (.cons (.int .i64) (.cons (.int .i64) (.int .i64)))) (.cons (.int .i64) (.int .i64))))] [(.cons (.cons (.int .i64) (.cons (.int .i64) (.cons (.int .i64) (.int .i64)))) (.cons (.int .i64) (.int .i64)))] (a0, a1, ()) = f166G K a0 a1 := by kernel_rfl
theorem f243_run (K : Nat) (a0 : Int × Int × Int × Int) : runF (f243E K) Tryz.f243 [(.ro, (.cons (.int .i64) (.cons (.int .i64) (.cons (.int .i64) (.int .i64)))))] [(.list 2 (.int .i64))] (a0, ()) = f243G K a0 := by kernel_rfl
theorem f242_t2 (K : Nat) (a0 : List Int) (a1 : List Int) (bq3 : Int) : ∀ (n : Nat) (q3 : Int), loopN (exec (f242E K) 2 (selC f242C [1, 0, 1, 0, 0])) 2 (f242_fr2 a0 a1 bq3) n (f242_fr2 a0 a1 q3) (f242_k2 K a0 a1 (realL (f242E K) 2)) = f242_l2 K a0 a1 n q3 := by
  have key : ∀ (lr : LR Bool) (L : Fr → Option Bool) (q3 : Int), execG (f242E K) 2 lr (selC f242C [1, 0, 1, 0, 0]) (f242_fr2 a0 a1 q3) (loopK 2 (f242_fr2 a0 a1 bq3) L (f242_k2 K a0 a1 lr)) = f242_b2 K a0 a1 (fun v0 => L (f242_fr2 a0 a1 v0)) q3 := by
    intro lr L q3; kernel_rfl
  intro n q3
  refine loopN_iter (X := Int) (frame := fun x => (f242_fr2 a0 a1 x)) (body := (fun L x => (fun L2 => f242_b2 K a0 a1 L2 x) (fun v0 => L v0))) (fun L x => ?_) n q3
  rw [exec_G]
  exact (key (realL (f242E K) 2) L x).trans (by rfl)
theorem f242_run (K : Nat) (a0 : List Int) (a1 : List Int) : runF (f242E K) Tryz.f242 [(.ro, (.list 2 (.int .i64))), (.ro, (.list 2 (.int .i64)))] [.bool] (a0, a1, ()) = f242G K a0 a1 := by
  have key : ∀ (lr : LR Bool), runG (f242E K) Tryz.f242 [(.ro, (.list 2 (.int .i64))), (.ro, (.list 2 (.int .i64)))] [.bool] (a0, a1, ()) lr = f242_g K a0 a1 (fun d0 => lr (selC f242C [1, 0, 1, 0, 0]) (f242_fr2 a0 a1 d0) (f242_k2 K a0 a1 lr)) := by intro lr; kernel_rfl
  have h2 : (fun d0 => (realL (f242E K) 2) (selC f242C [1, 0, 1, 0, 0]) (f242_fr2 a0 a1 d0) (f242_k2 K a0 a1 (realL (f242E K) 2))) = fun d0 => f242_l2 K a0 a1 K d0 := by
    funext d0
    exact f242_t2 K a0 a1 d0 K d0
  exact runF_G (n0 := 2) (by rfl) ((key (realL (f242E K) 2)).trans (by rw [h2] <;> rfl))
theorem f214_run (K : Nat) (a0 : Int × Int × Int × Int) (a1 : Int × Int × Int × Int) : runF (f214E K) Tryz.f214 [(.ro, (.cons (.int .i64) (.cons (.int .i64) (.cons (.int .i64) (.int .i64))))), (.ro, (.cons (.int .i64) (.cons (.int .i64) (.cons (.int .i64) (.int .i64)))))] [.bool] (a0, a1, ()) = f214G K a0 a1 := by kernel_rfl
theorem f157_run (K : Nat) (a0 : Int × Int) (a1 : Int × Int) : runF (f157E K) Tryz.f157 [(.ro, (.cons (.int .i64) (.int .i64))), (.ro, (.cons (.int .i64) (.int .i64)))] [.bool] (a0, a1, ()) = f157G K a0 a1 := by kernel_rfl
theorem f167_run (K : Nat) (a0 : (Int × Int × Int × Int) × Int × Int) (a1 : (Int × Int × Int × Int) × Int × Int) : runF (f167E K) Tryz.f167 [(.ro, (.cons (.cons (.int .i64) (.cons (.int .i64) (.cons (.int .i64) (.int .i64)))) (.cons (.int .i64) (.int .i64)))), (.ro, (.cons (.cons (.int .i64) (.cons (.int .i64) (.cons (.int .i64) (.int .i64)))) (.cons (.int .i64) (.int .i64))))] [.bool] (a0, a1, ()) = f167G K a0 a1 := by kernel_rfl
theorem f196_run (K : Nat) : runF (f196E K) Tryz.f196 [] [(.cons (.int .i64) (.cons (.int .i64) (.cons (.int .i64) (.int .i64))))] (()) = f196G K := by kernel_rfl
theorem f169_run (K : Nat) : runF (f169E K) Tryz.f169 [] [(.cons (.cons (.int .i64) (.cons (.int .i64) (.cons (.int .i64) (.int .i64)))) (.cons (.int .i64) (.int .i64)))] (()) = f169G K := by kernel_rfl
theorem f215_t6 (K : Nat) (a0 : List ((Int × Int × Int × Int) × Int × Int)) (a1 : (Int × Int × Int × Int) × Int × Int) (bq7 : Int) (bq8 : Int) : ∀ (n : Nat) (q7 : Int) (q8 : Int), loopN (exec (f215E K) 1 (selC f215C [1, 1, 0, 0, 0])) 1 (f215_fr6 a0 a1 bq7 bq8) n (f215_fr6 a0 a1 q7 q8) (f215_k6 K a0 a1 (realL (f215E K) 1)) = f215_l6 K a0 a1 n q7 q8 := by
  have key : ∀ (lr : LR Int) (L : Fr → Option Int) (q7 : Int) (q8 : Int), execG (f215E K) 1 lr (selC f215C [1, 1, 0, 0, 0]) (f215_fr6 a0 a1 q7 q8) (loopK 1 (f215_fr6 a0 a1 bq7 bq8) L (f215_k6 K a0 a1 lr)) = f215_b6 K a0 a1 (fun v0 v1 => L (f215_fr6 a0 a1 v0 v1)) q7 q8 := by
    intro lr L q7 q8; kernel_rfl
  intro n q7 q8
  refine loopN_iter (X := Int × Int) (frame := fun x => (f215_fr6 a0 a1 x.1 x.2)) (body := (fun L x => (fun L6 => f215_b6 K a0 a1 L6 x.1 x.2) (fun v0 v1 => L (v0, v1)))) (fun L x => ?_) n (q7, q8)
  rw [exec_G]
  exact (key (realL (f215E K) 1) L x.1 x.2).trans (by rfl)
theorem f215_run (K : Nat) (a0 : List ((Int × Int × Int × Int) × Int × Int)) (a1 : (Int × Int × Int × Int) × Int × Int) : runF (f215E K) Tryz.f215 [(.ro, (.list 34 (.cons (.cons (.int .i64) (.cons (.int .i64) (.cons (.int .i64) (.int .i64)))) (.cons (.int .i64) (.int .i64))))), (.ro, (.cons (.cons (.int .i64) (.cons (.int .i64) (.cons (.int .i64) (.int .i64)))) (.cons (.int .i64) (.int .i64))))] [(.int .i64)] (a0, a1, ()) = f215G K a0 a1 := by
  have key : ∀ (lr : LR Int), runG (f215E K) Tryz.f215 [(.ro, (.list 34 (.cons (.cons (.int .i64) (.cons (.int .i64) (.cons (.int .i64) (.int .i64)))) (.cons (.int .i64) (.int .i64))))), (.ro, (.cons (.cons (.int .i64) (.cons (.int .i64) (.cons (.int .i64) (.int .i64)))) (.cons (.int .i64) (.int .i64))))] [(.int .i64)] (a0, a1, ()) lr = f215_g K a0 a1 (fun d0 d1 => lr (selC f215C [1, 1, 0, 0, 0]) (f215_fr6 a0 a1 d0 d1) (f215_k6 K a0 a1 lr)) := by intro lr; kernel_rfl
  have h6 : (fun d0 d1 => (realL (f215E K) 1) (selC f215C [1, 1, 0, 0, 0]) (f215_fr6 a0 a1 d0 d1) (f215_k6 K a0 a1 (realL (f215E K) 1))) = fun d0 d1 => f215_l6 K a0 a1 K d0 d1 := by
    funext d0 d1
    exact f215_t6 K a0 a1 d0 d1 K d0 d1
  exact runF_G (n0 := 1) (by rfl) ((key (realL (f215E K) 1)).trans (by rw [h6] <;> rfl))
theorem f168_run (K : Nat) (a0 : List ((Int × Int × Int × Int) × Int × Int)) (a1 : (Int × Int × Int × Int) × Int × Int) : runF (f168E K) Tryz.f168 [(.ro, (.list 34 (.cons (.cons (.int .i64) (.cons (.int .i64) (.cons (.int .i64) (.int .i64)))) (.cons (.int .i64) (.int .i64))))), (.ro, (.cons (.cons (.int .i64) (.cons (.int .i64) (.cons (.int .i64) (.int .i64)))) (.cons (.int .i64) (.int .i64))))] [.bool] (a0, a1, ()) = f168G K a0 a1 := by kernel_rfl
theorem f216_run (K : Nat) (a0 : Int × Int × Int × Int) (a1 : Int × Int × Int × Int) : runF (f216E K) Tryz.f216 [(.ro, (.cons (.int .i64) (.cons (.int .i64) (.cons (.int .i64) (.int .i64))))), (.ro, (.cons (.int .i64) (.cons (.int .i64) (.cons (.int .i64) (.int .i64)))))] [(.cons (.int .i64) (.cons (.int .i64) (.cons (.int .i64) (.int .i64))))] (a0, a1, ()) = f216G K a0 a1 := by kernel_rfl
theorem f170_run (K : Nat) (a0 : (Int × Int × Int × Int) × Int × Int) (a1 : (Int × Int × Int × Int) × Int × Int) : runF (f170E K) Tryz.f170 [(.ro, (.cons (.cons (.int .i64) (.cons (.int .i64) (.cons (.int .i64) (.int .i64)))) (.cons (.int .i64) (.int .i64)))), (.ro, (.cons (.cons (.int .i64) (.cons (.int .i64) (.cons (.int .i64) (.int .i64)))) (.cons (.int .i64) (.int .i64))))] [(.cons (.cons (.int .i64) (.cons (.int .i64) (.cons (.int .i64) (.int .i64)))) (.cons (.int .i64) (.int .i64)))] (a0, a1, ()) = f170G K a0 a1 := by kernel_rfl
theorem f119_t25 (K : Nat) (a0 : Int) (a1 : Int × Int × Int) (a2 : List ((Int × Int × Int × Int) × Int × Int)) (q7 : Int) (y1 : Int) (y12 : Bool) (q24 : Int) (F23 : Fr → Option Bool) (bq24 : Int) (bq26 : Int) : ∀ (n : Nat) (q26 : Int), loopN (exec (f119E K) 1 (selC f119C [1, 1, 1, 1, 0, 1, 0, 0, 1, 0, 0, 1, 0, 0])) 1 (f119_fr25 a0 a1 a2 q7 q24 y1 y12 bq26) n (f119_fr25 a0 a1 a2 q7 q24 y1 y12 q26) (f119_k25 K a0 a1 a2 q7 y1 y12 F23 bq24 (realL (f119E K) 1)) = f119_l25 K a0 a1 a2 q7 q24 y1 y12 (fun v0 => F23 (f119_fr23 a0 a1 a2 q7 y1 y12 v0)) n q26 := by
  have key : ∀ (lr : LR Bool) (L : Fr → Option Bool) (q26 : Int), execG (f119E K) 1 lr (selC f119C [1, 1, 1, 1, 0, 1, 0, 0, 1, 0, 0, 1, 0, 0]) (f119_fr25 a0 a1 a2 q7 q24 y1 y12 q26) (loopK 1 (f119_fr25 a0 a1 a2 q7 q24 y1 y12 bq26) L (f119_k25 K a0 a1 a2 q7 y1 y12 F23 bq24 lr)) = f119_b25 K a0 a1 a2 q7 q24 y1 y12 (fun v0 => F23 (f119_fr23 a0 a1 a2 q7 y1 y12 v0)) (fun v0 => L (f119_fr25 a0 a1 a2 q7 q24 y1 y12 v0)) q26 := by
    intro lr L q26; kernel_rfl
  intro n q26
  refine loopN_iter (X := Int) (frame := fun x => (f119_fr25 a0 a1 a2 q7 q24 y1 y12 x)) (body := (fun L x => (fun L25 => f119_b25 K a0 a1 a2 q7 q24 y1 y12 (fun v0 => F23 (f119_fr23 a0 a1 a2 q7 y1 y12 v0)) L25 x) (fun v0 => L v0))) (fun L x => ?_) n q26
  rw [exec_G]
  exact (key (realL (f119E K) 1) L x).trans (by rfl)
theorem f119_t23 (K : Nat) (a0 : Int) (a1 : Int × Int × Int) (a2 : List ((Int × Int × Int × Int) × Int × Int)) (q7 : Int) (y1 : Int) (y12 : Bool) (bq24 : Int) : ∀ (n : Nat) (q24 : Int), loopN (exec (f119E K) 1 (selC f119C [1, 1, 1, 1, 0, 1, 0, 0])) 1 (f119_fr23 a0 a1 a2 q7 y1 y12 bq24) n (f119_fr23 a0 a1 a2 q7 y1 y12 q24) (f119_k23 K a0 a1 a2 (realL (f119E K) 1)) = f119_l23 K a0 a1 a2 q7 y1 y12 n q24 := by
  have key : ∀ (lr : LR Bool) (L : Fr → Option Bool) (q24 : Int), execG (f119E K) 1 lr (selC f119C [1, 1, 1, 1, 0, 1, 0, 0]) (f119_fr23 a0 a1 a2 q7 y1 y12 q24) (loopK 1 (f119_fr23 a0 a1 a2 q7 y1 y12 bq24) L (f119_k23 K a0 a1 a2 lr)) = f119_b23 K a0 a1 a2 q7 y1 y12 (fun c0 d0 => lr (selC f119C [1, 1, 1, 1, 0, 1, 0, 0, 1, 0, 0, 1, 0, 0]) (f119_fr25 a0 a1 a2 q7 c0 y1 y12 d0) (f119_k25 K a0 a1 a2 q7 y1 y12 L bq24 lr)) (fun v0 => L (f119_fr23 a0 a1 a2 q7 y1 y12 v0)) q24 := by
    intro lr L q24; kernel_rfl
  intro n q24
  refine loopN_iter (X := Int) (frame := fun x => (f119_fr23 a0 a1 a2 q7 y1 y12 x)) (body := (fun L x => (fun L23 => f119_b23 K a0 a1 a2 q7 y1 y12 (fun c0 d0 => f119_l25 K a0 a1 a2 q7 c0 y1 y12 L23 K d0) L23 x) (fun v0 => L v0))) (fun L x => ?_) n q24
  rw [exec_G]
  have h25 : (fun c0 d0 => (realL (f119E K) 1) (selC f119C [1, 1, 1, 1, 0, 1, 0, 0, 1, 0, 0, 1, 0, 0]) (f119_fr25 a0 a1 a2 q7 c0 y1 y12 d0) (f119_k25 K a0 a1 a2 q7 y1 y12 L bq24 (realL (f119E K) 1))) = fun c0 d0 => f119_l25 K a0 a1 a2 q7 c0 y1 y12 (fun v0 => L (f119_fr23 a0 a1 a2 q7 y1 y12 v0)) K d0 := by
    funext c0 d0
    exact f119_t25 K a0 a1 a2 q7 y1 y12 c0 L bq24 d0 K d0
  exact (key (realL (f119E K) 1) L x).trans (by rw [h25] <;> rfl)
theorem f119_t6 (K : Nat) (a0 : Int) (a1 : Int × Int × Int) (a2 : List ((Int × Int × Int × Int) × Int × Int)) (y1 : Int) (bq7 : Int) : ∀ (n : Nat) (q7 : Int), loopN (exec (f119E K) 1 (selC f119C [1, 1, 0, 1, 0, 0])) 1 (f119_fr6 a0 a1 a2 y1 bq7) n (f119_fr6 a0 a1 a2 y1 q7) (f119_k6 K a0 a1 a2 (realL (f119E K) 1)) = f119_l6 K a0 a1 a2 y1 n q7 := by
  have key : ∀ (lr : LR Bool) (L : Fr → Option Bool) (q7 : Int), execG (f119E K) 1 lr (selC f119C [1, 1, 0, 1, 0, 0]) (f119_fr6 a0 a1 a2 y1 q7) (loopK 1 (f119_fr6 a0 a1 a2 y1 bq7) L (f119_k6 K a0 a1 a2 lr)) = f119_b6 K a0 a1 a2 y1 (fun c0 c1 c2 d0 => lr (selC f119C [1, 1, 1, 1, 0, 1, 0, 0]) (f119_fr23 a0 a1 a2 c0 c1 c2 d0) (f119_k23 K a0 a1 a2 lr)) (fun v0 => L (f119_fr6 a0 a1 a2 y1 v0)) q7 := by
    intro lr L q7; kernel_rfl
  intro n q7
  refine loopN_iter (X := Int) (frame := fun x => (f119_fr6 a0 a1 a2 y1 x)) (body := (fun L x => (fun L6 => f119_b6 K a0 a1 a2 y1 (fun c0 c1 c2 d0 => f119_l23 K a0 a1 a2 c0 c1 c2 K d0) L6 x) (fun v0 => L v0))) (fun L x => ?_) n q7
  rw [exec_G]
  have h23 : (fun c0 c1 c2 d0 => (realL (f119E K) 1) (selC f119C [1, 1, 1, 1, 0, 1, 0, 0]) (f119_fr23 a0 a1 a2 c0 c1 c2 d0) (f119_k23 K a0 a1 a2 (realL (f119E K) 1))) = fun c0 c1 c2 d0 => f119_l23 K a0 a1 a2 c0 c1 c2 K d0 := by
    funext c0 c1 c2 d0
    exact f119_t23 K a0 a1 a2 c0 c1 c2 d0 K d0
  exact (key (realL (f119E K) 1) L x).trans (by rw [h23] <;> rfl)
theorem f119_run (K : Nat) (a0 : Int) (a1 : Int × Int × Int) (a2 : List ((Int × Int × Int × Int) × Int × Int)) : runF (f119E K) Tryz.f119 [(.ro, (.int .i64)), (.ro, (.cons (.int .i64) (.cons (.int .i64) (.int .i64)))), (.ro, (.list 34 (.cons (.cons (.int .i64) (.cons (.int .i64) (.cons (.int .i64) (.int .i64)))) (.cons (.int .i64) (.int .i64)))))] [.bool] (a0, a1, a2, ()) = f119G K a0 a1 a2 := by
  have key : ∀ (lr : LR Bool), runG (f119E K) Tryz.f119 [(.ro, (.int .i64)), (.ro, (.cons (.int .i64) (.cons (.int .i64) (.int .i64)))), (.ro, (.list 34 (.cons (.cons (.int .i64) (.cons (.int .i64) (.cons (.int .i64) (.int .i64)))) (.cons (.int .i64) (.int .i64)))))] [.bool] (a0, a1, a2, ()) lr = f119_g K a0 a1 a2 (fun c0 d0 => lr (selC f119C [1, 1, 0, 1, 0, 0]) (f119_fr6 a0 a1 a2 c0 d0) (f119_k6 K a0 a1 a2 lr)) := by intro lr; kernel_rfl
  have h6 : (fun c0 d0 => (realL (f119E K) 1) (selC f119C [1, 1, 0, 1, 0, 0]) (f119_fr6 a0 a1 a2 c0 d0) (f119_k6 K a0 a1 a2 (realL (f119E K) 1))) = fun c0 d0 => f119_l6 K a0 a1 a2 c0 K d0 := by
    funext c0 d0
    exact f119_t6 K a0 a1 a2 c0 d0 K d0
  exact runF_G (n0 := 1) (by rfl) ((key (realL (f119E K) 1)).trans (by rw [h6] <;> rfl))
theorem f118_run (K : Nat) (a0 : Int) (a1 : Int × Int × Int) (a2 : Bool) : runF (f118E K) Tryz.f118 [(.ro, (.int .i64)), (.ro, (.cons (.int .i64) (.cons (.int .i64) (.int .i64)))), (.ro, .bool)] [(.int .i64)] (a0, a1, a2, ()) = f118G K a0 a1 a2 := by kernel_rfl
theorem f81_run (K : Nat) (a0 : Int) (a1 : Int × Int × Int) (a2 : List ((Int × Int × Int × Int) × Int × Int)) (a3 : Bool) : runF (f81E K) Tryz.f81 [(.ro, (.int .i64)), (.ro, (.cons (.int .i64) (.cons (.int .i64) (.int .i64)))), (.ro, (.list 34 (.cons (.cons (.int .i64) (.cons (.int .i64) (.cons (.int .i64) (.int .i64)))) (.cons (.int .i64) (.int .i64))))), (.ro, .bool)] [(.int .i64)] (a0, a1, a2, a3, ()) = f81G K a0 a1 a2 a3 := by kernel_rfl
theorem f111_run (K : Nat) (a0 : (Int × Int × Int × Int) × Int × Int) (a1 : Int × Int) : runF (f111E K) Tryz.f111 [(.ro, (.cons (.cons (.int .i64) (.cons (.int .i64) (.cons (.int .i64) (.int .i64)))) (.cons (.int .i64) (.int .i64)))), (.ro, (.cons (.int .i64) (.int .i64)))] [(.cons (.int .i64) (.int .i64))] (a0, a1, ()) = f111G K a0 a1 := by kernel_rfl
theorem f69_run (K : Nat) (a0 : Int × Int × Int) (a1 : (Int × Int × Int × Int) × Int × Int) (a2 : Int × Int) : runF (f69E K) Tryz.f69 [(.ro, (.cons (.int .i64) (.cons (.int .i64) (.int .i64)))), (.ro, (.cons (.cons (.int .i64) (.cons (.int .i64) (.cons (.int .i64) (.int .i64)))) (.cons (.int .i64) (.int .i64)))), (.ro, (.cons (.int .i64) (.int .i64)))] [(.cons (.int .i64) (.int .i64))] (a0, a1, a2, ()) = f69G K a0 a1 a2 := by kernel_rfl
theorem f120_t3 (K : Nat) (a0 : List (Int × Int)) (a1 : Int × Int) (bq4 : Int) : ∀ (n : Nat) (q4 : Int), loopN (exec (f120E K) 1 (selC f120C [1, 1, 0, 0, 0])) 1 (f120_fr3 a0 a1 bq4) n (f120_fr3 a0 a1 q4) (f120_k3 K a0 a1 (realL (f120E K) 1)) = f120_l3 K a0 a1 n q4 := by
  have key : ∀ (lr : LR (List (Int × Int))) (L : Fr → Option (List (Int × Int))) (q4 : Int), execG (f120E K) 1 lr (selC f120C [1, 1, 0, 0, 0]) (f120_fr3 a0 a1 q4) (loopK 1 (f120_fr3 a0 a1 bq4) L (f120_k3 K a0 a1 lr)) = f120_b3 K a0 a1 (fun v0 => L (f120_fr3 a0 a1 v0)) q4 := by
    intro lr L q4; kernel_rfl
  intro n q4
  refine loopN_iter (X := Int) (frame := fun x => (f120_fr3 a0 a1 x)) (body := (fun L x => (fun L3 => f120_b3 K a0 a1 L3 x) (fun v0 => L v0))) (fun L x => ?_) n q4
  rw [exec_G]
  exact (key (realL (f120E K) 1) L x).trans (by rfl)
theorem f120_run (K : Nat) (a0 : List (Int × Int)) (a1 : Int × Int) : runF (f120E K) Tryz.f120 [(.mv, (.list 32 (.cons (.int .i64) (.int .i64)))), (.ro, (.cons (.int .i64) (.int .i64)))] [(.list 32 (.cons (.int .i64) (.int .i64)))] (a0, a1, ()) = f120G K a0 a1 := by
  have key : ∀ (lr : LR (List (Int × Int))), runG (f120E K) Tryz.f120 [(.mv, (.list 32 (.cons (.int .i64) (.int .i64)))), (.ro, (.cons (.int .i64) (.int .i64)))] [(.list 32 (.cons (.int .i64) (.int .i64)))] (a0, a1, ()) lr = f120_g K a0 a1 (fun d0 => lr (selC f120C [1, 1, 0, 0, 0]) (f120_fr3 a0 a1 d0) (f120_k3 K a0 a1 lr)) := by intro lr; kernel_rfl
  have h3 : (fun d0 => (realL (f120E K) 1) (selC f120C [1, 1, 0, 0, 0]) (f120_fr3 a0 a1 d0) (f120_k3 K a0 a1 (realL (f120E K) 1))) = fun d0 => f120_l3 K a0 a1 K d0 := by
    funext d0
    exact f120_t3 K a0 a1 d0 K d0
  exact runF_G (n0 := 1) (by rfl) ((key (realL (f120E K) 1)).trans (by rw [h3] <;> rfl))
theorem f82_t4 (K : Nat) (a0 : Int × Int × Int) (a1 : List ((Int × Int × Int × Int) × Int × Int)) (a2 : Int × Int) (bq5 : Int) (bq6 : List (Int × Int)) : ∀ (n : Nat) (q5 : Int) (q6 : List (Int × Int)), loopN (exec (f82E K) 1 (selC f82C [1, 1, 0, 1, 0, 0])) 1 (f82_fr4 a0 a1 a2 bq5 bq6) n (f82_fr4 a0 a1 a2 q5 q6) (f82_k4 K a0 a1 a2 (realL (f82E K) 1)) = f82_l4 K a0 a1 a2 n q5 q6 := by
  have key : ∀ (lr : LR (List (Int × Int))) (L : Fr → Option (List (Int × Int))) (q5 : Int) (q6 : List (Int × Int)), execG (f82E K) 1 lr (selC f82C [1, 1, 0, 1, 0, 0]) (f82_fr4 a0 a1 a2 q5 q6) (loopK 1 (f82_fr4 a0 a1 a2 bq5 bq6) L (f82_k4 K a0 a1 a2 lr)) = f82_b4 K a0 a1 a2 (fun v0 v1 => L (f82_fr4 a0 a1 a2 v0 v1)) q5 q6 := by
    intro lr L q5 q6; kernel_rfl
  intro n q5 q6
  refine loopN_iter (X := Int × List (Int × Int)) (frame := fun x => (f82_fr4 a0 a1 a2 x.1 x.2)) (body := (fun L x => (fun L4 => f82_b4 K a0 a1 a2 L4 x.1 x.2) (fun v0 v1 => L (v0, v1)))) (fun L x => ?_) n (q5, q6)
  rw [exec_G]
  exact (key (realL (f82E K) 1) L x.1 x.2).trans (by rfl)
theorem f82_run (K : Nat) (a0 : Int × Int × Int) (a1 : List ((Int × Int × Int × Int) × Int × Int)) (a2 : Int × Int) : runF (f82E K) Tryz.f82 [(.ro, (.cons (.int .i64) (.cons (.int .i64) (.int .i64)))), (.ro, (.list 34 (.cons (.cons (.int .i64) (.cons (.int .i64) (.cons (.int .i64) (.int .i64)))) (.cons (.int .i64) (.int .i64))))), (.ro, (.cons (.int .i64) (.int .i64)))] [(.list 32 (.cons (.int .i64) (.int .i64)))] (a0, a1, a2, ()) = f82G K a0 a1 a2 := by
  have key : ∀ (lr : LR (List (Int × Int))), runG (f82E K) Tryz.f82 [(.ro, (.cons (.int .i64) (.cons (.int .i64) (.int .i64)))), (.ro, (.list 34 (.cons (.cons (.int .i64) (.cons (.int .i64) (.cons (.int .i64) (.int .i64)))) (.cons (.int .i64) (.int .i64))))), (.ro, (.cons (.int .i64) (.int .i64)))] [(.list 32 (.cons (.int .i64) (.int .i64)))] (a0, a1, a2, ()) lr = f82_g K a0 a1 a2 (fun d0 d1 => lr (selC f82C [1, 1, 0, 1, 0, 0]) (f82_fr4 a0 a1 a2 d0 d1) (f82_k4 K a0 a1 a2 lr)) := by intro lr; kernel_rfl
  have h4 : (fun d0 d1 => (realL (f82E K) 1) (selC f82C [1, 1, 0, 1, 0, 0]) (f82_fr4 a0 a1 a2 d0 d1) (f82_k4 K a0 a1 a2 (realL (f82E K) 1))) = fun d0 d1 => f82_l4 K a0 a1 a2 K d0 d1 := by
    funext d0 d1
    exact f82_t4 K a0 a1 a2 d0 d1 K d0 d1
  exact runF_G (n0 := 1) (by rfl) ((key (realL (f82E K) 1)).trans (by rw [h4] <;> rfl))
theorem f37_run (K : Nat) (a0 : Int) (a1 : Int × Int × Int) (a2 : List ((Int × Int × Int × Int) × Int × Int)) (a3 : Int × Int) : runF (f37E K) Tryz.f37 [(.ro, (.int .i64)), (.ro, (.cons (.int .i64) (.cons (.int .i64) (.int .i64)))), (.ro, (.list 34 (.cons (.cons (.int .i64) (.cons (.int .i64) (.cons (.int .i64) (.int .i64)))) (.cons (.int .i64) (.int .i64))))), (.ro, (.cons (.int .i64) (.int .i64)))] [(.list 32 (.cons (.int .i64) (.int .i64))), (.int .i64)] (a0, a1, a2, a3, ()) = f37G K a0 a1 a2 a3 := by kernel_rfl
theorem f116_run (K : Nat) (a0 : Int) (a1 : Int) (a2 : Int) : runF (f116E K) Tryz.f116 [(.ro, (.int .i64)), (.ro, (.int .i64)), (.ro, (.int .i64))] [.bool] (a0, a1, a2, ()) = f116G K a0 a1 a2 := by kernel_rfl
theorem f135_run (K : Nat) (a0 : Int) : runF (f135E K) Tryz.f135 [(.ro, (.int .i64))] [.bool] (a0, ()) = f135G K a0 := by kernel_rfl
theorem f100_run (K : Nat) (a0 : Int × Int × Int) : runF (f100E K) Tryz.f100 [(.ro, (.cons (.int .i64) (.cons (.int .i64) (.int .i64))))] [(.int .i64)] (a0, ()) = f100G K a0 := by kernel_rfl
theorem f136_run (K : Nat) (a0 : Int × Int × Int) : runF (f136E K) Tryz.f136 [(.ro, (.cons (.int .i64) (.cons (.int .i64) (.int .i64))))] [.bool] (a0, ()) = f136G K a0 := by kernel_rfl
theorem f113_run (K : Nat) (a0 : Int) (a1 : Int × Int × Int) : runF (f113E K) Tryz.f113 [(.ro, (.int .i64)), (.ro, (.cons (.int .i64) (.cons (.int .i64) (.int .i64))))] [(.int .i64)] (a0, a1, ()) = f113G K a0 a1 := by kernel_rfl
theorem f151_run (K : Nat) (a0 : Int × Int × Int) : runF (f151E K) Tryz.f151 [(.ro, (.cons (.int .i64) (.cons (.int .i64) (.int .i64))))] [(.cons (.int .i64) (.int .i64)), (.cons (.int .i64) (.int .i64))] (a0, ()) = f151G K a0 := by kernel_rfl
theorem f204_run (K : Nat) (a0 : Int × Int × Int × Int) (a1 : Int × Int) : runF (f204E K) Tryz.f204 [(.ro, (.cons (.int .i64) (.cons (.int .i64) (.cons (.int .i64) (.int .i64))))), (.ro, (.cons (.int .i64) (.int .i64)))] [(.cons (.int .i64) (.int .i64))] (a0, a1, ()) = f204G K a0 a1 := by kernel_rfl
theorem f237_run (K : Nat) (a0 : Int) (a1 : Int × Int) : runF (f237E K) Tryz.f237 [(.ro, (.int .i64)), (.ro, (.cons (.int .i64) (.int .i64)))] [(.int .i64)] (a0, a1, ()) = f237G K a0 a1 := by kernel_rfl
theorem f201_t8 (K : Nat) (a0 : Int) (bq9 : Int) (bq10 : List (Int × Int × Int × Int)) : ∀ (n : Nat) (q9 : Int) (q10 : List (Int × Int × Int × Int)), loopN (exec (f201E K) 0 (selC f201C [1, 1, 0, 1, 0, 0])) 0 (f201_fr8 a0 bq9 bq10) n (f201_fr8 a0 q9 q10) (f201_k8 K a0 (realL (f201E K) 0)) = f201_l8 K a0 n q9 q10 := by
  have key : ∀ (lr : LR (List (Int × Int × Int × Int))) (L : Fr → Option (List (Int × Int × Int × Int))) (q9 : Int) (q10 : List (Int × Int × Int × Int)), execG (f201E K) 0 lr (selC f201C [1, 1, 0, 1, 0, 0]) (f201_fr8 a0 q9 q10) (loopK 0 (f201_fr8 a0 bq9 bq10) L (f201_k8 K a0 lr)) = f201_b8 K a0 (fun v0 v1 => L (f201_fr8 a0 v0 v1)) q9 q10 := by
    intro lr L q9 q10; kernel_rfl
  intro n q9 q10
  refine loopN_iter (X := Int × List (Int × Int × Int × Int)) (frame := fun x => (f201_fr8 a0 x.1 x.2)) (body := (fun L x => (fun L8 => f201_b8 K a0 L8 x.1 x.2) (fun v0 v1 => L (v0, v1)))) (fun L x => ?_) n (q9, q10)
  rw [exec_G]
  exact (key (realL (f201E K) 0) L x.1 x.2).trans (by rfl)
theorem f201_run (K : Nat) (a0 : Int) : runF (f201E K) Tryz.f201 [(.ro, (.int .i64))] [(.list 31 (.cons (.int .i64) (.cons (.int .i64) (.cons (.int .i64) (.int .i64)))))] (a0, ()) = f201G K a0 := by
  have key : ∀ (lr : LR (List (Int × Int × Int × Int))), runG (f201E K) Tryz.f201 [(.ro, (.int .i64))] [(.list 31 (.cons (.int .i64) (.cons (.int .i64) (.cons (.int .i64) (.int .i64)))))] (a0, ()) lr = f201_g K a0 (fun d0 d1 => lr (selC f201C [1, 1, 0, 1, 0, 0]) (f201_fr8 a0 d0 d1) (f201_k8 K a0 lr)) := by intro lr; kernel_rfl
  have h8 : (fun d0 d1 => (realL (f201E K) 0) (selC f201C [1, 1, 0, 1, 0, 0]) (f201_fr8 a0 d0 d1) (f201_k8 K a0 (realL (f201E K) 0))) = fun d0 d1 => f201_l8 K a0 K d0 d1 := by
    funext d0 d1
    exact f201_t8 K a0 d0 d1 K d0 d1
  exact runF_G (n0 := 0) (by rfl) ((key (realL (f201E K) 0)).trans (by rw [h8] <;> rfl))
theorem f207_run (K : Nat) (a0 : Int) (a1 : Int) : runF (f207E K) Tryz.f207 [(.ro, (.int .i64)), (.ro, (.int .i64))] [(.int .i64)] (a0, a1, ()) = f207G K a0 a1 := by kernel_rfl
theorem f163_run (K : Nat) (a0 : Int × Int × Int) (a1 : Int × Int) : runF (f163E K) Tryz.f163 [(.ro, (.cons (.int .i64) (.cons (.int .i64) (.int .i64)))), (.ro, (.cons (.int .i64) (.int .i64)))] [(.cons (.int .i64) (.int .i64))] (a0, a1, ()) = f163G K a0 a1 := by kernel_rfl
theorem f203_run (K : Nat) (a0 : Int × Int × Int) (a1 : Int × Int) : runF (f203E K) Tryz.f203 [(.ro, (.cons (.int .i64) (.cons (.int .i64) (.int .i64)))), (.ro, (.cons (.int .i64) (.int .i64)))] [.bool] (a0, a1, ()) = f203G K a0 a1 := by kernel_rfl
theorem f202_run (K : Nat) (a0 : Int × Int × Int × Int) (a1 : Int × Int × Int) (a2 : Int × Int) (a3 : Int × Int) : runF (f202E K) Tryz.f202 [(.ro, (.cons (.int .i64) (.cons (.int .i64) (.cons (.int .i64) (.int .i64))))), (.cap, (.cons (.int .i64) (.cons (.int .i64) (.int .i64)))), (.cap, (.cons (.int .i64) (.int .i64))), (.cap, (.cons (.int .i64) (.int .i64)))] [.bool] (a0, a1, a2, a3, ()) = f202G K a0 a1 a2 a3 := by kernel_rfl
theorem f236_t3 (K : Nat) (a0 : List (Int × Int × Int × Int)) (a1 : ((Int × Int × Int × Int) → Option Bool)) (bq4 : Int) : ∀ (n : Nat) (q4 : Int), loopN (exec (f236E K) 1 (selC f236C [1, 0, 1, 0, 0])) 1 (f236_fr3 a0 a1 bq4) n (f236_fr3 a0 a1 q4) (f236_k3 K a0 a1 (realL (f236E K) 1)) = f236_l3 K a0 a1 n q4 := by
  have key : ∀ (lr : LR Int) (L : Fr → Option Int) (q4 : Int), execG (f236E K) 1 lr (selC f236C [1, 0, 1, 0, 0]) (f236_fr3 a0 a1 q4) (loopK 1 (f236_fr3 a0 a1 bq4) L (f236_k3 K a0 a1 lr)) = f236_b3 K a0 a1 (fun v0 => L (f236_fr3 a0 a1 v0)) q4 := by
    intro lr L q4; kernel_rfl
  intro n q4
  refine loopN_iter (X := Int) (frame := fun x => (f236_fr3 a0 a1 x)) (body := (fun L x => (fun L3 => f236_b3 K a0 a1 L3 x) (fun v0 => L v0))) (fun L x => ?_) n q4
  rw [exec_G]
  exact (key (realL (f236E K) 1) L x).trans (by rfl)
theorem f236_run (K : Nat) (a0 : List (Int × Int × Int × Int)) (a1 : ((Int × Int × Int × Int) → Option Bool)) : runF (f236E K) Tryz.f236 [(.ro, (.list 31 (.cons (.int .i64) (.cons (.int .i64) (.cons (.int .i64) (.int .i64)))))), (.ro, (.fn1 (.cons (.int .i64) (.cons (.int .i64) (.cons (.int .i64) (.int .i64)))) .bool))] [(.int .i64)] (a0, a1, ()) = f236G K a0 a1 := by
  have key : ∀ (lr : LR Int), runG (f236E K) Tryz.f236 [(.ro, (.list 31 (.cons (.int .i64) (.cons (.int .i64) (.cons (.int .i64) (.int .i64)))))), (.ro, (.fn1 (.cons (.int .i64) (.cons (.int .i64) (.cons (.int .i64) (.int .i64)))) .bool))] [(.int .i64)] (a0, a1, ()) lr = f236_g K a0 a1 (fun d0 => lr (selC f236C [1, 0, 1, 0, 0]) (f236_fr3 a0 a1 d0) (f236_k3 K a0 a1 lr)) := by intro lr; kernel_rfl
  have h3 : (fun d0 => (realL (f236E K) 1) (selC f236C [1, 0, 1, 0, 0]) (f236_fr3 a0 a1 d0) (f236_k3 K a0 a1 (realL (f236E K) 1))) = fun d0 => f236_l3 K a0 a1 K d0 := by
    funext d0
    exact f236_t3 K a0 a1 d0 K d0
  exact runF_G (n0 := 1) (by rfl) ((key (realL (f236E K) 1)).trans (by rw [h3] <;> rfl))
theorem f200_t4 (K : Nat) (a0 : List (Int × Int × Int × Int)) (a1 : ((Int × Int × Int × Int) → Option Bool)) (y1 : Int) (bq5 : Int) (bq6 : Int) (bq7 : List (Int × Int × Int × Int)) : ∀ (n : Nat) (q5 : Int) (q6 : Int) (q7 : List (Int × Int × Int × Int)), loopN (exec (f200E K) 1 (selC f200C [1, 1, 1, 0, 1, 0, 0])) 1 (f200_fr4 a1 y1 bq5 bq6 bq7) n (f200_fr4 a1 y1 q5 q6 q7) (f200_k4 K a0 a1 (realL (f200E K) 1)) = f200_l4 K a1 y1 n q5 q6 q7 := by
  have key : ∀ (lr : LR (List (Int × Int × Int × Int))) (L : Fr → Option (List (Int × Int × Int × Int))) (q5 : Int) (q6 : Int) (q7 : List (Int × Int × Int × Int)), execG (f200E K) 1 lr (selC f200C [1, 1, 1, 0, 1, 0, 0]) (f200_fr4 a1 y1 q5 q6 q7) (loopK 1 (f200_fr4 a1 y1 bq5 bq6 bq7) L (f200_k4 K a0 a1 lr)) = f200_b4 K a1 y1 (fun v0 v1 v2 => L (f200_fr4 a1 y1 v0 v1 v2)) q5 q6 q7 := by
    intro lr L q5 q6 q7; kernel_rfl
  intro n q5 q6 q7
  refine loopN_iter (X := Int × Int × List (Int × Int × Int × Int)) (frame := fun x => (f200_fr4 a1 y1 x.1 x.2.1 x.2.2)) (body := (fun L x => (fun L4 => f200_b4 K a1 y1 L4 x.1 x.2.1 x.2.2) (fun v0 v1 v2 => L (v0, v1, v2)))) (fun L x => ?_) n (q5, q6, q7)
  rw [exec_G]
  exact (key (realL (f200E K) 1) L x.1 x.2.1 x.2.2).trans (by rfl)
theorem f200_run (K : Nat) (a0 : List (Int × Int × Int × Int)) (a1 : ((Int × Int × Int × Int) → Option Bool)) : runF (f200E K) Tryz.f200 [(.mv, (.list 31 (.cons (.int .i64) (.cons (.int .i64) (.cons (.int .i64) (.int .i64)))))), (.ro, (.fn1 (.cons (.int .i64) (.cons (.int .i64) (.cons (.int .i64) (.int .i64)))) .bool))] [(.list 31 (.cons (.int .i64) (.cons (.int .i64) (.cons (.int .i64) (.int .i64)))))] (a0, a1, ()) = f200G K a0 a1 := by
  have key : ∀ (lr : LR (List (Int × Int × Int × Int))), runG (f200E K) Tryz.f200 [(.mv, (.list 31 (.cons (.int .i64) (.cons (.int .i64) (.cons (.int .i64) (.int .i64)))))), (.ro, (.fn1 (.cons (.int .i64) (.cons (.int .i64) (.cons (.int .i64) (.int .i64)))) .bool))] [(.list 31 (.cons (.int .i64) (.cons (.int .i64) (.cons (.int .i64) (.int .i64)))))] (a0, a1, ()) lr = f200_g K a0 a1 (fun c0 d0 d1 d2 => lr (selC f200C [1, 1, 1, 0, 1, 0, 0]) (f200_fr4 a1 c0 d0 d1 d2) (f200_k4 K a0 a1 lr)) := by intro lr; kernel_rfl
  have h4 : (fun c0 d0 d1 d2 => (realL (f200E K) 1) (selC f200C [1, 1, 1, 0, 1, 0, 0]) (f200_fr4 a1 c0 d0 d1 d2) (f200_k4 K a0 a1 (realL (f200E K) 1))) = fun c0 d0 d1 d2 => f200_l4 K a1 c0 K d0 d1 d2 := by
    funext c0 d0 d1 d2
    exact f200_t4 K a0 a1 c0 d0 d1 d2 K d0 d1 d2
  exact runF_G (n0 := 1) (by rfl) ((key (realL (f200E K) 1)).trans (by rw [h4] <;> rfl))
theorem f149_run (K : Nat) (a0 : Int) (a1 : Int × Int × Int) : runF (f149E K) Tryz.f149 [(.ro, (.int .i64)), (.ro, (.cons (.int .i64) (.cons (.int .i64) (.int .i64))))] [(.list 31 (.cons (.int .i64) (.cons (.int .i64) (.cons (.int .i64) (.int .i64)))))] (a0, a1, ()) = f149G K a0 a1 := by kernel_rfl
theorem f238_t2 (K : Nat) (a0 : List (Int × Int × Int × Int)) (a1 : Int × Int × Int × Int) (bq3 : Int) : ∀ (n : Nat) (q3 : Int), loopN (exec (f238E K) 1 (selC f238C [1, 0, 1, 0, 0])) 1 (f238_fr2 a0 a1 bq3) n (f238_fr2 a0 a1 q3) (f238_k2 K a0 a1 (realL (f238E K) 1)) = f238_l2 K a0 a1 n q3 := by
  have key : ∀ (lr : LR Int) (L : Fr → Option Int) (q3 : Int), execG (f238E K) 1 lr (selC f238C [1, 0, 1, 0, 0]) (f238_fr2 a0 a1 q3) (loopK 1 (f238_fr2 a0 a1 bq3) L (f238_k2 K a0 a1 lr)) = f238_b2 K a0 a1 (fun v0 => L (f238_fr2 a0 a1 v0)) q3 := by
    intro lr L q3; kernel_rfl
  intro n q3
  refine loopN_iter (X := Int) (frame := fun x => (f238_fr2 a0 a1 x)) (body := (fun L x => (fun L2 => f238_b2 K a0 a1 L2 x) (fun v0 => L v0))) (fun L x => ?_) n q3
  rw [exec_G]
  exact (key (realL (f238E K) 1) L x).trans (by rfl)
theorem f238_run (K : Nat) (a0 : List (Int × Int × Int × Int)) (a1 : Int × Int × Int × Int) : runF (f238E K) Tryz.f238 [(.ro, (.list 31 (.cons (.int .i64) (.cons (.int .i64) (.cons (.int .i64) (.int .i64)))))), (.ro, (.cons (.int .i64) (.cons (.int .i64) (.cons (.int .i64) (.int .i64)))))] [(.int .i64)] (a0, a1, ()) = f238G K a0 a1 := by
  have key : ∀ (lr : LR Int), runG (f238E K) Tryz.f238 [(.ro, (.list 31 (.cons (.int .i64) (.cons (.int .i64) (.cons (.int .i64) (.int .i64)))))), (.ro, (.cons (.int .i64) (.cons (.int .i64) (.cons (.int .i64) (.int .i64)))))] [(.int .i64)] (a0, a1, ()) lr = f238_g K a0 a1 (fun d0 => lr (selC f238C [1, 0, 1, 0, 0]) (f238_fr2 a0 a1 d0) (f238_k2 K a0 a1 lr)) := by intro lr; kernel_rfl
  have h2 : (fun d0 => (realL (f238E K) 1) (selC f238C [1, 0, 1, 0, 0]) (f238_fr2 a0 a1 d0) (f238_k2 K a0 a1 (realL (f238E K) 1))) = fun d0 => f238_l2 K a0 a1 K d0 := by
    funext d0
    exact f238_t2 K a0 a1 d0 K d0
  exact runF_G (n0 := 1) (by rfl) ((key (realL (f238E K) 1)).trans (by rw [h2] <;> rfl))
theorem f209_run (K : Nat) (a0 : List (Int × Int × Int × Int)) (a1 : Int × Int × Int × Int) : runF (f209E K) Tryz.f209 [(.ro, (.list 31 (.cons (.int .i64) (.cons (.int .i64) (.cons (.int .i64) (.int .i64)))))), (.ro, (.cons (.int .i64) (.cons (.int .i64) (.cons (.int .i64) (.int .i64)))))] [.bool] (a0, a1, ()) = f209G K a0 a1 := by kernel_rfl
theorem f174_t2 (K : Nat) (a0 : List Int) (a1 : List Int) (bq3 : Int) : ∀ (n : Nat) (q3 : Int), loopN (exec (f174E K) 2 (selC f174C [1, 0, 1, 0, 0])) 2 (f174_fr2 a0 a1 bq3) n (f174_fr2 a0 a1 q3) (f174_k2 K a0 a1 (realL (f174E K) 2)) = f174_l2 K a0 a1 n q3 := by
  have key : ∀ (lr : LR Int) (L : Fr → Option Int) (q3 : Int), execG (f174E K) 2 lr (selC f174C [1, 0, 1, 0, 0]) (f174_fr2 a0 a1 q3) (loopK 2 (f174_fr2 a0 a1 bq3) L (f174_k2 K a0 a1 lr)) = f174_b2 K a0 a1 (fun v0 => L (f174_fr2 a0 a1 v0)) q3 := by
    intro lr L q3; kernel_rfl
  intro n q3
  refine loopN_iter (X := Int) (frame := fun x => (f174_fr2 a0 a1 x)) (body := (fun L x => (fun L2 => f174_b2 K a0 a1 L2 x) (fun v0 => L v0))) (fun L x => ?_) n q3
  rw [exec_G]
  exact (key (realL (f174E K) 2) L x).trans (by rfl)
theorem f174_run (K : Nat) (a0 : List Int) (a1 : List Int) : runF (f174E K) Tryz.f174 [(.ro, (.list 2 (.int .i64))), (.ro, (.list 2 (.int .i64)))] [(.int .i64)] (a0, a1, ()) = f174G K a0 a1 := by
  have key : ∀ (lr : LR Int), runG (f174E K) Tryz.f174 [(.ro, (.list 2 (.int .i64))), (.ro, (.list 2 (.int .i64)))] [(.int .i64)] (a0, a1, ()) lr = f174_g K a0 a1 (fun d0 => lr (selC f174C [1, 0, 1, 0, 0]) (f174_fr2 a0 a1 d0) (f174_k2 K a0 a1 lr)) := by intro lr; kernel_rfl
  have h2 : (fun d0 => (realL (f174E K) 2) (selC f174C [1, 0, 1, 0, 0]) (f174_fr2 a0 a1 d0) (f174_k2 K a0 a1 (realL (f174E K) 2))) = fun d0 => f174_l2 K a0 a1 K d0 := by
    funext d0
    exact f174_t2 K a0 a1 d0 K d0
  exact runF_G (n0 := 2) (by rfl) ((key (realL (f174E K) 2)).trans (by rw [h2] <;> rfl))
theorem f239_run (K : Nat) (a0 : Int × Int × Int × Int) (a1 : Int × Int × Int × Int) : runF (f239E K) Tryz.f239 [(.ro, (.cons (.int .i64) (.cons (.int .i64) (.cons (.int .i64) (.int .i64))))), (.ro, (.cons (.int .i64) (.cons (.int .i64) (.cons (.int .i64) (.int .i64)))))] [(.int .i64)] (a0, a1, ()) = f239G K a0 a1 := by kernel_rfl
theorem f124_run (K : Nat) (a0 : Int × Int) (a1 : Int × Int) : runF (f124E K) Tryz.f124 [(.ro, (.cons (.int .i64) (.int .i64))), (.ro, (.cons (.int .i64) (.int .i64)))] [(.int .i64)] (a0, a1, ()) = f124G K a0 a1 := by kernel_rfl
theorem f210_run (K : Nat) (a0 : (Int × Int × Int × Int) × Int × Int) (a1 : (Int × Int × Int × Int) × Int × Int) : runF (f210E K) Tryz.f210 [(.ro, (.cons (.cons (.int .i64) (.cons (.int .i64) (.cons (.int .i64) (.int .i64)))) (.cons (.int .i64) (.int .i64)))), (.ro, (.cons (.cons (.int .i64) (.cons (.int .i64) (.cons (.int .i64) (.int .i64)))) (.cons (.int .i64) (.int .i64))))] [(.int .i64)] (a0, a1, ()) = f210G K a0 a1 := by kernel_rfl
theorem f152_run (K : Nat) : runF (f152E K) Tryz.f152 [] [(.cons (.int .i64) (.cons (.int .i64) (.cons (.int .i64) (.int .i64))))] (()) = f152G K := by kernel_rfl
theorem f240_run (K : Nat) (a0 : Int × Int × Int × Int) (a1 : Int × Int × Int × Int) : runF (f240E K) Tryz.f240 [(.ro, (.cons (.int .i64) (.cons (.int .i64) (.cons (.int .i64) (.int .i64))))), (.ro, (.cons (.int .i64) (.cons (.int .i64) (.cons (.int .i64) (.int .i64)))))] [(.cons (.int .i64) (.cons (.int .i64) (.cons (.int .i64) (.int .i64))))] (a0, a1, ()) = f240G K a0 a1 := by kernel_rfl
theorem f205_run (K : Nat) (a0 : Int × Int) (a1 : Int × Int) : runF (f205E K) Tryz.f205 [(.ro, (.cons (.int .i64) (.int .i64))), (.ro, (.cons (.int .i64) (.int .i64)))] [(.cons (.int .i64) (.int .i64))] (a0, a1, ()) = f205G K a0 a1 := by kernel_rfl
theorem f212_run (K : Nat) (a0 : (Int × Int × Int × Int) × Int × Int) (a1 : (Int × Int × Int × Int) × Int × Int) : runF (f212E K) Tryz.f212 [(.ro, (.cons (.cons (.int .i64) (.cons (.int .i64) (.cons (.int .i64) (.int .i64)))) (.cons (.int .i64) (.int .i64)))), (.ro, (.cons (.cons (.int .i64) (.cons (.int .i64) (.cons (.int .i64) (.int .i64)))) (.cons (.int .i64) (.int .i64))))] [(.cons (.cons (.int .i64) (.cons (.int .i64) (.cons (.int .i64) (.int .i64)))) (.cons (.int .i64) (.int .i64)))] (a0, a1, ()) = f212G K a0 a1 := by kernel_rfl
theorem f211_run (K : Nat) (a0 : Int × Int × Int) (a1 : (Int × Int × Int × Int) × Int × Int) : runF (f211E K) Tryz.f211 [(.ro, (.cons (.int .i64) (.cons (.int .i64) (.int .i64)))), (.ro, (.cons (.cons (.int .i64) (.cons (.int .i64) (.cons (.int .i64) (.int .i64)))) (.cons (.int .i64) (.int .i64))))] [(.cons (.cons (.int .i64) (.cons (.int .i64) (.cons (.int .i64) (.int .i64)))) (.cons (.int .i64) (.int .i64)))] (a0, a1, ()) = f211G K a0 a1 := by kernel_rfl
theorem f162_t23 (K : Nat) (a0 : Int) (a1 : Int × Int × Int) (a2 : List ((Int × Int × Int × Int) × Int × Int)) (q7 : Int) (q8 : List (((Int × Int × Int × Int) × Int × Int) × Bool)) (y1 : List (Int × Int × Int × Int)) (y12 : Int × Int × Int × Int) (q22 : Int) (F21 : Fr → Option Bool) (bq22 : Int) (bq24 : Int) : ∀ (n : Nat) (q24 : Int), loopN (exec (f162E K) 1 (selC f162C [1, 1, 1, 1, 0, 1, 0, 0, 1, 1, 0, 0, 1, 1, 0, 0])) 1 (f162_fr23 a0 a1 a2 q7 q8 q22 y1 y12 bq24) n (f162_fr23 a0 a1 a2 q7 q8 q22 y1 y12 q24) (f162_k23 K a0 a1 a2 q7 q8 y1 y12 F21 bq22 (realL (f162E K) 1)) = f162_l23 K a0 a1 a2 q7 q8 q22 y1 y12 (fun v0 => F21 (f162_fr21 a0 a1 a2 q7 q8 y1 y12 v0)) n q24 := by
  have key : ∀ (lr : LR Bool) (L : Fr → Option Bool) (q24 : Int), execG (f162E K) 1 lr (selC f162C [1, 1, 1, 1, 0, 1, 0, 0, 1, 1, 0, 0, 1, 1, 0, 0]) (f162_fr23 a0 a1 a2 q7 q8 q22 y1 y12 q24) (loopK 1 (f162_fr23 a0 a1 a2 q7 q8 q22 y1 y12 bq24) L (f162_k23 K a0 a1 a2 q7 q8 y1 y12 F21 bq22 lr)) = f162_b23 K a0 a1 a2 q7 q8 q22 y1 y12 (fun v0 => F21 (f162_fr21 a0 a1 a2 q7 q8 y1 y12 v0)) (fun v0 => L (f162_fr23 a0 a1 a2 q7 q8 q22 y1 y12 v0)) q24 := by
    intro lr L q24; kernel_rfl
  intro n q24
  refine loopN_iter (X := Int) (frame := fun x => (f162_fr23 a0 a1 a2 q7 q8 q22 y1 y12 x)) (body := (fun L x => (fun L23 => f162_b23 K a0 a1 a2 q7 q8 q22 y1 y12 (fun v0 => F21 (f162_fr21 a0 a1 a2 q7 q8 y1 y12 v0)) L23 x) (fun v0 => L v0))) (fun L x => ?_) n q24
  rw [exec_G]
  exact (key (realL (f162E K) 1) L x).trans (by rfl)
theorem f162_t21 (K : Nat) (a0 : Int) (a1 : Int × Int × Int) (a2 : List ((Int × Int × Int × Int) × Int × Int)) (q7 : Int) (q8 : List (((Int × Int × Int × Int) × Int × Int) × Bool)) (y1 : List (Int × Int × Int × Int)) (y12 : Int × Int × Int × Int) (bq22 : Int) : ∀ (n : Nat) (q22 : Int), loopN (exec (f162E K) 1 (selC f162C [1, 1, 1, 1, 0, 1, 0, 0])) 1 (f162_fr21 a0 a1 a2 q7 q8 y1 y12 bq22) n (f162_fr21 a0 a1 a2 q7 q8 y1 y12 q22) (f162_k21 K a0 a1 a2 (realL (f162E K) 1)) = f162_l21 K a0 a1 a2 q7 q8 y1 y12 n q22 := by
  have key : ∀ (lr : LR Bool) (L : Fr → Option Bool) (q22 : Int), execG (f162E K) 1 lr (selC f162C [1, 1, 1, 1, 0, 1, 0, 0]) (f162_fr21 a0 a1 a2 q7 q8 y1 y12 q22) (loopK 1 (f162_fr21 a0 a1 a2 q7 q8 y1 y12 bq22) L (f162_k21 K a0 a1 a2 lr)) = f162_b21 K a0 a1 a2 q7 q8 y1 y12 (fun c0 d0 => lr (selC f162C [1, 1, 1, 1, 0, 1, 0, 0, 1, 1, 0, 0, 1, 1, 0, 0]) (f162_fr23 a0 a1 a2 q7 q8 c0 y1 y12 d0) (f162_k23 K a0 a1 a2 q7 q8 y1 y12 L bq22 lr)) (fun v0 => L (f162_fr21 a0 a1 a2 q7 q8 y1 y12 v0)) q22 := by
    intro lr L q22; kernel_rfl
  intro n q22
  refine loopN_iter (X := Int) (frame := fun x => (f162_fr21 a0 a1 a2 q7 q8 y1 y12 x)) (body := (fun L x => (fun L21 => f162_b21 K a0 a1 a2 q7 q8 y1 y12 (fun c0 d0 => f162_l23 K a0 a1 a2 q7 q8 c0 y1 y12 L21 K d0) L21 x) (fun v0 => L v0))) (fun L x => ?_) n q22
  rw [exec_G]
  have h23 : (fun c0 d0 => (realL (f162E K) 1) (selC f162C [1, 1, 1, 1, 0, 1, 0, 0, 1, 1, 0, 0, 1, 1, 0, 0]) (f162_fr23 a0 a1 a2 q7 q8 c0 y1 y12 d0) (f162_k23 K a0 a1 a2 q7 q8 y1 y12 L bq22 (realL (f162E K) 1))) = fun c0 d0 => f162_l23 K a0 a1 a2 q7 q8 c0 y1 y12 (fun v0 => L (f162_fr21 a0 a1 a2 q7 q8 y1 y12 v0)) K d0 := by
    funext c0 d0
    exact f162_t23 K a0 a1 a2 q7 q8 y1 y12 c0 L bq22 d0 K d0
  exact (key (realL (f162E K) 1) L x).trans (by rw [h23] <;> rfl)
theorem f162_t6 (K : Nat) (a0 : Int) (a1 : Int × Int × Int) (a2 : List ((Int × Int × Int × Int) × Int × Int)) (y1 : List (Int × Int × Int × Int)) (bq7 : Int) (bq8 : List (((Int × Int × Int × Int) × Int × Int) × Bool)) : ∀ (n : Nat) (q7 : Int) (q8 : List (((Int × Int × Int × Int) × Int × Int) × Bool)), loopN (exec (f162E K) 1 (selC f162C [1, 1, 0, 1, 0, 0])) 1 (f162_fr6 a0 a1 a2 y1 bq7 bq8) n (f162_fr6 a0 a1 a2 y1 q7 q8) (f162_k6 K a0 a1 a2 (realL (f162E K) 1)) = f162_l6 K a0 a1 a2 y1 n q7 q8 := by
  have key : ∀ (lr : LR Bool) (L : Fr → Option Bool) (q7 : Int) (q8 : List (((Int × Int × Int × Int) × Int × Int) × Bool)), execG (f162E K) 1 lr (selC f162C [1, 1, 0, 1, 0, 0]) (f162_fr6 a0 a1 a2 y1 q7 q8) (loopK 1 (f162_fr6 a0 a1 a2 y1 bq7 bq8) L (f162_k6 K a0 a1 a2 lr)) = f162_b6 K a0 a1 a2 y1 (fun c0 c1 c2 c3 d0 => lr (selC f162C [1, 1, 1, 1, 0, 1, 0, 0]) (f162_fr21 a0 a1 a2 c0 c1 c2 c3 d0) (f162_k21 K a0 a1 a2 lr)) (fun v0 v1 => L (f162_fr6 a0 a1 a2 y1 v0 v1)) q7 q8 := by
    intro lr L q7 q8; kernel_rfl
  intro n q7 q8
  refine loopN_iter (X := Int × List (((Int × Int × Int × Int) × Int × Int) × Bool)) (frame := fun x => (f162_fr6 a0 a1 a2 y1 x.1 x.2)) (body := (fun L x => (fun L6 => f162_b6 K a0 a1 a2 y1 (fun c0 c1 c2 c3 d0 => f162_l21 K a0 a1 a2 c0 c1 c2 c3 K d0) L6 x.1 x.2) (fun v0 v1 => L (v0, v1)))) (fun L x => ?_) n (q7, q8)
  rw [exec_G]
  have h21 : (fun c0 c1 c2 c3 d0 => (realL (f162E K) 1) (selC f162C [1, 1, 1, 1, 0, 1, 0, 0]) (f162_fr21 a0 a1 a2 c0 c1 c2 c3 d0) (f162_k21 K a0 a1 a2 (realL (f162E K) 1))) = fun c0 c1 c2 c3 d0 => f162_l21 K a0 a1 a2 c0 c1 c2 c3 K d0 := by
    funext c0 c1 c2 c3 d0
    exact f162_t21 K a0 a1 a2 c0 c1 c2 c3 d0 K d0
  exact (key (realL (f162E K) 1) L x.1 x.2).trans (by rw [h21] <;> rfl)
theorem f162_run (K : Nat) (a0 : Int) (a1 : Int × Int × Int) (a2 : List ((Int × Int × Int × Int) × Int × Int)) : runF (f162E K) Tryz.f162 [(.ro, (.int .i64)), (.ro, (.cons (.int .i64) (.cons (.int .i64) (.int .i64)))), (.ro, (.list 34 (.cons (.cons (.int .i64) (.cons (.int .i64) (.cons (.int .i64) (.int .i64)))) (.cons (.int .i64) (.int .i64)))))] [.bool] (a0, a1, a2, ()) = f162G K a0 a1 a2 := by
  have key : ∀ (lr : LR Bool), runG (f162E K) Tryz.f162 [(.ro, (.int .i64)), (.ro, (.cons (.int .i64) (.cons (.int .i64) (.int .i64)))), (.ro, (.list 34 (.cons (.cons (.int .i64) (.cons (.int .i64) (.cons (.int .i64) (.int .i64)))) (.cons (.int .i64) (.int .i64)))))] [.bool] (a0, a1, a2, ()) lr = f162_g K a0 a1 a2 (fun c0 d0 d1 => lr (selC f162C [1, 1, 0, 1, 0, 0]) (f162_fr6 a0 a1 a2 c0 d0 d1) (f162_k6 K a0 a1 a2 lr)) := by intro lr; kernel_rfl
  have h6 : (fun c0 d0 d1 => (realL (f162E K) 1) (selC f162C [1, 1, 0, 1, 0, 0]) (f162_fr6 a0 a1 a2 c0 d0 d1) (f162_k6 K a0 a1 a2 (realL (f162E K) 1))) = fun c0 d0 d1 => f162_l6 K a0 a1 a2 c0 K d0 d1 := by
    funext c0 d0 d1
    exact f162_t6 K a0 a1 a2 c0 d0 d1 K d0 d1
  exact runF_G (n0 := 1) (by rfl) ((key (realL (f162E K) 1)).trans (by rw [h6] <;> rfl))
theorem f115_t4 (K : Nat) (a0 : Int) (a1 : Int × Int × Int) (a2 : List (List ((Int × Int × Int × Int) × Int × Int))) (y1 : Int) (bq5 : Int) : ∀ (n : Nat) (q5 : Int), loopN (exec (f115E K) 1 (selC f115C [1, 1, 0, 1, 0, 0])) 1 (f115_fr4 a0 a1 a2 y1 bq5) n (f115_fr4 a0 a1 a2 y1 q5) (f115_k4 K a0 a1 a2 (realL (f115E K) 1)) = f115_l4 K a0 a1 a2 y1 n q5 := by
  have key : ∀ (lr : LR Int) (L : Fr → Option Int) (q5 : Int), execG (f115E K) 1 lr (selC f115C [1, 1, 0, 1, 0, 0]) (f115_fr4 a0 a1 a2 y1 q5) (loopK 1 (f115_fr4 a0 a1 a2 y1 bq5) L (f115_k4 K a0 a1 a2 lr)) = f115_b4 K a0 a1 a2 y1 (fun v0 => L (f115_fr4 a0 a1 a2 y1 v0)) q5 := by
    intro lr L q5; kernel_rfl
  intro n q5
  refine loopN_iter (X := Int) (frame := fun x => (f115_fr4 a0 a1 a2 y1 x)) (body := (fun L x => (fun L4 => f115_b4 K a0 a1 a2 y1 L4 x) (fun v0 => L v0))) (fun L x => ?_) n q5
  rw [exec_G]
  exact (key (realL (f115E K) 1) L x).trans (by rfl)
theorem f115_run (K : Nat) (a0 : Int) (a1 : Int × Int × Int) (a2 : List (List ((Int × Int × Int × Int) × Int × Int))) : runF (f115E K) Tryz.f115 [(.ro, (.int .i64)), (.ro, (.cons (.int .i64) (.cons (.int .i64) (.int .i64)))), (.ro, (.list 39 (.list 34 (.cons (.cons (.int .i64) (.cons (.int .i64) (.cons (.int .i64) (.int .i64)))) (.cons (.int .i64) (.int .i64))))))] [(.int .i64)] (a0, a1, a2, ()) = f115G K a0 a1 a2 := by
  have key : ∀ (lr : LR Int), runG (f115E K) Tryz.f115 [(.ro, (.int .i64)), (.ro, (.cons (.int .i64) (.cons (.int .i64) (.int .i64)))), (.ro, (.list 39 (.list 34 (.cons (.cons (.int .i64) (.cons (.int .i64) (.cons (.int .i64) (.int .i64)))) (.cons (.int .i64) (.int .i64))))))] [(.int .i64)] (a0, a1, a2, ()) lr = f115_g K a0 a1 a2 (fun c0 d0 => lr (selC f115C [1, 1, 0, 1, 0, 0]) (f115_fr4 a0 a1 a2 c0 d0) (f115_k4 K a0 a1 a2 lr)) := by intro lr; kernel_rfl
  have h4 : (fun c0 d0 => (realL (f115E K) 1) (selC f115C [1, 1, 0, 1, 0, 0]) (f115_fr4 a0 a1 a2 c0 d0) (f115_k4 K a0 a1 a2 (realL (f115E K) 1))) = fun c0 d0 => f115_l4 K a0 a1 a2 c0 K d0 := by
    funext c0 d0
    exact f115_t4 K a0 a1 a2 c0 d0 K d0
  exact runF_G (n0 := 1) (by rfl) ((key (realL (f115E K) 1)).trans (by rw [h4] <;> rfl))
theorem f72_run (K : Nat) (a0 : Int × Int × Int) (a1 : Int × Int) : runF (f72E K) Tryz.f72 [(.ro, (.cons (.int .i64) (.cons (.int .i64) (.int .i64)))), (.ro, (.cons (.int .i64) (.int .i64)))] [.bool] (a0, a1, ()) = f72G K a0 a1 := by kernel_rfl
theorem f122_run (K : Nat) (a0 : Int × Int) (a1 : Int × Int × Int) : runF (f122E K) Tryz.f122 [(.ro, (.cons (.int .i64) (.int .i64))), (.cap, (.cons (.int .i64) (.cons (.int .i64) (.int .i64))))] [.bool] (a0, a1, ()) = f122G K a0 a1 := by kernel_rfl
theorem f171_t3 (K : Nat) (a0 : List (Int × Int)) (a1 : ((Int × Int) → Option Bool)) (bq4 : Int) : ∀ (n : Nat) (q4 : Int), loopN (exec (f171E K) 1 (selC f171C [1, 0, 1, 0, 0])) 1 (f171_fr3 a0 a1 bq4) n (f171_fr3 a0 a1 q4) (f171_k3 K a0 a1 (realL (f171E K) 1)) = f171_l3 K a0 a1 n q4 := by
  have key : ∀ (lr : LR Int) (L : Fr → Option Int) (q4 : Int), execG (f171E K) 1 lr (selC f171C [1, 0, 1, 0, 0]) (f171_fr3 a0 a1 q4) (loopK 1 (f171_fr3 a0 a1 bq4) L (f171_k3 K a0 a1 lr)) = f171_b3 K a0 a1 (fun v0 => L (f171_fr3 a0 a1 v0)) q4 := by
    intro lr L q4; kernel_rfl
  intro n q4
  refine loopN_iter (X := Int) (frame := fun x => (f171_fr3 a0 a1 x)) (body := (fun L x => (fun L3 => f171_b3 K a0 a1 L3 x) (fun v0 => L v0))) (fun L x => ?_) n q4
  rw [exec_G]
  exact (key (realL (f171E K) 1) L x).trans (by rfl)
theorem f171_run (K : Nat) (a0 : List (Int × Int)) (a1 : ((Int × Int) → Option Bool)) : runF (f171E K) Tryz.f171 [(.ro, (.list 32 (.cons (.int .i64) (.int .i64)))), (.ro, (.fn1 (.cons (.int .i64) (.int .i64)) .bool))] [(.int .i64)] (a0, a1, ()) = f171G K a0 a1 := by
  have key : ∀ (lr : LR Int), runG (f171E K) Tryz.f171 [(.ro, (.list 32 (.cons (.int .i64) (.int .i64)))), (.ro, (.fn1 (.cons (.int .i64) (.int .i64)) .bool))] [(.int .i64)] (a0, a1, ()) lr = f171_g K a0 a1 (fun d0 => lr (selC f171C [1, 0, 1, 0, 0]) (f171_fr3 a0 a1 d0) (f171_k3 K a0 a1 lr)) := by intro lr; kernel_rfl
  have h3 : (fun d0 => (realL (f171E K) 1) (selC f171C [1, 0, 1, 0, 0]) (f171_fr3 a0 a1 d0) (f171_k3 K a0 a1 (realL (f171E K) 1))) = fun d0 => f171_l3 K a0 a1 K d0 := by
    funext d0
    exact f171_t3 K a0 a1 d0 K d0
  exact runF_G (n0 := 1) (by rfl) ((key (realL (f171E K) 1)).trans (by rw [h3] <;> rfl))
theorem f121_run (K : Nat) (a0 : List (Int × Int)) (a1 : ((Int × Int) → Option Bool)) : runF (f121E K) Tryz.f121 [(.ro, (.list 32 (.cons (.int .i64) (.int .i64)))), (.ro, (.fn1 (.cons (.int .i64) (.int .i64)) .bool))] [.bool] (a0, a1, ()) = f121G K a0 a1 := by kernel_rfl
theorem f83_run (K : Nat) (a0 : Int) (a1 : Int × Int × Int) (a2 : List ((Int × Int × Int × Int) × Int × Int)) (a3 : List (Int × Int)) : runF (f83E K) Tryz.f83 [(.ro, (.int .i64)), (.ro, (.cons (.int .i64) (.cons (.int .i64) (.int .i64)))), (.ro, (.list 34 (.cons (.cons (.int .i64) (.cons (.int .i64) (.cons (.int .i64) (.int .i64)))) (.cons (.int .i64) (.int .i64))))), (.ro, (.list 32 (.cons (.int .i64) (.int .i64))))] [(.int .i64)] (a0, a1, a2, a3, ()) = f83G K a0 a1 a2 a3 := by kernel_rfl
theorem f164_run (K : Nat) (a0 : (Int × Int × Int × Int) × Int × Int) (a1 : Int × Int) : runF (f164E K) Tryz.f164 [(.ro, (.cons (.cons (.int .i64) (.cons (.int .i64) (.cons (.int .i64) (.int .i64)))) (.cons (.int .i64) (.int .i64)))), (.ro, (.cons (.int .i64) (.int .i64)))] [(.cons (.int .i64) (.int .i64))] (a0, a1, ()) = f164G K a0 a1 := by kernel_rfl
theorem f117_run (K : Nat) (a0 : Int × Int × Int) (a1 : (Int × Int × Int × Int) × Int × Int) (a2 : Int × Int) : runF (f117E K) Tryz.f117 [(.ro, (.cons (.int .i64) (.cons (.int .i64) (.int .i64)))), (.ro, (.cons (.cons (.int .i64) (.cons (.int .i64) (.cons (.int .i64) (.int .i64)))) (.cons (.int .i64) (.int .i64)))), (.ro, (.cons (.int .i64) (.int .i64)))] [(.cons (.int .i64) (.int .i64))] (a0, a1, a2, ()) = f117G K a0 a1 a2 := by kernel_rfl
end Go.Proofs.YthlldmfkdcmcfaaGreat.X
