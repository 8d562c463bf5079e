/- Functions of the program as plain Lean functions, and that the program does what they say. Printed by gen.py. -/
import Derived.Test.YtniidcalfhhciaaGreatQgD1
namespace Go.Proofs.YtniidcalfhhciaaGreat.X
open Go
set_option maxRecDepth 100000
set_option linter.unusedVariables false
theorem f14_run (K : Nat) (a0 : List Int) : runF (f14E K) Tryz.f14 [(.ro, (.list 5 (.int .u8)))] [.bool] (a0, ()) = f14G K a0 := by kernel_rfl
theorem f124_t2 (K : Nat) (a0 : List Int) (bq3 : Int) (bq4 : Int) : ∀ (n : Nat) (q3 : Int) (q4 : Int), loopN (exec (f124E K) 1 (selC f124C [1, 1, 0, 1, 0, 0])) 1 (f124_fr2 a0 bq3 bq4) n (f124_fr2 a0 q3 q4) (f124_k2 K a0 (realL (f124E K) 1)) = f124_l2 K a0 n q3 q4 := by
  have key : ∀ (lr : LR tV) (L : Fr → Option tV) (q3 : Int) (q4 : Int), execG (f124E K) 1 lr (selC f124C [1, 1, 0, 1, 0, 0]) (f124_fr2 a0 q3 q4) (loopK 1 (f124_fr2 a0 bq3 bq4) L (f124_k2 K a0 lr)) = f124_b2 K a0 (fun v0 v1 => L (f124_fr2 a0 v0 v1)) q3 q4 := by
    intro lr L q3 q4; kernel_rfl
  intro n q3 q4
  refine loopN_iter (X := Int × Int) (frame := fun x => (f124_fr2 a0 x.1 x.2)) (body := (fun L x => (fun L2 => f124_b2 K a0 L2 x.1 x.2) (fun v0 v1 => L (v0, v1)))) (fun L x => ?_) n (q3, q4)
  rw [exec_G]
  exact (key (realL (f124E K) 1) L x.1 x.2).trans (by rfl)
theorem f124_run (K : Nat) (a0 : List Int) : runN (f124E K) Tryz.f124 5 (.int .u8) sV [] (a0, ()) = f124G K a0 := by
  have key : ∀ (lr : LR tV), runNG (f124E K) Tryz.f124 5 (.int .u8) sV [] (a0, ()) lr = f124_g K a0 (fun d0 d1 => lr (selC f124C [1, 1, 0, 1, 0, 0]) (f124_fr2 a0 d0 d1) (f124_k2 K a0 lr)) := by intro lr; kernel_rfl
  have h2 : (fun d0 d1 => (realL (f124E K) 1) (selC f124C [1, 1, 0, 1, 0, 0]) (f124_fr2 a0 d0 d1) (f124_k2 K a0 (realL (f124E K) 1))) = fun d0 d1 => f124_l2 K a0 K d0 d1 := by
    funext d0 d1
    exact f124_t2 K a0 d0 d1 K d0 d1
  exact runN_G (n0 := 1) (by rfl) ((key (realL (f124E K) 1)).trans (by rw [h2] <;> rfl))
theorem f140_run (K : Nat) (a0 : (List Int) × Int × Int) (a1 : Int) : runP (f140E K) Tryz.f140 5 (.int .u8) sV [(.ro, sI)] [sI] (a0, a1, ()) = f140G K a0 a1 := by kernel_rfl
theorem f363_run (K : Nat) (a0 : ByteArray) (a1 : Int) : runF (f363E K) Tryz.f363 [(.ro, .str), (.ro, sI)] [sI, (.list 57 sM), .bool] (a0, a1, ()) = f363G K a0 a1 := by kernel_rfl
theorem f195_run (K : Nat) (a0 : Int) (a1 : Int) (a2 : Int) : runF (f195E K) Tryz.f195 [(.ro, sI), (.ro, sI), (.ro, sI)] [.bool] (a0, a1, a2, ()) = f195G K a0 a1 a2 := by kernel_rfl
theorem f218_run (K : Nat) : runF (f218E K) Tryz.f218 [] [sA] (()) = f218G K := by kernel_rfl
theorem f141_run (K : Nat) : runF (f141E K) Tryz.f141 [] [sM] (()) = f141G K := by kernel_rfl
theorem f344_run (K : Nat) (a0 : Int × Int × Int × Int) (a1 : Int × Int × Int × Int) : runF (f344E K) Tryz.f344 [(.ro, sA), (.ro, sA)] [sA] (a0, a1, ()) = f344G K a0 a1 := by kernel_rfl
theorem f278_run (K : Nat) (a0 : Int × Int × Int × Int) (a1 : Int × Int) : runF (f278E K) Tryz.f278 [(.ro, sA), (.ro, sV)] [sV] (a0, a1, ()) = f278G K a0 a1 := by kernel_rfl
theorem f277_run (K : Nat) (a0 : Int × Int) (a1 : Int × Int) : runF (f277E K) Tryz.f277 [(.ro, sV), (.ro, sV)] [sV] (a0, a1, ()) = f277G K a0 a1 := by kernel_rfl
theorem f276_run (K : Nat) (a0 : tA × Int × Int) (a1 : tA × Int × Int) : runF (f276E K) Tryz.f276 [(.ro, sM), (.ro, sM)] [sM] (a0, a1, ()) = f276G K a0 a1 := by kernel_rfl
theorem f324_run (K : Nat) (a0 : Int) (a1 : Int) : runF (f324E K) Tryz.f324 [(.ro, sI), (.ro, sI)] [sI] (a0, a1, ()) = f324G K a0 a1 := by kernel_rfl
theorem f250_run (K : Nat) (a0 : Int × Int × Int) (a1 : Int × Int) : runF (f250E K) Tryz.f250 [(.ro, sL), (.ro, sV)] [sV] (a0, a1, ()) = f250G K a0 a1 := by kernel_rfl
theorem f273_run (K : Nat) (a0 : Int × Int × Int) (a1 : tA × Int × Int) : runF (f273E K) Tryz.f273 [(.ro, sL), (.ro, sM)] [sM] (a0, a1, ()) = f273G K a0 a1 := by kernel_rfl
theorem f380_run (K : Nat) (a0 : Int × Int × Int × Int) : runF (f380E K) Tryz.f380 [(.ro, sA)] [(.list 2 sI)] (a0, ()) = f380G K a0 := by kernel_rfl
theorem f153_t2 (K : Nat) (a0 : List Int) (a1 : List Int) (bq3 : Int) : ∀ (n : Nat) (q3 : Int), loopN (exec (f153E K) 2 (selC f153C [1, 0, 1, 0, 0])) 2 (f153_fr2 a0 a1 bq3) n (f153_fr2 a0 a1 q3) (f153_k2 K a0 a1 (realL (f153E K) 2)) = f153_l2 K a0 a1 n q3 := by
  have key : ∀ (lr : LR Bool) (L : Fr → Option Bool) (q3 : Int), execG (f153E K) 2 lr (selC f153C [1, 0, 1, 0, 0]) (f153_fr2 a0 a1 q3) (loopK 2 (f153_fr2 a0 a1 bq3) L (f153_k2 K a0 a1 lr)) = f153_b2 K a0 a1 (fun v0 => L (f153_fr2 a0 a1 v0)) q3 := by
    intro lr L q3; kernel_rfl
  intro n q3
  refine loopN_iter (X := Int) (frame := fun x => (f153_fr2 a0 a1 x)) (body := (fun L x => (fun L2 => f153_b2 K a0 a1 L2 x) (fun v0 => L v0))) (fun L x => ?_) n q3
  rw [exec_G]
  exact (key (realL (f153E K) 2) L x).trans (by rfl)
theorem f153_run (K : Nat) (a0 : List Int) (a1 : List Int) : runF (f153E K) Tryz.f153 [(.ro, (.list 2 sI)), (.ro, (.list 2 sI))] [.bool] (a0, a1, ()) = f153G K a0 a1 := by
  have key : ∀ (lr : LR Bool), runG (f153E K) Tryz.f153 [(.ro, (.list 2 sI)), (.ro, (.list 2 sI))] [.bool] (a0, a1, ()) lr = f153_g K a0 a1 (fun d0 => lr (selC f153C [1, 0, 1, 0, 0]) (f153_fr2 a0 a1 d0) (f153_k2 K a0 a1 lr)) := by intro lr; kernel_rfl
  have h2 : (fun d0 => (realL (f153E K) 2) (selC f153C [1, 0, 1, 0, 0]) (f153_fr2 a0 a1 d0) (f153_k2 K a0 a1 (realL (f153E K) 2))) = fun d0 => f153_l2 K a0 a1 K d0 := by
    funext d0
    exact f153_t2 K a0 a1 d0 K d0
  exact runF_G (n0 := 2) (by rfl) ((key (realL (f153E K) 2)).trans (by rw [h2] <;> rfl))
theorem f342_run (K : Nat) (a0 : Int × Int × Int × Int) (a1 : Int × Int × Int × Int) : runF (f342E K) Tryz.f342 [(.ro, sA), (.ro, sA)] [.bool] (a0, a1, ()) = f342G K a0 a1 := by kernel_rfl
theorem f320_run (K : Nat) (a0 : Int × Int) (a1 : Int × Int) : runF (f320E K) Tryz.f320 [(.ro, sV), (.ro, sV)] [.bool] (a0, a1, ()) = f320G K a0 a1 := by kernel_rfl
theorem f274_run (K : Nat) (a0 : tA × Int × Int) (a1 : tA × Int × Int) : runF (f274E K) Tryz.f274 [(.ro, sM), (.ro, sM)] [.bool] (a0, a1, ()) = f274G K a0 a1 := by kernel_rfl
theorem f343_t6 (K : Nat) (a0 : List tM) (a1 : tA × Int × Int) (bq7 : Int) (bq8 : Int) : ∀ (n : Nat) (q7 : Int) (q8 : Int), loopN (exec (f343E K) 1 (selC f343C [1, 1, 0, 0, 0])) 1 (f343_fr6 a0 a1 bq7 bq8) n (f343_fr6 a0 a1 q7 q8) (f343_k6 K a0 a1 (realL (f343E K) 1)) = f343_l6 K a0 a1 n q7 q8 := by
  have key : ∀ (lr : LR Int) (L : Fr → Option Int) (q7 : Int) (q8 : Int), execG (f343E K) 1 lr (selC f343C [1, 1, 0, 0, 0]) (f343_fr6 a0 a1 q7 q8) (loopK 1 (f343_fr6 a0 a1 bq7 bq8) L (f343_k6 K a0 a1 lr)) = f343_b6 K a0 a1 (fun v0 v1 => L (f343_fr6 a0 a1 v0 v1)) q7 q8 := by
    intro lr L q7 q8; kernel_rfl
  intro n q7 q8
  refine loopN_iter (X := Int × Int) (frame := fun x => (f343_fr6 a0 a1 x.1 x.2)) (body := (fun L x => (fun L6 => f343_b6 K a0 a1 L6 x.1 x.2) (fun v0 v1 => L (v0, v1)))) (fun L x => ?_) n (q7, q8)
  rw [exec_G]
  exact (key (realL (f343E K) 1) L x.1 x.2).trans (by rfl)
theorem f343_run (K : Nat) (a0 : List tM) (a1 : tA × Int × Int) : runF (f343E K) Tryz.f343 [(.ro, (.list 57 sM)), (.ro, sM)] [sI] (a0, a1, ()) = f343G K a0 a1 := by
  have key : ∀ (lr : LR Int), runG (f343E K) Tryz.f343 [(.ro, (.list 57 sM)), (.ro, sM)] [sI] (a0, a1, ()) lr = f343_g K a0 a1 (fun d0 d1 => lr (selC f343C [1, 1, 0, 0, 0]) (f343_fr6 a0 a1 d0 d1) (f343_k6 K a0 a1 lr)) := by intro lr; kernel_rfl
  have h6 : (fun d0 d1 => (realL (f343E K) 1) (selC f343C [1, 1, 0, 0, 0]) (f343_fr6 a0 a1 d0 d1) (f343_k6 K a0 a1 (realL (f343E K) 1))) = fun d0 d1 => f343_l6 K a0 a1 K d0 d1 := by
    funext d0 d1
    exact f343_t6 K a0 a1 d0 d1 K d0 d1
  exact runF_G (n0 := 1) (by rfl) ((key (realL (f343E K) 1)).trans (by rw [h6] <;> rfl))
theorem f275_run (K : Nat) (a0 : List tM) (a1 : tA × Int × Int) : runF (f275E K) Tryz.f275 [(.ro, (.list 57 sM)), (.ro, sM)] [.bool] (a0, a1, ()) = f275G K a0 a1 := by kernel_rfl
theorem f352_run (K : Nat) (a0 : List tM) (a1 : tA × Int × Int) : runF (f352E K) Tryz.f352 [(.mv, (.list 57 sM)), (.ro, sM)] [(.list 57 sM)] (a0, a1, ()) = f352G K a0 a1 := by kernel_rfl
theorem f292_t21 (K : Nat) (a0 : Int × Int × Int) (a1 : List tM) (q18 : Int) (q20 : List tM) (F17 : Fr → Option (List tM)) (bq18 : Int) (bq19 : List tM) (bq20 : List tM) (bq22 : Int) (bq23 : List tM) (bq24 : List tM) : ∀ (n : Nat) (q22 : Int) (q23 : List tM) (q24 : List tM), loopN (exec (f292E K) 1 (selC f292C [1, 1, 1, 0, 1, 0, 0, 1, 0, 0, 1, 0, 0])) 1 (f292_fr21 a0 a1 q18 q20 bq22 bq23 bq24) n (f292_fr21 a0 a1 q18 q20 q22 q23 q24) (f292_k21 K a0 a1 F17 bq18 bq19 bq20 (realL (f292E K) 1)) = f292_l21 K a0 a1 q18 q20 (fun v0 v1 v2 => F17 (f292_fr17 a0 a1 v0 v1 v2)) n q22 q23 q24 := by
  have key : ∀ (lr : LR (List tM)) (L : Fr → Option (List tM)) (q22 : Int) (q23 : List tM) (q24 : List tM), execG (f292E K) 1 lr (selC f292C [1, 1, 1, 0, 1, 0, 0, 1, 0, 0, 1, 0, 0]) (f292_fr21 a0 a1 q18 q20 q22 q23 q24) (loopK 1 (f292_fr21 a0 a1 q18 q20 bq22 bq23 bq24) L (f292_k21 K a0 a1 F17 bq18 bq19 bq20 lr)) = f292_b21 K a0 a1 q18 q20 (fun v0 v1 v2 => F17 (f292_fr17 a0 a1 v0 v1 v2)) (fun v0 v1 v2 => L (f292_fr21 a0 a1 q18 q20 v0 v1 v2)) q22 q23 q24 := by
    intro lr L q22 q23 q24; kernel_rfl
  intro n q22 q23 q24
  refine loopN_iter (X := Int × List tM × List tM) (frame := fun x => (f292_fr21 a0 a1 q18 q20 x.1 x.2.1 x.2.2)) (body := (fun L x => (fun L21 => f292_b21 K a0 a1 q18 q20 (fun v0 v1 v2 => F17 (f292_fr17 a0 a1 v0 v1 v2)) L21 x.1 x.2.1 x.2.2) (fun v0 v1 v2 => L (v0, v1, v2)))) (fun L x => ?_) n (q22, q23, q24)
  rw [exec_G]
  exact (key (realL (f292E K) 1) L x.1 x.2.1 x.2.2).trans (by rfl)
theorem f292_t17 (K : Nat) (a0 : Int × Int × Int) (a1 : List tM) (bq18 : Int) (bq19 : List tM) (bq20 : List tM) : ∀ (n : Nat) (q18 : Int) (q19 : List tM) (q20 : List tM), loopN (exec (f292E K) 1 (selC f292C [1, 1, 1, 0, 1, 0, 0])) 1 (f292_fr17 a0 a1 bq18 bq19 bq20) n (f292_fr17 a0 a1 q18 q19 q20) (f292_k17 K a0 a1 (realL (f292E K) 1)) = f292_l17 K a0 a1 n q18 q19 q20 := by
  have key : ∀ (lr : LR (List tM)) (L : Fr → Option (List tM)) (q18 : Int) (q19 : List tM) (q20 : List tM), execG (f292E K) 1 lr (selC f292C [1, 1, 1, 0, 1, 0, 0]) (f292_fr17 a0 a1 q18 q19 q20) (loopK 1 (f292_fr17 a0 a1 bq18 bq19 bq20) L (f292_k17 K a0 a1 lr)) = f292_b17 K a0 a1 (fun c0 c1 d0 d1 d2 => lr (selC f292C [1, 1, 1, 0, 1, 0, 0, 1, 0, 0, 1, 0, 0]) (f292_fr21 a0 a1 c0 c1 d0 d1 d2) (f292_k21 K a0 a1 L bq18 bq19 bq20 lr)) (fun v0 v1 v2 => L (f292_fr17 a0 a1 v0 v1 v2)) q18 q19 q20 := by
    intro lr L q18 q19 q20; kernel_rfl
  intro n q18 q19 q20
  refine loopN_iter (X := Int × List tM × List tM) (frame := fun x => (f292_fr17 a0 a1 x.1 x.2.1 x.2.2)) (body := (fun L x => (fun L17 => f292_b17 K a0 a1 (fun c0 c1 d0 d1 d2 => f292_l21 K a0 a1 c0 c1 L17 K d0 d1 d2) L17 x.1 x.2.1 x.2.2) (fun v0 v1 v2 => L (v0, v1, v2)))) (fun L x => ?_) n (q18, q19, q20)
  rw [exec_G]
  have h21 : (fun c0 c1 d0 d1 d2 => (realL (f292E K) 1) (selC f292C [1, 1, 1, 0, 1, 0, 0, 1, 0, 0, 1, 0, 0]) (f292_fr21 a0 a1 c0 c1 d0 d1 d2) (f292_k21 K a0 a1 L bq18 bq19 bq20 (realL (f292E K) 1))) = fun c0 c1 d0 d1 d2 => f292_l21 K a0 a1 c0 c1 (fun v0 v1 v2 => L (f292_fr17 a0 a1 v0 v1 v2)) K d0 d1 d2 := by
    funext c0 c1 d0 d1 d2
    exact f292_t21 K a0 a1 c0 c1 L bq18 bq19 bq20 d0 d1 d2 K d0 d1 d2
  exact (key (realL (f292E K) 1) L x.1 x.2.1 x.2.2).trans (by rw [h21] <;> rfl)
theorem f292_run (K : Nat) (a0 : Int × Int × Int) (a1 : List tM) : runF (f292E K) Tryz.f292 [(.ro, sL), (.ro, (.list 57 sM))] [(.list 57 sM)] (a0, a1, ()) = f292G K a0 a1 := by
  have key : ∀ (lr : LR (List tM)), runG (f292E K) Tryz.f292 [(.ro, sL), (.ro, (.list 57 sM))] [(.list 57 sM)] (a0, a1, ()) lr = f292_g K a0 a1 (fun d0 d1 d2 => lr (selC f292C [1, 1, 1, 0, 1, 0, 0]) (f292_fr17 a0 a1 d0 d1 d2) (f292_k17 K a0 a1 lr)) := by intro lr; kernel_rfl
  have h17 : (fun d0 d1 d2 => (realL (f292E K) 1) (selC f292C [1, 1, 1, 0, 1, 0, 0]) (f292_fr17 a0 a1 d0 d1 d2) (f292_k17 K a0 a1 (realL (f292E K) 1))) = fun d0 d1 d2 => f292_l17 K a0 a1 K d0 d1 d2 := by
    funext d0 d1 d2
    exact f292_t17 K a0 a1 d0 d1 d2 K d0 d1 d2
  exact runF_G (n0 := 1) (by rfl) ((key (realL (f292E K) 1)).trans (by rw [h17] <;> rfl))
theorem f312_run (K : Nat) (a0 : ByteArray) (a1 : Int) : runF (f312E K) Tryz.f312 [(.ro, .str), (.ro, sI)] [sI, sL, (.list 57 sM), sI] (a0, a1, ()) = f312G K a0 a1 := by kernel_rfl
theorem f142_run (K : Nat) (a0 : (List Int) × Int × Int) (a1 : List Int) : runP (f142E K) Tryz.f142 5 (.int .u8) sV [(.ro, (.list 2 sI))] [sI] (a0, a1, ()) = f142G K a0 a1 := by kernel_rfl
theorem f304_run (K : Nat) (a0 : (List Int) × Int × Int) : runP (f304E K) Tryz.f304 5 (.int .u8) sV [] [sI] (a0, ()) = f304G K a0 := by kernel_rfl
theorem f305_run (K : Nat) (a0 : (List Int) × Int × Int) : runP (f305E K) Tryz.f305 5 (.int .u8) sV [] [sL] (a0, ()) = f305G K a0 := by kernel_rfl
theorem f213_run (K : Nat) (a0 : (List Int) × Int × Int) : runP (f213E K) Tryz.f213 5 (.int .u8) sV [] [sI, sL] (a0, ()) = f213G K a0 := by kernel_rfl
theorem f306_run (K : Nat) (a0 : Int) : runF (f306E K) Tryz.f306 [(.ro, sI)] [.bool] (a0, ()) = f306G K a0 := by kernel_rfl
theorem f307_run (K : Nat) (a0 : Int × Int × Int) : runF (f307E K) Tryz.f307 [(.ro, sL)] [.bool] (a0, ()) = f307G K a0 := by kernel_rfl
theorem f215_run (K : Nat) (a0 : Int) (a1 : Int × Int × Int) : runF (f215E K) Tryz.f215 [(.ro, sI), (.ro, sL)] [sI] (a0, a1, ()) = f215G K a0 a1 := by kernel_rfl
theorem f385_run (K : Nat) (a0 : Int) (a1 : Int × Int) : runF (f385E K) Tryz.f385 [(.ro, sI), (.ro, sV)] [sI] (a0, a1, ()) = f385G K a0 a1 := by kernel_rfl
theorem f359_run (K : Nat) (a0 : Int) (a1 : Int × Int × Int × Int) : runF (f359E K) Tryz.f359 [(.ro, sI), (.ro, sA)] [.bool] (a0, a1, ()) = f359G K a0 a1 := by kernel_rfl
theorem f336_t3 (K : Nat) (a0 : Int) (bq4 : Int) (bq5 : List tA) : ∀ (n : Nat) (q4 : Int) (q5 : List tA), loopN (exec (f336E K) 0 (selC f336C [1, 1, 0, 1, 0, 0])) 0 (f336_fr3 a0 bq4 bq5) n (f336_fr3 a0 q4 q5) (f336_k3 K a0 (realL (f336E K) 0)) = f336_l3 K a0 n q4 q5 := by
  have key : ∀ (lr : LR (List tA)) (L : Fr → Option (List tA)) (q4 : Int) (q5 : List tA), execG (f336E K) 0 lr (selC f336C [1, 1, 0, 1, 0, 0]) (f336_fr3 a0 q4 q5) (loopK 0 (f336_fr3 a0 bq4 bq5) L (f336_k3 K a0 lr)) = f336_b3 K a0 (fun v0 v1 => L (f336_fr3 a0 v0 v1)) q4 q5 := by
    intro lr L q4 q5; kernel_rfl
  intro n q4 q5
  refine loopN_iter (X := Int × List tA) (frame := fun x => (f336_fr3 a0 x.1 x.2)) (body := (fun L x => (fun L3 => f336_b3 K a0 L3 x.1 x.2) (fun v0 v1 => L (v0, v1)))) (fun L x => ?_) n (q4, q5)
  rw [exec_G]
  exact (key (realL (f336E K) 0) L x.1 x.2).trans (by rfl)
theorem f336_run (K : Nat) (a0 : Int) : runF (f336E K) Tryz.f336 [(.ro, sI)] [(.list 53 sA)] (a0, ()) = f336G K a0 := by
  have key : ∀ (lr : LR (List tA)), runG (f336E K) Tryz.f336 [(.ro, sI)] [(.list 53 sA)] (a0, ()) lr = f336_g K a0 (fun d0 d1 => lr (selC f336C [1, 1, 0, 1, 0, 0]) (f336_fr3 a0 d0 d1) (f336_k3 K a0 lr)) := by intro lr; kernel_rfl
  have h3 : (fun d0 d1 => (realL (f336E K) 0) (selC f336C [1, 1, 0, 1, 0, 0]) (f336_fr3 a0 d0 d1) (f336_k3 K a0 (realL (f336E K) 0))) = fun d0 d1 => f336_l3 K a0 K d0 d1 := by
    funext d0 d1
    exact f336_t3 K a0 d0 d1 K d0 d1
  exact runF_G (n0 := 0) (by rfl) ((key (realL (f336E K) 0)).trans (by rw [h3] <;> rfl))
theorem f295_run (K : Nat) (a0 : Int × Int × Int) : runF (f295E K) Tryz.f295 [(.ro, sL)] [(.list 55 sV)] (a0, ()) = f295G K a0 := by kernel_rfl
theorem f136_run (K : Nat) (rec : Int → Int → Option Int) (a0 : Int) (a1 : Int) : runF (f136E K rec) Tryz.f136 [(.ro, sI), (.ro, sI)] [sI] (a0, a1, ()) = f136_s K rec a0 a1 := by kernel_rfl
theorem f333_run (K : Nat) (a0 : Int × Int) (a1 : Int) : runF (f333E K) Tryz.f333 [(.ro, sV), (.ro, sI)] [sV] (a0, a1, ()) = f333G K a0 a1 := by kernel_rfl
theorem f296_t15 (K : Nat) (a0 : List tV) (q11 : Int) (q12 : Int) (F10 : Fr → Option tL) (bq11 : Int) (bq12 : Int) (bq13 : Int) (bq14 : Int) (bq16 : Int) (bq17 : Int) (bq18 : Int) (bq19 : Int) : ∀ (n : Nat) (q16 : Int) (q17 : Int) (q18 : Int) (q19 : Int), loopN (exec (f296E K) 1 (selC f296C [1, 1, 0, 1, 0, 0, 1, 0, 0, 1, 0, 0, 0])) 1 (f296_fr15 a0 q11 q12 bq16 bq17 bq18 bq19) n (f296_fr15 a0 q11 q12 q16 q17 q18 q19) (f296_k15 K a0 F10 bq11 bq12 bq13 bq14 (realL (f296E K) 1)) = f296_l15 K a0 q11 q12 (fun v0 v1 v2 v3 => F10 (f296_fr10 a0 v0 v1 v2 v3)) n q16 q17 q18 q19 := by
  have key : ∀ (lr : LR tL) (L : Fr → Option tL) (q16 : Int) (q17 : Int) (q18 : Int) (q19 : Int), execG (f296E K) 1 lr (selC f296C [1, 1, 0, 1, 0, 0, 1, 0, 0, 1, 0, 0, 0]) (f296_fr15 a0 q11 q12 q16 q17 q18 q19) (loopK 1 (f296_fr15 a0 q11 q12 bq16 bq17 bq18 bq19) L (f296_k15 K a0 F10 bq11 bq12 bq13 bq14 lr)) = f296_b15 K a0 q11 q12 (fun v0 v1 v2 v3 => F10 (f296_fr10 a0 v0 v1 v2 v3)) (fun v0 v1 v2 v3 => L (f296_fr15 a0 q11 q12 v0 v1 v2 v3)) q16 q17 q18 q19 := by
    intro lr L q16 q17 q18 q19; kernel_rfl
  intro n q16 q17 q18 q19
  refine loopN_iter (X := Int × Int × Int × Int) (frame := fun x => (f296_fr15 a0 q11 q12 x.1 x.2.1 x.2.2.1 x.2.2.2)) (body := (fun L x => (fun L15 => f296_b15 K a0 q11 q12 (fun v0 v1 v2 v3 => F10 (f296_fr10 a0 v0 v1 v2 v3)) L15 x.1 x.2.1 x.2.2.1 x.2.2.2) (fun v0 v1 v2 v3 => L (v0, v1, v2, v3)))) (fun L x => ?_) n (q16, q17, q18, q19)
  rw [exec_G]
  exact (key (realL (f296E K) 1) L x.1 x.2.1 x.2.2.1 x.2.2.2).trans (by rfl)
theorem f296_t10 (K : Nat) (a0 : List tV) (bq11 : Int) (bq12 : Int) (bq13 : Int) (bq14 : Int) : ∀ (n : Nat) (q11 : Int) (q12 : Int) (q13 : Int) (q14 : Int), loopN (exec (f296E K) 1 (selC f296C [1, 1, 0, 1, 0, 0])) 1 (f296_fr10 a0 bq11 bq12 bq13 bq14) n (f296_fr10 a0 q11 q12 q13 q14) (f296_k10 K a0 (realL (f296E K) 1)) = f296_l10 K a0 n q11 q12 q13 q14 := by
  have key : ∀ (lr : LR tL) (L : Fr → Option tL) (q11 : Int) (q12 : Int) (q13 : Int) (q14 : Int), execG (f296E K) 1 lr (selC f296C [1, 1, 0, 1, 0, 0]) (f296_fr10 a0 q11 q12 q13 q14) (loopK 1 (f296_fr10 a0 bq11 bq12 bq13 bq14) L (f296_k10 K a0 lr)) = f296_b10 K a0 (fun c0 c1 d0 d1 d2 d3 => lr (selC f296C [1, 1, 0, 1, 0, 0, 1, 0, 0, 1, 0, 0, 0]) (f296_fr15 a0 c0 c1 d0 d1 d2 d3) (f296_k15 K a0 L bq11 bq12 bq13 bq14 lr)) (fun v0 v1 v2 v3 => L (f296_fr10 a0 v0 v1 v2 v3)) q11 q12 q13 q14 := by
    intro lr L q11 q12 q13 q14; kernel_rfl
  intro n q11 q12 q13 q14
  refine loopN_iter (X := Int × Int × Int × Int) (frame := fun x => (f296_fr10 a0 x.1 x.2.1 x.2.2.1 x.2.2.2)) (body := (fun L x => (fun L10 => f296_b10 K a0 (fun c0 c1 d0 d1 d2 d3 => f296_l15 K a0 c0 c1 L10 K d0 d1 d2 d3) L10 x.1 x.2.1 x.2.2.1 x.2.2.2) (fun v0 v1 v2 v3 => L (v0, v1, v2, v3)))) (fun L x => ?_) n (q11, q12, q13, q14)
  rw [exec_G]
  have h15 : (fun c0 c1 d0 d1 d2 d3 => (realL (f296E K) 1) (selC f296C [1, 1, 0, 1, 0, 0, 1, 0, 0, 1, 0, 0, 0]) (f296_fr15 a0 c0 c1 d0 d1 d2 d3) (f296_k15 K a0 L bq11 bq12 bq13 bq14 (realL (f296E K) 1))) = fun c0 c1 d0 d1 d2 d3 => f296_l15 K a0 c0 c1 (fun v0 v1 v2 v3 => L (f296_fr10 a0 v0 v1 v2 v3)) K d0 d1 d2 d3 := by
    funext c0 c1 d0 d1 d2 d3
    exact f296_t15 K a0 c0 c1 L bq11 bq12 bq13 bq14 d0 d1 d2 d3 K d0 d1 d2 d3
  exact (key (realL (f296E K) 1) L x.1 x.2.1 x.2.2.1 x.2.2.2).trans (by rw [h15] <;> rfl)
theorem f296_run (K : Nat) (a0 : List tV) : runF (f296E K) Tryz.f296 [(.ro, (.list 55 sV))] [sL] (a0, ()) = f296G K a0 := by
  have key : ∀ (lr : LR tL), runG (f296E K) Tryz.f296 [(.ro, (.list 55 sV))] [sL] (a0, ()) lr = f296_g K a0 (fun d0 d1 d2 d3 => lr (selC f296C [1, 1, 0, 1, 0, 0]) (f296_fr10 a0 d0 d1 d2 d3) (f296_k10 K a0 lr)) := by intro lr; kernel_rfl
  have h10 : (fun d0 d1 d2 d3 => (realL (f296E K) 1) (selC f296C [1, 1, 0, 1, 0, 0]) (f296_fr10 a0 d0 d1 d2 d3) (f296_k10 K a0 (realL (f296E K) 1))) = fun d0 d1 d2 d3 => f296_l10 K a0 K d0 d1 d2 d3 := by
    funext d0 d1 d2 d3
    exact f296_t10 K a0 d0 d1 d2 d3 K d0 d1 d2 d3
  exact runF_G (n0 := 1) (by rfl) ((key (realL (f296E K) 1)).trans (by rw [h10] <;> rfl))
theorem f303_run (K : Nat) (a0 : Int × Int × Int × Int) (a1 : Int × Int × Int) : runF (f303E K) Tryz.f303 [(.ro, sA), (.ro, sL)] [sL] (a0, a1, ()) = f303G K a0 a1 := by kernel_rfl
theorem f264_t4 (K : Nat) (a0 : Int) (a1 : Int × Int × Int) (y1 : List tA) (bq5 : Int) (bq6 : List tA) : ∀ (n : Nat) (q5 : Int) (q6 : List tA), loopN (exec (f264E K) 0 (selC f264C [1, 1, 1, 0, 1, 0, 0])) 0 (f264_fr4 a0 a1 y1 bq5 bq6) n (f264_fr4 a0 a1 y1 q5 q6) (f264_k4 K a0 a1 (realL (f264E K) 0)) = f264_l4 K a0 a1 y1 n q5 q6 := by
  have key : ∀ (lr : LR (List tA)) (L : Fr → Option (List tA)) (q5 : Int) (q6 : List tA), execG (f264E K) 0 lr (selC f264C [1, 1, 1, 0, 1, 0, 0]) (f264_fr4 a0 a1 y1 q5 q6) (loopK 0 (f264_fr4 a0 a1 y1 bq5 bq6) L (f264_k4 K a0 a1 lr)) = f264_b4 K a0 a1 y1 (fun v0 v1 => L (f264_fr4 a0 a1 y1 v0 v1)) q5 q6 := by
    intro lr L q5 q6; kernel_rfl
  intro n q5 q6
  refine loopN_iter (X := Int × List tA) (frame := fun x => (f264_fr4 a0 a1 y1 x.1 x.2)) (body := (fun L x => (fun L4 => f264_b4 K a0 a1 y1 L4 x.1 x.2) (fun v0 v1 => L (v0, v1)))) (fun L x => ?_) n (q5, q6)
  rw [exec_G]
  exact (key (realL (f264E K) 0) L x.1 x.2).trans (by rfl)
theorem f264_run (K : Nat) (a0 : Int) (a1 : Int × Int × Int) : runF (f264E K) Tryz.f264 [(.ro, sI), (.ro, sL)] [(.list 53 sA)] (a0, a1, ()) = f264G K a0 a1 := by
  have key : ∀ (lr : LR (List tA)), runG (f264E K) Tryz.f264 [(.ro, sI), (.ro, sL)] [(.list 53 sA)] (a0, a1, ()) lr = f264_g K a0 a1 (fun c0 d0 d1 => lr (selC f264C [1, 1, 1, 0, 1, 0, 0]) (f264_fr4 a0 a1 c0 d0 d1) (f264_k4 K a0 a1 lr)) := by intro lr; kernel_rfl
  have h4 : (fun c0 d0 d1 => (realL (f264E K) 0) (selC f264C [1, 1, 1, 0, 1, 0, 0]) (f264_fr4 a0 a1 c0 d0 d1) (f264_k4 K a0 a1 (realL (f264E K) 0))) = fun c0 d0 d1 => f264_l4 K a0 a1 c0 K d0 d1 := by
    funext c0 d0 d1
    exact f264_t4 K a0 a1 c0 d0 d1 K d0 d1
  exact runF_G (n0 := 0) (by rfl) ((key (realL (f264E K) 0)).trans (by rw [h4] <;> rfl))
theorem f291_run (K : Nat) (a0 : (List Int) × Int × Int) (a1 : Int) (a2 : Int × Int × Int) : runP (f291E K) Tryz.f291 5 (.int .u8) sV [(.ro, sI), (.ro, sL)] [sM] (a0, a1, a2, ()) = f291G K a0 a1 a2 := by kernel_rfl
theorem f178_t7 (K : Nat) (a0 : (List Int) × Int × Int) (y1 : tV × Int × Int × Int × Int) (y2 : Int) (bq8 : Int) (bq9 : Int) (bq10 : Int) (bq11 : List tM) : ∀ (n : Nat) (q8 : Int) (q9 : Int) (q10 : Int) (q11 : List tM), loopN (exec (f178E K) 1 (selC f178C [1, 1, 1, 0, 1, 0, 0, 1, 0, 0])) 1 (f178_fr7 a0 y1 y2 bq8 bq9 bq10 bq11) n (f178_fr7 a0 y1 y2 q8 q9 q10 q11) (f178_k7 K a0 (realL (f178E K) 1)) = f178_l7 K a0 y1 y2 n q8 q9 q10 q11 := by
  have key : ∀ (lr : LR (tV × Int × tL × List tM)) (L : Fr → Option (tV × Int × tL × List tM)) (q8 : Int) (q9 : Int) (q10 : Int) (q11 : List tM), execG (f178E K) 1 lr (selC f178C [1, 1, 1, 0, 1, 0, 0, 1, 0, 0]) (f178_fr7 a0 y1 y2 q8 q9 q10 q11) (loopK 1 (f178_fr7 a0 y1 y2 bq8 bq9 bq10 bq11) L (f178_k7 K a0 lr)) = f178_b7 K a0 y1 y2 (fun v0 v1 v2 v3 => L (f178_fr7 a0 y1 y2 v0 v1 v2 v3)) q8 q9 q10 q11 := by
    intro lr L q8 q9 q10 q11; kernel_rfl
  intro n q8 q9 q10 q11
  refine loopN_iter (X := Int × Int × Int × List tM) (frame := fun x => (f178_fr7 a0 y1 y2 x.1 x.2.1 x.2.2.1 x.2.2.2)) (body := (fun L x => (fun L7 => f178_b7 K a0 y1 y2 L7 x.1 x.2.1 x.2.2.1 x.2.2.2) (fun v0 v1 v2 v3 => L (v0, v1, v2, v3)))) (fun L x => ?_) n (q8, q9, q10, q11)
  rw [exec_G]
  exact (key (realL (f178E K) 1) L x.1 x.2.1 x.2.2.1 x.2.2.2).trans (by rfl)
theorem f178_run (K : Nat) (a0 : (List Int) × Int × Int) : runP (f178E K) Tryz.f178 5 (.int .u8) sV [] [sI, sL, (.list 57 sM)] (a0, ()) = f178G K a0 := by
  have key : ∀ (lr : LR (tV × Int × tL × List tM)), runPG (f178E K) Tryz.f178 5 (.int .u8) sV [] [sI, sL, (.list 57 sM)] (a0, ()) lr = f178_g K a0 (fun c0 c1 d0 d1 d2 d3 => lr (selC f178C [1, 1, 1, 0, 1, 0, 0, 1, 0, 0]) (f178_fr7 a0 c0 c1 d0 d1 d2 d3) (f178_k7 K a0 lr)) := by intro lr; kernel_rfl
  have h7 : (fun c0 c1 d0 d1 d2 d3 => (realL (f178E K) 1) (selC f178C [1, 1, 1, 0, 1, 0, 0, 1, 0, 0]) (f178_fr7 a0 c0 c1 d0 d1 d2 d3) (f178_k7 K a0 (realL (f178E K) 1))) = fun c0 c1 d0 d1 d2 d3 => f178_l7 K a0 c0 c1 K d0 d1 d2 d3 := by
    funext c0 c1 d0 d1 d2 d3
    exact f178_t7 K a0 c0 c1 d0 d1 d2 d3 K d0 d1 d2 d3
  exact runP_G (n0 := 1) (by rfl) ((key (realL (f178E K) 1)).trans (by rw [h7] <;> rfl))
theorem f223_run (K : Nat) (a0 : (List Int) × Int × Int) : runP (f223E K) Tryz.f223 5 (.int .u8) sV [] [sI, sL, (.list 57 sM)] (a0, ()) = f223G K a0 := by kernel_rfl
theorem f105_run (K : Nat) (a0 : List Int) : runF (f105E K) Tryz.f105 [(.ro, (.list 5 (.int .u8)))] [sI, sL, (.list 57 sM)] (a0, ()) = f105G K a0 := by kernel_rfl
theorem f194_run (K : Nat) (a0 : Int) (a1 : Int) (a2 : Int) : runF (f194E K) Tryz.f194 [(.ro, sI), (.ro, sI), (.ro, sI)] [.bool] (a0, a1, a2, ()) = f194G K a0 a1 a2 := by kernel_rfl
theorem f256_run (K : Nat) (a0 : Int) : runF (f256E K) Tryz.f256 [(.ro, sI)] [.bool] (a0, ()) = f256G K a0 := by kernel_rfl
theorem f133_run (K : Nat) (a0 : Int × Int × Int) : runF (f133E K) Tryz.f133 [(.ro, sL)] [sI] (a0, ()) = f133G K a0 := by kernel_rfl
theorem f184_run (K : Nat) (a0 : Int × Int × Int) : runF (f184E K) Tryz.f184 [(.ro, sL)] [.bool] (a0, ()) = f184G K a0 := by kernel_rfl
theorem f186_run (K : Nat) (a0 : Int) (a1 : Int × Int × Int) : runF (f186E K) Tryz.f186 [(.ro, sI), (.ro, sL)] [sI] (a0, a1, ()) = f186G K a0 a1 := by kernel_rfl
theorem f268_run (K : Nat) (a0 : Int × Int × Int) : runF (f268E K) Tryz.f268 [(.ro, sL)] [sV, sV] (a0, ()) = f268G K a0 := by kernel_rfl
theorem f282_run (K : Nat) (a0 : Int × Int × Int × Int) (a1 : Int × Int) : runF (f282E K) Tryz.f282 [(.ro, sA), (.ro, sV)] [sV] (a0, a1, ()) = f282G K a0 a1 := by kernel_rfl
theorem f346_run (K : Nat) (a0 : Int) (a1 : Int × Int) : runF (f346E K) Tryz.f346 [(.ro, sI), (.ro, sV)] [sI] (a0, a1, ()) = f346G K a0 a1 := by kernel_rfl
theorem f280_t8 (K : Nat) (a0 : Int) (bq9 : Int) (bq10 : List tA) : ∀ (n : Nat) (q9 : Int) (q10 : List tA), loopN (exec (f280E K) 0 (selC f280C [1, 1, 0, 1, 0, 0])) 0 (f280_fr8 a0 bq9 bq10) n (f280_fr8 a0 q9 q10) (f280_k8 K a0 (realL (f280E K) 0)) = f280_l8 K a0 n q9 q10 := by
  have key : ∀ (lr : LR (List tA)) (L : Fr → Option (List tA)) (q9 : Int) (q10 : List tA), execG (f280E K) 0 lr (selC f280C [1, 1, 0, 1, 0, 0]) (f280_fr8 a0 q9 q10) (loopK 0 (f280_fr8 a0 bq9 bq10) L (f280_k8 K a0 lr)) = f280_b8 K a0 (fun v0 v1 => L (f280_fr8 a0 v0 v1)) q9 q10 := by
    intro lr L q9 q10; kernel_rfl
  intro n q9 q10
  refine loopN_iter (X := Int × List tA) (frame := fun x => (f280_fr8 a0 x.1 x.2)) (body := (fun L x => (fun L8 => f280_b8 K a0 L8 x.1 x.2) (fun v0 v1 => L (v0, v1)))) (fun L x => ?_) n (q9, q10)
  rw [exec_G]
  exact (key (realL (f280E K) 0) L x.1 x.2).trans (by rfl)
theorem f280_run (K : Nat) (a0 : Int) : runF (f280E K) Tryz.f280 [(.ro, sI)] [(.list 53 sA)] (a0, ()) = f280G K a0 := by
  have key : ∀ (lr : LR (List tA)), runG (f280E K) Tryz.f280 [(.ro, sI)] [(.list 53 sA)] (a0, ()) lr = f280_g K a0 (fun d0 d1 => lr (selC f280C [1, 1, 0, 1, 0, 0]) (f280_fr8 a0 d0 d1) (f280_k8 K a0 lr)) := by intro lr; kernel_rfl
  have h8 : (fun d0 d1 => (realL (f280E K) 0) (selC f280C [1, 1, 0, 1, 0, 0]) (f280_fr8 a0 d0 d1) (f280_k8 K a0 (realL (f280E K) 0))) = fun d0 d1 => f280_l8 K a0 K d0 d1 := by
    funext d0 d1
    exact f280_t8 K a0 d0 d1 K d0 d1
  exact runF_G (n0 := 0) (by rfl) ((key (realL (f280E K) 0)).trans (by rw [h8] <;> rfl))
theorem f290_run (K : Nat) (a0 : Int) (a1 : Int) : runF (f290E K) Tryz.f290 [(.ro, sI), (.ro, sI)] [sI] (a0, a1, ()) = f290G K a0 a1 := by kernel_rfl
theorem f176_run (K : Nat) (a0 : Int × Int × Int) (a1 : Int × Int) : runF (f176E K) Tryz.f176 [(.ro, sL), (.ro, sV)] [sV] (a0, a1, ()) = f176G K a0 a1 := by kernel_rfl
theorem f339_run (K : Nat) (a0 : Int × Int × Int) (a1 : Int × Int) : runF (f339E K) Tryz.f339 [(.ro, sL), (.ro, sV)] [.bool] (a0, a1, ()) = f339G K a0 a1 := by kernel_rfl
theorem f338_run (K : Nat) (a0 : Int × Int × Int × Int) (a1 : Int × Int × Int) (a2 : Int × Int) (a3 : Int × Int) : runF (f338E K) Tryz.f338 [(.ro, sA), (.cap, sL), (.cap, sV), (.cap, sV)] [.bool] (a0, a1, a2, a3, ()) = f338G K a0 a1 a2 a3 := by kernel_rfl
theorem f378_t3 (K : Nat) (a0 : List tA) (a1 : (tA → Option Bool)) (bq4 : Int) : ∀ (n : Nat) (q4 : Int), loopN (exec (f378E K) 1 (selC f378C [1, 0, 1, 0, 0])) 1 (f378_fr3 a0 a1 bq4) n (f378_fr3 a0 a1 q4) (f378_k3 K a0 a1 (realL (f378E K) 1)) = f378_l3 K a0 a1 n q4 := by
  have key : ∀ (lr : LR Int) (L : Fr → Option Int) (q4 : Int), execG (f378E K) 1 lr (selC f378C [1, 0, 1, 0, 0]) (f378_fr3 a0 a1 q4) (loopK 1 (f378_fr3 a0 a1 bq4) L (f378_k3 K a0 a1 lr)) = f378_b3 K a0 a1 (fun v0 => L (f378_fr3 a0 a1 v0)) q4 := by
    intro lr L q4; kernel_rfl
  intro n q4
  refine loopN_iter (X := Int) (frame := fun x => (f378_fr3 a0 a1 x)) (body := (fun L x => (fun L3 => f378_b3 K a0 a1 L3 x) (fun v0 => L v0))) (fun L x => ?_) n q4
  rw [exec_G]
  exact (key (realL (f378E K) 1) L x).trans (by rfl)
theorem f378_run (K : Nat) (a0 : List tA) (a1 : (tA → Option Bool)) : runF (f378E K) Tryz.f378 [(.ro, (.list 53 sA)), (.ro, (.fn1 sA .bool))] [sI] (a0, a1, ()) = f378G K a0 a1 := by
  have key : ∀ (lr : LR Int), runG (f378E K) Tryz.f378 [(.ro, (.list 53 sA)), (.ro, (.fn1 sA .bool))] [sI] (a0, a1, ()) lr = f378_g K a0 a1 (fun d0 => lr (selC f378C [1, 0, 1, 0, 0]) (f378_fr3 a0 a1 d0) (f378_k3 K a0 a1 lr)) := by intro lr; kernel_rfl
  have h3 : (fun d0 => (realL (f378E K) 1) (selC f378C [1, 0, 1, 0, 0]) (f378_fr3 a0 a1 d0) (f378_k3 K a0 a1 (realL (f378E K) 1))) = fun d0 => f378_l3 K a0 a1 K d0 := by
    funext d0
    exact f378_t3 K a0 a1 d0 K d0
  exact runF_G (n0 := 1) (by rfl) ((key (realL (f378E K) 1)).trans (by rw [h3] <;> rfl))
theorem f337_t4 (K : Nat) (a0 : List tA) (a1 : (tA → Option Bool)) (y1 : Int) (bq5 : Int) (bq6 : Int) (bq7 : List tA) : ∀ (n : Nat) (q5 : Int) (q6 : Int) (q7 : List tA), loopN (exec (f337E K) 1 (selC f337C [1, 1, 1, 0, 1, 0, 0])) 1 (f337_fr4 a1 y1 bq5 bq6 bq7) n (f337_fr4 a1 y1 q5 q6 q7) (f337_k4 K a0 a1 (realL (f337E K) 1)) = f337_l4 K a1 y1 n q5 q6 q7 := by
  have key : ∀ (lr : LR (List tA)) (L : Fr → Option (List tA)) (q5 : Int) (q6 : Int) (q7 : List tA), execG (f337E K) 1 lr (selC f337C [1, 1, 1, 0, 1, 0, 0]) (f337_fr4 a1 y1 q5 q6 q7) (loopK 1 (f337_fr4 a1 y1 bq5 bq6 bq7) L (f337_k4 K a0 a1 lr)) = f337_b4 K a1 y1 (fun v0 v1 v2 => L (f337_fr4 a1 y1 v0 v1 v2)) q5 q6 q7 := by
    intro lr L q5 q6 q7; kernel_rfl
  intro n q5 q6 q7
  refine loopN_iter (X := Int × Int × List tA) (frame := fun x => (f337_fr4 a1 y1 x.1 x.2.1 x.2.2)) (body := (fun L x => (fun L4 => f337_b4 K a1 y1 L4 x.1 x.2.1 x.2.2) (fun v0 v1 v2 => L (v0, v1, v2)))) (fun L x => ?_) n (q5, q6, q7)
  rw [exec_G]
  exact (key (realL (f337E K) 1) L x.1 x.2.1 x.2.2).trans (by rfl)
theorem f337_run (K : Nat) (a0 : List tA) (a1 : (tA → Option Bool)) : runF (f337E K) Tryz.f337 [(.mv, (.list 53 sA)), (.ro, (.fn1 sA .bool))] [(.list 53 sA)] (a0, a1, ()) = f337G K a0 a1 := by
  have key : ∀ (lr : LR (List tA)), runG (f337E K) Tryz.f337 [(.mv, (.list 53 sA)), (.ro, (.fn1 sA .bool))] [(.list 53 sA)] (a0, a1, ()) lr = f337_g K a0 a1 (fun c0 d0 d1 d2 => lr (selC f337C [1, 1, 1, 0, 1, 0, 0]) (f337_fr4 a1 c0 d0 d1 d2) (f337_k4 K a0 a1 lr)) := by intro lr; kernel_rfl
  have h4 : (fun c0 d0 d1 d2 => (realL (f337E K) 1) (selC f337C [1, 1, 1, 0, 1, 0, 0]) (f337_fr4 a1 c0 d0 d1 d2) (f337_k4 K a0 a1 (realL (f337E K) 1))) = fun c0 d0 d1 d2 => f337_l4 K a1 c0 K d0 d1 d2 := by
    funext c0 d0 d1 d2
    exact f337_t4 K a0 a1 c0 d0 d1 d2 K d0 d1 d2
  exact runF_G (n0 := 1) (by rfl) ((key (realL (f337E K) 1)).trans (by rw [h4] <;> rfl))
theorem f266_run (K : Nat) (a0 : Int) (a1 : Int × Int × Int) : runF (f266E K) Tryz.f266 [(.ro, sI), (.ro, sL)] [(.list 53 sA)] (a0, a1, ()) = f266G K a0 a1 := by kernel_rfl
theorem f345_t2 (K : Nat) (a0 : List tA) (a1 : Int × Int × Int × Int) (bq3 : Int) : ∀ (n : Nat) (q3 : Int), loopN (exec (f345E K) 1 (selC f345C [1, 0, 1, 0, 0])) 1 (f345_fr2 a0 a1 bq3) n (f345_fr2 a0 a1 q3) (f345_k2 K a0 a1 (realL (f345E K) 1)) = f345_l2 K a0 a1 n q3 := by
  have key : ∀ (lr : LR Int) (L : Fr → Option Int) (q3 : Int), execG (f345E K) 1 lr (selC f345C [1, 0, 1, 0, 0]) (f345_fr2 a0 a1 q3) (loopK 1 (f345_fr2 a0 a1 bq3) L (f345_k2 K a0 a1 lr)) = f345_b2 K a0 a1 (fun v0 => L (f345_fr2 a0 a1 v0)) q3 := by
    intro lr L q3; kernel_rfl
  intro n q3
  refine loopN_iter (X := Int) (frame := fun x => (f345_fr2 a0 a1 x)) (body := (fun L x => (fun L2 => f345_b2 K a0 a1 L2 x) (fun v0 => L v0))) (fun L x => ?_) n q3
  rw [exec_G]
  exact (key (realL (f345E K) 1) L x).trans (by rfl)
theorem f345_run (K : Nat) (a0 : List tA) (a1 : Int × Int × Int × Int) : runF (f345E K) Tryz.f345 [(.ro, (.list 53 sA)), (.ro, sA)] [sI] (a0, a1, ()) = f345G K a0 a1 := by
  have key : ∀ (lr : LR Int), runG (f345E K) Tryz.f345 [(.ro, (.list 53 sA)), (.ro, sA)] [sI] (a0, a1, ()) lr = f345_g K a0 a1 (fun d0 => lr (selC f345C [1, 0, 1, 0, 0]) (f345_fr2 a0 a1 d0) (f345_k2 K a0 a1 lr)) := by intro lr; kernel_rfl
  have h2 : (fun d0 => (realL (f345E K) 1) (selC f345C [1, 0, 1, 0, 0]) (f345_fr2 a0 a1 d0) (f345_k2 K a0 a1 (realL (f345E K) 1))) = fun d0 => f345_l2 K a0 a1 K d0 := by
    funext d0
    exact f345_t2 K a0 a1 d0 K d0
  exact runF_G (n0 := 1) (by rfl) ((key (realL (f345E K) 1)).trans (by rw [h2] <;> rfl))
theorem f279_run (K : Nat) (a0 : List tA) (a1 : Int × Int × Int × Int) : runF (f279E K) Tryz.f279 [(.ro, (.list 53 sA)), (.ro, sA)] [.bool] (a0, a1, ()) = f279G K a0 a1 := by kernel_rfl
theorem f318_t2 (K : Nat) (a0 : List Int) (a1 : List Int) (bq3 : Int) : ∀ (n : Nat) (q3 : Int), loopN (exec (f318E K) 2 (selC f318C [1, 0, 1, 0, 0])) 2 (f318_fr2 a0 a1 bq3) n (f318_fr2 a0 a1 q3) (f318_k2 K a0 a1 (realL (f318E K) 2)) = f318_l2 K a0 a1 n q3 := by
  have key : ∀ (lr : LR Int) (L : Fr → Option Int) (q3 : Int), execG (f318E K) 2 lr (selC f318C [1, 0, 1, 0, 0]) (f318_fr2 a0 a1 q3) (loopK 2 (f318_fr2 a0 a1 bq3) L (f318_k2 K a0 a1 lr)) = f318_b2 K a0 a1 (fun v0 => L (f318_fr2 a0 a1 v0)) q3 := by
    intro lr L q3; kernel_rfl
  intro n q3
  refine loopN_iter (X := Int) (frame := fun x => (f318_fr2 a0 a1 x)) (body := (fun L x => (fun L2 => f318_b2 K a0 a1 L2 x) (fun v0 => L v0))) (fun L x => ?_) n q3
  rw [exec_G]
  exact (key (realL (f318E K) 2) L x).trans (by rfl)
theorem f318_run (K : Nat) (a0 : List Int) (a1 : List Int) : runF (f318E K) Tryz.f318 [(.ro, (.list 2 sI)), (.ro, (.list 2 sI))] [sI] (a0, a1, ()) = f318G K a0 a1 := by
  have key : ∀ (lr : LR Int), runG (f318E K) Tryz.f318 [(.ro, (.list 2 sI)), (.ro, (.list 2 sI))] [sI] (a0, a1, ()) lr = f318_g K a0 a1 (fun d0 => lr (selC f318C [1, 0, 1, 0, 0]) (f318_fr2 a0 a1 d0) (f318_k2 K a0 a1 lr)) := by intro lr; kernel_rfl
  have h2 : (fun d0 => (realL (f318E K) 2) (selC f318C [1, 0, 1, 0, 0]) (f318_fr2 a0 a1 d0) (f318_k2 K a0 a1 (realL (f318E K) 2))) = fun d0 => f318_l2 K a0 a1 K d0 := by
    funext d0
    exact f318_t2 K a0 a1 d0 K d0
  exact runF_G (n0 := 2) (by rfl) ((key (realL (f318E K) 2)).trans (by rw [h2] <;> rfl))
theorem f362_run (K : Nat) (a0 : Int × Int × Int × Int) (a1 : Int × Int × Int × Int) : runF (f362E K) Tryz.f362 [(.ro, sA), (.ro, sA)] [sI] (a0, a1, ()) = f362G K a0 a1 := by kernel_rfl
theorem f233_run (K : Nat) (a0 : Int × Int) (a1 : Int × Int) : runF (f233E K) Tryz.f233 [(.ro, sV), (.ro, sV)] [sI] (a0, a1, ()) = f233G K a0 a1 := by kernel_rfl
theorem f311_run (K : Nat) (a0 : tA × Int × Int) (a1 : tA × Int × Int) : runF (f311E K) Tryz.f311 [(.ro, sM), (.ro, sM)] [sI] (a0, a1, ()) = f311G K a0 a1 := by kernel_rfl
theorem f217_run (K : Nat) : runF (f217E K) Tryz.f217 [] [sA] (()) = f217G K := by kernel_rfl
theorem f360_run (K : Nat) (a0 : Int × Int × Int × Int) (a1 : Int × Int × Int × Int) : runF (f360E K) Tryz.f360 [(.ro, sA), (.ro, sA)] [sA] (a0, a1, ()) = f360G K a0 a1 := by kernel_rfl
theorem f289_run (K : Nat) (a0 : Int × Int) (a1 : Int × Int) : runF (f289E K) Tryz.f289 [(.ro, sV), (.ro, sV)] [sV] (a0, a1, ()) = f289G K a0 a1 := by kernel_rfl
theorem f309_run (K : Nat) (a0 : tA × Int × Int) (a1 : tA × Int × Int) : runF (f309E K) Tryz.f309 [(.ro, sM), (.ro, sM)] [sM] (a0, a1, ()) = f309G K a0 a1 := by kernel_rfl
theorem f308_run (K : Nat) (a0 : Int × Int × Int) (a1 : tA × Int × Int) : runF (f308E K) Tryz.f308 [(.ro, sL), (.ro, sM)] [sM] (a0, a1, ()) = f308G K a0 a1 := by kernel_rfl
theorem f298_t23 (K : Nat) (a0 : Int) (a1 : Int × Int × Int) (a2 : List tM) (q7 : Int) (q8 : List (tM × Bool)) (y1 : List tA) (y12 : Int × Int × Int × Int) (q22 : Int) (F21 : Fr → Option Bool) (bq22 : Int) (bq24 : Int) : ∀ (n : Nat) (q24 : Int), loopN (exec (f298E K) 1 (selC f298C [1, 1, 1, 1, 0, 1, 0, 0, 1, 1, 0, 0, 1, 1, 0, 0])) 1 (f298_fr23 a0 a1 a2 q7 q8 q22 y1 y12 bq24) n (f298_fr23 a0 a1 a2 q7 q8 q22 y1 y12 q24) (f298_k23 K a0 a1 a2 q7 q8 y1 y12 F21 bq22 (realL (f298E K) 1)) = f298_l23 K a0 a1 a2 q7 q8 q22 y1 y12 (fun v0 => F21 (f298_fr21 a0 a1 a2 q7 q8 y1 y12 v0)) n q24 := by
  have key : ∀ (lr : LR Bool) (L : Fr → Option Bool) (q24 : Int), execG (f298E K) 1 lr (selC f298C [1, 1, 1, 1, 0, 1, 0, 0, 1, 1, 0, 0, 1, 1, 0, 0]) (f298_fr23 a0 a1 a2 q7 q8 q22 y1 y12 q24) (loopK 1 (f298_fr23 a0 a1 a2 q7 q8 q22 y1 y12 bq24) L (f298_k23 K a0 a1 a2 q7 q8 y1 y12 F21 bq22 lr)) = f298_b23 K a0 a1 a2 q7 q8 q22 y1 y12 (fun v0 => F21 (f298_fr21 a0 a1 a2 q7 q8 y1 y12 v0)) (fun v0 => L (f298_fr23 a0 a1 a2 q7 q8 q22 y1 y12 v0)) q24 := by
    intro lr L q24; kernel_rfl
  intro n q24
  refine loopN_iter (X := Int) (frame := fun x => (f298_fr23 a0 a1 a2 q7 q8 q22 y1 y12 x)) (body := (fun L x => (fun L23 => f298_b23 K a0 a1 a2 q7 q8 q22 y1 y12 (fun v0 => F21 (f298_fr21 a0 a1 a2 q7 q8 y1 y12 v0)) L23 x) (fun v0 => L v0))) (fun L x => ?_) n q24
  rw [exec_G]
  exact (key (realL (f298E K) 1) L x).trans (by rfl)
theorem f298_t21 (K : Nat) (a0 : Int) (a1 : Int × Int × Int) (a2 : List tM) (q7 : Int) (q8 : List (tM × Bool)) (y1 : List tA) (y12 : Int × Int × Int × Int) (bq22 : Int) : ∀ (n : Nat) (q22 : Int), loopN (exec (f298E K) 1 (selC f298C [1, 1, 1, 1, 0, 1, 0, 0])) 1 (f298_fr21 a0 a1 a2 q7 q8 y1 y12 bq22) n (f298_fr21 a0 a1 a2 q7 q8 y1 y12 q22) (f298_k21 K a0 a1 a2 (realL (f298E K) 1)) = f298_l21 K a0 a1 a2 q7 q8 y1 y12 n q22 := by
  have key : ∀ (lr : LR Bool) (L : Fr → Option Bool) (q22 : Int), execG (f298E K) 1 lr (selC f298C [1, 1, 1, 1, 0, 1, 0, 0]) (f298_fr21 a0 a1 a2 q7 q8 y1 y12 q22) (loopK 1 (f298_fr21 a0 a1 a2 q7 q8 y1 y12 bq22) L (f298_k21 K a0 a1 a2 lr)) = f298_b21 K a0 a1 a2 q7 q8 y1 y12 (fun c0 d0 => lr (selC f298C [1, 1, 1, 1, 0, 1, 0, 0, 1, 1, 0, 0, 1, 1, 0, 0]) (f298_fr23 a0 a1 a2 q7 q8 c0 y1 y12 d0) (f298_k23 K a0 a1 a2 q7 q8 y1 y12 L bq22 lr)) (fun v0 => L (f298_fr21 a0 a1 a2 q7 q8 y1 y12 v0)) q22 := by
    intro lr L q22; kernel_rfl
  intro n q22
  refine loopN_iter (X := Int) (frame := fun x => (f298_fr21 a0 a1 a2 q7 q8 y1 y12 x)) (body := (fun L x => (fun L21 => f298_b21 K a0 a1 a2 q7 q8 y1 y12 (fun c0 d0 => f298_l23 K a0 a1 a2 q7 q8 c0 y1 y12 L21 K d0) L21 x) (fun v0 => L v0))) (fun L x => ?_) n q22
  rw [exec_G]
  have h23 : (fun c0 d0 => (realL (f298E K) 1) (selC f298C [1, 1, 1, 1, 0, 1, 0, 0, 1, 1, 0, 0, 1, 1, 0, 0]) (f298_fr23 a0 a1 a2 q7 q8 c0 y1 y12 d0) (f298_k23 K a0 a1 a2 q7 q8 y1 y12 L bq22 (realL (f298E K) 1))) = fun c0 d0 => f298_l23 K a0 a1 a2 q7 q8 c0 y1 y12 (fun v0 => L (f298_fr21 a0 a1 a2 q7 q8 y1 y12 v0)) K d0 := by
    funext c0 d0
    exact f298_t23 K a0 a1 a2 q7 q8 y1 y12 c0 L bq22 d0 K d0
  exact (key (realL (f298E K) 1) L x).trans (by rw [h23] <;> rfl)
theorem f298_t6 (K : Nat) (a0 : Int) (a1 : Int × Int × Int) (a2 : List tM) (y1 : List tA) (bq7 : Int) (bq8 : List (tM × Bool)) : ∀ (n : Nat) (q7 : Int) (q8 : List (tM × Bool)), loopN (exec (f298E K) 1 (selC f298C [1, 1, 0, 1, 0, 0])) 1 (f298_fr6 a0 a1 a2 y1 bq7 bq8) n (f298_fr6 a0 a1 a2 y1 q7 q8) (f298_k6 K a0 a1 a2 (realL (f298E K) 1)) = f298_l6 K a0 a1 a2 y1 n q7 q8 := by
  have key : ∀ (lr : LR Bool) (L : Fr → Option Bool) (q7 : Int) (q8 : List (tM × Bool)), execG (f298E K) 1 lr (selC f298C [1, 1, 0, 1, 0, 0]) (f298_fr6 a0 a1 a2 y1 q7 q8) (loopK 1 (f298_fr6 a0 a1 a2 y1 bq7 bq8) L (f298_k6 K a0 a1 a2 lr)) = f298_b6 K a0 a1 a2 y1 (fun c0 c1 c2 c3 d0 => lr (selC f298C [1, 1, 1, 1, 0, 1, 0, 0]) (f298_fr21 a0 a1 a2 c0 c1 c2 c3 d0) (f298_k21 K a0 a1 a2 lr)) (fun v0 v1 => L (f298_fr6 a0 a1 a2 y1 v0 v1)) q7 q8 := by
    intro lr L q7 q8; kernel_rfl
  intro n q7 q8
  refine loopN_iter (X := Int × List (tM × Bool)) (frame := fun x => (f298_fr6 a0 a1 a2 y1 x.1 x.2)) (body := (fun L x => (fun L6 => f298_b6 K a0 a1 a2 y1 (fun c0 c1 c2 c3 d0 => f298_l21 K a0 a1 a2 c0 c1 c2 c3 K d0) L6 x.1 x.2) (fun v0 v1 => L (v0, v1)))) (fun L x => ?_) n (q7, q8)
  rw [exec_G]
  have h21 : (fun c0 c1 c2 c3 d0 => (realL (f298E K) 1) (selC f298C [1, 1, 1, 1, 0, 1, 0, 0]) (f298_fr21 a0 a1 a2 c0 c1 c2 c3 d0) (f298_k21 K a0 a1 a2 (realL (f298E K) 1))) = fun c0 c1 c2 c3 d0 => f298_l21 K a0 a1 a2 c0 c1 c2 c3 K d0 := by
    funext c0 c1 c2 c3 d0
    exact f298_t21 K a0 a1 a2 c0 c1 c2 c3 d0 K d0
  exact (key (realL (f298E K) 1) L x.1 x.2).trans (by rw [h21] <;> rfl)
theorem f298_run (K : Nat) (a0 : Int) (a1 : Int × Int × Int) (a2 : List tM) : runF (f298E K) Tryz.f298 [(.ro, sI), (.ro, sL), (.ro, (.list 57 sM))] [.bool] (a0, a1, a2, ()) = f298G K a0 a1 a2 := by
  have key : ∀ (lr : LR Bool), runG (f298E K) Tryz.f298 [(.ro, sI), (.ro, sL), (.ro, (.list 57 sM))] [.bool] (a0, a1, a2, ()) lr = f298_g K a0 a1 a2 (fun c0 d0 d1 => lr (selC f298C [1, 1, 0, 1, 0, 0]) (f298_fr6 a0 a1 a2 c0 d0 d1) (f298_k6 K a0 a1 a2 lr)) := by intro lr; kernel_rfl
  have h6 : (fun c0 d0 d1 => (realL (f298E K) 1) (selC f298C [1, 1, 0, 1, 0, 0]) (f298_fr6 a0 a1 a2 c0 d0 d1) (f298_k6 K a0 a1 a2 (realL (f298E K) 1))) = fun c0 d0 d1 => f298_l6 K a0 a1 a2 c0 K d0 d1 := by
    funext c0 d0 d1
    exact f298_t6 K a0 a1 a2 c0 d0 d1 K d0 d1
  exact runF_G (n0 := 1) (by rfl) ((key (realL (f298E K) 1)).trans (by rw [h6] <;> rfl))
theorem f198_t4 (K : Nat) (a0 : Int) (a1 : Int × Int × Int) (a2 : List (List tM)) (y1 : Int) (bq5 : Int) : ∀ (n : Nat) (q5 : Int), loopN (exec (f198E K) 1 (selC f198C [1, 1, 0, 1, 0, 0])) 1 (f198_fr4 a0 a1 a2 y1 bq5) n (f198_fr4 a0 a1 a2 y1 q5) (f198_k4 K a0 a1 a2 (realL (f198E K) 1)) = f198_l4 K a0 a1 a2 y1 n q5 := by
  have key : ∀ (lr : LR Int) (L : Fr → Option Int) (q5 : Int), execG (f198E K) 1 lr (selC f198C [1, 1, 0, 1, 0, 0]) (f198_fr4 a0 a1 a2 y1 q5) (loopK 1 (f198_fr4 a0 a1 a2 y1 bq5) L (f198_k4 K a0 a1 a2 lr)) = f198_b4 K a0 a1 a2 y1 (fun v0 => L (f198_fr4 a0 a1 a2 y1 v0)) q5 := by
    intro lr L q5; kernel_rfl
  intro n q5
  refine loopN_iter (X := Int) (frame := fun x => (f198_fr4 a0 a1 a2 y1 x)) (body := (fun L x => (fun L4 => f198_b4 K a0 a1 a2 y1 L4 x) (fun v0 => L v0))) (fun L x => ?_) n q5
  rw [exec_G]
  exact (key (realL (f198E K) 1) L x).trans (by rfl)
theorem f198_run (K : Nat) (a0 : Int) (a1 : Int × Int × Int) (a2 : List (List tM)) : runF (f198E K) Tryz.f198 [(.ro, sI), (.ro, sL), (.ro, (.list 38 (.list 57 sM)))] [sI] (a0, a1, a2, ()) = f198G K a0 a1 a2 := by
  have key : ∀ (lr : LR Int), runG (f198E K) Tryz.f198 [(.ro, sI), (.ro, sL), (.ro, (.list 38 (.list 57 sM)))] [sI] (a0, a1, a2, ()) lr = f198_g K a0 a1 a2 (fun c0 d0 => lr (selC f198C [1, 1, 0, 1, 0, 0]) (f198_fr4 a0 a1 a2 c0 d0) (f198_k4 K a0 a1 a2 lr)) := by intro lr; kernel_rfl
  have h4 : (fun c0 d0 => (realL (f198E K) 1) (selC f198C [1, 1, 0, 1, 0, 0]) (f198_fr4 a0 a1 a2 c0 d0) (f198_k4 K a0 a1 a2 (realL (f198E K) 1))) = fun c0 d0 => f198_l4 K a0 a1 a2 c0 K d0 := by
    funext c0 d0
    exact f198_t4 K a0 a1 a2 c0 d0 K d0
  exact runF_G (n0 := 1) (by rfl) ((key (realL (f198E K) 1)).trans (by rw [h4] <;> rfl))
theorem f294_t3 (K : Nat) (a0 : List Int) (a1 : Int) (y1 : Int × Int) (bq4 : Int) (bq5 : List Int) : ∀ (n : Nat) (q4 : Int) (q5 : List Int), loopN (exec (f294E K) 1 (selC f294C [1, 1, 1, 1, 1, 1, 0, 0, 0])) 1 (f294_fr3 a0 a1 y1 bq4 bq5) n (f294_fr3 a0 a1 y1 q4 q5) (f294_k3 K a0 a1 (realL (f294E K) 1)) = f294_l3 K a0 a1 y1 n q4 q5 := by
  have key : ∀ (lr : LR (List Int)) (L : Fr → Option (List Int)) (q4 : Int) (q5 : List Int), execG (f294E K) 1 lr (selC f294C [1, 1, 1, 1, 1, 1, 0, 0, 0]) (f294_fr3 a0 a1 y1 q4 q5) (loopK 1 (f294_fr3 a0 a1 y1 bq4 bq5) L (f294_k3 K a0 a1 lr)) = f294_b3 K a0 a1 y1 (fun v0 v1 => L (f294_fr3 a0 a1 y1 v0 v1)) q4 q5 := by
    intro lr L q4 q5; kernel_rfl
  intro n q4 q5
  refine loopN_iter (X := Int × List Int) (frame := fun x => (f294_fr3 a0 a1 y1 x.1 x.2)) (body := (fun L x => (fun L3 => f294_b3 K a0 a1 y1 L3 x.1 x.2) (fun v0 v1 => L (v0, v1)))) (fun L x => ?_) n (q4, q5)
  rw [exec_G]
  exact (key (realL (f294E K) 1) L x.1 x.2).trans (by rfl)
theorem f294_run (K : Nat) (a0 : List Int) (a1 : Int) : runF (f294E K) Tryz.f294 [(.ro, (.list 2 sI)), (.ro, sI)] [(.list 2 sI)] (a0, a1, ()) = f294G K a0 a1 := by
  have key : ∀ (lr : LR (List Int)), runG (f294E K) Tryz.f294 [(.ro, (.list 2 sI)), (.ro, sI)] [(.list 2 sI)] (a0, a1, ()) lr = f294_g K a0 a1 (fun c0 d0 d1 => lr (selC f294C [1, 1, 1, 1, 1, 1, 0, 0, 0]) (f294_fr3 a0 a1 c0 d0 d1) (f294_k3 K a0 a1 lr)) := by intro lr; kernel_rfl
  have h3 : (fun c0 d0 d1 => (realL (f294E K) 1) (selC f294C [1, 1, 1, 1, 1, 1, 0, 0, 0]) (f294_fr3 a0 a1 c0 d0 d1) (f294_k3 K a0 a1 (realL (f294E K) 1))) = fun c0 d0 d1 => f294_l3 K a0 a1 c0 K d0 d1 := by
    funext c0 d0 d1
    exact f294_t3 K a0 a1 c0 d0 d1 K d0 d1
  exact runF_G (n0 := 1) (by rfl) ((key (realL (f294E K) 1)).trans (by rw [h3] <;> rfl))
theorem f185_t9 (K : Nat) (a0 : Int × Int × Int) (q7 : Int) (F6 : Fr → Option (List tV)) (bq7 : Int) (bq8 : List tV) (bq10 : Int) (bq11 : List tV) : ∀ (n : Nat) (q10 : Int) (q11 : List tV), loopN (exec (f185E K) 0 (selC f185C [1, 1, 0, 1, 0, 0, 1, 1, 0, 0, 1, 1, 0, 0])) 0 (f185_fr9 a0 q7 bq10 bq11) n (f185_fr9 a0 q7 q10 q11) (f185_k9 K a0 F6 bq7 bq8 (realL (f185E K) 0)) = f185_l9 K a0 q7 (fun v0 v1 => F6 (f185_fr6 a0 v0 v1)) n q10 q11 := by
  have key : ∀ (lr : LR (List tV)) (L : Fr → Option (List tV)) (q10 : Int) (q11 : List tV), execG (f185E K) 0 lr (selC f185C [1, 1, 0, 1, 0, 0, 1, 1, 0, 0, 1, 1, 0, 0]) (f185_fr9 a0 q7 q10 q11) (loopK 0 (f185_fr9 a0 q7 bq10 bq11) L (f185_k9 K a0 F6 bq7 bq8 lr)) = f185_b9 K a0 q7 (fun v0 v1 => F6 (f185_fr6 a0 v0 v1)) (fun v0 v1 => L (f185_fr9 a0 q7 v0 v1)) q10 q11 := by
    intro lr L q10 q11; kernel_rfl
  intro n q10 q11
  refine loopN_iter (X := Int × List tV) (frame := fun x => (f185_fr9 a0 q7 x.1 x.2)) (body := (fun L x => (fun L9 => f185_b9 K a0 q7 (fun v0 v1 => F6 (f185_fr6 a0 v0 v1)) L9 x.1 x.2) (fun v0 v1 => L (v0, v1)))) (fun L x => ?_) n (q10, q11)
  rw [exec_G]
  exact (key (realL (f185E K) 0) L x.1 x.2).trans (by rfl)
theorem f185_t6 (K : Nat) (a0 : Int × Int × Int) (bq7 : Int) (bq8 : List tV) : ∀ (n : Nat) (q7 : Int) (q8 : List tV), loopN (exec (f185E K) 0 (selC f185C [1, 1, 0, 1, 0, 0])) 0 (f185_fr6 a0 bq7 bq8) n (f185_fr6 a0 q7 q8) (f185_k6 K a0 (realL (f185E K) 0)) = f185_l6 K a0 n q7 q8 := by
  have key : ∀ (lr : LR (List tV)) (L : Fr → Option (List tV)) (q7 : Int) (q8 : List tV), execG (f185E K) 0 lr (selC f185C [1, 1, 0, 1, 0, 0]) (f185_fr6 a0 q7 q8) (loopK 0 (f185_fr6 a0 bq7 bq8) L (f185_k6 K a0 lr)) = f185_b6 K a0 (fun c0 d0 d1 => lr (selC f185C [1, 1, 0, 1, 0, 0, 1, 1, 0, 0, 1, 1, 0, 0]) (f185_fr9 a0 c0 d0 d1) (f185_k9 K a0 L bq7 bq8 lr)) (fun v0 v1 => L (f185_fr6 a0 v0 v1)) q7 q8 := by
    intro lr L q7 q8; kernel_rfl
  intro n q7 q8
  refine loopN_iter (X := Int × List tV) (frame := fun x => (f185_fr6 a0 x.1 x.2)) (body := (fun L x => (fun L6 => f185_b6 K a0 (fun c0 d0 d1 => f185_l9 K a0 c0 L6 K d0 d1) L6 x.1 x.2) (fun v0 v1 => L (v0, v1)))) (fun L x => ?_) n (q7, q8)
  rw [exec_G]
  have h9 : (fun c0 d0 d1 => (realL (f185E K) 0) (selC f185C [1, 1, 0, 1, 0, 0, 1, 1, 0, 0, 1, 1, 0, 0]) (f185_fr9 a0 c0 d0 d1) (f185_k9 K a0 L bq7 bq8 (realL (f185E K) 0))) = fun c0 d0 d1 => f185_l9 K a0 c0 (fun v0 v1 => L (f185_fr6 a0 v0 v1)) K d0 d1 := by
    funext c0 d0 d1
    exact f185_t9 K a0 c0 L bq7 bq8 d0 d1 K d0 d1
  exact (key (realL (f185E K) 0) L x.1 x.2).trans (by rw [h9] <;> rfl)
theorem f185_run (K : Nat) (a0 : Int × Int × Int) : runF (f185E K) Tryz.f185 [(.ro, sL)] [(.list 55 sV)] (a0, ()) = f185G K a0 := by
  have key : ∀ (lr : LR (List tV)), runG (f185E K) Tryz.f185 [(.ro, sL)] [(.list 55 sV)] (a0, ()) lr = f185_g K a0 (fun d0 d1 => lr (selC f185C [1, 1, 0, 1, 0, 0]) (f185_fr6 a0 d0 d1) (f185_k6 K a0 lr)) := by intro lr; kernel_rfl
  have h6 : (fun d0 d1 => (realL (f185E K) 0) (selC f185C [1, 1, 0, 1, 0, 0]) (f185_fr6 a0 d0 d1) (f185_k6 K a0 (realL (f185E K) 0))) = fun d0 d1 => f185_l6 K a0 K d0 d1 := by
    funext d0 d1
    exact f185_t6 K a0 d0 d1 K d0 d1
  exact runF_G (n0 := 0) (by rfl) ((key (realL (f185E K) 0)).trans (by rw [h6] <;> rfl))
theorem f163_run (K : Nat) (a0 : Int × Int × Int) (a1 : Int × Int) : runF (f163E K) Tryz.f163 [(.ro, sL), (.ro, sV)] [sI] (a0, a1, ()) = f163G K a0 a1 := by kernel_rfl
theorem f174_run (K : Nat) (a0 : tA × Int × Int) (a1 : Int × Int) : runF (f174E K) Tryz.f174 [(.ro, sM), (.ro, sV)] [sV] (a0, a1, ()) = f174G K a0 a1 := by kernel_rfl
theorem f188_run (K : Nat) (a0 : Int × Int × Int) (a1 : tA × Int × Int) (a2 : Int × Int) : runF (f188E K) Tryz.f188 [(.ro, sL), (.ro, sM), (.ro, sV)] [sV] (a0, a1, a2, ()) = f188G K a0 a1 a2 := by kernel_rfl
theorem f297_t9 (K : Nat) (a0 : List tV) (q8 : Int) (F7 : Fr → Option (List tV)) (bq8 : Int) (bq10 : Int) (bq11 : Int) (bq12 : List tV) : ∀ (n : Nat) (q10 : Int) (q11 : Int) (q12 : List tV), loopN (exec (f297E K) 1 (selC f297C [1, 1, 0, 1, 0, 0, 1, 0, 0, 1, 0, 1, 0, 1, 0, 0])) 1 (f297_fr9 a0 q8 bq10 bq11 bq12) n (f297_fr9 a0 q8 q10 q11 q12) (f297_k9 K a0 F7 bq8 (realL (f297E K) 1)) = f297_l9 K a0 q8 n q10 q11 q12 := by
  have key : ∀ (lr : LR (List tV)) (L : Fr → Option (List tV)) (q10 : Int) (q11 : Int) (q12 : List tV), execG (f297E K) 1 lr (selC f297C [1, 1, 0, 1, 0, 0, 1, 0, 0, 1, 0, 1, 0, 1, 0, 0]) (f297_fr9 a0 q8 q10 q11 q12) (loopK 1 (f297_fr9 a0 q8 bq10 bq11 bq12) L (f297_k9 K a0 F7 bq8 lr)) = f297_b9 K a0 q8 (fun v0 v1 v2 => L (f297_fr9 a0 q8 v0 v1 v2)) q10 q11 q12 := by
    intro lr L q10 q11 q12; kernel_rfl
  intro n q10 q11 q12
  refine loopN_iter (X := Int × Int × List tV) (frame := fun x => (f297_fr9 a0 q8 x.1 x.2.1 x.2.2)) (body := (fun L x => (fun L9 => f297_b9 K a0 q8 L9 x.1 x.2.1 x.2.2) (fun v0 v1 v2 => L (v0, v1, v2)))) (fun L x => ?_) n (q10, q11, q12)
  rw [exec_G]
  exact (key (realL (f297E K) 1) L x.1 x.2.1 x.2.2).trans (by rfl)
theorem f297_t7 (K : Nat) (a0 : List tV) (bq8 : Int) : ∀ (n : Nat) (q8 : Int), loopN (exec (f297E K) 1 (selC f297C [1, 1, 0, 1, 0, 0])) 1 (f297_fr7 a0 bq8) n (f297_fr7 a0 q8) (f297_k7 K a0 (realL (f297E K) 1)) = f297_l7 K a0 n q8 := by
  have key : ∀ (lr : LR (List tV)) (L : Fr → Option (List tV)) (q8 : Int), execG (f297E K) 1 lr (selC f297C [1, 1, 0, 1, 0, 0]) (f297_fr7 a0 q8) (loopK 1 (f297_fr7 a0 bq8) L (f297_k7 K a0 lr)) = f297_b7 K a0 (fun c0 d0 d1 d2 => lr (selC f297C [1, 1, 0, 1, 0, 0, 1, 0, 0, 1, 0, 1, 0, 1, 0, 0]) (f297_fr9 a0 c0 d0 d1 d2) (f297_k9 K a0 L bq8 lr)) (fun v0 => L (f297_fr7 a0 v0)) q8 := by
    intro lr L q8; kernel_rfl
  intro n q8
  refine loopN_iter (X := Int) (frame := fun x => (f297_fr7 a0 x)) (body := (fun L x => (fun L7 => f297_b7 K a0 (fun c0 d0 d1 d2 => f297_l9 K a0 c0 K d0 d1 d2) L7 x) (fun v0 => L v0))) (fun L x => ?_) n q8
  rw [exec_G]
  have h9 : (fun c0 d0 d1 d2 => (realL (f297E K) 1) (selC f297C [1, 1, 0, 1, 0, 0, 1, 0, 0, 1, 0, 1, 0, 1, 0, 0]) (f297_fr9 a0 c0 d0 d1 d2) (f297_k9 K a0 L bq8 (realL (f297E K) 1))) = fun c0 d0 d1 d2 => f297_l9 K a0 c0 K d0 d1 d2 := by
    funext c0 d0 d1 d2
    exact f297_t9 K a0 c0 L bq8 d0 d1 d2 K d0 d1 d2
  exact (key (realL (f297E K) 1) L x).trans (by rw [h9] <;> rfl)
theorem f297_run (K : Nat) (a0 : List tV) : runF (f297E K) Tryz.f297 [(.mv, (.list 55 sV))] [(.list 55 sV)] (a0, ()) = f297G K a0 := by
  have key : ∀ (lr : LR (List tV)), runG (f297E K) Tryz.f297 [(.mv, (.list 55 sV))] [(.list 55 sV)] (a0, ()) lr = f297_g K a0 (fun d0 => lr (selC f297C [1, 1, 0, 1, 0, 0]) (f297_fr7 a0 d0) (f297_k7 K a0 lr)) := by intro lr; kernel_rfl
  have h7 : (fun d0 => (realL (f297E K) 1) (selC f297C [1, 1, 0, 1, 0, 0]) (f297_fr7 a0 d0) (f297_k7 K a0 (realL (f297E K) 1))) = fun d0 => f297_l7 K a0 K d0 := by
    funext d0
    exact f297_t7 K a0 d0 K d0
  exact runF_G (n0 := 1) (by rfl) ((key (realL (f297E K) 1)).trans (by rw [h7] <;> rfl))
theorem f192_t3 (K : Nat) (a0 : Int × Int × Int) (a1 : List tM) (a2 : Int × Int) (bq4 : Int) (bq5 : List tV) : ∀ (n : Nat) (q4 : Int) (q5 : List tV), loopN (exec (f192E K) 1 (selC f192C [1, 1, 0, 1, 0, 0])) 1 (f192_fr3 a0 a1 a2 bq4 bq5) n (f192_fr3 a0 a1 a2 q4 q5) (f192_k3 K a0 a1 a2 (realL (f192E K) 1)) = f192_l3 K a0 a1 a2 n q4 q5 := by
  have key : ∀ (lr : LR (List tV)) (L : Fr → Option (List tV)) (q4 : Int) (q5 : List tV), execG (f192E K) 1 lr (selC f192C [1, 1, 0, 1, 0, 0]) (f192_fr3 a0 a1 a2 q4 q5) (loopK 1 (f192_fr3 a0 a1 a2 bq4 bq5) L (f192_k3 K a0 a1 a2 lr)) = f192_b3 K a0 a1 a2 (fun v0 v1 => L (f192_fr3 a0 a1 a2 v0 v1)) q4 q5 := by
    intro lr L q4 q5; kernel_rfl
  intro n q4 q5
  refine loopN_iter (X := Int × List tV) (frame := fun x => (f192_fr3 a0 a1 a2 x.1 x.2)) (body := (fun L x => (fun L3 => f192_b3 K a0 a1 a2 L3 x.1 x.2) (fun v0 v1 => L (v0, v1)))) (fun L x => ?_) n (q4, q5)
  rw [exec_G]
  exact (key (realL (f192E K) 1) L x.1 x.2).trans (by rfl)
theorem f192_run (K : Nat) (a0 : Int × Int × Int) (a1 : List tM) (a2 : Int × Int) : runF (f192E K) Tryz.f192 [(.ro, sL), (.ro, (.list 57 sM)), (.ro, sV)] [(.list 55 sV)] (a0, a1, a2, ()) = f192G K a0 a1 a2 := by
  have key : ∀ (lr : LR (List tV)), runG (f192E K) Tryz.f192 [(.ro, sL), (.ro, (.list 57 sM)), (.ro, sV)] [(.list 55 sV)] (a0, a1, a2, ()) lr = f192_g K a0 a1 a2 (fun d0 d1 => lr (selC f192C [1, 1, 0, 1, 0, 0]) (f192_fr3 a0 a1 a2 d0 d1) (f192_k3 K a0 a1 a2 lr)) := by intro lr; kernel_rfl
  have h3 : (fun d0 d1 => (realL (f192E K) 1) (selC f192C [1, 1, 0, 1, 0, 0]) (f192_fr3 a0 a1 a2 d0 d1) (f192_k3 K a0 a1 a2 (realL (f192E K) 1))) = fun d0 d1 => f192_l3 K a0 a1 a2 K d0 d1 := by
    funext d0 d1
    exact f192_t3 K a0 a1 a2 d0 d1 K d0 d1
  exact runF_G (n0 := 1) (by rfl) ((key (realL (f192E K) 1)).trans (by rw [h3] <;> rfl))
theorem f180_t22 (K : Nat) (a0 : Int × Int × Int) (a1 : List tM) (y3 : List tV) (q17 : Int) (q18 : List (List tV)) (q19 : List Int) (y20 : Int) (y21 : List tV) (F16 : Fr → Option ((List (List tV)) × List Int)) (bq17 : Int) (bq18 : List (List tV)) (bq19 : List Int) (bq23 : Int) (bq24 : List Int) : ∀ (n : Nat) (q23 : Int) (q24 : List Int), loopN (exec (f180E K) 1 (selC f180C [1, 1, 0, 1, 0, 0, 1, 1, 0, 0, 1, 1, 1, 0, 1, 0, 0])) 1 (f180_fr22 a0 a1 q17 q18 q19 y3 y20 y21 bq23 bq24) n (f180_fr22 a0 a1 q17 q18 q19 y3 y20 y21 q23 q24) (f180_k22 K a0 a1 y3 F16 bq17 bq18 bq19 (realL (f180E K) 1)) = f180_l22 K a0 a1 q17 q18 q19 y3 y20 y21 (fun v0 v1 v2 => F16 (f180_fr16 a0 a1 y3 v0 v1 v2)) n q23 q24 := by
  have key : ∀ (lr : LR ((List (List tV)) × List Int)) (L : Fr → Option ((List (List tV)) × List Int)) (q23 : Int) (q24 : List Int), execG (f180E K) 1 lr (selC f180C [1, 1, 0, 1, 0, 0, 1, 1, 0, 0, 1, 1, 1, 0, 1, 0, 0]) (f180_fr22 a0 a1 q17 q18 q19 y3 y20 y21 q23 q24) (loopK 1 (f180_fr22 a0 a1 q17 q18 q19 y3 y20 y21 bq23 bq24) L (f180_k22 K a0 a1 y3 F16 bq17 bq18 bq19 lr)) = f180_b22 K a0 a1 q17 q18 q19 y3 y20 y21 (fun v0 v1 v2 => F16 (f180_fr16 a0 a1 y3 v0 v1 v2)) (fun v0 v1 => L (f180_fr22 a0 a1 q17 q18 q19 y3 y20 y21 v0 v1)) q23 q24 := by
    intro lr L q23 q24; kernel_rfl
  intro n q23 q24
  refine loopN_iter (X := Int × List Int) (frame := fun x => (f180_fr22 a0 a1 q17 q18 q19 y3 y20 y21 x.1 x.2)) (body := (fun L x => (fun L22 => f180_b22 K a0 a1 q17 q18 q19 y3 y20 y21 (fun v0 v1 v2 => F16 (f180_fr16 a0 a1 y3 v0 v1 v2)) L22 x.1 x.2) (fun v0 v1 => L (v0, v1)))) (fun L x => ?_) n (q23, q24)
  rw [exec_G]
  exact (key (realL (f180E K) 1) L x.1 x.2).trans (by rfl)
theorem f180_t16 (K : Nat) (a0 : Int × Int × Int) (a1 : List tM) (y3 : List tV) (bq17 : Int) (bq18 : List (List tV)) (bq19 : List Int) : ∀ (n : Nat) (q17 : Int) (q18 : List (List tV)) (q19 : List Int), loopN (exec (f180E K) 1 (selC f180C [1, 1, 0, 1, 0, 0])) 1 (f180_fr16 a0 a1 y3 bq17 bq18 bq19) n (f180_fr16 a0 a1 y3 q17 q18 q19) (f180_k16 K a0 a1 (realL (f180E K) 1)) = f180_l16 K a0 a1 y3 n q17 q18 q19 := by
  have key : ∀ (lr : LR ((List (List tV)) × List Int)) (L : Fr → Option ((List (List tV)) × List Int)) (q17 : Int) (q18 : List (List tV)) (q19 : List Int), execG (f180E K) 1 lr (selC f180C [1, 1, 0, 1, 0, 0]) (f180_fr16 a0 a1 y3 q17 q18 q19) (loopK 1 (f180_fr16 a0 a1 y3 bq17 bq18 bq19) L (f180_k16 K a0 a1 lr)) = f180_b16 K a0 a1 y3 (fun c0 c1 c2 c3 c4 d0 d1 => lr (selC f180C [1, 1, 0, 1, 0, 0, 1, 1, 0, 0, 1, 1, 1, 0, 1, 0, 0]) (f180_fr22 a0 a1 c0 c1 c2 y3 c3 c4 d0 d1) (f180_k22 K a0 a1 y3 L bq17 bq18 bq19 lr)) (fun v0 v1 v2 => L (f180_fr16 a0 a1 y3 v0 v1 v2)) q17 q18 q19 := by
    intro lr L q17 q18 q19; kernel_rfl
  intro n q17 q18 q19
  refine loopN_iter (X := Int × List (List tV) × List Int) (frame := fun x => (f180_fr16 a0 a1 y3 x.1 x.2.1 x.2.2)) (body := (fun L x => (fun L16 => f180_b16 K a0 a1 y3 (fun c0 c1 c2 c3 c4 d0 d1 => f180_l22 K a0 a1 c0 c1 c2 y3 c3 c4 L16 K d0 d1) L16 x.1 x.2.1 x.2.2) (fun v0 v1 v2 => L (v0, v1, v2)))) (fun L x => ?_) n (q17, q18, q19)
  rw [exec_G]
  have h22 : (fun c0 c1 c2 c3 c4 d0 d1 => (realL (f180E K) 1) (selC f180C [1, 1, 0, 1, 0, 0, 1, 1, 0, 0, 1, 1, 1, 0, 1, 0, 0]) (f180_fr22 a0 a1 c0 c1 c2 y3 c3 c4 d0 d1) (f180_k22 K a0 a1 y3 L bq17 bq18 bq19 (realL (f180E K) 1))) = fun c0 c1 c2 c3 c4 d0 d1 => f180_l22 K a0 a1 c0 c1 c2 y3 c3 c4 (fun v0 v1 v2 => L (f180_fr16 a0 a1 y3 v0 v1 v2)) K d0 d1 := by
    funext c0 c1 c2 c3 c4 d0 d1
    exact f180_t22 K a0 a1 y3 c0 c1 c2 c3 c4 L bq17 bq18 bq19 d0 d1 K d0 d1
  exact (key (realL (f180E K) 1) L x.1 x.2.1 x.2.2).trans (by rw [h22] <;> rfl)
theorem f180_run (K : Nat) (a0 : Int × Int × Int) (a1 : List tM) : runF (f180E K) Tryz.f180 [(.ro, sL), (.ro, (.list 57 sM))] [(.list 58 (.list 55 sV)), (.list 2 sI)] (a0, a1, ()) = f180G K a0 a1 := by
  have key : ∀ (lr : LR ((List (List tV)) × List Int)), runG (f180E K) Tryz.f180 [(.ro, sL), (.ro, (.list 57 sM))] [(.list 58 (.list 55 sV)), (.list 2 sI)] (a0, a1, ()) lr = f180_g K a0 a1 (fun c0 d0 d1 d2 => lr (selC f180C [1, 1, 0, 1, 0, 0]) (f180_fr16 a0 a1 c0 d0 d1 d2) (f180_k16 K a0 a1 lr)) := by intro lr; kernel_rfl
  have h16 : (fun c0 d0 d1 d2 => (realL (f180E K) 1) (selC f180C [1, 1, 0, 1, 0, 0]) (f180_fr16 a0 a1 c0 d0 d1 d2) (f180_k16 K a0 a1 (realL (f180E K) 1))) = fun c0 d0 d1 d2 => f180_l16 K a0 a1 c0 K d0 d1 d2 := by
    funext c0 d0 d1 d2
    exact f180_t16 K a0 a1 c0 d0 d1 d2 K d0 d1 d2
  exact runF_G (n0 := 1) (by rfl) ((key (realL (f180E K) 1)).trans (by rw [h16] <;> rfl))
theorem f314_run (K : Nat) (a0 : List tV) (a1 : List tM) : runF (f314E K) Tryz.f314 [(.ro, (.list 55 sV)), (.cap, (.list 57 sM))] [.bool] (a0, a1, ()) = f314G K a0 a1 := by kernel_rfl
theorem f322_t3 (K : Nat) (a0 : List (List tV)) (a1 : ((List tV) → Option Bool)) (bq4 : Int) : ∀ (n : Nat) (q4 : Int), loopN (exec (f322E K) 1 (selC f322C [1, 0, 1, 0, 0])) 1 (f322_fr3 a0 a1 bq4) n (f322_fr3 a0 a1 q4) (f322_k3 K a0 a1 (realL (f322E K) 1)) = f322_l3 K a0 a1 n q4 := by
  have key : ∀ (lr : LR Int) (L : Fr → Option Int) (q4 : Int), execG (f322E K) 1 lr (selC f322C [1, 0, 1, 0, 0]) (f322_fr3 a0 a1 q4) (loopK 1 (f322_fr3 a0 a1 bq4) L (f322_k3 K a0 a1 lr)) = f322_b3 K a0 a1 (fun v0 => L (f322_fr3 a0 a1 v0)) q4 := by
    intro lr L q4; kernel_rfl
  intro n q4
  refine loopN_iter (X := Int) (frame := fun x => (f322_fr3 a0 a1 x)) (body := (fun L x => (fun L3 => f322_b3 K a0 a1 L3 x) (fun v0 => L v0))) (fun L x => ?_) n q4
  rw [exec_G]
  exact (key (realL (f322E K) 1) L x).trans (by rfl)
theorem f322_run (K : Nat) (a0 : List (List tV)) (a1 : ((List tV) → Option Bool)) : runF (f322E K) Tryz.f322 [(.ro, (.list 58 (.list 55 sV))), (.ro, (.fn1 (.list 55 sV) .bool))] [sI] (a0, a1, ()) = f322G K a0 a1 := by
  have key : ∀ (lr : LR Int), runG (f322E K) Tryz.f322 [(.ro, (.list 58 (.list 55 sV))), (.ro, (.fn1 (.list 55 sV) .bool))] [sI] (a0, a1, ()) lr = f322_g K a0 a1 (fun d0 => lr (selC f322C [1, 0, 1, 0, 0]) (f322_fr3 a0 a1 d0) (f322_k3 K a0 a1 lr)) := by intro lr; kernel_rfl
  have h3 : (fun d0 => (realL (f322E K) 1) (selC f322C [1, 0, 1, 0, 0]) (f322_fr3 a0 a1 d0) (f322_k3 K a0 a1 (realL (f322E K) 1))) = fun d0 => f322_l3 K a0 a1 K d0 := by
    funext d0
    exact f322_t3 K a0 a1 d0 K d0
  exact runF_G (n0 := 1) (by rfl) ((key (realL (f322E K) 1)).trans (by rw [h3] <;> rfl))
theorem f313_run (K : Nat) (a0 : List (List tV)) (a1 : ((List tV) → Option Bool)) : runF (f313E K) Tryz.f313 [(.ro, (.list 58 (.list 55 sV))), (.ro, (.fn1 (.list 55 sV) .bool))] [.bool] (a0, a1, ()) = f313G K a0 a1 := by kernel_rfl
theorem f224_run (K : Nat) (a0 : Int) (a1 : Int × Int × Int) (a2 : List tM) : runF (f224E K) Tryz.f224 [(.ro, sI), (.ro, sL), (.ro, (.list 57 sM))] [(.list 58 (.list 55 sV)), sI] (a0, a1, a2, ()) = f224G K a0 a1 a2 := by kernel_rfl
theorem f227_run (K : Nat) (a0 : Int × Int) : runF (f227E K) Tryz.f227 [(.ro, sV)] [(.list 55 sV)] (a0, ()) = f227G K a0 := by kernel_rfl
theorem f169_t2 (K : Nat) (a0 : List tV) (a1 : Int × Int) (bq3 : Int) : ∀ (n : Nat) (q3 : Int), loopN (exec (f169E K) 1 (selC f169C [1, 0, 1, 0, 0])) 1 (f169_fr2 a0 a1 bq3) n (f169_fr2 a0 a1 q3) (f169_k2 K a0 a1 (realL (f169E K) 1)) = f169_l2 K a0 a1 n q3 := by
  have key : ∀ (lr : LR Int) (L : Fr → Option Int) (q3 : Int), execG (f169E K) 1 lr (selC f169C [1, 0, 1, 0, 0]) (f169_fr2 a0 a1 q3) (loopK 1 (f169_fr2 a0 a1 bq3) L (f169_k2 K a0 a1 lr)) = f169_b2 K a0 a1 (fun v0 => L (f169_fr2 a0 a1 v0)) q3 := by
    intro lr L q3; kernel_rfl
  intro n q3
  refine loopN_iter (X := Int) (frame := fun x => (f169_fr2 a0 a1 x)) (body := (fun L x => (fun L2 => f169_b2 K a0 a1 L2 x) (fun v0 => L v0))) (fun L x => ?_) n q3
  rw [exec_G]
  exact (key (realL (f169E K) 1) L x).trans (by rfl)
theorem f169_run (K : Nat) (a0 : List tV) (a1 : Int × Int) : runF (f169E K) Tryz.f169 [(.ro, (.list 55 sV)), (.ro, sV)] [sI] (a0, a1, ()) = f169G K a0 a1 := by
  have key : ∀ (lr : LR Int), runG (f169E K) Tryz.f169 [(.ro, (.list 55 sV)), (.ro, sV)] [sI] (a0, a1, ()) lr = f169_g K a0 a1 (fun d0 => lr (selC f169C [1, 0, 1, 0, 0]) (f169_fr2 a0 a1 d0) (f169_k2 K a0 a1 lr)) := by intro lr; kernel_rfl
  have h2 : (fun d0 => (realL (f169E K) 1) (selC f169C [1, 0, 1, 0, 0]) (f169_fr2 a0 a1 d0) (f169_k2 K a0 a1 (realL (f169E K) 1))) = fun d0 => f169_l2 K a0 a1 K d0 := by
    funext d0
    exact f169_t2 K a0 a1 d0 K d0
  exact runF_G (n0 := 1) (by rfl) ((key (realL (f169E K) 1)).trans (by rw [h2] <;> rfl))
theorem f229_run (K : Nat) (a0 : List tV) (a1 : Int × Int) : runF (f229E K) Tryz.f229 [(.ro, (.list 55 sV)), (.ro, sV)] [.bool] (a0, a1, ()) = f229G K a0 a1 := by kernel_rfl
theorem f228_run (K : Nat) (a0 : Int × Int) (a1 : List tV) : runF (f228E K) Tryz.f228 [(.ro, sV), (.cap, (.list 55 sV))] [.bool] (a0, a1, ()) = f228G K a0 a1 := by kernel_rfl
theorem f231_t3 (K : Nat) (a0 : List tV) (a1 : (tV → Option Bool)) (bq4 : Int) : ∀ (n : Nat) (q4 : Int), loopN (exec (f231E K) 1 (selC f231C [1, 0, 1, 0, 0])) 1 (f231_fr3 a0 a1 bq4) n (f231_fr3 a0 a1 q4) (f231_k3 K a0 a1 (realL (f231E K) 1)) = f231_l3 K a0 a1 n q4 := by
  have key : ∀ (lr : LR Int) (L : Fr → Option Int) (q4 : Int), execG (f231E K) 1 lr (selC f231C [1, 0, 1, 0, 0]) (f231_fr3 a0 a1 q4) (loopK 1 (f231_fr3 a0 a1 bq4) L (f231_k3 K a0 a1 lr)) = f231_b3 K a0 a1 (fun v0 => L (f231_fr3 a0 a1 v0)) q4 := by
    intro lr L q4; kernel_rfl
  intro n q4
  refine loopN_iter (X := Int) (frame := fun x => (f231_fr3 a0 a1 x)) (body := (fun L x => (fun L3 => f231_b3 K a0 a1 L3 x) (fun v0 => L v0))) (fun L x => ?_) n q4
  rw [exec_G]
  exact (key (realL (f231E K) 1) L x).trans (by rfl)
theorem f231_run (K : Nat) (a0 : List tV) (a1 : (tV → Option Bool)) : runF (f231E K) Tryz.f231 [(.ro, (.list 55 sV)), (.ro, (.fn1 sV .bool))] [sI] (a0, a1, ()) = f231G K a0 a1 := by
  have key : ∀ (lr : LR Int), runG (f231E K) Tryz.f231 [(.ro, (.list 55 sV)), (.ro, (.fn1 sV .bool))] [sI] (a0, a1, ()) lr = f231_g K a0 a1 (fun d0 => lr (selC f231C [1, 0, 1, 0, 0]) (f231_fr3 a0 a1 d0) (f231_k3 K a0 a1 lr)) := by intro lr; kernel_rfl
  have h3 : (fun d0 => (realL (f231E K) 1) (selC f231C [1, 0, 1, 0, 0]) (f231_fr3 a0 a1 d0) (f231_k3 K a0 a1 (realL (f231E K) 1))) = fun d0 => f231_l3 K a0 a1 K d0 := by
    funext d0
    exact f231_t3 K a0 a1 d0 K d0
  exact runF_G (n0 := 1) (by rfl) ((key (realL (f231E K) 1)).trans (by rw [h3] <;> rfl))
theorem f226_run (K : Nat) (a0 : List tV) (a1 : (tV → Option Bool)) : runF (f226E K) Tryz.f226 [(.ro, (.list 55 sV)), (.ro, (.fn1 sV .bool))] [.bool] (a0, a1, ()) = f226G K a0 a1 := by kernel_rfl
theorem f315_t2 (K : Nat) (a0 : List Int) (a1 : Int) (bq3 : Int) : ∀ (n : Nat) (q3 : Int), loopN (exec (f315E K) 1 (selC f315C [1, 0, 1, 0, 0])) 1 (f315_fr2 a0 a1 bq3) n (f315_fr2 a0 a1 q3) (f315_k2 K a0 a1 (realL (f315E K) 1)) = f315_l2 K a0 a1 n q3 := by
  have key : ∀ (lr : LR Int) (L : Fr → Option Int) (q3 : Int), execG (f315E K) 1 lr (selC f315C [1, 0, 1, 0, 0]) (f315_fr2 a0 a1 q3) (loopK 1 (f315_fr2 a0 a1 bq3) L (f315_k2 K a0 a1 lr)) = f315_b2 K a0 a1 (fun v0 => L (f315_fr2 a0 a1 v0)) q3 := by
    intro lr L q3; kernel_rfl
  intro n q3
  refine loopN_iter (X := Int) (frame := fun x => (f315_fr2 a0 a1 x)) (body := (fun L x => (fun L2 => f315_b2 K a0 a1 L2 x) (fun v0 => L v0))) (fun L x => ?_) n q3
  rw [exec_G]
  exact (key (realL (f315E K) 1) L x).trans (by rfl)
theorem f315_run (K : Nat) (a0 : List Int) (a1 : Int) : runF (f315E K) Tryz.f315 [(.ro, (.list 2 sI)), (.ro, sI)] [sI] (a0, a1, ()) = f315G K a0 a1 := by
  have key : ∀ (lr : LR Int), runG (f315E K) Tryz.f315 [(.ro, (.list 2 sI)), (.ro, sI)] [sI] (a0, a1, ()) lr = f315_g K a0 a1 (fun d0 => lr (selC f315C [1, 0, 1, 0, 0]) (f315_fr2 a0 a1 d0) (f315_k2 K a0 a1 lr)) := by intro lr; kernel_rfl
  have h2 : (fun d0 => (realL (f315E K) 1) (selC f315C [1, 0, 1, 0, 0]) (f315_fr2 a0 a1 d0) (f315_k2 K a0 a1 (realL (f315E K) 1))) = fun d0 => f315_l2 K a0 a1 K d0 := by
    funext d0
    exact f315_t2 K a0 a1 d0 K d0
  exact runF_G (n0 := 1) (by rfl) ((key (realL (f315E K) 1)).trans (by rw [h2] <;> rfl))
theorem f230_run (K : Nat) (a0 : List Int) (a1 : Int) : runF (f230E K) Tryz.f230 [(.ro, (.list 2 sI)), (.ro, sI)] [.bool] (a0, a1, ()) = f230G K a0 a1 := by kernel_rfl
theorem f225_run (K : Nat) (a0 : Int × Int) (a1 : List tV) (a2 : List Int) (a3 : List Int) (a4 : Int × Int × Int) : runF (f225E K) Tryz.f225 [(.ro, sV), (.cap, (.list 55 sV)), (.cap, (.list 2 sI)), (.cap, (.list 2 sI)), (.cap, sL)] [.bool] (a0, a1, a2, a3, a4, ()) = f225G K a0 a1 a2 a3 a4 := by kernel_rfl
theorem f106_t7 (K : Nat) (a0 : Int) (a1 : Int × Int × Int) (a2 : List tM) (y1 : (List (List tV)) × Int) (y2 : (List (List tV)) × List Int) (bq8 : List tV) (bq9 : List Int) : ∀ (n : Nat) (q8 : List tV) (q9 : List Int), loopN (exec (f106E K) 1 (selC f106C [1, 1, 1, 1, 1, 1, 0, 0, 0])) 1 (f106_fr7 a0 a1 a2 y1 y2 bq8 bq9) n (f106_fr7 a0 a1 a2 y1 y2 q8 q9) (f106_k7 K a0 a1 a2 (realL (f106E K) 1)) = f106_l7 K a0 a1 a2 y1 y2 n q8 q9 := by
  have key : ∀ (lr : LR ((List tV) × Int)) (L : Fr → Option ((List tV) × Int)) (q8 : List tV) (q9 : List Int), execG (f106E K) 1 lr (selC f106C [1, 1, 1, 1, 1, 1, 0, 0, 0]) (f106_fr7 a0 a1 a2 y1 y2 q8 q9) (loopK 1 (f106_fr7 a0 a1 a2 y1 y2 bq8 bq9) L (f106_k7 K a0 a1 a2 lr)) = f106_b7 K a0 a1 a2 y1 y2 (fun v0 v1 => L (f106_fr7 a0 a1 a2 y1 y2 v0 v1)) q8 q9 := by
    intro lr L q8 q9; kernel_rfl
  intro n q8 q9
  refine loopN_iter (X := List tV × List Int) (frame := fun x => (f106_fr7 a0 a1 a2 y1 y2 x.1 x.2)) (body := (fun L x => (fun L7 => f106_b7 K a0 a1 a2 y1 y2 L7 x.1 x.2) (fun v0 v1 => L (v0, v1)))) (fun L x => ?_) n (q8, q9)
  rw [exec_G]
  exact (key (realL (f106E K) 1) L x.1 x.2).trans (by rfl)
theorem f106_run (K : Nat) (a0 : Int) (a1 : Int × Int × Int) (a2 : List tM) : runF (f106E K) Tryz.f106 [(.ro, sI), (.ro, sL), (.ro, (.list 57 sM))] [(.list 55 sV), sI] (a0, a1, a2, ()) = f106G K a0 a1 a2 := by
  have key : ∀ (lr : LR ((List tV) × Int)), runG (f106E K) Tryz.f106 [(.ro, sI), (.ro, sL), (.ro, (.list 57 sM))] [(.list 55 sV), sI] (a0, a1, a2, ()) lr = f106_g K a0 a1 a2 (fun c0 c1 d0 d1 => lr (selC f106C [1, 1, 1, 1, 1, 1, 0, 0, 0]) (f106_fr7 a0 a1 a2 c0 c1 d0 d1) (f106_k7 K a0 a1 a2 lr)) := by intro lr; kernel_rfl
  have h7 : (fun c0 c1 d0 d1 => (realL (f106E K) 1) (selC f106C [1, 1, 1, 1, 1, 1, 0, 0, 0]) (f106_fr7 a0 a1 a2 c0 c1 d0 d1) (f106_k7 K a0 a1 a2 (realL (f106E K) 1))) = fun c0 c1 d0 d1 => f106_l7 K a0 a1 a2 c0 c1 K d0 d1 := by
    funext c0 c1 d0 d1
    exact f106_t7 K a0 a1 a2 c0 c1 d0 d1 K d0 d1
  exact runF_G (n0 := 1) (by rfl) ((key (realL (f106E K) 1)).trans (by rw [h7] <;> rfl))
theorem f254_run (K : Nat) (a0 : Int × Int) : runF (f254E K) Tryz.f254 [(.ro, sV)] [.bool] (a0, ()) = f254G K a0 := by kernel_rfl
theorem f384_run (K : Nat) (a0 : Int × Int × Int × Int) : runF (f384E K) Tryz.f384 [(.ro, sA)] [.bool] (a0, ()) = f384G K a0 := by kernel_rfl
theorem f132_run (K : Nat) (a0 : Int × Int × Int × Int) : runF (f132E K) Tryz.f132 [(.ro, sA)] [sI] (a0, ()) = f132G K a0 := by kernel_rfl
theorem f358_run (K : Nat) (a0 : Int × Int × Int × Int) : runF (f358E K) Tryz.f358 [(.ro, sA)] [.bool] (a0, ()) = f358G K a0 := by kernel_rfl
theorem f302_run (K : Nat) (a0 : Int) (a1 : Int × Int × Int × Int) : runF (f302E K) Tryz.f302 [(.ro, sI), (.ro, sA)] [.bool] (a0, a1, ()) = f302G K a0 a1 := by kernel_rfl
theorem f210_run (K : Nat) (a0 : Int) (a1 : Int × Int × Int) (a2 : tA × Int × Int) : runF (f210E K) Tryz.f210 [(.ro, sI), (.ro, sL), (.ro, sM)] [.bool] (a0, a1, a2, ()) = f210G K a0 a1 a2 := by kernel_rfl
theorem f148_t25 (K : Nat) (a0 : Int) (a1 : Int × Int × Int) (a2 : List tM) (q7 : Int) (y1 : Int) (y12 : Bool) (q24 : Int) (F23 : Fr → Option Bool) (bq24 : Int) (bq26 : Int) : ∀ (n : Nat) (q26 : Int), loopN (exec (f148E K) 1 (selC f148C [1, 1, 1, 1, 0, 1, 0, 0, 1, 0, 0, 1, 0, 0])) 1 (f148_fr25 a0 a1 a2 q7 q24 y1 y12 bq26) n (f148_fr25 a0 a1 a2 q7 q24 y1 y12 q26) (f148_k25 K a0 a1 a2 q7 y1 y12 F23 bq24 (realL (f148E K) 1)) = f148_l25 K a0 a1 a2 q7 q24 y1 y12 (fun v0 => F23 (f148_fr23 a0 a1 a2 q7 y1 y12 v0)) n q26 := by
  have key : ∀ (lr : LR Bool) (L : Fr → Option Bool) (q26 : Int), execG (f148E K) 1 lr (selC f148C [1, 1, 1, 1, 0, 1, 0, 0, 1, 0, 0, 1, 0, 0]) (f148_fr25 a0 a1 a2 q7 q24 y1 y12 q26) (loopK 1 (f148_fr25 a0 a1 a2 q7 q24 y1 y12 bq26) L (f148_k25 K a0 a1 a2 q7 y1 y12 F23 bq24 lr)) = f148_b25 K a0 a1 a2 q7 q24 y1 y12 (fun v0 => F23 (f148_fr23 a0 a1 a2 q7 y1 y12 v0)) (fun v0 => L (f148_fr25 a0 a1 a2 q7 q24 y1 y12 v0)) q26 := by
    intro lr L q26; kernel_rfl
  intro n q26
  refine loopN_iter (X := Int) (frame := fun x => (f148_fr25 a0 a1 a2 q7 q24 y1 y12 x)) (body := (fun L x => (fun L25 => f148_b25 K a0 a1 a2 q7 q24 y1 y12 (fun v0 => F23 (f148_fr23 a0 a1 a2 q7 y1 y12 v0)) L25 x) (fun v0 => L v0))) (fun L x => ?_) n q26
  rw [exec_G]
  exact (key (realL (f148E K) 1) L x).trans (by rfl)
theorem f148_t23 (K : Nat) (a0 : Int) (a1 : Int × Int × Int) (a2 : List tM) (q7 : Int) (y1 : Int) (y12 : Bool) (bq24 : Int) : ∀ (n : Nat) (q24 : Int), loopN (exec (f148E K) 1 (selC f148C [1, 1, 1, 1, 0, 1, 0, 0])) 1 (f148_fr23 a0 a1 a2 q7 y1 y12 bq24) n (f148_fr23 a0 a1 a2 q7 y1 y12 q24) (f148_k23 K a0 a1 a2 (realL (f148E K) 1)) = f148_l23 K a0 a1 a2 q7 y1 y12 n q24 := by
  have key : ∀ (lr : LR Bool) (L : Fr → Option Bool) (q24 : Int), execG (f148E K) 1 lr (selC f148C [1, 1, 1, 1, 0, 1, 0, 0]) (f148_fr23 a0 a1 a2 q7 y1 y12 q24) (loopK 1 (f148_fr23 a0 a1 a2 q7 y1 y12 bq24) L (f148_k23 K a0 a1 a2 lr)) = f148_b23 K a0 a1 a2 q7 y1 y12 (fun c0 d0 => lr (selC f148C [1, 1, 1, 1, 0, 1, 0, 0, 1, 0, 0, 1, 0, 0]) (f148_fr25 a0 a1 a2 q7 c0 y1 y12 d0) (f148_k25 K a0 a1 a2 q7 y1 y12 L bq24 lr)) (fun v0 => L (f148_fr23 a0 a1 a2 q7 y1 y12 v0)) q24 := by
    intro lr L q24; kernel_rfl
  intro n q24
  refine loopN_iter (X := Int) (frame := fun x => (f148_fr23 a0 a1 a2 q7 y1 y12 x)) (body := (fun L x => (fun L23 => f148_b23 K a0 a1 a2 q7 y1 y12 (fun c0 d0 => f148_l25 K a0 a1 a2 q7 c0 y1 y12 L23 K d0) L23 x) (fun v0 => L v0))) (fun L x => ?_) n q24
  rw [exec_G]
  have h25 : (fun c0 d0 => (realL (f148E K) 1) (selC f148C [1, 1, 1, 1, 0, 1, 0, 0, 1, 0, 0, 1, 0, 0]) (f148_fr25 a0 a1 a2 q7 c0 y1 y12 d0) (f148_k25 K a0 a1 a2 q7 y1 y12 L bq24 (realL (f148E K) 1))) = fun c0 d0 => f148_l25 K a0 a1 a2 q7 c0 y1 y12 (fun v0 => L (f148_fr23 a0 a1 a2 q7 y1 y12 v0)) K d0 := by
    funext c0 d0
    exact f148_t25 K a0 a1 a2 q7 y1 y12 c0 L bq24 d0 K d0
  exact (key (realL (f148E K) 1) L x).trans (by rw [h25] <;> rfl)
theorem f148_t6 (K : Nat) (a0 : Int) (a1 : Int × Int × Int) (a2 : List tM) (y1 : Int) (bq7 : Int) : ∀ (n : Nat) (q7 : Int), loopN (exec (f148E K) 1 (selC f148C [1, 1, 0, 1, 0, 0])) 1 (f148_fr6 a0 a1 a2 y1 bq7) n (f148_fr6 a0 a1 a2 y1 q7) (f148_k6 K a0 a1 a2 (realL (f148E K) 1)) = f148_l6 K a0 a1 a2 y1 n q7 := by
  have key : ∀ (lr : LR Bool) (L : Fr → Option Bool) (q7 : Int), execG (f148E K) 1 lr (selC f148C [1, 1, 0, 1, 0, 0]) (f148_fr6 a0 a1 a2 y1 q7) (loopK 1 (f148_fr6 a0 a1 a2 y1 bq7) L (f148_k6 K a0 a1 a2 lr)) = f148_b6 K a0 a1 a2 y1 (fun c0 c1 c2 d0 => lr (selC f148C [1, 1, 1, 1, 0, 1, 0, 0]) (f148_fr23 a0 a1 a2 c0 c1 c2 d0) (f148_k23 K a0 a1 a2 lr)) (fun v0 => L (f148_fr6 a0 a1 a2 y1 v0)) q7 := by
    intro lr L q7; kernel_rfl
  intro n q7
  refine loopN_iter (X := Int) (frame := fun x => (f148_fr6 a0 a1 a2 y1 x)) (body := (fun L x => (fun L6 => f148_b6 K a0 a1 a2 y1 (fun c0 c1 c2 d0 => f148_l23 K a0 a1 a2 c0 c1 c2 K d0) L6 x) (fun v0 => L v0))) (fun L x => ?_) n q7
  rw [exec_G]
  have h23 : (fun c0 c1 c2 d0 => (realL (f148E K) 1) (selC f148C [1, 1, 1, 1, 0, 1, 0, 0]) (f148_fr23 a0 a1 a2 c0 c1 c2 d0) (f148_k23 K a0 a1 a2 (realL (f148E K) 1))) = fun c0 c1 c2 d0 => f148_l23 K a0 a1 a2 c0 c1 c2 K d0 := by
    funext c0 c1 c2 d0
    exact f148_t23 K a0 a1 a2 c0 c1 c2 d0 K d0
  exact (key (realL (f148E K) 1) L x).trans (by rw [h23] <;> rfl)
theorem f148_run (K : Nat) (a0 : Int) (a1 : Int × Int × Int) (a2 : List tM) : runF (f148E K) Tryz.f148 [(.ro, sI), (.ro, sL), (.ro, (.list 57 sM))] [.bool] (a0, a1, a2, ()) = f148G K a0 a1 a2 := by
  have key : ∀ (lr : LR Bool), runG (f148E K) Tryz.f148 [(.ro, sI), (.ro, sL), (.ro, (.list 57 sM))] [.bool] (a0, a1, a2, ()) lr = f148_g K a0 a1 a2 (fun c0 d0 => lr (selC f148C [1, 1, 0, 1, 0, 0]) (f148_fr6 a0 a1 a2 c0 d0) (f148_k6 K a0 a1 a2 lr)) := by intro lr; kernel_rfl
  have h6 : (fun c0 d0 => (realL (f148E K) 1) (selC f148C [1, 1, 0, 1, 0, 0]) (f148_fr6 a0 a1 a2 c0 d0) (f148_k6 K a0 a1 a2 (realL (f148E K) 1))) = fun c0 d0 => f148_l6 K a0 a1 a2 c0 K d0 := by
    funext c0 d0
    exact f148_t6 K a0 a1 a2 c0 d0 K d0
  exact runF_G (n0 := 1) (by rfl) ((key (realL (f148E K) 1)).trans (by rw [h6] <;> rfl))
theorem f209_run (K : Nat) (a0 : Int) (a1 : Int × Int × Int) (a2 : Bool) : runF (f209E K) Tryz.f209 [(.ro, sI), (.ro, sL), (.ro, .bool)] [sI] (a0, a1, a2, ()) = f209G K a0 a1 a2 := by kernel_rfl
theorem f181_run (K : Nat) (a0 : Int) (a1 : Int × Int × Int) (a2 : List tM) (a3 : Bool) : runF (f181E K) Tryz.f181 [(.ro, sI), (.ro, sL), (.ro, (.list 57 sM)), (.ro, .bool)] [sI] (a0, a1, a2, a3, ()) = f181G K a0 a1 a2 a3 := by kernel_rfl
theorem f149_t9 (K : Nat) (a0 : Int × Int × Int) (q7 : Int) (F6 : Fr → Option (List tV)) (bq7 : Int) (bq8 : List tV) (bq10 : Int) (bq11 : List tV) : ∀ (n : Nat) (q10 : Int) (q11 : List tV), loopN (exec (f149E K) 0 (selC f149C [1, 1, 0, 1, 0, 0, 1, 0, 0, 1, 0, 0])) 0 (f149_fr9 a0 q7 bq10 bq11) n (f149_fr9 a0 q7 q10 q11) (f149_k9 K a0 F6 bq7 bq8 (realL (f149E K) 0)) = f149_l9 K a0 q7 (fun v0 v1 => F6 (f149_fr6 a0 v0 v1)) n q10 q11 := by
  have key : ∀ (lr : LR (List tV)) (L : Fr → Option (List tV)) (q10 : Int) (q11 : List tV), execG (f149E K) 0 lr (selC f149C [1, 1, 0, 1, 0, 0, 1, 0, 0, 1, 0, 0]) (f149_fr9 a0 q7 q10 q11) (loopK 0 (f149_fr9 a0 q7 bq10 bq11) L (f149_k9 K a0 F6 bq7 bq8 lr)) = f149_b9 K a0 q7 (fun v0 v1 => F6 (f149_fr6 a0 v0 v1)) (fun v0 v1 => L (f149_fr9 a0 q7 v0 v1)) q10 q11 := by
    intro lr L q10 q11; kernel_rfl
  intro n q10 q11
  refine loopN_iter (X := Int × List tV) (frame := fun x => (f149_fr9 a0 q7 x.1 x.2)) (body := (fun L x => (fun L9 => f149_b9 K a0 q7 (fun v0 v1 => F6 (f149_fr6 a0 v0 v1)) L9 x.1 x.2) (fun v0 v1 => L (v0, v1)))) (fun L x => ?_) n (q10, q11)
  rw [exec_G]
  exact (key (realL (f149E K) 0) L x.1 x.2).trans (by rfl)
theorem f149_t6 (K : Nat) (a0 : Int × Int × Int) (bq7 : Int) (bq8 : List tV) : ∀ (n : Nat) (q7 : Int) (q8 : List tV), loopN (exec (f149E K) 0 (selC f149C [1, 1, 0, 1, 0, 0])) 0 (f149_fr6 a0 bq7 bq8) n (f149_fr6 a0 q7 q8) (f149_k6 K a0 (realL (f149E K) 0)) = f149_l6 K a0 n q7 q8 := by
  have key : ∀ (lr : LR (List tV)) (L : Fr → Option (List tV)) (q7 : Int) (q8 : List tV), execG (f149E K) 0 lr (selC f149C [1, 1, 0, 1, 0, 0]) (f149_fr6 a0 q7 q8) (loopK 0 (f149_fr6 a0 bq7 bq8) L (f149_k6 K a0 lr)) = f149_b6 K a0 (fun c0 d0 d1 => lr (selC f149C [1, 1, 0, 1, 0, 0, 1, 0, 0, 1, 0, 0]) (f149_fr9 a0 c0 d0 d1) (f149_k9 K a0 L bq7 bq8 lr)) (fun v0 v1 => L (f149_fr6 a0 v0 v1)) q7 q8 := by
    intro lr L q7 q8; kernel_rfl
  intro n q7 q8
  refine loopN_iter (X := Int × List tV) (frame := fun x => (f149_fr6 a0 x.1 x.2)) (body := (fun L x => (fun L6 => f149_b6 K a0 (fun c0 d0 d1 => f149_l9 K a0 c0 L6 K d0 d1) L6 x.1 x.2) (fun v0 v1 => L (v0, v1)))) (fun L x => ?_) n (q7, q8)
  rw [exec_G]
  have h9 : (fun c0 d0 d1 => (realL (f149E K) 0) (selC f149C [1, 1, 0, 1, 0, 0, 1, 0, 0, 1, 0, 0]) (f149_fr9 a0 c0 d0 d1) (f149_k9 K a0 L bq7 bq8 (realL (f149E K) 0))) = fun c0 d0 d1 => f149_l9 K a0 c0 (fun v0 v1 => L (f149_fr6 a0 v0 v1)) K d0 d1 := by
    funext c0 d0 d1
    exact f149_t9 K a0 c0 L bq7 bq8 d0 d1 K d0 d1
  exact (key (realL (f149E K) 0) L x.1 x.2).trans (by rw [h9] <;> rfl)
theorem f149_run (K : Nat) (a0 : Int × Int × Int) : runF (f149E K) Tryz.f149 [(.ro, sL)] [(.list 55 sV)] (a0, ()) = f149G K a0 := by
  have key : ∀ (lr : LR (List tV)), runG (f149E K) Tryz.f149 [(.ro, sL)] [(.list 55 sV)] (a0, ()) lr = f149_g K a0 (fun d0 d1 => lr (selC f149C [1, 1, 0, 1, 0, 0]) (f149_fr6 a0 d0 d1) (f149_k6 K a0 lr)) := by intro lr; kernel_rfl
  have h6 : (fun d0 d1 => (realL (f149E K) 0) (selC f149C [1, 1, 0, 1, 0, 0]) (f149_fr6 a0 d0 d1) (f149_k6 K a0 (realL (f149E K) 0))) = fun d0 d1 => f149_l6 K a0 K d0 d1 := by
    funext d0 d1
    exact f149_t6 K a0 d0 d1 K d0 d1
  exact runF_G (n0 := 0) (by rfl) ((key (realL (f149E K) 0)).trans (by rw [h6] <;> rfl))
theorem f151_run (K : Nat) (a0 : tA × Int × Int) (a1 : Int × Int) : runF (f151E K) Tryz.f151 [(.ro, sM), (.ro, sV)] [sV] (a0, a1, ()) = f151G K a0 a1 := by kernel_rfl
theorem f171_run (K : Nat) (a0 : Int × Int × Int) (a1 : tA × Int × Int) (a2 : Int × Int) : runF (f171E K) Tryz.f171 [(.ro, sL), (.ro, sM), (.ro, sV)] [sV] (a0, a1, a2, ()) = f171G K a0 a1 a2 := by kernel_rfl
theorem f236_t3 (K : Nat) (a0 : List tV) (a1 : Int × Int) (bq4 : Int) : ∀ (n : Nat) (q4 : Int), loopN (exec (f236E K) 1 (selC f236C [1, 1, 0, 0, 0])) 1 (f236_fr3 a0 a1 bq4) n (f236_fr3 a0 a1 q4) (f236_k3 K a0 a1 (realL (f236E K) 1)) = f236_l3 K a0 a1 n q4 := by
  have key : ∀ (lr : LR (List tV)) (L : Fr → Option (List tV)) (q4 : Int), execG (f236E K) 1 lr (selC f236C [1, 1, 0, 0, 0]) (f236_fr3 a0 a1 q4) (loopK 1 (f236_fr3 a0 a1 bq4) L (f236_k3 K a0 a1 lr)) = f236_b3 K a0 a1 (fun v0 => L (f236_fr3 a0 a1 v0)) q4 := by
    intro lr L q4; kernel_rfl
  intro n q4
  refine loopN_iter (X := Int) (frame := fun x => (f236_fr3 a0 a1 x)) (body := (fun L x => (fun L3 => f236_b3 K a0 a1 L3 x) (fun v0 => L v0))) (fun L x => ?_) n q4
  rw [exec_G]
  exact (key (realL (f236E K) 1) L x).trans (by rfl)
theorem f236_run (K : Nat) (a0 : List tV) (a1 : Int × Int) : runF (f236E K) Tryz.f236 [(.mv, (.list 55 sV)), (.ro, sV)] [(.list 55 sV)] (a0, a1, ()) = f236G K a0 a1 := by
  have key : ∀ (lr : LR (List tV)), runG (f236E K) Tryz.f236 [(.mv, (.list 55 sV)), (.ro, sV)] [(.list 55 sV)] (a0, a1, ()) lr = f236_g K a0 a1 (fun d0 => lr (selC f236C [1, 1, 0, 0, 0]) (f236_fr3 a0 a1 d0) (f236_k3 K a0 a1 lr)) := by intro lr; kernel_rfl
  have h3 : (fun d0 => (realL (f236E K) 1) (selC f236C [1, 1, 0, 0, 0]) (f236_fr3 a0 a1 d0) (f236_k3 K a0 a1 (realL (f236E K) 1))) = fun d0 => f236_l3 K a0 a1 K d0 := by
    funext d0
    exact f236_t3 K a0 a1 d0 K d0
  exact runF_G (n0 := 1) (by rfl) ((key (realL (f236E K) 1)).trans (by rw [h3] <;> rfl))
theorem f193_t4 (K : Nat) (a0 : Int × Int × Int) (a1 : List tM) (a2 : Int × Int) (bq5 : Int) (bq6 : List tV) : ∀ (n : Nat) (q5 : Int) (q6 : List tV), loopN (exec (f193E K) 1 (selC f193C [1, 1, 0, 1, 0, 0])) 1 (f193_fr4 a0 a1 a2 bq5 bq6) n (f193_fr4 a0 a1 a2 q5 q6) (f193_k4 K a0 a1 a2 (realL (f193E K) 1)) = f193_l4 K a0 a1 a2 n q5 q6 := by
  have key : ∀ (lr : LR (List tV)) (L : Fr → Option (List tV)) (q5 : Int) (q6 : List tV), execG (f193E K) 1 lr (selC f193C [1, 1, 0, 1, 0, 0]) (f193_fr4 a0 a1 a2 q5 q6) (loopK 1 (f193_fr4 a0 a1 a2 bq5 bq6) L (f193_k4 K a0 a1 a2 lr)) = f193_b4 K a0 a1 a2 (fun v0 v1 => L (f193_fr4 a0 a1 a2 v0 v1)) q5 q6 := by
    intro lr L q5 q6; kernel_rfl
  intro n q5 q6
  refine loopN_iter (X := Int × List tV) (frame := fun x => (f193_fr4 a0 a1 a2 x.1 x.2)) (body := (fun L x => (fun L4 => f193_b4 K a0 a1 a2 L4 x.1 x.2) (fun v0 v1 => L (v0, v1)))) (fun L x => ?_) n (q5, q6)
  rw [exec_G]
  exact (key (realL (f193E K) 1) L x.1 x.2).trans (by rfl)
theorem f193_run (K : Nat) (a0 : Int × Int × Int) (a1 : List tM) (a2 : Int × Int) : runF (f193E K) Tryz.f193 [(.ro, sL), (.ro, (.list 57 sM)), (.ro, sV)] [(.list 55 sV)] (a0, a1, a2, ()) = f193G K a0 a1 a2 := by
  have key : ∀ (lr : LR (List tV)), runG (f193E K) Tryz.f193 [(.ro, sL), (.ro, (.list 57 sM)), (.ro, sV)] [(.list 55 sV)] (a0, a1, a2, ()) lr = f193_g K a0 a1 a2 (fun d0 d1 => lr (selC f193C [1, 1, 0, 1, 0, 0]) (f193_fr4 a0 a1 a2 d0 d1) (f193_k4 K a0 a1 a2 lr)) := by intro lr; kernel_rfl
  have h4 : (fun d0 d1 => (realL (f193E K) 1) (selC f193C [1, 1, 0, 1, 0, 0]) (f193_fr4 a0 a1 a2 d0 d1) (f193_k4 K a0 a1 a2 (realL (f193E K) 1))) = fun d0 d1 => f193_l4 K a0 a1 a2 K d0 d1 := by
    funext d0 d1
    exact f193_t4 K a0 a1 a2 d0 d1 K d0 d1
  exact runF_G (n0 := 1) (by rfl) ((key (realL (f193E K) 1)).trans (by rw [h4] <;> rfl))
theorem f182_t4 (K : Nat) (a0 : Int × Int × Int) (a1 : List tM) (y1 : List tV) (bq5 : Int) (bq6 : List (List tV)) : ∀ (n : Nat) (q5 : Int) (q6 : List (List tV)), loopN (exec (f182E K) 1 (selC f182C [1, 1, 1, 0, 1, 0, 0])) 1 (f182_fr4 a0 a1 y1 bq5 bq6) n (f182_fr4 a0 a1 y1 q5 q6) (f182_k4 K a0 a1 (realL (f182E K) 1)) = f182_l4 K a0 a1 y1 n q5 q6 := by
  have key : ∀ (lr : LR (List (List tV))) (L : Fr → Option (List (List tV))) (q5 : Int) (q6 : List (List tV)), execG (f182E K) 1 lr (selC f182C [1, 1, 1, 0, 1, 0, 0]) (f182_fr4 a0 a1 y1 q5 q6) (loopK 1 (f182_fr4 a0 a1 y1 bq5 bq6) L (f182_k4 K a0 a1 lr)) = f182_b4 K a0 a1 y1 (fun v0 v1 => L (f182_fr4 a0 a1 y1 v0 v1)) q5 q6 := by
    intro lr L q5 q6; kernel_rfl
  intro n q5 q6
  refine loopN_iter (X := Int × List (List tV)) (frame := fun x => (f182_fr4 a0 a1 y1 x.1 x.2)) (body := (fun L x => (fun L4 => f182_b4 K a0 a1 y1 L4 x.1 x.2) (fun v0 v1 => L (v0, v1)))) (fun L x => ?_) n (q5, q6)
  rw [exec_G]
  exact (key (realL (f182E K) 1) L x.1 x.2).trans (by rfl)
theorem f182_run (K : Nat) (a0 : Int × Int × Int) (a1 : List tM) : runF (f182E K) Tryz.f182 [(.ro, sL), (.ro, (.list 57 sM))] [(.list 58 (.list 55 sV))] (a0, a1, ()) = f182G K a0 a1 := by
  have key : ∀ (lr : LR (List (List tV))), runG (f182E K) Tryz.f182 [(.ro, sL), (.ro, (.list 57 sM))] [(.list 58 (.list 55 sV))] (a0, a1, ()) lr = f182_g K a0 a1 (fun c0 d0 d1 => lr (selC f182C [1, 1, 1, 0, 1, 0, 0]) (f182_fr4 a0 a1 c0 d0 d1) (f182_k4 K a0 a1 lr)) := by intro lr; kernel_rfl
  have h4 : (fun c0 d0 d1 => (realL (f182E K) 1) (selC f182C [1, 1, 1, 0, 1, 0, 0]) (f182_fr4 a0 a1 c0 d0 d1) (f182_k4 K a0 a1 (realL (f182E K) 1))) = fun c0 d0 d1 => f182_l4 K a0 a1 c0 K d0 d1 := by
    funext c0 d0 d1
    exact f182_t4 K a0 a1 c0 d0 d1 K d0 d1
  exact runF_G (n0 := 1) (by rfl) ((key (realL (f182E K) 1)).trans (by rw [h4] <;> rfl))
theorem f234_t4 (K : Nat) (a0 : Int) (a1 : Int × Int × Int) (a2 : List tM) (y1 : Int) (y2 : List (List tV)) (bq5 : Int) : ∀ (n : Nat) (q5 : Int), loopN (exec (f234E K) 1 (selC f234C [1, 1, 1, 1, 0, 1, 0, 0])) 1 (f234_fr4 a0 a1 a2 y1 y2 bq5) n (f234_fr4 a0 a1 a2 y1 y2 q5) (f234_k4 K a0 a1 a2 (realL (f234E K) 1)) = f234_l4 K a0 a1 a2 y1 y2 n q5 := by
  have key : ∀ (lr : LR ((List (List tV)) × Int)) (L : Fr → Option ((List (List tV)) × Int)) (q5 : Int), execG (f234E K) 1 lr (selC f234C [1, 1, 1, 1, 0, 1, 0, 0]) (f234_fr4 a0 a1 a2 y1 y2 q5) (loopK 1 (f234_fr4 a0 a1 a2 y1 y2 bq5) L (f234_k4 K a0 a1 a2 lr)) = f234_b4 K a0 a1 a2 y1 y2 (fun v0 => L (f234_fr4 a0 a1 a2 y1 y2 v0)) q5 := by
    intro lr L q5; kernel_rfl
  intro n q5
  refine loopN_iter (X := Int) (frame := fun x => (f234_fr4 a0 a1 a2 y1 y2 x)) (body := (fun L x => (fun L4 => f234_b4 K a0 a1 a2 y1 y2 L4 x) (fun v0 => L v0))) (fun L x => ?_) n q5
  rw [exec_G]
  exact (key (realL (f234E K) 1) L x).trans (by rfl)
theorem f234_run (K : Nat) (a0 : Int) (a1 : Int × Int × Int) (a2 : List tM) : runF (f234E K) Tryz.f234 [(.ro, sI), (.ro, sL), (.ro, (.list 57 sM))] [(.list 58 (.list 55 sV)), sI] (a0, a1, a2, ()) = f234G K a0 a1 a2 := by
  have key : ∀ (lr : LR ((List (List tV)) × Int)), runG (f234E K) Tryz.f234 [(.ro, sI), (.ro, sL), (.ro, (.list 57 sM))] [(.list 58 (.list 55 sV)), sI] (a0, a1, a2, ()) lr = f234_g K a0 a1 a2 (fun c0 c1 d0 => lr (selC f234C [1, 1, 1, 1, 0, 1, 0, 0]) (f234_fr4 a0 a1 a2 c0 c1 d0) (f234_k4 K a0 a1 a2 lr)) := by intro lr; kernel_rfl
  have h4 : (fun c0 c1 d0 => (realL (f234E K) 1) (selC f234C [1, 1, 1, 1, 0, 1, 0, 0]) (f234_fr4 a0 a1 a2 c0 c1 d0) (f234_k4 K a0 a1 a2 (realL (f234E K) 1))) = fun c0 c1 d0 => f234_l4 K a0 a1 a2 c0 c1 K d0 := by
    funext c0 c1 d0
    exact f234_t4 K a0 a1 a2 c0 c1 d0 K d0
  exact runF_G (n0 := 1) (by rfl) ((key (realL (f234E K) 1)).trans (by rw [h4] <;> rfl))
theorem f150_run (K : Nat) (a0 : Int × Int × Int) (a1 : Int × Int) : runF (f150E K) Tryz.f150 [(.ro, sL), (.ro, sV)] [sI] (a0, a1, ()) = f150G K a0 a1 := by kernel_rfl
theorem f183_t12 (K : Nat) (a0 : Int × Int × Int) (a1 : List tM) (y1 : List (List tV)) (q10 : Int) (F9 : Fr → Option (List Int)) (bq10 : Int) (bq11 : List Int) (bq13 : Int) (bq14 : List Int) : ∀ (n : Nat) (q13 : Int) (q14 : List Int), loopN (exec (f183E K) 1 (selC f183C [1, 1, 1, 0, 1, 0, 0, 1, 0, 0, 1, 0, 0])) 1 (f183_fr12 a0 a1 q10 y1 bq13 bq14) n (f183_fr12 a0 a1 q10 y1 q13 q14) (f183_k12 K a0 a1 y1 F9 bq10 bq11 (realL (f183E K) 1)) = f183_l12 K a0 a1 q10 y1 (fun v0 v1 => F9 (f183_fr9 a0 a1 y1 v0 v1)) n q13 q14 := by
  have key : ∀ (lr : LR (List Int)) (L : Fr → Option (List Int)) (q13 : Int) (q14 : List Int), execG (f183E K) 1 lr (selC f183C [1, 1, 1, 0, 1, 0, 0, 1, 0, 0, 1, 0, 0]) (f183_fr12 a0 a1 q10 y1 q13 q14) (loopK 1 (f183_fr12 a0 a1 q10 y1 bq13 bq14) L (f183_k12 K a0 a1 y1 F9 bq10 bq11 lr)) = f183_b12 K a0 a1 q10 y1 (fun v0 v1 => F9 (f183_fr9 a0 a1 y1 v0 v1)) (fun v0 v1 => L (f183_fr12 a0 a1 q10 y1 v0 v1)) q13 q14 := by
    intro lr L q13 q14; kernel_rfl
  intro n q13 q14
  refine loopN_iter (X := Int × List Int) (frame := fun x => (f183_fr12 a0 a1 q10 y1 x.1 x.2)) (body := (fun L x => (fun L12 => f183_b12 K a0 a1 q10 y1 (fun v0 v1 => F9 (f183_fr9 a0 a1 y1 v0 v1)) L12 x.1 x.2) (fun v0 v1 => L (v0, v1)))) (fun L x => ?_) n (q13, q14)
  rw [exec_G]
  exact (key (realL (f183E K) 1) L x.1 x.2).trans (by rfl)
theorem f183_t9 (K : Nat) (a0 : Int × Int × Int) (a1 : List tM) (y1 : List (List tV)) (bq10 : Int) (bq11 : List Int) : ∀ (n : Nat) (q10 : Int) (q11 : List Int), loopN (exec (f183E K) 1 (selC f183C [1, 1, 1, 0, 1, 0, 0])) 1 (f183_fr9 a0 a1 y1 bq10 bq11) n (f183_fr9 a0 a1 y1 q10 q11) (f183_k9 K a0 a1 (realL (f183E K) 1)) = f183_l9 K a0 a1 y1 n q10 q11 := by
  have key : ∀ (lr : LR (List Int)) (L : Fr → Option (List Int)) (q10 : Int) (q11 : List Int), execG (f183E K) 1 lr (selC f183C [1, 1, 1, 0, 1, 0, 0]) (f183_fr9 a0 a1 y1 q10 q11) (loopK 1 (f183_fr9 a0 a1 y1 bq10 bq11) L (f183_k9 K a0 a1 lr)) = f183_b9 K a0 a1 y1 (fun c0 d0 d1 => lr (selC f183C [1, 1, 1, 0, 1, 0, 0, 1, 0, 0, 1, 0, 0]) (f183_fr12 a0 a1 c0 y1 d0 d1) (f183_k12 K a0 a1 y1 L bq10 bq11 lr)) (fun v0 v1 => L (f183_fr9 a0 a1 y1 v0 v1)) q10 q11 := by
    intro lr L q10 q11; kernel_rfl
  intro n q10 q11
  refine loopN_iter (X := Int × List Int) (frame := fun x => (f183_fr9 a0 a1 y1 x.1 x.2)) (body := (fun L x => (fun L9 => f183_b9 K a0 a1 y1 (fun c0 d0 d1 => f183_l12 K a0 a1 c0 y1 L9 K d0 d1) L9 x.1 x.2) (fun v0 v1 => L (v0, v1)))) (fun L x => ?_) n (q10, q11)
  rw [exec_G]
  have h12 : (fun c0 d0 d1 => (realL (f183E K) 1) (selC f183C [1, 1, 1, 0, 1, 0, 0, 1, 0, 0, 1, 0, 0]) (f183_fr12 a0 a1 c0 y1 d0 d1) (f183_k12 K a0 a1 y1 L bq10 bq11 (realL (f183E K) 1))) = fun c0 d0 d1 => f183_l12 K a0 a1 c0 y1 (fun v0 v1 => L (f183_fr9 a0 a1 y1 v0 v1)) K d0 d1 := by
    funext c0 d0 d1
    exact f183_t12 K a0 a1 y1 c0 L bq10 bq11 d0 d1 K d0 d1
  exact (key (realL (f183E K) 1) L x.1 x.2).trans (by rw [h12] <;> rfl)
theorem f183_run (K : Nat) (a0 : Int × Int × Int) (a1 : List tM) : runF (f183E K) Tryz.f183 [(.ro, sL), (.ro, (.list 57 sM))] [(.list 2 sI)] (a0, a1, ()) = f183G K a0 a1 := by
  have key : ∀ (lr : LR (List Int)), runG (f183E K) Tryz.f183 [(.ro, sL), (.ro, (.list 57 sM))] [(.list 2 sI)] (a0, a1, ()) lr = f183_g K a0 a1 (fun c0 d0 d1 => lr (selC f183C [1, 1, 1, 0, 1, 0, 0]) (f183_fr9 a0 a1 c0 d0 d1) (f183_k9 K a0 a1 lr)) := by intro lr; kernel_rfl
  have h9 : (fun c0 d0 d1 => (realL (f183E K) 1) (selC f183C [1, 1, 1, 0, 1, 0, 0]) (f183_fr9 a0 a1 c0 d0 d1) (f183_k9 K a0 a1 (realL (f183E K) 1))) = fun c0 d0 d1 => f183_l9 K a0 a1 c0 K d0 d1 := by
    funext c0 d0 d1
    exact f183_t9 K a0 a1 c0 d0 d1 K d0 d1
  exact runF_G (n0 := 1) (by rfl) ((key (realL (f183E K) 1)).trans (by rw [h9] <;> rfl))
theorem f319_run (K : Nat) : runF (f319E K) Tryz.f319 [] [(.list 55 sV)] (()) = f319G K := by kernel_rfl
theorem f235_t28 (K : Nat) (a0 : Int × Int × Int) (a1 : List Int) (a2 : List tV) (y1 : List tV) (y2 : List tV) (q22 : Int) (q25 : Bool) (q26 : Int) (y27 : Int) (F21 : Fr → Option (tV × Bool)) (bq22 : Int) (F23 : Fr → Option (tV × Bool)) (bq24 : Bool) (bq25 : Bool) (bq26 : Int) (bq29 : Bool) (bq30 : Int) : ∀ (n : Nat) (q29 : Bool) (q30 : Int), loopN (exec (f235E K) 2 (selC f235C [1, 1, 0, 1, 0, 0, 1, 0, 0, 1, 0, 1, 0, 0, 1, 0, 0, 1, 1, 0, 0])) 2 (f235_fr28 a0 a1 a2 q22 q25 q26 y1 y2 y27 bq29 bq30) n (f235_fr28 a0 a1 a2 q22 q25 q26 y1 y2 y27 q29 q30) (f235_k28 K a0 a1 a2 y1 y2 q22 F21 bq22 F23 bq24 bq25 bq26 (realL (f235E K) 2)) = f235_l28 K a0 a1 a2 q22 q25 q26 y1 y2 y27 (fun v0 v1 v2 => F23 (f235_fr23 a0 a1 a2 q22 y1 y2 v0 v1 v2)) n q29 q30 := by
  have key : ∀ (lr : LR (tV × Bool)) (L : Fr → Option (tV × Bool)) (q29 : Bool) (q30 : Int), execG (f235E K) 2 lr (selC f235C [1, 1, 0, 1, 0, 0, 1, 0, 0, 1, 0, 1, 0, 0, 1, 0, 0, 1, 1, 0, 0]) (f235_fr28 a0 a1 a2 q22 q25 q26 y1 y2 y27 q29 q30) (loopK 2 (f235_fr28 a0 a1 a2 q22 q25 q26 y1 y2 y27 bq29 bq30) L (f235_k28 K a0 a1 a2 y1 y2 q22 F21 bq22 F23 bq24 bq25 bq26 lr)) = f235_b28 K a0 a1 a2 q22 q25 q26 y1 y2 y27 (fun v0 v1 v2 => F23 (f235_fr23 a0 a1 a2 q22 y1 y2 v0 v1 v2)) (fun v0 v1 => L (f235_fr28 a0 a1 a2 q22 q25 q26 y1 y2 y27 v0 v1)) q29 q30 := by
    intro lr L q29 q30; kernel_rfl
  intro n q29 q30
  refine loopN_iter (X := Bool × Int) (frame := fun x => (f235_fr28 a0 a1 a2 q22 q25 q26 y1 y2 y27 x.1 x.2)) (body := (fun L x => (fun L28 => f235_b28 K a0 a1 a2 q22 q25 q26 y1 y2 y27 (fun v0 v1 v2 => F23 (f235_fr23 a0 a1 a2 q22 y1 y2 v0 v1 v2)) L28 x.1 x.2) (fun v0 v1 => L (v0, v1)))) (fun L x => ?_) n (q29, q30)
  rw [exec_G]
  exact (key (realL (f235E K) 2) L x.1 x.2).trans (by rfl)
theorem f235_t23 (K : Nat) (a0 : Int × Int × Int) (a1 : List Int) (a2 : List tV) (y1 : List tV) (y2 : List tV) (q22 : Int) (F21 : Fr → Option (tV × Bool)) (bq22 : Int) (bq24 : Bool) (bq25 : Bool) (bq26 : Int) : ∀ (n : Nat) (q24 : Bool) (q25 : Bool) (q26 : Int), loopN (exec (f235E K) 2 (selC f235C [1, 1, 0, 1, 0, 0, 1, 0, 0, 1, 0, 1, 0, 0])) 2 (f235_fr23 a0 a1 a2 q22 y1 y2 bq24 bq25 bq26) n (f235_fr23 a0 a1 a2 q22 y1 y2 q24 q25 q26) (f235_k23 K a0 a1 a2 y1 y2 F21 bq22 (realL (f235E K) 2)) = f235_l23 K a0 a1 a2 q22 y1 y2 (fun v0 => F21 (f235_fr21 a0 a1 a2 y1 y2 v0)) n q24 q25 q26 := by
  have key : ∀ (lr : LR (tV × Bool)) (L : Fr → Option (tV × Bool)) (q24 : Bool) (q25 : Bool) (q26 : Int), execG (f235E K) 2 lr (selC f235C [1, 1, 0, 1, 0, 0, 1, 0, 0, 1, 0, 1, 0, 0]) (f235_fr23 a0 a1 a2 q22 y1 y2 q24 q25 q26) (loopK 2 (f235_fr23 a0 a1 a2 q22 y1 y2 bq24 bq25 bq26) L (f235_k23 K a0 a1 a2 y1 y2 F21 bq22 lr)) = f235_b23 K a0 a1 a2 q22 y1 y2 (fun c0 c1 c2 d0 d1 => lr (selC f235C [1, 1, 0, 1, 0, 0, 1, 0, 0, 1, 0, 1, 0, 0, 1, 0, 0, 1, 1, 0, 0]) (f235_fr28 a0 a1 a2 q22 c0 c1 y1 y2 c2 d0 d1) (f235_k28 K a0 a1 a2 y1 y2 q22 F21 bq22 L bq24 bq25 bq26 lr)) (fun v0 => F21 (f235_fr21 a0 a1 a2 y1 y2 v0)) (fun v0 v1 v2 => L (f235_fr23 a0 a1 a2 q22 y1 y2 v0 v1 v2)) q24 q25 q26 := by
    intro lr L q24 q25 q26; kernel_rfl
  intro n q24 q25 q26
  refine loopN_iter (X := Bool × Bool × Int) (frame := fun x => (f235_fr23 a0 a1 a2 q22 y1 y2 x.1 x.2.1 x.2.2)) (body := (fun L x => (fun L23 => f235_b23 K a0 a1 a2 q22 y1 y2 (fun c0 c1 c2 d0 d1 => f235_l28 K a0 a1 a2 q22 c0 c1 y1 y2 c2 L23 K d0 d1) (fun v0 => F21 (f235_fr21 a0 a1 a2 y1 y2 v0)) L23 x.1 x.2.1 x.2.2) (fun v0 v1 v2 => L (v0, v1, v2)))) (fun L x => ?_) n (q24, q25, q26)
  rw [exec_G]
  have h28 : (fun c0 c1 c2 d0 d1 => (realL (f235E K) 2) (selC f235C [1, 1, 0, 1, 0, 0, 1, 0, 0, 1, 0, 1, 0, 0, 1, 0, 0, 1, 1, 0, 0]) (f235_fr28 a0 a1 a2 q22 c0 c1 y1 y2 c2 d0 d1) (f235_k28 K a0 a1 a2 y1 y2 q22 F21 bq22 L bq24 bq25 bq26 (realL (f235E K) 2))) = fun c0 c1 c2 d0 d1 => f235_l28 K a0 a1 a2 q22 c0 c1 y1 y2 c2 (fun v0 v1 v2 => L (f235_fr23 a0 a1 a2 q22 y1 y2 v0 v1 v2)) K d0 d1 := by
    funext c0 c1 c2 d0 d1
    exact f235_t28 K a0 a1 a2 y1 y2 q22 c0 c1 c2 F21 bq22 L bq24 bq25 bq26 d0 d1 K d0 d1
  exact (key (realL (f235E K) 2) L x.1 x.2.1 x.2.2).trans (by rw [h28] <;> rfl)
theorem f235_t21 (K : Nat) (a0 : Int × Int × Int) (a1 : List Int) (a2 : List tV) (y1 : List tV) (y2 : List tV) (bq22 : Int) : ∀ (n : Nat) (q22 : Int), loopN (exec (f235E K) 2 (selC f235C [1, 1, 0, 1, 0, 0])) 2 (f235_fr21 a0 a1 a2 y1 y2 bq22) n (f235_fr21 a0 a1 a2 y1 y2 q22) (f235_k21 K a0 a1 a2 (realL (f235E K) 2)) = f235_l21 K a0 a1 a2 y1 y2 n q22 := by
  have key : ∀ (lr : LR (tV × Bool)) (L : Fr → Option (tV × Bool)) (q22 : Int), execG (f235E K) 2 lr (selC f235C [1, 1, 0, 1, 0, 0]) (f235_fr21 a0 a1 a2 y1 y2 q22) (loopK 2 (f235_fr21 a0 a1 a2 y1 y2 bq22) L (f235_k21 K a0 a1 a2 lr)) = f235_b21 K a0 a1 a2 y1 y2 (fun c0 d0 d1 d2 => lr (selC f235C [1, 1, 0, 1, 0, 0, 1, 0, 0, 1, 0, 1, 0, 0]) (f235_fr23 a0 a1 a2 c0 y1 y2 d0 d1 d2) (f235_k23 K a0 a1 a2 y1 y2 L bq22 lr)) (fun v0 => L (f235_fr21 a0 a1 a2 y1 y2 v0)) q22 := by
    intro lr L q22; kernel_rfl
  intro n q22
  refine loopN_iter (X := Int) (frame := fun x => (f235_fr21 a0 a1 a2 y1 y2 x)) (body := (fun L x => (fun L21 => f235_b21 K a0 a1 a2 y1 y2 (fun c0 d0 d1 d2 => f235_l23 K a0 a1 a2 c0 y1 y2 L21 K d0 d1 d2) L21 x) (fun v0 => L v0))) (fun L x => ?_) n q22
  rw [exec_G]
  have h23 : (fun c0 d0 d1 d2 => (realL (f235E K) 2) (selC f235C [1, 1, 0, 1, 0, 0, 1, 0, 0, 1, 0, 1, 0, 0]) (f235_fr23 a0 a1 a2 c0 y1 y2 d0 d1 d2) (f235_k23 K a0 a1 a2 y1 y2 L bq22 (realL (f235E K) 2))) = fun c0 d0 d1 d2 => f235_l23 K a0 a1 a2 c0 y1 y2 (fun v0 => L (f235_fr21 a0 a1 a2 y1 y2 v0)) K d0 d1 d2 := by
    funext c0 d0 d1 d2
    exact f235_t23 K a0 a1 a2 y1 y2 c0 L bq22 d0 d1 d2 K d0 d1 d2
  exact (key (realL (f235E K) 2) L x).trans (by rw [h23] <;> rfl)
theorem f235_run (K : Nat) (a0 : Int × Int × Int) (a1 : List Int) (a2 : List tV) : runF (f235E K) Tryz.f235 [(.ro, sL), (.ro, (.list 2 sI)), (.ro, (.list 55 sV))] [sV, .bool] (a0, a1, a2, ()) = f235G K a0 a1 a2 := by
  have key : ∀ (lr : LR (tV × Bool)), runG (f235E K) Tryz.f235 [(.ro, sL), (.ro, (.list 2 sI)), (.ro, (.list 55 sV))] [sV, .bool] (a0, a1, a2, ()) lr = f235_g K a0 a1 a2 (fun c0 c1 d0 => lr (selC f235C [1, 1, 0, 1, 0, 0]) (f235_fr21 a0 a1 a2 c0 c1 d0) (f235_k21 K a0 a1 a2 lr)) := by intro lr; kernel_rfl
  have h21 : (fun c0 c1 d0 => (realL (f235E K) 2) (selC f235C [1, 1, 0, 1, 0, 0]) (f235_fr21 a0 a1 a2 c0 c1 d0) (f235_k21 K a0 a1 a2 (realL (f235E K) 2))) = fun c0 c1 d0 => f235_l21 K a0 a1 a2 c0 c1 K d0 := by
    funext c0 c1 d0
    exact f235_t21 K a0 a1 a2 c0 c1 d0 K d0
  exact runF_G (n0 := 2) (by rfl) ((key (realL (f235E K) 2)).trans (by rw [h21] <;> rfl))
end Go.Proofs.YtniidcalfhhciaaGreat.X
