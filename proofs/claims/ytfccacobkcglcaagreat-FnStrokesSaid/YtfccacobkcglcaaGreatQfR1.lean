/- Functions of the program as plain Lean functions, and that the program does what they say. Printed by gen.py. -/
import Derived.Test.YtfccacobkcglcaaGreatQfD1
namespace Go.Proofs.YtfccacobkcglcaaGreat.X
open Go
set_option maxRecDepth 100000
set_option linter.unusedVariables false
theorem f290_t27 (K : Nat) (a0 : (List Int) × Int × Int) (a1 : Int) (a2 : Int × Int × Int) (q9 : Int) (q12 : List tM) (q21 q22 q23 : Int) (q24 : List Int) (y1 : Int) (y3 : tV × Int) (y15 : List tM) (y16 : List Int) (y17 : tV × Int) (bq28 : Int) (bq29 : List Int) : ∀ (n : Nat) (q28 : Int) (q29 : List Int), loopN (exec (f290E K) 1 (selC f290C [1, 1, 1, 1, 1, 1, 1, 1, 1, 0, 1, 0, 0])) 1 (f290_fr27 a0 a1 a2 q9 q12 q21 q22 q23 q24 y1 y3 y15 y16 y17 bq28 bq29) n (f290_fr27 a0 a1 a2 q9 q12 q21 q22 q23 q24 y1 y3 y15 y16 y17 q28 q29) (f290_k27 K a0 a1 a2 (realL (f290E K) 1)) = f290_l27 K a0 a1 a2 q9 q12 q21 q22 q23 q24 y1 y3 y15 y16 y17 n q28 q29 := by
  have key : ∀ (lr : LR (tV × Int × tL × List Int)) (L : Fr → Option (tV × Int × tL × List Int)) (q28 : Int) (q29 : List Int), execG (f290E K) 1 lr (selC f290C [1, 1, 1, 1, 1, 1, 1, 1, 1, 0, 1, 0, 0]) (f290_fr27 a0 a1 a2 q9 q12 q21 q22 q23 q24 y1 y3 y15 y16 y17 q28 q29) (loopK 1 (f290_fr27 a0 a1 a2 q9 q12 q21 q22 q23 q24 y1 y3 y15 y16 y17 bq28 bq29) L (f290_k27 K a0 a1 a2 lr)) = f290_b27 K a0 a1 a2 q9 q12 q21 q22 q23 q24 y1 y3 y15 y16 y17 (fun v0 v1 => L (f290_fr27 a0 a1 a2 q9 q12 q21 q22 q23 q24 y1 y3 y15 y16 y17 v0 v1)) q28 q29 := by
    intro lr L q28 q29; kernel_rfl
  intro n q28 q29
  refine loopN_iter (X := Int × List Int) (frame := fun x => (f290_fr27 a0 a1 a2 q9 q12 q21 q22 q23 q24 y1 y3 y15 y16 y17 x.1 x.2)) (body := (fun L x => (fun L27 => f290_b27 K a0 a1 a2 q9 q12 q21 q22 q23 q24 y1 y3 y15 y16 y17 L27 x.1 x.2) (fun v0 v1 => L (v0, v1)))) (fun L x => ?_) n (q28, q29)
  rw [exec_G]
  exact (key (realL (f290E K) 1) L x.1 x.2).trans (by rfl)
theorem f290_t20 (K : Nat) (a0 : (List Int) × Int × Int) (a1 : Int) (a2 : Int × Int × Int) (q9 : Int) (q12 : List tM) (y1 : Int) (y3 : tV × Int) (y15 : List tM) (y16 : List Int) (y17 : tV × Int) (bq21 bq22 bq23 : Int) (bq24 : List Int) : ∀ (n : Nat) (q21 q22 q23 : Int) (q24 : List Int), loopN (exec (f290E K) 1 (selC f290C [1, 1, 1, 1, 1, 1, 1, 1, 0, 1, 0, 0])) 1 (f290_fr20 a0 a1 a2 q9 q12 y1 y3 y15 y16 y17 bq21 bq22 bq23 bq24) n (f290_fr20 a0 a1 a2 q9 q12 y1 y3 y15 y16 y17 q21 q22 q23 q24) (f290_k20 K a0 a1 a2 (realL (f290E K) 1)) = f290_l20 K a0 a1 a2 q9 q12 y1 y3 y15 y16 y17 n q21 q22 q23 q24 := by
  have key : ∀ (lr : LR (tV × Int × tL × List Int)) (L : Fr → Option (tV × Int × tL × List Int)) (q21 q22 q23 : Int) (q24 : List Int), execG (f290E K) 1 lr (selC f290C [1, 1, 1, 1, 1, 1, 1, 1, 0, 1, 0, 0]) (f290_fr20 a0 a1 a2 q9 q12 y1 y3 y15 y16 y17 q21 q22 q23 q24) (loopK 1 (f290_fr20 a0 a1 a2 q9 q12 y1 y3 y15 y16 y17 bq21 bq22 bq23 bq24) L (f290_k20 K a0 a1 a2 lr)) = f290_b20 K a0 a1 a2 q9 q12 y1 y3 y15 y16 y17 (fun c0 c1 c2 c3 c4 c5 c6 c7 c8 c9 c10 d0 d1 => lr (selC f290C [1, 1, 1, 1, 1, 1, 1, 1, 1, 0, 1, 0, 0]) (f290_fr27 a0 a1 a2 c0 c1 c2 c3 c4 c5 c6 c7 c8 c9 c10 d0 d1) (f290_k27 K a0 a1 a2 lr)) (fun v0 v1 v2 v3 => L (f290_fr20 a0 a1 a2 q9 q12 y1 y3 y15 y16 y17 v0 v1 v2 v3)) q21 q22 q23 q24 := by
    intro lr L q21 q22 q23 q24; kernel_rfl
  intro n q21 q22 q23 q24
  refine loopN_iter (X := Int × Int × Int × List Int) (frame := fun x => (f290_fr20 a0 a1 a2 q9 q12 y1 y3 y15 y16 y17 x.1 x.2.1 x.2.2.1 x.2.2.2)) (body := (fun L x => (fun L20 => f290_b20 K a0 a1 a2 q9 q12 y1 y3 y15 y16 y17 (fun c0 c1 c2 c3 c4 c5 c6 c7 c8 c9 c10 d0 d1 => f290_l27 K a0 a1 a2 c0 c1 c2 c3 c4 c5 c6 c7 c8 c9 c10 K d0 d1) L20 x.1 x.2.1 x.2.2.1 x.2.2.2) (fun v0 v1 v2 v3 => L (v0, v1, v2, v3)))) (fun L x => ?_) n (q21, q22, q23, q24)
  rw [exec_G]
  have h27 : (fun c0 c1 c2 c3 c4 c5 c6 c7 c8 c9 c10 d0 d1 => (realL (f290E K) 1) (selC f290C [1, 1, 1, 1, 1, 1, 1, 1, 1, 0, 1, 0, 0]) (f290_fr27 a0 a1 a2 c0 c1 c2 c3 c4 c5 c6 c7 c8 c9 c10 d0 d1) (f290_k27 K a0 a1 a2 (realL (f290E K) 1))) = fun c0 c1 c2 c3 c4 c5 c6 c7 c8 c9 c10 d0 d1 => f290_l27 K a0 a1 a2 c0 c1 c2 c3 c4 c5 c6 c7 c8 c9 c10 K d0 d1 := by
    funext c0 c1 c2 c3 c4 c5 c6 c7 c8 c9 c10 d0 d1
    exact f290_t27 K a0 a1 a2 c0 c1 c2 c3 c4 c5 c6 c7 c8 c9 c10 d0 d1 K d0 d1
  exact (key (realL (f290E K) 1) L x.1 x.2.1 x.2.2.1 x.2.2.2).trans (by rw [h27] <;> rfl)
theorem f290_t8 (K : Nat) (a0 : (List Int) × Int × Int) (a1 : Int) (a2 : Int × Int × Int) (y1 : Int) (y2 : tA × Int × Int) (y3 : tV × Int) (bq9 bq10 bq11 : Int) (bq12 : List tM) : ∀ (n : Nat) (q9 q10 q11 : Int) (q12 : List tM), loopN (exec (f290E K) 1 (selC f290C [1, 1, 1, 1, 0, 1, 0, 1, 0, 1, 0, 0])) 1 (f290_fr8 a0 a1 a2 y1 y2 y3 bq9 bq10 bq11 bq12) n (f290_fr8 a0 a1 a2 y1 y2 y3 q9 q10 q11 q12) (f290_k8 K a0 a1 a2 (realL (f290E K) 1)) = f290_l8 K a0 a1 a2 y1 y2 y3 n q9 q10 q11 q12 := by
  have key : ∀ (lr : LR (tV × Int × tL × List Int)) (L : Fr → Option (tV × Int × tL × List Int)) (q9 q10 q11 : Int) (q12 : List tM), execG (f290E K) 1 lr (selC f290C [1, 1, 1, 1, 0, 1, 0, 1, 0, 1, 0, 0]) (f290_fr8 a0 a1 a2 y1 y2 y3 q9 q10 q11 q12) (loopK 1 (f290_fr8 a0 a1 a2 y1 y2 y3 bq9 bq10 bq11 bq12) L (f290_k8 K a0 a1 a2 lr)) = f290_b8 K a0 a1 a2 y1 y2 y3 (fun c0 c1 c2 c3 c4 c5 c6 d0 d1 d2 d3 => lr (selC f290C [1, 1, 1, 1, 1, 1, 1, 1, 0, 1, 0, 0]) (f290_fr20 a0 a1 a2 c0 c1 c2 c3 c4 c5 c6 d0 d1 d2 d3) (f290_k20 K a0 a1 a2 lr)) (fun v0 v1 v2 v3 => L (f290_fr8 a0 a1 a2 y1 y2 y3 v0 v1 v2 v3)) q9 q10 q11 q12 := by
    intro lr L q9 q10 q11 q12; kernel_rfl
  intro n q9 q10 q11 q12
  refine loopN_iter (X := Int × Int × Int × List tM) (frame := fun x => (f290_fr8 a0 a1 a2 y1 y2 y3 x.1 x.2.1 x.2.2.1 x.2.2.2)) (body := (fun L x => (fun L8 => f290_b8 K a0 a1 a2 y1 y2 y3 (fun c0 c1 c2 c3 c4 c5 c6 d0 d1 d2 d3 => f290_l20 K a0 a1 a2 c0 c1 c2 c3 c4 c5 c6 K d0 d1 d2 d3) L8 x.1 x.2.1 x.2.2.1 x.2.2.2) (fun v0 v1 v2 v3 => L (v0, v1, v2, v3)))) (fun L x => ?_) n (q9, q10, q11, q12)
  rw [exec_G]
  have h20 : (fun c0 c1 c2 c3 c4 c5 c6 d0 d1 d2 d3 => (realL (f290E K) 1) (selC f290C [1, 1, 1, 1, 1, 1, 1, 1, 0, 1, 0, 0]) (f290_fr20 a0 a1 a2 c0 c1 c2 c3 c4 c5 c6 d0 d1 d2 d3) (f290_k20 K a0 a1 a2 (realL (f290E K) 1))) = fun c0 c1 c2 c3 c4 c5 c6 d0 d1 d2 d3 => f290_l20 K a0 a1 a2 c0 c1 c2 c3 c4 c5 c6 K d0 d1 d2 d3 := by
    funext c0 c1 c2 c3 c4 c5 c6 d0 d1 d2 d3
    exact f290_t20 K a0 a1 a2 c0 c1 c2 c3 c4 c5 c6 d0 d1 d2 d3 K d0 d1 d2 d3
  exact (key (realL (f290E K) 1) L x.1 x.2.1 x.2.2.1 x.2.2.2).trans (by rw [h20] <;> rfl)
theorem f290_t46 (K : Nat) (a0 : (List Int) × Int × Int) (a1 : Int) (a2 : Int × Int × Int) (q39 q40 q41 : Int) (q42 q43 : List Int) (y1 : Int) (y2 : tA × Int × Int) (y3 : tV × Int) (y30 : List Int) (y31 : tV × Int) (bq47 : Int) (bq48 : List Int) : ∀ (n : Nat) (q47 : Int) (q48 : List Int), loopN (exec (f290E K) 1 (selC f290C [1, 1, 1, 1, 1, 1, 1, 1, 1, 0, 1, 0, 0])) 1 (f290_fr46 a0 a1 a2 q39 q40 q41 q42 q43 y1 y2 y3 y30 y31 bq47 bq48) n (f290_fr46 a0 a1 a2 q39 q40 q41 q42 q43 y1 y2 y3 y30 y31 q47 q48) (f290_k46 K a0 a1 a2 (realL (f290E K) 1)) = f290_l46 K a0 a1 a2 q39 q40 q41 q42 q43 y1 y2 y3 y30 y31 n q47 q48 := by
  have key : ∀ (lr : LR (tV × Int × tL × List Int)) (L : Fr → Option (tV × Int × tL × List Int)) (q47 : Int) (q48 : List Int), execG (f290E K) 1 lr (selC f290C [1, 1, 1, 1, 1, 1, 1, 1, 1, 0, 1, 0, 0]) (f290_fr46 a0 a1 a2 q39 q40 q41 q42 q43 y1 y2 y3 y30 y31 q47 q48) (loopK 1 (f290_fr46 a0 a1 a2 q39 q40 q41 q42 q43 y1 y2 y3 y30 y31 bq47 bq48) L (f290_k46 K a0 a1 a2 lr)) = f290_b46 K a0 a1 a2 q39 q40 q41 q42 q43 y1 y2 y3 y30 y31 (fun v0 v1 => L (f290_fr46 a0 a1 a2 q39 q40 q41 q42 q43 y1 y2 y3 y30 y31 v0 v1)) q47 q48 := by
    intro lr L q47 q48; kernel_rfl
  intro n q47 q48
  refine loopN_iter (X := Int × List Int) (frame := fun x => (f290_fr46 a0 a1 a2 q39 q40 q41 q42 q43 y1 y2 y3 y30 y31 x.1 x.2)) (body := (fun L x => (fun L46 => f290_b46 K a0 a1 a2 q39 q40 q41 q42 q43 y1 y2 y3 y30 y31 L46 x.1 x.2) (fun v0 v1 => L (v0, v1)))) (fun L x => ?_) n (q47, q48)
  rw [exec_G]
  exact (key (realL (f290E K) 1) L x.1 x.2).trans (by rfl)
theorem f290_t38 (K : Nat) (a0 : (List Int) × Int × Int) (a1 : Int) (a2 : Int × Int × Int) (y1 : Int) (y2 : tA × Int × Int) (y3 : tV × Int) (y30 : List Int) (y31 : tV × Int) (bq39 bq40 bq41 : Int) (bq42 bq43 : List Int) : ∀ (n : Nat) (q39 q40 q41 : Int) (q42 q43 : List Int), loopN (exec (f290E K) 1 (selC f290C [1, 1, 1, 1, 1, 1, 1, 1, 0, 1, 0, 0])) 1 (f290_fr38 a0 a1 a2 y1 y2 y3 y30 y31 bq39 bq40 bq41 bq42 bq43) n (f290_fr38 a0 a1 a2 y1 y2 y3 y30 y31 q39 q40 q41 q42 q43) (f290_k38 K a0 a1 a2 (realL (f290E K) 1)) = f290_l38 K a0 a1 a2 y1 y2 y3 y30 y31 n q39 q40 q41 q42 q43 := by
  have key : ∀ (lr : LR (tV × Int × tL × List Int)) (L : Fr → Option (tV × Int × tL × List Int)) (q39 q40 q41 : Int) (q42 q43 : List Int), execG (f290E K) 1 lr (selC f290C [1, 1, 1, 1, 1, 1, 1, 1, 0, 1, 0, 0]) (f290_fr38 a0 a1 a2 y1 y2 y3 y30 y31 q39 q40 q41 q42 q43) (loopK 1 (f290_fr38 a0 a1 a2 y1 y2 y3 y30 y31 bq39 bq40 bq41 bq42 bq43) L (f290_k38 K a0 a1 a2 lr)) = f290_b38 K a0 a1 a2 y1 y2 y3 y30 y31 (fun c0 c1 c2 c3 c4 c5 c6 c7 c8 c9 d0 d1 => lr (selC f290C [1, 1, 1, 1, 1, 1, 1, 1, 1, 0, 1, 0, 0]) (f290_fr46 a0 a1 a2 c0 c1 c2 c3 c4 c5 c6 c7 c8 c9 d0 d1) (f290_k46 K a0 a1 a2 lr)) (fun v0 v1 v2 v3 v4 => L (f290_fr38 a0 a1 a2 y1 y2 y3 y30 y31 v0 v1 v2 v3 v4)) q39 q40 q41 q42 q43 := by
    intro lr L q39 q40 q41 q42 q43; kernel_rfl
  intro n q39 q40 q41 q42 q43
  refine loopN_iter (X := Int × Int × Int × List Int × List Int) (frame := fun x => (f290_fr38 a0 a1 a2 y1 y2 y3 y30 y31 x.1 x.2.1 x.2.2.1 x.2.2.2.1 x.2.2.2.2)) (body := (fun L x => (fun L38 => f290_b38 K a0 a1 a2 y1 y2 y3 y30 y31 (fun c0 c1 c2 c3 c4 c5 c6 c7 c8 c9 d0 d1 => f290_l46 K a0 a1 a2 c0 c1 c2 c3 c4 c5 c6 c7 c8 c9 K d0 d1) L38 x.1 x.2.1 x.2.2.1 x.2.2.2.1 x.2.2.2.2) (fun v0 v1 v2 v3 v4 => L (v0, v1, v2, v3, v4)))) (fun L x => ?_) n (q39, q40, q41, q42, q43)
  rw [exec_G]
  have h46 : (fun c0 c1 c2 c3 c4 c5 c6 c7 c8 c9 d0 d1 => (realL (f290E K) 1) (selC f290C [1, 1, 1, 1, 1, 1, 1, 1, 1, 0, 1, 0, 0]) (f290_fr46 a0 a1 a2 c0 c1 c2 c3 c4 c5 c6 c7 c8 c9 d0 d1) (f290_k46 K a0 a1 a2 (realL (f290E K) 1))) = fun c0 c1 c2 c3 c4 c5 c6 c7 c8 c9 d0 d1 => f290_l46 K a0 a1 a2 c0 c1 c2 c3 c4 c5 c6 c7 c8 c9 K d0 d1 := by
    funext c0 c1 c2 c3 c4 c5 c6 c7 c8 c9 d0 d1
    exact f290_t46 K a0 a1 a2 c0 c1 c2 c3 c4 c5 c6 c7 c8 c9 d0 d1 K d0 d1
  exact (key (realL (f290E K) 1) L x.1 x.2.1 x.2.2.1 x.2.2.2.1 x.2.2.2.2).trans (by rw [h46] <;> rfl)
theorem f290_run (K : Nat) (a0 : (List Int) × Int × Int) (a1 : Int) (a2 : Int × Int × Int) : runP (f290E K) Tryz.f290 5 (.int .u8) sV [(.ro, sI), (.ro, sL)] [(.cons sI (.cons sL (.list 2 sI)))] (a0, a1, a2, ()) = f290G K a0 a1 a2 := by
  have key : ∀ (lr : LR (tV × Int × tL × List Int)), runPG (f290E K) Tryz.f290 5 (.int .u8) sV [(.ro, sI), (.ro, sL)] [(.cons sI (.cons sL (.list 2 sI)))] (a0, a1, a2, ()) lr = f290_g K a0 a1 a2 (fun c0 c1 c2 d0 d1 d2 d3 => lr (selC f290C [1, 1, 1, 1, 0, 1, 0, 1, 0, 1, 0, 0]) (f290_fr8 a0 a1 a2 c0 c1 c2 d0 d1 d2 d3) (f290_k8 K a0 a1 a2 lr)) (fun c0 c1 c2 c3 c4 d0 d1 d2 d3 d4 => lr (selC f290C [1, 1, 1, 1, 1, 1, 1, 1, 0, 1, 0, 0]) (f290_fr38 a0 a1 a2 c0 c1 c2 c3 c4 d0 d1 d2 d3 d4) (f290_k38 K a0 a1 a2 lr)) := by intro lr; kernel_rfl
  have h8 : (fun c0 c1 c2 d0 d1 d2 d3 => (realL (f290E K) 1) (selC f290C [1, 1, 1, 1, 0, 1, 0, 1, 0, 1, 0, 0]) (f290_fr8 a0 a1 a2 c0 c1 c2 d0 d1 d2 d3) (f290_k8 K a0 a1 a2 (realL (f290E K) 1))) = fun c0 c1 c2 d0 d1 d2 d3 => f290_l8 K a0 a1 a2 c0 c1 c2 K d0 d1 d2 d3 := by
    funext c0 c1 c2 d0 d1 d2 d3
    exact f290_t8 K a0 a1 a2 c0 c1 c2 d0 d1 d2 d3 K d0 d1 d2 d3
  have h38 : (fun c0 c1 c2 c3 c4 d0 d1 d2 d3 d4 => (realL (f290E K) 1) (selC f290C [1, 1, 1, 1, 1, 1, 1, 1, 0, 1, 0, 0]) (f290_fr38 a0 a1 a2 c0 c1 c2 c3 c4 d0 d1 d2 d3 d4) (f290_k38 K a0 a1 a2 (realL (f290E K) 1))) = fun c0 c1 c2 c3 c4 d0 d1 d2 d3 d4 => f290_l38 K a0 a1 a2 c0 c1 c2 c3 c4 K d0 d1 d2 d3 d4 := by
    funext c0 c1 c2 c3 c4 d0 d1 d2 d3 d4
    exact f290_t38 K a0 a1 a2 c0 c1 c2 c3 c4 d0 d1 d2 d3 d4 K d0 d1 d2 d3 d4
  exact runP_G (n0 := 1) (by rfl) ((key (realL (f290E K) 1)).trans (by rw [h8, h38] <;> rfl))
theorem f195_run (K : Nat) (a0 : (List Int) × Int × Int) : runP (f195E K) Tryz.f195 5 (.int .u8) sV [] [(.cons sI (.cons sL (.list 2 sI)))] (a0, ()) = f195G K a0 := by kernel_rfl
theorem f73_run (K : Nat) (a0 : List Int) : runF (f73E K) Tryz.f73 [(.ro, (.list 5 (.int .u8)))] [.str, sI, (.cons sI (.cons sL (.list 2 sI)))] (a0, ()) = f73G K a0 := by kernel_rfl
theorem f248_run (K : Nat) (a0 : Int) : runF (f248E K) Tryz.f248 [(.ro, sI)] [.bool] (a0, ()) = f248G K a0 := by kernel_rfl
theorem f249_run (K : Nat) (a0 : Int × Int × Int) : runF (f249E K) Tryz.f249 [(.ro, sL)] [.bool] (a0, ()) = f249G K a0 := by kernel_rfl
theorem f323_run (K : Nat) (a0 a1 a2 : Int) : runF (f323E K) Tryz.f323 [(.ro, sI), (.cap, sI), (.cap, sI)] [.bool] (a0, a1, a2, ()) = f323G K a0 a1 a2 := by kernel_rfl
theorem f368_t3 (K : Nat) (a0 : List Int) (a1 : (Int → Option Bool)) (bq4 : Int) : ∀ (n : Nat) (q4 : Int), loopN (exec (f368E K) 1 (selC f368C [1, 0, 1, 0, 0])) 1 (f368_fr3 a0 a1 bq4) n (f368_fr3 a0 a1 q4) (f368_k3 K a0 a1 (realL (f368E K) 1)) = f368_l3 K a0 a1 n q4 := by
  have key : ∀ (lr : LR Int) (L : Fr → Option Int) (q4 : Int), execG (f368E K) 1 lr (selC f368C [1, 0, 1, 0, 0]) (f368_fr3 a0 a1 q4) (loopK 1 (f368_fr3 a0 a1 bq4) L (f368_k3 K a0 a1 lr)) = f368_b3 K a0 a1 (fun v0 => L (f368_fr3 a0 a1 v0)) q4 := by
    intro lr L q4; kernel_rfl
  intro n q4
  refine loopN_iter (X := Int) (frame := fun x => (f368_fr3 a0 a1 x)) (body := (fun L x => (fun L3 => f368_b3 K a0 a1 L3 x) (fun v0 => L v0))) (fun L x => ?_) n q4
  rw [exec_G]
  exact (key (realL (f368E K) 1) L x).trans (by rfl)
theorem f368_run (K : Nat) (a0 : List Int) (a1 : (Int → Option Bool)) : runF (f368E K) Tryz.f368 [(.ro, (.list 2 sI)), (.ro, (.fn1 sI .bool))] [sI] (a0, a1, ()) = f368G K a0 a1 := by
  have key : ∀ (lr : LR Int), runG (f368E K) Tryz.f368 [(.ro, (.list 2 sI)), (.ro, (.fn1 sI .bool))] [sI] (a0, a1, ()) lr = f368_g K a0 a1 (fun d0 => lr (selC f368C [1, 0, 1, 0, 0]) (f368_fr3 a0 a1 d0) (f368_k3 K a0 a1 lr)) := by intro lr; kernel_rfl
  have h3 : (fun d0 => (realL (f368E K) 1) (selC f368C [1, 0, 1, 0, 0]) (f368_fr3 a0 a1 d0) (f368_k3 K a0 a1 (realL (f368E K) 1))) = fun d0 => f368_l3 K a0 a1 K d0 := by
    funext d0
    exact f368_t3 K a0 a1 d0 K d0
  exact runF_G (n0 := 1) (by rfl) ((key (realL (f368E K) 1)).trans (by rw [h3] <;> rfl))
theorem f322_run (K : Nat) (a0 : List Int) (a1 : (Int → Option Bool)) : runF (f322E K) Tryz.f322 [(.ro, (.list 2 sI)), (.ro, (.fn1 sI .bool))] [.bool] (a0, a1, ()) = f322G K a0 a1 := by kernel_rfl
theorem f250_run (K : Nat) (a0 : List Int) (a1 a2 : Int) : runF (f250E K) Tryz.f250 [(.ro, (.list 2 sI)), (.ro, sI), (.ro, sI)] [.bool] (a0, a1, a2, ()) = f250G K a0 a1 a2 := by kernel_rfl
theorem f138_run (K : Nat) (a0 : Int × tL × List Int) : runF (f138E K) Tryz.f138 [(.ro, (.cons sI (.cons sL (.list 2 sI))))] [.bool] (a0, ()) = f138G K a0 := by kernel_rfl
theorem f140_run (K : Nat) (a0 : Int × tL × List Int) (a1 : Int × Int) : runF (f140E K) Tryz.f140 [(.ro, (.cons sI (.cons sL (.list 2 sI)))), (.ro, sV)] [sI] (a0, a1, ()) = f140G K a0 a1 := by kernel_rfl
theorem f251_t5 (K : Nat) (a0 : Int × tL × List Int) (a1 : tA × Int × Int) (y1 : List tV) (bq6 : Int) : ∀ (n : Nat) (q6 : Int), loopN (exec (f251E K) 1 (selC f251C [1, 0, 1, 0, 0])) 1 (f251_fr5 a0 a1 y1 bq6) n (f251_fr5 a0 a1 y1 q6) (f251_k5 K a0 a1 (realL (f251E K) 1)) = f251_l5 K a0 a1 y1 n q6 := by
  have key : ∀ (lr : LR Bool) (L : Fr → Option Bool) (q6 : Int), execG (f251E K) 1 lr (selC f251C [1, 0, 1, 0, 0]) (f251_fr5 a0 a1 y1 q6) (loopK 1 (f251_fr5 a0 a1 y1 bq6) L (f251_k5 K a0 a1 lr)) = f251_b5 K a0 a1 y1 (fun v0 => L (f251_fr5 a0 a1 y1 v0)) q6 := by
    intro lr L q6; kernel_rfl
  intro n q6
  refine loopN_iter (X := Int) (frame := fun x => (f251_fr5 a0 a1 y1 x)) (body := (fun L x => (fun L5 => f251_b5 K a0 a1 y1 L5 x) (fun v0 => L v0))) (fun L x => ?_) n q6
  rw [exec_G]
  exact (key (realL (f251E K) 1) L x).trans (by rfl)
theorem f251_run (K : Nat) (a0 : Int × tL × List Int) (a1 : tA × Int × Int) : runF (f251E K) Tryz.f251 [(.ro, (.cons sI (.cons sL (.list 2 sI)))), (.ro, sM)] [.bool] (a0, a1, ()) = f251G K a0 a1 := by
  have key : ∀ (lr : LR Bool), runG (f251E K) Tryz.f251 [(.ro, (.cons sI (.cons sL (.list 2 sI)))), (.ro, sM)] [.bool] (a0, a1, ()) lr = f251_g K a0 a1 (fun c0 d0 => lr (selC f251C [1, 0, 1, 0, 0]) (f251_fr5 a0 a1 c0 d0) (f251_k5 K a0 a1 lr)) := by intro lr; kernel_rfl
  have h5 : (fun c0 d0 => (realL (f251E K) 1) (selC f251C [1, 0, 1, 0, 0]) (f251_fr5 a0 a1 c0 d0) (f251_k5 K a0 a1 (realL (f251E K) 1))) = fun c0 d0 => f251_l5 K a0 a1 c0 K d0 := by
    funext c0 d0
    exact f251_t5 K a0 a1 c0 d0 K d0
  exact runF_G (n0 := 1) (by rfl) ((key (realL (f251E K) 1)).trans (by rw [h5] <;> rfl))
theorem f139_t3 (K : Nat) (a0 : Int × tL × List Int) (a1 : List tM) (bq4 : Int) : ∀ (n : Nat) (q4 : Int), loopN (exec (f139E K) 2 (selC f139C [1, 0, 1, 0, 0])) 2 (f139_fr3 a0 a1 bq4) n (f139_fr3 a0 a1 q4) (f139_k3 K a0 a1 (realL (f139E K) 2)) = f139_l3 K a0 a1 n q4 := by
  have key : ∀ (lr : LR Bool) (L : Fr → Option Bool) (q4 : Int), execG (f139E K) 2 lr (selC f139C [1, 0, 1, 0, 0]) (f139_fr3 a0 a1 q4) (loopK 2 (f139_fr3 a0 a1 bq4) L (f139_k3 K a0 a1 lr)) = f139_b3 K a0 a1 (fun v0 => L (f139_fr3 a0 a1 v0)) q4 := by
    intro lr L q4; kernel_rfl
  intro n q4
  refine loopN_iter (X := Int) (frame := fun x => (f139_fr3 a0 a1 x)) (body := (fun L x => (fun L3 => f139_b3 K a0 a1 L3 x) (fun v0 => L v0))) (fun L x => ?_) n q4
  rw [exec_G]
  exact (key (realL (f139E K) 2) L x).trans (by rfl)
theorem f139_run (K : Nat) (a0 : Int × tL × List Int) (a1 : List tM) : runF (f139E K) Tryz.f139 [(.ro, (.cons sI (.cons sL (.list 2 sI)))), (.ro, (.list 95 sM))] [.bool] (a0, a1, ()) = f139G K a0 a1 := by
  have key : ∀ (lr : LR Bool), runG (f139E K) Tryz.f139 [(.ro, (.cons sI (.cons sL (.list 2 sI)))), (.ro, (.list 95 sM))] [.bool] (a0, a1, ()) lr = f139_g K a0 a1 (fun d0 => lr (selC f139C [1, 0, 1, 0, 0]) (f139_fr3 a0 a1 d0) (f139_k3 K a0 a1 lr)) := by intro lr; kernel_rfl
  have h3 : (fun d0 => (realL (f139E K) 2) (selC f139C [1, 0, 1, 0, 0]) (f139_fr3 a0 a1 d0) (f139_k3 K a0 a1 (realL (f139E K) 2))) = fun d0 => f139_l3 K a0 a1 K d0 := by
    funext d0
    exact f139_t3 K a0 a1 d0 K d0
  exact runF_G (n0 := 2) (by rfl) ((key (realL (f139E K) 2)).trans (by rw [h3] <;> rfl))
theorem f32_t7 (K : Nat) (a0 : ByteArray) (a1 : Int) (a2 : Int × tL × List Int) (y1 : Int × tL × (List tM) × Int) (y2 y3 : Bool) (y4 : (List (List tV)) × List Int) (bq8 : Int) (bq9 : List (tV × Int)) : ∀ (n : Nat) (q8 : Int) (q9 : List (tV × Int)), loopN (exec (f32E K) 1 (selC f32C [1, 1, 1, 1, 1, 1, 1, 1, 0, 1, 0, 0])) 1 (f32_fr7 a0 a1 a2 y1 y2 y3 y4 bq8 bq9) n (f32_fr7 a0 a1 a2 y1 y2 y3 y4 q8 q9) (f32_k7 K a0 a1 a2 (realL (f32E K) 1)) = f32_l7 K a0 a1 a2 y1 y2 y3 y4 n q8 q9 := by
  have key : ∀ (lr : LR ((List (tV × Int)) × Int)) (L : Fr → Option ((List (tV × Int)) × Int)) (q8 : Int) (q9 : List (tV × Int)), execG (f32E K) 1 lr (selC f32C [1, 1, 1, 1, 1, 1, 1, 1, 0, 1, 0, 0]) (f32_fr7 a0 a1 a2 y1 y2 y3 y4 q8 q9) (loopK 1 (f32_fr7 a0 a1 a2 y1 y2 y3 y4 bq8 bq9) L (f32_k7 K a0 a1 a2 lr)) = f32_b7 K a0 a1 a2 y1 y2 y3 y4 (fun v0 v1 => L (f32_fr7 a0 a1 a2 y1 y2 y3 y4 v0 v1)) q8 q9 := by
    intro lr L q8 q9; kernel_rfl
  intro n q8 q9
  refine loopN_iter (X := Int × List (tV × Int)) (frame := fun x => (f32_fr7 a0 a1 a2 y1 y2 y3 y4 x.1 x.2)) (body := (fun L x => (fun L7 => f32_b7 K a0 a1 a2 y1 y2 y3 y4 L7 x.1 x.2) (fun v0 v1 => L (v0, v1)))) (fun L x => ?_) n (q8, q9)
  rw [exec_G]
  exact (key (realL (f32E K) 1) L x.1 x.2).trans (by rfl)
theorem f32_run (K : Nat) (a0 : ByteArray) (a1 : Int) (a2 : Int × tL × List Int) : runF (f32E K) Tryz.f32 [(.ro, .str), (.ro, sI), (.ro, (.cons sI (.cons sL (.list 2 sI))))] [(.list 149 (.cons sV sI)), sI] (a0, a1, a2, ()) = f32G K a0 a1 a2 := by
  have key : ∀ (lr : LR ((List (tV × Int)) × Int)), runG (f32E K) Tryz.f32 [(.ro, .str), (.ro, sI), (.ro, (.cons sI (.cons sL (.list 2 sI))))] [(.list 149 (.cons sV sI)), sI] (a0, a1, a2, ()) lr = f32_g K a0 a1 a2 (fun c0 c1 c2 c3 d0 d1 => lr (selC f32C [1, 1, 1, 1, 1, 1, 1, 1, 0, 1, 0, 0]) (f32_fr7 a0 a1 a2 c0 c1 c2 c3 d0 d1) (f32_k7 K a0 a1 a2 lr)) := by intro lr; kernel_rfl
  have h7 : (fun c0 c1 c2 c3 d0 d1 => (realL (f32E K) 1) (selC f32C [1, 1, 1, 1, 1, 1, 1, 1, 0, 1, 0, 0]) (f32_fr7 a0 a1 a2 c0 c1 c2 c3 d0 d1) (f32_k7 K a0 a1 a2 (realL (f32E K) 1))) = fun c0 c1 c2 c3 d0 d1 => f32_l7 K a0 a1 a2 c0 c1 c2 c3 K d0 d1 := by
    funext c0 c1 c2 c3 d0 d1
    exact f32_t7 K a0 a1 a2 c0 c1 c2 c3 d0 d1 K d0 d1
  exact runF_G (n0 := 1) (by rfl) ((key (realL (f32E K) 1)).trans (by rw [h7] <;> rfl))
theorem f245_t3 (K : Nat) (a0 : List Int) (a1 a2 a3 bq4 : Int) : ∀ (n : Nat) (q4 : Int), loopN (exec (f245E K) 1 (selC f245C [1, 0, 1, 0, 0])) 1 (f245_fr3 a0 a1 a2 a3 bq4) n (f245_fr3 a0 a1 a2 a3 q4) (f245_k3 K a0 a1 a2 a3 (realL (f245E K) 1)) = f245_l3 K a0 a1 a2 a3 n q4 := by
  have key : ∀ (lr : LR Bool) (L : Fr → Option Bool) (q4 : Int), execG (f245E K) 1 lr (selC f245C [1, 0, 1, 0, 0]) (f245_fr3 a0 a1 a2 a3 q4) (loopK 1 (f245_fr3 a0 a1 a2 a3 bq4) L (f245_k3 K a0 a1 a2 a3 lr)) = f245_b3 K a0 a1 a2 a3 (fun v0 => L (f245_fr3 a0 a1 a2 a3 v0)) q4 := by
    intro lr L q4; kernel_rfl
  intro n q4
  refine loopN_iter (X := Int) (frame := fun x => (f245_fr3 a0 a1 a2 a3 x)) (body := (fun L x => (fun L3 => f245_b3 K a0 a1 a2 a3 L3 x) (fun v0 => L v0))) (fun L x => ?_) n q4
  rw [exec_G]
  exact (key (realL (f245E K) 1) L x).trans (by rfl)
theorem f245_run (K : Nat) (a0 : List Int) (a1 a2 a3 : Int) : runF (f245E K) Tryz.f245 [(.ro, (.list 2 sI)), (.ro, sI), (.ro, sI), (.ro, sI)] [.bool] (a0, a1, a2, a3, ()) = f245G K a0 a1 a2 a3 := by
  have key : ∀ (lr : LR Bool), runG (f245E K) Tryz.f245 [(.ro, (.list 2 sI)), (.ro, sI), (.ro, sI), (.ro, sI)] [.bool] (a0, a1, a2, a3, ()) lr = f245_g K a0 a1 a2 a3 (fun d0 => lr (selC f245C [1, 0, 1, 0, 0]) (f245_fr3 a0 a1 a2 a3 d0) (f245_k3 K a0 a1 a2 a3 lr)) := by intro lr; kernel_rfl
  have h3 : (fun d0 => (realL (f245E K) 1) (selC f245C [1, 0, 1, 0, 0]) (f245_fr3 a0 a1 a2 a3 d0) (f245_k3 K a0 a1 a2 a3 (realL (f245E K) 1))) = fun d0 => f245_l3 K a0 a1 a2 a3 K d0 := by
    funext d0
    exact f245_t3 K a0 a1 a2 a3 d0 K d0
  exact runF_G (n0 := 1) (by rfl) ((key (realL (f245E K) 1)).trans (by rw [h3] <;> rfl))
theorem f133_run (K : Nat) (a0 : Int × tL × List Int) : runF (f133E K) Tryz.f133 [(.ro, (.cons sI (.cons sL (.list 2 sI))))] [.bool] (a0, ()) = f133G K a0 := by kernel_rfl
theorem f136_run (K : Nat) (a0 : Int × tL × List Int) (a1 : Int × Int) : runF (f136E K) Tryz.f136 [(.ro, (.cons sI (.cons sL (.list 2 sI)))), (.ro, sV)] [sI] (a0, a1, ()) = f136G K a0 a1 := by kernel_rfl
theorem f246_t6 (K : Nat) (a0 : Int × tL × List Int) (a1 : tA × Int × Int) (y1 : List tV) (bq7 : Int) : ∀ (n : Nat) (q7 : Int), loopN (exec (f246E K) 1 (selC f246C [1, 1, 0, 1, 0, 0])) 1 (f246_fr6 a0 a1 y1 bq7) n (f246_fr6 a0 a1 y1 q7) (f246_k6 K a0 a1 (realL (f246E K) 1)) = f246_l6 K a0 a1 y1 n q7 := by
  have key : ∀ (lr : LR Bool) (L : Fr → Option Bool) (q7 : Int), execG (f246E K) 1 lr (selC f246C [1, 1, 0, 1, 0, 0]) (f246_fr6 a0 a1 y1 q7) (loopK 1 (f246_fr6 a0 a1 y1 bq7) L (f246_k6 K a0 a1 lr)) = f246_b6 K a0 a1 y1 (fun v0 => L (f246_fr6 a0 a1 y1 v0)) q7 := by
    intro lr L q7; kernel_rfl
  intro n q7
  refine loopN_iter (X := Int) (frame := fun x => (f246_fr6 a0 a1 y1 x)) (body := (fun L x => (fun L6 => f246_b6 K a0 a1 y1 L6 x) (fun v0 => L v0))) (fun L x => ?_) n q7
  rw [exec_G]
  exact (key (realL (f246E K) 1) L x).trans (by rfl)
theorem f246_run (K : Nat) (a0 : Int × tL × List Int) (a1 : tA × Int × Int) : runF (f246E K) Tryz.f246 [(.ro, (.cons sI (.cons sL (.list 2 sI)))), (.ro, sM)] [.bool] (a0, a1, ()) = f246G K a0 a1 := by
  have key : ∀ (lr : LR Bool), runG (f246E K) Tryz.f246 [(.ro, (.cons sI (.cons sL (.list 2 sI)))), (.ro, sM)] [.bool] (a0, a1, ()) lr = f246_g K a0 a1 (fun c0 d0 => lr (selC f246C [1, 1, 0, 1, 0, 0]) (f246_fr6 a0 a1 c0 d0) (f246_k6 K a0 a1 lr)) := by intro lr; kernel_rfl
  have h6 : (fun c0 d0 => (realL (f246E K) 1) (selC f246C [1, 1, 0, 1, 0, 0]) (f246_fr6 a0 a1 c0 d0) (f246_k6 K a0 a1 (realL (f246E K) 1))) = fun c0 d0 => f246_l6 K a0 a1 c0 K d0 := by
    funext c0 d0
    exact f246_t6 K a0 a1 c0 d0 K d0
  exact runF_G (n0 := 1) (by rfl) ((key (realL (f246E K) 1)).trans (by rw [h6] <;> rfl))
theorem f134_t3 (K : Nat) (a0 : Int × tL × List Int) (a1 : List tM) (bq4 : Int) : ∀ (n : Nat) (q4 : Int), loopN (exec (f134E K) 2 (selC f134C [1, 0, 1, 0, 0])) 2 (f134_fr3 a0 a1 bq4) n (f134_fr3 a0 a1 q4) (f134_k3 K a0 a1 (realL (f134E K) 2)) = f134_l3 K a0 a1 n q4 := by
  have key : ∀ (lr : LR Bool) (L : Fr → Option Bool) (q4 : Int), execG (f134E K) 2 lr (selC f134C [1, 0, 1, 0, 0]) (f134_fr3 a0 a1 q4) (loopK 2 (f134_fr3 a0 a1 bq4) L (f134_k3 K a0 a1 lr)) = f134_b3 K a0 a1 (fun v0 => L (f134_fr3 a0 a1 v0)) q4 := by
    intro lr L q4; kernel_rfl
  intro n q4
  refine loopN_iter (X := Int) (frame := fun x => (f134_fr3 a0 a1 x)) (body := (fun L x => (fun L3 => f134_b3 K a0 a1 L3 x) (fun v0 => L v0))) (fun L x => ?_) n q4
  rw [exec_G]
  exact (key (realL (f134E K) 2) L x).trans (by rfl)
theorem f134_run (K : Nat) (a0 : Int × tL × List Int) (a1 : List tM) : runF (f134E K) Tryz.f134 [(.ro, (.cons sI (.cons sL (.list 2 sI)))), (.ro, (.list 95 sM))] [.bool] (a0, a1, ()) = f134G K a0 a1 := by
  have key : ∀ (lr : LR Bool), runG (f134E K) Tryz.f134 [(.ro, (.cons sI (.cons sL (.list 2 sI)))), (.ro, (.list 95 sM))] [.bool] (a0, a1, ()) lr = f134_g K a0 a1 (fun d0 => lr (selC f134C [1, 0, 1, 0, 0]) (f134_fr3 a0 a1 d0) (f134_k3 K a0 a1 lr)) := by intro lr; kernel_rfl
  have h3 : (fun d0 => (realL (f134E K) 2) (selC f134C [1, 0, 1, 0, 0]) (f134_fr3 a0 a1 d0) (f134_k3 K a0 a1 (realL (f134E K) 2))) = fun d0 => f134_l3 K a0 a1 K d0 := by
    funext d0
    exact f134_t3 K a0 a1 d0 K d0
  exact runF_G (n0 := 2) (by rfl) ((key (realL (f134E K) 2)).trans (by rw [h3] <;> rfl))
theorem f30_t8 (K : Nat) (a0 : ByteArray) (a1 : Int) (a2 : Int × tL × List Int) (y1 : Int × tL × (List tM) × Int) (y2 y3 y4 : Bool) (y5 : List (List tV)) (bq9 : Int) (bq10 : List (tV × Int)) : ∀ (n : Nat) (q9 : Int) (q10 : List (tV × Int)), loopN (exec (f30E K) 1 (selC f30C [1, 1, 1, 1, 1, 0, 1, 0, 0])) 1 (f30_fr8 a0 a1 a2 y1 y2 y3 y4 y5 bq9 bq10) n (f30_fr8 a0 a1 a2 y1 y2 y3 y4 y5 q9 q10) (f30_k8 K a0 a1 a2 (realL (f30E K) 1)) = f30_l8 K a0 a1 a2 y1 y2 y3 y4 y5 n q9 q10 := by
  have key : ∀ (lr : LR ((List (tV × Int)) × Int)) (L : Fr → Option ((List (tV × Int)) × Int)) (q9 : Int) (q10 : List (tV × Int)), execG (f30E K) 1 lr (selC f30C [1, 1, 1, 1, 1, 0, 1, 0, 0]) (f30_fr8 a0 a1 a2 y1 y2 y3 y4 y5 q9 q10) (loopK 1 (f30_fr8 a0 a1 a2 y1 y2 y3 y4 y5 bq9 bq10) L (f30_k8 K a0 a1 a2 lr)) = f30_b8 K a0 a1 a2 y1 y2 y3 y4 y5 (fun v0 v1 => L (f30_fr8 a0 a1 a2 y1 y2 y3 y4 y5 v0 v1)) q9 q10 := by
    intro lr L q9 q10; kernel_rfl
  intro n q9 q10
  refine loopN_iter (X := Int × List (tV × Int)) (frame := fun x => (f30_fr8 a0 a1 a2 y1 y2 y3 y4 y5 x.1 x.2)) (body := (fun L x => (fun L8 => f30_b8 K a0 a1 a2 y1 y2 y3 y4 y5 L8 x.1 x.2) (fun v0 v1 => L (v0, v1)))) (fun L x => ?_) n (q9, q10)
  rw [exec_G]
  exact (key (realL (f30E K) 1) L x.1 x.2).trans (by rfl)
theorem f30_run (K : Nat) (a0 : ByteArray) (a1 : Int) (a2 : Int × tL × List Int) : runF (f30E K) Tryz.f30 [(.ro, .str), (.ro, sI), (.ro, (.cons sI (.cons sL (.list 2 sI))))] [(.list 149 (.cons sV sI)), sI] (a0, a1, a2, ()) = f30G K a0 a1 a2 := by
  have key : ∀ (lr : LR ((List (tV × Int)) × Int)), runG (f30E K) Tryz.f30 [(.ro, .str), (.ro, sI), (.ro, (.cons sI (.cons sL (.list 2 sI))))] [(.list 149 (.cons sV sI)), sI] (a0, a1, a2, ()) lr = f30_g K a0 a1 a2 (fun c0 c1 c2 c3 c4 d0 d1 => lr (selC f30C [1, 1, 1, 1, 1, 0, 1, 0, 0]) (f30_fr8 a0 a1 a2 c0 c1 c2 c3 c4 d0 d1) (f30_k8 K a0 a1 a2 lr)) := by intro lr; kernel_rfl
  have h8 : (fun c0 c1 c2 c3 c4 d0 d1 => (realL (f30E K) 1) (selC f30C [1, 1, 1, 1, 1, 0, 1, 0, 0]) (f30_fr8 a0 a1 a2 c0 c1 c2 c3 c4 d0 d1) (f30_k8 K a0 a1 a2 (realL (f30E K) 1))) = fun c0 c1 c2 c3 c4 d0 d1 => f30_l8 K a0 a1 a2 c0 c1 c2 c3 c4 K d0 d1 := by
    funext c0 c1 c2 c3 c4 d0 d1
    exact f30_t8 K a0 a1 a2 c0 c1 c2 c3 c4 d0 d1 K d0 d1
  exact runF_G (n0 := 1) (by rfl) ((key (realL (f30E K) 1)).trans (by rw [h8] <;> rfl))
theorem f74_run (K : Nat) (a0 : List Int) : runF (f74E K) Tryz.f74 [(.ro, (.list 5 (.int .u8)))] [.str, sI, (.list 149 (.cons sV sI)), (.list 149 (.cons sV sI))] (a0, ()) = f74G K a0 := by kernel_rfl
theorem f241_t2 (K : Nat) (a0 a1 : List Int) (bq3 : Int) : ∀ (n : Nat) (q3 : Int), loopN (exec (f241E K) 2 (selC f241C [1, 1, 0, 1, 0, 0])) 2 (f241_fr2 a0 a1 bq3) n (f241_fr2 a0 a1 q3) (f241_k2 K a0 a1 (realL (f241E K) 2)) = f241_l2 K a0 a1 n q3 := by
  have key : ∀ (lr : LR Bool) (L : Fr → Option Bool) (q3 : Int), execG (f241E K) 2 lr (selC f241C [1, 1, 0, 1, 0, 0]) (f241_fr2 a0 a1 q3) (loopK 2 (f241_fr2 a0 a1 bq3) L (f241_k2 K a0 a1 lr)) = f241_b2 K a0 a1 (fun v0 => L (f241_fr2 a0 a1 v0)) q3 := by
    intro lr L q3; kernel_rfl
  intro n q3
  refine loopN_iter (X := Int) (frame := fun x => (f241_fr2 a0 a1 x)) (body := (fun L x => (fun L2 => f241_b2 K a0 a1 L2 x) (fun v0 => L v0))) (fun L x => ?_) n q3
  rw [exec_G]
  exact (key (realL (f241E K) 2) L x).trans (by rfl)
theorem f241_run (K : Nat) (a0 a1 : List Int) : runF (f241E K) Tryz.f241 [(.ro, (.list 2 sI)), (.ro, (.list 2 sI))] [.bool] (a0, a1, ()) = f241G K a0 a1 := by
  have key : ∀ (lr : LR Bool), runG (f241E K) Tryz.f241 [(.ro, (.list 2 sI)), (.ro, (.list 2 sI))] [.bool] (a0, a1, ()) lr = f241_g K a0 a1 (fun d0 => lr (selC f241C [1, 1, 0, 1, 0, 0]) (f241_fr2 a0 a1 d0) (f241_k2 K a0 a1 lr)) := by intro lr; kernel_rfl
  have h2 : (fun d0 => (realL (f241E K) 2) (selC f241C [1, 1, 0, 1, 0, 0]) (f241_fr2 a0 a1 d0) (f241_k2 K a0 a1 (realL (f241E K) 2))) = fun d0 => f241_l2 K a0 a1 K d0 := by
    funext d0
    exact f241_t2 K a0 a1 d0 K d0
  exact runF_G (n0 := 2) (by rfl) ((key (realL (f241E K) 2)).trans (by rw [h2] <;> rfl))
theorem f119_run (K : Nat) (a0 a1 : Int × tL × List Int) : runF (f119E K) Tryz.f119 [(.ro, (.cons sI (.cons sL (.list 2 sI)))), (.ro, (.cons sI (.cons sL (.list 2 sI))))] [.bool] (a0, a1, ()) = f119G K a0 a1 := by kernel_rfl
theorem f18_run (K : Nat) (a0 : ByteArray) (a1 : Int) (a2 a3 : List (tV × Int)) : runF (f18E K) Tryz.f18 [(.ro, .str), (.ro, sI), (.ro, (.list 149 (.cons sV sI))), (.ro, (.list 149 (.cons sV sI)))] [.bool, sI] (a0, a1, a2, a3, ()) = f18G K a0 a1 a2 a3 := by kernel_rfl
theorem f239_t2 (K : Nat) (a0 a1 : List Int) (bq3 : Int) : ∀ (n : Nat) (q3 : Int), loopN (exec (f239E K) 2 (selC f239C [1, 1, 0, 1, 0, 0])) 2 (f239_fr2 a0 a1 bq3) n (f239_fr2 a0 a1 q3) (f239_k2 K a0 a1 (realL (f239E K) 2)) = f239_l2 K a0 a1 n q3 := by
  have key : ∀ (lr : LR Bool) (L : Fr → Option Bool) (q3 : Int), execG (f239E K) 2 lr (selC f239C [1, 1, 0, 1, 0, 0]) (f239_fr2 a0 a1 q3) (loopK 2 (f239_fr2 a0 a1 bq3) L (f239_k2 K a0 a1 lr)) = f239_b2 K a0 a1 (fun v0 => L (f239_fr2 a0 a1 v0)) q3 := by
    intro lr L q3; kernel_rfl
  intro n q3
  refine loopN_iter (X := Int) (frame := fun x => (f239_fr2 a0 a1 x)) (body := (fun L x => (fun L2 => f239_b2 K a0 a1 L2 x) (fun v0 => L v0))) (fun L x => ?_) n q3
  rw [exec_G]
  exact (key (realL (f239E K) 2) L x).trans (by rfl)
theorem f239_run (K : Nat) (a0 a1 : List Int) : runF (f239E K) Tryz.f239 [(.ro, (.list 2 sI)), (.ro, (.list 2 sI))] [.bool] (a0, a1, ()) = f239G K a0 a1 := by
  have key : ∀ (lr : LR Bool), runG (f239E K) Tryz.f239 [(.ro, (.list 2 sI)), (.ro, (.list 2 sI))] [.bool] (a0, a1, ()) lr = f239_g K a0 a1 (fun d0 => lr (selC f239C [1, 1, 0, 1, 0, 0]) (f239_fr2 a0 a1 d0) (f239_k2 K a0 a1 lr)) := by intro lr; kernel_rfl
  have h2 : (fun d0 => (realL (f239E K) 2) (selC f239C [1, 1, 0, 1, 0, 0]) (f239_fr2 a0 a1 d0) (f239_k2 K a0 a1 (realL (f239E K) 2))) = fun d0 => f239_l2 K a0 a1 K d0 := by
    funext d0
    exact f239_t2 K a0 a1 d0 K d0
  exact runF_G (n0 := 2) (by rfl) ((key (realL (f239E K) 2)).trans (by rw [h2] <;> rfl))
theorem f115_run (K : Nat) (a0 a1 : Int × tL × List Int) : runF (f115E K) Tryz.f115 [(.ro, (.cons sI (.cons sL (.list 2 sI)))), (.ro, (.cons sI (.cons sL (.list 2 sI))))] [.bool] (a0, a1, ()) = f115G K a0 a1 := by kernel_rfl
theorem f16_run (K : Nat) (a0 : ByteArray) (a1 : Int) (a2 a3 : List (tV × Int)) : runF (f16E K) Tryz.f16 [(.ro, .str), (.ro, sI), (.ro, (.list 149 (.cons sV sI))), (.ro, (.list 149 (.cons sV sI)))] [.bool, sI] (a0, a1, a2, a3, ()) = f16G K a0 a1 a2 a3 := by kernel_rfl
theorem f75_t2 (K : Nat) (a0 a1 : List (tV × Int)) (bq3 : Int) : ∀ (n : Nat) (q3 : Int), loopN (exec (f75E K) 2 (selC f75C [1, 1, 0, 1, 0, 0])) 2 (f75_fr2 a0 a1 bq3) n (f75_fr2 a0 a1 q3) (f75_k2 K a0 a1 (realL (f75E K) 2)) = f75_l2 K a0 a1 n q3 := by
  have key : ∀ (lr : LR Bool) (L : Fr → Option Bool) (q3 : Int), execG (f75E K) 2 lr (selC f75C [1, 1, 0, 1, 0, 0]) (f75_fr2 a0 a1 q3) (loopK 2 (f75_fr2 a0 a1 bq3) L (f75_k2 K a0 a1 lr)) = f75_b2 K a0 a1 (fun v0 => L (f75_fr2 a0 a1 v0)) q3 := by
    intro lr L q3; kernel_rfl
  intro n q3
  refine loopN_iter (X := Int) (frame := fun x => (f75_fr2 a0 a1 x)) (body := (fun L x => (fun L2 => f75_b2 K a0 a1 L2 x) (fun v0 => L v0))) (fun L x => ?_) n q3
  rw [exec_G]
  exact (key (realL (f75E K) 2) L x).trans (by rfl)
theorem f75_run (K : Nat) (a0 a1 : List (tV × Int)) : runF (f75E K) Tryz.f75 [(.ro, (.list 149 (.cons sV sI))), (.ro, (.list 149 (.cons sV sI)))] [.bool] (a0, a1, ()) = f75G K a0 a1 := by
  have key : ∀ (lr : LR Bool), runG (f75E K) Tryz.f75 [(.ro, (.list 149 (.cons sV sI))), (.ro, (.list 149 (.cons sV sI)))] [.bool] (a0, a1, ()) lr = f75_g K a0 a1 (fun d0 => lr (selC f75C [1, 1, 0, 1, 0, 0]) (f75_fr2 a0 a1 d0) (f75_k2 K a0 a1 lr)) := by intro lr; kernel_rfl
  have h2 : (fun d0 => (realL (f75E K) 2) (selC f75C [1, 1, 0, 1, 0, 0]) (f75_fr2 a0 a1 d0) (f75_k2 K a0 a1 (realL (f75E K) 2))) = fun d0 => f75_l2 K a0 a1 K d0 := by
    funext d0
    exact f75_t2 K a0 a1 d0 K d0
  exact runF_G (n0 := 2) (by rfl) ((key (realL (f75E K) 2)).trans (by rw [h2] <;> rfl))
theorem f186_t2 (K : Nat) (a0 a1 : List Int) (bq3 : Int) : ∀ (n : Nat) (q3 : Int), loopN (exec (f186E K) 2 (selC f186C [1, 1, 0, 1, 0, 0])) 2 (f186_fr2 a0 a1 bq3) n (f186_fr2 a0 a1 q3) (f186_k2 K a0 a1 (realL (f186E K) 2)) = f186_l2 K a0 a1 n q3 := by
  have key : ∀ (lr : LR Bool) (L : Fr → Option Bool) (q3 : Int), execG (f186E K) 2 lr (selC f186C [1, 1, 0, 1, 0, 0]) (f186_fr2 a0 a1 q3) (loopK 2 (f186_fr2 a0 a1 bq3) L (f186_k2 K a0 a1 lr)) = f186_b2 K a0 a1 (fun v0 => L (f186_fr2 a0 a1 v0)) q3 := by
    intro lr L q3; kernel_rfl
  intro n q3
  refine loopN_iter (X := Int) (frame := fun x => (f186_fr2 a0 a1 x)) (body := (fun L x => (fun L2 => f186_b2 K a0 a1 L2 x) (fun v0 => L v0))) (fun L x => ?_) n q3
  rw [exec_G]
  exact (key (realL (f186E K) 2) L x).trans (by rfl)
theorem f186_run (K : Nat) (a0 a1 : List Int) : runF (f186E K) Tryz.f186 [(.ro, (.list 2 sI)), (.ro, (.list 2 sI))] [.bool] (a0, a1, ()) = f186G K a0 a1 := by
  have key : ∀ (lr : LR Bool), runG (f186E K) Tryz.f186 [(.ro, (.list 2 sI)), (.ro, (.list 2 sI))] [.bool] (a0, a1, ()) lr = f186_g K a0 a1 (fun d0 => lr (selC f186C [1, 1, 0, 1, 0, 0]) (f186_fr2 a0 a1 d0) (f186_k2 K a0 a1 lr)) := by intro lr; kernel_rfl
  have h2 : (fun d0 => (realL (f186E K) 2) (selC f186C [1, 1, 0, 1, 0, 0]) (f186_fr2 a0 a1 d0) (f186_k2 K a0 a1 (realL (f186E K) 2))) = fun d0 => f186_l2 K a0 a1 K d0 := by
    funext d0
    exact f186_t2 K a0 a1 d0 K d0
  exact runF_G (n0 := 2) (by rfl) ((key (realL (f186E K) 2)).trans (by rw [h2] <;> rfl))
theorem f66_run (K : Nat) (a0 a1 : Int × tL × List Int) : runF (f66E K) Tryz.f66 [(.ro, (.cons sI (.cons sL (.list 2 sI)))), (.ro, (.cons sI (.cons sL (.list 2 sI))))] [.bool] (a0, a1, ()) = f66G K a0 a1 := by kernel_rfl
theorem f76_run (K : Nat) (a0 : ByteArray) (a1 : Int) (a2 : List (tV × Int)) : runF (f76E K) Tryz.f76 [(.ro, .str), (.ro, sI), (.ro, (.list 149 (.cons sV sI)))] [.bool] (a0, a1, a2, ()) = f76G K a0 a1 a2 := by kernel_rfl
theorem f11_run (K : Nat) (a0 : List Int) : runF (f11E K) Tryz.f11 [(.ro, (.list 5 (.int .u8)))] [.bool] (a0, ()) = f11G K a0 := by kernel_rfl
end Go.Proofs.YtfccacobkcglcaaGreat.X
