/- Functions of the program as plain Lean functions, and that the program does what they say. Printed by gen.py. -/
import Derived.Test.YtniidcalfhhciaaGreatQbD1
namespace Go.Proofs.YtniidcalfhhciaaGreat.X
open Go
set_option maxRecDepth 100000
set_option linter.unusedVariables false
theorem f8_t11 (K : Nat) (a0 : List Int) (y1 : Bool) (y2 : Int × tL × (List tM) × Int × Int) (y3 : (Int × tL × List Int) × Int) (y4 : (Int × tL × List Int) × Int) (y5 : Int × tL × (List tM) × Int) (y6 : Int × Int) (y7 : Int × Int) (y8 : Bool) (y9 : Int × Int) (bq12 : Int) (bq13 : Int) : ∀ (n : Nat) (q12 : Int) (q13 : Int), loopN (exec (f8E K) 1 (selC f8C [1, 1, 1, 1, 1, 1, 1, 1, 1, 0, 1, 0, 1, 1, 0, 1, 0, 0])) 1 (f8_fr11 a0 y1 y2 y3 y4 y5 y6 y7 y8 y9 bq12 bq13) n (f8_fr11 a0 y1 y2 y3 y4 y5 y6 y7 y8 y9 q12 q13) (f8_k11 K a0 (realL (f8E K) 1)) = f8_l11 K a0 y1 y2 y3 y4 y5 y6 y7 y8 y9 n q12 q13 := by
  have key : ∀ (lr : LR Bool) (L : Fr → Option Bool) (q12 : Int) (q13 : Int), execG (f8E K) 1 lr (selC f8C [1, 1, 1, 1, 1, 1, 1, 1, 1, 0, 1, 0, 1, 1, 0, 1, 0, 0]) (f8_fr11 a0 y1 y2 y3 y4 y5 y6 y7 y8 y9 q12 q13) (loopK 1 (f8_fr11 a0 y1 y2 y3 y4 y5 y6 y7 y8 y9 bq12 bq13) L (f8_k11 K a0 lr)) = f8_b11 K a0 y1 y2 y3 y4 y5 y6 y7 y8 y9 (fun v0 v1 => L (f8_fr11 a0 y1 y2 y3 y4 y5 y6 y7 y8 y9 v0 v1)) q12 q13 := by
    intro lr L q12 q13; kernel_rfl
  intro n q12 q13
  refine loopN_iter (X := Int × Int) (frame := fun x => (f8_fr11 a0 y1 y2 y3 y4 y5 y6 y7 y8 y9 x.1 x.2)) (body := (fun L x => (fun L11 => f8_b11 K a0 y1 y2 y3 y4 y5 y6 y7 y8 y9 L11 x.1 x.2) (fun v0 v1 => L (v0, v1)))) (fun L x => ?_) n (q12, q13)
  rw [exec_G]
  exact (key (realL (f8E K) 1) L x.1 x.2).trans (by rfl)
theorem f8_run (K : Nat) (a0 : List Int) : runF (f8E K) Tryz.f8 [(.ro, (.list 5 (.int .u8)))] [.bool] (a0, ()) = f8G K a0 := by
  have key : ∀ (lr : LR Bool), runG (f8E K) Tryz.f8 [(.ro, (.list 5 (.int .u8)))] [.bool] (a0, ()) lr = f8_g K a0 (fun c0 c1 c2 c3 c4 c5 c6 c7 c8 d0 d1 => lr (selC f8C [1, 1, 1, 1, 1, 1, 1, 1, 1, 0, 1, 0, 1, 1, 0, 1, 0, 0]) (f8_fr11 a0 c0 c1 c2 c3 c4 c5 c6 c7 c8 d0 d1) (f8_k11 K a0 lr)) := by intro lr; kernel_rfl
  have h11 : (fun c0 c1 c2 c3 c4 c5 c6 c7 c8 d0 d1 => (realL (f8E K) 1) (selC f8C [1, 1, 1, 1, 1, 1, 1, 1, 1, 0, 1, 0, 1, 1, 0, 1, 0, 0]) (f8_fr11 a0 c0 c1 c2 c3 c4 c5 c6 c7 c8 d0 d1) (f8_k11 K a0 (realL (f8E K) 1))) = fun c0 c1 c2 c3 c4 c5 c6 c7 c8 d0 d1 => f8_l11 K a0 c0 c1 c2 c3 c4 c5 c6 c7 c8 K d0 d1 := by
    funext c0 c1 c2 c3 c4 c5 c6 c7 c8 d0 d1
    exact f8_t11 K a0 c0 c1 c2 c3 c4 c5 c6 c7 c8 d0 d1 K d0 d1
  exact runF_G (n0 := 1) (by rfl) ((key (realL (f8E K) 1)).trans (by rw [h11] <;> rfl))
end Go.Proofs.YtniidcalfhhciaaGreat.X
