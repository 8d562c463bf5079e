/- Functions of the program as plain Lean functions, and that the program does what they say. Printed by gen.py. -/
import Derived.Test.YthlpehmnjanmnaaGreatDoorQsD0
namespace Go.Proofs.YthlpehmnjanmnaaGreatDoor.X
open Go
set_option maxRecDepth 100000
attribute [local instance] cwD
set_option linter.unusedVariables false
variable (K : Nat)
include K
theorem f22_u2 (a0 : List Int) : f22_j2 K a0 (realL (f22E K) 1) = fun bq3 bq4 => f22_l2 K a0 K bq3 bq4 := by
  funext bq3 bq4
  exact loop_o (fun x => (f22_fr2 a0 x.1 x.2)) (fun L x => by kernel_rfl) K (bq3, bq4)
theorem f22_run (a0 : List Int) : rM (f22E K) Tryz.f22 (f22M K) (a0, ()) = f22G K a0 :=
  runF_G (n0 := 1) (by rfl) (.trans (b := f22_g K a0 (f22_j2 K a0 (realL (f22E K) 1))) (by kernel_rfl) (by rw [f22_u2] <;> rfl))
theorem f35_u3 (a0 : List Int) (a1 a2 a3 : Int) : f35_j3 K a0 a1 a2 a3 (realL (f35E K) 1) = fun bq4 => f35_l3 K a0 a1 a2 a3 K bq4 := by
  funext bq4
  exact loop_o (fun x => (f35_fr3 a0 a1 a2 a3 x)) (fun L x => by kernel_rfl) K bq4
theorem f35_run (a0 : List Int) (a1 a2 a3 : Int) : rM (f35E K) Tryz.f35 (f35M K) (a0, a1, a2, a3, ()) = f35G K a0 a1 a2 a3 :=
  runF_G (n0 := 1) (by rfl) (.trans (b := f35_g K a0 a1 a2 a3 (f35_j3 K a0 a1 a2 a3 (realL (f35E K) 1))) (by kernel_rfl) (by rw [f35_u3] <;> rfl))
theorem f39_u9 (a0 : Int × Int × Int) (F6 : Fr → Option (List tV)) (bq7 : Int) (bq8 : List tV) : f39_j9 K a0 F6 bq7 bq8 (realL (f39E K) 0) = fun q7 bq10 bq11 => f39_l9 K a0 q7 (fun v0 v1 => F6 (f39_fr6 a0 v0 v1)) K bq10 bq11 := by
  funext q7 bq10 bq11
  exact loop_o (fun x => (f39_fr9 a0 q7 x.1 x.2)) (fun L x => by kernel_rfl) K (bq10, bq11)
theorem f39_u6 (a0 : Int × Int × Int) : f39_j6 K a0 (realL (f39E K) 0) = fun bq7 bq8 => f39_l6 K a0 K bq7 bq8 := by
  funext bq7 bq8
  refine loop_o (fun x => (f39_fr6 a0 x.1 x.2)) (fun L x => ?_) K (bq7, bq8)
  exact .trans (b := f39_b6 K a0 (f39_j9 K a0 L bq7 bq8 (realL (f39E K) 0)) (fun v0 v1 => L (f39_fr6 a0 v0 v1)) x.1 x.2) (by kernel_rfl) (by rw [f39_u9] <;> rfl)
theorem f39_run (a0 : Int × Int × Int) : rM (f39E K) Tryz.f39 (f39M K) (a0, ()) = f39G K a0 :=
  runF_G (n0 := 0) (by rfl) (.trans (b := f39_g K a0 (f39_j6 K a0 (realL (f39E K) 0))) (by kernel_rfl) (by rw [f39_u6] <;> rfl))
theorem f40_u6 (a0 : Int × tL × List Int) (a1 : tA × Int × Int) : f40_j6 K a0 a1 (realL (f40E K) 1) = fun y1 bq7 => f40_l6 K a0 a1 y1 K bq7 := by
  funext y1 bq7
  exact loop_o (fun x => (f40_fr6 a0 a1 y1 x)) (fun L x => by kernel_rfl) K bq7
theorem f40_run (a0 : Int × tL × List Int) (a1 : tA × Int × Int) : rM (f40E K) Tryz.f40 (f40M K) (a0, a1, ()) = f40G K a0 a1 :=
  runF_G (n0 := 1) (by rfl) (.trans (b := f40_g K a0 a1 (f40_j6 K a0 a1 (realL (f40E K) 1))) (by kernel_rfl) (by rw [f40_u6] <;> rfl))
omit K
theorem f125_run (K : Nat) (rec : Int → Int → Option Int) (a0 a1 : Int) : runF (f125E K rec) Tryz.f125 [(.ro, sI), (.ro, sI)] [sI] (a0, a1, ()) = f125_s K rec a0 a1 := by kernel_rfl
include K
theorem f81_u15 (a0 : List tV) (F10 : Fr → Option tL) (bq11 bq12 bq13 bq14 : Int) : f81_j15 K a0 F10 bq11 bq12 bq13 bq14 (realL (f81E K) 1) = fun q11 q12 bq16 bq17 bq18 bq19 => f81_l15 K a0 q11 q12 (fun v0 v1 v2 v3 => F10 (f81_fr10 a0 v0 v1 v2 v3)) K bq16 bq17 bq18 bq19 := by
  funext q11 q12 bq16 bq17 bq18 bq19
  exact loop_o (fun x => (f81_fr15 a0 q11 q12 x.1 x.2.1 x.2.2.1 x.2.2.2)) (fun L x => by kernel_rfl) K (bq16, bq17, bq18, bq19)
theorem f81_u10 (a0 : List tV) : f81_j10 K a0 (realL (f81E K) 1) = fun bq11 bq12 bq13 bq14 => f81_l10 K a0 K bq11 bq12 bq13 bq14 := by
  funext bq11 bq12 bq13 bq14
  refine loop_o (fun x => (f81_fr10 a0 x.1 x.2.1 x.2.2.1 x.2.2.2)) (fun L x => ?_) K (bq11, bq12, bq13, bq14)
  exact .trans (b := f81_b10 K a0 (f81_j15 K a0 L bq11 bq12 bq13 bq14 (realL (f81E K) 1)) (fun v0 v1 v2 v3 => L (f81_fr10 a0 v0 v1 v2 v3)) x.1 x.2.1 x.2.2.1 x.2.2.2) (by kernel_rfl) (by rw [f81_u15] <;> rfl)
theorem f81_run (a0 : List tV) : rM (f81E K) Tryz.f81 (f81M K) (a0, ()) = f81G K a0 :=
  runF_G (n0 := 1) (by rfl) (.trans (b := f81_g K a0 (f81_j10 K a0 (realL (f81E K) 1))) (by kernel_rfl) (by rw [f81_u10] <;> rfl))
theorem f37_u6 (a0 : Int × tL × List Int) : f37_j6 K a0 (realL (f37E K) 1) = fun y1 bq7 bq8 => f37_l6 K a0 y1 K bq7 bq8 := by
  funext y1 bq7 bq8
  exact loop_o (fun x => (f37_fr6 a0 y1 x.1 x.2)) (fun L x => by kernel_rfl) K (bq7, bq8)
theorem f37_run (a0 : Int × tL × List Int) : rM (f37E K) Tryz.f37 (f37M K) (a0, ()) = f37G K a0 :=
  runF_G (n0 := 1) (by rfl) (.trans (b := f37_g K a0 (f37_j6 K a0 (realL (f37E K) 1))) (by kernel_rfl) (by rw [f37_u6] <;> rfl))
theorem f36_u4 (a0 : Int × tL × List Int) (a1 : Int × Int × Int) : f36_j4 K a0 a1 (realL (f36E K) 1) = fun y1 bq5 bq6 => f36_l4 K a0 a1 y1 K bq5 bq6 := by
  funext y1 bq5 bq6
  exact loop_o (fun x => (f36_fr4 a0 a1 y1 x.1 x.2)) (fun L x => by kernel_rfl) K (bq5, bq6)
theorem f36_run (a0 : Int × tL × List Int) (a1 : Int × Int × Int) : rM (f36E K) Tryz.f36 (f36M K) (a0, a1, ()) = f36G K a0 a1 :=
  runF_G (n0 := 1) (by rfl) (.trans (b := f36_g K a0 a1 (f36_j4 K a0 a1 (realL (f36E K) 1))) (by kernel_rfl) (by rw [f36_u4] <;> rfl))
theorem f82_u3 (a0 : Int) : f82_j3 K a0 (realL (f82E K) 0) = fun bq4 bq5 => f82_l3 K a0 K bq4 bq5 := by
  funext bq4 bq5
  exact loop_o (fun x => (f82_fr3 a0 x.1 x.2)) (fun L x => by kernel_rfl) K (bq4, bq5)
theorem f82_run (a0 : Int) : rM (f82E K) Tryz.f82 (f82M K) (a0, ()) = f82G K a0 :=
  runF_G (n0 := 0) (by rfl) (.trans (b := f82_g K a0 (f82_j3 K a0 (realL (f82E K) 0))) (by kernel_rfl) (by rw [f82_u3] <;> rfl))
theorem f38_u4 (a0 : Int) (a1 : Int × Int × Int) : f38_j4 K a0 a1 (realL (f38E K) 0) = fun y1 bq5 bq6 => f38_l4 K a0 a1 y1 K bq5 bq6 := by
  funext y1 bq5 bq6
  exact loop_o (fun x => (f38_fr4 a0 a1 y1 x.1 x.2)) (fun L x => by kernel_rfl) K (bq5, bq6)
theorem f38_run (a0 : Int) (a1 : Int × Int × Int) : rM (f38E K) Tryz.f38 (f38M K) (a0, a1, ()) = f38G K a0 a1 :=
  runF_G (n0 := 0) (by rfl) (.trans (b := f38_g K a0 a1 (f38_j4 K a0 a1 (realL (f38E K) 0))) (by kernel_rfl) (by rw [f38_u4] <;> rfl))
theorem f12_u13 (a0 : Int × tL × List Int) (y1 : List tA) (y2 : List tV) (F10 : Fr → Option (List tM)) (bq11 : Int) (bq12 : List tM) : f12_j13 K a0 y1 y2 F10 bq11 bq12 (realL (f12E K) 1) = fun q11 bq14 bq15 => f12_l13 K a0 q11 y1 y2 (fun v0 v1 => F10 (f12_fr10 a0 y1 y2 v0 v1)) K bq14 bq15 := by
  funext q11 bq14 bq15
  exact loop_o (fun x => (f12_fr13 a0 q11 y1 y2 x.1 x.2)) (fun L x => by kernel_rfl) K (bq14, bq15)
theorem f12_u10 (a0 : Int × tL × List Int) : f12_j10 K a0 (realL (f12E K) 1) = fun y1 y2 bq11 bq12 => f12_l10 K a0 y1 y2 K bq11 bq12 := by
  funext y1 y2 bq11 bq12
  refine loop_o (fun x => (f12_fr10 a0 y1 y2 x.1 x.2)) (fun L x => ?_) K (bq11, bq12)
  exact .trans (b := f12_b10 K a0 y1 y2 (f12_j13 K a0 y1 y2 L bq11 bq12 (realL (f12E K) 1)) (fun v0 v1 => L (f12_fr10 a0 y1 y2 v0 v1)) x.1 x.2) (by kernel_rfl) (by rw [f12_u13] <;> rfl)
theorem f12_run (a0 : Int × tL × List Int) : rM (f12E K) Tryz.f12 (f12M K) (a0, ()) = f12G K a0 :=
  runF_G (n0 := 1) (by rfl) (.trans (b := f12_g K a0 (f12_j10 K a0 (realL (f12E K) 1))) (by kernel_rfl) (by rw [f12_u10] <;> rfl))
omit K
theorem f52_run (K : Nat) (rec : Int → Option ByteArray) (a0 : Int) : runF (f52E K rec) Tryz.f52 [(.ro, sI)] [.str] (a0, ()) = f52_s K rec a0 := by kernel_rfl
include K
theorem f85_u3 (a0 : List Int) (a1 : ByteArray) : f85_j3 K a0 a1 (realL (f85E K) 1) = fun bq4 bq5 => f85_l3 K a0 a1 K bq4 bq5 := by
  funext bq4 bq5
  exact loop_o (fun x => (f85_fr3 a0 a1 x.1 x.2)) (fun L x => by kernel_rfl) K (bq4, bq5)
theorem f85_run (a0 : List Int) (a1 : ByteArray) : rM (f85E K) Tryz.f85 (f85M K) (a0, a1, ()) = f85G K a0 a1 :=
  runF_G (n0 := 1) (by rfl) (.trans (b := f85_g K a0 a1 (f85_j3 K a0 a1 (realL (f85E K) 1))) (by kernel_rfl) (by rw [f85_u3] <;> rfl))
theorem f162_u2 (a0 a1 : List Int) : f162_j2 K a0 a1 (realL (f162E K) 2) = fun bq3 => f162_l2 K a0 a1 K bq3 := by
  funext bq3
  exact loop_o (fun x => (f162_fr2 a0 a1 x)) (fun L x => by kernel_rfl) K bq3
theorem f162_run (a0 a1 : List Int) : rM (f162E K) Tryz.f162 (f162M K) (a0, a1, ()) = f162G K a0 a1 :=
  runF_G (n0 := 2) (by rfl) (.trans (b := f162_g K a0 a1 (f162_j2 K a0 a1 (realL (f162E K) 2))) (by kernel_rfl) (by rw [f162_u2] <;> rfl))
theorem f43_u6 (a0 : List tM) (a1 : tA × Int × Int) : f43_j6 K a0 a1 (realL (f43E K) 1) = fun bq7 bq8 => f43_l6 K a0 a1 K bq7 bq8 := by
  funext bq7 bq8
  exact loop_o (fun x => (f43_fr6 a0 a1 x.1 x.2)) (fun L x => by kernel_rfl) K (bq7, bq8)
theorem f43_run (a0 : List tM) (a1 : tA × Int × Int) : rM (f43E K) Tryz.f43 (f43M K) (a0, a1, ()) = f43G K a0 a1 :=
  runF_G (n0 := 1) (by rfl) (.trans (b := f43_g K a0 a1 (f43_j6 K a0 a1 (realL (f43E K) 1))) (by kernel_rfl) (by rw [f43_u6] <;> rfl))
theorem f16_u21 (a0 : Int × Int × Int) (a1 : List tM) (F17 : Fr → Option (List tM)) (bq18 : Int) (bq19 bq20 : List tM) : f16_j21 K a0 a1 F17 bq18 bq19 bq20 (realL (f16E K) 1) = fun q18 q20 bq22 bq23 bq24 => f16_l21 K a0 a1 q18 q20 (fun v0 v1 v2 => F17 (f16_fr17 a0 a1 v0 v1 v2)) K bq22 bq23 bq24 := by
  funext q18 q20 bq22 bq23 bq24
  exact loop_o (fun x => (f16_fr21 a0 a1 q18 q20 x.1 x.2.1 x.2.2)) (fun L x => by kernel_rfl) K (bq22, bq23, bq24)
theorem f16_u17 (a0 : Int × Int × Int) (a1 : List tM) : f16_j17 K a0 a1 (realL (f16E K) 1) = fun bq18 bq19 bq20 => f16_l17 K a0 a1 K bq18 bq19 bq20 := by
  funext bq18 bq19 bq20
  refine loop_o (fun x => (f16_fr17 a0 a1 x.1 x.2.1 x.2.2)) (fun L x => ?_) K (bq18, bq19, bq20)
  exact .trans (b := f16_b17 K a0 a1 (f16_j21 K a0 a1 L bq18 bq19 bq20 (realL (f16E K) 1)) (fun v0 v1 v2 => L (f16_fr17 a0 a1 v0 v1 v2)) x.1 x.2.1 x.2.2) (by kernel_rfl) (by rw [f16_u21] <;> rfl)
theorem f16_run (a0 : Int × Int × Int) (a1 : List tM) : rM (f16E K) Tryz.f16 (f16M K) (a0, a1, ()) = f16G K a0 a1 :=
  runF_G (n0 := 1) (by rfl) (.trans (b := f16_g K a0 a1 (f16_j17 K a0 a1 (realL (f16E K) 1))) (by kernel_rfl) (by rw [f16_u17] <;> rfl))
theorem f133_u6 (a0 : Int × Int × Int × Int) : f133_j6 K a0 (realL (f133E K) 0) = fun bq7 bq8 bq9 bq10 bq11 => f133_l6 K a0 K bq7 bq8 bq9 bq10 bq11 := by
  funext bq7 bq8 bq9 bq10 bq11
  exact loop_o (fun x => (f133_fr6 a0 x.1 x.2.1 x.2.2.1 x.2.2.2.1 x.2.2.2.2)) (fun L x => by kernel_rfl) K (bq7, bq8, bq9, bq10, bq11)
theorem f133_run (a0 : Int × Int × Int × Int) : rM (f133E K) Tryz.f133 (f133M K) (a0, ()) = f133G K a0 :=
  runF_G (n0 := 0) (by rfl) (.trans (b := f133_g K a0 (f133_j6 K a0 (realL (f133E K) 0))) (by kernel_rfl) (by rw [f133_u6] <;> rfl))
theorem f96_u3 (a0 : List tV) (a1 : Int × Int) : f96_j3 K a0 a1 (realL (f96E K) 1) = fun bq4 => f96_l3 K a0 a1 K bq4 := by
  funext bq4
  exact loop_o (fun x => (f96_fr3 a0 a1 x)) (fun L x => by kernel_rfl) K bq4
theorem f96_run (a0 : List tV) (a1 : Int × Int) : rM (f96E K) Tryz.f96 (f96M K) (a0, a1, ()) = f96G K a0 a1 :=
  runF_G (n0 := 1) (by rfl) (.trans (b := f96_g K a0 a1 (f96_j3 K a0 a1 (realL (f96E K) 1))) (by kernel_rfl) (by rw [f96_u3] <;> rfl))
theorem f50_u4 (a0 : Int × Int × Int) (a1 : List tM) (a2 : Int × Int) : f50_j4 K a0 a1 a2 (realL (f50E K) 1) = fun bq5 bq6 => f50_l4 K a0 a1 a2 K bq5 bq6 := by
  funext bq5 bq6
  exact loop_o (fun x => (f50_fr4 a0 a1 a2 x.1 x.2)) (fun L x => by kernel_rfl) K (bq5, bq6)
theorem f50_run (a0 : Int × Int × Int) (a1 : List tM) (a2 : Int × Int) : rM (f50E K) Tryz.f50 (f50M K) (a0, a1, a2, ()) = f50G K a0 a1 a2 :=
  runF_G (n0 := 1) (by rfl) (.trans (b := f50_g K a0 a1 a2 (f50_j4 K a0 a1 a2 (realL (f50E K) 1))) (by kernel_rfl) (by rw [f50_u4] <;> rfl))
theorem f18_u4 (a0 : Int × Int × Int) (a1 : List tM) : f18_j4 K a0 a1 (realL (f18E K) 1) = fun y1 bq5 bq6 => f18_l4 K a0 a1 y1 K bq5 bq6 := by
  funext y1 bq5 bq6
  exact loop_o (fun x => (f18_fr4 a0 a1 y1 x.1 x.2)) (fun L x => by kernel_rfl) K (bq5, bq6)
theorem f18_run (a0 : Int × Int × Int) (a1 : List tM) : rM (f18E K) Tryz.f18 (f18M K) (a0, a1, ()) = f18G K a0 a1 :=
  runF_G (n0 := 1) (by rfl) (.trans (b := f18_g K a0 a1 (f18_j4 K a0 a1 (realL (f18E K) 1))) (by kernel_rfl) (by rw [f18_u4] <;> rfl))
theorem f5_u22 (a0 : Int × tL × List Int) : f5_j22 K a0 (realL (f5E K) 1) = fun q12 q13 q14 y1 y2 y3 y18 bq23 bq24 bq25 => f5_l22 K a0 q12 q13 q14 y1 y2 y3 y18 K bq23 bq24 bq25 := by
  funext q12 q13 q14 y1 y2 y3 y18 bq23 bq24 bq25
  exact loop_o (fun x => (f5_fr22 a0 q12 q13 q14 y1 y2 y3 y18 x.1 x.2.1 x.2.2)) (fun L x => by kernel_rfl) K (bq23, bq24, bq25)
theorem f5_u10 (a0 : Int × tL × List Int) : f5_j10 K a0 (realL (f5E K) 1) = fun y1 y2 y3 bq11 bq12 bq13 bq14 => f5_l10 K a0 y1 y2 y3 K bq11 bq12 bq13 bq14 := by
  funext y1 y2 y3 bq11 bq12 bq13 bq14
  refine loop_o (fun x => (f5_fr10 a0 y1 y2 y3 x.1 x.2.1 x.2.2.1 x.2.2.2)) (fun L x => ?_) K (bq11, bq12, bq13, bq14)
  exact .trans (b := f5_b10 K a0 y1 y2 y3 (f5_j22 K a0 (realL (f5E K) 1)) (fun v0 v1 v2 v3 => L (f5_fr10 a0 y1 y2 y3 v0 v1 v2 v3)) x.1 x.2.1 x.2.2.1 x.2.2.2) (by kernel_rfl) (by rw [f5_u22] <;> rfl)
theorem f5_run (a0 : Int × tL × List Int) : rM (f5E K) Tryz.f5 (f5M K) (a0, ()) = f5G K a0 :=
  runF_G (n0 := 1) (by rfl) (.trans (b := f5_g K a0 (f5_j10 K a0 (realL (f5E K) 1))) (by kernel_rfl) (by rw [f5_u10] <;> rfl))
theorem f134_u3 (a0 : List Int) (a1 : (Int → Option Bool)) : f134_j3 K a0 a1 (realL (f134E K) 1) = fun bq4 => f134_l3 K a0 a1 K bq4 := by
  funext bq4
  exact loop_o (fun x => (f134_fr3 a0 a1 x)) (fun L x => by kernel_rfl) K bq4
theorem f134_run (a0 : List Int) (a1 : (Int → Option Bool)) : rM (f134E K) Tryz.f134 (f134M K) (a0, a1, ()) = f134G K a0 a1 :=
  runF_G (n0 := 1) (by rfl) (.trans (b := f134_g K a0 a1 (f134_j3 K a0 a1 (realL (f134E K) 1))) (by kernel_rfl) (by rw [f134_u3] <;> rfl))
theorem f66_u9 (a0 : Int × Int × Int) (F6 : Fr → Option (List tV)) (bq7 : Int) (bq8 : List tV) : f66_j9 K a0 F6 bq7 bq8 (realL (f66E K) 0) = fun q7 bq10 bq11 => f66_l9 K a0 q7 (fun v0 v1 => F6 (f66_fr6 a0 v0 v1)) K bq10 bq11 := by
  funext q7 bq10 bq11
  exact loop_o (fun x => (f66_fr9 a0 q7 x.1 x.2)) (fun L x => by kernel_rfl) K (bq10, bq11)
theorem f66_u6 (a0 : Int × Int × Int) : f66_j6 K a0 (realL (f66E K) 0) = fun bq7 bq8 => f66_l6 K a0 K bq7 bq8 := by
  funext bq7 bq8
  refine loop_o (fun x => (f66_fr6 a0 x.1 x.2)) (fun L x => ?_) K (bq7, bq8)
  exact .trans (b := f66_b6 K a0 (f66_j9 K a0 L bq7 bq8 (realL (f66E K) 0)) (fun v0 v1 => L (f66_fr6 a0 v0 v1)) x.1 x.2) (by kernel_rfl) (by rw [f66_u9] <;> rfl)
theorem f66_run (a0 : Int × Int × Int) : rM (f66E K) Tryz.f66 (f66M K) (a0, ()) = f66G K a0 :=
  runF_G (n0 := 0) (by rfl) (.trans (b := f66_g K a0 (f66_j6 K a0 (realL (f66E K) 0))) (by kernel_rfl) (by rw [f66_u6] <;> rfl))
theorem f67_u5 (a0 : Int × tL × List Int) (a1 : tA × Int × Int) : f67_j5 K a0 a1 (realL (f67E K) 1) = fun y1 bq6 => f67_l5 K a0 a1 y1 K bq6 := by
  funext y1 bq6
  exact loop_o (fun x => (f67_fr5 a0 a1 y1 x)) (fun L x => by kernel_rfl) K bq6
theorem f67_run (a0 : Int × tL × List Int) (a1 : tA × Int × Int) : rM (f67E K) Tryz.f67 (f67M K) (a0, a1, ()) = f67G K a0 a1 :=
  runF_G (n0 := 1) (by rfl) (.trans (b := f67_g K a0 a1 (f67_j5 K a0 a1 (realL (f67E K) 1))) (by kernel_rfl) (by rw [f67_u5] <;> rfl))
theorem f136_u2 (a0 a1 : Int) : f136_j2 K a0 a1 (realL (f136E K) 0) = fun bq3 bq4 => f136_l2 K K bq3 bq4 := by
  funext bq3 bq4
  exact loop_o (fun x => (f136_fr2 x.1 x.2)) (fun L x => by kernel_rfl) K (bq3, bq4)
theorem f136_run (a0 a1 : Int) : rM (f136E K) Tryz.f136 (f136M K) (a0, a1, ()) = f136G K a0 a1 :=
  runF_G (n0 := 0) (by rfl) (.trans (b := f136_g K a0 a1 (f136_j2 K a0 a1 (realL (f136E K) 0))) (by kernel_rfl) (by rw [f136_u2] <;> rfl))
theorem f102_u18 (a0 : List tV) (F13 : Fr → Option tL) (bq14 bq15 bq16 bq17 : Int) : f102_j18 K a0 F13 bq14 bq15 bq16 bq17 (realL (f102E K) 1) = fun q14 q15 bq19 bq20 bq21 bq22 => f102_l18 K a0 q14 q15 (fun v0 v1 v2 v3 => F13 (f102_fr13 a0 v0 v1 v2 v3)) K bq19 bq20 bq21 bq22 := by
  funext q14 q15 bq19 bq20 bq21 bq22
  exact loop_o (fun x => (f102_fr18 a0 q14 q15 x.1 x.2.1 x.2.2.1 x.2.2.2)) (fun L x => by kernel_rfl) K (bq19, bq20, bq21, bq22)
theorem f102_u13 (a0 : List tV) : f102_j13 K a0 (realL (f102E K) 1) = fun bq14 bq15 bq16 bq17 => f102_l13 K a0 K bq14 bq15 bq16 bq17 := by
  funext bq14 bq15 bq16 bq17
  refine loop_o (fun x => (f102_fr13 a0 x.1 x.2.1 x.2.2.1 x.2.2.2)) (fun L x => ?_) K (bq14, bq15, bq16, bq17)
  exact .trans (b := f102_b13 K a0 (f102_j18 K a0 L bq14 bq15 bq16 bq17 (realL (f102E K) 1)) (fun v0 v1 v2 v3 => L (f102_fr13 a0 v0 v1 v2 v3)) x.1 x.2.1 x.2.2.1 x.2.2.2) (by kernel_rfl) (by rw [f102_u18] <;> rfl)
theorem f102_run (a0 : List tV) : rM (f102E K) Tryz.f102 (f102M K) (a0, ()) = f102G K a0 :=
  runF_G (n0 := 1) (by rfl) (.trans (b := f102_g K a0 (f102_j13 K a0 (realL (f102E K) 1))) (by kernel_rfl) (by rw [f102_u13] <;> rfl))
theorem f58_u6 (a0 : Int × tL × List Int) : f58_j6 K a0 (realL (f58E K) 1) = fun y1 y2 bq7 bq8 => f58_l6 K a0 y1 y2 K bq7 bq8 := by
  funext y1 y2 bq7 bq8
  exact loop_o (fun x => (f58_fr6 a0 y1 y2 x.1 x.2)) (fun L x => by kernel_rfl) K (bq7, bq8)
theorem f58_run (a0 : Int × tL × List Int) : rM (f58E K) Tryz.f58 (f58M K) (a0, ()) = f58G K a0 :=
  runF_G (n0 := 1) (by rfl) (.trans (b := f58_g K a0 (f58_j6 K a0 (realL (f58E K) 1))) (by kernel_rfl) (by rw [f58_u6] <;> rfl))
theorem f57_u4 (a0 : Int × tL × List Int) (a1 : Int × Int × Int) : f57_j4 K a0 a1 (realL (f57E K) 1) = fun y1 bq5 bq6 => f57_l4 K a0 a1 y1 K bq5 bq6 := by
  funext y1 bq5 bq6
  exact loop_o (fun x => (f57_fr4 a0 a1 y1 x.1 x.2)) (fun L x => by kernel_rfl) K (bq5, bq6)
theorem f57_run (a0 : Int × tL × List Int) (a1 : Int × Int × Int) : rM (f57E K) Tryz.f57 (f57M K) (a0, a1, ()) = f57G K a0 a1 :=
  runF_G (n0 := 1) (by rfl) (.trans (b := f57_g K a0 a1 (f57_j4 K a0 a1 (realL (f57E K) 1))) (by kernel_rfl) (by rw [f57_u4] <;> rfl))
theorem f103_u3 (a0 : ByteArray) (a1 : List Int) : f103_j3 K a0 a1 (realL (f103E K) 1) = fun bq4 bq5 => f103_l3 K a0 a1 K bq4 bq5 := by
  funext bq4 bq5
  exact loop_o (fun x => (f103_fr3 a0 a1 x.1 x.2)) (fun L x => by kernel_rfl) K (bq4, bq5)
theorem f103_run (a0 : ByteArray) (a1 : List Int) : rM (f103E K) Tryz.f103 (f103M K) (a0, a1, ()) = f103G K a0 a1 :=
  runF_G (n0 := 1) (by rfl) (.trans (b := f103_g K a0 a1 (f103_j3 K a0 a1 (realL (f103E K) 1))) (by kernel_rfl) (by rw [f103_u3] <;> rfl))
theorem f149_u2 (a0 a1 : List Int) : f149_j2 K a0 a1 (realL (f149E K) 2) = fun bq3 => f149_l2 K a0 a1 K bq3 := by
  funext bq3
  exact loop_o (fun x => (f149_fr2 a0 a1 x)) (fun L x => by kernel_rfl) K bq3
theorem f149_run (a0 a1 : List Int) : rM (f149E K) Tryz.f149 (f149M K) (a0, a1, ()) = f149G K a0 a1 :=
  runF_G (n0 := 2) (by rfl) (.trans (b := f149_g K a0 a1 (f149_j2 K a0 a1 (realL (f149E K) 2))) (by kernel_rfl) (by rw [f149_u2] <;> rfl))
theorem f26_u16 (a0 : Int × Int × Int) (a1 : List tM) (F12 : Fr → Option (List tM)) (bq13 : Int) (bq14 : List (tM × Bool)) (bq15 : List tM) : f26_j16 K a0 a1 F12 bq13 bq14 bq15 (realL (f26E K) 1) = fun q13 q15 bq17 bq18 bq19 => f26_l16 K a0 a1 q13 q15 (fun v0 v1 v2 => F12 (f26_fr12 a0 a1 v0 v1 v2)) K bq17 bq18 bq19 := by
  funext q13 q15 bq17 bq18 bq19
  exact loop_o (fun x => (f26_fr16 a0 a1 q13 q15 x.1 x.2.1 x.2.2)) (fun L x => by kernel_rfl) K (bq17, bq18, bq19)
theorem f26_u12 (a0 : Int × Int × Int) (a1 : List tM) : f26_j12 K a0 a1 (realL (f26E K) 1) = fun bq13 bq14 bq15 => f26_l12 K a0 a1 K bq13 bq14 bq15 := by
  funext bq13 bq14 bq15
  refine loop_o (fun x => (f26_fr12 a0 a1 x.1 x.2.1 x.2.2)) (fun L x => ?_) K (bq13, bq14, bq15)
  exact .trans (b := f26_b12 K a0 a1 (f26_j16 K a0 a1 L bq13 bq14 bq15 (realL (f26E K) 1)) (fun v0 v1 v2 => L (f26_fr12 a0 a1 v0 v1 v2)) x.1 x.2.1 x.2.2) (by kernel_rfl) (by rw [f26_u16] <;> rfl)
theorem f26_run (a0 : Int × Int × Int) (a1 : List tM) : rM (f26E K) Tryz.f26 (f26M K) (a0, a1, ()) = f26G K a0 a1 :=
  runF_G (n0 := 1) (by rfl) (.trans (b := f26_g K a0 a1 (f26_j12 K a0 a1 (realL (f26E K) 1))) (by kernel_rfl) (by rw [f26_u12] <;> rfl))
theorem f113_u8 (a0 : Int) : f113_j8 K a0 (realL (f113E K) 0) = fun bq9 bq10 => f113_l8 K a0 K bq9 bq10 := by
  funext bq9 bq10
  exact loop_o (fun x => (f113_fr8 a0 x.1 x.2)) (fun L x => by kernel_rfl) K (bq9, bq10)
theorem f113_run (a0 : Int) : rM (f113E K) Tryz.f113 (f113M K) (a0, ()) = f113G K a0 :=
  runF_G (n0 := 0) (by rfl) (.trans (b := f113_g K a0 (f113_j8 K a0 (realL (f113E K) 0))) (by kernel_rfl) (by rw [f113_u8] <;> rfl))
theorem f150_u3 (a0 : List tA) (a1 : (tA → Option Bool)) : f150_j3 K a0 a1 (realL (f150E K) 1) = fun bq4 => f150_l3 K a0 a1 K bq4 := by
  funext bq4
  exact loop_o (fun x => (f150_fr3 a0 a1 x)) (fun L x => by kernel_rfl) K bq4
theorem f150_run (a0 : List tA) (a1 : (tA → Option Bool)) : rM (f150E K) Tryz.f150 (f150M K) (a0, a1, ()) = f150G K a0 a1 :=
  runF_G (n0 := 1) (by rfl) (.trans (b := f150_g K a0 a1 (f150_j3 K a0 a1 (realL (f150E K) 1))) (by kernel_rfl) (by rw [f150_u3] <;> rfl))
theorem f112_u4 (a0 : List tA) (a1 : (tA → Option Bool)) : f112_j4 K a0 a1 (realL (f112E K) 1) = fun y1 bq5 bq6 bq7 => f112_l4 K a1 y1 K bq5 bq6 bq7 := by
  funext y1 bq5 bq6 bq7
  exact loop_o (fun x => (f112_fr4 a1 y1 x.1 x.2.1 x.2.2)) (fun L x => by kernel_rfl) K (bq5, bq6, bq7)
theorem f112_run (a0 : List tA) (a1 : (tA → Option Bool)) : rM (f112E K) Tryz.f112 (f112M K) (a0, a1, ()) = f112G K a0 a1 :=
  runF_G (n0 := 1) (by rfl) (.trans (b := f112_g K a0 a1 (f112_j4 K a0 a1 (realL (f112E K) 1))) (by kernel_rfl) (by rw [f112_u4] <;> rfl))
theorem f27_u14 (a0 : Int × tL × List Int) (y1 : List tA) (F10 : Fr → Option (List tM)) (bq11 : Int) (bq12 : List tM) : f27_j14 K a0 y1 F10 bq11 bq12 (realL (f27E K) 1) = fun q11 y13 bq15 bq16 => f27_l14 K a0 q11 y1 y13 (fun v0 v1 => F10 (f27_fr10 a0 y1 v0 v1)) K bq15 bq16 := by
  funext q11 y13 bq15 bq16
  exact loop_o (fun x => (f27_fr14 a0 q11 y1 y13 x.1 x.2)) (fun L x => by kernel_rfl) K (bq15, bq16)
theorem f27_u10 (a0 : Int × tL × List Int) : f27_j10 K a0 (realL (f27E K) 1) = fun y1 bq11 bq12 => f27_l10 K a0 y1 K bq11 bq12 := by
  funext y1 bq11 bq12
  refine loop_o (fun x => (f27_fr10 a0 y1 x.1 x.2)) (fun L x => ?_) K (bq11, bq12)
  exact .trans (b := f27_b10 K a0 y1 (f27_j14 K a0 y1 L bq11 bq12 (realL (f27E K) 1)) (fun v0 v1 => L (f27_fr10 a0 y1 v0 v1)) x.1 x.2) (by kernel_rfl) (by rw [f27_u14] <;> rfl)
theorem f27_run (a0 : Int × tL × List Int) : rM (f27E K) Tryz.f27 (f27M K) (a0, ()) = f27G K a0 :=
  runF_G (n0 := 1) (by rfl) (.trans (b := f27_g K a0 (f27_j10 K a0 (realL (f27E K) 1))) (by kernel_rfl) (by rw [f27_u10] <;> rfl))
theorem f68_u2 (a0 : List tM) (a1 : tA × Int × Int) : f68_j2 K a0 a1 (realL (f68E K) 1) = fun bq3 => f68_l2 K a0 a1 K bq3 := by
  funext bq3
  exact loop_o (fun x => (f68_fr2 a0 a1 x)) (fun L x => by kernel_rfl) K bq3
theorem f68_run (a0 : List tM) (a1 : tA × Int × Int) : rM (f68E K) Tryz.f68 (f68M K) (a0, a1, ()) = f68G K a0 a1 :=
  runF_G (n0 := 1) (by rfl) (.trans (b := f68_g K a0 a1 (f68_j2 K a0 a1 (realL (f68E K) 1))) (by kernel_rfl) (by rw [f68_u2] <;> rfl))
theorem f72_u3 (a0 : List Int) (a1 : Int) : f72_j3 K a0 a1 (realL (f72E K) 1) = fun y1 bq4 bq5 => f72_l3 K a0 a1 y1 K bq4 bq5 := by
  funext y1 bq4 bq5
  exact loop_o (fun x => (f72_fr3 a0 a1 y1 x.1 x.2)) (fun L x => by kernel_rfl) K (bq4, bq5)
theorem f72_run (a0 : List Int) (a1 : Int) : rM (f72E K) Tryz.f72 (f72M K) (a0, a1, ()) = f72G K a0 a1 :=
  runF_G (n0 := 1) (by rfl) (.trans (b := f72_g K a0 a1 (f72_j3 K a0 a1 (realL (f72E K) 1))) (by kernel_rfl) (by rw [f72_u3] <;> rfl))
theorem f123_u9 (a0 : List tV) (F7 : Fr → Option (List tV)) (bq8 : Int) : f123_j9 K a0 F7 bq8 (realL (f123E K) 1) = fun q8 bq10 bq11 bq12 => f123_l9 K a0 q8 K bq10 bq11 bq12 := by
  funext q8 bq10 bq11 bq12
  exact loop_o (fun x => (f123_fr9 a0 q8 x.1 x.2.1 x.2.2)) (fun L x => by kernel_rfl) K (bq10, bq11, bq12)
theorem f123_u7 (a0 : List tV) : f123_j7 K a0 (realL (f123E K) 1) = fun bq8 => f123_l7 K a0 K bq8 := by
  funext bq8
  refine loop_o (fun x => (f123_fr7 a0 x)) (fun L x => ?_) K bq8
  exact .trans (b := f123_b7 K a0 (f123_j9 K a0 L bq8 (realL (f123E K) 1)) (fun v0 => L (f123_fr7 a0 v0)) x) (by kernel_rfl) (by rw [f123_u9] <;> rfl)
theorem f123_run (a0 : List tV) : rM (f123E K) Tryz.f123 (f123M K) (a0, ()) = f123G K a0 :=
  runF_G (n0 := 1) (by rfl) (.trans (b := f123_g K a0 (f123_j7 K a0 (realL (f123E K) 1))) (by kernel_rfl) (by rw [f123_u7] <;> rfl))
theorem f74_u3 (a0 : Int × Int × Int) (a1 : List tM) (a2 : Int × Int) : f74_j3 K a0 a1 a2 (realL (f74E K) 1) = fun bq4 bq5 => f74_l3 K a0 a1 a2 K bq4 bq5 := by
  funext bq4 bq5
  exact loop_o (fun x => (f74_fr3 a0 a1 a2 x.1 x.2)) (fun L x => by kernel_rfl) K (bq4, bq5)
theorem f74_run (a0 : Int × Int × Int) (a1 : List tM) (a2 : Int × Int) : rM (f74E K) Tryz.f74 (f74M K) (a0, a1, a2, ()) = f74G K a0 a1 a2 :=
  runF_G (n0 := 1) (by rfl) (.trans (b := f74_g K a0 a1 a2 (f74_j3 K a0 a1 a2 (realL (f74E K) 1))) (by kernel_rfl) (by rw [f74_u3] <;> rfl))
theorem f30_u22 (a0 : Int × Int × Int) (a1 : List tM) (y3 : List tV) (F16 : Fr → Option ((List (List tV)) × List Int)) (bq17 : Int) (bq18 : List (List tV)) (bq19 : List Int) : f30_j22 K a0 a1 y3 F16 bq17 bq18 bq19 (realL (f30E K) 1) = fun q17 q18 q19 y20 y21 bq23 bq24 => f30_l22 K a0 a1 q17 q18 q19 y3 y20 y21 (fun v0 v1 v2 => F16 (f30_fr16 a0 a1 y3 v0 v1 v2)) K bq23 bq24 := by
  funext q17 q18 q19 y20 y21 bq23 bq24
  exact loop_o (fun x => (f30_fr22 a0 a1 q17 q18 q19 y3 y20 y21 x.1 x.2)) (fun L x => by kernel_rfl) K (bq23, bq24)
theorem f30_u16 (a0 : Int × Int × Int) (a1 : List tM) : f30_j16 K a0 a1 (realL (f30E K) 1) = fun y3 bq17 bq18 bq19 => f30_l16 K a0 a1 y3 K bq17 bq18 bq19 := by
  funext y3 bq17 bq18 bq19
  refine loop_o (fun x => (f30_fr16 a0 a1 y3 x.1 x.2.1 x.2.2)) (fun L x => ?_) K (bq17, bq18, bq19)
  exact .trans (b := f30_b16 K a0 a1 y3 (f30_j22 K a0 a1 y3 L bq17 bq18 bq19 (realL (f30E K) 1)) (fun v0 v1 v2 => L (f30_fr16 a0 a1 y3 v0 v1 v2)) x.1 x.2.1 x.2.2) (by kernel_rfl) (by rw [f30_u22] <;> rfl)
theorem f30_run (a0 : Int × Int × Int) (a1 : List tM) : rM (f30E K) Tryz.f30 (f30M K) (a0, a1, ()) = f30G K a0 a1 :=
  runF_G (n0 := 1) (by rfl) (.trans (b := f30_g K a0 a1 (f30_j16 K a0 a1 (realL (f30E K) 1))) (by kernel_rfl) (by rw [f30_u16] <;> rfl))
theorem f31_u5 (a0 : Int × tL × List Int) (a1 : List tV) : f31_j5 K a0 a1 (realL (f31E K) 2) = fun bq6 bq7 bq8 => f31_l5 K a0 a1 K bq6 bq7 bq8 := by
  funext bq6 bq7 bq8
  exact loop_o (fun x => (f31_fr5 a0 a1 x.1 x.2.1 x.2.2)) (fun L x => by kernel_rfl) K (bq6, bq7, bq8)
theorem f31_run (a0 : Int × tL × List Int) (a1 : List tV) : rM (f31E K) Tryz.f31 (f31M K) (a0, a1, ()) = f31G K a0 a1 :=
  runF_G (n0 := 2) (by rfl) (.trans (b := f31_g K a0 a1 (f31_j5 K a0 a1 (realL (f31E K) 2))) (by kernel_rfl) (by rw [f31_u5] <;> rfl))
theorem f7_u20 (a0 : Int × tL × List Int) : f7_j20 K a0 (realL (f7E K) 1) = fun q11 q12 q13 q14 y1 y2 y5 y18 bq21 bq22 => f7_l20 K a0 q11 q12 q13 q14 y1 y2 y5 y18 K bq21 bq22 := by
  funext q11 q12 q13 q14 y1 y2 y5 y18 bq21 bq22
  exact loop_o (fun x => (f7_fr20 a0 q11 q12 q13 q14 y1 y2 y5 y18 x.1 x.2)) (fun L x => by kernel_rfl) K (bq21, bq22)
theorem f7_u10 (a0 : Int × tL × List Int) : f7_j10 K a0 (realL (f7E K) 1) = fun y1 y2 y5 bq11 bq12 bq13 bq14 => f7_l10 K a0 y1 y2 y5 K bq11 bq12 bq13 bq14 := by
  funext y1 y2 y5 bq11 bq12 bq13 bq14
  refine loop_o (fun x => (f7_fr10 a0 y1 y2 y5 x.1 x.2.1 x.2.2.1 x.2.2.2)) (fun L x => ?_) K (bq11, bq12, bq13, bq14)
  exact .trans (b := f7_b10 K a0 y1 y2 y5 (f7_j20 K a0 (realL (f7E K) 1)) (fun v0 v1 v2 v3 => L (f7_fr10 a0 y1 y2 y5 v0 v1 v2 v3)) x.1 x.2.1 x.2.2.1 x.2.2.2) (by kernel_rfl) (by rw [f7_u20] <;> rfl)
theorem f7_run (a0 : Int × tL × List Int) : rM (f7E K) Tryz.f7 (f7M K) (a0, ()) = f7G K a0 :=
  runF_G (n0 := 1) (by rfl) (.trans (b := f7_g K a0 (f7_j10 K a0 (realL (f7E K) 1))) (by kernel_rfl) (by rw [f7_u10] <;> rfl))
theorem f33_u2 (a0 a1 : List Int) : f33_j2 K a0 a1 (realL (f33E K) 2) = fun bq3 => f33_l2 K a0 a1 K bq3 := by
  funext bq3
  exact loop_o (fun x => (f33_fr2 a0 a1 x)) (fun L x => by kernel_rfl) K bq3
theorem f33_run (a0 a1 : List Int) : rM (f33E K) Tryz.f33 (f33M K) (a0, a1, ()) = f33G K a0 a1 :=
  runF_G (n0 := 2) (by rfl) (.trans (b := f33_g K a0 a1 (f33_j2 K a0 a1 (realL (f33E K) 2))) (by kernel_rfl) (by rw [f33_u2] <;> rfl))
end Go.Proofs.YthlpehmnjanmnaaGreatDoor.X
