/- Functions of the program as plain Lean functions, and that the program does what they say. Printed by gen.py. -/
import Derived.Test.YthcpeehhjhbepaaGreatDoorQsD1
namespace Go.Proofs.YthcpeehhjhbepaaGreatDoor.X
open Go
set_option maxRecDepth 100000
attribute [local instance] cwD
set_option linter.unusedVariables false
variable (K : Nat)
include K
theorem f18_u2 (a0 : ByteArray) (a1 : Int) : f18_j2 K a0 a1 (realL (f18E K) 0) = fun bq3 bq4 bq5 => f18_l2 K a0 a1 K bq3 bq4 bq5 := by
  funext bq3 bq4 bq5
  exact loop_o (fun x => (f18_fr2 a0 a1 x.1 x.2.1 x.2.2)) (fun L x => by kernel_rfl) K (bq3, bq4, bq5)
theorem f18_run (a0 : ByteArray) (a1 : Int) : rM (f18E K) Tryz.f18 (f18M K) (a0, a1, ()) = f18G K a0 a1 :=
  runF_G (n0 := 0) (by rfl) (.trans (b := f18_g K a0 a1 (f18_j2 K a0 a1 (realL (f18E K) 0))) (by kernel_rfl) (by rw [f18_u2] <;> rfl))
omit K
theorem f70_run (K : Nat) (rec : Int → Option ByteArray) (a0 : Int) : runF (f70E K rec) Tryz.f70 [(.ro, sI)] [.str] (a0, ()) = f70_s K rec a0 := by kernel_rfl
include K
theorem f37_u2 (a0 : ByteArray) : f37_j2 K a0 (realL (f37E K) 0) = fun bq3 bq4 => f37_l2 K a0 K bq3 bq4 := by
  funext bq3 bq4
  exact loop_o (fun x => (f37_fr2 a0 x.1 x.2)) (fun L x => by kernel_rfl) K (bq3, bq4)
theorem f37_run (a0 : ByteArray) : rM (f37E K) Tryz.f37 (f37M K) (a0, ()) = f37G K a0 :=
  runF_G (n0 := 0) (by rfl) (.trans (b := f37_g K a0 (f37_j2 K a0 (realL (f37E K) 0))) (by kernel_rfl) (by rw [f37_u2] <;> rfl))
theorem f62_u3 (a0 : List ByteArray) : f62_j3 K a0 (realL (f62E K) 1) = fun bq4 bq5 => f62_l3 K a0 K bq4 bq5 := by
  funext bq4 bq5
  exact loop_o (fun x => (f62_fr3 a0 x.1 x.2)) (fun L x => by kernel_rfl) K (bq4, bq5)
theorem f62_run (a0 : List ByteArray) : rM (f62E K) Tryz.f62 (f62M K) (a0, ()) = f62G K a0 :=
  runF_G (n0 := 1) (by rfl) (.trans (b := f62_g K a0 (f62_j3 K a0 (realL (f62E K) 1))) (by kernel_rfl) (by rw [f62_u3] <;> rfl))
theorem f142_u6 (a0 : Int × Int × Int × Int) : f142_j6 K a0 (realL (f142E K) 0) = fun bq7 bq8 bq9 bq10 bq11 => f142_l6 K a0 K bq7 bq8 bq9 bq10 bq11 := by
  funext bq7 bq8 bq9 bq10 bq11
  exact loop_o (fun x => (f142_fr6 a0 x.1 x.2.1 x.2.2.1 x.2.2.2.1 x.2.2.2.2)) (fun L x => by kernel_rfl) K (bq7, bq8, bq9, bq10, bq11)
theorem f142_run (a0 : Int × Int × Int × Int) : rM (f142E K) Tryz.f142 (f142M K) (a0, ()) = f142G K a0 :=
  runF_G (n0 := 0) (by rfl) (.trans (b := f142_g K a0 (f142_j6 K a0 (realL (f142E K) 0))) (by kernel_rfl) (by rw [f142_u6] <;> rfl))
omit K
theorem f144_run (K : Nat) (rec : Int → Int → Option Int) (a0 a1 : Int) : runF (f144E K rec) Tryz.f144 [(.ro, sI), (.ro, sI)] [sI] (a0, a1, ()) = f144_s K rec a0 a1 := by kernel_rfl
include K
theorem f106_u15 (a0 : List tV) (F10 : Fr → Option tL) (bq11 bq12 bq13 bq14 : Int) : f106_j15 K a0 F10 bq11 bq12 bq13 bq14 (realL (f106E K) 1) = fun q11 q12 bq16 bq17 bq18 bq19 => f106_l15 K a0 q11 q12 (fun v0 v1 v2 v3 => F10 (f106_fr10 a0 v0 v1 v2 v3)) K bq16 bq17 bq18 bq19 := by
  funext q11 q12 bq16 bq17 bq18 bq19
  exact loop_o (fun x => (f106_fr15 a0 q11 q12 x.1 x.2.1 x.2.2.1 x.2.2.2)) (fun L x => by kernel_rfl) K (bq16, bq17, bq18, bq19)
theorem f106_u10 (a0 : List tV) : f106_j10 K a0 (realL (f106E K) 1) = fun bq11 bq12 bq13 bq14 => f106_l10 K a0 K bq11 bq12 bq13 bq14 := by
  funext bq11 bq12 bq13 bq14
  refine loop_o (fun x => (f106_fr10 a0 x.1 x.2.1 x.2.2.1 x.2.2.2)) (fun L x => ?_) K (bq11, bq12, bq13, bq14)
  exact .trans (b := f106_b10 K a0 (f106_j15 K a0 L bq11 bq12 bq13 bq14 (realL (f106E K) 1)) (fun v0 v1 v2 v3 => L (f106_fr10 a0 v0 v1 v2 v3)) x.1 x.2.1 x.2.2.1 x.2.2.2) (by kernel_rfl) (by rw [f106_u15] <;> rfl)
theorem f106_run (a0 : List tV) : rM (f106E K) Tryz.f106 (f106M K) (a0, ()) = f106G K a0 :=
  runF_G (n0 := 1) (by rfl) (.trans (b := f106_g K a0 (f106_j10 K a0 (realL (f106E K) 1))) (by kernel_rfl) (by rw [f106_u10] <;> rfl))
theorem f146_u2 (a0 a1 : List Int) : f146_j2 K a0 a1 (realL (f146E K) 2) = fun bq3 => f146_l2 K a0 a1 K bq3 := by
  funext bq3
  exact loop_o (fun x => (f146_fr2 a0 a1 x)) (fun L x => by kernel_rfl) K bq3
theorem f146_run (a0 a1 : List Int) : rM (f146E K) Tryz.f146 (f146M K) (a0, a1, ()) = f146G K a0 a1 :=
  runF_G (n0 := 2) (by rfl) (.trans (b := f146_g K a0 a1 (f146_j2 K a0 a1 (realL (f146E K) 2))) (by kernel_rfl) (by rw [f146_u2] <;> rfl))
theorem f44_u6 (a0 : List tM) (a1 : tA × Int × Int) : f44_j6 K a0 a1 (realL (f44E K) 1) = fun bq7 bq8 => f44_l6 K a0 a1 K bq7 bq8 := by
  funext bq7 bq8
  exact loop_o (fun x => (f44_fr6 a0 a1 x.1 x.2)) (fun L x => by kernel_rfl) K (bq7, bq8)
theorem f44_run (a0 : List tM) (a1 : tA × Int × Int) : rM (f44E K) Tryz.f44 (f44M K) (a0, a1, ()) = f44G K a0 a1 :=
  runF_G (n0 := 1) (by rfl) (.trans (b := f44_g K a0 a1 (f44_j6 K a0 a1 (realL (f44E K) 1))) (by kernel_rfl) (by rw [f44_u6] <;> rfl))
theorem f11_u21 (a0 : Int × Int × Int) (a1 : List tM) (F17 : Fr → Option (List tM)) (bq18 : Int) (bq19 bq20 : List tM) : f11_j21 K a0 a1 F17 bq18 bq19 bq20 (realL (f11E K) 1) = fun q18 q20 bq22 bq23 bq24 => f11_l21 K a0 a1 q18 q20 (fun v0 v1 v2 => F17 (f11_fr17 a0 a1 v0 v1 v2)) K bq22 bq23 bq24 := by
  funext q18 q20 bq22 bq23 bq24
  exact loop_o (fun x => (f11_fr21 a0 a1 q18 q20 x.1 x.2.1 x.2.2)) (fun L x => by kernel_rfl) K (bq22, bq23, bq24)
theorem f11_u17 (a0 : Int × Int × Int) (a1 : List tM) : f11_j17 K a0 a1 (realL (f11E K) 1) = fun bq18 bq19 bq20 => f11_l17 K a0 a1 K bq18 bq19 bq20 := by
  funext bq18 bq19 bq20
  refine loop_o (fun x => (f11_fr17 a0 a1 x.1 x.2.1 x.2.2)) (fun L x => ?_) K (bq18, bq19, bq20)
  exact .trans (b := f11_b17 K a0 a1 (f11_j21 K a0 a1 L bq18 bq19 bq20 (realL (f11E K) 1)) (fun v0 v1 v2 => L (f11_fr17 a0 a1 v0 v1 v2)) x.1 x.2.1 x.2.2) (by kernel_rfl) (by rw [f11_u21] <;> rfl)
theorem f11_run (a0 : Int × Int × Int) (a1 : List tM) : rM (f11E K) Tryz.f11 (f11M K) (a0, a1, ()) = f11G K a0 a1 :=
  runF_G (n0 := 1) (by rfl) (.trans (b := f11_g K a0 a1 (f11_j17 K a0 a1 (realL (f11E K) 1))) (by kernel_rfl) (by rw [f11_u17] <;> rfl))
theorem f38_u9 (a0 : Int × Int × Int) (F6 : Fr → Option (List tV)) (bq7 : Int) (bq8 : List tV) : f38_j9 K a0 F6 bq7 bq8 (realL (f38E K) 0) = fun q7 bq10 bq11 => f38_l9 K a0 q7 (fun v0 v1 => F6 (f38_fr6 a0 v0 v1)) K bq10 bq11 := by
  funext q7 bq10 bq11
  exact loop_o (fun x => (f38_fr9 a0 q7 x.1 x.2)) (fun L x => by kernel_rfl) K (bq10, bq11)
theorem f38_u6 (a0 : Int × Int × Int) : f38_j6 K a0 (realL (f38E K) 0) = fun bq7 bq8 => f38_l6 K a0 K bq7 bq8 := by
  funext bq7 bq8
  refine loop_o (fun x => (f38_fr6 a0 x.1 x.2)) (fun L x => ?_) K (bq7, bq8)
  exact .trans (b := f38_b6 K a0 (f38_j9 K a0 L bq7 bq8 (realL (f38E K) 0)) (fun v0 v1 => L (f38_fr6 a0 v0 v1)) x.1 x.2) (by kernel_rfl) (by rw [f38_u9] <;> rfl)
theorem f38_run (a0 : Int × Int × Int) : rM (f38E K) Tryz.f38 (f38M K) (a0, ()) = f38G K a0 :=
  runF_G (n0 := 0) (by rfl) (.trans (b := f38_g K a0 (f38_j6 K a0 (realL (f38E K) 0))) (by kernel_rfl) (by rw [f38_u6] <;> rfl))
theorem f71_u3 (a0 : List tV) (a1 : Int × Int) : f71_j3 K a0 a1 (realL (f71E K) 1) = fun bq4 => f71_l3 K a0 a1 K bq4 := by
  funext bq4
  exact loop_o (fun x => (f71_fr3 a0 a1 x)) (fun L x => by kernel_rfl) K bq4
theorem f71_run (a0 : List tV) (a1 : Int × Int) : rM (f71E K) Tryz.f71 (f71M K) (a0, a1, ()) = f71G K a0 a1 :=
  runF_G (n0 := 1) (by rfl) (.trans (b := f71_g K a0 a1 (f71_j3 K a0 a1 (realL (f71E K) 1))) (by kernel_rfl) (by rw [f71_u3] <;> rfl))
theorem f39_u4 (a0 : Int × Int × Int) (a1 : List tM) (a2 : Int × Int) : f39_j4 K a0 a1 a2 (realL (f39E K) 1) = fun bq5 bq6 => f39_l4 K a0 a1 a2 K bq5 bq6 := by
  funext bq5 bq6
  exact loop_o (fun x => (f39_fr4 a0 a1 a2 x.1 x.2)) (fun L x => by kernel_rfl) K (bq5, bq6)
theorem f39_run (a0 : Int × Int × Int) (a1 : List tM) (a2 : Int × Int) : rM (f39E K) Tryz.f39 (f39M K) (a0, a1, a2, ()) = f39G K a0 a1 a2 :=
  runF_G (n0 := 1) (by rfl) (.trans (b := f39_g K a0 a1 a2 (f39_j4 K a0 a1 a2 (realL (f39E K) 1))) (by kernel_rfl) (by rw [f39_u4] <;> rfl))
theorem f21_u4 (a0 : Int × Int × Int) (a1 : List tM) : f21_j4 K a0 a1 (realL (f21E K) 1) = fun y1 bq5 bq6 => f21_l4 K a0 a1 y1 K bq5 bq6 := by
  funext y1 bq5 bq6
  exact loop_o (fun x => (f21_fr4 a0 a1 y1 x.1 x.2)) (fun L x => by kernel_rfl) K (bq5, bq6)
theorem f21_run (a0 : Int × Int × Int) (a1 : List tM) : rM (f21E K) Tryz.f21 (f21M K) (a0, a1, ()) = f21G K a0 a1 :=
  runF_G (n0 := 1) (by rfl) (.trans (b := f21_g K a0 a1 (f21_j4 K a0 a1 (realL (f21E K) 1))) (by kernel_rfl) (by rw [f21_u4] <;> rfl))
theorem f10_u12 (a0 : Int × Int × Int) (a1 : List tM) (y1 : List (List tV)) (F9 : Fr → Option (List Int)) (bq10 : Int) (bq11 : List Int) : f10_j12 K a0 a1 y1 F9 bq10 bq11 (realL (f10E K) 1) = fun q10 bq13 bq14 => f10_l12 K a0 a1 q10 y1 (fun v0 v1 => F9 (f10_fr9 a0 a1 y1 v0 v1)) K bq13 bq14 := by
  funext q10 bq13 bq14
  exact loop_o (fun x => (f10_fr12 a0 a1 q10 y1 x.1 x.2)) (fun L x => by kernel_rfl) K (bq13, bq14)
theorem f10_u9 (a0 : Int × Int × Int) (a1 : List tM) : f10_j9 K a0 a1 (realL (f10E K) 1) = fun y1 bq10 bq11 => f10_l9 K a0 a1 y1 K bq10 bq11 := by
  funext y1 bq10 bq11
  refine loop_o (fun x => (f10_fr9 a0 a1 y1 x.1 x.2)) (fun L x => ?_) K (bq10, bq11)
  exact .trans (b := f10_b9 K a0 a1 y1 (f10_j12 K a0 a1 y1 L bq10 bq11 (realL (f10E K) 1)) (fun v0 v1 => L (f10_fr9 a0 a1 y1 v0 v1)) x.1 x.2) (by kernel_rfl) (by rw [f10_u12] <;> rfl)
theorem f10_run (a0 : Int × Int × Int) (a1 : List tM) : rM (f10E K) Tryz.f10 (f10M K) (a0, a1, ()) = f10G K a0 a1 :=
  runF_G (n0 := 1) (by rfl) (.trans (b := f10_g K a0 a1 (f10_j9 K a0 a1 (realL (f10E K) 1))) (by kernel_rfl) (by rw [f10_u9] <;> rfl))
theorem f20_u11 (a0 : Int × Int × Int) (a1 : List Int) (a2 : List (tV × Int)) (F9 : Fr → Option (Int × Int × Bool)) (bq10 : Int) : f20_j11 K a0 a1 a2 F9 bq10 (realL (f20E K) 2) = fun q10 bq12 => f20_l11 K a0 a1 a2 q10 (fun v0 => F9 (f20_fr9 a0 a1 a2 v0)) K bq12 := by
  funext q10 bq12
  exact loop_o (fun x => (f20_fr11 a0 a1 a2 q10 x)) (fun L x => by kernel_rfl) K bq12
theorem f20_u9 (a0 : Int × Int × Int) (a1 : List Int) (a2 : List (tV × Int)) : f20_j9 K a0 a1 a2 (realL (f20E K) 2) = fun bq10 => f20_l9 K a0 a1 a2 K bq10 := by
  funext bq10
  refine loop_o (fun x => (f20_fr9 a0 a1 a2 x)) (fun L x => ?_) K bq10
  exact .trans (b := f20_b9 K a0 a1 a2 (f20_j11 K a0 a1 a2 L bq10 (realL (f20E K) 2)) (fun v0 => L (f20_fr9 a0 a1 a2 v0)) x) (by kernel_rfl) (by rw [f20_u11] <;> rfl)
theorem f20_run (a0 : Int × Int × Int) (a1 : List Int) (a2 : List (tV × Int)) : rM (f20E K) Tryz.f20 (f20M K) (a0, a1, a2, ()) = f20G K a0 a1 a2 :=
  runF_G (n0 := 2) (by rfl) (.trans (b := f20_g K a0 a1 a2 (f20_j9 K a0 a1 a2 (realL (f20E K) 2))) (by kernel_rfl) (by rw [f20_u9] <;> rfl))
theorem f9_u4 (a0 : ByteArray) : f9_j4 K a0 (realL (f9E K) 0) = fun y1 bq5 bq6 bq7 bq8 bq9 bq10 bq11 bq12 => f9_l4 K a0 y1 K bq5 bq6 bq7 bq8 bq9 bq10 bq11 bq12 := by
  funext y1 bq5 bq6 bq7 bq8 bq9 bq10 bq11 bq12
  exact loop_o (fun x => (f9_fr4 a0 y1 x.1 x.2.1 x.2.2.1 x.2.2.2.1 x.2.2.2.2.1 x.2.2.2.2.2.1 x.2.2.2.2.2.2.1 x.2.2.2.2.2.2.2)) (fun L x => by kernel_rfl) K (bq5, bq6, bq7, bq8, bq9, bq10, bq11, bq12)
theorem f9_run (a0 : ByteArray) : runO (f9E K) Tryz.f9 (.cons sI (.cons sL (.cons sI (.cons (.list 63 sM) (.list 44 (.cons sV sI)))))) [(.ro, .str)] [sI, sI] (a0, ()) = f9G K a0 :=
  runO_G (n0 := 0) (by rfl) (.trans (b := f9_g K a0 (f9_j4 K a0 (realL (f9E K) 0))) (by kernel_rfl) (by rw [f9_u4] <;> rfl))
theorem f4_u15 (a0 : ByteArray) (y1 : Option (Int × tL × Int × (List tM) × List (tV × Int)) × Int × Int) (y4 : List Int) (z2 : Int × tL × Int × (List tM) × List (tV × Int)) (F12 : Fr → Option ((Int × tL × List Int) × Int × Int)) (bq13 : Int) (bq14 : List Int) : f4_j15 K a0 y1 y4 z2 F12 bq13 bq14 (realL (f4E K) 0) = fun q13 bq16 bq17 => f4_l15 K a0 q13 y1 y4 z2 (fun v0 v1 => F12 (f4_fr12 a0 y1 y4 z2 v0 v1)) K bq16 bq17 := by
  funext q13 bq16 bq17
  exact loop_o (fun x => (f4_fr15 a0 q13 y1 y4 z2 x.1 x.2)) (fun L x => by kernel_rfl) K (bq16, bq17)
theorem f4_u12 (a0 : ByteArray) : f4_j12 K a0 (realL (f4E K) 0) = fun y1 y4 z2 bq13 bq14 => f4_l12 K a0 y1 y4 z2 K bq13 bq14 := by
  funext y1 y4 z2 bq13 bq14
  refine loop_o (fun x => (f4_fr12 a0 y1 y4 z2 x.1 x.2)) (fun L x => ?_) K (bq13, bq14)
  exact .trans (b := f4_b12 K a0 y1 y4 z2 (f4_j15 K a0 y1 y4 z2 L bq13 bq14 (realL (f4E K) 0)) (fun v0 v1 => L (f4_fr12 a0 y1 y4 z2 v0 v1)) x.1 x.2) (by kernel_rfl) (by rw [f4_u15] <;> rfl)
theorem f4_run (a0 : ByteArray) : rM (f4E K) Tryz.f4 (f4M K) (a0, ()) = f4G K a0 :=
  runF_G (n0 := 0) (by rfl) (.trans (b := f4_g K a0 (f4_j12 K a0 (realL (f4E K) 0))) (by kernel_rfl) (by rw [f4_u12] <;> rfl))
theorem f79_u4 (a0 a1 : ByteArray) (a2 : Int) : f79_j4 K a0 a1 a2 (realL (f79E K) 0) = fun y1 bq5 bq6 => f79_l4 K a0 a1 a2 y1 K bq5 bq6 := by
  funext y1 bq5 bq6
  exact loop_o (fun x => (f79_fr4 a0 a1 a2 y1 x.1 x.2)) (fun L x => by kernel_rfl) K (bq5, bq6)
theorem f79_run (a0 a1 : ByteArray) (a2 : Int) : rM (f79E K) Tryz.f79 (f79M K) (a0, a1, a2, ()) = f79G K a0 a1 a2 :=
  runF_G (n0 := 0) (by rfl) (.trans (b := f79_g K a0 a1 a2 (f79_j4 K a0 a1 a2 (realL (f79E K) 0))) (by kernel_rfl) (by rw [f79_u4] <;> rfl))
theorem f114_u2 (a0 : ByteArray) : f114_j2 K a0 (realL (f114E K) 0) = fun bq3 bq4 => f114_l2 K a0 K bq3 bq4 := by
  funext bq3 bq4
  exact loop_o (fun x => (f114_fr2 a0 x.1 x.2)) (fun L x => by kernel_rfl) K (bq3, bq4)
theorem f114_run (a0 : ByteArray) : rM (f114E K) Tryz.f114 (f114M K) (a0, ()) = f114G K a0 :=
  runF_G (n0 := 0) (by rfl) (.trans (b := f114_g K a0 (f114_j2 K a0 (realL (f114E K) 0))) (by kernel_rfl) (by rw [f114_u2] <;> rfl))
theorem f160_u8 (a0 : Int) : f160_j8 K a0 (realL (f160E K) 0) = fun bq9 bq10 => f160_l8 K a0 K bq9 bq10 := by
  funext bq9 bq10
  exact loop_o (fun x => (f160_fr8 a0 x.1 x.2)) (fun L x => by kernel_rfl) K (bq9, bq10)
theorem f160_run (a0 : Int) : rM (f160E K) Tryz.f160 (f160M K) (a0, ()) = f160G K a0 :=
  runF_G (n0 := 0) (by rfl) (.trans (b := f160_g K a0 (f160_j8 K a0 (realL (f160E K) 0))) (by kernel_rfl) (by rw [f160_u8] <;> rfl))
theorem f191_u3 (a0 : List tA) (a1 : (tA → Option Bool)) : f191_j3 K a0 a1 (realL (f191E K) 1) = fun bq4 => f191_l3 K a0 a1 K bq4 := by
  funext bq4
  exact loop_o (fun x => (f191_fr3 a0 a1 x)) (fun L x => by kernel_rfl) K bq4
theorem f191_run (a0 : List tA) (a1 : (tA → Option Bool)) : rM (f191E K) Tryz.f191 (f191M K) (a0, a1, ()) = f191G K a0 a1 :=
  runF_G (n0 := 1) (by rfl) (.trans (b := f191_g K a0 a1 (f191_j3 K a0 a1 (realL (f191E K) 1))) (by kernel_rfl) (by rw [f191_u3] <;> rfl))
theorem f159_u4 (a0 : List tA) (a1 : (tA → Option Bool)) : f159_j4 K a0 a1 (realL (f159E K) 1) = fun y1 bq5 bq6 bq7 => f159_l4 K a1 y1 K bq5 bq6 bq7 := by
  funext y1 bq5 bq6 bq7
  exact loop_o (fun x => (f159_fr4 a1 y1 x.1 x.2.1 x.2.2)) (fun L x => by kernel_rfl) K (bq5, bq6, bq7)
theorem f159_run (a0 : List tA) (a1 : (tA → Option Bool)) : rM (f159E K) Tryz.f159 (f159M K) (a0, a1, ()) = f159G K a0 a1 :=
  runF_G (n0 := 1) (by rfl) (.trans (b := f159_g K a0 a1 (f159_j4 K a0 a1 (realL (f159E K) 1))) (by kernel_rfl) (by rw [f159_u4] <;> rfl))
theorem f157_u2 (a0 : List tA) (a1 : Int × Int × Int × Int) : f157_j2 K a0 a1 (realL (f157E K) 1) = fun bq3 => f157_l2 K a0 a1 K bq3 := by
  funext bq3
  exact loop_o (fun x => (f157_fr2 a0 a1 x)) (fun L x => by kernel_rfl) K bq3
theorem f157_run (a0 : List tA) (a1 : Int × Int × Int × Int) : rM (f157E K) Tryz.f157 (f157M K) (a0, a1, ()) = f157G K a0 a1 :=
  runF_G (n0 := 1) (by rfl) (.trans (b := f157_g K a0 a1 (f157_j2 K a0 a1 (realL (f157E K) 1))) (by kernel_rfl) (by rw [f157_u2] <;> rfl))
theorem f134_u2 (a0 a1 : List Int) : f134_j2 K a0 a1 (realL (f134E K) 2) = fun bq3 => f134_l2 K a0 a1 K bq3 := by
  funext bq3
  exact loop_o (fun x => (f134_fr2 a0 a1 x)) (fun L x => by kernel_rfl) K bq3
theorem f134_run (a0 a1 : List Int) : rM (f134E K) Tryz.f134 (f134M K) (a0, a1, ()) = f134G K a0 a1 :=
  runF_G (n0 := 2) (by rfl) (.trans (b := f134_g K a0 a1 (f134_j2 K a0 a1 (realL (f134E K) 2))) (by kernel_rfl) (by rw [f134_u2] <;> rfl))
theorem f61_u16 (a0 : Int × Int × Int) (a1 : List tM) (F12 : Fr → Option (List tM)) (bq13 : Int) (bq14 : List (tM × Bool)) (bq15 : List tM) : f61_j16 K a0 a1 F12 bq13 bq14 bq15 (realL (f61E K) 1) = fun q13 q15 bq17 bq18 bq19 => f61_l16 K a0 a1 q13 q15 (fun v0 v1 v2 => F12 (f61_fr12 a0 a1 v0 v1 v2)) K bq17 bq18 bq19 := by
  funext q13 q15 bq17 bq18 bq19
  exact loop_o (fun x => (f61_fr16 a0 a1 q13 q15 x.1 x.2.1 x.2.2)) (fun L x => by kernel_rfl) K (bq17, bq18, bq19)
theorem f61_u12 (a0 : Int × Int × Int) (a1 : List tM) : f61_j12 K a0 a1 (realL (f61E K) 1) = fun bq13 bq14 bq15 => f61_l12 K a0 a1 K bq13 bq14 bq15 := by
  funext bq13 bq14 bq15
  refine loop_o (fun x => (f61_fr12 a0 a1 x.1 x.2.1 x.2.2)) (fun L x => ?_) K (bq13, bq14, bq15)
  exact .trans (b := f61_b12 K a0 a1 (f61_j16 K a0 a1 L bq13 bq14 bq15 (realL (f61E K) 1)) (fun v0 v1 v2 => L (f61_fr12 a0 a1 v0 v1 v2)) x.1 x.2.1 x.2.2) (by kernel_rfl) (by rw [f61_u16] <;> rfl)
theorem f61_run (a0 : Int × Int × Int) (a1 : List tM) : rM (f61E K) Tryz.f61 (f61M K) (a0, a1, ()) = f61G K a0 a1 :=
  runF_G (n0 := 1) (by rfl) (.trans (b := f61_g K a0 a1 (f61_j12 K a0 a1 (realL (f61E K) 1))) (by kernel_rfl) (by rw [f61_u12] <;> rfl))
theorem f127_u23 (a0 : Int) (a1 : Int × Int × Int) (a2 : List tM) (q7 : Int) (q8 : List (tM × Bool)) (y1 : List tA) (y12 : Int × Int × Int × Int) (F21 : Fr → Option Bool) (bq22 : Int) : f127_j23 K a0 a1 a2 q7 q8 y1 y12 F21 bq22 (realL (f127E K) 1) = fun q22 bq24 => f127_l23 K a0 a1 a2 q7 q8 q22 y1 y12 (fun v0 => F21 (f127_fr21 a0 a1 a2 q7 q8 y1 y12 v0)) K bq24 := by
  funext q22 bq24
  exact loop_o (fun x => (f127_fr23 a0 a1 a2 q7 q8 q22 y1 y12 x)) (fun L x => by kernel_rfl) K bq24
theorem f127_u21 (a0 : Int) (a1 : Int × Int × Int) (a2 : List tM) : f127_j21 K a0 a1 a2 (realL (f127E K) 1) = fun q7 q8 y1 y12 bq22 => f127_l21 K a0 a1 a2 q7 q8 y1 y12 K bq22 := by
  funext q7 q8 y1 y12 bq22
  refine loop_o (fun x => (f127_fr21 a0 a1 a2 q7 q8 y1 y12 x)) (fun L x => ?_) K bq22
  exact .trans (b := f127_b21 K a0 a1 a2 q7 q8 y1 y12 (f127_j23 K a0 a1 a2 q7 q8 y1 y12 L bq22 (realL (f127E K) 1)) (fun v0 => L (f127_fr21 a0 a1 a2 q7 q8 y1 y12 v0)) x) (by kernel_rfl) (by rw [f127_u23] <;> rfl)
theorem f127_u6 (a0 : Int) (a1 : Int × Int × Int) (a2 : List tM) : f127_j6 K a0 a1 a2 (realL (f127E K) 1) = fun y1 bq7 bq8 => f127_l6 K a0 a1 a2 y1 K bq7 bq8 := by
  funext y1 bq7 bq8
  refine loop_o (fun x => (f127_fr6 a0 a1 a2 y1 x.1 x.2)) (fun L x => ?_) K (bq7, bq8)
  exact .trans (b := f127_b6 K a0 a1 a2 y1 (f127_j21 K a0 a1 a2 (realL (f127E K) 1)) (fun v0 v1 => L (f127_fr6 a0 a1 a2 y1 v0 v1)) x.1 x.2) (by kernel_rfl) (by rw [f127_u21] <;> rfl)
theorem f127_run (a0 : Int) (a1 : Int × Int × Int) (a2 : List tM) : rM (f127E K) Tryz.f127 (f127M K) (a0, a1, a2, ()) = f127G K a0 a1 a2 :=
  runF_G (n0 := 1) (by rfl) (.trans (b := f127_g K a0 a1 a2 (f127_j6 K a0 a1 a2 (realL (f127E K) 1))) (by kernel_rfl) (by rw [f127_u6] <;> rfl))
theorem f84_u4 (a0 : Int) (a1 : Int × Int × Int) (a2 : List (List tM)) : f84_j4 K a0 a1 a2 (realL (f84E K) 1) = fun y1 bq5 => f84_l4 K a0 a1 a2 y1 K bq5 := by
  funext y1 bq5
  exact loop_o (fun x => (f84_fr4 a0 a1 a2 y1 x)) (fun L x => by kernel_rfl) K bq5
theorem f84_run (a0 : Int) (a1 : Int × Int × Int) (a2 : List (List tM)) : rM (f84E K) Tryz.f84 (f84M K) (a0, a1, a2, ()) = f84G K a0 a1 a2 :=
  runF_G (n0 := 1) (by rfl) (.trans (b := f84_g K a0 a1 a2 (f84_j4 K a0 a1 a2 (realL (f84E K) 1))) (by kernel_rfl) (by rw [f84_u4] <;> rfl))
theorem f164_u3 (a0 : List (tV × Int)) (a1 : ((tV × Int) → Option Bool)) : f164_j3 K a0 a1 (realL (f164E K) 1) = fun bq4 => f164_l3 K a0 a1 K bq4 := by
  funext bq4
  exact loop_o (fun x => (f164_fr3 a0 a1 x)) (fun L x => by kernel_rfl) K bq4
theorem f164_run (a0 : List (tV × Int)) (a1 : ((tV × Int) → Option Bool)) : rM (f164E K) Tryz.f164 (f164M K) (a0, a1, ()) = f164G K a0 a1 :=
  runF_G (n0 := 1) (by rfl) (.trans (b := f164_g K a0 a1 (f164_j3 K a0 a1 (realL (f164E K) 1))) (by kernel_rfl) (by rw [f164_u3] <;> rfl))
theorem f130_u3 (a0 : List Int) (a1 : Int) : f130_j3 K a0 a1 (realL (f130E K) 1) = fun y1 bq4 bq5 => f130_l3 K a0 a1 y1 K bq4 bq5 := by
  funext y1 bq4 bq5
  exact loop_o (fun x => (f130_fr3 a0 a1 y1 x.1 x.2)) (fun L x => by kernel_rfl) K (bq4, bq5)
theorem f130_run (a0 : List Int) (a1 : Int) : rM (f130E K) Tryz.f130 (f130M K) (a0, a1, ()) = f130G K a0 a1 :=
  runF_G (n0 := 1) (by rfl) (.trans (b := f130_g K a0 a1 (f130_j3 K a0 a1 (realL (f130E K) 1))) (by kernel_rfl) (by rw [f130_u3] <;> rfl))
theorem f57_u9 (a0 : Int × Int × Int) (F6 : Fr → Option (List tV)) (bq7 : Int) (bq8 : List tV) : f57_j9 K a0 F6 bq7 bq8 (realL (f57E K) 0) = fun q7 bq10 bq11 => f57_l9 K a0 q7 (fun v0 v1 => F6 (f57_fr6 a0 v0 v1)) K bq10 bq11 := by
  funext q7 bq10 bq11
  exact loop_o (fun x => (f57_fr9 a0 q7 x.1 x.2)) (fun L x => by kernel_rfl) K (bq10, bq11)
theorem f57_u6 (a0 : Int × Int × Int) : f57_j6 K a0 (realL (f57E K) 0) = fun bq7 bq8 => f57_l6 K a0 K bq7 bq8 := by
  funext bq7 bq8
  refine loop_o (fun x => (f57_fr6 a0 x.1 x.2)) (fun L x => ?_) K (bq7, bq8)
  exact .trans (b := f57_b6 K a0 (f57_j9 K a0 L bq7 bq8 (realL (f57E K) 0)) (fun v0 v1 => L (f57_fr6 a0 v0 v1)) x.1 x.2) (by kernel_rfl) (by rw [f57_u9] <;> rfl)
theorem f57_run (a0 : Int × Int × Int) : rM (f57E K) Tryz.f57 (f57M K) (a0, ()) = f57G K a0 :=
  runF_G (n0 := 0) (by rfl) (.trans (b := f57_g K a0 (f57_j6 K a0 (realL (f57E K) 0))) (by kernel_rfl) (by rw [f57_u6] <;> rfl))
theorem f93_u9 (a0 : List tV) (F7 : Fr → Option (List tV)) (bq8 : Int) : f93_j9 K a0 F7 bq8 (realL (f93E K) 1) = fun q8 bq10 bq11 bq12 => f93_l9 K a0 q8 K bq10 bq11 bq12 := by
  funext q8 bq10 bq11 bq12
  exact loop_o (fun x => (f93_fr9 a0 q8 x.1 x.2.1 x.2.2)) (fun L x => by kernel_rfl) K (bq10, bq11, bq12)
theorem f93_u7 (a0 : List tV) : f93_j7 K a0 (realL (f93E K) 1) = fun bq8 => f93_l7 K a0 K bq8 := by
  funext bq8
  refine loop_o (fun x => (f93_fr7 a0 x)) (fun L x => ?_) K bq8
  exact .trans (b := f93_b7 K a0 (f93_j9 K a0 L bq8 (realL (f93E K) 1)) (fun v0 => L (f93_fr7 a0 v0)) x) (by kernel_rfl) (by rw [f93_u9] <;> rfl)
theorem f93_run (a0 : List tV) : rM (f93E K) Tryz.f93 (f93M K) (a0, ()) = f93G K a0 :=
  runF_G (n0 := 1) (by rfl) (.trans (b := f93_g K a0 (f93_j7 K a0 (realL (f93E K) 1))) (by kernel_rfl) (by rw [f93_u7] <;> rfl))
theorem f58_u3 (a0 : Int × Int × Int) (a1 : List tM) (a2 : Int × Int) : f58_j3 K a0 a1 a2 (realL (f58E K) 1) = fun bq4 bq5 => f58_l3 K a0 a1 a2 K bq4 bq5 := by
  funext bq4 bq5
  exact loop_o (fun x => (f58_fr3 a0 a1 a2 x.1 x.2)) (fun L x => by kernel_rfl) K (bq4, bq5)
theorem f58_run (a0 : Int × Int × Int) (a1 : List tM) (a2 : Int × Int) : rM (f58E K) Tryz.f58 (f58M K) (a0, a1, a2, ()) = f58G K a0 a1 a2 :=
  runF_G (n0 := 1) (by rfl) (.trans (b := f58_g K a0 a1 a2 (f58_j3 K a0 a1 a2 (realL (f58E K) 1))) (by kernel_rfl) (by rw [f58_u3] <;> rfl))
theorem f87_u22 (a0 : Int × Int × Int) (a1 : List tM) (y3 : List tV) (F16 : Fr → Option ((List (List tV)) × List Int)) (bq17 : Int) (bq18 : List (List tV)) (bq19 : List Int) : f87_j22 K a0 a1 y3 F16 bq17 bq18 bq19 (realL (f87E K) 1) = fun q17 q18 q19 y20 y21 bq23 bq24 => f87_l22 K a0 a1 q17 q18 q19 y3 y20 y21 (fun v0 v1 v2 => F16 (f87_fr16 a0 a1 y3 v0 v1 v2)) K bq23 bq24 := by
  funext q17 q18 q19 y20 y21 bq23 bq24
  exact loop_o (fun x => (f87_fr22 a0 a1 q17 q18 q19 y3 y20 y21 x.1 x.2)) (fun L x => by kernel_rfl) K (bq23, bq24)
theorem f87_u16 (a0 : Int × Int × Int) (a1 : List tM) : f87_j16 K a0 a1 (realL (f87E K) 1) = fun y3 bq17 bq18 bq19 => f87_l16 K a0 a1 y3 K bq17 bq18 bq19 := by
  funext y3 bq17 bq18 bq19
  refine loop_o (fun x => (f87_fr16 a0 a1 y3 x.1 x.2.1 x.2.2)) (fun L x => ?_) K (bq17, bq18, bq19)
  exact .trans (b := f87_b16 K a0 a1 y3 (f87_j22 K a0 a1 y3 L bq17 bq18 bq19 (realL (f87E K) 1)) (fun v0 v1 v2 => L (f87_fr16 a0 a1 y3 v0 v1 v2)) x.1 x.2.1 x.2.2) (by kernel_rfl) (by rw [f87_u22] <;> rfl)
theorem f87_run (a0 : Int × Int × Int) (a1 : List tM) : rM (f87E K) Tryz.f87 (f87M K) (a0, a1, ()) = f87G K a0 a1 :=
  runF_G (n0 := 1) (by rfl) (.trans (b := f87_g K a0 a1 (f87_j16 K a0 a1 (realL (f87E K) 1))) (by kernel_rfl) (by rw [f87_u16] <;> rfl))
theorem f55_u12 (a0 : Int × Int × Int) (a1 : List tM) (a2 : List (tV × Int)) (y1 : (List (List tV)) × List Int) (F10 : Fr → Option (Int × Int × Bool)) (bq11 : Int) : f55_j12 K a0 a1 a2 y1 F10 bq11 (realL (f55E K) 2) = fun q11 bq13 => f55_l12 K a0 a1 a2 q11 y1 (fun v0 => F10 (f55_fr10 a0 a1 a2 y1 v0)) K bq13 := by
  funext q11 bq13
  exact loop_o (fun x => (f55_fr12 a0 a1 a2 q11 y1 x)) (fun L x => by kernel_rfl) K bq13
theorem f55_u10 (a0 : Int × Int × Int) (a1 : List tM) (a2 : List (tV × Int)) : f55_j10 K a0 a1 a2 (realL (f55E K) 2) = fun y1 bq11 => f55_l10 K a0 a1 a2 y1 K bq11 := by
  funext y1 bq11
  refine loop_o (fun x => (f55_fr10 a0 a1 a2 y1 x)) (fun L x => ?_) K bq11
  exact .trans (b := f55_b10 K a0 a1 a2 y1 (f55_j12 K a0 a1 a2 y1 L bq11 (realL (f55E K) 2)) (fun v0 => L (f55_fr10 a0 a1 a2 y1 v0)) x) (by kernel_rfl) (by rw [f55_u12] <;> rfl)
theorem f55_run (a0 : Int × Int × Int) (a1 : List tM) (a2 : List (tV × Int)) : rM (f55E K) Tryz.f55 (f55M K) (a0, a1, a2, ()) = f55G K a0 a1 a2 :=
  runF_G (n0 := 2) (by rfl) (.trans (b := f55_g K a0 a1 a2 (f55_j10 K a0 a1 a2 (realL (f55E K) 2))) (by kernel_rfl) (by rw [f55_u10] <;> rfl))
theorem f56_u4 (a0 : Int) (a1 : Int × Int × Int) (a2 : List tV) (a3 : Int) : f56_j4 K a0 a1 a2 a3 (realL (f56E K) 1) = fun bq5 bq6 => f56_l4 K a0 a1 a2 a3 K bq5 bq6 := by
  funext bq5 bq6
  exact loop_o (fun x => (f56_fr4 a0 a1 a2 a3 x.1 x.2)) (fun L x => by kernel_rfl) K (bq5, bq6)
theorem f56_run (a0 : Int) (a1 : Int × Int × Int) (a2 : List tV) (a3 : Int) : rM (f56E K) Tryz.f56 (f56M K) (a0, a1, a2, a3, ()) = f56G K a0 a1 a2 a3 :=
  runF_G (n0 := 1) (by rfl) (.trans (b := f56_g K a0 a1 a2 a3 (f56_j4 K a0 a1 a2 a3 (realL (f56E K) 1))) (by kernel_rfl) (by rw [f56_u4] <;> rfl))
theorem f31_u20 (a0 : Int) (a1 : Int × Int × Int) (a2 : List tM) (a3 : List (tV × Int)) (a4 y1 : Int) (y2 : Bool) (y3 : Int × Int × Bool) (y5 : Int × tL × List Int) (F15 : Fr → Option ((Int × tL × List Int) × Int)) (bq16 : Int) (bq17 : List Int) : f31_j20 K a0 a1 a2 a3 a4 y1 y2 y3 y5 F15 bq16 bq17 (realL (f31E K) 2) = fun q16 y19 bq21 bq22 => f31_l20 K a0 a1 a2 a3 a4 q16 y1 y2 y3 y5 y19 (fun v0 v1 => F15 (f31_fr15 a0 a1 a2 a3 a4 y1 y2 y3 y5 v0 v1)) K bq21 bq22 := by
  funext q16 y19 bq21 bq22
  exact loop_o (fun x => (f31_fr20 a0 a1 a2 a3 a4 q16 y1 y2 y3 y5 y19 x.1 x.2)) (fun L x => by kernel_rfl) K (bq21, bq22)
theorem f31_u15 (a0 : Int) (a1 : Int × Int × Int) (a2 : List tM) (a3 : List (tV × Int)) (a4 : Int) : f31_j15 K a0 a1 a2 a3 a4 (realL (f31E K) 2) = fun y1 y2 y3 y5 bq16 bq17 => f31_l15 K a0 a1 a2 a3 a4 y1 y2 y3 y5 K bq16 bq17 := by
  funext y1 y2 y3 y5 bq16 bq17
  refine loop_o (fun x => (f31_fr15 a0 a1 a2 a3 a4 y1 y2 y3 y5 x.1 x.2)) (fun L x => ?_) K (bq16, bq17)
  exact .trans (b := f31_b15 K a0 a1 a2 a3 a4 y1 y2 y3 y5 (f31_j20 K a0 a1 a2 a3 a4 y1 y2 y3 y5 L bq16 bq17 (realL (f31E K) 2)) (fun v0 v1 => L (f31_fr15 a0 a1 a2 a3 a4 y1 y2 y3 y5 v0 v1)) x.1 x.2) (by kernel_rfl) (by rw [f31_u20] <;> rfl)
theorem f31_run (a0 : Int) (a1 : Int × Int × Int) (a2 : List tM) (a3 : List (tV × Int)) (a4 : Int) : rM (f31E K) Tryz.f31 (f31M K) (a0, a1, a2, a3, a4, ()) = f31G K a0 a1 a2 a3 a4 :=
  runF_G (n0 := 2) (by rfl) (.trans (b := f31_g K a0 a1 a2 a3 a4 (f31_j15 K a0 a1 a2 a3 a4 (realL (f31E K) 2))) (by kernel_rfl) (by rw [f31_u15] <;> rfl))
theorem f13_u5 (a0 : ByteArray) : f13_j5 K a0 (realL (f13E K) 0) = fun y1 y2 bq6 bq7 bq8 bq9 bq10 bq11 bq12 bq13 => f13_l5 K a0 y1 y2 K bq6 bq7 bq8 bq9 bq10 bq11 bq12 bq13 := by
  funext y1 y2 bq6 bq7 bq8 bq9 bq10 bq11 bq12 bq13
  exact loop_o (fun x => (f13_fr5 a0 y1 y2 x.1 x.2.1 x.2.2.1 x.2.2.2.1 x.2.2.2.2.1 x.2.2.2.2.2.1 x.2.2.2.2.2.2.1 x.2.2.2.2.2.2.2)) (fun L x => by kernel_rfl) K (bq6, bq7, bq8, bq9, bq10, bq11, bq12, bq13)
theorem f13_run (a0 : ByteArray) : runC (f13E K) Tryz.f13 (.cons sI (.cons sI (.cons sL (.cons (.list 63 sM) (.list 44 (.cons sV sI)))))) [(.ro, .str)] [(.cons sI (.cons sL (.list 2 sI))), sI, sI] (a0, ()) = f13G K a0 :=
  runC_G (n0 := 0) (by rfl) (.trans (b := f13_g K a0 (f13_j5 K a0 (realL (f13E K) 0))) (by kernel_rfl) (by rw [f13_u5] <;> rfl))
theorem f15_u2 (a0 a1 : List Int) : f15_j2 K a0 a1 (realL (f15E K) 2) = fun bq3 => f15_l2 K a0 a1 K bq3 := by
  funext bq3
  exact loop_o (fun x => (f15_fr2 a0 a1 x)) (fun L x => by kernel_rfl) K bq3
theorem f15_run (a0 a1 : List Int) : rM (f15E K) Tryz.f15 (f15M K) (a0, a1, ()) = f15G K a0 a1 :=
  runF_G (n0 := 2) (by rfl) (.trans (b := f15_g K a0 a1 (f15_j2 K a0 a1 (realL (f15E K) 2))) (by kernel_rfl) (by rw [f15_u2] <;> rfl))
theorem f16_u2 (a0 : List Int) (a1 : Int) : f16_j2 K a0 a1 (realL (f16E K) 1) = fun bq3 bq4 bq5 => f16_l2 K K bq3 bq4 bq5 := by
  funext bq3 bq4 bq5
  exact loop_o (fun x => (f16_fr2 x.1 x.2.1 x.2.2)) (fun L x => by kernel_rfl) K (bq3, bq4, bq5)
theorem f16_run (a0 : List Int) (a1 : Int) : rM (f16E K) Tryz.f16 (f16M K) (a0, a1, ()) = f16G K a0 a1 :=
  runF_G (n0 := 1) (by rfl) (.trans (b := f16_g K a0 a1 (f16_j2 K a0 a1 (realL (f16E K) 1))) (by kernel_rfl) (by rw [f16_u2] <;> rfl))
theorem f17_u2 (a0 : List Int) (a1 : Int) : f17_j2 K a0 a1 (realL (f17E K) 1) = fun bq3 bq4 => f17_l2 K a0 K bq3 bq4 := by
  funext bq3 bq4
  exact loop_o (fun x => (f17_fr2 a0 x.1 x.2)) (fun L x => by kernel_rfl) K (bq3, bq4)
theorem f17_run (a0 : List Int) (a1 : Int) : rM (f17E K) Tryz.f17 (f17M K) (a0, a1, ()) = f17G K a0 a1 :=
  runF_G (n0 := 1) (by rfl) (.trans (b := f17_g K a0 a1 (f17_j2 K a0 a1 (realL (f17E K) 1))) (by kernel_rfl) (by rw [f17_u2] <;> rfl))
end Go.Proofs.YthcpeehhjhbepaaGreatDoor.X
