/- Functions of the program as plain Lean functions, and that the program does what they say. Printed by gen.py. -/
import Derived.Test.YtphhbdjjfacpiaaGreatDoorQsD1
namespace Go.Proofs.YtphhbdjjfacpiaaGreatDoor.X
open Go
set_option maxRecDepth 100000
attribute [local instance] cwD
set_option linter.unusedVariables false
variable (K : Nat)
include K
theorem f14_u2 (a0 : ByteArray) (a1 : Int) : f14_j2 K a0 a1 (realL (f14E K) 0) = fun bq3 bq4 bq5 => f14_l2 K a0 a1 K bq3 bq4 bq5 := by
  funext bq3 bq4 bq5
  exact loop_o (fun x => (f14_fr2 a0 a1 x.1 x.2.1 x.2.2)) (fun L x => by kernel_rfl) K (bq3, bq4, bq5)
theorem f14_run (a0 : ByteArray) (a1 : Int) : rM (f14E K) Tryz.f14 (f14M K) (a0, a1, ()) = f14G K a0 a1 :=
  runF_G (n0 := 0) (by rfl) (.trans (b := f14_g K a0 a1 (f14_j2 K a0 a1 (realL (f14E K) 0))) (by kernel_rfl) (by rw [f14_u2] <;> rfl))
omit K
theorem f71_run (K : Nat) (rec : Int → Option ByteArray) (a0 : Int) : runF (f71E K rec) Tryz.f71 [(.ro, sI)] [.str] (a0, ()) = f71_s K rec a0 := by kernel_rfl
include K
theorem f34_u2 (a0 : ByteArray) : f34_j2 K a0 (realL (f34E K) 0) = fun bq3 bq4 => f34_l2 K a0 K bq3 bq4 := by
  funext bq3 bq4
  exact loop_o (fun x => (f34_fr2 a0 x.1 x.2)) (fun L x => by kernel_rfl) K (bq3, bq4)
theorem f34_run (a0 : ByteArray) : rM (f34E K) Tryz.f34 (f34M K) (a0, ()) = f34G K a0 :=
  runF_G (n0 := 0) (by rfl) (.trans (b := f34_g K a0 (f34_j2 K a0 (realL (f34E K) 0))) (by kernel_rfl) (by rw [f34_u2] <;> rfl))
theorem f63_u3 (a0 : List ByteArray) : f63_j3 K a0 (realL (f63E K) 1) = fun bq4 bq5 => f63_l3 K a0 K bq4 bq5 := by
  funext bq4 bq5
  exact loop_o (fun x => (f63_fr3 a0 x.1 x.2)) (fun L x => by kernel_rfl) K (bq4, bq5)
theorem f63_run (a0 : List ByteArray) : rM (f63E K) Tryz.f63 (f63M K) (a0, ()) = f63G K a0 :=
  runF_G (n0 := 1) (by rfl) (.trans (b := f63_g K a0 (f63_j3 K a0 (realL (f63E K) 1))) (by kernel_rfl) (by rw [f63_u3] <;> rfl))
theorem f150_u6 (a0 : Int × Int × Int × Int) : f150_j6 K a0 (realL (f150E K) 0) = fun bq7 bq8 bq9 bq10 bq11 => f150_l6 K a0 K bq7 bq8 bq9 bq10 bq11 := by
  funext bq7 bq8 bq9 bq10 bq11
  exact loop_o (fun x => (f150_fr6 a0 x.1 x.2.1 x.2.2.1 x.2.2.2.1 x.2.2.2.2)) (fun L x => by kernel_rfl) K (bq7, bq8, bq9, bq10, bq11)
theorem f150_run (a0 : Int × Int × Int × Int) : rM (f150E K) Tryz.f150 (f150M K) (a0, ()) = f150G K a0 :=
  runF_G (n0 := 0) (by rfl) (.trans (b := f150_g K a0 (f150_j6 K a0 (realL (f150E K) 0))) (by kernel_rfl) (by rw [f150_u6] <;> rfl))
omit K
theorem f152_run (K : Nat) (rec : Int → Int → Option Int) (a0 a1 : Int) : runF (f152E K rec) Tryz.f152 [(.ro, sI), (.ro, sI)] [sI] (a0, a1, ()) = f152_s K rec a0 a1 := by kernel_rfl
include K
theorem f109_u15 (a0 : List tV) (F10 : Fr → Option tL) (bq11 bq12 bq13 bq14 : Int) : f109_j15 K a0 F10 bq11 bq12 bq13 bq14 (realL (f109E K) 1) = fun q11 q12 bq16 bq17 bq18 bq19 => f109_l15 K a0 q11 q12 (fun v0 v1 v2 v3 => F10 (f109_fr10 a0 v0 v1 v2 v3)) K bq16 bq17 bq18 bq19 := by
  funext q11 q12 bq16 bq17 bq18 bq19
  exact loop_o (fun x => (f109_fr15 a0 q11 q12 x.1 x.2.1 x.2.2.1 x.2.2.2)) (fun L x => by kernel_rfl) K (bq16, bq17, bq18, bq19)
theorem f109_u10 (a0 : List tV) : f109_j10 K a0 (realL (f109E K) 1) = fun bq11 bq12 bq13 bq14 => f109_l10 K a0 K bq11 bq12 bq13 bq14 := by
  funext bq11 bq12 bq13 bq14
  refine loop_o (fun x => (f109_fr10 a0 x.1 x.2.1 x.2.2.1 x.2.2.2)) (fun L x => ?_) K (bq11, bq12, bq13, bq14)
  exact .trans (b := f109_b10 K a0 (f109_j15 K a0 L bq11 bq12 bq13 bq14 (realL (f109E K) 1)) (fun v0 v1 v2 v3 => L (f109_fr10 a0 v0 v1 v2 v3)) x.1 x.2.1 x.2.2.1 x.2.2.2) (by kernel_rfl) (by rw [f109_u15] <;> rfl)
theorem f109_run (a0 : List tV) : rM (f109E K) Tryz.f109 (f109M K) (a0, ()) = f109G K a0 :=
  runF_G (n0 := 1) (by rfl) (.trans (b := f109_g K a0 (f109_j10 K a0 (realL (f109E K) 1))) (by kernel_rfl) (by rw [f109_u10] <;> rfl))
theorem f155_u2 (a0 a1 : List Int) : f155_j2 K a0 a1 (realL (f155E K) 2) = fun bq3 => f155_l2 K a0 a1 K bq3 := by
  funext bq3
  exact loop_o (fun x => (f155_fr2 a0 a1 x)) (fun L x => by kernel_rfl) K bq3
theorem f155_run (a0 a1 : List Int) : rM (f155E K) Tryz.f155 (f155M K) (a0, a1, ()) = f155G K a0 a1 :=
  runF_G (n0 := 2) (by rfl) (.trans (b := f155_g K a0 a1 (f155_j2 K a0 a1 (realL (f155E K) 2))) (by kernel_rfl) (by rw [f155_u2] <;> rfl))
theorem f42_u6 (a0 : List tM) (a1 : tA × Int × Int) : f42_j6 K a0 a1 (realL (f42E K) 1) = fun bq7 bq8 => f42_l6 K a0 a1 K bq7 bq8 := by
  funext bq7 bq8
  exact loop_o (fun x => (f42_fr6 a0 a1 x.1 x.2)) (fun L x => by kernel_rfl) K (bq7, bq8)
theorem f42_run (a0 : List tM) (a1 : tA × Int × Int) : rM (f42E K) Tryz.f42 (f42M K) (a0, a1, ()) = f42G K a0 a1 :=
  runF_G (n0 := 1) (by rfl) (.trans (b := f42_g K a0 a1 (f42_j6 K a0 a1 (realL (f42E K) 1))) (by kernel_rfl) (by rw [f42_u6] <;> rfl))
theorem f10_u21 (a0 : Int × Int × Int) (a1 : List tM) (F17 : Fr → Option (List tM)) (bq18 : Int) (bq19 bq20 : List tM) : f10_j21 K a0 a1 F17 bq18 bq19 bq20 (realL (f10E K) 1) = fun q18 q20 bq22 bq23 bq24 => f10_l21 K a0 a1 q18 q20 (fun v0 v1 v2 => F17 (f10_fr17 a0 a1 v0 v1 v2)) K bq22 bq23 bq24 := by
  funext q18 q20 bq22 bq23 bq24
  exact loop_o (fun x => (f10_fr21 a0 a1 q18 q20 x.1 x.2.1 x.2.2)) (fun L x => by kernel_rfl) K (bq22, bq23, bq24)
theorem f10_u17 (a0 : Int × Int × Int) (a1 : List tM) : f10_j17 K a0 a1 (realL (f10E K) 1) = fun bq18 bq19 bq20 => f10_l17 K a0 a1 K bq18 bq19 bq20 := by
  funext bq18 bq19 bq20
  refine loop_o (fun x => (f10_fr17 a0 a1 x.1 x.2.1 x.2.2)) (fun L x => ?_) K (bq18, bq19, bq20)
  exact .trans (b := f10_b17 K a0 a1 (f10_j21 K a0 a1 L bq18 bq19 bq20 (realL (f10E K) 1)) (fun v0 v1 v2 => L (f10_fr17 a0 a1 v0 v1 v2)) x.1 x.2.1 x.2.2) (by kernel_rfl) (by rw [f10_u21] <;> rfl)
theorem f10_run (a0 : Int × Int × Int) (a1 : List tM) : rM (f10E K) Tryz.f10 (f10M K) (a0, a1, ()) = f10G K a0 a1 :=
  runF_G (n0 := 1) (by rfl) (.trans (b := f10_g K a0 a1 (f10_j17 K a0 a1 (realL (f10E K) 1))) (by kernel_rfl) (by rw [f10_u17] <;> rfl))
theorem f72_u9 (a0 : Int × Int × Int) (F6 : Fr → Option (List tV)) (bq7 : Int) (bq8 : List tV) : f72_j9 K a0 F6 bq7 bq8 (realL (f72E K) 0) = fun q7 bq10 bq11 => f72_l9 K a0 q7 (fun v0 v1 => F6 (f72_fr6 a0 v0 v1)) K bq10 bq11 := by
  funext q7 bq10 bq11
  exact loop_o (fun x => (f72_fr9 a0 q7 x.1 x.2)) (fun L x => by kernel_rfl) K (bq10, bq11)
theorem f72_u6 (a0 : Int × Int × Int) : f72_j6 K a0 (realL (f72E K) 0) = fun bq7 bq8 => f72_l6 K a0 K bq7 bq8 := by
  funext bq7 bq8
  refine loop_o (fun x => (f72_fr6 a0 x.1 x.2)) (fun L x => ?_) K (bq7, bq8)
  exact .trans (b := f72_b6 K a0 (f72_j9 K a0 L bq7 bq8 (realL (f72E K) 0)) (fun v0 v1 => L (f72_fr6 a0 v0 v1)) x.1 x.2) (by kernel_rfl) (by rw [f72_u9] <;> rfl)
theorem f72_run (a0 : Int × Int × Int) : rM (f72E K) Tryz.f72 (f72M K) (a0, ()) = f72G K a0 :=
  runF_G (n0 := 0) (by rfl) (.trans (b := f72_g K a0 (f72_j6 K a0 (realL (f72E K) 0))) (by kernel_rfl) (by rw [f72_u6] <;> rfl))
theorem f110_u3 (a0 : List tV) (a1 : Int × Int) : f110_j3 K a0 a1 (realL (f110E K) 1) = fun bq4 => f110_l3 K a0 a1 K bq4 := by
  funext bq4
  exact loop_o (fun x => (f110_fr3 a0 a1 x)) (fun L x => by kernel_rfl) K bq4
theorem f110_run (a0 : List tV) (a1 : Int × Int) : rM (f110E K) Tryz.f110 (f110M K) (a0, a1, ()) = f110G K a0 a1 :=
  runF_G (n0 := 1) (by rfl) (.trans (b := f110_g K a0 a1 (f110_j3 K a0 a1 (realL (f110E K) 1))) (by kernel_rfl) (by rw [f110_u3] <;> rfl))
theorem f73_u4 (a0 : Int × Int × Int) (a1 : List tM) (a2 : Int × Int) : f73_j4 K a0 a1 a2 (realL (f73E K) 1) = fun bq5 bq6 => f73_l4 K a0 a1 a2 K bq5 bq6 := by
  funext bq5 bq6
  exact loop_o (fun x => (f73_fr4 a0 a1 a2 x.1 x.2)) (fun L x => by kernel_rfl) K (bq5, bq6)
theorem f73_run (a0 : Int × Int × Int) (a1 : List tM) (a2 : Int × Int) : rM (f73E K) Tryz.f73 (f73M K) (a0, a1, a2, ()) = f73G K a0 a1 a2 :=
  runF_G (n0 := 1) (by rfl) (.trans (b := f73_g K a0 a1 a2 (f73_j4 K a0 a1 a2 (realL (f73E K) 1))) (by kernel_rfl) (by rw [f73_u4] <;> rfl))
theorem f36_u4 (a0 : Int × Int × Int) (a1 : List tM) : f36_j4 K a0 a1 (realL (f36E K) 1) = fun y1 bq5 bq6 => f36_l4 K a0 a1 y1 K bq5 bq6 := by
  funext y1 bq5 bq6
  exact loop_o (fun x => (f36_fr4 a0 a1 y1 x.1 x.2)) (fun L x => by kernel_rfl) K (bq5, bq6)
theorem f36_run (a0 : Int × Int × Int) (a1 : List tM) : rM (f36E K) Tryz.f36 (f36M K) (a0, a1, ()) = f36G K a0 a1 :=
  runF_G (n0 := 1) (by rfl) (.trans (b := f36_g K a0 a1 (f36_j4 K a0 a1 (realL (f36E K) 1))) (by kernel_rfl) (by rw [f36_u4] <;> rfl))
theorem f17_u12 (a0 : Int × Int × Int) (a1 : List tM) (y1 : List (List tV)) (F9 : Fr → Option (List Int)) (bq10 : Int) (bq11 : List Int) : f17_j12 K a0 a1 y1 F9 bq10 bq11 (realL (f17E K) 1) = fun q10 bq13 bq14 => f17_l12 K a0 a1 q10 y1 (fun v0 v1 => F9 (f17_fr9 a0 a1 y1 v0 v1)) K bq13 bq14 := by
  funext q10 bq13 bq14
  exact loop_o (fun x => (f17_fr12 a0 a1 q10 y1 x.1 x.2)) (fun L x => by kernel_rfl) K (bq13, bq14)
theorem f17_u9 (a0 : Int × Int × Int) (a1 : List tM) : f17_j9 K a0 a1 (realL (f17E K) 1) = fun y1 bq10 bq11 => f17_l9 K a0 a1 y1 K bq10 bq11 := by
  funext y1 bq10 bq11
  refine loop_o (fun x => (f17_fr9 a0 a1 y1 x.1 x.2)) (fun L x => ?_) K (bq10, bq11)
  exact .trans (b := f17_b9 K a0 a1 y1 (f17_j12 K a0 a1 y1 L bq10 bq11 (realL (f17E K) 1)) (fun v0 v1 => L (f17_fr9 a0 a1 y1 v0 v1)) x.1 x.2) (by kernel_rfl) (by rw [f17_u12] <;> rfl)
theorem f17_run (a0 : Int × Int × Int) (a1 : List tM) : rM (f17E K) Tryz.f17 (f17M K) (a0, a1, ()) = f17G K a0 a1 :=
  runF_G (n0 := 1) (by rfl) (.trans (b := f17_g K a0 a1 (f17_j9 K a0 a1 (realL (f17E K) 1))) (by kernel_rfl) (by rw [f17_u9] <;> rfl))
theorem f16_u11 (a0 : Int × Int × Int) (a1 : List Int) (a2 : List (tV × Int)) (F9 : Fr → Option (Int × Int × Bool)) (bq10 : Int) : f16_j11 K a0 a1 a2 F9 bq10 (realL (f16E K) 2) = fun q10 bq12 => f16_l11 K a0 a1 a2 q10 (fun v0 => F9 (f16_fr9 a0 a1 a2 v0)) K bq12 := by
  funext q10 bq12
  exact loop_o (fun x => (f16_fr11 a0 a1 a2 q10 x)) (fun L x => by kernel_rfl) K bq12
theorem f16_u9 (a0 : Int × Int × Int) (a1 : List Int) (a2 : List (tV × Int)) : f16_j9 K a0 a1 a2 (realL (f16E K) 2) = fun bq10 => f16_l9 K a0 a1 a2 K bq10 := by
  funext bq10
  refine loop_o (fun x => (f16_fr9 a0 a1 a2 x)) (fun L x => ?_) K bq10
  exact .trans (b := f16_b9 K a0 a1 a2 (f16_j11 K a0 a1 a2 L bq10 (realL (f16E K) 2)) (fun v0 => L (f16_fr9 a0 a1 a2 v0)) x) (by kernel_rfl) (by rw [f16_u11] <;> rfl)
theorem f16_run (a0 : Int × Int × Int) (a1 : List Int) (a2 : List (tV × Int)) : rM (f16E K) Tryz.f16 (f16M K) (a0, a1, a2, ()) = f16G K a0 a1 a2 :=
  runF_G (n0 := 2) (by rfl) (.trans (b := f16_g K a0 a1 a2 (f16_j9 K a0 a1 a2 (realL (f16E K) 2))) (by kernel_rfl) (by rw [f16_u9] <;> rfl))
theorem f9_u4 (a0 : ByteArray) : f9_j4 K a0 (realL (f9E K) 0) = fun y1 bq5 bq6 bq7 bq8 bq9 bq10 bq11 bq12 => f9_l4 K a0 y1 K bq5 bq6 bq7 bq8 bq9 bq10 bq11 bq12 := by
  funext y1 bq5 bq6 bq7 bq8 bq9 bq10 bq11 bq12
  exact loop_o (fun x => (f9_fr4 a0 y1 x.1 x.2.1 x.2.2.1 x.2.2.2.1 x.2.2.2.2.1 x.2.2.2.2.2.1 x.2.2.2.2.2.2.1 x.2.2.2.2.2.2.2)) (fun L x => by kernel_rfl) K (bq5, bq6, bq7, bq8, bq9, bq10, bq11, bq12)
theorem f9_run (a0 : ByteArray) : runO (f9E K) Tryz.f9 (.cons sI (.cons sL (.cons sI (.cons (.list 49 sM) (.list 82 (.cons sV sI)))))) [(.ro, .str)] [sI, sI] (a0, ()) = f9G K a0 :=
  runO_G (n0 := 0) (by rfl) (.trans (b := f9_g K a0 (f9_j4 K a0 (realL (f9E K) 0))) (by kernel_rfl) (by rw [f9_u4] <;> rfl))
theorem f81_u4 (a0 a1 : ByteArray) (a2 : Int) : f81_j4 K a0 a1 a2 (realL (f81E K) 0) = fun y1 bq5 bq6 => f81_l4 K a0 a1 a2 y1 K bq5 bq6 := by
  funext y1 bq5 bq6
  exact loop_o (fun x => (f81_fr4 a0 a1 a2 y1 x.1 x.2)) (fun L x => by kernel_rfl) K (bq5, bq6)
theorem f81_run (a0 a1 : ByteArray) (a2 : Int) : rM (f81E K) Tryz.f81 (f81M K) (a0, a1, a2, ()) = f81G K a0 a1 a2 :=
  runF_G (n0 := 0) (by rfl) (.trans (b := f81_g K a0 a1 a2 (f81_j4 K a0 a1 a2 (realL (f81E K) 0))) (by kernel_rfl) (by rw [f81_u4] <;> rfl))
theorem f118_u2 (a0 : ByteArray) : f118_j2 K a0 (realL (f118E K) 0) = fun bq3 bq4 => f118_l2 K a0 K bq3 bq4 := by
  funext bq3 bq4
  exact loop_o (fun x => (f118_fr2 a0 x.1 x.2)) (fun L x => by kernel_rfl) K (bq3, bq4)
theorem f118_run (a0 : ByteArray) : rM (f118E K) Tryz.f118 (f118M K) (a0, ()) = f118G K a0 :=
  runF_G (n0 := 0) (by rfl) (.trans (b := f118_g K a0 (f118_j2 K a0 (realL (f118E K) 0))) (by kernel_rfl) (by rw [f118_u2] <;> rfl))
theorem f169_u8 (a0 : Int) : f169_j8 K a0 (realL (f169E K) 0) = fun bq9 bq10 => f169_l8 K a0 K bq9 bq10 := by
  funext bq9 bq10
  exact loop_o (fun x => (f169_fr8 a0 x.1 x.2)) (fun L x => by kernel_rfl) K (bq9, bq10)
theorem f169_run (a0 : Int) : rM (f169E K) Tryz.f169 (f169M K) (a0, ()) = f169G K a0 :=
  runF_G (n0 := 0) (by rfl) (.trans (b := f169_g K a0 (f169_j8 K a0 (realL (f169E K) 0))) (by kernel_rfl) (by rw [f169_u8] <;> rfl))
theorem f195_u3 (a0 : List tA) (a1 : (tA → Option Bool)) : f195_j3 K a0 a1 (realL (f195E K) 1) = fun bq4 => f195_l3 K a0 a1 K bq4 := by
  funext bq4
  exact loop_o (fun x => (f195_fr3 a0 a1 x)) (fun L x => by kernel_rfl) K bq4
theorem f195_run (a0 : List tA) (a1 : (tA → Option Bool)) : rM (f195E K) Tryz.f195 (f195M K) (a0, a1, ()) = f195G K a0 a1 :=
  runF_G (n0 := 1) (by rfl) (.trans (b := f195_g K a0 a1 (f195_j3 K a0 a1 (realL (f195E K) 1))) (by kernel_rfl) (by rw [f195_u3] <;> rfl))
theorem f168_u4 (a0 : List tA) (a1 : (tA → Option Bool)) : f168_j4 K a0 a1 (realL (f168E K) 1) = fun y1 bq5 bq6 bq7 => f168_l4 K a1 y1 K bq5 bq6 bq7 := by
  funext y1 bq5 bq6 bq7
  exact loop_o (fun x => (f168_fr4 a1 y1 x.1 x.2.1 x.2.2)) (fun L x => by kernel_rfl) K (bq5, bq6, bq7)
theorem f168_run (a0 : List tA) (a1 : (tA → Option Bool)) : rM (f168E K) Tryz.f168 (f168M K) (a0, a1, ()) = f168G K a0 a1 :=
  runF_G (n0 := 1) (by rfl) (.trans (b := f168_g K a0 a1 (f168_j4 K a0 a1 (realL (f168E K) 1))) (by kernel_rfl) (by rw [f168_u4] <;> rfl))
theorem f166_u2 (a0 : List tA) (a1 : Int × Int × Int × Int) : f166_j2 K a0 a1 (realL (f166E K) 1) = fun bq3 => f166_l2 K a0 a1 K bq3 := by
  funext bq3
  exact loop_o (fun x => (f166_fr2 a0 a1 x)) (fun L x => by kernel_rfl) K bq3
theorem f166_run (a0 : List tA) (a1 : Int × Int × Int × Int) : rM (f166E K) Tryz.f166 (f166M K) (a0, a1, ()) = f166G K a0 a1 :=
  runF_G (n0 := 1) (by rfl) (.trans (b := f166_g K a0 a1 (f166_j2 K a0 a1 (realL (f166E K) 1))) (by kernel_rfl) (by rw [f166_u2] <;> rfl))
theorem f137_u2 (a0 a1 : List Int) : f137_j2 K a0 a1 (realL (f137E K) 2) = fun bq3 => f137_l2 K a0 a1 K bq3 := by
  funext bq3
  exact loop_o (fun x => (f137_fr2 a0 a1 x)) (fun L x => by kernel_rfl) K bq3
theorem f137_run (a0 a1 : List Int) : rM (f137E K) Tryz.f137 (f137M K) (a0, a1, ()) = f137G K a0 a1 :=
  runF_G (n0 := 2) (by rfl) (.trans (b := f137_g K a0 a1 (f137_j2 K a0 a1 (realL (f137E K) 2))) (by kernel_rfl) (by rw [f137_u2] <;> rfl))
theorem f27_u16 (a0 : Int × Int × Int) (a1 : List tM) (F12 : Fr → Option (List tM)) (bq13 : Int) (bq14 : List (tM × Bool)) (bq15 : List tM) : f27_j16 K a0 a1 F12 bq13 bq14 bq15 (realL (f27E K) 1) = fun q13 q15 bq17 bq18 bq19 => f27_l16 K a0 a1 q13 q15 (fun v0 v1 v2 => F12 (f27_fr12 a0 a1 v0 v1 v2)) K bq17 bq18 bq19 := by
  funext q13 q15 bq17 bq18 bq19
  exact loop_o (fun x => (f27_fr16 a0 a1 q13 q15 x.1 x.2.1 x.2.2)) (fun L x => by kernel_rfl) K (bq17, bq18, bq19)
theorem f27_u12 (a0 : Int × Int × Int) (a1 : List tM) : f27_j12 K a0 a1 (realL (f27E K) 1) = fun bq13 bq14 bq15 => f27_l12 K a0 a1 K bq13 bq14 bq15 := by
  funext bq13 bq14 bq15
  refine loop_o (fun x => (f27_fr12 a0 a1 x.1 x.2.1 x.2.2)) (fun L x => ?_) K (bq13, bq14, bq15)
  exact .trans (b := f27_b12 K a0 a1 (f27_j16 K a0 a1 L bq13 bq14 bq15 (realL (f27E K) 1)) (fun v0 v1 v2 => L (f27_fr12 a0 a1 v0 v1 v2)) x.1 x.2.1 x.2.2) (by kernel_rfl) (by rw [f27_u16] <;> rfl)
theorem f27_run (a0 : Int × Int × Int) (a1 : List tM) : rM (f27E K) Tryz.f27 (f27M K) (a0, a1, ()) = f27G K a0 a1 :=
  runF_G (n0 := 1) (by rfl) (.trans (b := f27_g K a0 a1 (f27_j12 K a0 a1 (realL (f27E K) 1))) (by kernel_rfl) (by rw [f27_u12] <;> rfl))
theorem f131_u23 (a0 : Int) (a1 : Int × Int × Int) (a2 : List tM) (q7 : Int) (q8 : List (tM × Bool)) (y1 : List tA) (y12 : Int × Int × Int × Int) (F21 : Fr → Option Bool) (bq22 : Int) : f131_j23 K a0 a1 a2 q7 q8 y1 y12 F21 bq22 (realL (f131E K) 1) = fun q22 bq24 => f131_l23 K a0 a1 a2 q7 q8 q22 y1 y12 (fun v0 => F21 (f131_fr21 a0 a1 a2 q7 q8 y1 y12 v0)) K bq24 := by
  funext q22 bq24
  exact loop_o (fun x => (f131_fr23 a0 a1 a2 q7 q8 q22 y1 y12 x)) (fun L x => by kernel_rfl) K bq24
theorem f131_u21 (a0 : Int) (a1 : Int × Int × Int) (a2 : List tM) : f131_j21 K a0 a1 a2 (realL (f131E K) 1) = fun q7 q8 y1 y12 bq22 => f131_l21 K a0 a1 a2 q7 q8 y1 y12 K bq22 := by
  funext q7 q8 y1 y12 bq22
  refine loop_o (fun x => (f131_fr21 a0 a1 a2 q7 q8 y1 y12 x)) (fun L x => ?_) K bq22
  exact .trans (b := f131_b21 K a0 a1 a2 q7 q8 y1 y12 (f131_j23 K a0 a1 a2 q7 q8 y1 y12 L bq22 (realL (f131E K) 1)) (fun v0 => L (f131_fr21 a0 a1 a2 q7 q8 y1 y12 v0)) x) (by kernel_rfl) (by rw [f131_u23] <;> rfl)
theorem f131_u6 (a0 : Int) (a1 : Int × Int × Int) (a2 : List tM) : f131_j6 K a0 a1 a2 (realL (f131E K) 1) = fun y1 bq7 bq8 => f131_l6 K a0 a1 a2 y1 K bq7 bq8 := by
  funext y1 bq7 bq8
  refine loop_o (fun x => (f131_fr6 a0 a1 a2 y1 x.1 x.2)) (fun L x => ?_) K (bq7, bq8)
  exact .trans (b := f131_b6 K a0 a1 a2 y1 (f131_j21 K a0 a1 a2 (realL (f131E K) 1)) (fun v0 v1 => L (f131_fr6 a0 a1 a2 y1 v0 v1)) x.1 x.2) (by kernel_rfl) (by rw [f131_u21] <;> rfl)
theorem f131_run (a0 : Int) (a1 : Int × Int × Int) (a2 : List tM) : rM (f131E K) Tryz.f131 (f131M K) (a0, a1, a2, ()) = f131G K a0 a1 a2 :=
  runF_G (n0 := 1) (by rfl) (.trans (b := f131_g K a0 a1 a2 (f131_j6 K a0 a1 a2 (realL (f131E K) 1))) (by kernel_rfl) (by rw [f131_u6] <;> rfl))
theorem f85_u4 (a0 : Int) (a1 : Int × Int × Int) (a2 : List (List tM)) : f85_j4 K a0 a1 a2 (realL (f85E K) 1) = fun y1 bq5 => f85_l4 K a0 a1 a2 y1 K bq5 := by
  funext y1 bq5
  exact loop_o (fun x => (f85_fr4 a0 a1 a2 y1 x)) (fun L x => by kernel_rfl) K bq5
theorem f85_run (a0 : Int) (a1 : Int × Int × Int) (a2 : List (List tM)) : rM (f85E K) Tryz.f85 (f85M K) (a0, a1, a2, ()) = f85G K a0 a1 a2 :=
  runF_G (n0 := 1) (by rfl) (.trans (b := f85_g K a0 a1 a2 (f85_j4 K a0 a1 a2 (realL (f85E K) 1))) (by kernel_rfl) (by rw [f85_u4] <;> rfl))
theorem f173_u3 (a0 : List (tV × Int)) (a1 : ((tV × Int) → Option Bool)) : f173_j3 K a0 a1 (realL (f173E K) 1) = fun bq4 => f173_l3 K a0 a1 K bq4 := by
  funext bq4
  exact loop_o (fun x => (f173_fr3 a0 a1 x)) (fun L x => by kernel_rfl) K bq4
theorem f173_run (a0 : List (tV × Int)) (a1 : ((tV × Int) → Option Bool)) : rM (f173E K) Tryz.f173 (f173M K) (a0, a1, ()) = f173G K a0 a1 :=
  runF_G (n0 := 1) (by rfl) (.trans (b := f173_g K a0 a1 (f173_j3 K a0 a1 (realL (f173E K) 1))) (by kernel_rfl) (by rw [f173_u3] <;> rfl))
theorem f134_u3 (a0 : List Int) (a1 : Int) : f134_j3 K a0 a1 (realL (f134E K) 1) = fun y1 bq4 bq5 => f134_l3 K a0 a1 y1 K bq4 bq5 := by
  funext y1 bq4 bq5
  exact loop_o (fun x => (f134_fr3 a0 a1 y1 x.1 x.2)) (fun L x => by kernel_rfl) K (bq4, bq5)
theorem f134_run (a0 : List Int) (a1 : Int) : rM (f134E K) Tryz.f134 (f134M K) (a0, a1, ()) = f134G K a0 a1 :=
  runF_G (n0 := 1) (by rfl) (.trans (b := f134_g K a0 a1 (f134_j3 K a0 a1 (realL (f134E K) 1))) (by kernel_rfl) (by rw [f134_u3] <;> rfl))
theorem f54_u9 (a0 : Int × Int × Int) (F6 : Fr → Option (List tV)) (bq7 : Int) (bq8 : List tV) : f54_j9 K a0 F6 bq7 bq8 (realL (f54E K) 0) = fun q7 bq10 bq11 => f54_l9 K a0 q7 (fun v0 v1 => F6 (f54_fr6 a0 v0 v1)) K bq10 bq11 := by
  funext q7 bq10 bq11
  exact loop_o (fun x => (f54_fr9 a0 q7 x.1 x.2)) (fun L x => by kernel_rfl) K (bq10, bq11)
theorem f54_u6 (a0 : Int × Int × Int) : f54_j6 K a0 (realL (f54E K) 0) = fun bq7 bq8 => f54_l6 K a0 K bq7 bq8 := by
  funext bq7 bq8
  refine loop_o (fun x => (f54_fr6 a0 x.1 x.2)) (fun L x => ?_) K (bq7, bq8)
  exact .trans (b := f54_b6 K a0 (f54_j9 K a0 L bq7 bq8 (realL (f54E K) 0)) (fun v0 v1 => L (f54_fr6 a0 v0 v1)) x.1 x.2) (by kernel_rfl) (by rw [f54_u9] <;> rfl)
theorem f54_run (a0 : Int × Int × Int) : rM (f54E K) Tryz.f54 (f54M K) (a0, ()) = f54G K a0 :=
  runF_G (n0 := 0) (by rfl) (.trans (b := f54_g K a0 (f54_j6 K a0 (realL (f54E K) 0))) (by kernel_rfl) (by rw [f54_u6] <;> rfl))
theorem f94_u9 (a0 : List tV) (F7 : Fr → Option (List tV)) (bq8 : Int) : f94_j9 K a0 F7 bq8 (realL (f94E K) 1) = fun q8 bq10 bq11 bq12 => f94_l9 K a0 q8 K bq10 bq11 bq12 := by
  funext q8 bq10 bq11 bq12
  exact loop_o (fun x => (f94_fr9 a0 q8 x.1 x.2.1 x.2.2)) (fun L x => by kernel_rfl) K (bq10, bq11, bq12)
theorem f94_u7 (a0 : List tV) : f94_j7 K a0 (realL (f94E K) 1) = fun bq8 => f94_l7 K a0 K bq8 := by
  funext bq8
  refine loop_o (fun x => (f94_fr7 a0 x)) (fun L x => ?_) K bq8
  exact .trans (b := f94_b7 K a0 (f94_j9 K a0 L bq8 (realL (f94E K) 1)) (fun v0 => L (f94_fr7 a0 v0)) x) (by kernel_rfl) (by rw [f94_u9] <;> rfl)
theorem f94_run (a0 : List tV) : rM (f94E K) Tryz.f94 (f94M K) (a0, ()) = f94G K a0 :=
  runF_G (n0 := 1) (by rfl) (.trans (b := f94_g K a0 (f94_j7 K a0 (realL (f94E K) 1))) (by kernel_rfl) (by rw [f94_u7] <;> rfl))
theorem f55_u3 (a0 : Int × Int × Int) (a1 : List tM) (a2 : Int × Int) : f55_j3 K a0 a1 a2 (realL (f55E K) 1) = fun bq4 bq5 => f55_l3 K a0 a1 a2 K bq4 bq5 := by
  funext bq4 bq5
  exact loop_o (fun x => (f55_fr3 a0 a1 a2 x.1 x.2)) (fun L x => by kernel_rfl) K (bq4, bq5)
theorem f55_run (a0 : Int × Int × Int) (a1 : List tM) (a2 : Int × Int) : rM (f55E K) Tryz.f55 (f55M K) (a0, a1, a2, ()) = f55G K a0 a1 a2 :=
  runF_G (n0 := 1) (by rfl) (.trans (b := f55_g K a0 a1 a2 (f55_j3 K a0 a1 a2 (realL (f55E K) 1))) (by kernel_rfl) (by rw [f55_u3] <;> rfl))
theorem f88_u22 (a0 : Int × Int × Int) (a1 : List tM) (y3 : List tV) (F16 : Fr → Option ((List (List tV)) × List Int)) (bq17 : Int) (bq18 : List (List tV)) (bq19 : List Int) : f88_j22 K a0 a1 y3 F16 bq17 bq18 bq19 (realL (f88E K) 1) = fun q17 q18 q19 y20 y21 bq23 bq24 => f88_l22 K a0 a1 q17 q18 q19 y3 y20 y21 (fun v0 v1 v2 => F16 (f88_fr16 a0 a1 y3 v0 v1 v2)) K bq23 bq24 := by
  funext q17 q18 q19 y20 y21 bq23 bq24
  exact loop_o (fun x => (f88_fr22 a0 a1 q17 q18 q19 y3 y20 y21 x.1 x.2)) (fun L x => by kernel_rfl) K (bq23, bq24)
theorem f88_u16 (a0 : Int × Int × Int) (a1 : List tM) : f88_j16 K a0 a1 (realL (f88E K) 1) = fun y3 bq17 bq18 bq19 => f88_l16 K a0 a1 y3 K bq17 bq18 bq19 := by
  funext y3 bq17 bq18 bq19
  refine loop_o (fun x => (f88_fr16 a0 a1 y3 x.1 x.2.1 x.2.2)) (fun L x => ?_) K (bq17, bq18, bq19)
  exact .trans (b := f88_b16 K a0 a1 y3 (f88_j22 K a0 a1 y3 L bq17 bq18 bq19 (realL (f88E K) 1)) (fun v0 v1 v2 => L (f88_fr16 a0 a1 y3 v0 v1 v2)) x.1 x.2.1 x.2.2) (by kernel_rfl) (by rw [f88_u22] <;> rfl)
theorem f88_run (a0 : Int × Int × Int) (a1 : List tM) : rM (f88E K) Tryz.f88 (f88M K) (a0, a1, ()) = f88G K a0 a1 :=
  runF_G (n0 := 1) (by rfl) (.trans (b := f88_g K a0 a1 (f88_j16 K a0 a1 (realL (f88E K) 1))) (by kernel_rfl) (by rw [f88_u16] <;> rfl))
theorem f52_u12 (a0 : Int × Int × Int) (a1 : List tM) (a2 : List (tV × Int)) (y1 : (List (List tV)) × List Int) (F10 : Fr → Option (Int × Int × Bool)) (bq11 : Int) : f52_j12 K a0 a1 a2 y1 F10 bq11 (realL (f52E K) 2) = fun q11 bq13 => f52_l12 K a0 a1 a2 q11 y1 (fun v0 => F10 (f52_fr10 a0 a1 a2 y1 v0)) K bq13 := by
  funext q11 bq13
  exact loop_o (fun x => (f52_fr12 a0 a1 a2 q11 y1 x)) (fun L x => by kernel_rfl) K bq13
theorem f52_u10 (a0 : Int × Int × Int) (a1 : List tM) (a2 : List (tV × Int)) : f52_j10 K a0 a1 a2 (realL (f52E K) 2) = fun y1 bq11 => f52_l10 K a0 a1 a2 y1 K bq11 := by
  funext y1 bq11
  refine loop_o (fun x => (f52_fr10 a0 a1 a2 y1 x)) (fun L x => ?_) K bq11
  exact .trans (b := f52_b10 K a0 a1 a2 y1 (f52_j12 K a0 a1 a2 y1 L bq11 (realL (f52E K) 2)) (fun v0 => L (f52_fr10 a0 a1 a2 y1 v0)) x) (by kernel_rfl) (by rw [f52_u12] <;> rfl)
theorem f52_run (a0 : Int × Int × Int) (a1 : List tM) (a2 : List (tV × Int)) : rM (f52E K) Tryz.f52 (f52M K) (a0, a1, a2, ()) = f52G K a0 a1 a2 :=
  runF_G (n0 := 2) (by rfl) (.trans (b := f52_g K a0 a1 a2 (f52_j10 K a0 a1 a2 (realL (f52E K) 2))) (by kernel_rfl) (by rw [f52_u10] <;> rfl))
theorem f53_u4 (a0 : Int) (a1 : Int × Int × Int) (a2 : List tV) (a3 : Int) : f53_j4 K a0 a1 a2 a3 (realL (f53E K) 1) = fun bq5 bq6 => f53_l4 K a0 a1 a2 a3 K bq5 bq6 := by
  funext bq5 bq6
  exact loop_o (fun x => (f53_fr4 a0 a1 a2 a3 x.1 x.2)) (fun L x => by kernel_rfl) K (bq5, bq6)
theorem f53_run (a0 : Int) (a1 : Int × Int × Int) (a2 : List tV) (a3 : Int) : rM (f53E K) Tryz.f53 (f53M K) (a0, a1, a2, a3, ()) = f53G K a0 a1 a2 a3 :=
  runF_G (n0 := 1) (by rfl) (.trans (b := f53_g K a0 a1 a2 a3 (f53_j4 K a0 a1 a2 a3 (realL (f53E K) 1))) (by kernel_rfl) (by rw [f53_u4] <;> rfl))
theorem f26_u20 (a0 : Int) (a1 : Int × Int × Int) (a2 : List tM) (a3 : List (tV × Int)) (a4 y1 : Int) (y2 : Bool) (y3 : Int × Int × Bool) (y5 : Int × tL × List Int) (F15 : Fr → Option ((Int × tL × List Int) × Int)) (bq16 : Int) (bq17 : List Int) : f26_j20 K a0 a1 a2 a3 a4 y1 y2 y3 y5 F15 bq16 bq17 (realL (f26E K) 2) = fun q16 y19 bq21 bq22 => f26_l20 K a0 a1 a2 a3 a4 q16 y1 y2 y3 y5 y19 (fun v0 v1 => F15 (f26_fr15 a0 a1 a2 a3 a4 y1 y2 y3 y5 v0 v1)) K bq21 bq22 := by
  funext q16 y19 bq21 bq22
  exact loop_o (fun x => (f26_fr20 a0 a1 a2 a3 a4 q16 y1 y2 y3 y5 y19 x.1 x.2)) (fun L x => by kernel_rfl) K (bq21, bq22)
theorem f26_u15 (a0 : Int) (a1 : Int × Int × Int) (a2 : List tM) (a3 : List (tV × Int)) (a4 : Int) : f26_j15 K a0 a1 a2 a3 a4 (realL (f26E K) 2) = fun y1 y2 y3 y5 bq16 bq17 => f26_l15 K a0 a1 a2 a3 a4 y1 y2 y3 y5 K bq16 bq17 := by
  funext y1 y2 y3 y5 bq16 bq17
  refine loop_o (fun x => (f26_fr15 a0 a1 a2 a3 a4 y1 y2 y3 y5 x.1 x.2)) (fun L x => ?_) K (bq16, bq17)
  exact .trans (b := f26_b15 K a0 a1 a2 a3 a4 y1 y2 y3 y5 (f26_j20 K a0 a1 a2 a3 a4 y1 y2 y3 y5 L bq16 bq17 (realL (f26E K) 2)) (fun v0 v1 => L (f26_fr15 a0 a1 a2 a3 a4 y1 y2 y3 y5 v0 v1)) x.1 x.2) (by kernel_rfl) (by rw [f26_u20] <;> rfl)
theorem f26_run (a0 : Int) (a1 : Int × Int × Int) (a2 : List tM) (a3 : List (tV × Int)) (a4 : Int) : rM (f26E K) Tryz.f26 (f26M K) (a0, a1, a2, a3, a4, ()) = f26G K a0 a1 a2 a3 a4 :=
  runF_G (n0 := 2) (by rfl) (.trans (b := f26_g K a0 a1 a2 a3 a4 (f26_j15 K a0 a1 a2 a3 a4 (realL (f26E K) 2))) (by kernel_rfl) (by rw [f26_u15] <;> rfl))
theorem f11_u5 (a0 : ByteArray) : f11_j5 K a0 (realL (f11E K) 0) = fun y1 y2 bq6 bq7 bq8 bq9 bq10 bq11 bq12 bq13 => f11_l5 K a0 y1 y2 K bq6 bq7 bq8 bq9 bq10 bq11 bq12 bq13 := by
  funext y1 y2 bq6 bq7 bq8 bq9 bq10 bq11 bq12 bq13
  exact loop_o (fun x => (f11_fr5 a0 y1 y2 x.1 x.2.1 x.2.2.1 x.2.2.2.1 x.2.2.2.2.1 x.2.2.2.2.2.1 x.2.2.2.2.2.2.1 x.2.2.2.2.2.2.2)) (fun L x => by kernel_rfl) K (bq6, bq7, bq8, bq9, bq10, bq11, bq12, bq13)
theorem f11_run (a0 : ByteArray) : runC (f11E K) Tryz.f11 (.cons sI (.cons sI (.cons sL (.cons (.list 49 sM) (.list 82 (.cons sV sI)))))) [(.ro, .str)] [(.cons sI (.cons sL (.list 2 sI))), sI, sI] (a0, ()) = f11G K a0 :=
  runC_G (n0 := 0) (by rfl) (.trans (b := f11_g K a0 (f11_j5 K a0 (realL (f11E K) 0))) (by kernel_rfl) (by rw [f11_u5] <;> rfl))
theorem f6_u3 (a0 a1 : List tM) : f6_j3 K a0 a1 (realL (f6E K) 2) = fun bq4 => f6_l3 K a0 a1 K bq4 := by
  funext bq4
  exact loop_o (fun x => (f6_fr3 a0 a1 x)) (fun L x => by kernel_rfl) K bq4
theorem f6_run (a0 a1 : List tM) : rM (f6E K) Tryz.f6 (f6M K) (a0, a1, ()) = f6G K a0 a1 :=
  runF_G (n0 := 2) (by rfl) (.trans (b := f6_g K a0 a1 (f6_j3 K a0 a1 (realL (f6E K) 2))) (by kernel_rfl) (by rw [f6_u3] <;> rfl))
theorem f7_u2 (a0 : List tM) (a1 : Int) : f7_j2 K a0 a1 (realL (f7E K) 1) = fun bq3 bq4 bq5 => f7_l2 K K bq3 bq4 bq5 := by
  funext bq3 bq4 bq5
  exact loop_o (fun x => (f7_fr2 x.1 x.2.1 x.2.2)) (fun L x => by kernel_rfl) K (bq3, bq4, bq5)
theorem f7_run (a0 : List tM) (a1 : Int) : rM (f7E K) Tryz.f7 (f7M K) (a0, a1, ()) = f7G K a0 a1 :=
  runF_G (n0 := 1) (by rfl) (.trans (b := f7_g K a0 a1 (f7_j2 K a0 a1 (realL (f7E K) 1))) (by kernel_rfl) (by rw [f7_u2] <;> rfl))
theorem f8_u2 (a0 : List tM) (a1 : Int) : f8_j2 K a0 a1 (realL (f8E K) 1) = fun bq3 bq4 => f8_l2 K a0 K bq3 bq4 := by
  funext bq3 bq4
  exact loop_o (fun x => (f8_fr2 a0 x.1 x.2)) (fun L x => by kernel_rfl) K (bq3, bq4)
theorem f8_run (a0 : List tM) (a1 : Int) : rM (f8E K) Tryz.f8 (f8M K) (a0, a1, ()) = f8G K a0 a1 :=
  runF_G (n0 := 1) (by rfl) (.trans (b := f8_g K a0 a1 (f8_j2 K a0 a1 (realL (f8E K) 1))) (by kernel_rfl) (by rw [f8_u2] <;> rfl))
end Go.Proofs.YtphhbdjjfacpiaaGreatDoor.X
