/- Functions of the program as plain Lean functions, and that the program does what they say. Printed by gen.py. -/
import Derived.Test.YtakemdehgdpplaaGreatDoorQsD0
namespace Go.Proofs.YtakemdehgdpplaaGreatDoor.X
open Go
set_option maxRecDepth 100000
attribute [local instance] cwD
set_option linter.unusedVariables false
variable (K : Nat)
include K
theorem f8_u2 (a0 : ByteArray) (a1 : Int) : f8_j2 K a0 a1 (realL (f8E K) 0) = fun bq3 bq4 bq5 => f8_l2 K a0 a1 K bq3 bq4 bq5 := by
  funext bq3 bq4 bq5
  exact loop_o (fun x => (f8_fr2 a0 a1 x.1 x.2.1 x.2.2)) (fun L x => by kernel_rfl) K (bq3, bq4, bq5)
theorem f8_run (a0 : ByteArray) (a1 : Int) : rM (f8E K) Tryz.f8 (f8M K) (a0, a1, ()) = f8G K a0 a1 :=
  runF_G (n0 := 0) (by rfl) (.trans (b := f8_g K a0 a1 (f8_j2 K a0 a1 (realL (f8E K) 0))) (by kernel_rfl) (by rw [f8_u2] <;> rfl))
omit K
theorem f55_run (K : Nat) (rec : Int → Option ByteArray) (a0 : Int) : runF (f55E K rec) Tryz.f55 [(.ro, sI)] [.str] (a0, ()) = f55_s K rec a0 := by kernel_rfl
include K
theorem f23_u2 (a0 : ByteArray) : f23_j2 K a0 (realL (f23E K) 0) = fun bq3 bq4 => f23_l2 K a0 K bq3 bq4 := by
  funext bq3 bq4
  exact loop_o (fun x => (f23_fr2 a0 x.1 x.2)) (fun L x => by kernel_rfl) K (bq3, bq4)
theorem f23_run (a0 : ByteArray) : rM (f23E K) Tryz.f23 (f23M K) (a0, ()) = f23G K a0 :=
  runF_G (n0 := 0) (by rfl) (.trans (b := f23_g K a0 (f23_j2 K a0 (realL (f23E K) 0))) (by kernel_rfl) (by rw [f23_u2] <;> rfl))
theorem f46_u3 (a0 : List ByteArray) : f46_j3 K a0 (realL (f46E K) 1) = fun bq4 bq5 => f46_l3 K a0 K bq4 bq5 := by
  funext bq4 bq5
  exact loop_o (fun x => (f46_fr3 a0 x.1 x.2)) (fun L x => by kernel_rfl) K (bq4, bq5)
theorem f46_run (a0 : List ByteArray) : rM (f46E K) Tryz.f46 (f46M K) (a0, ()) = f46G K a0 :=
  runF_G (n0 := 1) (by rfl) (.trans (b := f46_g K a0 (f46_j3 K a0 (realL (f46E K) 1))) (by kernel_rfl) (by rw [f46_u3] <;> rfl))
theorem f132_u6 (a0 : Int × Int × Int × Int) : f132_j6 K a0 (realL (f132E K) 0) = fun bq7 bq8 bq9 bq10 bq11 => f132_l6 K a0 K bq7 bq8 bq9 bq10 bq11 := by
  funext bq7 bq8 bq9 bq10 bq11
  exact loop_o (fun x => (f132_fr6 a0 x.1 x.2.1 x.2.2.1 x.2.2.2.1 x.2.2.2.2)) (fun L x => by kernel_rfl) K (bq7, bq8, bq9, bq10, bq11)
theorem f132_run (a0 : Int × Int × Int × Int) : rM (f132E K) Tryz.f132 (f132M K) (a0, ()) = f132G K a0 :=
  runF_G (n0 := 0) (by rfl) (.trans (b := f132_g K a0 (f132_j6 K a0 (realL (f132E K) 0))) (by kernel_rfl) (by rw [f132_u6] <;> rfl))
omit K
theorem f134_run (K : Nat) (rec : Int → Int → Option Int) (a0 a1 : Int) : runF (f134E K rec) Tryz.f134 [(.ro, sI), (.ro, sI)] [sI] (a0, a1, ()) = f134_s K rec a0 a1 := by kernel_rfl
include K
theorem f95_u15 (a0 : List tV) (F10 : Fr → Option tL) (bq11 bq12 bq13 bq14 : Int) : f95_j15 K a0 F10 bq11 bq12 bq13 bq14 (realL (f95E K) 1) = fun q11 q12 bq16 bq17 bq18 bq19 => f95_l15 K a0 q11 q12 (fun v0 v1 v2 v3 => F10 (f95_fr10 a0 v0 v1 v2 v3)) K bq16 bq17 bq18 bq19 := by
  funext q11 q12 bq16 bq17 bq18 bq19
  exact loop_o (fun x => (f95_fr15 a0 q11 q12 x.1 x.2.1 x.2.2.1 x.2.2.2)) (fun L x => by kernel_rfl) K (bq16, bq17, bq18, bq19)
theorem f95_u10 (a0 : List tV) : f95_j10 K a0 (realL (f95E K) 1) = fun bq11 bq12 bq13 bq14 => f95_l10 K a0 K bq11 bq12 bq13 bq14 := by
  funext bq11 bq12 bq13 bq14
  refine loop_o (fun x => (f95_fr10 a0 x.1 x.2.1 x.2.2.1 x.2.2.2)) (fun L x => ?_) K (bq11, bq12, bq13, bq14)
  exact .trans (b := f95_b10 K a0 (f95_j15 K a0 L bq11 bq12 bq13 bq14 (realL (f95E K) 1)) (fun v0 v1 v2 v3 => L (f95_fr10 a0 v0 v1 v2 v3)) x.1 x.2.1 x.2.2.1 x.2.2.2) (by kernel_rfl) (by rw [f95_u15] <;> rfl)
theorem f95_run (a0 : List tV) : rM (f95E K) Tryz.f95 (f95M K) (a0, ()) = f95G K a0 :=
  runF_G (n0 := 1) (by rfl) (.trans (b := f95_g K a0 (f95_j10 K a0 (realL (f95E K) 1))) (by kernel_rfl) (by rw [f95_u10] <;> rfl))
theorem f175_u2 (a0 a1 : List Int) : f175_j2 K a0 a1 (realL (f175E K) 2) = fun bq3 => f175_l2 K a0 a1 K bq3 := by
  funext bq3
  exact loop_o (fun x => (f175_fr2 a0 a1 x)) (fun L x => by kernel_rfl) K bq3
theorem f175_run (a0 a1 : List Int) : rM (f175E K) Tryz.f175 (f175M K) (a0, a1, ()) = f175G K a0 a1 :=
  runF_G (n0 := 2) (by rfl) (.trans (b := f175_g K a0 a1 (f175_j2 K a0 a1 (realL (f175E K) 2))) (by kernel_rfl) (by rw [f175_u2] <;> rfl))
theorem f62_u6 (a0 : List tM) (a1 : tA × Int × Int) : f62_j6 K a0 a1 (realL (f62E K) 1) = fun bq7 bq8 => f62_l6 K a0 a1 K bq7 bq8 := by
  funext bq7 bq8
  exact loop_o (fun x => (f62_fr6 a0 a1 x.1 x.2)) (fun L x => by kernel_rfl) K (bq7, bq8)
theorem f62_run (a0 : List tM) (a1 : tA × Int × Int) : rM (f62E K) Tryz.f62 (f62M K) (a0, a1, ()) = f62G K a0 a1 :=
  runF_G (n0 := 1) (by rfl) (.trans (b := f62_g K a0 a1 (f62_j6 K a0 a1 (realL (f62E K) 1))) (by kernel_rfl) (by rw [f62_u6] <;> rfl))
theorem f12_u21 (a0 : Int × Int × Int) (a1 : List tM) (F17 : Fr → Option (List tM)) (bq18 : Int) (bq19 bq20 : List tM) : f12_j21 K a0 a1 F17 bq18 bq19 bq20 (realL (f12E K) 1) = fun q18 q20 bq22 bq23 bq24 => f12_l21 K a0 a1 q18 q20 (fun v0 v1 v2 => F17 (f12_fr17 a0 a1 v0 v1 v2)) K bq22 bq23 bq24 := by
  funext q18 q20 bq22 bq23 bq24
  exact loop_o (fun x => (f12_fr21 a0 a1 q18 q20 x.1 x.2.1 x.2.2)) (fun L x => by kernel_rfl) K (bq22, bq23, bq24)
theorem f12_u17 (a0 : Int × Int × Int) (a1 : List tM) : f12_j17 K a0 a1 (realL (f12E K) 1) = fun bq18 bq19 bq20 => f12_l17 K a0 a1 K bq18 bq19 bq20 := by
  funext bq18 bq19 bq20
  refine loop_o (fun x => (f12_fr17 a0 a1 x.1 x.2.1 x.2.2)) (fun L x => ?_) K (bq18, bq19, bq20)
  exact .trans (b := f12_b17 K a0 a1 (f12_j21 K a0 a1 L bq18 bq19 bq20 (realL (f12E K) 1)) (fun v0 v1 v2 => L (f12_fr17 a0 a1 v0 v1 v2)) x.1 x.2.1 x.2.2) (by kernel_rfl) (by rw [f12_u21] <;> rfl)
theorem f12_run (a0 : Int × Int × Int) (a1 : List tM) : rM (f12E K) Tryz.f12 (f12M K) (a0, a1, ()) = f12G K a0 a1 :=
  runF_G (n0 := 1) (by rfl) (.trans (b := f12_g K a0 a1 (f12_j17 K a0 a1 (realL (f12E K) 1))) (by kernel_rfl) (by rw [f12_u17] <;> rfl))
theorem f56_u9 (a0 : Int × Int × Int) (F6 : Fr → Option (List tV)) (bq7 : Int) (bq8 : List tV) : f56_j9 K a0 F6 bq7 bq8 (realL (f56E K) 0) = fun q7 bq10 bq11 => f56_l9 K a0 q7 (fun v0 v1 => F6 (f56_fr6 a0 v0 v1)) K bq10 bq11 := by
  funext q7 bq10 bq11
  exact loop_o (fun x => (f56_fr9 a0 q7 x.1 x.2)) (fun L x => by kernel_rfl) K (bq10, bq11)
theorem f56_u6 (a0 : Int × Int × Int) : f56_j6 K a0 (realL (f56E K) 0) = fun bq7 bq8 => f56_l6 K a0 K bq7 bq8 := by
  funext bq7 bq8
  refine loop_o (fun x => (f56_fr6 a0 x.1 x.2)) (fun L x => ?_) K (bq7, bq8)
  exact .trans (b := f56_b6 K a0 (f56_j9 K a0 L bq7 bq8 (realL (f56E K) 0)) (fun v0 v1 => L (f56_fr6 a0 v0 v1)) x.1 x.2) (by kernel_rfl) (by rw [f56_u9] <;> rfl)
theorem f56_run (a0 : Int × Int × Int) : rM (f56E K) Tryz.f56 (f56M K) (a0, ()) = f56G K a0 :=
  runF_G (n0 := 0) (by rfl) (.trans (b := f56_g K a0 (f56_j6 K a0 (realL (f56E K) 0))) (by kernel_rfl) (by rw [f56_u6] <;> rfl))
theorem f97_u3 (a0 : List tV) (a1 : Int × Int) : f97_j3 K a0 a1 (realL (f97E K) 1) = fun bq4 => f97_l3 K a0 a1 K bq4 := by
  funext bq4
  exact loop_o (fun x => (f97_fr3 a0 a1 x)) (fun L x => by kernel_rfl) K bq4
theorem f97_run (a0 : List tV) (a1 : Int × Int) : rM (f97E K) Tryz.f97 (f97M K) (a0, a1, ()) = f97G K a0 a1 :=
  runF_G (n0 := 1) (by rfl) (.trans (b := f97_g K a0 a1 (f97_j3 K a0 a1 (realL (f97E K) 1))) (by kernel_rfl) (by rw [f97_u3] <;> rfl))
theorem f57_u4 (a0 : Int × Int × Int) (a1 : List tM) (a2 : Int × Int) : f57_j4 K a0 a1 a2 (realL (f57E K) 1) = fun bq5 bq6 => f57_l4 K a0 a1 a2 K bq5 bq6 := by
  funext bq5 bq6
  exact loop_o (fun x => (f57_fr4 a0 a1 a2 x.1 x.2)) (fun L x => by kernel_rfl) K (bq5, bq6)
theorem f57_run (a0 : Int × Int × Int) (a1 : List tM) (a2 : Int × Int) : rM (f57E K) Tryz.f57 (f57M K) (a0, a1, a2, ()) = f57G K a0 a1 a2 :=
  runF_G (n0 := 1) (by rfl) (.trans (b := f57_g K a0 a1 a2 (f57_j4 K a0 a1 a2 (realL (f57E K) 1))) (by kernel_rfl) (by rw [f57_u4] <;> rfl))
theorem f25_u4 (a0 : Int × Int × Int) (a1 : List tM) : f25_j4 K a0 a1 (realL (f25E K) 1) = fun y1 bq5 bq6 => f25_l4 K a0 a1 y1 K bq5 bq6 := by
  funext y1 bq5 bq6
  exact loop_o (fun x => (f25_fr4 a0 a1 y1 x.1 x.2)) (fun L x => by kernel_rfl) K (bq5, bq6)
theorem f25_run (a0 : Int × Int × Int) (a1 : List tM) : rM (f25E K) Tryz.f25 (f25M K) (a0, a1, ()) = f25G K a0 a1 :=
  runF_G (n0 := 1) (by rfl) (.trans (b := f25_g K a0 a1 (f25_j4 K a0 a1 (realL (f25E K) 1))) (by kernel_rfl) (by rw [f25_u4] <;> rfl))
theorem f11_u12 (a0 : Int × Int × Int) (a1 : List tM) (y1 : List (List tV)) (F9 : Fr → Option (List Int)) (bq10 : Int) (bq11 : List Int) : f11_j12 K a0 a1 y1 F9 bq10 bq11 (realL (f11E K) 1) = fun q10 bq13 bq14 => f11_l12 K a0 a1 q10 y1 (fun v0 v1 => F9 (f11_fr9 a0 a1 y1 v0 v1)) K bq13 bq14 := by
  funext q10 bq13 bq14
  exact loop_o (fun x => (f11_fr12 a0 a1 q10 y1 x.1 x.2)) (fun L x => by kernel_rfl) K (bq13, bq14)
theorem f11_u9 (a0 : Int × Int × Int) (a1 : List tM) : f11_j9 K a0 a1 (realL (f11E K) 1) = fun y1 bq10 bq11 => f11_l9 K a0 a1 y1 K bq10 bq11 := by
  funext y1 bq10 bq11
  refine loop_o (fun x => (f11_fr9 a0 a1 y1 x.1 x.2)) (fun L x => ?_) K (bq10, bq11)
  exact .trans (b := f11_b9 K a0 a1 y1 (f11_j12 K a0 a1 y1 L bq10 bq11 (realL (f11E K) 1)) (fun v0 v1 => L (f11_fr9 a0 a1 y1 v0 v1)) x.1 x.2) (by kernel_rfl) (by rw [f11_u12] <;> rfl)
theorem f11_run (a0 : Int × Int × Int) (a1 : List tM) : rM (f11E K) Tryz.f11 (f11M K) (a0, a1, ()) = f11G K a0 a1 :=
  runF_G (n0 := 1) (by rfl) (.trans (b := f11_g K a0 a1 (f11_j9 K a0 a1 (realL (f11E K) 1))) (by kernel_rfl) (by rw [f11_u9] <;> rfl))
theorem f10_u11 (a0 : Int × Int × Int) (a1 : List Int) (a2 : List (tV × Int)) (F9 : Fr → Option (Int × Int × Bool)) (bq10 : Int) : f10_j11 K a0 a1 a2 F9 bq10 (realL (f10E K) 2) = fun q10 bq12 => f10_l11 K a0 a1 a2 q10 (fun v0 => F9 (f10_fr9 a0 a1 a2 v0)) K bq12 := by
  funext q10 bq12
  exact loop_o (fun x => (f10_fr11 a0 a1 a2 q10 x)) (fun L x => by kernel_rfl) K bq12
theorem f10_u9 (a0 : Int × Int × Int) (a1 : List Int) (a2 : List (tV × Int)) : f10_j9 K a0 a1 a2 (realL (f10E K) 2) = fun bq10 => f10_l9 K a0 a1 a2 K bq10 := by
  funext bq10
  refine loop_o (fun x => (f10_fr9 a0 a1 a2 x)) (fun L x => ?_) K bq10
  exact .trans (b := f10_b9 K a0 a1 a2 (f10_j11 K a0 a1 a2 L bq10 (realL (f10E K) 2)) (fun v0 => L (f10_fr9 a0 a1 a2 v0)) x) (by kernel_rfl) (by rw [f10_u11] <;> rfl)
theorem f10_run (a0 : Int × Int × Int) (a1 : List Int) (a2 : List (tV × Int)) : rM (f10E K) Tryz.f10 (f10M K) (a0, a1, a2, ()) = f10G K a0 a1 a2 :=
  runF_G (n0 := 2) (by rfl) (.trans (b := f10_g K a0 a1 a2 (f10_j9 K a0 a1 a2 (realL (f10E K) 2))) (by kernel_rfl) (by rw [f10_u9] <;> rfl))
theorem f6_u4 (a0 : ByteArray) : f6_j4 K a0 (realL (f6E K) 0) = fun y1 bq5 bq6 bq7 bq8 bq9 bq10 bq11 bq12 => f6_l4 K a0 y1 K bq5 bq6 bq7 bq8 bq9 bq10 bq11 bq12 := by
  funext y1 bq5 bq6 bq7 bq8 bq9 bq10 bq11 bq12
  exact loop_o (fun x => (f6_fr4 a0 y1 x.1 x.2.1 x.2.2.1 x.2.2.2.1 x.2.2.2.2.1 x.2.2.2.2.2.1 x.2.2.2.2.2.2.1 x.2.2.2.2.2.2.2)) (fun L x => by kernel_rfl) K (bq5, bq6, bq7, bq8, bq9, bq10, bq11, bq12)
theorem f6_run (a0 : ByteArray) : runO (f6E K) Tryz.f6 (.cons sI (.cons sL (.cons sI (.cons (.list 63 sM) (.list 73 (.cons sV sI)))))) [(.ro, .str)] [sI, sI] (a0, ()) = f6G K a0 :=
  runO_G (n0 := 0) (by rfl) (.trans (b := f6_g K a0 (f6_j4 K a0 (realL (f6E K) 0))) (by kernel_rfl) (by rw [f6_u4] <;> rfl))
theorem f68_u4 (a0 a1 : ByteArray) (a2 : Int) : f68_j4 K a0 a1 a2 (realL (f68E K) 0) = fun y1 bq5 bq6 => f68_l4 K a0 a1 a2 y1 K bq5 bq6 := by
  funext y1 bq5 bq6
  exact loop_o (fun x => (f68_fr4 a0 a1 a2 y1 x.1 x.2)) (fun L x => by kernel_rfl) K (bq5, bq6)
theorem f68_run (a0 a1 : ByteArray) (a2 : Int) : rM (f68E K) Tryz.f68 (f68M K) (a0, a1, a2, ()) = f68G K a0 a1 a2 :=
  runF_G (n0 := 0) (by rfl) (.trans (b := f68_g K a0 a1 a2 (f68_j4 K a0 a1 a2 (realL (f68E K) 0))) (by kernel_rfl) (by rw [f68_u4] <;> rfl))
theorem f104_u2 (a0 : ByteArray) : f104_j2 K a0 (realL (f104E K) 0) = fun bq3 bq4 => f104_l2 K a0 K bq3 bq4 := by
  funext bq3 bq4
  exact loop_o (fun x => (f104_fr2 a0 x.1 x.2)) (fun L x => by kernel_rfl) K (bq3, bq4)
theorem f104_run (a0 : ByteArray) : rM (f104E K) Tryz.f104 (f104M K) (a0, ()) = f104G K a0 :=
  runF_G (n0 := 0) (by rfl) (.trans (b := f104_g K a0 (f104_j2 K a0 (realL (f104E K) 0))) (by kernel_rfl) (by rw [f104_u2] <;> rfl))
theorem f151_u8 (a0 : Int) : f151_j8 K a0 (realL (f151E K) 0) = fun bq9 bq10 => f151_l8 K a0 K bq9 bq10 := by
  funext bq9 bq10
  exact loop_o (fun x => (f151_fr8 a0 x.1 x.2)) (fun L x => by kernel_rfl) K (bq9, bq10)
theorem f151_run (a0 : Int) : rM (f151E K) Tryz.f151 (f151M K) (a0, ()) = f151G K a0 :=
  runF_G (n0 := 0) (by rfl) (.trans (b := f151_g K a0 (f151_j8 K a0 (realL (f151E K) 0))) (by kernel_rfl) (by rw [f151_u8] <;> rfl))
theorem f184_u3 (a0 : List tA) (a1 : (tA → Option Bool)) : f184_j3 K a0 a1 (realL (f184E K) 1) = fun bq4 => f184_l3 K a0 a1 K bq4 := by
  funext bq4
  exact loop_o (fun x => (f184_fr3 a0 a1 x)) (fun L x => by kernel_rfl) K bq4
theorem f184_run (a0 : List tA) (a1 : (tA → Option Bool)) : rM (f184E K) Tryz.f184 (f184M K) (a0, a1, ()) = f184G K a0 a1 :=
  runF_G (n0 := 1) (by rfl) (.trans (b := f184_g K a0 a1 (f184_j3 K a0 a1 (realL (f184E K) 1))) (by kernel_rfl) (by rw [f184_u3] <;> rfl))
theorem f150_u4 (a0 : List tA) (a1 : (tA → Option Bool)) : f150_j4 K a0 a1 (realL (f150E K) 1) = fun y1 bq5 bq6 bq7 => f150_l4 K a1 y1 K bq5 bq6 bq7 := by
  funext y1 bq5 bq6 bq7
  exact loop_o (fun x => (f150_fr4 a1 y1 x.1 x.2.1 x.2.2)) (fun L x => by kernel_rfl) K (bq5, bq6, bq7)
theorem f150_run (a0 : List tA) (a1 : (tA → Option Bool)) : rM (f150E K) Tryz.f150 (f150M K) (a0, a1, ()) = f150G K a0 a1 :=
  runF_G (n0 := 1) (by rfl) (.trans (b := f150_g K a0 a1 (f150_j4 K a0 a1 (realL (f150E K) 1))) (by kernel_rfl) (by rw [f150_u4] <;> rfl))
theorem f148_u2 (a0 : List tA) (a1 : Int × Int × Int × Int) : f148_j2 K a0 a1 (realL (f148E K) 1) = fun bq3 => f148_l2 K a0 a1 K bq3 := by
  funext bq3
  exact loop_o (fun x => (f148_fr2 a0 a1 x)) (fun L x => by kernel_rfl) K bq3
theorem f148_run (a0 : List tA) (a1 : Int × Int × Int × Int) : rM (f148E K) Tryz.f148 (f148M K) (a0, a1, ()) = f148G K a0 a1 :=
  runF_G (n0 := 1) (by rfl) (.trans (b := f148_g K a0 a1 (f148_j2 K a0 a1 (realL (f148E K) 1))) (by kernel_rfl) (by rw [f148_u2] <;> rfl))
theorem f124_u2 (a0 a1 : List Int) : f124_j2 K a0 a1 (realL (f124E K) 2) = fun bq3 => f124_l2 K a0 a1 K bq3 := by
  funext bq3
  exact loop_o (fun x => (f124_fr2 a0 a1 x)) (fun L x => by kernel_rfl) K bq3
theorem f124_run (a0 a1 : List Int) : rM (f124E K) Tryz.f124 (f124M K) (a0, a1, ()) = f124G K a0 a1 :=
  runF_G (n0 := 2) (by rfl) (.trans (b := f124_g K a0 a1 (f124_j2 K a0 a1 (realL (f124E K) 2))) (by kernel_rfl) (by rw [f124_u2] <;> rfl))
theorem f45_u16 (a0 : Int × Int × Int) (a1 : List tM) (F12 : Fr → Option (List tM)) (bq13 : Int) (bq14 : List (tM × Bool)) (bq15 : List tM) : f45_j16 K a0 a1 F12 bq13 bq14 bq15 (realL (f45E K) 1) = fun q13 q15 bq17 bq18 bq19 => f45_l16 K a0 a1 q13 q15 (fun v0 v1 v2 => F12 (f45_fr12 a0 a1 v0 v1 v2)) K bq17 bq18 bq19 := by
  funext q13 q15 bq17 bq18 bq19
  exact loop_o (fun x => (f45_fr16 a0 a1 q13 q15 x.1 x.2.1 x.2.2)) (fun L x => by kernel_rfl) K (bq17, bq18, bq19)
theorem f45_u12 (a0 : Int × Int × Int) (a1 : List tM) : f45_j12 K a0 a1 (realL (f45E K) 1) = fun bq13 bq14 bq15 => f45_l12 K a0 a1 K bq13 bq14 bq15 := by
  funext bq13 bq14 bq15
  refine loop_o (fun x => (f45_fr12 a0 a1 x.1 x.2.1 x.2.2)) (fun L x => ?_) K (bq13, bq14, bq15)
  exact .trans (b := f45_b12 K a0 a1 (f45_j16 K a0 a1 L bq13 bq14 bq15 (realL (f45E K) 1)) (fun v0 v1 v2 => L (f45_fr12 a0 a1 v0 v1 v2)) x.1 x.2.1 x.2.2) (by kernel_rfl) (by rw [f45_u16] <;> rfl)
theorem f45_run (a0 : Int × Int × Int) (a1 : List tM) : rM (f45E K) Tryz.f45 (f45M K) (a0, a1, ()) = f45G K a0 a1 :=
  runF_G (n0 := 1) (by rfl) (.trans (b := f45_g K a0 a1 (f45_j12 K a0 a1 (realL (f45E K) 1))) (by kernel_rfl) (by rw [f45_u12] <;> rfl))
theorem f117_u23 (a0 : Int) (a1 : Int × Int × Int) (a2 : List tM) (q7 : Int) (q8 : List (tM × Bool)) (y1 : List tA) (y12 : Int × Int × Int × Int) (F21 : Fr → Option Bool) (bq22 : Int) : f117_j23 K a0 a1 a2 q7 q8 y1 y12 F21 bq22 (realL (f117E K) 1) = fun q22 bq24 => f117_l23 K a0 a1 a2 q7 q8 q22 y1 y12 (fun v0 => F21 (f117_fr21 a0 a1 a2 q7 q8 y1 y12 v0)) K bq24 := by
  funext q22 bq24
  exact loop_o (fun x => (f117_fr23 a0 a1 a2 q7 q8 q22 y1 y12 x)) (fun L x => by kernel_rfl) K bq24
theorem f117_u21 (a0 : Int) (a1 : Int × Int × Int) (a2 : List tM) : f117_j21 K a0 a1 a2 (realL (f117E K) 1) = fun q7 q8 y1 y12 bq22 => f117_l21 K a0 a1 a2 q7 q8 y1 y12 K bq22 := by
  funext q7 q8 y1 y12 bq22
  refine loop_o (fun x => (f117_fr21 a0 a1 a2 q7 q8 y1 y12 x)) (fun L x => ?_) K bq22
  exact .trans (b := f117_b21 K a0 a1 a2 q7 q8 y1 y12 (f117_j23 K a0 a1 a2 q7 q8 y1 y12 L bq22 (realL (f117E K) 1)) (fun v0 => L (f117_fr21 a0 a1 a2 q7 q8 y1 y12 v0)) x) (by kernel_rfl) (by rw [f117_u23] <;> rfl)
theorem f117_u6 (a0 : Int) (a1 : Int × Int × Int) (a2 : List tM) : f117_j6 K a0 a1 a2 (realL (f117E K) 1) = fun y1 bq7 bq8 => f117_l6 K a0 a1 a2 y1 K bq7 bq8 := by
  funext y1 bq7 bq8
  refine loop_o (fun x => (f117_fr6 a0 a1 a2 y1 x.1 x.2)) (fun L x => ?_) K (bq7, bq8)
  exact .trans (b := f117_b6 K a0 a1 a2 y1 (f117_j21 K a0 a1 a2 (realL (f117E K) 1)) (fun v0 v1 => L (f117_fr6 a0 a1 a2 y1 v0 v1)) x.1 x.2) (by kernel_rfl) (by rw [f117_u21] <;> rfl)
theorem f117_run (a0 : Int) (a1 : Int × Int × Int) (a2 : List tM) : rM (f117E K) Tryz.f117 (f117M K) (a0, a1, a2, ()) = f117G K a0 a1 a2 :=
  runF_G (n0 := 1) (by rfl) (.trans (b := f117_g K a0 a1 a2 (f117_j6 K a0 a1 a2 (realL (f117E K) 1))) (by kernel_rfl) (by rw [f117_u6] <;> rfl))
theorem f73_u4 (a0 : Int) (a1 : Int × Int × Int) (a2 : List (List tM)) : f73_j4 K a0 a1 a2 (realL (f73E K) 1) = fun y1 bq5 => f73_l4 K a0 a1 a2 y1 K bq5 := by
  funext y1 bq5
  exact loop_o (fun x => (f73_fr4 a0 a1 a2 y1 x)) (fun L x => by kernel_rfl) K bq5
theorem f73_run (a0 : Int) (a1 : Int × Int × Int) (a2 : List (List tM)) : rM (f73E K) Tryz.f73 (f73M K) (a0, a1, a2, ()) = f73G K a0 a1 a2 :=
  runF_G (n0 := 1) (by rfl) (.trans (b := f73_g K a0 a1 a2 (f73_j4 K a0 a1 a2 (realL (f73E K) 1))) (by kernel_rfl) (by rw [f73_u4] <;> rfl))
theorem f155_u3 (a0 : List (tV × Int)) (a1 : ((tV × Int) → Option Bool)) : f155_j3 K a0 a1 (realL (f155E K) 1) = fun bq4 => f155_l3 K a0 a1 K bq4 := by
  funext bq4
  exact loop_o (fun x => (f155_fr3 a0 a1 x)) (fun L x => by kernel_rfl) K bq4
theorem f155_run (a0 : List (tV × Int)) (a1 : ((tV × Int) → Option Bool)) : rM (f155E K) Tryz.f155 (f155M K) (a0, a1, ()) = f155G K a0 a1 :=
  runF_G (n0 := 1) (by rfl) (.trans (b := f155_g K a0 a1 (f155_j3 K a0 a1 (realL (f155E K) 1))) (by kernel_rfl) (by rw [f155_u3] <;> rfl))
theorem f120_u3 (a0 : List Int) (a1 : Int) : f120_j3 K a0 a1 (realL (f120E K) 1) = fun y1 bq4 bq5 => f120_l3 K a0 a1 y1 K bq4 bq5 := by
  funext y1 bq4 bq5
  exact loop_o (fun x => (f120_fr3 a0 a1 y1 x.1 x.2)) (fun L x => by kernel_rfl) K (bq4, bq5)
theorem f120_run (a0 : List Int) (a1 : Int) : rM (f120E K) Tryz.f120 (f120M K) (a0, a1, ()) = f120G K a0 a1 :=
  runF_G (n0 := 1) (by rfl) (.trans (b := f120_g K a0 a1 (f120_j3 K a0 a1 (realL (f120E K) 1))) (by kernel_rfl) (by rw [f120_u3] <;> rfl))
theorem f41_u9 (a0 : Int × Int × Int) (F6 : Fr → Option (List tV)) (bq7 : Int) (bq8 : List tV) : f41_j9 K a0 F6 bq7 bq8 (realL (f41E K) 0) = fun q7 bq10 bq11 => f41_l9 K a0 q7 (fun v0 v1 => F6 (f41_fr6 a0 v0 v1)) K bq10 bq11 := by
  funext q7 bq10 bq11
  exact loop_o (fun x => (f41_fr9 a0 q7 x.1 x.2)) (fun L x => by kernel_rfl) K (bq10, bq11)
theorem f41_u6 (a0 : Int × Int × Int) : f41_j6 K a0 (realL (f41E K) 0) = fun bq7 bq8 => f41_l6 K a0 K bq7 bq8 := by
  funext bq7 bq8
  refine loop_o (fun x => (f41_fr6 a0 x.1 x.2)) (fun L x => ?_) K (bq7, bq8)
  exact .trans (b := f41_b6 K a0 (f41_j9 K a0 L bq7 bq8 (realL (f41E K) 0)) (fun v0 v1 => L (f41_fr6 a0 v0 v1)) x.1 x.2) (by kernel_rfl) (by rw [f41_u9] <;> rfl)
theorem f41_run (a0 : Int × Int × Int) : rM (f41E K) Tryz.f41 (f41M K) (a0, ()) = f41G K a0 :=
  runF_G (n0 := 0) (by rfl) (.trans (b := f41_g K a0 (f41_j6 K a0 (realL (f41E K) 0))) (by kernel_rfl) (by rw [f41_u6] <;> rfl))
theorem f82_u9 (a0 : List tV) (F7 : Fr → Option (List tV)) (bq8 : Int) : f82_j9 K a0 F7 bq8 (realL (f82E K) 1) = fun q8 bq10 bq11 bq12 => f82_l9 K a0 q8 K bq10 bq11 bq12 := by
  funext q8 bq10 bq11 bq12
  exact loop_o (fun x => (f82_fr9 a0 q8 x.1 x.2.1 x.2.2)) (fun L x => by kernel_rfl) K (bq10, bq11, bq12)
theorem f82_u7 (a0 : List tV) : f82_j7 K a0 (realL (f82E K) 1) = fun bq8 => f82_l7 K a0 K bq8 := by
  funext bq8
  refine loop_o (fun x => (f82_fr7 a0 x)) (fun L x => ?_) K bq8
  exact .trans (b := f82_b7 K a0 (f82_j9 K a0 L bq8 (realL (f82E K) 1)) (fun v0 => L (f82_fr7 a0 v0)) x) (by kernel_rfl) (by rw [f82_u9] <;> rfl)
theorem f82_run (a0 : List tV) : rM (f82E K) Tryz.f82 (f82M K) (a0, ()) = f82G K a0 :=
  runF_G (n0 := 1) (by rfl) (.trans (b := f82_g K a0 (f82_j7 K a0 (realL (f82E K) 1))) (by kernel_rfl) (by rw [f82_u7] <;> rfl))
theorem f42_u3 (a0 : Int × Int × Int) (a1 : List tM) (a2 : Int × Int) : f42_j3 K a0 a1 a2 (realL (f42E K) 1) = fun bq4 bq5 => f42_l3 K a0 a1 a2 K bq4 bq5 := by
  funext bq4 bq5
  exact loop_o (fun x => (f42_fr3 a0 a1 a2 x.1 x.2)) (fun L x => by kernel_rfl) K (bq4, bq5)
theorem f42_run (a0 : Int × Int × Int) (a1 : List tM) (a2 : Int × Int) : rM (f42E K) Tryz.f42 (f42M K) (a0, a1, a2, ()) = f42G K a0 a1 a2 :=
  runF_G (n0 := 1) (by rfl) (.trans (b := f42_g K a0 a1 a2 (f42_j3 K a0 a1 a2 (realL (f42E K) 1))) (by kernel_rfl) (by rw [f42_u3] <;> rfl))
theorem f76_u22 (a0 : Int × Int × Int) (a1 : List tM) (y3 : List tV) (F16 : Fr → Option ((List (List tV)) × List Int)) (bq17 : Int) (bq18 : List (List tV)) (bq19 : List Int) : f76_j22 K a0 a1 y3 F16 bq17 bq18 bq19 (realL (f76E K) 1) = fun q17 q18 q19 y20 y21 bq23 bq24 => f76_l22 K a0 a1 q17 q18 q19 y3 y20 y21 (fun v0 v1 v2 => F16 (f76_fr16 a0 a1 y3 v0 v1 v2)) K bq23 bq24 := by
  funext q17 q18 q19 y20 y21 bq23 bq24
  exact loop_o (fun x => (f76_fr22 a0 a1 q17 q18 q19 y3 y20 y21 x.1 x.2)) (fun L x => by kernel_rfl) K (bq23, bq24)
theorem f76_u16 (a0 : Int × Int × Int) (a1 : List tM) : f76_j16 K a0 a1 (realL (f76E K) 1) = fun y3 bq17 bq18 bq19 => f76_l16 K a0 a1 y3 K bq17 bq18 bq19 := by
  funext y3 bq17 bq18 bq19
  refine loop_o (fun x => (f76_fr16 a0 a1 y3 x.1 x.2.1 x.2.2)) (fun L x => ?_) K (bq17, bq18, bq19)
  exact .trans (b := f76_b16 K a0 a1 y3 (f76_j22 K a0 a1 y3 L bq17 bq18 bq19 (realL (f76E K) 1)) (fun v0 v1 v2 => L (f76_fr16 a0 a1 y3 v0 v1 v2)) x.1 x.2.1 x.2.2) (by kernel_rfl) (by rw [f76_u22] <;> rfl)
theorem f76_run (a0 : Int × Int × Int) (a1 : List tM) : rM (f76E K) Tryz.f76 (f76M K) (a0, a1, ()) = f76G K a0 a1 :=
  runF_G (n0 := 1) (by rfl) (.trans (b := f76_g K a0 a1 (f76_j16 K a0 a1 (realL (f76E K) 1))) (by kernel_rfl) (by rw [f76_u16] <;> rfl))
theorem f39_u12 (a0 : Int × Int × Int) (a1 : List tM) (a2 : List (tV × Int)) (y1 : (List (List tV)) × List Int) (F10 : Fr → Option (Int × Int × Bool)) (bq11 : Int) : f39_j12 K a0 a1 a2 y1 F10 bq11 (realL (f39E K) 2) = fun q11 bq13 => f39_l12 K a0 a1 a2 q11 y1 (fun v0 => F10 (f39_fr10 a0 a1 a2 y1 v0)) K bq13 := by
  funext q11 bq13
  exact loop_o (fun x => (f39_fr12 a0 a1 a2 q11 y1 x)) (fun L x => by kernel_rfl) K bq13
theorem f39_u10 (a0 : Int × Int × Int) (a1 : List tM) (a2 : List (tV × Int)) : f39_j10 K a0 a1 a2 (realL (f39E K) 2) = fun y1 bq11 => f39_l10 K a0 a1 a2 y1 K bq11 := by
  funext y1 bq11
  refine loop_o (fun x => (f39_fr10 a0 a1 a2 y1 x)) (fun L x => ?_) K bq11
  exact .trans (b := f39_b10 K a0 a1 a2 y1 (f39_j12 K a0 a1 a2 y1 L bq11 (realL (f39E K) 2)) (fun v0 => L (f39_fr10 a0 a1 a2 y1 v0)) x) (by kernel_rfl) (by rw [f39_u12] <;> rfl)
theorem f39_run (a0 : Int × Int × Int) (a1 : List tM) (a2 : List (tV × Int)) : rM (f39E K) Tryz.f39 (f39M K) (a0, a1, a2, ()) = f39G K a0 a1 a2 :=
  runF_G (n0 := 2) (by rfl) (.trans (b := f39_g K a0 a1 a2 (f39_j10 K a0 a1 a2 (realL (f39E K) 2))) (by kernel_rfl) (by rw [f39_u10] <;> rfl))
theorem f40_u4 (a0 : Int) (a1 : Int × Int × Int) (a2 : List tV) (a3 : Int) : f40_j4 K a0 a1 a2 a3 (realL (f40E K) 1) = fun bq5 bq6 => f40_l4 K a0 a1 a2 a3 K bq5 bq6 := by
  funext bq5 bq6
  exact loop_o (fun x => (f40_fr4 a0 a1 a2 a3 x.1 x.2)) (fun L x => by kernel_rfl) K (bq5, bq6)
theorem f40_run (a0 : Int) (a1 : Int × Int × Int) (a2 : List tV) (a3 : Int) : rM (f40E K) Tryz.f40 (f40M K) (a0, a1, a2, a3, ()) = f40G K a0 a1 a2 a3 :=
  runF_G (n0 := 1) (by rfl) (.trans (b := f40_g K a0 a1 a2 a3 (f40_j4 K a0 a1 a2 a3 (realL (f40E K) 1))) (by kernel_rfl) (by rw [f40_u4] <;> rfl))
theorem f16_u20 (a0 : Int) (a1 : Int × Int × Int) (a2 : List tM) (a3 : List (tV × Int)) (a4 y1 : Int) (y2 : Bool) (y3 : Int × Int × Bool) (y5 : Int × tL × List Int) (F15 : Fr → Option ((Int × tL × List Int) × Int)) (bq16 : Int) (bq17 : List Int) : f16_j20 K a0 a1 a2 a3 a4 y1 y2 y3 y5 F15 bq16 bq17 (realL (f16E K) 2) = fun q16 y19 bq21 bq22 => f16_l20 K a0 a1 a2 a3 a4 q16 y1 y2 y3 y5 y19 (fun v0 v1 => F15 (f16_fr15 a0 a1 a2 a3 a4 y1 y2 y3 y5 v0 v1)) K bq21 bq22 := by
  funext q16 y19 bq21 bq22
  exact loop_o (fun x => (f16_fr20 a0 a1 a2 a3 a4 q16 y1 y2 y3 y5 y19 x.1 x.2)) (fun L x => by kernel_rfl) K (bq21, bq22)
theorem f16_u15 (a0 : Int) (a1 : Int × Int × Int) (a2 : List tM) (a3 : List (tV × Int)) (a4 : Int) : f16_j15 K a0 a1 a2 a3 a4 (realL (f16E K) 2) = fun y1 y2 y3 y5 bq16 bq17 => f16_l15 K a0 a1 a2 a3 a4 y1 y2 y3 y5 K bq16 bq17 := by
  funext y1 y2 y3 y5 bq16 bq17
  refine loop_o (fun x => (f16_fr15 a0 a1 a2 a3 a4 y1 y2 y3 y5 x.1 x.2)) (fun L x => ?_) K (bq16, bq17)
  exact .trans (b := f16_b15 K a0 a1 a2 a3 a4 y1 y2 y3 y5 (f16_j20 K a0 a1 a2 a3 a4 y1 y2 y3 y5 L bq16 bq17 (realL (f16E K) 2)) (fun v0 v1 => L (f16_fr15 a0 a1 a2 a3 a4 y1 y2 y3 y5 v0 v1)) x.1 x.2) (by kernel_rfl) (by rw [f16_u20] <;> rfl)
theorem f16_run (a0 : Int) (a1 : Int × Int × Int) (a2 : List tM) (a3 : List (tV × Int)) (a4 : Int) : rM (f16E K) Tryz.f16 (f16M K) (a0, a1, a2, a3, a4, ()) = f16G K a0 a1 a2 a3 a4 :=
  runF_G (n0 := 2) (by rfl) (.trans (b := f16_g K a0 a1 a2 a3 a4 (f16_j15 K a0 a1 a2 a3 a4 (realL (f16E K) 2))) (by kernel_rfl) (by rw [f16_u15] <;> rfl))
theorem f7_u5 (a0 : ByteArray) : f7_j5 K a0 (realL (f7E K) 0) = fun y1 y2 bq6 bq7 bq8 bq9 bq10 bq11 bq12 bq13 => f7_l5 K a0 y1 y2 K bq6 bq7 bq8 bq9 bq10 bq11 bq12 bq13 := by
  funext y1 y2 bq6 bq7 bq8 bq9 bq10 bq11 bq12 bq13
  exact loop_o (fun x => (f7_fr5 a0 y1 y2 x.1 x.2.1 x.2.2.1 x.2.2.2.1 x.2.2.2.2.1 x.2.2.2.2.2.1 x.2.2.2.2.2.2.1 x.2.2.2.2.2.2.2)) (fun L x => by kernel_rfl) K (bq6, bq7, bq8, bq9, bq10, bq11, bq12, bq13)
theorem f7_run (a0 : ByteArray) : runC (f7E K) Tryz.f7 (.cons sI (.cons sI (.cons sL (.cons (.list 63 sM) (.list 73 (.cons sV sI)))))) [(.ro, .str)] [(.cons sI (.cons sL (.list 2 sI))), sI, sI] (a0, ()) = f7G K a0 :=
  runC_G (n0 := 0) (by rfl) (.trans (b := f7_g K a0 (f7_j5 K a0 (realL (f7E K) 0))) (by kernel_rfl) (by rw [f7_u5] <;> rfl))
end Go.Proofs.YtakemdehgdpplaaGreatDoor.X
