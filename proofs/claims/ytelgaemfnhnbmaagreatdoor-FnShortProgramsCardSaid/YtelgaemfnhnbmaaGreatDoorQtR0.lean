/- Functions of the program as plain Lean functions, and that the program does what they say. Printed by gen.py. -/
import Derived.Test.YtelgaemfnhnbmaaGreatDoorQtD1
namespace Go.Proofs.YtelgaemfnhnbmaaGreatDoor.X
open Go
set_option maxRecDepth 100000
attribute [local instance] cwD
set_option linter.unusedVariables false
variable (K:Nat)
include K
theorem f38_u2 (a0:List Int):f38_j2 K a0 (realL (f38E K) 1)=fun bq3 bq4=>f38_l2 K a0 K bq3 bq4:=by
  funext bq3 bq4;exact loop_o (fun x=>(f38_fr2 a0 x.1 x.2)) (fun L x=>by kernel_rfl) K (bq3,bq4)
theorem f38_run (a0:List Int):runN (f38E K) Tryz.f38 5 (.int .u8) sV [] (a0,())=f38G K a0 :=
  runN_G (n0:=1) (by rfl) (.trans (b:=f38_g K a0 (f38_j2 K a0 (realL (f38E K) 1))) (by kernel_rfl) (by rw[f38_u2]<;>rfl))
theorem f123_u3 (a0:Int):f123_j3 K a0 (realL (f123E K) 0)=fun bq4 bq5=>f123_l3 K a0 K bq4 bq5:=by
  funext bq4 bq5;exact loop_o (fun x=>(f123_fr3 a0 x.1 x.2)) (fun L x=>by kernel_rfl) K (bq4,bq5)
theorem f123_run (a0:Int):rM (f123E K) Tryz.f123 (f123M K) (a0,())=f123G K a0 :=
  runF_G (n0:=0) (by rfl) (.trans (b:=f123_g K a0 (f123_j3 K a0 (realL (f123E K) 0))) (by kernel_rfl) (by rw[f123_u3]<;>rfl))
omit K
theorem f181_run (K:Nat) (rec:Int→Int→Option Int) (a0 a1:Int):runF (f181E K rec) Tryz.f181 [(.ro,sI),(.ro,sI)] [sI] (a0,a1,())=f181_s K rec a0 a1:=by kernel_rfl
include K
theorem f122_u15 (a0:List tV) (F10:Fr→Option tL) (bq11 bq12 bq13 bq14:Int):f122_j15 K a0 F10 bq11 bq12 bq13 bq14 (realL (f122E K) 1)=fun q11 q12 bq16 bq17 bq18 bq19=>f122_l15 K a0 q11 q12 (fun v0 v1 v2 v3=>F10 (f122_fr10 a0 v0 v1 v2 v3)) K bq16 bq17 bq18 bq19:=by
  funext q11 q12 bq16 bq17 bq18 bq19;exact loop_o (fun x=>(f122_fr15 a0 q11 q12 x.1 x.2.1 x.2.2.1 x.2.2.2)) (fun L x=>by kernel_rfl) K (bq16,bq17,bq18,bq19)
theorem f122_u10 (a0:List tV):f122_j10 K a0 (realL (f122E K) 1)=fun bq11 bq12 bq13 bq14=>f122_l10 K a0 K bq11 bq12 bq13 bq14:=by
  funext bq11 bq12 bq13 bq14;refine loop_o (fun x=>(f122_fr10 a0 x.1 x.2.1 x.2.2.1 x.2.2.2)) (fun L x=>?_) K (bq11,bq12,bq13,bq14);exact .trans (b:=f122_b10 K a0 (f122_j15 K a0 L bq11 bq12 bq13 bq14 (realL (f122E K) 1)) (fun v0 v1 v2 v3=>L (f122_fr10 a0 v0 v1 v2 v3)) x.1 x.2.1 x.2.2.1 x.2.2.2) (by kernel_rfl) (by rw[f122_u15]<;>rfl)
theorem f122_run (a0:List tV):rM (f122E K) Tryz.f122 (f122M K) (a0,())=f122G K a0 :=
  runF_G (n0:=1) (by rfl) (.trans (b:=f122_g K a0 (f122_j10 K a0 (realL (f122E K) 1))) (by kernel_rfl) (by rw[f122_u10]<;>rfl))
theorem f69_u4 (a0:Int) (a1:Int×Int×Int):f69_j4 K a0 a1 (realL (f69E K) 0)=fun y1 bq5 bq6=>f69_l4 K a0 a1 y1 K bq5 bq6:=by
  funext y1 bq5 bq6;exact loop_o (fun x=>(f69_fr4 a0 a1 y1 x.1 x.2)) (fun L x=>by kernel_rfl) K (bq5,bq6)
theorem f69_run (a0:Int) (a1:Int×Int×Int):rM (f69E K) Tryz.f69 (f69M K) (a0,a1,())=f69G K a0 a1 :=
  runF_G (n0:=0) (by rfl) (.trans (b:=f69_g K a0 a1 (f69_j4 K a0 a1 (realL (f69E K) 0))) (by kernel_rfl) (by rw[f69_u4]<;>rfl))
theorem f223_u2 (a0 a1:List Int):f223_j2 K a0 a1 (realL (f223E K) 2)=fun bq3=>f223_l2 K a0 a1 K bq3:=by
  funext bq3;exact loop_o (fun x=>(f223_fr2 a0 a1 x)) (fun L x=>by kernel_rfl) K bq3
theorem f223_run (a0 a1:List Int):rM (f223E K) Tryz.f223 (f223M K) (a0,a1,())=f223G K a0 a1 :=
  runF_G (n0:=2) (by rfl) (.trans (b:=f223_g K a0 a1 (f223_j2 K a0 a1 (realL (f223E K) 2))) (by kernel_rfl) (by rw[f223_u2]<;>rfl))
theorem f74_u6 (a0:List tM) (a1:tA×Int×Int):f74_j6 K a0 a1 (realL (f74E K) 1)=fun bq7 bq8=>f74_l6 K a0 a1 K bq7 bq8:=by
  funext bq7 bq8;exact loop_o (fun x=>(f74_fr6 a0 a1 x.1 x.2)) (fun L x=>by kernel_rfl) K (bq7,bq8)
theorem f74_run (a0:List tM) (a1:tA×Int×Int):rM (f74E K) Tryz.f74 (f74M K) (a0,a1,())=f74G K a0 a1 :=
  runF_G (n0:=1) (by rfl) (.trans (b:=f74_g K a0 a1 (f74_j6 K a0 a1 (realL (f74E K) 1))) (by kernel_rfl) (by rw[f74_u6]<;>rfl))
theorem f30_u21 (a0:Int×Int×Int) (a1:List tM) (F17:Fr→Option (List tM)) (bq18:Int) (bq19 bq20:List tM):f30_j21 K a0 a1 F17 bq18 bq19 bq20 (realL (f30E K) 1)=fun q18 q20 bq22 bq23 bq24=>f30_l21 K a0 a1 q18 q20 (fun v0 v1 v2=>F17 (f30_fr17 a0 a1 v0 v1 v2)) K bq22 bq23 bq24:=by
  funext q18 q20 bq22 bq23 bq24;exact loop_o (fun x=>(f30_fr21 a0 a1 q18 q20 x.1 x.2.1 x.2.2)) (fun L x=>by kernel_rfl) K (bq22,bq23,bq24)
theorem f30_u17 (a0:Int×Int×Int) (a1:List tM):f30_j17 K a0 a1 (realL (f30E K) 1)=fun bq18 bq19 bq20=>f30_l17 K a0 a1 K bq18 bq19 bq20:=by
  funext bq18 bq19 bq20;refine loop_o (fun x=>(f30_fr17 a0 a1 x.1 x.2.1 x.2.2)) (fun L x=>?_) K (bq18,bq19,bq20);exact .trans (b:=f30_b17 K a0 a1 (f30_j21 K a0 a1 L bq18 bq19 bq20 (realL (f30E K) 1)) (fun v0 v1 v2=>L (f30_fr17 a0 a1 v0 v1 v2)) x.1 x.2.1 x.2.2) (by kernel_rfl) (by rw[f30_u21]<;>rfl)
theorem f30_run (a0:Int×Int×Int) (a1:List tM):rM (f30E K) Tryz.f30 (f30M K) (a0,a1,())=f30G K a0 a1 :=
  runF_G (n0:=1) (by rfl) (.trans (b:=f30_g K a0 a1 (f30_j17 K a0 a1 (realL (f30E K) 1))) (by kernel_rfl) (by rw[f30_u17]<;>rfl))
theorem f70_u9 (a0:Int×Int×Int) (F6:Fr→Option (List tV)) (bq7:Int) (bq8:List tV):f70_j9 K a0 F6 bq7 bq8 (realL (f70E K) 0)=fun q7 bq10 bq11=>f70_l9 K a0 q7 (fun v0 v1=>F6 (f70_fr6 a0 v0 v1)) K bq10 bq11:=by
  funext q7 bq10 bq11;exact loop_o (fun x=>(f70_fr9 a0 q7 x.1 x.2)) (fun L x=>by kernel_rfl) K (bq10,bq11)
theorem f70_u6 (a0:Int×Int×Int):f70_j6 K a0 (realL (f70E K) 0)=fun bq7 bq8=>f70_l6 K a0 K bq7 bq8:=by
  funext bq7 bq8;refine loop_o (fun x=>(f70_fr6 a0 x.1 x.2)) (fun L x=>?_) K (bq7,bq8);exact .trans (b:=f70_b6 K a0 (f70_j9 K a0 L bq7 bq8 (realL (f70E K) 0)) (fun v0 v1=>L (f70_fr6 a0 v0 v1)) x.1 x.2) (by kernel_rfl) (by rw[f70_u9]<;>rfl)
theorem f70_run (a0:Int×Int×Int):rM (f70E K) Tryz.f70 (f70M K) (a0,())=f70G K a0 :=
  runF_G (n0:=0) (by rfl) (.trans (b:=f70_g K a0 (f70_j6 K a0 (realL (f70E K) 0))) (by kernel_rfl) (by rw[f70_u6]<;>rfl))
theorem f137_u3 (a0:List tV) (a1:Int×Int):f137_j3 K a0 a1 (realL (f137E K) 1)=fun bq4=>f137_l3 K a0 a1 K bq4:=by
  funext bq4;exact loop_o (fun x=>(f137_fr3 a0 a1 x)) (fun L x=>by kernel_rfl) K bq4
theorem f137_run (a0:List tV) (a1:Int×Int):rM (f137E K) Tryz.f137 (f137M K) (a0,a1,())=f137G K a0 a1 :=
  runF_G (n0:=1) (by rfl) (.trans (b:=f137_g K a0 a1 (f137_j3 K a0 a1 (realL (f137E K) 1))) (by kernel_rfl) (by rw[f137_u3]<;>rfl))
theorem f81_u4 (a0:Int×Int×Int) (a1:List tM) (a2:Int×Int):f81_j4 K a0 a1 a2 (realL (f81E K) 1)=fun bq5 bq6=>f81_l4 K a0 a1 a2 K bq5 bq6:=by
  funext bq5 bq6;exact loop_o (fun x=>(f81_fr4 a0 a1 a2 x.1 x.2)) (fun L x=>by kernel_rfl) K (bq5,bq6)
theorem f81_run (a0:Int×Int×Int) (a1:List tM) (a2:Int×Int):rM (f81E K) Tryz.f81 (f81M K) (a0,a1,a2,())=f81G K a0 a1 a2 :=
  runF_G (n0:=1) (by rfl) (.trans (b:=f81_g K a0 a1 a2 (f81_j4 K a0 a1 a2 (realL (f81E K) 1))) (by kernel_rfl) (by rw[f81_u4]<;>rfl))
theorem f32_u4 (a0:Int×Int×Int) (a1:List tM):f32_j4 K a0 a1 (realL (f32E K) 1)=fun y1 bq5 bq6=>f32_l4 K a0 a1 y1 K bq5 bq6:=by
  funext y1 bq5 bq6;exact loop_o (fun x=>(f32_fr4 a0 a1 y1 x.1 x.2)) (fun L x=>by kernel_rfl) K (bq5,bq6)
theorem f32_run (a0:Int×Int×Int) (a1:List tM):rM (f32E K) Tryz.f32 (f32M K) (a0,a1,())=f32G K a0 a1 :=
  runF_G (n0:=1) (by rfl) (.trans (b:=f32_g K a0 a1 (f32_j4 K a0 a1 (realL (f32E K) 1))) (by kernel_rfl) (by rw[f32_u4]<;>rfl))
theorem f153_u12 (a0:Int×Int×Int) (a1:List tM) (y1:List (List tV)) (F9:Fr→Option (List Int)) (bq10:Int) (bq11:List Int):f153_j12 K a0 a1 y1 F9 bq10 bq11 (realL (f153E K) 1)=fun q10 bq13 bq14=>f153_l12 K a0 a1 q10 y1 (fun v0 v1=>F9 (f153_fr9 a0 a1 y1 v0 v1)) K bq13 bq14:=by
  funext q10 bq13 bq14;exact loop_o (fun x=>(f153_fr12 a0 a1 q10 y1 x.1 x.2)) (fun L x=>by kernel_rfl) K (bq13,bq14)
theorem f153_u9 (a0:Int×Int×Int) (a1:List tM):f153_j9 K a0 a1 (realL (f153E K) 1)=fun y1 bq10 bq11=>f153_l9 K a0 a1 y1 K bq10 bq11:=by
  funext y1 bq10 bq11;refine loop_o (fun x=>(f153_fr9 a0 a1 y1 x.1 x.2)) (fun L x=>?_) K (bq10,bq11);exact .trans (b:=f153_b9 K a0 a1 y1 (f153_j12 K a0 a1 y1 L bq10 bq11 (realL (f153E K) 1)) (fun v0 v1=>L (f153_fr9 a0 a1 y1 v0 v1)) x.1 x.2) (by kernel_rfl) (by rw[f153_u12]<;>rfl)
theorem f153_run (a0:Int×Int×Int) (a1:List tM):rM (f153E K) Tryz.f153 (f153M K) (a0,a1,())=f153G K a0 a1 :=
  runF_G (n0:=1) (by rfl) (.trans (b:=f153_g K a0 a1 (f153_j9 K a0 a1 (realL (f153E K) 1))) (by kernel_rfl) (by rw[f153_u9]<;>rfl))
theorem f89_u27 (a0:(List Int)×Int×Int) (a1:Int) (a2:Int×Int×Int):f89_j27 K a0 a1 a2 (realL (f89E K) 1)=fun q9 q12 q21 q22 q23 q24 y1 y3 y15 y16 y17 bq28 bq29=>f89_l27 K a0 a1 a2 q9 q12 q21 q22 q23 q24 y1 y3 y15 y16 y17 K bq28 bq29:=by
  funext q9 q12 q21 q22 q23 q24 y1 y3 y15 y16 y17 bq28 bq29;exact loop_o (fun x=>(f89_fr27 a0 a1 a2 q9 q12 q21 q22 q23 q24 y1 y3 y15 y16 y17 x.1 x.2)) (fun L x=>by kernel_rfl) K (bq28,bq29)
theorem f89_u20 (a0:(List Int)×Int×Int) (a1:Int) (a2:Int×Int×Int):f89_j20 K a0 a1 a2 (realL (f89E K) 1)=fun q9 q12 y1 y3 y15 y16 y17 bq21 bq22 bq23 bq24=>f89_l20 K a0 a1 a2 q9 q12 y1 y3 y15 y16 y17 K bq21 bq22 bq23 bq24:=by
  funext q9 q12 y1 y3 y15 y16 y17 bq21 bq22 bq23 bq24;refine loop_o (fun x=>(f89_fr20 a0 a1 a2 q9 q12 y1 y3 y15 y16 y17 x.1 x.2.1 x.2.2.1 x.2.2.2)) (fun L x=>?_) K (bq21,bq22,bq23,bq24);exact .trans (b:=f89_b20 K a0 a1 a2 q9 q12 y1 y3 y15 y16 y17 (f89_j27 K a0 a1 a2 (realL (f89E K) 1)) (fun v0 v1 v2 v3=>L (f89_fr20 a0 a1 a2 q9 q12 y1 y3 y15 y16 y17 v0 v1 v2 v3)) x.1 x.2.1 x.2.2.1 x.2.2.2) (by kernel_rfl) (by rw[f89_u27]<;>rfl)
theorem f89_u8 (a0:(List Int)×Int×Int) (a1:Int) (a2:Int×Int×Int):f89_j8 K a0 a1 a2 (realL (f89E K) 1)=fun y1 y2 y3 bq9 bq10 bq11 bq12=>f89_l8 K a0 a1 a2 y1 y2 y3 K bq9 bq10 bq11 bq12:=by
  funext y1 y2 y3 bq9 bq10 bq11 bq12;refine loop_o (fun x=>(f89_fr8 a0 a1 a2 y1 y2 y3 x.1 x.2.1 x.2.2.1 x.2.2.2)) (fun L x=>?_) K (bq9,bq10,bq11,bq12);exact .trans (b:=f89_b8 K a0 a1 a2 y1 y2 y3 (f89_j20 K a0 a1 a2 (realL (f89E K) 1)) (fun v0 v1 v2 v3=>L (f89_fr8 a0 a1 a2 y1 y2 y3 v0 v1 v2 v3)) x.1 x.2.1 x.2.2.1 x.2.2.2) (by kernel_rfl) (by rw[f89_u20]<;>rfl)
theorem f89_u46 (a0:(List Int)×Int×Int) (a1:Int) (a2:Int×Int×Int):f89_j46 K a0 a1 a2 (realL (f89E K) 1)=fun q39 q40 q41 q42 q43 y1 y2 y3 y30 y31 bq47 bq48=>f89_l46 K a0 a1 a2 q39 q40 q41 q42 q43 y1 y2 y3 y30 y31 K bq47 bq48:=by
  funext q39 q40 q41 q42 q43 y1 y2 y3 y30 y31 bq47 bq48;exact loop_o (fun x=>(f89_fr46 a0 a1 a2 q39 q40 q41 q42 q43 y1 y2 y3 y30 y31 x.1 x.2)) (fun L x=>by kernel_rfl) K (bq47,bq48)
theorem f89_u38 (a0:(List Int)×Int×Int) (a1:Int) (a2:Int×Int×Int):f89_j38 K a0 a1 a2 (realL (f89E K) 1)=fun y1 y2 y3 y30 y31 bq39 bq40 bq41 bq42 bq43=>f89_l38 K a0 a1 a2 y1 y2 y3 y30 y31 K bq39 bq40 bq41 bq42 bq43:=by
  funext y1 y2 y3 y30 y31 bq39 bq40 bq41 bq42 bq43;refine loop_o (fun x=>(f89_fr38 a0 a1 a2 y1 y2 y3 y30 y31 x.1 x.2.1 x.2.2.1 x.2.2.2.1 x.2.2.2.2)) (fun L x=>?_) K (bq39,bq40,bq41,bq42,bq43);exact .trans (b:=f89_b38 K a0 a1 a2 y1 y2 y3 y30 y31 (f89_j46 K a0 a1 a2 (realL (f89E K) 1)) (fun v0 v1 v2 v3 v4=>L (f89_fr38 a0 a1 a2 y1 y2 y3 y30 y31 v0 v1 v2 v3 v4)) x.1 x.2.1 x.2.2.1 x.2.2.2.1 x.2.2.2.2) (by kernel_rfl) (by rw[f89_u46]<;>rfl)
theorem f89_run (a0:(List Int)×Int×Int) (a1:Int) (a2:Int×Int×Int):runP (f89E K) Tryz.f89 5 (.int .u8) sV [(.ro,sI),(.ro,sL)] [(.cons sI (.cons sL (.list 2 sI)))] (a0,a1,a2,())=f89G K a0 a1 a2 :=
  runP_G (n0:=1) (by rfl) (.trans (b:=f89_g K a0 a1 a2 (f89_j8 K a0 a1 a2 (realL (f89E K) 1)) (f89_j38 K a0 a1 a2 (realL (f89E K) 1))) (by kernel_rfl) (by rw[f89_u8,f89_u38]<;>rfl))
theorem f14_u5 (a0:List Int):f14_j5 K a0 (realL (f14E K) 1)=fun y2 bq6 bq7 bq8 bq9=>f14_l5 K a0 y2 K bq6 bq7 bq8 bq9:=by
  funext y2 bq6 bq7 bq8 bq9;exact loop_o (fun x=>(f14_fr5 a0 y2 x.1 x.2.1 x.2.2.1 x.2.2.2)) (fun L x=>by kernel_rfl) K (bq6,bq7,bq8,bq9)
theorem f14_run (a0:List Int):rM (f14E K) Tryz.f14 (f14M K) (a0,())=f14G K a0 :=
  runF_G (n0:=1) (by rfl) (.trans (b:=f14_g K a0 (f14_j5 K a0 (realL (f14E K) 1))) (by kernel_rfl) (by rw[f14_u5]<;>rfl))
theorem f154_u3 (a0:List Int) (a1:(Int→Option Bool)):f154_j3 K a0 a1 (realL (f154E K) 1)=fun bq4=>f154_l3 K a0 a1 K bq4:=by
  funext bq4;exact loop_o (fun x=>(f154_fr3 a0 a1 x)) (fun L x=>by kernel_rfl) K bq4
theorem f154_run (a0:List Int) (a1:(Int→Option Bool)):rM (f154E K) Tryz.f154 (f154M K) (a0,a1,())=f154G K a0 a1 :=
  runF_G (n0:=1) (by rfl) (.trans (b:=f154_g K a0 a1 (f154_j3 K a0 a1 (realL (f154E K) 1))) (by kernel_rfl) (by rw[f154_u3]<;>rfl))
theorem f54_u9 (a0:Int×Int×Int) (F6:Fr→Option (List tV)) (bq7:Int) (bq8:List tV):f54_j9 K a0 F6 bq7 bq8 (realL (f54E K) 0)=fun q7 bq10 bq11=>f54_l9 K a0 q7 (fun v0 v1=>F6 (f54_fr6 a0 v0 v1)) K bq10 bq11:=by
  funext q7 bq10 bq11;exact loop_o (fun x=>(f54_fr9 a0 q7 x.1 x.2)) (fun L x=>by kernel_rfl) K (bq10,bq11)
theorem f54_u6 (a0:Int×Int×Int):f54_j6 K a0 (realL (f54E K) 0)=fun bq7 bq8=>f54_l6 K a0 K bq7 bq8:=by
  funext bq7 bq8;refine loop_o (fun x=>(f54_fr6 a0 x.1 x.2)) (fun L x=>?_) K (bq7,bq8);exact .trans (b:=f54_b6 K a0 (f54_j9 K a0 L bq7 bq8 (realL (f54E K) 0)) (fun v0 v1=>L (f54_fr6 a0 v0 v1)) x.1 x.2) (by kernel_rfl) (by rw[f54_u9]<;>rfl)
theorem f54_run (a0:Int×Int×Int):rM (f54E K) Tryz.f54 (f54M K) (a0,())=f54G K a0 :=
  runF_G (n0:=0) (by rfl) (.trans (b:=f54_g K a0 (f54_j6 K a0 (realL (f54E K) 0))) (by kernel_rfl) (by rw[f54_u6]<;>rfl))
theorem f55_u5 (a0:Int×tL×List Int) (a1:tA×Int×Int):f55_j5 K a0 a1 (realL (f55E K) 1)=fun y1 bq6=>f55_l5 K a0 a1 y1 K bq6:=by
  funext y1 bq6;exact loop_o (fun x=>(f55_fr5 a0 a1 y1 x)) (fun L x=>by kernel_rfl) K bq6
theorem f55_run (a0:Int×tL×List Int) (a1:tA×Int×Int):rM (f55E K) Tryz.f55 (f55M K) (a0,a1,())=f55G K a0 a1 :=
  runF_G (n0:=1) (by rfl) (.trans (b:=f55_g K a0 a1 (f55_j5 K a0 a1 (realL (f55E K) 1))) (by kernel_rfl) (by rw[f55_u5]<;>rfl))
theorem f156_u2 (a0 a1:Int):f156_j2 K a0 a1 (realL (f156E K) 0)=fun bq3 bq4=>f156_l2 K K bq3 bq4:=by
  funext bq3 bq4;exact loop_o (fun x=>(f156_fr2 x.1 x.2)) (fun L x=>by kernel_rfl) K (bq3,bq4)
theorem f156_run (a0 a1:Int):rM (f156E K) Tryz.f156 (f156M K) (a0,a1,())=f156G K a0 a1 :=
  runF_G (n0:=0) (by rfl) (.trans (b:=f156_g K a0 a1 (f156_j2 K a0 a1 (realL (f156E K) 0))) (by kernel_rfl) (by rw[f156_u2]<;>rfl))
theorem f95_u18 (a0:List tV) (F13:Fr→Option tL) (bq14 bq15 bq16 bq17:Int):f95_j18 K a0 F13 bq14 bq15 bq16 bq17 (realL (f95E K) 1)=fun q14 q15 bq19 bq20 bq21 bq22=>f95_l18 K a0 q14 q15 (fun v0 v1 v2 v3=>F13 (f95_fr13 a0 v0 v1 v2 v3)) K bq19 bq20 bq21 bq22:=by
  funext q14 q15 bq19 bq20 bq21 bq22;exact loop_o (fun x=>(f95_fr18 a0 q14 q15 x.1 x.2.1 x.2.2.1 x.2.2.2)) (fun L x=>by kernel_rfl) K (bq19,bq20,bq21,bq22)
theorem f95_u13 (a0:List tV):f95_j13 K a0 (realL (f95E K) 1)=fun bq14 bq15 bq16 bq17=>f95_l13 K a0 K bq14 bq15 bq16 bq17:=by
  funext bq14 bq15 bq16 bq17;refine loop_o (fun x=>(f95_fr13 a0 x.1 x.2.1 x.2.2.1 x.2.2.2)) (fun L x=>?_) K (bq14,bq15,bq16,bq17);exact .trans (b:=f95_b13 K a0 (f95_j18 K a0 L bq14 bq15 bq16 bq17 (realL (f95E K) 1)) (fun v0 v1 v2 v3=>L (f95_fr13 a0 v0 v1 v2 v3)) x.1 x.2.1 x.2.2.1 x.2.2.2) (by kernel_rfl) (by rw[f95_u18]<;>rfl)
theorem f95_run (a0:List tV):rM (f95E K) Tryz.f95 (f95M K) (a0,())=f95G K a0 :=
  runF_G (n0:=1) (by rfl) (.trans (b:=f95_g K a0 (f95_j13 K a0 (realL (f95E K) 1))) (by kernel_rfl) (by rw[f95_u13]<;>rfl))
theorem f46_u6 (a0:Int×tL×List Int):f46_j6 K a0 (realL (f46E K) 1)=fun y1 y2 bq7 bq8=>f46_l6 K a0 y1 y2 K bq7 bq8:=by
  funext y1 y2 bq7 bq8;exact loop_o (fun x=>(f46_fr6 a0 y1 y2 x.1 x.2)) (fun L x=>by kernel_rfl) K (bq7,bq8)
theorem f46_run (a0:Int×tL×List Int):rM (f46E K) Tryz.f46 (f46M K) (a0,())=f46G K a0 :=
  runF_G (n0:=1) (by rfl) (.trans (b:=f46_g K a0 (f46_j6 K a0 (realL (f46E K) 1))) (by kernel_rfl) (by rw[f46_u6]<;>rfl))
theorem f45_u4 (a0:Int×tL×List Int) (a1:Int×Int×Int):f45_j4 K a0 a1 (realL (f45E K) 1)=fun y1 bq5 bq6=>f45_l4 K a0 a1 y1 K bq5 bq6:=by
  funext y1 bq5 bq6;exact loop_o (fun x=>(f45_fr4 a0 a1 y1 x.1 x.2)) (fun L x=>by kernel_rfl) K (bq5,bq6)
theorem f45_run (a0:Int×tL×List Int) (a1:Int×Int×Int):rM (f45E K) Tryz.f45 (f45M K) (a0,a1,())=f45G K a0 a1 :=
  runF_G (n0:=1) (by rfl) (.trans (b:=f45_g K a0 a1 (f45_j4 K a0 a1 (realL (f45E K) 1))) (by kernel_rfl) (by rw[f45_u4]<;>rfl))
theorem f96_u3 (a0:ByteArray) (a1:List Int):f96_j3 K a0 a1 (realL (f96E K) 1)=fun bq4 bq5=>f96_l3 K a0 a1 K bq4 bq5:=by
  funext bq4 bq5;exact loop_o (fun x=>(f96_fr3 a0 a1 x.1 x.2)) (fun L x=>by kernel_rfl) K (bq4,bq5)
theorem f96_run (a0:ByteArray) (a1:List Int):rM (f96E K) Tryz.f96 (f96M K) (a0,a1,())=f96G K a0 a1 :=
  runF_G (n0:=1) (by rfl) (.trans (b:=f96_g K a0 a1 (f96_j3 K a0 a1 (realL (f96E K) 1))) (by kernel_rfl) (by rw[f96_u3]<;>rfl))
theorem f169_u2 (a0 a1:List Int):f169_j2 K a0 a1 (realL (f169E K) 2)=fun bq3=>f169_l2 K a0 a1 K bq3:=by
  funext bq3;exact loop_o (fun x=>(f169_fr2 a0 a1 x)) (fun L x=>by kernel_rfl) K bq3
theorem f169_run (a0 a1:List Int):rM (f169E K) Tryz.f169 (f169M K) (a0,a1,())=f169G K a0 a1 :=
  runF_G (n0:=2) (by rfl) (.trans (b:=f169_g K a0 a1 (f169_j2 K a0 a1 (realL (f169E K) 2))) (by kernel_rfl) (by rw[f169_u2]<;>rfl))
theorem f18_u16 (a0:Int×Int×Int) (a1:List tM) (F12:Fr→Option (List tM)) (bq13:Int) (bq14:List (tM×Bool)) (bq15:List tM):f18_j16 K a0 a1 F12 bq13 bq14 bq15 (realL (f18E K) 1)=fun q13 q15 bq17 bq18 bq19=>f18_l16 K a0 a1 q13 q15 (fun v0 v1 v2=>F12 (f18_fr12 a0 a1 v0 v1 v2)) K bq17 bq18 bq19:=by
  funext q13 q15 bq17 bq18 bq19;exact loop_o (fun x=>(f18_fr16 a0 a1 q13 q15 x.1 x.2.1 x.2.2)) (fun L x=>by kernel_rfl) K (bq17,bq18,bq19)
theorem f18_u12 (a0:Int×Int×Int) (a1:List tM):f18_j12 K a0 a1 (realL (f18E K) 1)=fun bq13 bq14 bq15=>f18_l12 K a0 a1 K bq13 bq14 bq15:=by
  funext bq13 bq14 bq15;refine loop_o (fun x=>(f18_fr12 a0 a1 x.1 x.2.1 x.2.2)) (fun L x=>?_) K (bq13,bq14,bq15);exact .trans (b:=f18_b12 K a0 a1 (f18_j16 K a0 a1 L bq13 bq14 bq15 (realL (f18E K) 1)) (fun v0 v1 v2=>L (f18_fr12 a0 a1 v0 v1 v2)) x.1 x.2.1 x.2.2) (by kernel_rfl) (by rw[f18_u16]<;>rfl)
theorem f18_run (a0:Int×Int×Int) (a1:List tM):rM (f18E K) Tryz.f18 (f18M K) (a0,a1,())=f18G K a0 a1 :=
  runF_G (n0:=1) (by rfl) (.trans (b:=f18_g K a0 a1 (f18_j12 K a0 a1 (realL (f18E K) 1))) (by kernel_rfl) (by rw[f18_u12]<;>rfl))
theorem f106_u8 (a0:Int):f106_j8 K a0 (realL (f106E K) 0)=fun bq9 bq10=>f106_l8 K a0 K bq9 bq10:=by
  funext bq9 bq10;exact loop_o (fun x=>(f106_fr8 a0 x.1 x.2)) (fun L x=>by kernel_rfl) K (bq9,bq10)
theorem f106_run (a0:Int):rM (f106E K) Tryz.f106 (f106M K) (a0,())=f106G K a0 :=
  runF_G (n0:=0) (by rfl) (.trans (b:=f106_g K a0 (f106_j8 K a0 (realL (f106E K) 0))) (by kernel_rfl) (by rw[f106_u8]<;>rfl))
theorem f170_u3 (a0:List tA) (a1:(tA→Option Bool)):f170_j3 K a0 a1 (realL (f170E K) 1)=fun bq4=>f170_l3 K a0 a1 K bq4:=by
  funext bq4;exact loop_o (fun x=>(f170_fr3 a0 a1 x)) (fun L x=>by kernel_rfl) K bq4
theorem f170_run (a0:List tA) (a1:(tA→Option Bool)):rM (f170E K) Tryz.f170 (f170M K) (a0,a1,())=f170G K a0 a1 :=
  runF_G (n0:=1) (by rfl) (.trans (b:=f170_g K a0 a1 (f170_j3 K a0 a1 (realL (f170E K) 1))) (by kernel_rfl) (by rw[f170_u3]<;>rfl))
theorem f105_u4 (a0:List tA) (a1:(tA→Option Bool)):f105_j4 K a0 a1 (realL (f105E K) 1)=fun y1 bq5 bq6 bq7=>f105_l4 K a1 y1 K bq5 bq6 bq7:=by
  funext y1 bq5 bq6 bq7;exact loop_o (fun x=>(f105_fr4 a1 y1 x.1 x.2.1 x.2.2)) (fun L x=>by kernel_rfl) K (bq5,bq6,bq7)
theorem f105_run (a0:List tA) (a1:(tA→Option Bool)):rM (f105E K) Tryz.f105 (f105M K) (a0,a1,())=f105G K a0 a1 :=
  runF_G (n0:=1) (by rfl) (.trans (b:=f105_g K a0 a1 (f105_j4 K a0 a1 (realL (f105E K) 1))) (by kernel_rfl) (by rw[f105_u4]<;>rfl))
theorem f19_u14 (a0:Int×tL×List Int) (y1:List tA) (F10:Fr→Option (List tM)) (bq11:Int) (bq12:List tM):f19_j14 K a0 y1 F10 bq11 bq12 (realL (f19E K) 1)=fun q11 y13 bq15 bq16=>f19_l14 K a0 q11 y1 y13 (fun v0 v1=>F10 (f19_fr10 a0 y1 v0 v1)) K bq15 bq16:=by
  funext q11 y13 bq15 bq16;exact loop_o (fun x=>(f19_fr14 a0 q11 y1 y13 x.1 x.2)) (fun L x=>by kernel_rfl) K (bq15,bq16)
theorem f19_u10 (a0:Int×tL×List Int):f19_j10 K a0 (realL (f19E K) 1)=fun y1 bq11 bq12=>f19_l10 K a0 y1 K bq11 bq12:=by
  funext y1 bq11 bq12;refine loop_o (fun x=>(f19_fr10 a0 y1 x.1 x.2)) (fun L x=>?_) K (bq11,bq12);exact .trans (b:=f19_b10 K a0 y1 (f19_j14 K a0 y1 L bq11 bq12 (realL (f19E K) 1)) (fun v0 v1=>L (f19_fr10 a0 y1 v0 v1)) x.1 x.2) (by kernel_rfl) (by rw[f19_u14]<;>rfl)
theorem f19_run (a0:Int×tL×List Int):rM (f19E K) Tryz.f19 (f19M K) (a0,())=f19G K a0 :=
  runF_G (n0:=1) (by rfl) (.trans (b:=f19_g K a0 (f19_j10 K a0 (realL (f19E K) 1))) (by kernel_rfl) (by rw[f19_u10]<;>rfl))
theorem f56_u2 (a0:List tM) (a1:tA×Int×Int):f56_j2 K a0 a1 (realL (f56E K) 1)=fun bq3=>f56_l2 K a0 a1 K bq3:=by
  funext bq3;exact loop_o (fun x=>(f56_fr2 a0 a1 x)) (fun L x=>by kernel_rfl) K bq3
theorem f56_run (a0:List tM) (a1:tA×Int×Int):rM (f56E K) Tryz.f56 (f56M K) (a0,a1,())=f56G K a0 a1 :=
  runF_G (n0:=1) (by rfl) (.trans (b:=f56_g K a0 a1 (f56_j2 K a0 a1 (realL (f56E K) 1))) (by kernel_rfl) (by rw[f56_u2]<;>rfl))
theorem f60_u3 (a0:List Int) (a1:Int):f60_j3 K a0 a1 (realL (f60E K) 1)=fun y1 bq4 bq5=>f60_l3 K a0 a1 y1 K bq4 bq5:=by
  funext y1 bq4 bq5;exact loop_o (fun x=>(f60_fr3 a0 a1 y1 x.1 x.2)) (fun L x=>by kernel_rfl) K (bq4,bq5)
theorem f60_run (a0:List Int) (a1:Int):rM (f60E K) Tryz.f60 (f60M K) (a0,a1,())=f60G K a0 a1 :=
  runF_G (n0:=1) (by rfl) (.trans (b:=f60_g K a0 a1 (f60_j3 K a0 a1 (realL (f60E K) 1))) (by kernel_rfl) (by rw[f60_u3]<;>rfl))
theorem f116_u9 (a0:List tV) (F7:Fr→Option (List tV)) (bq8:Int):f116_j9 K a0 F7 bq8 (realL (f116E K) 1)=fun q8 bq10 bq11 bq12=>f116_l9 K a0 q8 K bq10 bq11 bq12:=by
  funext q8 bq10 bq11 bq12;exact loop_o (fun x=>(f116_fr9 a0 q8 x.1 x.2.1 x.2.2)) (fun L x=>by kernel_rfl) K (bq10,bq11,bq12)
theorem f116_u7 (a0:List tV):f116_j7 K a0 (realL (f116E K) 1)=fun bq8=>f116_l7 K a0 K bq8:=by
  funext bq8;refine loop_o (fun x=>(f116_fr7 a0 x)) (fun L x=>?_) K bq8;exact .trans (b:=f116_b7 K a0 (f116_j9 K a0 L bq8 (realL (f116E K) 1)) (fun v0=>L (f116_fr7 a0 v0)) x) (by kernel_rfl) (by rw[f116_u9]<;>rfl)
theorem f116_run (a0:List tV):rM (f116E K) Tryz.f116 (f116M K) (a0,())=f116G K a0 :=
  runF_G (n0:=1) (by rfl) (.trans (b:=f116_g K a0 (f116_j7 K a0 (realL (f116E K) 1))) (by kernel_rfl) (by rw[f116_u7]<;>rfl))
theorem f62_u3 (a0:Int×Int×Int) (a1:List tM) (a2:Int×Int):f62_j3 K a0 a1 a2 (realL (f62E K) 1)=fun bq4 bq5=>f62_l3 K a0 a1 a2 K bq4 bq5:=by
  funext bq4 bq5;exact loop_o (fun x=>(f62_fr3 a0 a1 a2 x.1 x.2)) (fun L x=>by kernel_rfl) K (bq4,bq5)
theorem f62_run (a0:Int×Int×Int) (a1:List tM) (a2:Int×Int):rM (f62E K) Tryz.f62 (f62M K) (a0,a1,a2,())=f62G K a0 a1 a2 :=
  runF_G (n0:=1) (by rfl) (.trans (b:=f62_g K a0 a1 a2 (f62_j3 K a0 a1 a2 (realL (f62E K) 1))) (by kernel_rfl) (by rw[f62_u3]<;>rfl))
theorem f22_u22 (a0:Int×Int×Int) (a1:List tM) (y3:List tV) (F16:Fr→Option ((List (List tV))×List Int)) (bq17:Int) (bq18:List (List tV)) (bq19:List Int):f22_j22 K a0 a1 y3 F16 bq17 bq18 bq19 (realL (f22E K) 1)=fun q17 q18 q19 y20 y21 bq23 bq24=>f22_l22 K a0 a1 q17 q18 q19 y3 y20 y21 (fun v0 v1 v2=>F16 (f22_fr16 a0 a1 y3 v0 v1 v2)) K bq23 bq24:=by
  funext q17 q18 q19 y20 y21 bq23 bq24;exact loop_o (fun x=>(f22_fr22 a0 a1 q17 q18 q19 y3 y20 y21 x.1 x.2)) (fun L x=>by kernel_rfl) K (bq23,bq24)
theorem f22_u16 (a0:Int×Int×Int) (a1:List tM):f22_j16 K a0 a1 (realL (f22E K) 1)=fun y3 bq17 bq18 bq19=>f22_l16 K a0 a1 y3 K bq17 bq18 bq19:=by
  funext y3 bq17 bq18 bq19;refine loop_o (fun x=>(f22_fr16 a0 a1 y3 x.1 x.2.1 x.2.2)) (fun L x=>?_) K (bq17,bq18,bq19);exact .trans (b:=f22_b16 K a0 a1 y3 (f22_j22 K a0 a1 y3 L bq17 bq18 bq19 (realL (f22E K) 1)) (fun v0 v1 v2=>L (f22_fr16 a0 a1 y3 v0 v1 v2)) x.1 x.2.1 x.2.2) (by kernel_rfl) (by rw[f22_u22]<;>rfl)
theorem f22_run (a0:Int×Int×Int) (a1:List tM):rM (f22E K) Tryz.f22 (f22M K) (a0,a1,())=f22G K a0 a1 :=
  runF_G (n0:=1) (by rfl) (.trans (b:=f22_g K a0 a1 (f22_j16 K a0 a1 (realL (f22E K) 1))) (by kernel_rfl) (by rw[f22_u16]<;>rfl))
theorem f23_u5 (a0:Int×tL×List Int) (a1:List tV):f23_j5 K a0 a1 (realL (f23E K) 2)=fun bq6 bq7 bq8=>f23_l5 K a0 a1 K bq6 bq7 bq8:=by
  funext bq6 bq7 bq8;exact loop_o (fun x=>(f23_fr5 a0 a1 x.1 x.2.1 x.2.2)) (fun L x=>by kernel_rfl) K (bq6,bq7,bq8)
theorem f23_run (a0:Int×tL×List Int) (a1:List tV):rM (f23E K) Tryz.f23 (f23M K) (a0,a1,())=f23G K a0 a1 :=
  runF_G (n0:=2) (by rfl) (.trans (b:=f23_g K a0 a1 (f23_j5 K a0 a1 (realL (f23E K) 2))) (by kernel_rfl) (by rw[f23_u5]<;>rfl))
theorem f6_u20 (a0:Int×tL×List Int):f6_j20 K a0 (realL (f6E K) 1)=fun q11 q12 q13 q14 y1 y2 y5 y18 bq21 bq22=>f6_l20 K a0 q11 q12 q13 q14 y1 y2 y5 y18 K bq21 bq22:=by
  funext q11 q12 q13 q14 y1 y2 y5 y18 bq21 bq22;exact loop_o (fun x=>(f6_fr20 a0 q11 q12 q13 q14 y1 y2 y5 y18 x.1 x.2)) (fun L x=>by kernel_rfl) K (bq21,bq22)
theorem f6_u10 (a0:Int×tL×List Int):f6_j10 K a0 (realL (f6E K) 1)=fun y1 y2 y5 bq11 bq12 bq13 bq14=>f6_l10 K a0 y1 y2 y5 K bq11 bq12 bq13 bq14:=by
  funext y1 y2 y5 bq11 bq12 bq13 bq14;refine loop_o (fun x=>(f6_fr10 a0 y1 y2 y5 x.1 x.2.1 x.2.2.1 x.2.2.2)) (fun L x=>?_) K (bq11,bq12,bq13,bq14);exact .trans (b:=f6_b10 K a0 y1 y2 y5 (f6_j20 K a0 (realL (f6E K) 1)) (fun v0 v1 v2 v3=>L (f6_fr10 a0 y1 y2 y5 v0 v1 v2 v3)) x.1 x.2.1 x.2.2.1 x.2.2.2) (by kernel_rfl) (by rw[f6_u20]<;>rfl)
theorem f6_run (a0:Int×tL×List Int):rM (f6E K) Tryz.f6 (f6M K) (a0,())=f6G K a0 :=
  runF_G (n0:=1) (by rfl) (.trans (b:=f6_g K a0 (f6_j10 K a0 (realL (f6E K) 1))) (by kernel_rfl) (by rw[f6_u10]<;>rfl))
theorem f66_u3 (a0:List Int) (a1 a2 a3:Int):f66_j3 K a0 a1 a2 a3 (realL (f66E K) 1)=fun bq4=>f66_l3 K a0 a1 a2 a3 K bq4:=by
  funext bq4;exact loop_o (fun x=>(f66_fr3 a0 a1 a2 a3 x)) (fun L x=>by kernel_rfl) K bq4
theorem f66_run (a0:List Int) (a1 a2 a3:Int):rM (f66E K) Tryz.f66 (f66M K) (a0,a1,a2,a3,())=f66G K a0 a1 a2 a3 :=
  runF_G (n0:=1) (by rfl) (.trans (b:=f66_g K a0 a1 a2 a3 (f66_j3 K a0 a1 a2 a3 (realL (f66E K) 1))) (by kernel_rfl) (by rw[f66_u3]<;>rfl))
theorem f71_u6 (a0:Int×tL×List Int) (a1:tA×Int×Int):f71_j6 K a0 a1 (realL (f71E K) 1)=fun y1 bq7=>f71_l6 K a0 a1 y1 K bq7:=by
  funext y1 bq7;exact loop_o (fun x=>(f71_fr6 a0 a1 y1 x)) (fun L x=>by kernel_rfl) K bq7
theorem f71_run (a0:Int×tL×List Int) (a1:tA×Int×Int):rM (f71E K) Tryz.f71 (f71M K) (a0,a1,())=f71G K a0 a1 :=
  runF_G (n0:=1) (by rfl) (.trans (b:=f71_g K a0 a1 (f71_j6 K a0 a1 (realL (f71E K) 1))) (by kernel_rfl) (by rw[f71_u6]<;>rfl))
theorem f68_u6 (a0:Int×tL×List Int):f68_j6 K a0 (realL (f68E K) 1)=fun y1 bq7 bq8=>f68_l6 K a0 y1 K bq7 bq8:=by
  funext y1 bq7 bq8;exact loop_o (fun x=>(f68_fr6 a0 y1 x.1 x.2)) (fun L x=>by kernel_rfl) K (bq7,bq8)
theorem f68_run (a0:Int×tL×List Int):rM (f68E K) Tryz.f68 (f68M K) (a0,())=f68G K a0 :=
  runF_G (n0:=1) (by rfl) (.trans (b:=f68_g K a0 (f68_j6 K a0 (realL (f68E K) 1))) (by kernel_rfl) (by rw[f68_u6]<;>rfl))
theorem f67_u4 (a0:Int×tL×List Int) (a1:Int×Int×Int):f67_j4 K a0 a1 (realL (f67E K) 1)=fun y1 bq5 bq6=>f67_l4 K a0 a1 y1 K bq5 bq6:=by
  funext y1 bq5 bq6;exact loop_o (fun x=>(f67_fr4 a0 a1 y1 x.1 x.2)) (fun L x=>by kernel_rfl) K (bq5,bq6)
theorem f67_run (a0:Int×tL×List Int) (a1:Int×Int×Int):rM (f67E K) Tryz.f67 (f67M K) (a0,a1,())=f67G K a0 a1 :=
  runF_G (n0:=1) (by rfl) (.trans (b:=f67_g K a0 a1 (f67_j4 K a0 a1 (realL (f67E K) 1))) (by kernel_rfl) (by rw[f67_u4]<;>rfl))
theorem f26_u13 (a0:Int×tL×List Int) (y1:List tA) (y2:List tV) (F10:Fr→Option (List tM)) (bq11:Int) (bq12:List tM):f26_j13 K a0 y1 y2 F10 bq11 bq12 (realL (f26E K) 1)=fun q11 bq14 bq15=>f26_l13 K a0 q11 y1 y2 (fun v0 v1=>F10 (f26_fr10 a0 y1 y2 v0 v1)) K bq14 bq15:=by
  funext q11 bq14 bq15;exact loop_o (fun x=>(f26_fr13 a0 q11 y1 y2 x.1 x.2)) (fun L x=>by kernel_rfl) K (bq14,bq15)
theorem f26_u10 (a0:Int×tL×List Int):f26_j10 K a0 (realL (f26E K) 1)=fun y1 y2 bq11 bq12=>f26_l10 K a0 y1 y2 K bq11 bq12:=by
  funext y1 y2 bq11 bq12;refine loop_o (fun x=>(f26_fr10 a0 y1 y2 x.1 x.2)) (fun L x=>?_) K (bq11,bq12);exact .trans (b:=f26_b10 K a0 y1 y2 (f26_j13 K a0 y1 y2 L bq11 bq12 (realL (f26E K) 1)) (fun v0 v1=>L (f26_fr10 a0 y1 y2 v0 v1)) x.1 x.2) (by kernel_rfl) (by rw[f26_u13]<;>rfl)
theorem f26_run (a0:Int×tL×List Int):rM (f26E K) Tryz.f26 (f26M K) (a0,())=f26G K a0 :=
  runF_G (n0:=1) (by rfl) (.trans (b:=f26_g K a0 (f26_j10 K a0 (realL (f26E K) 1))) (by kernel_rfl) (by rw[f26_u10]<;>rfl))
omit K
theorem f83_run (K:Nat) (rec:Int→Option ByteArray) (a0:Int):runF (f83E K rec) Tryz.f83 [(.ro,sI)] [.str] (a0,())=f83_s K rec a0:=by kernel_rfl
include K
theorem f126_u3 (a0:List Int) (a1:ByteArray):f126_j3 K a0 a1 (realL (f126E K) 1)=fun bq4 bq5=>f126_l3 K a0 a1 K bq4 bq5:=by
  funext bq4 bq5;exact loop_o (fun x=>(f126_fr3 a0 a1 x.1 x.2)) (fun L x=>by kernel_rfl) K (bq4,bq5)
theorem f126_run (a0:List Int) (a1:ByteArray):rM (f126E K) Tryz.f126 (f126M K) (a0,a1,())=f126G K a0 a1 :=
  runF_G (n0:=1) (by rfl) (.trans (b:=f126_g K a0 a1 (f126_j3 K a0 a1 (realL (f126E K) 1))) (by kernel_rfl) (by rw[f126_u3]<;>rfl))
theorem f189_u6 (a0:Int×Int×Int×Int):f189_j6 K a0 (realL (f189E K) 0)=fun bq7 bq8 bq9 bq10 bq11=>f189_l6 K a0 K bq7 bq8 bq9 bq10 bq11:=by
  funext bq7 bq8 bq9 bq10 bq11;exact loop_o (fun x=>(f189_fr6 a0 x.1 x.2.1 x.2.2.1 x.2.2.2.1 x.2.2.2.2)) (fun L x=>by kernel_rfl) K (bq7,bq8,bq9,bq10,bq11)
theorem f189_run (a0:Int×Int×Int×Int):rM (f189E K) Tryz.f189 (f189M K) (a0,())=f189G K a0 :=
  runF_G (n0:=0) (by rfl) (.trans (b:=f189_g K a0 (f189_j6 K a0 (realL (f189E K) 0))) (by kernel_rfl) (by rw[f189_u6]<;>rfl))
theorem f7_u22 (a0:Int×tL×List Int):f7_j22 K a0 (realL (f7E K) 1)=fun q12 q13 q14 y1 y2 y3 y18 bq23 bq24 bq25=>f7_l22 K a0 q12 q13 q14 y1 y2 y3 y18 K bq23 bq24 bq25:=by
  funext q12 q13 q14 y1 y2 y3 y18 bq23 bq24 bq25;exact loop_o (fun x=>(f7_fr22 a0 q12 q13 q14 y1 y2 y3 y18 x.1 x.2.1 x.2.2)) (fun L x=>by kernel_rfl) K (bq23,bq24,bq25)
theorem f7_u10 (a0:Int×tL×List Int):f7_j10 K a0 (realL (f7E K) 1)=fun y1 y2 y3 bq11 bq12 bq13 bq14=>f7_l10 K a0 y1 y2 y3 K bq11 bq12 bq13 bq14:=by
  funext y1 y2 y3 bq11 bq12 bq13 bq14;refine loop_o (fun x=>(f7_fr10 a0 y1 y2 y3 x.1 x.2.1 x.2.2.1 x.2.2.2)) (fun L x=>?_) K (bq11,bq12,bq13,bq14);exact .trans (b:=f7_b10 K a0 y1 y2 y3 (f7_j22 K a0 (realL (f7E K) 1)) (fun v0 v1 v2 v3=>L (f7_fr10 a0 y1 y2 y3 v0 v1 v2 v3)) x.1 x.2.1 x.2.2.1 x.2.2.2) (by kernel_rfl) (by rw[f7_u22]<;>rfl)
theorem f7_run (a0:Int×tL×List Int):rM (f7E K) Tryz.f7 (f7M K) (a0,())=f7G K a0 :=
  runF_G (n0:=1) (by rfl) (.trans (b:=f7_g K a0 (f7_j10 K a0 (realL (f7E K) 1))) (by kernel_rfl) (by rw[f7_u10]<;>rfl))
theorem f195_u4 (a0 a1:ByteArray) (a2:Int):f195_j4 K a0 a1 a2 (realL (f195E K) 0)=fun y1 bq5 bq6=>f195_l4 K a0 a1 a2 y1 K bq5 bq6:=by
  funext y1 bq5 bq6;exact loop_o (fun x=>(f195_fr4 a0 a1 a2 y1 x.1 x.2)) (fun L x=>by kernel_rfl) K (bq5,bq6)
theorem f195_run (a0 a1:ByteArray) (a2:Int):rM (f195E K) Tryz.f195 (f195M K) (a0,a1,a2,())=f195G K a0 a1 a2 :=
  runF_G (n0:=0) (by rfl) (.trans (b:=f195_g K a0 a1 a2 (f195_j4 K a0 a1 a2 (realL (f195E K) 0))) (by kernel_rfl) (by rw[f195_u4]<;>rfl))
theorem f228_u2 (a0:ByteArray):f228_j2 K a0 (realL (f228E K) 0)=fun bq3 bq4=>f228_l2 K a0 K bq3 bq4:=by
  funext bq3 bq4;exact loop_o (fun x=>(f228_fr2 a0 x.1 x.2)) (fun L x=>by kernel_rfl) K (bq3,bq4)
theorem f228_run (a0:ByteArray):rM (f228E K) Tryz.f228 (f228M K) (a0,())=f228G K a0 :=
  runF_G (n0:=0) (by rfl) (.trans (b:=f228_g K a0 (f228_j2 K a0 (realL (f228E K) 0))) (by kernel_rfl) (by rw[f228_u2]<;>rfl))
theorem f256_u2 (a0:List tA) (a1:Int×Int×Int×Int):f256_j2 K a0 a1 (realL (f256E K) 1)=fun bq3=>f256_l2 K a0 a1 K bq3:=by
  funext bq3;exact loop_o (fun x=>(f256_fr2 a0 a1 x)) (fun L x=>by kernel_rfl) K bq3
theorem f256_run (a0:List tA) (a1:Int×Int×Int×Int):rM (f256E K) Tryz.f256 (f256M K) (a0,a1,())=f256G K a0 a1 :=
  runF_G (n0:=1) (by rfl) (.trans (b:=f256_g K a0 a1 (f256_j2 K a0 a1 (realL (f256E K) 1))) (by kernel_rfl) (by rw[f256_u2]<;>rfl))
theorem f238_u23 (a0:Int) (a1:Int×Int×Int) (a2:List tM) (q7:Int) (q8:List (tM×Bool)) (y1:List tA) (y12:Int×Int×Int×Int) (F21:Fr→Option Bool) (bq22:Int):f238_j23 K a0 a1 a2 q7 q8 y1 y12 F21 bq22 (realL (f238E K) 1)=fun q22 bq24=>f238_l23 K a0 a1 a2 q7 q8 q22 y1 y12 (fun v0=>F21 (f238_fr21 a0 a1 a2 q7 q8 y1 y12 v0)) K bq24:=by
  funext q22 bq24;exact loop_o (fun x=>(f238_fr23 a0 a1 a2 q7 q8 q22 y1 y12 x)) (fun L x=>by kernel_rfl) K bq24
theorem f238_u21 (a0:Int) (a1:Int×Int×Int) (a2:List tM):f238_j21 K a0 a1 a2 (realL (f238E K) 1)=fun q7 q8 y1 y12 bq22=>f238_l21 K a0 a1 a2 q7 q8 y1 y12 K bq22:=by
  funext q7 q8 y1 y12 bq22;refine loop_o (fun x=>(f238_fr21 a0 a1 a2 q7 q8 y1 y12 x)) (fun L x=>?_) K bq22;exact .trans (b:=f238_b21 K a0 a1 a2 q7 q8 y1 y12 (f238_j23 K a0 a1 a2 q7 q8 y1 y12 L bq22 (realL (f238E K) 1)) (fun v0=>L (f238_fr21 a0 a1 a2 q7 q8 y1 y12 v0)) x) (by kernel_rfl) (by rw[f238_u23]<;>rfl)
theorem f238_u6 (a0:Int) (a1:Int×Int×Int) (a2:List tM):f238_j6 K a0 a1 a2 (realL (f238E K) 1)=fun y1 bq7 bq8=>f238_l6 K a0 a1 a2 y1 K bq7 bq8:=by
  funext y1 bq7 bq8;refine loop_o (fun x=>(f238_fr6 a0 a1 a2 y1 x.1 x.2)) (fun L x=>?_) K (bq7,bq8);exact .trans (b:=f238_b6 K a0 a1 a2 y1 (f238_j21 K a0 a1 a2 (realL (f238E K) 1)) (fun v0 v1=>L (f238_fr6 a0 a1 a2 y1 v0 v1)) x.1 x.2) (by kernel_rfl) (by rw[f238_u21]<;>rfl)
theorem f238_run (a0:Int) (a1:Int×Int×Int) (a2:List tM):rM (f238E K) Tryz.f238 (f238M K) (a0,a1,a2,())=f238G K a0 a1 a2 :=
  runF_G (n0:=1) (by rfl) (.trans (b:=f238_g K a0 a1 a2 (f238_j6 K a0 a1 a2 (realL (f238E K) 1))) (by kernel_rfl) (by rw[f238_u6]<;>rfl))
theorem f198_u4 (a0:Int) (a1:Int×Int×Int) (a2:List (List tM)):f198_j4 K a0 a1 a2 (realL (f198E K) 1)=fun y1 bq5=>f198_l4 K a0 a1 a2 y1 K bq5:=by
  funext y1 bq5;exact loop_o (fun x=>(f198_fr4 a0 a1 a2 y1 x)) (fun L x=>by kernel_rfl) K bq5
theorem f198_run (a0:Int) (a1:Int×Int×Int) (a2:List (List tM)):rM (f198E K) Tryz.f198 (f198M K) (a0,a1,a2,())=f198G K a0 a1 a2 :=
  runF_G (n0:=1) (by rfl) (.trans (b:=f198_g K a0 a1 a2 (f198_j4 K a0 a1 a2 (realL (f198E K) 1))) (by kernel_rfl) (by rw[f198_u4]<;>rfl))
theorem f257_u3 (a0:List (tV×Int)) (a1:((tV×Int)→Option Bool)):f257_j3 K a0 a1 (realL (f257E K) 1)=fun bq4=>f257_l3 K a0 a1 K bq4:=by
  funext bq4;exact loop_o (fun x=>(f257_fr3 a0 a1 x)) (fun L x=>by kernel_rfl) K bq4
theorem f257_run (a0:List (tV×Int)) (a1:((tV×Int)→Option Bool)):rM (f257E K) Tryz.f257 (f257M K) (a0,a1,())=f257G K a0 a1 :=
  runF_G (n0:=1) (by rfl) (.trans (b:=f257_g K a0 a1 (f257_j3 K a0 a1 (realL (f257E K) 1))) (by kernel_rfl) (by rw[f257_u3]<;>rfl))
theorem f148_u12 (a0:Int×Int×Int) (a1:List tM) (a2:List (tV×Int)) (y1:(List (List tV))×List Int) (F10:Fr→Option (Int×Int×Bool)) (bq11:Int):f148_j12 K a0 a1 a2 y1 F10 bq11 (realL (f148E K) 2)=fun q11 bq13=>f148_l12 K a0 a1 a2 q11 y1 (fun v0=>F10 (f148_fr10 a0 a1 a2 y1 v0)) K bq13:=by
  funext q11 bq13;exact loop_o (fun x=>(f148_fr12 a0 a1 a2 q11 y1 x)) (fun L x=>by kernel_rfl) K bq13
theorem f148_u10 (a0:Int×Int×Int) (a1:List tM) (a2:List (tV×Int)):f148_j10 K a0 a1 a2 (realL (f148E K) 2)=fun y1 bq11=>f148_l10 K a0 a1 a2 y1 K bq11:=by
  funext y1 bq11;refine loop_o (fun x=>(f148_fr10 a0 a1 a2 y1 x)) (fun L x=>?_) K bq11;exact .trans (b:=f148_b10 K a0 a1 a2 y1 (f148_j12 K a0 a1 a2 y1 L bq11 (realL (f148E K) 2)) (fun v0=>L (f148_fr10 a0 a1 a2 y1 v0)) x) (by kernel_rfl) (by rw[f148_u12]<;>rfl)
theorem f148_run (a0:Int×Int×Int) (a1:List tM) (a2:List (tV×Int)):rM (f148E K) Tryz.f148 (f148M K) (a0,a1,a2,())=f148G K a0 a1 a2 :=
  runF_G (n0:=2) (by rfl) (.trans (b:=f148_g K a0 a1 a2 (f148_j10 K a0 a1 a2 (realL (f148E K) 2))) (by kernel_rfl) (by rw[f148_u10]<;>rfl))
theorem f149_u4 (a0:Int) (a1:Int×Int×Int) (a2:List tV) (a3:Int):f149_j4 K a0 a1 a2 a3 (realL (f149E K) 1)=fun bq5 bq6=>f149_l4 K a0 a1 a2 a3 K bq5 bq6:=by
  funext bq5 bq6;exact loop_o (fun x=>(f149_fr4 a0 a1 a2 a3 x.1 x.2)) (fun L x=>by kernel_rfl) K (bq5,bq6)
theorem f149_run (a0:Int) (a1:Int×Int×Int) (a2:List tV) (a3:Int):rM (f149E K) Tryz.f149 (f149M K) (a0,a1,a2,a3,())=f149G K a0 a1 a2 a3 :=
  runF_G (n0:=1) (by rfl) (.trans (b:=f149_g K a0 a1 a2 a3 (f149_j4 K a0 a1 a2 a3 (realL (f149E K) 1))) (by kernel_rfl) (by rw[f149_u4]<;>rfl))
theorem f87_u20 (a0:Int) (a1:Int×Int×Int) (a2:List tM) (a3:List (tV×Int)) (a4 y1:Int) (y2:Bool) (y3:Int×Int×Bool) (y5:Int×tL×List Int) (F15:Fr→Option ((Int×tL×List Int)×Int)) (bq16:Int) (bq17:List Int):f87_j20 K a0 a1 a2 a3 a4 y1 y2 y3 y5 F15 bq16 bq17 (realL (f87E K) 2)=fun q16 y19 bq21 bq22=>f87_l20 K a0 a1 a2 a3 a4 q16 y1 y2 y3 y5 y19 (fun v0 v1=>F15 (f87_fr15 a0 a1 a2 a3 a4 y1 y2 y3 y5 v0 v1)) K bq21 bq22:=by
  funext q16 y19 bq21 bq22;exact loop_o (fun x=>(f87_fr20 a0 a1 a2 a3 a4 q16 y1 y2 y3 y5 y19 x.1 x.2)) (fun L x=>by kernel_rfl) K (bq21,bq22)
theorem f87_u15 (a0:Int) (a1:Int×Int×Int) (a2:List tM) (a3:List (tV×Int)) (a4:Int):f87_j15 K a0 a1 a2 a3 a4 (realL (f87E K) 2)=fun y1 y2 y3 y5 bq16 bq17=>f87_l15 K a0 a1 a2 a3 a4 y1 y2 y3 y5 K bq16 bq17:=by
  funext y1 y2 y3 y5 bq16 bq17;refine loop_o (fun x=>(f87_fr15 a0 a1 a2 a3 a4 y1 y2 y3 y5 x.1 x.2)) (fun L x=>?_) K (bq16,bq17);exact .trans (b:=f87_b15 K a0 a1 a2 a3 a4 y1 y2 y3 y5 (f87_j20 K a0 a1 a2 a3 a4 y1 y2 y3 y5 L bq16 bq17 (realL (f87E K) 2)) (fun v0 v1=>L (f87_fr15 a0 a1 a2 a3 a4 y1 y2 y3 y5 v0 v1)) x.1 x.2) (by kernel_rfl) (by rw[f87_u20]<;>rfl)
theorem f87_run (a0:Int) (a1:Int×Int×Int) (a2:List tM) (a3:List (tV×Int)) (a4:Int):rM (f87E K) Tryz.f87 (f87M K) (a0,a1,a2,a3,a4,())=f87G K a0 a1 a2 a3 a4 :=
  runF_G (n0:=2) (by rfl) (.trans (b:=f87_g K a0 a1 a2 a3 a4 (f87_j15 K a0 a1 a2 a3 a4 (realL (f87E K) 2))) (by kernel_rfl) (by rw[f87_u15]<;>rfl))
theorem f35_u5 (a0:ByteArray):f35_j5 K a0 (realL (f35E K) 0)=fun y1 y2 bq6 bq7 bq8 bq9 bq10 bq11 bq12 bq13=>f35_l5 K a0 y1 y2 K bq6 bq7 bq8 bq9 bq10 bq11 bq12 bq13:=by
  funext y1 y2 bq6 bq7 bq8 bq9 bq10 bq11 bq12 bq13;exact loop_o (fun x=>(f35_fr5 a0 y1 y2 x.1 x.2.1 x.2.2.1 x.2.2.2.1 x.2.2.2.2.1 x.2.2.2.2.2.1 x.2.2.2.2.2.2.1 x.2.2.2.2.2.2.2)) (fun L x=>by kernel_rfl) K (bq6,bq7,bq8,bq9,bq10,bq11,bq12,bq13)
theorem f35_run (a0:ByteArray):runC (f35E K) Tryz.f35 (.cons sI (.cons sI (.cons sL (.cons (.list 52 sM) (.list 170 (.cons sV sI)))))) [(.ro,.str)] [(.cons sI (.cons sL (.list 2 sI))),sI,sI] (a0,())=f35G K a0 :=
  runC_G (n0:=0) (by rfl) (.trans (b:=f35_g K a0 (f35_j5 K a0 (realL (f35E K) 0))) (by kernel_rfl) (by rw[f35_u5]<;>rfl))
theorem f37_u2 (a0 a1:List Int):f37_j2 K a0 a1 (realL (f37E K) 2)=fun bq3=>f37_l2 K a0 a1 K bq3:=by
  funext bq3;exact loop_o (fun x=>(f37_fr2 a0 a1 x)) (fun L x=>by kernel_rfl) K bq3
theorem f37_run (a0 a1:List Int):rM (f37E K) Tryz.f37 (f37M K) (a0,a1,())=f37G K a0 a1 :=
  runF_G (n0:=2) (by rfl) (.trans (b:=f37_g K a0 a1 (f37_j2 K a0 a1 (realL (f37E K) 2))) (by kernel_rfl) (by rw[f37_u2]<;>rfl))
theorem f13_u2 (a0 a1:List tM):f13_j2 K a0 a1 (realL (f13E K) 2)=fun bq3=>f13_l2 K a0 a1 K bq3:=by
  funext bq3;exact loop_o (fun x=>(f13_fr2 a0 a1 x)) (fun L x=>by kernel_rfl) K bq3
theorem f13_run (a0 a1:List tM):rM (f13E K) Tryz.f13 (f13M K) (a0,a1,())=f13G K a0 a1 :=
  runF_G (n0:=2) (by rfl) (.trans (b:=f13_g K a0 a1 (f13_j2 K a0 a1 (realL (f13E K) 2))) (by kernel_rfl) (by rw[f13_u2]<;>rfl))
end Go.Proofs.YtelgaemfnhnbmaaGreatDoor.X
