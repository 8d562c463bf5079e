/- Functions of the program as plain Lean functions, and that the program does what they say. Printed by gen.py. -/
import Derived.Test.YteheolldcpjkcaaGreatQuD1
namespace Go.Proofs.YteheolldcpjkcaaGreat.X
open Go
set_option maxRecDepth 100000
attribute [local instance] cwD
set_option linter.unusedVariables false
variable (K:Nat)
include K
theorem Amq (a0:List Int):AbK K a0 (Ad (AbI K) 1)=fun bq3 bq4=>UQ K a0 K bq3 bq4:=by
  funext bq3 bq4;exact Ag (fun x=>(WB a0 x.1 x.2)) (fun L x=>by kernel_rfl) K (bq3,bq4)
theorem AhR (a0:List Int):ZZ (AbI K) Tryz.f55 5 (.int .u8) sV [] (a0,())=Z1 K a0 :=
  And (n0:=1) (by rfl) (.trans (b:=AbJ K a0 (AbK K a0 (Ad (AbI K) 1))) (by kernel_rfl) (by rw[Amq]<;>rfl))
theorem AhS (a0:Int):WZ K a0 (Ad (Ob K) 0)=fun bq4 bq5=>WX K a0 K bq4 bq5:=by
  funext bq4 bq5;exact Ag (fun x=>(RF a0 x.1 x.2)) (fun L x=>by kernel_rfl) K (bq4,bq5)
theorem Ael (a0:Int):rM (Ob K) Tryz.f246 (WY K) (a0,())=Oc K a0 :=
  AJ (n0:=0) (by rfl) (.trans (b:=AbP K a0 (WZ K a0 (Ad (Ob K) 0))) (by kernel_rfl) (by rw[AhS]<;>rfl))
omit K
theorem Aem (K:Nat) (rec:Int→Int→Option Int) (a0 a1:Int):RE (AkK K rec) Tryz.f272 [(.ro,sI),(.ro,sI)] [sI] (a0,a1,())=Jw K rec a0 a1:=by kernel_rfl
include K
theorem Aen (a0:List tV) (F10:Fr→Option tL) (bq11 bq12 bq13 bq14:Int):Sl K a0 F10 bq11 bq12 bq13 bq14 (Ad (Ij K) 1)=fun q11 q12 bq16 bq17 bq18 bq19=>EI K a0 q11 q12 (fun v0 v1 v2 v3=>F10 (EF a0 v0 v1 v2 v3)) K bq16 bq17 bq18 bq19:=by
  funext q11 q12 bq16 bq17 bq18 bq19;exact Ag (fun x=>(N1 a0 q11 q12 x.1 x.2.1 x.2.2.1 x.2.2.2)) (fun L x=>by kernel_rfl) K (bq16,bq17,bq18,bq19)
theorem Aeo (a0:List tV):Sk K a0 (Ad (Ij K) 1)=fun bq11 bq12 bq13 bq14=>L0 K a0 K bq11 bq12 bq13 bq14:=by
  funext bq11 bq12 bq13 bq14;refine Ag (fun x=>(EF a0 x.1 x.2.1 x.2.2.1 x.2.2.2)) (fun L x=>?_) K (bq11,bq12,bq13,bq14);exact .trans (b:=Gk K a0 (Sl K a0 L bq11 bq12 bq13 bq14 (Ad (Ij K) 1)) (fun v0 v1 v2 v3=>L (EF a0 v0 v1 v2 v3)) x.1 x.2.1 x.2.2.1 x.2.2.2) (by kernel_rfl) (by rw[Aen]<;>rfl)
theorem Aep (a0:List tV):rM (Ij K) Tryz.f251 (W3 K) (a0,())=Od K a0 :=
  AJ (n0:=1) (by rfl) (.trans (b:=UR K a0 (Sk K a0 (Ad (Ij K) 1))) (by kernel_rfl) (by rw[Aeo]<;>rfl))
theorem AhT (a0:Int) (a1:Int×Int×Int):W5 K a0 a1 (Ad (Oe K) 0)=fun y1 bq5 bq6=>PX K a0 a1 y1 K bq5 bq6:=by
  funext y1 bq5 bq6;exact Ag (fun x=>(RG a0 a1 y1 x.1 x.2)) (fun L x=>by kernel_rfl) K (bq5,bq6)
theorem Aeq (a0:Int) (a1:Int×Int×Int):rM (Oe K) Tryz.f202 (W4 K) (a0,a1,())=So K a0 a1 :=
  AJ (n0:=0) (by rfl) (.trans (b:=US K a0 a1 (W5 K a0 a1 (Ad (Oe K) 0))) (by kernel_rfl) (by rw[AhT]<;>rfl))
theorem Amr (a0 a1:List Int):Ab0 K a0 a1 (Ad (Z3 K) 2)=fun bq3=>L1 K a0 a1 K bq3:=by
  funext bq3;exact Ag (fun x=>(WD a0 a1 x)) (fun L x=>by kernel_rfl) K bq3
theorem AhU (a0 a1:List Int):rM (Z3 K) Tryz.f71 (Agp K) (a0,a1,())=Ago K a0 a1 :=
  AJ (n0:=2) (by rfl) (.trans (b:=AbZ K a0 a1 (Ab0 K a0 a1 (Ad (Z3 K) 2))) (by kernel_rfl) (by rw[Amr]<;>rfl))
theorem AhV (a0:List tM) (a1:tA×Int×Int):W7 K a0 a1 (Ad (Of K) 1)=fun bq7 bq8=>G3 K a0 a1 K bq7 bq8:=by
  funext bq7 bq8;exact Ag (fun x=>(RH a0 a1 x.1 x.2)) (fun L x=>by kernel_rfl) K (bq7,bq8)
theorem Aer (a0:List tM) (a1:tA×Int×Int):rM (Of K) Tryz.f181 (Sx K) (a0,a1,())=Og K a0 a1 :=
  AJ (n0:=1) (by rfl) (.trans (b:=PZ K a0 a1 (W7 K a0 a1 (Ad (Of K) 1))) (by kernel_rfl) (by rw[AhV]<;>rfl))
theorem Aes (a0:Int×Int×Int) (a1:List tM) (F17:Fr→Option (List tM)) (bq18:Int) (bq19 bq20:List tM):SB K a0 a1 F17 bq18 bq19 bq20 (Ad (Ik K) 1)=fun q18 q20 bq22 bq23 bq24=>Dm K a0 a1 q18 q20 (fun v0 v1 v2=>F17 (EG a0 a1 v0 v1 v2)) K bq22 bq23 bq24:=by
  funext q18 q20 bq22 bq23 bq24;exact Ag (fun x=>(N2 a0 a1 q18 q20 x.1 x.2.1 x.2.2)) (fun L x=>by kernel_rfl) K (bq22,bq23,bq24)
theorem Aet (a0:Int×Int×Int) (a1:List tM):SA K a0 a1 (Ad (Ik K) 1)=fun bq18 bq19 bq20=>B0 K a0 a1 K bq18 bq19 bq20:=by
  funext bq18 bq19 bq20;refine Ag (fun x=>(EG a0 a1 x.1 x.2.1 x.2.2)) (fun L x=>?_) K (bq18,bq19,bq20);exact .trans (b:=EJ K a0 a1 (SB K a0 a1 L bq18 bq19 bq20 (Ad (Ik K) 1)) (fun v0 v1 v2=>L (EG a0 a1 v0 v1 v2)) x.1 x.2.1 x.2.2) (by kernel_rfl) (by rw[Aes]<;>rfl)
theorem Aeu (a0:Int×Int×Int) (a1:List tM):rM (Ik K) Tryz.f199 (Sy K) (a0,a1,())=Gm K a0 a1 :=
  AJ (n0:=1) (by rfl) (.trans (b:=UU K a0 a1 (SA K a0 a1 (Ad (Ik K) 1))) (by kernel_rfl) (by rw[Aet]<;>rfl))
theorem AhW (a0:(List Int)×Int×Int):W9 K a0 (Ad (Oi K) 1)=fun y1 y2 bq8 bq9 bq10 bq11=>KP K a0 y1 y2 K bq8 bq9 bq10 bq11:=by
  funext y1 y2 bq8 bq9 bq10 bq11;exact Ag (fun x=>(RI a0 y1 y2 x.1 x.2.1 x.2.2.1 x.2.2.2)) (fun L x=>by kernel_rfl) K (bq8,bq9,bq10,bq11)
theorem Aev (a0:(List Int)×Int×Int):NH (Oi K) Tryz.f137 5 (.int .u8) sV [] [sI,sL,(.list 59 sM)] (a0,())=SC K a0 :=
  Nk (n0:=1) (by rfl) (.trans (b:=UV K a0 (W9 K a0 (Ad (Oi K) 1))) (by kernel_rfl) (by rw[AhW]<;>rfl))
theorem AhX (a0:Int) (a1:Int×Int×Int) (a2:List tM) (q7 y1:Int) (y12:Bool) (F23:Fr→Option Bool) (bq24:Int):Xh K a0 a1 a2 q7 y1 y12 F23 bq24 (Ad (Jx K) 1)=fun q24 bq26=>Il K a0 a1 a2 q7 q24 y1 y12 (fun v0=>F23 (F5 a0 a1 a2 q7 y1 y12 v0)) K bq26:=by
  funext q24 bq26;exact Ag (fun x=>(RJ a0 a1 a2 q7 q24 y1 y12 x)) (fun L x=>by kernel_rfl) K bq26
theorem AhY (a0:Int) (a1:Int×Int×Int) (a2:List tM):Xg K a0 a1 a2 (Ad (Jx K) 1)=fun q7 y1 y12 bq24=>G4 K a0 a1 a2 q7 y1 y12 K bq24:=by
  funext q7 y1 y12 bq24;refine Ag (fun x=>(F5 a0 a1 a2 q7 y1 y12 x)) (fun L x=>?_) K bq24;exact .trans (b:=Im K a0 a1 a2 q7 y1 y12 (Xh K a0 a1 a2 q7 y1 y12 L bq24 (Ad (Jx K) 1)) (fun v0=>L (F5 a0 a1 a2 q7 y1 y12 v0)) x) (by kernel_rfl) (by rw[AhX]<;>rfl)
theorem Ams (a0:Int) (a1:Int×Int×Int) (a2:List tM):Ab8 K a0 a1 a2 (Ad (Jx K) 1)=fun y1 bq7=>P1 K a0 a1 a2 y1 K bq7:=by
  funext y1 bq7;refine Ag (fun x=>(PW a0 a1 a2 y1 x)) (fun L x=>?_) K bq7;exact .trans (b:=E7 K a0 a1 a2 y1 (Xg K a0 a1 a2 (Ad (Jx K) 1)) (fun v0=>L (PW a0 a1 a2 y1 v0)) x) (by kernel_rfl) (by rw[AhY]<;>rfl)
theorem AhZ (a0:Int) (a1:Int×Int×Int) (a2:List tM):rM (Jx K) Tryz.f66 (Z5 K) (a0,a1,a2,())=Z4 K a0 a1 a2 :=
  AJ (n0:=1) (by rfl) (.trans (b:=Ab7 K a0 a1 a2 (Ab8 K a0 a1 a2 (Ad (Jx K) 1))) (by kernel_rfl) (by rw[Ams]<;>rfl))
theorem Amt (a0:Int×Int×Int) (F6:Fr→Option (List tV)) (bq7:Int) (bq8:List tV):Acd K a0 F6 bq7 bq8 (Ad (P2 K) 0)=fun q7 bq10 bq11=>Mc K a0 q7 (fun v0 v1=>F6 (Ie a0 v0 v1)) K bq10 bq11:=by
  funext q7 bq10 bq11;exact Ag (fun x=>(WF a0 q7 x.1 x.2)) (fun L x=>by kernel_rfl) K (bq10,bq11)
theorem Amu (a0:Int×Int×Int):Acc K a0 (Ad (P2 K) 0)=fun bq7 bq8=>UW K a0 K bq7 bq8:=by
  funext bq7 bq8;refine Ag (fun x=>(Ie a0 x.1 x.2)) (fun L x=>?_) K (bq7,bq8);exact .trans (b:=Me K a0 (Acd K a0 L bq7 bq8 (Ad (P2 K) 0)) (fun v0 v1=>L (Ie a0 v0 v1)) x.1 x.2) (by kernel_rfl) (by rw[Amt]<;>rfl)
theorem Ah0 (a0:Int×Int×Int):rM (P2 K) Tryz.f67 (Agt K) (a0,())=Aca K a0 :=
  AJ (n0:=0) (by rfl) (.trans (b:=Ab9 K a0 (Acc K a0 (Ad (P2 K) 0))) (by kernel_rfl) (by rw[Amu]<;>rfl))
theorem Ah1 (a0:List tV) (a1:Int×Int):Xk K a0 a1 (Ad (Oj K) 1)=fun bq4=>KR K a0 a1 K bq4:=by
  funext bq4;exact Ag (fun x=>(RK a0 a1 x)) (fun L x=>by kernel_rfl) K bq4
theorem Aew (a0:List tV) (a1:Int×Int):rM (Oj K) Tryz.f183 (Xj K) (a0,a1,())=SD K a0 a1 :=
  AJ (n0:=1) (by rfl) (.trans (b:=UX K a0 a1 (Xk K a0 a1 (Ad (Oj K) 1))) (by kernel_rfl) (by rw[Ah1]<;>rfl))
theorem Ah2 (a0:Int×Int×Int) (a1:List tM) (a2:Int×Int):Xm K a0 a1 a2 (Ad (Ok K) 1)=fun bq5 bq6=>P5 K a0 a1 a2 K bq5 bq6:=by
  funext bq5 bq6;exact Ag (fun x=>(RL a0 a1 a2 x.1 x.2)) (fun L x=>by kernel_rfl) K (bq5,bq6)
theorem Aex (a0:Int×Int×Int) (a1:List tM) (a2:Int×Int):rM (Ok K) Tryz.f119 (Xl K) (a0,a1,a2,())=SE K a0 a1 a2 :=
  AJ (n0:=1) (by rfl) (.trans (b:=UY K a0 a1 a2 (Xm K a0 a1 a2 (Ad (Ok K) 1))) (by kernel_rfl) (by rw[Ah2]<;>rfl))
theorem Amv (a0:Int×Int×Int) (a1:List tM):Acf K a0 a1 (Ad (Z6 K) 1)=fun y1 bq5 bq6=>UZ K a0 a1 y1 K bq5 bq6:=by
  funext y1 bq5 bq6;exact Ag (fun x=>(WG a0 a1 y1 x.1 x.2)) (fun L x=>by kernel_rfl) K (bq5,bq6)
theorem Ah3 (a0:Int×Int×Int) (a1:List tM):rM (Z6 K) Tryz.f79 (Z7 K) (a0,a1,())=U0 K a0 a1 :=
  AJ (n0:=1) (by rfl) (.trans (b:=Ace K a0 a1 (Acf K a0 a1 (Ad (Z6 K) 1))) (by kernel_rfl) (by rw[Amv]<;>rfl))
theorem Aey (a0:Int×Int×Int) (a1:List tM) (y1:List (List tV)) (F9:Fr→Option (List Int)) (bq10:Int) (bq11:List Int):SG K a0 a1 y1 F9 bq10 bq11 (Ad (Io K) 1)=fun q10 bq13 bq14=>Ip K a0 a1 q10 y1 (fun v0 v1=>F9 (F8 a0 a1 y1 v0 v1)) K bq13 bq14:=by
  funext q10 bq13 bq14;exact Ag (fun x=>(N3 a0 a1 q10 y1 x.1 x.2)) (fun L x=>by kernel_rfl) K (bq13,bq14)
theorem Ah4 (a0:Int×Int×Int) (a1:List tM):Xp K a0 a1 (Ad (Io K) 1)=fun y1 bq10 bq11=>Xn K a0 a1 y1 K bq10 bq11:=by
  funext y1 bq10 bq11;refine Ag (fun x=>(F8 a0 a1 y1 x.1 x.2)) (fun L x=>?_) K (bq10,bq11);exact .trans (b:=E8 K a0 a1 y1 (SG K a0 a1 y1 L bq10 bq11 (Ad (Io K) 1)) (fun v0 v1=>L (F8 a0 a1 y1 v0 v1)) x.1 x.2) (by kernel_rfl) (by rw[Aey]<;>rfl)
theorem Aez (a0:Int×Int×Int) (a1:List tM):rM (Io K) Tryz.f102 (Mf K) (a0,a1,())=HC K a0 a1 :=
  AJ (n0:=1) (by rfl) (.trans (b:=U1 K a0 a1 (Xp K a0 a1 (Ad (Io K) 1))) (by kernel_rfl) (by rw[Ah4]<;>rfl))
theorem Ah5 (a0:Int) (a1:Int×Int×Int) (a2:List tM) (a3:List Int):Xs K a0 a1 a2 a3 (Ad (Ol K) 2)=fun y1 bq4 bq5=>Xq K a0 a1 a2 a3 y1 K bq4 bq5:=by
  funext y1 bq4 bq5;exact Ag (fun x=>(RM a0 a1 a2 a3 y1 x.1 x.2)) (fun L x=>by kernel_rfl) K (bq4,bq5)
theorem AeA (a0:Int) (a1:Int×Int×Int) (a2:List tM) (a3:List Int):rM (Ol K) Tryz.f219 (Xr K) (a0,a1,a2,a3,())=SH K a0 a1 a2 a3 :=
  AJ (n0:=2) (by rfl) (.trans (b:=U2 K a0 a1 a2 a3 (Xs K a0 a1 a2 a3 (Ad (Ol K) 2))) (by kernel_rfl) (by rw[Ah5]<;>rfl))
theorem Ah6 (a0:(List Int)×Int×Int):Xt K a0 (Ad (Om K) 1)=fun y1 y2 bq7 bq8 bq9 bq10=>KS K a0 y1 y2 K bq7 bq8 bq9 bq10:=by
  funext y1 y2 bq7 bq8 bq9 bq10;exact Ag (fun x=>(RN a0 y1 y2 x.1 x.2.1 x.2.2.1 x.2.2.2)) (fun L x=>by kernel_rfl) K (bq7,bq8,bq9,bq10)
theorem AeB (a0:(List Int)×Int×Int):NH (Om K) Tryz.f171 5 (.int .u8) sV [] [(.cons sI (.cons sL (.list 2 sI))),(.list 59 sM)] (a0,())=SJ K a0 :=
  Nk (n0:=1) (by rfl) (.trans (b:=U3 K a0 (Xt K a0 (Ad (Om K) 1))) (by kernel_rfl) (by rw[Ah6]<;>rfl))
theorem Ah7 (a0:List Int) (a1 a2 a3:Int):Xv K a0 a1 a2 a3 (Ad (On K) 1)=fun bq4=>P7 K a0 a1 a2 a3 K bq4:=by
  funext bq4;exact Ag (fun x=>(RO a0 a1 a2 a3 x)) (fun L x=>by kernel_rfl) K bq4
theorem AeC (a0:List Int) (a1 a2 a3:Int):rM (On K) Tryz.f177 (Xu K) (a0,a1,a2,a3,())=SK K a0 a1 a2 a3 :=
  AJ (n0:=1) (by rfl) (.trans (b:=U4 K a0 a1 a2 a3 (Xv K a0 a1 a2 a3 (Ad (On K) 1))) (by kernel_rfl) (by rw[Ah7]<;>rfl))
theorem Ah8 (a0:(List Int)×Int×Int):Xx K a0 (Ad (Oo K) 1)=fun bq7 bq8 bq9 bq10=>KU K a0 K bq7 bq8 bq9 bq10:=by
  funext bq7 bq8 bq9 bq10;exact Ag (fun x=>(RP a0 x.1 x.2.1 x.2.2.1 x.2.2.2)) (fun L x=>by kernel_rfl) K (bq7,bq8,bq9,bq10)
theorem AeD (a0:(List Int)×Int×Int):NH (Oo K) Tryz.f176 5 (.int .u8) sV [] [(.list 84 (.cons sV sI))] (a0,())=SN K a0 :=
  Nk (n0:=1) (by rfl) (.trans (b:=U5 K a0 (Xx K a0 (Ad (Oo K) 1))) (by kernel_rfl) (by rw[Ah8]<;>rfl))
theorem Ah9 (a0:(List Int)×Int×Int) (a1:Int×tL×List Int):Xy K a0 a1 (Ad (Oq K) 2)=fun y1 y2 bq10 bq11 bq12 bq13=>KW K a0 a1 y1 y2 K bq10 bq11 bq12 bq13:=by
  funext y1 y2 bq10 bq11 bq12 bq13;exact Ag (fun x=>(RQ a0 a1 y1 y2 x.1 x.2.1 x.2.2.1 x.2.2.2)) (fun L x=>by kernel_rfl) K (bq10,bq11,bq12,bq13)
theorem AeE (a0:(List Int)×Int×Int) (a1:Int×tL×List Int):NH (Oq K) Tryz.f105 5 (.int .u8) sV [(.ro,(.cons sI (.cons sL (.list 2 sI))))] [(.list 84 (.cons sV sI))] (a0,a1,())=Ot K a0 a1 :=
  Nk (n0:=2) (by rfl) (.trans (b:=U6 K a0 a1 (Xy K a0 a1 (Ad (Oq K) 2))) (by kernel_rfl) (by rw[Ah9]<;>rfl))
theorem Aia (a0:Int):XD K a0 (Ad (Ov K) 0)=fun bq9 bq10=>XB K a0 K bq9 bq10:=by
  funext bq9 bq10;exact Ag (fun x=>(RR a0 x.1 x.2)) (fun L x=>by kernel_rfl) K (bq9,bq10)
theorem AeF (a0:Int):rM (Ov K) Tryz.f158 (XC K) (a0,())=Ow K a0 :=
  AJ (n0:=0) (by rfl) (.trans (b:=Acp K a0 (XD K a0 (Ad (Ov K) 0))) (by kernel_rfl) (by rw[Aia]<;>rfl))
theorem Aib (a0:List tA) (a1:(tA→Option Bool)):XG K a0 a1 (Ad (Ox K) 1)=fun bq4=>Qc K a0 a1 K bq4:=by
  funext bq4;exact Ag (fun x=>(RS a0 a1 x)) (fun L x=>by kernel_rfl) K bq4
theorem AeG (a0:List tA) (a1:(tA→Option Bool)):rM (Ox K) Tryz.f274 (XF K) (a0,a1,())=SU K a0 a1 :=
  AJ (n0:=1) (by rfl) (.trans (b:=U7 K a0 a1 (XG K a0 a1 (Ad (Ox K) 1))) (by kernel_rfl) (by rw[Aib]<;>rfl))
theorem Aic (a0:List tA) (a1:(tA→Option Bool)):XI K a0 a1 (Ad (Oy K) 1)=fun y1 bq5 bq6 bq7=>Qd K a1 y1 K bq5 bq6 bq7:=by
  funext y1 bq5 bq6 bq7;exact Ag (fun x=>(RU a1 y1 x.1 x.2.1 x.2.2)) (fun L x=>by kernel_rfl) K (bq5,bq6,bq7)
theorem AeH (a0:List tA) (a1:(tA→Option Bool)):rM (Oy K) Tryz.f257 (XH K) (a0,a1,())=SV K a0 a1 :=
  AJ (n0:=1) (by rfl) (.trans (b:=U8 K a0 a1 (XI K a0 a1 (Ad (Oy K) 1))) (by kernel_rfl) (by rw[Aic]<;>rfl))
theorem Aid (a0:List tA) (a1:Int×Int×Int×Int):XL K a0 a1 (Ad (Oz K) 1)=fun bq3=>Qe K a0 a1 K bq3:=by
  funext bq3;exact Ag (fun x=>(RV a0 a1 x)) (fun L x=>by kernel_rfl) K bq3
theorem AeI (a0:List tA) (a1:Int×Int×Int×Int):rM (Oz K) Tryz.f212 (XK K) (a0,a1,())=SX K a0 a1 :=
  AJ (n0:=1) (by rfl) (.trans (b:=U9 K a0 a1 (XL K a0 a1 (Ad (Oz K) 1))) (by kernel_rfl) (by rw[Aid]<;>rfl))
theorem Aie (a0 a1:List Int):XN K a0 a1 (Ad (OA K) 2)=fun bq3=>K0 K a0 a1 K bq3:=by
  funext bq3;exact Ag (fun x=>(RW a0 a1 x)) (fun L x=>by kernel_rfl) K bq3
theorem AeJ (a0 a1:List Int):rM (OA K) Tryz.f190 (SY K) (a0,a1,())=OB K a0 a1 :=
  AJ (n0:=2) (by rfl) (.trans (b:=Va K a0 a1 (XN K a0 a1 (Ad (OA K) 2))) (by kernel_rfl) (by rw[Aie]<;>rfl))
theorem AeK (a0:Int) (a1:Int×Int×Int) (a2:List tM) (q7:Int) (q8:List (tM×Bool)) (y1:List tA) (y12:Int×Int×Int×Int) (F21:Fr→Option Bool) (bq22:Int):S4 K a0 a1 a2 q7 q8 y1 y12 F21 bq22 (Ad (EL K) 1)=fun q22 bq24=>Gp K a0 a1 a2 q7 q8 q22 y1 y12 (fun v0=>F21 (EH a0 a1 a2 q7 q8 y1 y12 v0)) K bq24:=by
  funext q22 bq24;exact Ag (fun x=>(N5 a0 a1 a2 q7 q8 q22 y1 y12 x)) (fun L x=>by kernel_rfl) K bq24
theorem AeL (a0:Int) (a1:Int×Int×Int) (a2:List tM):S3 K a0 a1 a2 (Ad (EL K) 1)=fun q7 q8 y1 y12 bq22=>Gr K a0 a1 a2 q7 q8 y1 y12 K bq22:=by
  funext q7 q8 y1 y12 bq22;refine Ag (fun x=>(EH a0 a1 a2 q7 q8 y1 y12 x)) (fun L x=>?_) K bq22;exact .trans (b:=Gq K a0 a1 a2 q7 q8 y1 y12 (S4 K a0 a1 a2 q7 q8 y1 y12 L bq22 (Ad (EL K) 1)) (fun v0=>L (EH a0 a1 a2 q7 q8 y1 y12 v0)) x) (by kernel_rfl) (by rw[AeK]<;>rfl)
theorem Aif (a0:Int) (a1:Int×Int×Int) (a2:List tM):XS K a0 a1 a2 (Ad (EL K) 1)=fun y1 bq7 bq8=>Qg K a0 a1 a2 y1 K bq7 bq8:=by
  funext y1 bq7 bq8;refine Ag (fun x=>(LU a0 a1 a2 y1 x.1 x.2)) (fun L x=>?_) K (bq7,bq8);exact .trans (b:=Ek K a0 a1 a2 y1 (S3 K a0 a1 a2 (Ad (EL K) 1)) (fun v0 v1=>L (LU a0 a1 a2 y1 v0 v1)) x.1 x.2) (by kernel_rfl) (by rw[AeL]<;>rfl)
theorem AeM (a0:Int) (a1:Int×Int×Int) (a2:List tM):rM (EL K) Tryz.f186 (S1 K) (a0,a1,a2,())=S0 K a0 a1 a2 :=
  AJ (n0:=1) (by rfl) (.trans (b:=Vb K a0 a1 a2 (XS K a0 a1 a2 (Ad (EL K) 1))) (by kernel_rfl) (by rw[Aif]<;>rfl))
theorem Aig (a0:Int) (a1:Int×Int×Int) (a2:List (List tM)):XT K a0 a1 a2 (Ad (OD K) 1)=fun y1 bq5=>Qi K a0 a1 a2 y1 K bq5:=by
  funext y1 bq5;exact Ag (fun x=>(RX a0 a1 a2 y1 x)) (fun L x=>by kernel_rfl) K bq5
theorem AeN (a0:Int) (a1:Int×Int×Int) (a2:List (List tM)):rM (OD K) Tryz.f121 (S5 K) (a0,a1,a2,())=Mg K a0 a1 a2 :=
  AJ (n0:=1) (by rfl) (.trans (b:=Vd K a0 a1 a2 (XT K a0 a1 a2 (Ad (OD K) 1))) (by kernel_rfl) (by rw[Aig]<;>rfl))
theorem Aih (a0:List (tV×Int)) (a1:((tV×Int)→Option Bool)):XX K a0 a1 (Ad (OE K) 1)=fun bq4=>Qj K a0 a1 K bq4:=by
  funext bq4;exact Ag (fun x=>(RY a0 a1 x)) (fun L x=>by kernel_rfl) K bq4
theorem AeO (a0:List (tV×Int)) (a1:((tV×Int)→Option Bool)):rM (OE K) Tryz.f168 (XW K) (a0,a1,())=XV K a0 a1 :=
  AJ (n0:=1) (by rfl) (.trans (b:=Ve K a0 a1 (XX K a0 a1 (Ad (OE K) 1))) (by kernel_rfl) (by rw[Aih]<;>rfl))
theorem Aii (a0:List Int) (a1:Int):XZ K a0 a1 (Ad (OG K) 1)=fun y1 bq4 bq5=>K2 K a0 a1 y1 K bq4 bq5:=by
  funext y1 bq4 bq5;exact Ag (fun x=>(RZ a0 a1 y1 x.1 x.2)) (fun L x=>by kernel_rfl) K (bq4,bq5)
theorem AeP (a0:List Int) (a1:Int):rM (OG K) Tryz.f166 (XY K) (a0,a1,())=S7 K a0 a1 :=
  AJ (n0:=1) (by rfl) (.trans (b:=Vf K a0 a1 (XZ K a0 a1 (Ad (OG K) 1))) (by kernel_rfl) (by rw[Aii]<;>rfl))
theorem Amw (a0:Int×Int×Int) (F6:Fr→Option (List tV)) (bq7:Int) (bq8:List tV):AcE K a0 F6 bq7 bq8 (Ad (Ql K) 0)=fun q7 bq10 bq11=>Mh K a0 q7 (fun v0 v1=>F6 (Ig a0 v0 v1)) K bq10 bq11:=by
  funext q7 bq10 bq11;exact Ag (fun x=>(WI a0 q7 x.1 x.2)) (fun L x=>by kernel_rfl) K (bq10,bq11)
theorem Amx (a0:Int×Int×Int):AcD K a0 (Ad (Ql K) 0)=fun bq7 bq8=>Vg K a0 K bq7 bq8:=by
  funext bq7 bq8;refine Ag (fun x=>(Ig a0 x.1 x.2)) (fun L x=>?_) K (bq7,bq8);exact .trans (b:=Mi K a0 (AcE K a0 L bq7 bq8 (Ad (Ql K) 0)) (fun v0 v1=>L (Ig a0 v0 v1)) x.1 x.2) (by kernel_rfl) (by rw[Amw]<;>rfl)
theorem Aij (a0:Int×Int×Int):rM (Ql K) Tryz.f99 (Aab K) (a0,())=Vh K a0 :=
  AJ (n0:=0) (by rfl) (.trans (b:=AcB K a0 (AcD K a0 (Ad (Ql K) 0))) (by kernel_rfl) (by rw[Amx]<;>rfl))
theorem Aik (a0:List tV) (F7:Fr→Option (List tV)) (bq8:Int):X5 K a0 F7 bq8 (Ad (Ir K) 1)=fun q8 bq10 bq11 bq12=>Is K a0 q8 K bq10 bq11 bq12:=by
  funext q8 bq10 bq11 bq12;exact Ag (fun x=>(R0 a0 q8 x.1 x.2.1 x.2.2)) (fun L x=>by kernel_rfl) K (bq10,bq11,bq12)
theorem Ail (a0:List tV):X4 K a0 (Ad (Ir K) 1)=fun bq8=>K4 K a0 K bq8:=by
  funext bq8;refine Ag (fun x=>(Ih a0 x)) (fun L x=>?_) K bq8;exact .trans (b:=K3 K a0 (X5 K a0 L bq8 (Ad (Ir K) 1)) (fun v0=>L (Ih a0 v0)) x) (by kernel_rfl) (by rw[Aik]<;>rfl)
theorem AeQ (a0:List tV):rM (Ir K) Tryz.f128 (X2 K) (a0,())=S9 K a0 :=
  AJ (n0:=1) (by rfl) (.trans (b:=Vi K a0 (X4 K a0 (Ad (Ir K) 1))) (by kernel_rfl) (by rw[Ail]<;>rfl))
theorem Amy (a0:Int×Int×Int) (a1:List tM) (a2:Int×Int):AcI K a0 a1 a2 (Ad (Aac K) 1)=fun bq4 bq5=>Vj K a0 a1 a2 K bq4 bq5:=by
  funext bq4 bq5;exact Ag (fun x=>(WK a0 a1 a2 x.1 x.2)) (fun L x=>by kernel_rfl) K (bq4,bq5)
theorem Aim (a0:Int×Int×Int) (a1:List tM) (a2:Int×Int):rM (Aac K) Tryz.f52 (AcH K) (a0,a1,a2,())=Aad K a0 a1 a2 :=
  AJ (n0:=1) (by rfl) (.trans (b:=AcG K a0 a1 a2 (AcI K a0 a1 a2 (Ad (Aac K) 1))) (by kernel_rfl) (by rw[Amy]<;>rfl))
theorem Ain (a0:Int×Int×Int) (a1:List tM) (y3:List tV) (F16:Fr→Option ((List (List tV))×List Int)) (bq17:Int) (bq18:List (List tV)) (bq19:List Int):X9 K a0 a1 y3 F16 bq17 bq18 bq19 (Ad (Qo K) 1)=fun q17 q18 q19 y20 y21 bq23 bq24=>It K a0 a1 q17 q18 q19 y3 y20 y21 (fun v0 v1 v2=>F16 (Ga a0 a1 y3 v0 v1 v2)) K bq23 bq24:=by
  funext q17 q18 q19 y20 y21 bq23 bq24;exact Ag (fun x=>(R1 a0 a1 q17 q18 q19 y3 y20 y21 x.1 x.2)) (fun L x=>by kernel_rfl) K (bq23,bq24)
theorem Aio (a0:Int×Int×Int) (a1:List tM):X8 K a0 a1 (Ad (Qo K) 1)=fun y3 bq17 bq18 bq19=>X6 K a0 a1 y3 K bq17 bq18 bq19:=by
  funext y3 bq17 bq18 bq19;refine Ag (fun x=>(Ga a0 a1 y3 x.1 x.2.1 x.2.2)) (fun L x=>?_) K (bq17,bq18,bq19);exact .trans (b:=DN K a0 a1 y3 (X9 K a0 a1 y3 L bq17 bq18 bq19 (Ad (Qo K) 1)) (fun v0 v1 v2=>L (Ga a0 a1 y3 v0 v1 v2)) x.1 x.2.1 x.2.2) (by kernel_rfl) (by rw[Ain]<;>rfl)
theorem Aip (a0:Int×Int×Int) (a1:List tM):rM (Qo K) Tryz.f84 (AcK K) (a0,a1,())=Aae K a0 a1 :=
  AJ (n0:=1) (by rfl) (.trans (b:=AcJ K a0 a1 (X8 K a0 a1 (Ad (Qo K) 1))) (by kernel_rfl) (by rw[Aio]<;>rfl))
theorem Aiq (a0:Int×Int×Int) (a1:List tM) (a2:List (tV×Int)) (y1:(List (List tV))×List Int) (F10:Fr→Option (Int×Int×Bool)) (bq11:Int):Yc K a0 a1 a2 y1 F10 bq11 (Ad (Qp K) 2)=fun q11 bq13=>K6 K a0 a1 a2 q11 y1 (fun v0=>F10 (Gb a0 a1 a2 y1 v0)) K bq13:=by
  funext q11 bq13;exact Ag (fun x=>(R2 a0 a1 a2 q11 y1 x)) (fun L x=>by kernel_rfl) K bq13
theorem Air (a0:Int×Int×Int) (a1:List tM) (a2:List (tV×Int)):Yb K a0 a1 a2 (Ad (Qp K) 2)=fun y1 bq11=>Iu K a0 a1 a2 y1 K bq11:=by
  funext y1 bq11;refine Ag (fun x=>(Gb a0 a1 a2 y1 x)) (fun L x=>?_) K bq11;exact .trans (b:=K7 K a0 a1 a2 y1 (Yc K a0 a1 a2 y1 L bq11 (Ad (Qp K) 2)) (fun v0=>L (Gb a0 a1 a2 y1 v0)) x) (by kernel_rfl) (by rw[Aiq]<;>rfl)
theorem Ais (a0:Int×Int×Int) (a1:List tM) (a2:List (tV×Int)):rM (Qp K) Tryz.f97 (AcM K) (a0,a1,a2,())=Aaf K a0 a1 a2 :=
  AJ (n0:=2) (by rfl) (.trans (b:=AcL K a0 a1 a2 (Yb K a0 a1 a2 (Ad (Qp K) 2))) (by kernel_rfl) (by rw[Air]<;>rfl))
theorem Amz (a0:Int) (a1:Int×Int×Int) (a2:List tV) (a3:Int):AcQ K a0 a1 a2 a3 (Ad (Aag K) 1)=fun bq5 bq6=>AcN K a0 a1 a2 a3 K bq5 bq6:=by
  funext bq5 bq6;exact Ag (fun x=>(WL a0 a1 a2 a3 x.1 x.2)) (fun L x=>by kernel_rfl) K (bq5,bq6)
theorem Ait (a0:Int) (a1:Int×Int×Int) (a2:List tV) (a3:Int):rM (Aag K) Tryz.f98 (AgU K) (a0,a1,a2,a3,())=AcP K a0 a1 a2 a3 :=
  AJ (n0:=1) (by rfl) (.trans (b:=AcO K a0 a1 a2 a3 (AcQ K a0 a1 a2 a3 (Ad (Aag K) 1))) (by kernel_rfl) (by rw[Amz]<;>rfl))
theorem Aiu (a0:Int) (a1:Int×Int×Int) (a2:List tM) (a3:List (tV×Int)) (a4 y1:Int) (y2:Bool) (y3:Int×Int×Bool) (y5:Int×tL×List Int) (F15:Fr→Option ((Int×tL×List Int)×Int)) (bq16:Int) (bq17:List Int):Yf K a0 a1 a2 a3 a4 y1 y2 y3 y5 F15 bq16 bq17 (Ad (Qq K) 2)=fun q16 y19 bq21 bq22=>K8 K a0 a1 a2 a3 a4 q16 y1 y2 y3 y5 y19 (fun v0 v1=>F15 (Gc a0 a1 a2 a3 a4 y1 y2 y3 y5 v0 v1)) K bq21 bq22:=by
  funext q16 y19 bq21 bq22;exact Ag (fun x=>(R3 a0 a1 a2 a3 a4 q16 y1 y2 y3 y5 y19 x.1 x.2)) (fun L x=>by kernel_rfl) K (bq21,bq22)
theorem Aiv (a0:Int) (a1:Int×Int×Int) (a2:List tM) (a3:List (tV×Int)) (a4:Int):Ye K a0 a1 a2 a3 a4 (Ad (Qq K) 2)=fun y1 y2 y3 y5 bq16 bq17=>Qr K a0 a1 a2 a3 a4 y1 y2 y3 y5 K bq16 bq17:=by
  funext y1 y2 y3 y5 bq16 bq17;refine Ag (fun x=>(Gc a0 a1 a2 a3 a4 y1 y2 y3 y5 x.1 x.2)) (fun L x=>?_) K (bq16,bq17);exact .trans (b:=E9 K a0 a1 a2 a3 a4 y1 y2 y3 y5 (Yf K a0 a1 a2 a3 a4 y1 y2 y3 y5 L bq16 bq17 (Ad (Qq K) 2)) (fun v0 v1=>L (Gc a0 a1 a2 a3 a4 y1 y2 y3 y5 v0 v1)) x.1 x.2) (by kernel_rfl) (by rw[Aiu]<;>rfl)
theorem Aiw (a0:Int) (a1:Int×Int×Int) (a2:List tM) (a3:List (tV×Int)) (a4:Int):rM (Qq K) Tryz.f34 (AgV K) (a0,a1,a2,a3,a4,())=AcS K a0 a1 a2 a3 a4 :=
  AJ (n0:=2) (by rfl) (.trans (b:=AcR K a0 a1 a2 a3 a4 (Ye K a0 a1 a2 a3 a4 (Ad (Qq K) 2))) (by kernel_rfl) (by rw[Aiv]<;>rfl))
theorem AmA (a0:List (tV×Int)):AcU K a0 (Ad (Aah K) 1)=fun bq5=>Vk K a0 K bq5:=by
  funext bq5;exact Ag (fun x=>(WM a0 x)) (fun L x=>by kernel_rfl) K bq5
theorem Aix (a0:List (tV×Int)):rM (Aah K) Tryz.f43 (Aai K) (a0,())=Vl K a0 :=
  AJ (n0:=1) (by rfl) (.trans (b:=AcT K a0 (AcU K a0 (Ad (Aah K) 1))) (by kernel_rfl) (by rw[AmA]<;>rfl))
theorem AeR (a0:Int×Int×Int) (a1:List Int) (a2:List (tV×Int)) (F9:Fr→Option (Int×Int×Bool)) (bq10:Int):Tb K a0 a1 a2 F9 bq10 (Ad (Iw K) 2)=fun q10 bq12=>Iy K a0 a1 a2 q10 (fun v0=>F9 (Ge a0 a1 a2 v0)) K bq12:=by
  funext q10 bq12;exact Ag (fun x=>(N6 a0 a1 a2 q10 x)) (fun L x=>by kernel_rfl) K bq12
theorem Aiy (a0:Int×Int×Int) (a1:List Int) (a2:List (tV×Int)):Yh K a0 a1 a2 (Ad (Iw K) 2)=fun bq10=>Iz K a0 a1 a2 K bq10:=by
  funext bq10;refine Ag (fun x=>(Ge a0 a1 a2 x)) (fun L x=>?_) K bq10;exact .trans (b:=K9 K a0 a1 a2 (Tb K a0 a1 a2 L bq10 (Ad (Iw K) 2)) (fun v0=>L (Ge a0 a1 a2 v0)) x) (by kernel_rfl) (by rw[AeR]<;>rfl)
theorem AeS (a0:Int×Int×Int) (a1:List Int) (a2:List (tV×Int)):rM (Iw K) Tryz.f103 (Ta K) (a0,a1,a2,())=Mk K a0 a1 a2 :=
  AJ (n0:=2) (by rfl) (.trans (b:=Vm K a0 a1 a2 (Yh K a0 a1 a2 (Ad (Iw K) 2))) (by kernel_rfl) (by rw[Aiy]<;>rfl))
theorem Aiz (a0:Int) (a1:Int×Int×Int) (a2:List tM) (a3:List (tV×Int)) (a4 y1:Int) (y2:Bool) (y3:List Int) (y4:Int×Int×Bool) (F12:Fr→Option ((Int×tL×List Int)×Int)) (bq13:Int) (bq14:List Int):Yp K a0 a1 a2 a3 a4 y1 y2 y3 y4 F12 bq13 bq14 (Ad (Ht K) 2)=fun q13 q14 bq16 bq17=>Yi K a0 a1 a2 a3 a4 q13 q14 y1 y2 y3 y4 (fun v0 v1=>F12 (Gf a0 a1 a2 a3 a4 y1 y2 y3 y4 v0 v1)) K bq16 bq17:=by
  funext q13 q14 bq16 bq17;exact Ag (fun x=>(R5 a0 a1 a2 a3 a4 q13 q14 y1 y2 y3 y4 x.1 x.2)) (fun L x=>by kernel_rfl) K (bq16,bq17)
theorem AiA (a0:Int) (a1:Int×Int×Int) (a2:List tM) (a3:List (tV×Int)) (a4:Int):Ym K a0 a1 a2 a3 a4 (Ad (Ht K) 2)=fun y1 y2 y3 y4 bq13 bq14=>Yk K a0 a1 a2 a3 a4 y1 y2 y3 y4 K bq13 bq14:=by
  funext y1 y2 y3 y4 bq13 bq14;refine Ag (fun x=>(Gf a0 a1 a2 a3 a4 y1 y2 y3 y4 x.1 x.2)) (fun L x=>?_) K (bq13,bq14);exact .trans (b:=Yj K a0 a1 a2 a3 a4 y1 y2 y3 y4 (Yp K a0 a1 a2 a3 a4 y1 y2 y3 y4 L bq13 bq14 (Ad (Ht K) 2)) (fun v0 v1=>L (Gf a0 a1 a2 a3 a4 y1 y2 y3 y4 v0 v1)) x.1 x.2) (by kernel_rfl) (by rw[Aiz]<;>rfl)
theorem AiB (a0:Int) (a1:Int×Int×Int) (a2:List tM) (a3:List (tV×Int)) (a4 y1:Int) (y2:Bool) (y19:List Int) (y20:Int×Int×Bool) (F21:Fr→Option ((Int×tL×List Int)×Int)) (bq22:Int) (bq23:List Int):Yq K a0 a1 a2 a3 a4 y1 y2 y19 y20 F21 bq22 bq23 (Ad (Ht K) 2)=fun q22 q23 bq25 bq26=>La K a0 a1 a2 a3 a4 q22 q23 y1 y2 y19 y20 (fun v0 v1=>F21 (Gg a0 a1 a2 a3 a4 y1 y2 y19 y20 v0 v1)) K bq25 bq26:=by
  funext q22 q23 bq25 bq26;exact Ag (fun x=>(R6 a0 a1 a2 a3 a4 q22 q23 y1 y2 y19 y20 x.1 x.2)) (fun L x=>by kernel_rfl) K (bq25,bq26)
theorem AiC (a0:Int) (a1:Int×Int×Int) (a2:List tM) (a3:List (tV×Int)) (a4:Int):Yo K a0 a1 a2 a3 a4 (Ad (Ht K) 2)=fun y1 y2 y19 y20 bq22 bq23=>Qt K a0 a1 a2 a3 a4 y1 y2 y19 y20 K bq22 bq23:=by
  funext y1 y2 y19 y20 bq22 bq23;refine Ag (fun x=>(Gg a0 a1 a2 a3 a4 y1 y2 y19 y20 x.1 x.2)) (fun L x=>?_) K (bq22,bq23);exact .trans (b:=Fc K a0 a1 a2 a3 a4 y1 y2 y19 y20 (Yq K a0 a1 a2 a3 a4 y1 y2 y19 y20 L bq22 bq23 (Ad (Ht K) 2)) (fun v0 v1=>L (Gg a0 a1 a2 a3 a4 y1 y2 y19 y20 v0 v1)) x.1 x.2) (by kernel_rfl) (by rw[AiB]<;>rfl)
theorem AiD (a0:Int) (a1:Int×Int×Int) (a2:List tM) (a3:List (tV×Int)) (a4:Int):rM (Ht K) Tryz.f35 (Ac0 K) (a0,a1,a2,a3,a4,())=AcZ K a0 a1 a2 a3 a4 :=
  AJ (n0:=2) (by rfl) (.trans (b:=AcY K a0 a1 a2 a3 a4 (Ym K a0 a1 a2 a3 a4 (Ad (Ht K) 2)) (Yo K a0 a1 a2 a3 a4 (Ad (Ht K) 2))) (by kernel_rfl) (by rw[AiA,AiC]<;>rfl))
theorem AiE (a0:List tV) (a1:Int×Int):Ys K a0 a1 (Ad (OI K) 1)=fun bq3=>Qu K a0 a1 K bq3:=by
  funext bq3;exact Ag (fun x=>(R7 a0 a1 x)) (fun L x=>by kernel_rfl) K bq3
theorem AeT (a0:List tV) (a1:Int×Int):rM (OI K) Tryz.f169 (Yr K) (a0,a1,())=Tc K a0 a1 :=
  AJ (n0:=1) (by rfl) (.trans (b:=Vn K a0 a1 (Ys K a0 a1 (Ad (OI K) 1))) (by kernel_rfl) (by rw[AiE]<;>rfl))
theorem AmB (a0:List tV) (a1:Int×Int):Ac2 K a0 a1 (Ad (Aak K) 1)=fun bq3=>Vo K a0 a1 K bq3:=by
  funext bq3;exact Ag (fun x=>(WO a0 a1 x)) (fun L x=>by kernel_rfl) K bq3
theorem AiF (a0:List tV) (a1:Int×Int):rM (Aak K) Tryz.f80 (Ag7 K) (a0,a1,())=Aal K a0 a1 :=
  AJ (n0:=1) (by rfl) (.trans (b:=Ac1 K a0 a1 (Ac2 K a0 a1 (Ad (Aak K) 1))) (by kernel_rfl) (by rw[AmB]<;>rfl))
theorem AiG (a0:Int) (a1:Int×Int×Int) (a2:List tM) (a3:List (tV×Int)) (y1:Int) (F12:Fr→Option ((List (List tV))×Int)) (bq13:Int) (bq14:List (Option (List tV))) (bq15:List (List tV)):Yv K a0 a1 a2 a3 y1 F12 bq13 bq14 bq15 (Ad (Qw K) 2)=fun q13 q14 q15 bq17 bq18=>IA K a0 a1 a2 a3 q13 q14 q15 y1 (fun v0 v1 v2=>F12 (Gh a0 a1 a2 a3 y1 v0 v1 v2)) K bq17 bq18:=by
  funext q13 q14 q15 bq17 bq18;exact Ag (fun x=>(R8 a0 a1 a2 a3 q13 q14 q15 y1 x.1 x.2)) (fun L x=>by kernel_rfl) K (bq17,bq18)
theorem AiH (a0:Int) (a1:Int×Int×Int) (a2:List tM) (a3:List (tV×Int)):Yu K a0 a1 a2 a3 (Ad (Qw K) 2)=fun y1 bq13 bq14 bq15=>Qx K a0 a1 a2 a3 y1 K bq13 bq14 bq15:=by
  funext y1 bq13 bq14 bq15;refine Ag (fun x=>(Gh a0 a1 a2 a3 y1 x.1 x.2.1 x.2.2)) (fun L x=>?_) K (bq13,bq14,bq15);exact .trans (b:=IB K a0 a1 a2 a3 y1 (Yv K a0 a1 a2 a3 y1 L bq13 bq14 bq15 (Ad (Qw K) 2)) (fun v0 v1 v2=>L (Gh a0 a1 a2 a3 y1 v0 v1 v2)) x.1 x.2.1 x.2.2) (by kernel_rfl) (by rw[AiG]<;>rfl)
theorem AiI (a0:Int) (a1:Int×Int×Int) (a2:List tM) (a3:List (tV×Int)):rM (Qw K) Tryz.f24 (Ag8 K) (a0,a1,a2,a3,())=Ac4 K a0 a1 a2 a3 :=
  AJ (n0:=2) (by rfl) (.trans (b:=Ac3 K a0 a1 a2 a3 (Yu K a0 a1 a2 a3 (Ad (Qw K) 2))) (by kernel_rfl) (by rw[AiH]<;>rfl))
theorem AeU (a0:(List Int)×Int×Int) (a1:Int) (a2:Int×Int×Int):Th K a0 a1 a2 (Ad (CH K) 1)=fun q9 q12 q21 q22 q23 q24 y1 y3 y15 y16 y17 bq28 bq29=>Gt K a0 a1 a2 q9 q12 q21 q22 q23 q24 y1 y3 y15 y16 y17 K bq28 bq29:=by
  funext q9 q12 q21 q22 q23 q24 y1 y3 y15 y16 y17 bq28 bq29;exact Ag (fun x=>(N7 a0 a1 a2 q9 q12 q21 q22 q23 q24 y1 y3 y15 y16 y17 x.1 x.2)) (fun L x=>by kernel_rfl) K (bq28,bq29)
theorem AeV (a0:(List Int)×Int×Int) (a1:Int) (a2:Int×Int×Int):Tf K a0 a1 a2 (Ad (CH K) 1)=fun q9 q12 y1 y3 y15 y16 y17 bq21 bq22 bq23 bq24=>Gu K a0 a1 a2 q9 q12 y1 y3 y15 y16 y17 K bq21 bq22 bq23 bq24:=by
  funext q9 q12 y1 y3 y15 y16 y17 bq21 bq22 bq23 bq24;refine Ag (fun x=>(Ju a0 a1 a2 q9 q12 y1 y3 y15 y16 y17 x.1 x.2.1 x.2.2.1 x.2.2.2)) (fun L x=>?_) K (bq21,bq22,bq23,bq24);exact .trans (b:=IC K a0 a1 a2 q9 q12 y1 y3 y15 y16 y17 (Th K a0 a1 a2 (Ad (CH K) 1)) (fun v0 v1 v2 v3=>L (Ju a0 a1 a2 q9 q12 y1 y3 y15 y16 y17 v0 v1 v2 v3)) x.1 x.2.1 x.2.2.1 x.2.2.2) (by kernel_rfl) (by rw[AeU]<;>rfl)
theorem AiJ (a0:(List Int)×Int×Int) (a1:Int) (a2:Int×Int×Int):Yw K a0 a1 a2 (Ad (CH K) 1)=fun y1 y2 y3 bq9 bq10 bq11 bq12=>Lg K a0 a1 a2 y1 y2 y3 K bq9 bq10 bq11 bq12:=by
  funext y1 y2 y3 bq9 bq10 bq11 bq12;refine Ag (fun x=>(LV a0 a1 a2 y1 y2 y3 x.1 x.2.1 x.2.2.1 x.2.2.2)) (fun L x=>?_) K (bq9,bq10,bq11,bq12);exact .trans (b:=Ld K a0 a1 a2 y1 y2 y3 (Tf K a0 a1 a2 (Ad (CH K) 1)) (fun v0 v1 v2 v3=>L (LV a0 a1 a2 y1 y2 y3 v0 v1 v2 v3)) x.1 x.2.1 x.2.2.1 x.2.2.2) (by kernel_rfl) (by rw[AeV]<;>rfl)
theorem AeW (a0:(List Int)×Int×Int) (a1:Int) (a2:Int×Int×Int):Ti K a0 a1 a2 (Ad (CH K) 1)=fun q39 q40 q41 q42 q43 y1 y2 y3 y30 y31 bq47 bq48=>Gv K a0 a1 a2 q39 q40 q41 q42 q43 y1 y2 y3 y30 y31 K bq47 bq48:=by
  funext q39 q40 q41 q42 q43 y1 y2 y3 y30 y31 bq47 bq48;exact Ag (fun x=>(N8 a0 a1 a2 q39 q40 q41 q42 q43 y1 y2 y3 y30 y31 x.1 x.2)) (fun L x=>by kernel_rfl) K (bq47,bq48)
theorem AeX (a0:(List Int)×Int×Int) (a1:Int) (a2:Int×Int×Int):Tg K a0 a1 a2 (Ad (CH K) 1)=fun y1 y2 y3 y30 y31 bq39 bq40 bq41 bq42 bq43=>IE K a0 a1 a2 y1 y2 y3 y30 y31 K bq39 bq40 bq41 bq42 bq43:=by
  funext y1 y2 y3 y30 y31 bq39 bq40 bq41 bq42 bq43;refine Ag (fun x=>(Jv a0 a1 a2 y1 y2 y3 y30 y31 x.1 x.2.1 x.2.2.1 x.2.2.2.1 x.2.2.2.2)) (fun L x=>?_) K (bq39,bq40,bq41,bq42,bq43);exact .trans (b:=ID K a0 a1 a2 y1 y2 y3 y30 y31 (Ti K a0 a1 a2 (Ad (CH K) 1)) (fun v0 v1 v2 v3 v4=>L (Jv a0 a1 a2 y1 y2 y3 y30 y31 v0 v1 v2 v3 v4)) x.1 x.2.1 x.2.2.1 x.2.2.2.1 x.2.2.2.2) (by kernel_rfl) (by rw[AeW]<;>rfl)
theorem AeY (a0:(List Int)×Int×Int) (a1:Int) (a2:Int×Int×Int):NH (CH K) Tryz.f175 5 (.int .u8) sV [(.ro,sI),(.ro,sL)] [(.cons sI (.cons sL (.list 2 sI)))] (a0,a1,a2,())=Te K a0 a1 a2 :=
  Nk (n0:=1) (by rfl) (.trans (b:=Vp K a0 a1 a2 (Yw K a0 a1 a2 (Ad (CH K) 1)) (Tg K a0 a1 a2 (Ad (CH K) 1))) (by kernel_rfl) (by rw[AiJ,AeX]<;>rfl))
theorem AiK (a0:List Int) (a1:(Int→Option Bool)):YB K a0 a1 (Ad (OJ K) 1)=fun bq4=>Qy K a0 a1 K bq4:=by
  funext bq4;exact Ag (fun x=>(R9 a0 a1 x)) (fun L x=>by kernel_rfl) K bq4
theorem AeZ (a0:List Int) (a1:(Int→Option Bool)):rM (OJ K) Tryz.f253 (YA K) (a0,a1,())=Yz K a0 a1 :=
  AJ (n0:=1) (by rfl) (.trans (b:=Vq K a0 a1 (YB K a0 a1 (Ad (OJ K) 1))) (by kernel_rfl) (by rw[AiK]<;>rfl))
theorem AmC (a0:Int×tL×List Int) (a1:List (tV×Int)):Adf K a0 a1 (Ad (Aan K) 2)=fun y1 y2 bq6=>Vr K a0 a1 y1 y2 K bq6:=by
  funext y1 y2 bq6;exact Ag (fun x=>(WP a0 a1 y1 y2 x)) (fun L x=>by kernel_rfl) K bq6
theorem AiL (a0:Int×tL×List Int) (a1:List (tV×Int)):rM (Aan K) Tryz.f40 (Ahe K) (a0,a1,())=Ade K a0 a1 :=
  AJ (n0:=2) (by rfl) (.trans (b:=Add K a0 a1 (Adf K a0 a1 (Ad (Aan K) 2))) (by kernel_rfl) (by rw[AmC]<;>rfl))
theorem AmD (a0 a1:List Int):Adi K a0 a1 (Ad (Aao K) 2)=fun bq3=>Vs K a0 a1 K bq3:=by
  funext bq3;exact Ag (fun x=>(WQ a0 a1 x)) (fun L x=>by kernel_rfl) K bq3
theorem AiM (a0 a1:List Int):rM (Aao K) Tryz.f72 (Ahf K) (a0,a1,())=Adh K a0 a1 :=
  AJ (n0:=2) (by rfl) (.trans (b:=Adg K a0 a1 (Adi K a0 a1 (Ad (Aao K) 2))) (by kernel_rfl) (by rw[AmD]<;>rfl))
theorem AiN (a0 a1:List tV):YG K a0 a1 (Ad (OL K) 2)=fun bq3=>QB K a0 a1 K bq3:=by
  funext bq3;exact Ag (fun x=>(Sa a0 a1 x)) (fun L x=>by kernel_rfl) K bq3
theorem Ae0 (a0 a1:List tV):rM (OL K) Tryz.f110 (YF K) (a0,a1,())=Tj K a0 a1 :=
  AJ (n0:=2) (by rfl) (.trans (b:=Vt K a0 a1 (YG K a0 a1 (Ad (OL K) 2))) (by kernel_rfl) (by rw[AiN]<;>rfl))
theorem AmE (a0 a1:List (List tV)):Adl K a0 a1 (Ad (Aap K) 2)=fun bq4=>Vu K a0 a1 K bq4:=by
  funext bq4;exact Ag (fun x=>(WR a0 a1 x)) (fun L x=>by kernel_rfl) K bq4
theorem AiO (a0 a1:List (List tV)):rM (Aap K) Tryz.f41 (Ahi K) (a0,a1,())=Adk K a0 a1 :=
  AJ (n0:=2) (by rfl) (.trans (b:=Adj K a0 a1 (Adl K a0 a1 (Ad (Aap K) 2))) (by kernel_rfl) (by rw[AmE]<;>rfl))
theorem AiP (a0:Int×tL×List Int) (a1:tA×Int×Int):YJ K a0 a1 (Ad (OM K) 1)=fun y1 bq6=>QD K a0 a1 y1 K bq6:=by
  funext y1 bq6;exact Ag (fun x=>(Sb a0 a1 y1 x)) (fun L x=>by kernel_rfl) K bq6
theorem Ae1 (a0:Int×tL×List Int) (a1:tA×Int×Int):rM (OM K) Tryz.f178 (YI K) (a0,a1,())=ON K a0 a1 :=
  AJ (n0:=1) (by rfl) (.trans (b:=Vv K a0 a1 (YJ K a0 a1 (Ad (OM K) 1))) (by kernel_rfl) (by rw[AiP]<;>rfl))
theorem AiQ (a0:Int×tL×List Int) (a1:List tM):YL K a0 a1 (Ad (OO K) 2)=fun bq4=>QE K a0 a1 K bq4:=by
  funext bq4;exact Ag (fun x=>(Sc a0 a1 x)) (fun L x=>by kernel_rfl) K bq4
theorem Ae2 (a0:Int×tL×List Int) (a1:List tM):rM (OO K) Tryz.f114 (YK K) (a0,a1,())=Tk K a0 a1 :=
  AJ (n0:=2) (by rfl) (.trans (b:=Vw K a0 a1 (YL K a0 a1 (Ad (OO K) 2))) (by kernel_rfl) (by rw[AiQ]<;>rfl))
theorem AmF (a0:List Int):Adm K a0 (Ad (f6E K) 1)=fun y1 y2 y3 y4 y5 y6 y7 y8 y9 y10 y11 y12 y13 y14 y15 y16 y17 bq21=>Vx K a0 y1 y2 y3 y4 y5 y6 y7 y8 y9 y10 y11 y12 y13 y14 y15 y16 y17 K bq21:=by
  funext y1 y2 y3 y4 y5 y6 y7 y8 y9 y10 y11 y12 y13 y14 y15 y16 y17 bq21;exact Ag (fun x=>(WS a0 y1 y2 y3 y4 y5 y6 y7 y8 y9 y10 y11 y12 y13 y14 y15 y16 y17 x)) (fun L x=>by kernel_rfl) K bq21
theorem AmG (a0:List Int):rM (f6E K) Tryz.f6 (f6M K) (a0,())=f6G K a0 :=
  AJ (n0:=1) (by rfl) (.trans (b:=Al3 K a0 (Adm K a0 (Ad (f6E K) 1))) (by kernel_rfl) (by rw[AmF]<;>rfl))
end Go.Proofs.YteheolldcpjkcaaGreat.X
