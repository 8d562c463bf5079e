/- Functions of the program as plain Lean functions, and that the program does what they say. Printed by gen.py. -/
import Derived.Test.YteheolldcpjkcaaGreatQtD0
namespace Go.Proofs.YteheolldcpjkcaaGreat.X
open Go
set_option maxRecDepth 100000
attribute [local instance] cwD
set_option linter.unusedVariables false
variable (K:Nat)
include K
theorem AeH (a0:List tM):V7 K a0 (Af (UG K) 1)=fun bq4 bq5=>QF K a0 K bq4 bq5:=by
  funext bq4 bq5;exact Ar (fun x=>(R9 a0 x.1 x.2)) (fun L x=>by kernel_rfl) K (bq4,bq5)
theorem AaN (a0:List tM):rM (UG K) Tryz.f10 (ZH K) (a0,())=Ox K a0 :=
  AH (n0:=1) (by rfl) (.trans (b:=V6 K a0 (V7 K a0 (Af (UG K) 1))) (by kernel_rfl) (by rw[AeH]<;>rfl))
theorem AeI (a0:List (tV×Int)):V9 K a0 (Af (UH K) 1)=fun bq4 bq5=>QG K a0 K bq4 bq5:=by
  funext bq4 bq5;exact Ar (fun x=>(Sa a0 x.1 x.2)) (fun L x=>by kernel_rfl) K (bq4,bq5)
theorem AaO (a0:List (tV×Int)):rM (UH K) Tryz.f25 (ZJ K) (a0,())=Oy K a0 :=
  AH (n0:=1) (by rfl) (.trans (b:=V8 K a0 (V9 K a0 (Af (UH K) 1))) (by kernel_rfl) (by rw[AeI]<;>rfl))
theorem AeJ (a0:List (tV×Int)):Wc K a0 (Af (UI K) 1)=fun bq5=>QH K a0 K bq5:=by
  funext bq5;exact Ar (fun x=>(Sb a0 x)) (fun L x=>by kernel_rfl) K bq5
theorem AaP (a0:List (tV×Int)):rM (UI K) Tryz.f43 (ZK K) (a0,())=Wb K a0 :=
  AH (n0:=1) (by rfl) (.trans (b:=Wa K a0 (Wc K a0 (Af (UI K) 1))) (by kernel_rfl) (by rw[AeJ]<;>rfl))
omit K
theorem Yd (K:Nat) (rec:Int→Int→Option Int) (a0 a1:Int):Od (Ada K rec) Tryz.f272 [(.ro,sI),(.ro,sI)] [sI] (a0,a1,())=Hh K rec a0 a1:=by kernel_rfl
include K
theorem Ye (a0:List tV) (F10:Fr→Option tL) (bq11 bq12 bq13 bq14:Int):OD K a0 F10 bq11 bq12 bq13 bq14 (Af (Gx K) 1)=fun q11 q12 bq16 bq17 bq18 bq19=>DM K a0 q11 q12 (fun v0 v1 v2 v3=>F10 (DK a0 v0 v1 v2 v3)) K bq16 bq17 bq18 bq19:=by
  funext q11 q12 bq16 bq17 bq18 bq19;exact Ar (fun x=>(K6 a0 q11 q12 x.1 x.2.1 x.2.2.1 x.2.2.2)) (fun L x=>by kernel_rfl) K (bq16,bq17,bq18,bq19)
theorem Yf (a0:List tV):OB K a0 (Af (Gx K) 1)=fun bq11 bq12 bq13 bq14=>Jp K a0 K bq11 bq12 bq13 bq14:=by
  funext bq11 bq12 bq13 bq14;refine Ar (fun x=>(DK a0 x.1 x.2.1 x.2.2.1 x.2.2.2)) (fun L x=>?_) K (bq11,bq12,bq13,bq14);exact .trans (b:=EP K a0 (OD K a0 L bq11 bq12 bq13 bq14 (Af (Gx K) 1)) (fun v0 v1 v2 v3=>L (DK a0 v0 v1 v2 v3)) x.1 x.2.1 x.2.2.1 x.2.2.2) (by kernel_rfl) (by rw[Ye]<;>rfl)
theorem Yg (a0:List tV):rM (Gx K) Tryz.f251 (SL K) (a0,())=Lb K a0 :=
  AH (n0:=1) (by rfl) (.trans (b:=QI K a0 (OB K a0 (Af (Gx K) 1))) (by kernel_rfl) (by rw[Yf]<;>rfl))
theorem AeK (a0 a1:List Int):Wl K a0 a1 (Af (UJ K) 2)=fun bq3=>Jq K a0 a1 K bq3:=by
  funext bq3;exact Ar (fun x=>(Sd a0 a1 x)) (fun L x=>by kernel_rfl) K bq3
theorem AaQ (a0 a1:List Int):rM (UJ K) Tryz.f71 (ZN K) (a0,a1,())=ZM K a0 a1 :=
  AH (n0:=2) (by rfl) (.trans (b:=Wk K a0 a1 (Wl K a0 a1 (Af (UJ K) 2))) (by kernel_rfl) (by rw[AeK]<;>rfl))
theorem AaR (a0:List tM) (a1:tA×Int×Int):SR K a0 a1 (Af (Lc K) 1)=fun bq7 bq8=>Gy K a0 a1 K bq7 bq8:=by
  funext bq7 bq8;exact Ar (fun x=>(Oe a0 a1 x.1 x.2)) (fun L x=>by kernel_rfl) K (bq7,bq8)
theorem Yh (a0:List tM) (a1:tA×Int×Int):rM (Lc K) Tryz.f181 (SQ K) (a0,a1,())=SP K a0 a1 :=
  AH (n0:=1) (by rfl) (.trans (b:=QL K a0 a1 (SR K a0 a1 (Af (Lc K) 1))) (by kernel_rfl) (by rw[AaR]<;>rfl))
theorem AaS (a0:Int) (a1:Int×Int×Int) (a2:List tM) (q7 y1:Int) (y12:Bool) (F23:Fr→Option Bool) (bq24:Int):SV K a0 a1 a2 q7 y1 y12 F23 bq24 (Af (Hi K) 1)=fun q24 bq26=>Gz K a0 a1 a2 q7 q24 y1 y12 (fun v0=>F23 (EM a0 a1 a2 q7 y1 y12 v0)) K bq26:=by
  funext q24 bq26;exact Ar (fun x=>(Of a0 a1 a2 q7 q24 y1 y12 x)) (fun L x=>by kernel_rfl) K bq26
theorem AaT (a0:Int) (a1:Int×Int×Int) (a2:List tM):SU K a0 a1 a2 (Af (Hi K) 1)=fun q7 y1 y12 bq24=>Fl K a0 a1 a2 q7 y1 y12 K bq24:=by
  funext q7 y1 y12 bq24;refine Ar (fun x=>(EM a0 a1 a2 q7 y1 y12 x)) (fun L x=>?_) K bq24;exact .trans (b:=GA K a0 a1 a2 q7 y1 y12 (SV K a0 a1 a2 q7 y1 y12 L bq24 (Af (Hi K) 1)) (fun v0=>L (EM a0 a1 a2 q7 y1 y12 v0)) x) (by kernel_rfl) (by rw[AaS]<;>rfl)
theorem AeL (a0:Int) (a1:Int×Int×Int) (a2:List tM):Wu K a0 a1 a2 (Af (Hi K) 1)=fun y1 bq7=>MO K a0 a1 a2 y1 K bq7:=by
  funext y1 bq7;refine Ar (fun x=>(MJ a0 a1 a2 y1 x)) (fun L x=>?_) K bq7;exact .trans (b:=D7 K a0 a1 a2 y1 (SU K a0 a1 a2 (Af (Hi K) 1)) (fun v0=>L (MJ a0 a1 a2 y1 v0)) x) (by kernel_rfl) (by rw[AaT]<;>rfl)
theorem AaU (a0:Int) (a1:Int×Int×Int) (a2:List tM):rM (Hi K) Tryz.f66 (Wt K) (a0,a1,a2,())=Ws K a0 a1 a2 :=
  AH (n0:=1) (by rfl) (.trans (b:=Wr K a0 a1 a2 (Wu K a0 a1 a2 (Af (Hi K) 1))) (by kernel_rfl) (by rw[AeL]<;>rfl))
theorem AeM (a0:Int×Int×Int) (F6:Fr→Option (List tV)) (bq7:Int) (bq8:List tV):WB K a0 F6 bq7 bq8 (Af (MP K) 0)=fun q7 bq10 bq11=>Jr K a0 q7 (fun v0 v1=>F6 (Gt a0 v0 v1)) K bq10 bq11:=by
  funext q7 bq10 bq11;exact Ar (fun x=>(Se a0 q7 x.1 x.2)) (fun L x=>by kernel_rfl) K (bq10,bq11)
theorem AeN (a0:Int×Int×Int):WA K a0 (Af (MP K) 0)=fun bq7 bq8=>QM K a0 K bq7 bq8:=by
  funext bq7 bq8;refine Ar (fun x=>(Gt a0 x.1 x.2)) (fun L x=>?_) K (bq7,bq8);exact .trans (b:=Js K a0 (WB K a0 L bq7 bq8 (Af (MP K) 0)) (fun v0 v1=>L (Gt a0 v0 v1)) x.1 x.2) (by kernel_rfl) (by rw[AeM]<;>rfl)
theorem AaV (a0:Int×Int×Int):rM (MP K) Tryz.f67 (ZR K) (a0,())=Wy K a0 :=
  AH (n0:=0) (by rfl) (.trans (b:=Wx K a0 (WA K a0 (Af (MP K) 0))) (by kernel_rfl) (by rw[AeN]<;>rfl))
theorem AaW (a0:List tV) (a1:Int×Int):SZ K a0 a1 (Af (Ld K) 1)=fun bq4=>Iw K a0 a1 K bq4:=by
  funext bq4;exact Ar (fun x=>(Og a0 a1 x)) (fun L x=>by kernel_rfl) K bq4
theorem Yi (a0:List tV) (a1:Int×Int):rM (Ld K) Tryz.f183 (SY K) (a0,a1,())=OJ K a0 a1 :=
  AH (n0:=1) (by rfl) (.trans (b:=QN K a0 a1 (SZ K a0 a1 (Af (Ld K) 1))) (by kernel_rfl) (by rw[AaW]<;>rfl))
theorem AaX (a0:Int×Int×Int) (a1:List tM) (a2:Int×Int):S1 K a0 a1 a2 (Af (Lg K) 1)=fun bq5 bq6=>MS K a0 a1 a2 K bq5 bq6:=by
  funext bq5 bq6;exact Ar (fun x=>(Oh a0 a1 a2 x.1 x.2)) (fun L x=>by kernel_rfl) K (bq5,bq6)
theorem Yj (a0:Int×Int×Int) (a1:List tM) (a2:Int×Int):rM (Lg K) Tryz.f119 (S0 K) (a0,a1,a2,())=OK K a0 a1 a2 :=
  AH (n0:=1) (by rfl) (.trans (b:=QO K a0 a1 a2 (S1 K a0 a1 a2 (Af (Lg K) 1))) (by kernel_rfl) (by rw[AaX]<;>rfl))
theorem AeO (a0:Int×Int×Int) (a1:List tM):WE K a0 a1 (Af (UK K) 1)=fun y1 bq5 bq6=>QP K a0 a1 y1 K bq5 bq6:=by
  funext y1 bq5 bq6;exact Ar (fun x=>(Sf a0 a1 y1 x.1 x.2)) (fun L x=>by kernel_rfl) K (bq5,bq6)
theorem AaY (a0:Int×Int×Int) (a1:List tM):rM (UK K) Tryz.f79 (ZV K) (a0,a1,())=WD K a0 a1 :=
  AH (n0:=1) (by rfl) (.trans (b:=WC K a0 a1 (WE K a0 a1 (Af (UK K) 1))) (by kernel_rfl) (by rw[AeO]<;>rfl))
theorem AeP (a0:List tV) (a1:Int×Int):WG K a0 a1 (Af (UL K) 1)=fun bq3=>QQ K a0 a1 K bq3:=by
  funext bq3;exact Ar (fun x=>(Si a0 a1 x)) (fun L x=>by kernel_rfl) K bq3
theorem AaZ (a0:List tV) (a1:Int×Int):rM (UL K) Tryz.f80 (ZW K) (a0,a1,())=UM K a0 a1 :=
  AH (n0:=1) (by rfl) (.trans (b:=WF K a0 a1 (WG K a0 a1 (Af (UL K) 1))) (by kernel_rfl) (by rw[AeP]<;>rfl))
theorem Aa0 (a0:Int) (a1:Int×Int×Int) (a2:List tM) (a3:List (tV×Int)) (y1:Int) (F12:Fr→Option ((List (List tV))×Int)) (bq13:Int) (bq14:List (Option (List tV))) (bq15:List (List tV)):S4 K a0 a1 a2 a3 y1 F12 bq13 bq14 bq15 (Af (MU K) 2)=fun q13 q14 q15 bq17 bq18=>GB K a0 a1 a2 a3 q13 q14 q15 y1 (fun v0 v1 v2=>F12 (EN a0 a1 a2 a3 y1 v0 v1 v2)) K bq17 bq18:=by
  funext q13 q14 q15 bq17 bq18;exact Ar (fun x=>(Oi a0 a1 a2 a3 q13 q14 q15 y1 x.1 x.2)) (fun L x=>by kernel_rfl) K (bq17,bq18)
theorem Aa1 (a0:Int) (a1:Int×Int×Int) (a2:List tM) (a3:List (tV×Int)):S3 K a0 a1 a2 a3 (Af (MU K) 2)=fun y1 bq13 bq14 bq15=>MV K a0 a1 a2 a3 y1 K bq13 bq14 bq15:=by
  funext y1 bq13 bq14 bq15;refine Ar (fun x=>(EN a0 a1 a2 a3 y1 x.1 x.2.1 x.2.2)) (fun L x=>?_) K (bq13,bq14,bq15);exact .trans (b:=GC K a0 a1 a2 a3 y1 (S4 K a0 a1 a2 a3 y1 L bq13 bq14 bq15 (Af (MU K) 2)) (fun v0 v1 v2=>L (EN a0 a1 a2 a3 y1 v0 v1 v2)) x.1 x.2.1 x.2.2) (by kernel_rfl) (by rw[Aa0]<;>rfl)
theorem Aa2 (a0:Int) (a1:Int×Int×Int) (a2:List tM) (a3:List (tV×Int)):rM (MU K) Tryz.f24 (ZX K) (a0,a1,a2,a3,())=WI K a0 a1 a2 a3 :=
  AH (n0:=2) (by rfl) (.trans (b:=WH K a0 a1 a2 a3 (S3 K a0 a1 a2 a3 (Af (MU K) 2))) (by kernel_rfl) (by rw[Aa1]<;>rfl))
theorem Aa3 (a0:Int):Tb K a0 (Af (Lh K) 0)=fun bq9 bq10=>S9 K a0 K bq9 bq10:=by
  funext bq9 bq10;exact Ar (fun x=>(Oj a0 x.1 x.2)) (fun L x=>by kernel_rfl) K (bq9,bq10)
theorem Yk (a0:Int):rM (Lh K) Tryz.f158 (Ta K) (a0,())=Li K a0 :=
  AH (n0:=0) (by rfl) (.trans (b:=WL K a0 (Tb K a0 (Af (Lh K) 0))) (by kernel_rfl) (by rw[Aa3]<;>rfl))
theorem Aa4 (a0:List tA) (a1:(tA→Option Bool)):Te K a0 a1 (Af (Lj K) 1)=fun bq4=>MW K a0 a1 K bq4:=by
  funext bq4;exact Ar (fun x=>(Ok a0 a1 x)) (fun L x=>by kernel_rfl) K bq4
theorem Yl (a0:List tA) (a1:(tA→Option Bool)):rM (Lj K) Tryz.f274 (Td K) (a0,a1,())=OP K a0 a1 :=
  AH (n0:=1) (by rfl) (.trans (b:=QR K a0 a1 (Te K a0 a1 (Af (Lj K) 1))) (by kernel_rfl) (by rw[Aa4]<;>rfl))
theorem Aa5 (a0:List tA) (a1:(tA→Option Bool)):Tg K a0 a1 (Af (Lk K) 1)=fun y1 bq5 bq6 bq7=>MX K a1 y1 K bq5 bq6 bq7:=by
  funext y1 bq5 bq6 bq7;exact Ar (fun x=>(Ol a1 y1 x.1 x.2.1 x.2.2)) (fun L x=>by kernel_rfl) K (bq5,bq6,bq7)
theorem Ym (a0:List tA) (a1:(tA→Option Bool)):rM (Lk K) Tryz.f257 (Tf K) (a0,a1,())=OQ K a0 a1 :=
  AH (n0:=1) (by rfl) (.trans (b:=QS K a0 a1 (Tg K a0 a1 (Af (Lk K) 1))) (by kernel_rfl) (by rw[Aa5]<;>rfl))
theorem Aa6 (a0:List tA) (a1:Int×Int×Int×Int):Tj K a0 a1 (Af (Ll K) 1)=fun bq3=>MY K a0 a1 K bq3:=by
  funext bq3;exact Ar (fun x=>(Om a0 a1 x)) (fun L x=>by kernel_rfl) K bq3
theorem Yn (a0:List tA) (a1:Int×Int×Int×Int):rM (Ll K) Tryz.f212 (Ti K) (a0,a1,())=OR K a0 a1 :=
  AH (n0:=1) (by rfl) (.trans (b:=QT K a0 a1 (Tj K a0 a1 (Af (Ll K) 1))) (by kernel_rfl) (by rw[Aa6]<;>rfl))
theorem Aa7 (a0 a1:List Int):Tl K a0 a1 (Af (Lm K) 2)=fun bq3=>IB K a0 a1 K bq3:=by
  funext bq3;exact Ar (fun x=>(On a0 a1 x)) (fun L x=>by kernel_rfl) K bq3
theorem Yo (a0 a1:List Int):rM (Lm K) Tryz.f190 (OS K) (a0,a1,())=Ln K a0 a1 :=
  AH (n0:=2) (by rfl) (.trans (b:=QU K a0 a1 (Tl K a0 a1 (Af (Lm K) 2))) (by kernel_rfl) (by rw[Aa7]<;>rfl))
theorem Yp (a0:Int) (a1:Int×Int×Int) (a2:List tM) (q7:Int) (q8:List (tM×Bool)) (y1:List tA) (y12:Int×Int×Int×Int) (F21:Fr→Option Bool) (bq22:Int):OY K a0 a1 a2 q7 q8 y1 y12 F21 bq22 (Af (DN K) 1)=fun q22 bq24=>EQ K a0 a1 a2 q7 q8 q22 y1 y12 (fun v0=>F21 (DL a0 a1 a2 q7 q8 y1 y12 v0)) K bq24:=by
  funext q22 bq24;exact Ar (fun x=>(K8 a0 a1 a2 q7 q8 q22 y1 y12 x)) (fun L x=>by kernel_rfl) K bq24
theorem Yq (a0:Int) (a1:Int×Int×Int) (a2:List tM):OX K a0 a1 a2 (Af (DN K) 1)=fun q7 q8 y1 y12 bq22=>ES K a0 a1 a2 q7 q8 y1 y12 K bq22:=by
  funext q7 q8 y1 y12 bq22;refine Ar (fun x=>(DL a0 a1 a2 q7 q8 y1 y12 x)) (fun L x=>?_) K bq22;exact .trans (b:=ER K a0 a1 a2 q7 q8 y1 y12 (OY K a0 a1 a2 q7 q8 y1 y12 L bq22 (Af (DN K) 1)) (fun v0=>L (DL a0 a1 a2 q7 q8 y1 y12 v0)) x) (by kernel_rfl) (by rw[Yp]<;>rfl)
theorem Aa8 (a0:Int) (a1:Int×Int×Int) (a2:List tM):Tq K a0 a1 a2 (Af (DN K) 1)=fun y1 bq7 bq8=>M0 K a0 a1 a2 y1 K bq7 bq8:=by
  funext y1 bq7 bq8;refine Ar (fun x=>(Jk a0 a1 a2 y1 x.1 x.2)) (fun L x=>?_) K (bq7,bq8);exact .trans (b:=Dp K a0 a1 a2 y1 (OX K a0 a1 a2 (Af (DN K) 1)) (fun v0 v1=>L (Jk a0 a1 a2 y1 v0 v1)) x.1 x.2) (by kernel_rfl) (by rw[Yq]<;>rfl)
theorem Yr (a0:Int) (a1:Int×Int×Int) (a2:List tM):rM (DN K) Tryz.f186 (OV K) (a0,a1,a2,())=OU K a0 a1 a2 :=
  AH (n0:=1) (by rfl) (.trans (b:=QV K a0 a1 a2 (Tq K a0 a1 a2 (Af (DN K) 1))) (by kernel_rfl) (by rw[Aa8]<;>rfl))
theorem Aa9 (a0:Int) (a1:Int×Int×Int) (a2:List (List tM)):Ts K a0 a1 a2 (Af (Lo K) 1)=fun y1 bq5=>M2 K a0 a1 a2 y1 K bq5:=by
  funext y1 bq5;exact Ar (fun x=>(Oo a0 a1 a2 y1 x)) (fun L x=>by kernel_rfl) K bq5
theorem Ys (a0:Int) (a1:Int×Int×Int) (a2:List (List tM)):rM (Lo K) Tryz.f121 (Tr K) (a0,a1,a2,())=Lp K a0 a1 a2 :=
  AH (n0:=1) (by rfl) (.trans (b:=QW K a0 a1 a2 (Ts K a0 a1 a2 (Af (Lo K) 1))) (by kernel_rfl) (by rw[Aa9]<;>rfl))
theorem Aba (a0:List (tV×Int)) (a1:((tV×Int)→Option Bool)):Tw K a0 a1 (Af (Lq K) 1)=fun bq4=>M3 K a0 a1 K bq4:=by
  funext bq4;exact Ar (fun x=>(Oq a0 a1 x)) (fun L x=>by kernel_rfl) K bq4
theorem Yt (a0:List (tV×Int)) (a1:((tV×Int)→Option Bool)):rM (Lq K) Tryz.f168 (Tv K) (a0,a1,())=Tu K a0 a1 :=
  AH (n0:=1) (by rfl) (.trans (b:=QX K a0 a1 (Tw K a0 a1 (Af (Lq K) 1))) (by kernel_rfl) (by rw[Aba]<;>rfl))
theorem Abb (a0:List Int) (a1:Int):Tz K a0 a1 (Af (Lr K) 1)=fun y1 bq4 bq5=>ID K a0 a1 y1 K bq4 bq5:=by
  funext y1 bq4 bq5;exact Ar (fun x=>(Ot a0 a1 y1 x.1 x.2)) (fun L x=>by kernel_rfl) K (bq4,bq5)
theorem Yu (a0:List Int) (a1:Int):rM (Lr K) Tryz.f166 (Tx K) (a0,a1,())=O0 K a0 a1 :=
  AH (n0:=1) (by rfl) (.trans (b:=QY K a0 a1 (Tz K a0 a1 (Af (Lr K) 1))) (by kernel_rfl) (by rw[Abb]<;>rfl))
theorem AeQ (a0:Int×Int×Int) (F6:Fr→Option (List tV)) (bq7:Int) (bq8:List tV):WZ K a0 F6 bq7 bq8 (Af (M5 K) 0)=fun q7 bq10 bq11=>Jt K a0 q7 (fun v0 v1=>F6 (Gu a0 v0 v1)) K bq10 bq11:=by
  funext q7 bq10 bq11;exact Ar (fun x=>(Sj a0 q7 x.1 x.2)) (fun L x=>by kernel_rfl) K (bq10,bq11)
theorem AeR (a0:Int×Int×Int):WY K a0 (Af (M5 K) 0)=fun bq7 bq8=>QZ K a0 K bq7 bq8:=by
  funext bq7 bq8;refine Ar (fun x=>(Gu a0 x.1 x.2)) (fun L x=>?_) K (bq7,bq8);exact .trans (b:=Ju K a0 (WZ K a0 L bq7 bq8 (Af (M5 K) 0)) (fun v0 v1=>L (Gu a0 v0 v1)) x.1 x.2) (by kernel_rfl) (by rw[AeQ]<;>rfl)
theorem Abc (a0:Int×Int×Int):rM (M5 K) Tryz.f99 (Aac K) (a0,())=WW K a0 :=
  AH (n0:=0) (by rfl) (.trans (b:=WV K a0 (WY K a0 (Af (M5 K) 0))) (by kernel_rfl) (by rw[AeR]<;>rfl))
theorem Abd (a0:List tV) (F7:Fr→Option (List tV)) (bq8:Int):TG K a0 F7 bq8 (Af (GF K) 1)=fun q8 bq10 bq11 bq12=>GG K a0 q8 K bq10 bq11 bq12:=by
  funext q8 bq10 bq11 bq12;exact Ar (fun x=>(Ou a0 q8 x.1 x.2.1 x.2.2)) (fun L x=>by kernel_rfl) K (bq10,bq11,bq12)
theorem Abe (a0:List tV):TF K a0 (Af (GF K) 1)=fun bq8=>IF K a0 K bq8:=by
  funext bq8;refine Ar (fun x=>(Gv a0 x)) (fun L x=>?_) K bq8;exact .trans (b:=IE K a0 (TG K a0 L bq8 (Af (GF K) 1)) (fun v0=>L (Gv a0 v0)) x) (by kernel_rfl) (by rw[Abd]<;>rfl)
theorem Yv (a0:List tV):rM (GF K) Tryz.f128 (TD K) (a0,())=O2 K a0 :=
  AH (n0:=1) (by rfl) (.trans (b:=Q0 K a0 (TF K a0 (Af (GF K) 1))) (by kernel_rfl) (by rw[Abe]<;>rfl))
theorem AeS (a0:Int×Int×Int) (a1:List tM) (a2:Int×Int):W3 K a0 a1 a2 (Af (UO K) 1)=fun bq4 bq5=>Q1 K a0 a1 a2 K bq4 bq5:=by
  funext bq4 bq5;exact Ar (fun x=>(Sl a0 a1 a2 x.1 x.2)) (fun L x=>by kernel_rfl) K (bq4,bq5)
theorem Abf (a0:Int×Int×Int) (a1:List tM) (a2:Int×Int):rM (UO K) Tryz.f52 (Aae K) (a0,a1,a2,())=W1 K a0 a1 a2 :=
  AH (n0:=1) (by rfl) (.trans (b:=W0 K a0 a1 a2 (W3 K a0 a1 a2 (Af (UO K) 1))) (by kernel_rfl) (by rw[AeS]<;>rfl))
theorem Abg (a0:Int×Int×Int) (a1:List tM) (y3:List tV) (F16:Fr→Option ((List (List tV))×List Int)) (bq17:Int) (bq18:List (List tV)) (bq19:List Int):TK K a0 a1 y3 F16 bq17 bq18 bq19 (Af (M8 K) 1)=fun q17 q18 q19 y20 y21 bq23 bq24=>GH K a0 a1 q17 q18 q19 y3 y20 y21 (fun v0 v1 v2=>F16 (EO a0 a1 y3 v0 v1 v2)) K bq23 bq24:=by
  funext q17 q18 q19 y20 y21 bq23 bq24;exact Ar (fun x=>(Ov a0 a1 q17 q18 q19 y3 y20 y21 x.1 x.2)) (fun L x=>by kernel_rfl) K (bq23,bq24)
theorem Abh (a0:Int×Int×Int) (a1:List tM):TJ K a0 a1 (Af (M8 K) 1)=fun y3 bq17 bq18 bq19=>TH K a0 a1 y3 K bq17 bq18 bq19:=by
  funext y3 bq17 bq18 bq19;refine Ar (fun x=>(EO a0 a1 y3 x.1 x.2.1 x.2.2)) (fun L x=>?_) K (bq17,bq18,bq19);exact .trans (b:=CZ K a0 a1 y3 (TK K a0 a1 y3 L bq17 bq18 bq19 (Af (M8 K) 1)) (fun v0 v1 v2=>L (EO a0 a1 y3 v0 v1 v2)) x.1 x.2.1 x.2.2) (by kernel_rfl) (by rw[Abg]<;>rfl)
theorem Abi (a0:Int×Int×Int) (a1:List tM):rM (M8 K) Tryz.f84 (Aaf K) (a0,a1,())=W5 K a0 a1 :=
  AH (n0:=1) (by rfl) (.trans (b:=W4 K a0 a1 (TJ K a0 a1 (Af (M8 K) 1))) (by kernel_rfl) (by rw[Abh]<;>rfl))
theorem Abj (a0:List tV) (a1:Int×Int):TM K a0 a1 (Af (Ls K) 1)=fun bq3=>M9 K a0 a1 K bq3:=by
  funext bq3;exact Ar (fun x=>(Ow a0 a1 x)) (fun L x=>by kernel_rfl) K bq3
theorem Yw (a0:List tV) (a1:Int×Int):rM (Ls K) Tryz.f169 (TL K) (a0,a1,())=O3 K a0 a1 :=
  AH (n0:=1) (by rfl) (.trans (b:=Q2 K a0 a1 (TM K a0 a1 (Af (Ls K) 1))) (by kernel_rfl) (by rw[Abj]<;>rfl))
theorem AeT (a0 a1:List tV):W9 K a0 a1 (Af (UP K) 2)=fun bq4=>Q3 K a0 a1 K bq4:=by
  funext bq4;exact Ar (fun x=>(Sn a0 a1 x)) (fun L x=>by kernel_rfl) K bq4
theorem Abk (a0 a1:List tV):rM (UP K) Tryz.f91 (Aak K) (a0,a1,())=W8 K a0 a1 :=
  AH (n0:=2) (by rfl) (.trans (b:=W7 K a0 a1 (W9 K a0 a1 (Af (UP K) 2))) (by kernel_rfl) (by rw[AeT]<;>rfl))
theorem AeU (a0 a1:List (List tV)):Xc K a0 a1 (Af (UQ K) 2)=fun bq4=>Xa K a0 a1 K bq4:=by
  funext bq4;exact Ar (fun x=>(So a0 a1 x)) (fun L x=>by kernel_rfl) K bq4
theorem Abl (a0 a1:List (List tV)):rM (UQ K) Tryz.f27 (Aal K) (a0,a1,())=Q4 K a0 a1 :=
  AH (n0:=2) (by rfl) (.trans (b:=Xb K a0 a1 (Xc K a0 a1 (Af (UQ K) 2))) (by kernel_rfl) (by rw[AeU]<;>rfl))
theorem AeV (a0 a1:List tM):Xg K a0 a1 (Af (UR K) 2)=fun bq4=>Q5 K a0 a1 K bq4:=by
  funext bq4;exact Ar (fun x=>(Sp a0 a1 x)) (fun L x=>by kernel_rfl) K bq4
theorem Abm (a0 a1:List tM):rM (UR K) Tryz.f13 (Aan K) (a0,a1,())=Xf K a0 a1 :=
  AH (n0:=2) (by rfl) (.trans (b:=Xe K a0 a1 (Xg K a0 a1 (Af (UR K) 2))) (by kernel_rfl) (by rw[AeV]<;>rfl))
theorem AeW (a0 a1:List (tV×Int)):Xj K a0 a1 (Af (US K) 2)=fun bq4=>Q6 K a0 a1 K bq4:=by
  funext bq4;exact Ar (fun x=>(Sq a0 a1 x)) (fun L x=>by kernel_rfl) K bq4
theorem Abn (a0 a1:List (tV×Int)):rM (US K) Tryz.f28 (Aap K) (a0,a1,())=Xi K a0 a1 :=
  AH (n0:=2) (by rfl) (.trans (b:=Xh K a0 a1 (Xj K a0 a1 (Af (US K) 2))) (by kernel_rfl) (by rw[AeW]<;>rfl))
theorem AeX (a0:List tM) (a1:Int):Xm K a0 a1 (Af (UT K) 1)=fun bq3 bq4 bq5=>Q7 K K bq3 bq4 bq5:=by
  funext bq3 bq4 bq5;exact Ar (fun x=>(Sr x.1 x.2.1 x.2.2)) (fun L x=>by kernel_rfl) K (bq3,bq4,bq5)
theorem Abo (a0:List tM) (a1:Int):rM (UT K) Tryz.f29 (Aaq K) (a0,a1,())=Xl K a0 a1 :=
  AH (n0:=1) (by rfl) (.trans (b:=Xk K a0 a1 (Xm K a0 a1 (Af (UT K) 1))) (by kernel_rfl) (by rw[AeX]<;>rfl))
theorem AeY (a0:List (tV×Int)) (a1:Int):Xp K a0 a1 (Af (UU K) 1)=fun bq3 bq4 bq5=>Q8 K K bq3 bq4 bq5:=by
  funext bq3 bq4 bq5;exact Ar (fun x=>(Ss x.1 x.2.1 x.2.2)) (fun L x=>by kernel_rfl) K (bq3,bq4,bq5)
theorem Abp (a0:List (tV×Int)) (a1:Int):rM (UU K) Tryz.f30 (Aar K) (a0,a1,())=Xo K a0 a1 :=
  AH (n0:=1) (by rfl) (.trans (b:=Xn K a0 a1 (Xp K a0 a1 (Af (UU K) 1))) (by kernel_rfl) (by rw[AeY]<;>rfl))
theorem AeZ (a0:List tV) (a1:Int):Xs K a0 a1 (Af (UV K) 1)=fun bq3 bq4 bq5=>Q9 K K bq3 bq4 bq5:=by
  funext bq3 bq4 bq5;exact Ar (fun x=>(St x.1 x.2.1 x.2.2)) (fun L x=>by kernel_rfl) K (bq3,bq4,bq5)
theorem Abq (a0:List tV) (a1:Int):rM (UV K) Tryz.f93 (Aas K) (a0,a1,())=Xr K a0 a1 :=
  AH (n0:=1) (by rfl) (.trans (b:=Xq K a0 a1 (Xs K a0 a1 (Af (UV K) 1))) (by kernel_rfl) (by rw[AeZ]<;>rfl))
theorem Ae0 (a0:List (List tV)) (a1:Int):Xu K a0 a1 (Af (UW K) 1)=fun bq4 bq5 bq6=>Jz K K bq4 bq5 bq6:=by
  funext bq4 bq5 bq6;exact Ar (fun x=>(Su x.1 x.2.1 x.2.2)) (fun L x=>by kernel_rfl) K (bq4,bq5,bq6)
theorem Abr (a0:List (List tV)) (a1:Int):rM (UW K) Tryz.f31 (Aat K) (a0,a1,())=UX K a0 a1 :=
  AH (n0:=1) (by rfl) (.trans (b:=Xt K a0 a1 (Xu K a0 a1 (Af (UW K) 1))) (by kernel_rfl) (by rw[Ae0]<;>rfl))
theorem Ae1 (a0:List tV) (a1:Int):Xx K a0 a1 (Af (UY K) 1)=fun bq3 bq4=>Ra K a0 K bq3 bq4:=by
  funext bq3 bq4;exact Ar (fun x=>(Sw a0 x.1 x.2)) (fun L x=>by kernel_rfl) K (bq3,bq4)
theorem Abs (a0:List tV) (a1:Int):rM (UY K) Tryz.f94 (Aau K) (a0,a1,())=Xw K a0 a1 :=
  AH (n0:=1) (by rfl) (.trans (b:=Xv K a0 a1 (Xx K a0 a1 (Af (UY K) 1))) (by kernel_rfl) (by rw[Ae1]<;>rfl))
theorem Ae2 (a0:List (List tV)) (a1:Int):Xz K a0 a1 (Af (UZ K) 1)=fun bq4 bq5=>JB K a0 K bq4 bq5:=by
  funext bq4 bq5;exact Ar (fun x=>(Sx a0 x.1 x.2)) (fun L x=>by kernel_rfl) K (bq4,bq5)
theorem Abt (a0:List (List tV)) (a1:Int):rM (UZ K) Tryz.f32 (Aav K) (a0,a1,())=Rb K a0 a1 :=
  AH (n0:=1) (by rfl) (.trans (b:=Xy K a0 a1 (Xz K a0 a1 (Af (UZ K) 1))) (by kernel_rfl) (by rw[Ae2]<;>rfl))
end Go.Proofs.YteheolldcpjkcaaGreat.X
