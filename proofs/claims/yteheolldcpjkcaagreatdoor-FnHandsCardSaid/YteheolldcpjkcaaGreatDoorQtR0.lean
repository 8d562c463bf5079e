/- Functions of the program as plain Lean functions, and that the program does what they say. Printed by gen.py. -/
import Derived.Test.YteheolldcpjkcaaGreatDoorQtD1
namespace Go.Proofs.YteheolldcpjkcaaGreatDoor.X
open Go
set_option maxRecDepth 100000
attribute [local instance] cwD
set_option linter.unusedVariables false
variable (K:Nat)
include K
theorem AlN (a0:List Int):AaB K a0 (Ae (Aaz K) 1)=fun bq3 bq4=>TJ K a0 K bq3 bq4:=by
  funext bq3 bq4;exact Aj (fun x=>(Vv a0 x.1 x.2)) (fun L x=>by kernel_rfl) K (bq3,bq4)
theorem Ag3 (a0:List Int):YI (Aaz K) Tryz.f31 5 (.int .u8) sV [] (a0,())=YJ K a0 :=
  AmQ (n0:=1) (by rfl) (.trans (b:=AaA K a0 (AaB K a0 (Ae (Aaz K) 1))) (by kernel_rfl) (by rw[AlN]<;>rfl))
theorem Ag4 (a0:Int):V1 K a0 (Ae (Ns K) 0)=fun bq4 bq5=>VZ K a0 K bq4 bq5:=by
  funext bq4 bq5;exact Aj (fun x=>(Q5 a0 x.1 x.2)) (fun L x=>by kernel_rfl) K (bq4,bq5)
theorem Adw (a0:Int):rM (Ns K) Tryz.f181 (V0 K) (a0,())=Nt K a0 :=
  AA (n0:=0) (by rfl) (.trans (b:=AaE K a0 (V1 K a0 (Ae (Ns K) 0))) (by kernel_rfl) (by rw[Ag4]<;>rfl))
omit K
theorem Adx (K:Nat) (rec:Int→Int→Option Int) (a0 a1:Int):Q4 (AjH K rec) Tryz.f215 [(.ro,sI),(.ro,sI)] [sI] (a0,a1,())=Jj K rec a0 a1:=by kernel_rfl
include K
theorem Ady (a0:List tV) (F10:Fr→Option tL) (bq11 bq12 bq13 bq14:Int):RH K a0 F10 bq11 bq12 bq13 bq14 (Ae (H2 K) 1)=fun q11 q12 bq16 bq17 bq18 bq19=>EA K a0 q11 q12 (fun v0 v1 v2 v3=>F10 (Ey a0 v0 v1 v2 v3)) K bq16 bq17 bq18 bq19:=by
  funext q11 q12 bq16 bq17 bq18 bq19;exact Aj (fun x=>(Nm a0 q11 q12 x.1 x.2.1 x.2.2.1 x.2.2.2)) (fun L x=>by kernel_rfl) K (bq16,bq17,bq18,bq19)
theorem Adz (a0:List tV):RG K a0 (Ae (H2 K) 1)=fun bq11 bq12 bq13 bq14=>Lc K a0 K bq11 bq12 bq13 bq14:=by
  funext bq11 bq12 bq13 bq14;refine Aj (fun x=>(Ey a0 x.1 x.2.1 x.2.2.1 x.2.2.2)) (fun L x=>?_) K (bq11,bq12,bq13,bq14);exact .trans (b:=FX K a0 (RH K a0 L bq11 bq12 bq13 bq14 (Ae (H2 K) 1)) (fun v0 v1 v2 v3=>L (Ey a0 v0 v1 v2 v3)) x.1 x.2.1 x.2.2.1 x.2.2.2) (by kernel_rfl) (by rw[Ady]<;>rfl)
theorem AdA (a0:List tV):rM (H2 K) Tryz.f173 (RE K) (a0,())=Hf K a0 :=
  AA (n0:=1) (by rfl) (.trans (b:=TK K a0 (RG K a0 (Ae (H2 K) 1))) (by kernel_rfl) (by rw[Adz]<;>rfl))
theorem AlO (a0:Int) (a1:Int×Int×Int):AaL K a0 a1 (Ae (YM K) 0)=fun y1 bq5 bq6=>TL K a0 a1 y1 K bq5 bq6:=by
  funext y1 bq5 bq6;exact Aj (fun x=>(Vx a0 a1 y1 x.1 x.2)) (fun L x=>by kernel_rfl) K (bq5,bq6)
theorem Ag5 (a0:Int) (a1:Int×Int×Int):rM (YM K) Tryz.f99 (AaK K) (a0,a1,())=YN K a0 a1 :=
  AA (n0:=0) (by rfl) (.trans (b:=AaJ K a0 a1 (AaL K a0 a1 (Ae (YM K) 0))) (by kernel_rfl) (by rw[AlO]<;>rfl))
theorem Ag6 (a0 a1:List Int):Wb K a0 a1 (Ae (Nv K) 2)=fun bq3=>H3 K a0 a1 K bq3:=by
  funext bq3;exact Aj (fun x=>(Q6 a0 a1 x)) (fun L x=>by kernel_rfl) K bq3
theorem AdB (a0 a1:List Int):rM (Nv K) Tryz.f287 (Wa K) (a0,a1,())=V9 K a0 a1 :=
  AA (n0:=2) (by rfl) (.trans (b:=TM K a0 a1 (Wb K a0 a1 (Ae (Nv K) 2))) (by kernel_rfl) (by rw[Ag6]<;>rfl))
theorem Ag7 (a0:List tM) (a1:tA×Int×Int):Wd K a0 a1 (Ae (Nw K) 1)=fun bq7 bq8=>GK K a0 a1 K bq7 bq8:=by
  funext bq7 bq8;exact Aj (fun x=>(Q7 a0 a1 x.1 x.2)) (fun L x=>by kernel_rfl) K (bq7,bq8)
theorem AdC (a0:List tM) (a1:tA×Int×Int):rM (Nw K) Tryz.f229 (RK K) (a0,a1,())=Nx K a0 a1 :=
  AA (n0:=1) (by rfl) (.trans (b:=Pc K a0 a1 (Wd K a0 a1 (Ae (Nw K) 1))) (by kernel_rfl) (by rw[Ag7]<;>rfl))
theorem AdD (a0:Int×Int×Int) (a1:List tM) (F17:Fr→Option (List tM)) (bq18:Int) (bq19 bq20:List tM):RN K a0 a1 F17 bq18 bq19 bq20 (Ae (H4 K) 1)=fun q18 q20 bq22 bq23 bq24=>FY K a0 a1 q18 q20 (fun v0 v1 v2=>F17 (Ez a0 a1 v0 v1 v2)) K bq22 bq23 bq24:=by
  funext q18 q20 bq22 bq23 bq24;exact Aj (fun x=>(Nn a0 a1 q18 q20 x.1 x.2.1 x.2.2)) (fun L x=>by kernel_rfl) K (bq22,bq23,bq24)
theorem AdE (a0:Int×Int×Int) (a1:List tM):RM K a0 a1 (Ae (H4 K) 1)=fun bq18 bq19 bq20=>Dt K a0 a1 K bq18 bq19 bq20:=by
  funext bq18 bq19 bq20;refine Aj (fun x=>(Ez a0 a1 x.1 x.2.1 x.2.2)) (fun L x=>?_) K (bq18,bq19,bq20);exact .trans (b:=H5 K a0 a1 (RN K a0 a1 L bq18 bq19 bq20 (Ae (H4 K) 1)) (fun v0 v1 v2=>L (Ez a0 a1 v0 v1 v2)) x.1 x.2.1 x.2.2) (by kernel_rfl) (by rw[AdD]<;>rfl)
theorem AdF (a0:Int×Int×Int) (a1:List tM):rM (H4 K) Tryz.f161 (Wh K) (a0,a1,())=Ny K a0 a1 :=
  AA (n0:=1) (by rfl) (.trans (b:=TN K a0 a1 (RM K a0 a1 (Ae (H4 K) 1))) (by kernel_rfl) (by rw[AdE]<;>rfl))
theorem AlP (a0:Int×Int×Int) (F6:Fr→Option (List tV)) (bq7:Int) (bq8:List tV):AaU K a0 F6 bq7 bq8 (Ae (Pd K) 0)=fun q7 bq10 bq11=>Lg K a0 q7 (fun v0 v1=>F6 (HX a0 v0 v1)) K bq10 bq11:=by
  funext q7 bq10 bq11;exact Aj (fun x=>(Vz a0 q7 x.1 x.2)) (fun L x=>by kernel_rfl) K (bq10,bq11)
theorem AlQ (a0:Int×Int×Int):AaT K a0 (Ae (Pd K) 0)=fun bq7 bq8=>TO K a0 K bq7 bq8:=by
  funext bq7 bq8;refine Aj (fun x=>(HX a0 x.1 x.2)) (fun L x=>?_) K (bq7,bq8);exact .trans (b:=Lh K a0 (AaU K a0 L bq7 bq8 (Ae (Pd K) 0)) (fun v0 v1=>L (HX a0 v0 v1)) x.1 x.2) (by kernel_rfl) (by rw[AlP]<;>rfl)
theorem Ag8 (a0:Int×Int×Int):rM (Pd K) Tryz.f42 (Li K) (a0,())=Kb K a0 :=
  AA (n0:=0) (by rfl) (.trans (b:=AaR K a0 (AaT K a0 (Ae (Pd K) 0))) (by kernel_rfl) (by rw[AlQ]<;>rfl))
theorem Ag9 (a0:List tV) (a1:Int×Int):Wj K a0 a1 (Ae (Nz K) 1)=fun bq4=>Km K a0 a1 K bq4:=by
  funext bq4;exact Aj (fun x=>(Q8 a0 a1 x)) (fun L x=>by kernel_rfl) K bq4
theorem AdG (a0:List tV) (a1:Int×Int):rM (Nz K) Tryz.f117 (Wi K) (a0,a1,())=RO K a0 a1 :=
  AA (n0:=1) (by rfl) (.trans (b:=TP K a0 a1 (Wj K a0 a1 (Ae (Nz K) 1))) (by kernel_rfl) (by rw[Ag9]<;>rfl))
theorem AlR (a0:Int×Int×Int) (a1:List tM) (a2:Int×Int):AaY K a0 a1 a2 (Ae (YP K) 1)=fun bq5 bq6=>TQ K a0 a1 a2 K bq5 bq6:=by
  funext bq5 bq6;exact Aj (fun x=>(VA a0 a1 a2 x.1 x.2)) (fun L x=>by kernel_rfl) K (bq5,bq6)
theorem Aha (a0:Int×Int×Int) (a1:List tM) (a2:Int×Int):rM (YP K) Tryz.f61 (Afg K) (a0,a1,a2,())=AaX K a0 a1 a2 :=
  AA (n0:=1) (by rfl) (.trans (b:=AaW K a0 a1 a2 (AaY K a0 a1 a2 (Ae (YP K) 1))) (by kernel_rfl) (by rw[AlR]<;>rfl))
theorem Ahb (a0:Int×Int×Int) (a1:List tM):Wl K a0 a1 (Ae (NA K) 1)=fun y1 bq5 bq6=>Pg K a0 a1 y1 K bq5 bq6:=by
  funext y1 bq5 bq6;exact Aj (fun x=>(Q9 a0 a1 y1 x.1 x.2)) (fun L x=>by kernel_rfl) K (bq5,bq6)
theorem AdH (a0:Int×Int×Int) (a1:List tM):rM (NA K) Tryz.f234 (Wk K) (a0,a1,())=RP K a0 a1 :=
  AA (n0:=1) (by rfl) (.trans (b:=TR K a0 a1 (Wl K a0 a1 (Ae (NA K) 1))) (by kernel_rfl) (by rw[Ahb]<;>rfl))
theorem AdI (a0:Int×Int×Int) (a1:List tM) (y1:List (List tV)) (F9:Fr→Option (List Int)) (bq10:Int) (bq11:List Int):RQ K a0 a1 y1 F9 bq10 bq11 (Ae (H6 K) 1)=fun q10 bq13 bq14=>H7 K a0 a1 q10 y1 (fun v0 v1=>F9 (FR a0 a1 y1 v0 v1)) K bq13 bq14:=by
  funext q10 bq13 bq14;exact Aj (fun x=>(Np a0 a1 q10 y1 x.1 x.2)) (fun L x=>by kernel_rfl) K (bq13,bq14)
theorem Ahc (a0:Int×Int×Int) (a1:List tM):Wp K a0 a1 (Ae (H6 K) 1)=fun y1 bq10 bq11=>Wm K a0 a1 y1 K bq10 bq11:=by
  funext y1 bq10 bq11;refine Aj (fun x=>(FR a0 a1 y1 x.1 x.2)) (fun L x=>?_) K (bq10,bq11);exact .trans (b:=E0 K a0 a1 y1 (RQ K a0 a1 y1 L bq10 bq11 (Ae (H6 K) 1)) (fun v0 v1=>L (FR a0 a1 y1 v0 v1)) x.1 x.2) (by kernel_rfl) (by rw[AdI]<;>rfl)
theorem AdJ (a0:Int×Int×Int) (a1:List tM):rM (H6 K) Tryz.f162 (Wn K) (a0,a1,())=NB K a0 a1 :=
  AA (n0:=1) (by rfl) (.trans (b:=TS K a0 a1 (Wp K a0 a1 (Ae (H6 K) 1))) (by kernel_rfl) (by rw[Ahc]<;>rfl))
theorem Ahd (a0:(List Int)×Int×Int) (a1:Int) (a2:Int×Int×Int):Ws K a0 a1 a2 (Ae (D7 K) 1)=fun q9 q12 q21 q22 q23 q24 y1 y3 y15 y16 y17 bq28 bq29=>H8 K a0 a1 a2 q9 q12 q21 q22 q23 q24 y1 y3 y15 y16 y17 K bq28 bq29:=by
  funext q9 q12 q21 q22 q23 q24 y1 y3 y15 y16 y17 bq28 bq29;exact Aj (fun x=>(Ra a0 a1 a2 q9 q12 q21 q22 q23 q24 y1 y3 y15 y16 y17 x.1 x.2)) (fun L x=>by kernel_rfl) K (bq28,bq29)
theorem Ahe (a0:(List Int)×Int×Int) (a1:Int) (a2:Int×Int×Int):Wq K a0 a1 a2 (Ae (D7 K) 1)=fun q9 q12 y1 y3 y15 y16 y17 bq21 bq22 bq23 bq24=>H9 K a0 a1 a2 q9 q12 y1 y3 y15 y16 y17 K bq21 bq22 bq23 bq24:=by
  funext q9 q12 y1 y3 y15 y16 y17 bq21 bq22 bq23 bq24;refine Aj (fun x=>(K7 a0 a1 a2 q9 q12 y1 y3 y15 y16 y17 x.1 x.2.1 x.2.2.1 x.2.2.2)) (fun L x=>?_) K (bq21,bq22,bq23,bq24);exact .trans (b:=Kn K a0 a1 a2 q9 q12 y1 y3 y15 y16 y17 (Ws K a0 a1 a2 (Ae (D7 K) 1)) (fun v0 v1 v2 v3=>L (K7 a0 a1 a2 q9 q12 y1 y3 y15 y16 y17 v0 v1 v2 v3)) x.1 x.2.1 x.2.2.1 x.2.2.2) (by kernel_rfl) (by rw[Ahd]<;>rfl)
theorem AlS (a0:(List Int)×Int×Int) (a1:Int) (a2:Int×Int×Int):Aa2 K a0 a1 a2 (Ae (D7 K) 1)=fun y1 y2 y3 bq9 bq10 bq11 bq12=>Pk K a0 a1 a2 y1 y2 y3 K bq9 bq10 bq11 bq12:=by
  funext y1 y2 y3 bq9 bq10 bq11 bq12;refine Aj (fun x=>(O5 a0 a1 a2 y1 y2 y3 x.1 x.2.1 x.2.2.1 x.2.2.2)) (fun L x=>?_) K (bq9,bq10,bq11,bq12);exact .trans (b:=Pj K a0 a1 a2 y1 y2 y3 (Wq K a0 a1 a2 (Ae (D7 K) 1)) (fun v0 v1 v2 v3=>L (O5 a0 a1 a2 y1 y2 y3 v0 v1 v2 v3)) x.1 x.2.1 x.2.2.1 x.2.2.2) (by kernel_rfl) (by rw[Ahe]<;>rfl)
theorem Ahf (a0:(List Int)×Int×Int) (a1:Int) (a2:Int×Int×Int):Wt K a0 a1 a2 (Ae (D7 K) 1)=fun q39 q40 q41 q42 q43 y1 y2 y3 y30 y31 bq47 bq48=>Ia K a0 a1 a2 q39 q40 q41 q42 q43 y1 y2 y3 y30 y31 K bq47 bq48:=by
  funext q39 q40 q41 q42 q43 y1 y2 y3 y30 y31 bq47 bq48;exact Aj (fun x=>(Rb a0 a1 a2 q39 q40 q41 q42 q43 y1 y2 y3 y30 y31 x.1 x.2)) (fun L x=>by kernel_rfl) K (bq47,bq48)
theorem Ahg (a0:(List Int)×Int×Int) (a1:Int) (a2:Int×Int×Int):Wr K a0 a1 a2 (Ae (D7 K) 1)=fun y1 y2 y3 y30 y31 bq39 bq40 bq41 bq42 bq43=>Kp K a0 a1 a2 y1 y2 y3 y30 y31 K bq39 bq40 bq41 bq42 bq43:=by
  funext y1 y2 y3 y30 y31 bq39 bq40 bq41 bq42 bq43;refine Aj (fun x=>(K8 a0 a1 a2 y1 y2 y3 y30 y31 x.1 x.2.1 x.2.2.1 x.2.2.2.1 x.2.2.2.2)) (fun L x=>?_) K (bq39,bq40,bq41,bq42,bq43);exact .trans (b:=Ko K a0 a1 a2 y1 y2 y3 y30 y31 (Wt K a0 a1 a2 (Ae (D7 K) 1)) (fun v0 v1 v2 v3 v4=>L (K8 a0 a1 a2 y1 y2 y3 y30 y31 v0 v1 v2 v3 v4)) x.1 x.2.1 x.2.2.1 x.2.2.2.1 x.2.2.2.2) (by kernel_rfl) (by rw[Ahf]<;>rfl)
theorem Ahh (a0:(List Int)×Int×Int) (a1:Int) (a2:Int×Int×Int):YH (D7 K) Tryz.f77 5 (.int .u8) sV [(.ro,sI),(.ro,sL)] [(.cons sI (.cons sL (.list 2 sI)))] (a0,a1,a2,())=Aa1 K a0 a1 a2 :=
  AmP (n0:=1) (by rfl) (.trans (b:=Aa0 K a0 a1 a2 (Aa2 K a0 a1 a2 (Ae (D7 K) 1)) (Wr K a0 a1 a2 (Ae (D7 K) 1))) (by kernel_rfl) (by rw[AlS,Ahg]<;>rfl))
theorem Ahi (a0:List Int) (a1:(Int→Option Bool)):Wx K a0 a1 (Ae (NC K) 1)=fun bq4=>Pm K a0 a1 K bq4:=by
  funext bq4;exact Aj (fun x=>(Rc a0 a1 x)) (fun L x=>by kernel_rfl) K bq4
theorem AdK (a0:List Int) (a1:(Int→Option Bool)):rM (NC K) Tryz.f235 (Ww K) (a0,a1,())=Wv K a0 a1 :=
  AA (n0:=1) (by rfl) (.trans (b:=TT K a0 a1 (Wx K a0 a1 (Ae (NC K) 1))) (by kernel_rfl) (by rw[Ahi]<;>rfl))
theorem AlT (a0:Int×Int×Int) (F6:Fr→Option (List tV)) (bq7:Int) (bq8:List tV):Aba K a0 F6 bq7 bq8 (Ae (Po K) 0)=fun q7 bq10 bq11=>Lk K a0 q7 (fun v0 v1=>F6 (HY a0 v0 v1)) K bq10 bq11:=by
  funext q7 bq10 bq11;exact Aj (fun x=>(VC a0 q7 x.1 x.2)) (fun L x=>by kernel_rfl) K (bq10,bq11)
theorem AlU (a0:Int×Int×Int):Aa9 K a0 (Ae (Po K) 0)=fun bq7 bq8=>TV K a0 K bq7 bq8:=by
  funext bq7 bq8;refine Aj (fun x=>(HY a0 x.1 x.2)) (fun L x=>?_) K (bq7,bq8);exact .trans (b:=Ll K a0 (Aba K a0 L bq7 bq8 (Ae (Po K) 0)) (fun v0 v1=>L (HY a0 v0 v1)) x.1 x.2) (by kernel_rfl) (by rw[AlT]<;>rfl)
theorem Ahj (a0:Int×Int×Int):rM (Po K) Tryz.f39 (M1 K) (a0,())=Lm K a0 :=
  AA (n0:=0) (by rfl) (.trans (b:=Aa7 K a0 (Aa9 K a0 (Ae (Po K) 0))) (by kernel_rfl) (by rw[AlU]<;>rfl))
theorem AlV (a0:Int×tL×List Int) (a1:tA×Int×Int):Abf K a0 a1 (Ae (YS K) 1)=fun y1 bq6=>TX K a0 a1 y1 K bq6:=by
  funext y1 bq6;exact Aj (fun x=>(VD a0 a1 y1 x)) (fun L x=>by kernel_rfl) K bq6
theorem Ahk (a0:Int×tL×List Int) (a1:tA×Int×Int):rM (YS K) Tryz.f97 (Abe K) (a0,a1,())=YT K a0 a1 :=
  AA (n0:=1) (by rfl) (.trans (b:=Abd K a0 a1 (Abf K a0 a1 (Ae (YS K) 1))) (by kernel_rfl) (by rw[AlV]<;>rfl))
theorem Ahl (a0 a1:Int):WA K a0 a1 (Ae (NE K) 0)=fun bq3 bq4=>GM K K bq3 bq4:=by
  funext bq3 bq4;exact Aj (fun x=>(Re x.1 x.2)) (fun L x=>by kernel_rfl) K (bq3,bq4)
theorem AdL (a0 a1:Int):rM (NE K) Tryz.f166 (NF K) (a0,a1,())=Ic K a0 a1 :=
  AA (n0:=0) (by rfl) (.trans (b:=Abg K a0 a1 (WA K a0 a1 (Ae (NE K) 0))) (by kernel_rfl) (by rw[Ahl]<;>rfl))
theorem Ahm (a0:List tV) (F13:Fr→Option tL) (bq14 bq15 bq16 bq17:Int):WD K a0 F13 bq14 bq15 bq16 bq17 (Ae (Ps K) 1)=fun q14 q15 bq19 bq20 bq21 bq22=>GN K a0 q14 q15 (fun v0 v1 v2 v3=>F13 (FS a0 v0 v1 v2 v3)) K bq19 bq20 bq21 bq22:=by
  funext q14 q15 bq19 bq20 bq21 bq22;exact Aj (fun x=>(Rg a0 q14 q15 x.1 x.2.1 x.2.2.1 x.2.2.2)) (fun L x=>by kernel_rfl) K (bq19,bq20,bq21,bq22)
theorem Ahn (a0:List tV):WC K a0 (Ae (Ps K) 1)=fun bq14 bq15 bq16 bq17=>Pv K a0 K bq14 bq15 bq16 bq17:=by
  funext bq14 bq15 bq16 bq17;refine Aj (fun x=>(FS a0 x.1 x.2.1 x.2.2.1 x.2.2.2)) (fun L x=>?_) K (bq14,bq15,bq16,bq17);exact .trans (b:=Id K a0 (WD K a0 L bq14 bq15 bq16 bq17 (Ae (Ps K) 1)) (fun v0 v1 v2 v3=>L (FS a0 v0 v1 v2 v3)) x.1 x.2.1 x.2.2.1 x.2.2.2) (by kernel_rfl) (by rw[Ahm]<;>rfl)
theorem Aho (a0:List tV):rM (Ps K) Tryz.f85 (Abi K) (a0,())=Lo K a0 :=
  AA (n0:=1) (by rfl) (.trans (b:=Abh K a0 (WC K a0 (Ae (Ps K) 1))) (by kernel_rfl) (by rw[Ahn]<;>rfl))
theorem AlW (a0:Int×tL×List Int):Abl K a0 (Ae (YU K) 1)=fun y1 y2 bq7 bq8=>TY K a0 y1 y2 K bq7 bq8:=by
  funext y1 y2 bq7 bq8;exact Aj (fun x=>(VE a0 y1 y2 x.1 x.2)) (fun L x=>by kernel_rfl) K (bq7,bq8)
theorem Ahp (a0:Int×tL×List Int):rM (YU K) Tryz.f83 (Afw K) (a0,())=Abk K a0 :=
  AA (n0:=1) (by rfl) (.trans (b:=Abj K a0 (Abl K a0 (Ae (YU K) 1))) (by kernel_rfl) (by rw[AlW]<;>rfl))
theorem AlX (a0:Int×tL×List Int) (a1:Int×Int×Int):Abo K a0 a1 (Ae (YV K) 1)=fun y1 bq5 bq6=>TZ K a0 a1 y1 K bq5 bq6:=by
  funext y1 bq5 bq6;exact Aj (fun x=>(VF a0 a1 y1 x.1 x.2)) (fun L x=>by kernel_rfl) K (bq5,bq6)
theorem Ahq (a0:Int×tL×List Int) (a1:Int×Int×Int):rM (YV K) Tryz.f82 (Afx K) (a0,a1,())=Abn K a0 a1 :=
  AA (n0:=1) (by rfl) (.trans (b:=Abm K a0 a1 (Abo K a0 a1 (Ae (YV K) 1))) (by kernel_rfl) (by rw[AlX]<;>rfl))
theorem Ahr (a0:Int×tL×List Int) (a1:tA×Int×Int):WE K a0 a1 (Ae (YW K) 1)=fun y1 y4 y5 y6 bq11 bq12=>Py K a0 a1 y1 y4 y5 y6 K bq11 bq12:=by
  funext y1 y4 y5 y6 bq11 bq12;exact Aj (fun x=>(Rh a0 a1 y1 y4 y5 y6 x.1 x.2)) (fun L x=>by kernel_rfl) K (bq11,bq12)
theorem Ahs (a0:Int×tL×List Int) (a1:tA×Int×Int):rM (YW K) Tryz.f34 (Afz K) (a0,a1,())=Abr K a0 a1 :=
  AA (n0:=1) (by rfl) (.trans (b:=Abq K a0 a1 (WE K a0 a1 (Ae (YW K) 1))) (by kernel_rfl) (by rw[Ahr]<;>rfl))
theorem AlY (a0:List Int) (a1 a2 a3:Int):Abu K a0 a1 a2 a3 (Ae (YX K) 1)=fun bq4=>T1 K a0 a1 a2 a3 K bq4:=by
  funext bq4;exact Aj (fun x=>(VG a0 a1 a2 a3 x)) (fun L x=>by kernel_rfl) K bq4
theorem Aht (a0:List Int) (a1 a2 a3:Int):rM (YX K) Tryz.f91 (AfB K) (a0,a1,a2,a3,())=Abt K a0 a1 a2 a3 :=
  AA (n0:=1) (by rfl) (.trans (b:=Abs K a0 a1 a2 a3 (Abu K a0 a1 a2 a3 (Ae (YX K) 1))) (by kernel_rfl) (by rw[AlY]<;>rfl))
theorem Ahu (a0:Int×tL×List Int) (a1:tA×Int×Int):WF K a0 a1 (Ae (NH K) 1)=fun y1 bq7=>PA K a0 a1 y1 K bq7:=by
  funext y1 bq7;exact Aj (fun x=>(Ri a0 a1 y1 x)) (fun L x=>by kernel_rfl) K bq7
theorem AdM (a0:Int×tL×List Int) (a1:tA×Int×Int):rM (NH K) Tryz.f100 (RW K) (a0,a1,())=NI K a0 a1 :=
  AA (n0:=1) (by rfl) (.trans (b:=T2 K a0 a1 (WF K a0 a1 (Ae (NH K) 1))) (by kernel_rfl) (by rw[Ahu]<;>rfl))
theorem AlZ (a0:Int×tL×List Int):Aby K a0 (Ae (YZ K) 1)=fun y1 bq7 bq8=>T3 K a0 y1 K bq7 bq8:=by
  funext y1 bq7 bq8;exact Aj (fun x=>(VH a0 y1 x.1 x.2)) (fun L x=>by kernel_rfl) K (bq7,bq8)
theorem Ahv (a0:Int×tL×List Int):rM (YZ K) Tryz.f95 (AfE K) (a0,())=Abx K a0 :=
  AA (n0:=1) (by rfl) (.trans (b:=Abw K a0 (Aby K a0 (Ae (YZ K) 1))) (by kernel_rfl) (by rw[AlZ]<;>rfl))
theorem Al0 (a0:Int×tL×List Int) (a1:Int×Int×Int):AbB K a0 a1 (Ae (Y0 K) 1)=fun y1 bq5 bq6=>T4 K a0 a1 y1 K bq5 bq6:=by
  funext y1 bq5 bq6;exact Aj (fun x=>(VI a0 a1 y1 x.1 x.2)) (fun L x=>by kernel_rfl) K (bq5,bq6)
theorem Ahw (a0:Int×tL×List Int) (a1:Int×Int×Int):rM (Y0 K) Tryz.f94 (AfF K) (a0,a1,())=AbA K a0 a1 :=
  AA (n0:=1) (by rfl) (.trans (b:=Abz K a0 a1 (AbB K a0 a1 (Ae (Y0 K) 1))) (by kernel_rfl) (by rw[Al0]<;>rfl))
theorem Al1 (a0:Int×tL×List Int) (a1:tA×Int×Int):AbE K a0 a1 (Ae (Y2 K) 1)=fun y1 y2 bq7 bq8=>T5 K a0 a1 y1 y2 K bq7 bq8:=by
  funext y1 y2 bq7 bq8;exact Aj (fun x=>(VJ a0 a1 y1 y2 x.1 x.2)) (fun L x=>by kernel_rfl) K (bq7,bq8)
theorem Ahx (a0:Int×tL×List Int) (a1:tA×Int×Int):rM (Y2 K) Tryz.f36 (AfH K) (a0,a1,())=AbD K a0 a1 :=
  AA (n0:=1) (by rfl) (.trans (b:=AbC K a0 a1 (AbE K a0 a1 (Ae (Y2 K) 1))) (by kernel_rfl) (by rw[Al1]<;>rfl))
theorem Ahy (a0:Int):WI K a0 (Ae (NJ K) 0)=fun bq9 bq10=>WG K a0 K bq9 bq10:=by
  funext bq9 bq10;exact Aj (fun x=>(Rj a0 x.1 x.2)) (fun L x=>by kernel_rfl) K (bq9,bq10)
theorem AdN (a0:Int):rM (NJ K) Tryz.f178 (WH K) (a0,())=NK K a0 :=
  AA (n0:=0) (by rfl) (.trans (b:=AbG K a0 (WI K a0 (Ae (NJ K) 0))) (by kernel_rfl) (by rw[Ahy]<;>rfl))
theorem Ahz (a0:List tA) (a1:(tA→Option Bool)):WM K a0 a1 (Ae (NL K) 1)=fun bq4=>PE K a0 a1 K bq4:=by
  funext bq4;exact Aj (fun x=>(Rk a0 a1 x)) (fun L x=>by kernel_rfl) K bq4
theorem AdO (a0:List tA) (a1:(tA→Option Bool)):rM (NL K) Tryz.f236 (WL K) (a0,a1,())=RX K a0 a1 :=
  AA (n0:=1) (by rfl) (.trans (b:=T6 K a0 a1 (WM K a0 a1 (Ae (NL K) 1))) (by kernel_rfl) (by rw[Ahz]<;>rfl))
theorem AhA (a0:List tA) (a1:(tA→Option Bool)):WO K a0 a1 (Ae (NM K) 1)=fun y1 bq5 bq6 bq7=>PF K a1 y1 K bq5 bq6 bq7:=by
  funext y1 bq5 bq6 bq7;exact Aj (fun x=>(Rm a1 y1 x.1 x.2.1 x.2.2)) (fun L x=>by kernel_rfl) K (bq5,bq6,bq7)
theorem AdP (a0:List tA) (a1:(tA→Option Bool)):rM (NM K) Tryz.f177 (WN K) (a0,a1,())=RY K a0 a1 :=
  AA (n0:=1) (by rfl) (.trans (b:=T7 K a0 a1 (WO K a0 a1 (Ae (NM K) 1))) (by kernel_rfl) (by rw[AhA]<;>rfl))
theorem AhB (a0:Int×tL×List Int) (y1:List tA) (F10:Fr→Option (List tM)) (bq11:Int) (bq12:List tM):WR K a0 y1 F10 bq11 bq12 (Ae (PG K) 1)=fun q11 y13 bq15 bq16=>Ie K a0 q11 y1 y13 (fun v0 v1=>F10 (FT a0 y1 v0 v1)) K bq15 bq16:=by
  funext q11 y13 bq15 bq16;exact Aj (fun x=>(Rn a0 q11 y1 y13 x.1 x.2)) (fun L x=>by kernel_rfl) K (bq15,bq16)
theorem AhC (a0:Int×tL×List Int):WQ K a0 (Ae (PG K) 1)=fun y1 bq11 bq12=>PH K a0 y1 K bq11 bq12:=by
  funext y1 bq11 bq12;refine Aj (fun x=>(FT a0 y1 x.1 x.2)) (fun L x=>?_) K (bq11,bq12);exact .trans (b:=Ig K a0 y1 (WR K a0 y1 L bq11 bq12 (Ae (PG K) 1)) (fun v0 v1=>L (FT a0 y1 v0 v1)) x.1 x.2) (by kernel_rfl) (by rw[AhB]<;>rfl)
theorem AhD (a0:Int×tL×List Int):rM (PG K) Tryz.f38 (T8 K) (a0,())=RZ K a0 :=
  AA (n0:=1) (by rfl) (.trans (b:=AbI K a0 (WQ K a0 (Ae (PG K) 1))) (by kernel_rfl) (by rw[AhC]<;>rfl))
theorem Al2 (a0:Int×Int×Int) (a1:List tM) (a2:Int×Int):AbL K a0 a1 a2 (Ae (Y3 K) 1)=fun bq4 bq5=>T9 K a0 a1 a2 K bq4 bq5:=by
  funext bq4 bq5;exact Aj (fun x=>(VK a0 a1 a2 x.1 x.2)) (fun L x=>by kernel_rfl) K (bq4,bq5)
theorem AhE (a0:Int×Int×Int) (a1:List tM) (a2:Int×Int):rM (Y3 K) Tryz.f40 (Y4 K) (a0,a1,a2,())=Ua K a0 a1 a2 :=
  AA (n0:=1) (by rfl) (.trans (b:=AbK K a0 a1 a2 (AbL K a0 a1 a2 (Ae (Y3 K) 1))) (by kernel_rfl) (by rw[Al2]<;>rfl))
theorem Ao4 (a0:Int×tL×List Int):AjT K a0 (Ae (f9E K) 1)=fun y1 y2 y3 y4 bq8 bq9 bq10 bq11=>AbM K a0 y1 y2 y3 y4 K bq8 bq9 bq10 bq11:=by
  funext y1 y2 y3 y4 bq8 bq9 bq10 bq11;exact Aj (fun x=>(Aay a0 y1 y2 y3 y4 x.1 x.2.1 x.2.2.1 x.2.2.2)) (fun L x=>by kernel_rfl) K (bq8,bq9,bq10,bq11)
theorem Al3 (a0:Int×tL×List Int):rM (f9E K) Tryz.f9 (f9M K) (a0,())=f9G K a0 :=
  AA (n0:=1) (by rfl) (.trans (b:=Ald K a0 (AjT K a0 (Ae (f9E K) 1))) (by kernel_rfl) (by rw[Ao4]<;>rfl))
theorem AhF (a0:Int×tL×List Int) (y1:List tA) (y2:List tV) (F10:Fr→Option (List tM)) (bq11:Int) (bq12:List tM):WV K a0 y1 y2 F10 bq11 bq12 (Ae (PJ K) 1)=fun q11 bq14 bq15=>Ih K a0 q11 y1 y2 (fun v0 v1=>F10 (FU a0 y1 y2 v0 v1)) K bq14 bq15:=by
  funext q11 bq14 bq15;exact Aj (fun x=>(Ro a0 q11 y1 y2 x.1 x.2)) (fun L x=>by kernel_rfl) K (bq14,bq15)
theorem AhG (a0:Int×tL×List Int):WU K a0 (Ae (PJ K) 1)=fun y1 y2 bq11 bq12=>PK K a0 y1 y2 K bq11 bq12:=by
  funext y1 y2 bq11 bq12;refine Aj (fun x=>(FU a0 y1 y2 x.1 x.2)) (fun L x=>?_) K (bq11,bq12);exact .trans (b:=Ii K a0 y1 y2 (WV K a0 y1 y2 L bq11 bq12 (Ae (PJ K) 1)) (fun v0 v1=>L (FU a0 y1 y2 v0 v1)) x.1 x.2) (by kernel_rfl) (by rw[AhF]<;>rfl)
theorem AhH (a0:Int×tL×List Int):rM (PJ K) Tryz.f41 (AbO K) (a0,())=Y5 K a0 :=
  AA (n0:=1) (by rfl) (.trans (b:=AbN K a0 (WU K a0 (Ae (PJ K) 1))) (by kernel_rfl) (by rw[AhG]<;>rfl))
theorem Al4 (a0:Int×Int×Int) (a1:List tM) (a2:Int×Int):AbR K a0 a1 a2 (Ae (Y6 K) 1)=fun bq4 bq5=>Ub K a0 a1 a2 K bq4 bq5:=by
  funext bq4 bq5;exact Aj (fun x=>(VL a0 a1 a2 x.1 x.2)) (fun L x=>by kernel_rfl) K (bq4,bq5)
theorem AhI (a0:Int×Int×Int) (a1:List tM) (a2:Int×Int):rM (Y6 K) Tryz.f43 (AbQ K) (a0,a1,a2,())=Uc K a0 a1 a2 :=
  AA (n0:=1) (by rfl) (.trans (b:=AbP K a0 a1 a2 (AbR K a0 a1 a2 (Ae (Y6 K) 1))) (by kernel_rfl) (by rw[Al4]<;>rfl))
theorem Al5 (a0:Int×tL×List Int):AbU K a0 (Ae (Y7 K) 1)=fun y1 y2 y3 y4 bq8 bq9 bq10 bq11=>Ud K a0 y1 y2 y3 y4 K bq8 bq9 bq10 bq11:=by
  funext y1 y2 y3 y4 bq8 bq9 bq10 bq11;exact Aj (fun x=>(VM a0 y1 y2 y3 y4 x.1 x.2.1 x.2.2.1 x.2.2.2)) (fun L x=>by kernel_rfl) K (bq8,bq9,bq10,bq11)
theorem AhJ (a0:Int×tL×List Int):rM (Y7 K) Tryz.f10 (AfP K) (a0,())=AbT K a0 :=
  AA (n0:=1) (by rfl) (.trans (b:=AbS K a0 (AbU K a0 (Ae (Y7 K) 1))) (by kernel_rfl) (by rw[Al5]<;>rfl))
theorem AhK (a0:Int×tL×List Int) (a1:Int) (y1:Bool) (y2:Int×tL×List Int) (y3:List tM) (y4:List tV) (F10:Fr→Option ((List tV)×Int)) (bq11:Int) (bq12:List tV):WY K a0 a1 y1 y2 y3 y4 F10 bq11 bq12 (Ae (PP K) 1)=fun q11 q12 y13 bq18=>Ij K a0 a1 q11 q12 y1 y2 y3 y4 y13 (fun v0 v1=>F10 (FV a0 a1 y1 y2 y3 y4 v0 v1)) K bq18:=by
  funext q11 q12 y13 bq18;exact Aj (fun x=>(Rp a0 a1 q11 q12 y1 y2 y3 y4 y13 x)) (fun L x=>by kernel_rfl) K bq18
theorem AhL (a0:Int×tL×List Int) (a1:Int):WX K a0 a1 (Ae (PP K) 1)=fun y1 y2 y3 y4 bq11 bq12=>PQ K a0 a1 y1 y2 y3 y4 K bq11 bq12:=by
  funext y1 y2 y3 y4 bq11 bq12;refine Aj (fun x=>(FV a0 a1 y1 y2 y3 y4 x.1 x.2)) (fun L x=>?_) K (bq11,bq12);exact .trans (b:=Ik K a0 a1 y1 y2 y3 y4 (WY K a0 a1 y1 y2 y3 y4 L bq11 bq12 (Ae (PP K) 1)) (fun v0 v1=>L (FV a0 a1 y1 y2 y3 y4 v0 v1)) x.1 x.2) (by kernel_rfl) (by rw[AhK]<;>rfl)
theorem AhM (a0:Int×tL×List Int) (a1:Int):rM (PP K) Tryz.f12 (AfS K) (a0,a1,())=AbW K a0 a1 :=
  AA (n0:=1) (by rfl) (.trans (b:=AbV K a0 a1 (WX K a0 a1 (Ae (PP K) 1))) (by kernel_rfl) (by rw[AhL]<;>rfl))
theorem Al6 (a0:List Int) (a1:Int):AbZ K a0 a1 (Ae (Y8 K) 1)=fun bq3=>Ue K a0 a1 K bq3:=by
  funext bq3;exact Aj (fun x=>(VN a0 a1 x)) (fun L x=>by kernel_rfl) K bq3
theorem AhN (a0:List Int) (a1:Int):rM (Y8 K) Tryz.f48 (AfU K) (a0,a1,())=AbY K a0 a1 :=
  AA (n0:=1) (by rfl) (.trans (b:=AbX K a0 a1 (AbZ K a0 a1 (Ae (Y8 K) 1))) (by kernel_rfl) (by rw[Al6]<;>rfl))
theorem AhO (a0:Int×Int×Int×Int):W3 K a0 (Ae (NN K) 0)=fun bq7 bq8 bq9 bq10 bq11=>W0 K a0 K bq7 bq8 bq9 bq10 bq11:=by
  funext bq7 bq8 bq9 bq10 bq11;exact Aj (fun x=>(Rq a0 x.1 x.2.1 x.2.2.1 x.2.2.2.1 x.2.2.2.2)) (fun L x=>by kernel_rfl) K (bq7,bq8,bq9,bq10,bq11)
theorem AdQ (a0:Int×Int×Int×Int):rM (NN K) Tryz.f104 (W2 K) (a0,())=W1 K a0 :=
  AA (n0:=0) (by rfl) (.trans (b:=Ab1 K a0 (W3 K a0 (Ae (NN K) 0))) (by kernel_rfl) (by rw[AhO]<;>rfl))
theorem AhP (a0:Int×tL×List Int) (a1:Int):W4 K a0 a1 (Ae (M3 K) 1)=fun q9 q10 y1 y2 y3 y4 y5 bq15 bq16=>GO K a0 a1 q9 q10 y1 y2 y3 y4 y5 K bq15 bq16:=by
  funext q9 q10 y1 y2 y3 y4 y5 bq15 bq16;exact Aj (fun x=>(Rr a0 a1 q9 q10 y1 y2 y3 y4 y5 x.1 x.2)) (fun L x=>by kernel_rfl) K (bq15,bq16)
theorem Al7 (a0:Int×tL×List Int) (a1:Int):Ab5 K a0 a1 (Ae (M3 K) 1)=fun y1 y2 y3 y4 y5 bq9 bq10=>Uf K a0 a1 y1 y2 y3 y4 y5 K bq9 bq10:=by
  funext y1 y2 y3 y4 y5 bq9 bq10;refine Aj (fun x=>(O6 a0 a1 y1 y2 y3 y4 y5 x.1 x.2)) (fun L x=>?_) K (bq9,bq10);exact .trans (b:=Lq K a0 a1 y1 y2 y3 y4 y5 (W4 K a0 a1 (Ae (M3 K) 1)) (fun v0 v1=>L (O6 a0 a1 y1 y2 y3 y4 y5 v0 v1)) x.1 x.2) (by kernel_rfl) (by rw[AhP]<;>rfl)
theorem AhQ (a0:Int×tL×List Int) (a1:Int):rM (M3 K) Tryz.f13 (Ab4 K) (a0,a1,())=Ab3 K a0 a1 :=
  AA (n0:=1) (by rfl) (.trans (b:=Ab2 K a0 a1 (Ab5 K a0 a1 (Ae (M3 K) 1))) (by kernel_rfl) (by rw[Al7]<;>rfl))
theorem Al8 (a0 a1:List Int):Ab8 K a0 a1 (Ae (Za K) 2)=fun bq3=>Ug K a0 a1 K bq3:=by
  funext bq3;exact Aj (fun x=>(VO a0 a1 x)) (fun L x=>by kernel_rfl) K bq3
theorem AhR (a0 a1:List Int):rM (Za K) Tryz.f50 (AfY K) (a0,a1,())=Ab7 K a0 a1 :=
  AA (n0:=2) (by rfl) (.trans (b:=Ab6 K a0 a1 (Ab8 K a0 a1 (Ae (Za K) 2))) (by kernel_rfl) (by rw[Al8]<;>rfl))
theorem Al9 (a0 a1:List tV):Acb K a0 a1 (Ae (Zb K) 2)=fun bq3=>Uh K a0 a1 K bq3:=by
  funext bq3;exact Aj (fun x=>(VP a0 a1 x)) (fun L x=>by kernel_rfl) K bq3
theorem AhS (a0 a1:List tV):rM (Zb K) Tryz.f15 (Af0 K) (a0,a1,())=Aca K a0 a1 :=
  AA (n0:=2) (by rfl) (.trans (b:=Ab9 K a0 a1 (Acb K a0 a1 (Ae (Zb K) 2))) (by kernel_rfl) (by rw[Al9]<;>rfl))
theorem AhT (a0 a1:List Int):W6 K a0 a1 (Ae (NO K) 2)=fun bq3=>PU K a0 a1 K bq3:=by
  funext bq3;exact Aj (fun x=>(Rs a0 a1 x)) (fun L x=>by kernel_rfl) K bq3
theorem AdR (a0 a1:List Int):rM (NO K) Tryz.f105 (W5 K) (a0,a1,())=R0 K a0 a1 :=
  AA (n0:=2) (by rfl) (.trans (b:=Ui K a0 a1 (W6 K a0 a1 (Ae (NO K) 2))) (by kernel_rfl) (by rw[AhT]<;>rfl))
theorem AhU (a0:List tM):W8 K a0 (Ae (NP K) 1)=fun bq5 bq6=>PV K a0 K bq5 bq6:=by
  funext bq5 bq6;exact Aj (fun x=>(Rt a0 x.1 x.2)) (fun L x=>by kernel_rfl) K (bq5,bq6)
theorem AdS (a0:List tM):rM (NP K) Tryz.f123 (W7 K) (a0,())=R1 K a0 :=
  AA (n0:=1) (by rfl) (.trans (b:=Uj K a0 (W8 K a0 (Ae (NP K) 1))) (by kernel_rfl) (by rw[AhU]<;>rfl))
theorem AhV (a0 a1:List Int):Xb K a0 a1 (Ae (NQ K) 2)=fun bq3=>W9 K a0 a1 K bq3:=by
  funext bq3;exact Aj (fun x=>(Ru a0 a1 x)) (fun L x=>by kernel_rfl) K bq3
theorem AdT (a0 a1:List Int):rM (NQ K) Tryz.f196 (Xa K) (a0,a1,())=Acf K a0 a1 :=
  AA (n0:=2) (by rfl) (.trans (b:=Ace K a0 a1 (Xb K a0 a1 (Ae (NQ K) 2))) (by kernel_rfl) (by rw[AhV]<;>rfl))
theorem AhW (a0:Int×Int×Int) (a1:Int×Int):Xd K a0 a1 (Ae (NR K) 0)=fun bq5 bq6=>Ea K a0 a1 K bq5 bq6:=by
  funext bq5 bq6;exact Aj (fun x=>(Rv a0 a1 x.1 x.2)) (fun L x=>by kernel_rfl) K (bq5,bq6)
theorem AdU (a0:Int×Int×Int) (a1:Int×Int):rM (NR K) Tryz.f124 (R4 K) (a0,a1,())=Hh K a0 a1 :=
  AA (n0:=0) (by rfl) (.trans (b:=PW K a0 a1 (Xd K a0 a1 (Ae (NR K) 0))) (by kernel_rfl) (by rw[AhW]<;>rfl))
theorem AhX (a0:Int) (F6:Fr→Option (List tV)) (bq7:Int) (bq8:List tV):Xl K a0 F6 bq7 bq8 (Ae (Im K) 0)=fun q7 bq10 bq11=>Xe K a0 q7 (fun v0 v1=>F6 (FW a0 v0 v1)) K bq10 bq11:=by
  funext q7 bq10 bq11;exact Aj (fun x=>(Rw a0 q7 x.1 x.2)) (fun L x=>by kernel_rfl) K (bq10,bq11)
theorem AhY (a0:Int):Xk K a0 (Ae (Im K) 0)=fun bq7 bq8=>Xg K a0 K bq7 bq8:=by
  funext bq7 bq8;refine Aj (fun x=>(FW a0 x.1 x.2)) (fun L x=>?_) K (bq7,bq8);exact .trans (b:=Xf K a0 (Xl K a0 L bq7 bq8 (Ae (Im K) 0)) (fun v0 v1=>L (FW a0 v0 v1)) x.1 x.2) (by kernel_rfl) (by rw[AhX]<;>rfl)
theorem AdV (a0:Int):rM (Im K) Tryz.f203 (Xi K) (a0,())=Xh K a0 :=
  AA (n0:=0) (by rfl) (.trans (b:=Ach K a0 (Xk K a0 (Ae (Im K) 0))) (by kernel_rfl) (by rw[AhY]<;>rfl))
theorem AhZ (a0:Int) (a1:Int×Int×Int):Xn K a0 a1 (Ae (NS K) 0)=fun y1 bq10 bq11 bq12=>PX K a0 a1 y1 K bq10 bq11 bq12:=by
  funext y1 bq10 bq11 bq12;exact Aj (fun x=>(Rx a0 a1 y1 x.1 x.2.1 x.2.2)) (fun L x=>by kernel_rfl) K (bq10,bq11,bq12)
theorem AdW (a0:Int) (a1:Int×Int×Int):rM (NS K) Tryz.f126 (Xm K) (a0,a1,())=R5 K a0 a1 :=
  AA (n0:=0) (by rfl) (.trans (b:=Uk K a0 a1 (Xn K a0 a1 (Ae (NS K) 0))) (by kernel_rfl) (by rw[AhZ]<;>rfl))
theorem Ah0 (a0:List tV) (a1:Int×Int):Xq K a0 a1 (Ae (NT K) 1)=fun bq3=>KD K a0 a1 K bq3:=by
  funext bq3;exact Aj (fun x=>(Ry a0 a1 x)) (fun L x=>by kernel_rfl) K bq3
theorem AdX (a0:List tV) (a1:Int×Int):rM (NT K) Tryz.f205 (Xp K) (a0,a1,())=Xo K a0 a1 :=
  AA (n0:=1) (by rfl) (.trans (b:=Aci K a0 a1 (Xq K a0 a1 (Ae (NT K) 1))) (by kernel_rfl) (by rw[Ah0]<;>rfl))
theorem Ah1 (a0:Int) (a1:Int×Int×Int) (a2:List tM):Xt K a0 a1 a2 (Ae (Zc K) 1)=fun y1 bq16 bq17 bq18 bq19 bq20=>PZ K a0 a1 a2 y1 K bq16 bq17 bq18 bq19 bq20:=by
  funext y1 bq16 bq17 bq18 bq19 bq20;exact Aj (fun x=>(Rz a0 a1 a2 y1 x.1 x.2.1 x.2.2.1 x.2.2.2.1 x.2.2.2.2)) (fun L x=>by kernel_rfl) K (bq16,bq17,bq18,bq19,bq20)
theorem Ah2 (a0:Int) (a1:Int×Int×Int) (a2:List tM):rM (Zc K) Tryz.f65 (Agc K) (a0,a1,a2,())=Ack K a0 a1 a2 :=
  AA (n0:=1) (by rfl) (.trans (b:=Acj K a0 a1 a2 (Xt K a0 a1 a2 (Ae (Zc K) 1))) (by kernel_rfl) (by rw[Ah1]<;>rfl))
theorem Ah3 (a0:List ByteArray) (a1:ByteArray):Xw K a0 a1 (Ae (NW K) 1)=fun bq3=>Xu K a0 a1 K bq3:=by
  funext bq3;exact Aj (fun x=>(RA a0 a1 x)) (fun L x=>by kernel_rfl) K bq3
theorem AdY (a0:List ByteArray) (a1:ByteArray):rM (NW K) Tryz.f201 (Xv K) (a0,a1,())=Acm K a0 a1 :=
  AA (n0:=1) (by rfl) (.trans (b:=Acl K a0 a1 (Xw K a0 a1 (Ae (NW K) 1))) (by kernel_rfl) (by rw[Ah3]<;>rfl))
end Go.Proofs.YteheolldcpjkcaaGreatDoor.X
