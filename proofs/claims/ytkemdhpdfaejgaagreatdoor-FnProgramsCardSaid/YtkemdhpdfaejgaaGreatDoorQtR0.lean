/- Functions of the program as plain Lean functions, and that the program does what they say. Printed by gen.py. -/
import Derived.Test.YtkemdhpdfaejgaaGreatDoorQtD1
namespace Go.Proofs.YtkemdhpdfaejgaaGreatDoor.X
open Go
set_option maxRecDepth 100000
attribute [local instance] cwD
set_option linter.unusedVariables false
variable (K:Nat)
include K
theorem Au9 (a0:List Int):Ahq K a0 (Ac (Aho K) 1)=fun bq3 bq4=>YJ K a0 K bq3 bq4:=by
  funext bq3 bq4;exact Ae (fun x=>(Aa8 a0 x.1 x.2)) (fun L x=>by kernel_rfl) K (bq3,bq4)
theorem Apt (a0:List Int):Ae5 (Aho K) Tryz.f19 5 (.int .u8) sV [] (a0,())=Ae8 K a0 :=
  AwR (n0:=1) (by rfl) (.trans (b:=Ahp K a0 (Ahq K a0 (Ac (Aho K) 1))) (by kernel_rfl) (by rw[Au9]<;>rfl))
theorem Apu (a0:Int):AbE K a0 (Ac (QH K) 0)=fun bq4 bq5=>AbC K a0 K bq4 bq5:=by
  funext bq4 bq5;exact Ae (fun x=>(Vi a0 x.1 x.2)) (fun L x=>by kernel_rfl) K (bq4,bq5)
theorem AkU (a0:Int):rM (QH K) Tryz.f138 (AbD K) (a0,())=QI K a0 :=
  Az (n0:=0) (by rfl) (.trans (b:=Ahv K a0 (AbE K a0 (Ac (QH K) 0))) (by kernel_rfl) (by rw[Apu]<;>rfl))
omit K
theorem AkV (K:Nat) (rec:Int→Int→Option Int) (a0 a1:Int):ST (AsN K rec) Tryz.f175 [(.ro,sI),(.ro,sI)] [sI] (a0,a1,())=K1 K rec a0 a1:=by kernel_rfl
include K
theorem AkW (a0:List tV) (F10:Fr→Option tL) (bq11 bq12 bq13 bq14:Int):V1 K a0 F10 bq11 bq12 bq13 bq14 (Ac (JM K) 1)=fun q11 q12 bq16 bq17 bq18 bq19=>FE K a0 q11 q12 (fun v0 v1 v2 v3=>F10 (FB a0 v0 v1 v2 v3)) K bq16 bq17 bq18 bq19:=by
  funext q11 q12 bq16 bq17 bq18 bq19;exact Ae (fun x=>(QB a0 q11 q12 x.1 x.2.1 x.2.2.1 x.2.2.2)) (fun L x=>by kernel_rfl) K (bq16,bq17,bq18,bq19)
theorem AkX (a0:List tV):V0 K a0 (Ac (JM K) 1)=fun bq11 bq12 bq13 bq14=>N3 K a0 K bq11 bq12 bq13 bq14:=by
  funext bq11 bq12 bq13 bq14;refine Ae (fun x=>(FB a0 x.1 x.2.1 x.2.2.1 x.2.2.2)) (fun L x=>?_) K (bq11,bq12,bq13,bq14);exact .trans (b:=Hp K a0 (V1 K a0 L bq11 bq12 bq13 bq14 (Ac (JM K) 1)) (fun v0 v1 v2 v3=>L (FB a0 v0 v1 v2 v3)) x.1 x.2.1 x.2.2.1 x.2.2.2) (by kernel_rfl) (by rw[AkW]<;>rfl)
theorem AkY (a0:List tV):rM (JM K) Tryz.f134 (VY K) (a0,())=IQ K a0 :=
  Az (n0:=1) (by rfl) (.trans (b:=YL K a0 (V0 K a0 (Ac (JM K) 1))) (by kernel_rfl) (by rw[AkX]<;>rfl))
theorem Ava (a0:Int) (a1:Int×Int×Int):AhD K a0 a1 (Ac (Ae9 K) 0)=fun y1 bq5 bq6=>YM K a0 a1 y1 K bq5 bq6:=by
  funext y1 bq5 bq6;exact Ae (fun x=>(Aba a0 a1 y1 x.1 x.2)) (fun L x=>by kernel_rfl) K (bq5,bq6)
theorem Apv (a0:Int) (a1:Int×Int×Int):rM (Ae9 K) Tryz.f84 (AhC K) (a0,a1,())=Afa K a0 a1 :=
  Az (n0:=0) (by rfl) (.trans (b:=AhB K a0 a1 (AhD K a0 a1 (Ac (Ae9 K) 0))) (by kernel_rfl) (by rw[Ava]<;>rfl))
theorem Apw (a0 a1:List Int):AbJ K a0 a1 (Ac (QL K) 2)=fun bq3=>JN K a0 a1 K bq3:=by
  funext bq3;exact Ae (fun x=>(Vj a0 a1 x)) (fun L x=>by kernel_rfl) K bq3
theorem AkZ (a0 a1:List Int):rM (QL K) Tryz.f243 (AbI K) (a0,a1,())=AbH K a0 a1 :=
  Az (n0:=2) (by rfl) (.trans (b:=YN K a0 a1 (AbJ K a0 a1 (Ac (QL K) 2))) (by kernel_rfl) (by rw[Apw]<;>rfl))
theorem Apx (a0:List tM) (a1:tA×Int×Int):AbL K a0 a1 (Ac (QM K) 1)=fun bq7 bq8=>H8 K a0 a1 K bq7 bq8:=by
  funext bq7 bq8;exact Ae (fun x=>(Vk a0 a1 x.1 x.2)) (fun L x=>by kernel_rfl) K (bq7,bq8)
theorem Ak0 (a0:List tM) (a1:tA×Int×Int):rM (QM K) Tryz.f108 (V4 K) (a0,a1,())=QN K a0 a1 :=
  Az (n0:=1) (by rfl) (.trans (b:=SZ K a0 a1 (AbL K a0 a1 (Ac (QM K) 1))) (by kernel_rfl) (by rw[Apx]<;>rfl))
theorem Apy (a0:Int×Int×Int) (a1:List tM) (F17:Fr→Option (List tM)) (bq18:Int) (bq19 bq20:List tM):AbO K a0 a1 F17 bq18 bq19 bq20 (Ac (S0 K) 1)=fun q18 q20 bq22 bq23 bq24=>De K a0 a1 q18 q20 (fun v0 v1 v2=>F17 (Hk a0 a1 v0 v1 v2)) K bq22 bq23 bq24:=by
  funext q18 q20 bq22 bq23 bq24;exact Ae (fun x=>(Vl a0 a1 q18 q20 x.1 x.2.1 x.2.2)) (fun L x=>by kernel_rfl) K (bq22,bq23,bq24)
theorem Apz (a0:Int×Int×Int) (a1:List tM):AbN K a0 a1 (Ac (S0 K) 1)=fun bq18 bq19 bq20=>BL K a0 a1 K bq18 bq19 bq20:=by
  funext bq18 bq19 bq20;refine Ae (fun x=>(Hk a0 a1 x.1 x.2.1 x.2.2)) (fun L x=>?_) K (bq18,bq19,bq20);exact .trans (b:=E1 K a0 a1 (AbO K a0 a1 L bq18 bq19 bq20 (Ac (S0 K) 1)) (fun v0 v1 v2=>L (Hk a0 a1 v0 v1 v2)) x.1 x.2.1 x.2.2) (by kernel_rfl) (by rw[Apy]<;>rfl)
theorem ApA (a0:Int×Int×Int) (a1:List tM):rM (S0 K) Tryz.f23 (V5 K) (a0,a1,())=FG K a0 a1 :=
  Az (n0:=1) (by rfl) (.trans (b:=AhJ K a0 a1 (AbN K a0 a1 (Ac (S0 K) 1))) (by kernel_rfl) (by rw[Apz]<;>rfl))
theorem Avb (a0:Int×Int×Int) (F6:Fr→Option (List tV)) (bq7:Int) (bq8:List tV):AhN K a0 F6 bq7 bq8 (Ac (S1 K) 0)=fun q7 bq10 bq11=>N4 K a0 q7 (fun v0 v1=>F6 (JF a0 v0 v1)) K bq10 bq11:=by
  funext q7 bq10 bq11;exact Ae (fun x=>(Abb a0 q7 x.1 x.2)) (fun L x=>by kernel_rfl) K (bq10,bq11)
theorem Avc (a0:Int×Int×Int):AhM K a0 (Ac (S1 K) 0)=fun bq7 bq8=>YO K a0 K bq7 bq8:=by
  funext bq7 bq8;refine Ae (fun x=>(JF a0 x.1 x.2)) (fun L x=>?_) K (bq7,bq8);exact .trans (b:=N5 K a0 (AhN K a0 L bq7 bq8 (Ac (S1 K) 0)) (fun v0 v1=>L (JF a0 v0 v1)) x.1 x.2) (by kernel_rfl) (by rw[Avb]<;>rfl)
theorem ApB (a0:Int×Int×Int):rM (S1 K) Tryz.f33 (S3 K) (a0,())=Qf K a0 :=
  Az (n0:=0) (by rfl) (.trans (b:=AhK K a0 (AhM K a0 (Ac (S1 K) 0))) (by kernel_rfl) (by rw[Avc]<;>rfl))
theorem ApC (a0:List tV) (a1:Int×Int):AbR K a0 a1 (Ac (QO K) 1)=fun bq4=>MF K a0 a1 K bq4:=by
  funext bq4;exact Ae (fun x=>(Vm a0 a1 x)) (fun L x=>by kernel_rfl) K bq4
theorem Ak1 (a0:List tV) (a1:Int×Int):rM (QO K) Tryz.f159 (AbQ K) (a0,a1,())=V7 K a0 a1 :=
  Az (n0:=1) (by rfl) (.trans (b:=YP K a0 a1 (AbR K a0 a1 (Ac (QO K) 1))) (by kernel_rfl) (by rw[ApC]<;>rfl))
theorem ApD (a0:Int×Int×Int) (a1:List tM) (a2:Int×Int):AbT K a0 a1 a2 (Ac (QP K) 1)=fun bq5 bq6=>S5 K a0 a1 a2 K bq5 bq6:=by
  funext bq5 bq6;exact Ae (fun x=>(Vn a0 a1 a2 x.1 x.2)) (fun L x=>by kernel_rfl) K (bq5,bq6)
theorem Ak2 (a0:Int×Int×Int) (a1:List tM) (a2:Int×Int):rM (QP K) Tryz.f104 (AbS K) (a0,a1,a2,())=V8 K a0 a1 a2 :=
  Az (n0:=1) (by rfl) (.trans (b:=YQ K a0 a1 a2 (AbT K a0 a1 a2 (Ac (QP K) 1))) (by kernel_rfl) (by rw[ApD]<;>rfl))
theorem Avd (a0:Int×Int×Int) (a1:List tM):AhR K a0 a1 (Ac (Afd K) 1)=fun y1 bq5 bq6=>YR K a0 a1 y1 K bq5 bq6:=by
  funext y1 bq5 bq6;exact Ae (fun x=>(Abc a0 a1 y1 x.1 x.2)) (fun L x=>by kernel_rfl) K (bq5,bq6)
theorem ApE (a0:Int×Int×Int) (a1:List tM):rM (Afd K) Tryz.f51 (AhQ K) (a0,a1,())=Afe K a0 a1 :=
  Az (n0:=1) (by rfl) (.trans (b:=AhP K a0 a1 (AhR K a0 a1 (Ac (Afd K) 1))) (by kernel_rfl) (by rw[Avd]<;>rfl))
theorem ApF (a0:Int×Int×Int) (a1:List tM) (y1:List (List tV)) (F9:Fr→Option (List Int)) (bq10:Int) (bq11:List Int):AbU K a0 a1 y1 F9 bq10 bq11 (Ac (S6 K) 1)=fun q10 bq13 bq14=>MG K a0 a1 q10 y1 (fun v0 v1=>F9 (JG a0 a1 y1 v0 v1)) K bq13 bq14:=by
  funext q10 bq13 bq14;exact Ae (fun x=>(Vo a0 a1 q10 y1 x.1 x.2)) (fun L x=>by kernel_rfl) K (bq13,bq14)
theorem Ave (a0:Int×Int×Int) (a1:List tM):AhW K a0 a1 (Ac (S6 K) 1)=fun y1 bq10 bq11=>AhT K a0 a1 y1 K bq10 bq11:=by
  funext y1 bq10 bq11;refine Ae (fun x=>(JG a0 a1 y1 x.1 x.2)) (fun L x=>?_) K (bq10,bq11);exact .trans (b:=Je K a0 a1 y1 (AbU K a0 a1 y1 L bq10 bq11 (Ac (S6 K) 1)) (fun v0 v1=>L (JG a0 a1 y1 v0 v1)) x.1 x.2) (by kernel_rfl) (by rw[ApF]<;>rfl)
theorem ApG (a0:Int×Int×Int) (a1:List tM):rM (S6 K) Tryz.f22 (Aff K) (a0,a1,())=Qg K a0 a1 :=
  Az (n0:=1) (by rfl) (.trans (b:=AhU K a0 a1 (AhW K a0 a1 (Ac (S6 K) 1))) (by kernel_rfl) (by rw[Ave]<;>rfl))
theorem ApH (a0:(List Int)×Int×Int) (a1:Int) (a2:Int×Int×Int):AbX K a0 a1 a2 (Ac (EW K) 1)=fun q9 q12 q21 q22 q23 q24 y1 y3 y15 y16 y17 bq28 bq29=>JO K a0 a1 a2 q9 q12 q21 q22 q23 q24 y1 y3 y15 y16 y17 K bq28 bq29:=by
  funext q9 q12 q21 q22 q23 q24 y1 y3 y15 y16 y17 bq28 bq29;exact Ae (fun x=>(Vp a0 a1 a2 q9 q12 q21 q22 q23 q24 y1 y3 y15 y16 y17 x.1 x.2)) (fun L x=>by kernel_rfl) K (bq28,bq29)
theorem ApI (a0:(List Int)×Int×Int) (a1:Int) (a2:Int×Int×Int):AbV K a0 a1 a2 (Ac (EW K) 1)=fun q9 q12 y1 y3 y15 y16 y17 bq21 bq22 bq23 bq24=>JP K a0 a1 a2 q9 q12 y1 y3 y15 y16 y17 K bq21 bq22 bq23 bq24:=by
  funext q9 q12 y1 y3 y15 y16 y17 bq21 bq22 bq23 bq24;refine Ae (fun x=>(NQ a0 a1 a2 q9 q12 y1 y3 y15 y16 y17 x.1 x.2.1 x.2.2.1 x.2.2.2)) (fun L x=>?_) K (bq21,bq22,bq23,bq24);exact .trans (b:=MH K a0 a1 a2 q9 q12 y1 y3 y15 y16 y17 (AbX K a0 a1 a2 (Ac (EW K) 1)) (fun v0 v1 v2 v3=>L (NQ a0 a1 a2 q9 q12 y1 y3 y15 y16 y17 v0 v1 v2 v3)) x.1 x.2.1 x.2.2.1 x.2.2.2) (by kernel_rfl) (by rw[ApH]<;>rfl)
theorem Avf (a0:(List Int)×Int×Int) (a1:Int) (a2:Int×Int×Int):AhZ K a0 a1 a2 (Ac (EW K) 1)=fun y1 y2 y3 bq9 bq10 bq11 bq12=>S9 K a0 a1 a2 y1 y2 y3 K bq9 bq10 bq11 bq12:=by
  funext y1 y2 y3 bq9 bq10 bq11 bq12;refine Ae (fun x=>(SV a0 a1 a2 y1 y2 y3 x.1 x.2.1 x.2.2.1 x.2.2.2)) (fun L x=>?_) K (bq9,bq10,bq11,bq12);exact .trans (b:=S8 K a0 a1 a2 y1 y2 y3 (AbV K a0 a1 a2 (Ac (EW K) 1)) (fun v0 v1 v2 v3=>L (SV a0 a1 a2 y1 y2 y3 v0 v1 v2 v3)) x.1 x.2.1 x.2.2.1 x.2.2.2) (by kernel_rfl) (by rw[ApI]<;>rfl)
theorem ApJ (a0:(List Int)×Int×Int) (a1:Int) (a2:Int×Int×Int):AbY K a0 a1 a2 (Ac (EW K) 1)=fun q39 q40 q41 q42 q43 y1 y2 y3 y30 y31 bq47 bq48=>JQ K a0 a1 a2 q39 q40 q41 q42 q43 y1 y2 y3 y30 y31 K bq47 bq48:=by
  funext q39 q40 q41 q42 q43 y1 y2 y3 y30 y31 bq47 bq48;exact Ae (fun x=>(Vq a0 a1 a2 q39 q40 q41 q42 q43 y1 y2 y3 y30 y31 x.1 x.2)) (fun L x=>by kernel_rfl) K (bq47,bq48)
theorem ApK (a0:(List Int)×Int×Int) (a1:Int) (a2:Int×Int×Int):AbW K a0 a1 a2 (Ac (EW K) 1)=fun y1 y2 y3 y30 y31 bq39 bq40 bq41 bq42 bq43=>MJ K a0 a1 a2 y1 y2 y3 y30 y31 K bq39 bq40 bq41 bq42 bq43:=by
  funext y1 y2 y3 y30 y31 bq39 bq40 bq41 bq42 bq43;refine Ae (fun x=>(NR a0 a1 a2 y1 y2 y3 y30 y31 x.1 x.2.1 x.2.2.1 x.2.2.2.1 x.2.2.2.2)) (fun L x=>?_) K (bq39,bq40,bq41,bq42,bq43);exact .trans (b:=MI K a0 a1 a2 y1 y2 y3 y30 y31 (AbY K a0 a1 a2 (Ac (EW K) 1)) (fun v0 v1 v2 v3 v4=>L (NR a0 a1 a2 y1 y2 y3 y30 y31 v0 v1 v2 v3 v4)) x.1 x.2.1 x.2.2.1 x.2.2.2.1 x.2.2.2.2) (by kernel_rfl) (by rw[ApJ]<;>rfl)
theorem ApL (a0:(List Int)×Int×Int) (a1:Int) (a2:Int×Int×Int):YI (EW K) Tryz.f60 5 (.int .u8) sV [(.ro,sI),(.ro,sL)] [(.cons sI (.cons sL (.list 2 sI)))] (a0,a1,a2,())=AhY K a0 a1 a2 :=
  AmM (n0:=1) (by rfl) (.trans (b:=AhX K a0 a1 a2 (AhZ K a0 a1 a2 (Ac (EW K) 1)) (AbW K a0 a1 a2 (Ac (EW K) 1))) (by kernel_rfl) (by rw[Avf,ApK]<;>rfl))
theorem Avg (a0:List Int) (a1 a2 a3:Int):Ah3 K a0 a1 a2 a3 (Ac (Afg K) 1)=fun bq4=>YS K a0 a1 a2 a3 K bq4:=by
  funext bq4;exact Ae (fun x=>(Abd a0 a1 a2 a3 x)) (fun L x=>by kernel_rfl) K bq4
theorem ApM (a0:List Int) (a1 a2 a3:Int):rM (Afg K) Tryz.f71 (AnN K) (a0,a1,a2,a3,())=Ah2 K a0 a1 a2 a3 :=
  Az (n0:=1) (by rfl) (.trans (b:=Ah1 K a0 a1 a2 a3 (Ah3 K a0 a1 a2 a3 (Ac (Afg K) 1))) (by kernel_rfl) (by rw[Avg]<;>rfl))
theorem ApN (a0:Int×tL×List Int) (a1:tA×Int×Int):AbZ K a0 a1 (Ac (QQ K) 1)=fun y1 bq7=>Tc K a0 a1 y1 K bq7:=by
  funext y1 bq7;exact Ae (fun x=>(Vr a0 a1 y1 x)) (fun L x=>by kernel_rfl) K bq7
theorem Ak3 (a0:Int×tL×List Int) (a1:tA×Int×Int):rM (QQ K) Tryz.f132 (Wa K) (a0,a1,())=QR K a0 a1 :=
  Az (n0:=1) (by rfl) (.trans (b:=YU K a0 a1 (AbZ K a0 a1 (Ac (QQ K) 1))) (by kernel_rfl) (by rw[ApN]<;>rfl))
theorem Avh (a0:Int×tL×List Int):Ah6 K a0 (Ac (Afh K) 1)=fun y1 bq7 bq8=>YV K a0 y1 K bq7 bq8:=by
  funext y1 bq7 bq8;exact Ae (fun x=>(Abe a0 y1 x.1 x.2)) (fun L x=>by kernel_rfl) K (bq7,bq8)
theorem ApO (a0:Int×tL×List Int):rM (Afh K) Tryz.f80 (AnR K) (a0,())=Ah5 K a0 :=
  Az (n0:=1) (by rfl) (.trans (b:=Ah4 K a0 (Ah6 K a0 (Ac (Afh K) 1))) (by kernel_rfl) (by rw[Avh]<;>rfl))
theorem Avi (a0:Int×tL×List Int) (a1:Int×Int×Int):Ah9 K a0 a1 (Ac (Afi K) 1)=fun y1 bq5 bq6=>YW K a0 a1 y1 K bq5 bq6:=by
  funext y1 bq5 bq6;exact Ae (fun x=>(Abf a0 a1 y1 x.1 x.2)) (fun L x=>by kernel_rfl) K (bq5,bq6)
theorem ApP (a0:Int×tL×List Int) (a1:Int×Int×Int):rM (Afi K) Tryz.f79 (AnS K) (a0,a1,())=Ah8 K a0 a1 :=
  Az (n0:=1) (by rfl) (.trans (b:=Ah7 K a0 a1 (Ah9 K a0 a1 (Ac (Afi K) 1))) (by kernel_rfl) (by rw[Avi]<;>rfl))
theorem ApQ (a0:Int×tL×List Int) (y1:List tA) (y2:List tV) (F10:Fr→Option (List tM)) (bq11:Int) (bq12:List tM):Ab2 K a0 y1 y2 F10 bq11 bq12 (Ac (Tf K) 1)=fun q11 bq14 bq15=>JR K a0 q11 y1 y2 (fun v0 v1=>F10 (Hl a0 y1 y2 v0 v1)) K bq14 bq15:=by
  funext q11 bq14 bq15;exact Ae (fun x=>(Vs a0 q11 y1 y2 x.1 x.2)) (fun L x=>by kernel_rfl) K (bq14,bq15)
theorem ApR (a0:Int×tL×List Int):Ab1 K a0 (Ac (Tf K) 1)=fun y1 y2 bq11 bq12=>Tg K a0 y1 y2 K bq11 bq12:=by
  funext y1 y2 bq11 bq12;refine Ae (fun x=>(Hl a0 y1 y2 x.1 x.2)) (fun L x=>?_) K (bq11,bq12);exact .trans (b:=JS K a0 y1 y2 (Ab2 K a0 y1 y2 L bq11 bq12 (Ac (Tf K) 1)) (fun v0 v1=>L (Hl a0 y1 y2 v0 v1)) x.1 x.2) (by kernel_rfl) (by rw[ApQ]<;>rfl)
theorem ApS (a0:Int×tL×List Int):rM (Tf K) Tryz.f77 (AnT K) (a0,())=Aib K a0 :=
  Az (n0:=1) (by rfl) (.trans (b:=Aia K a0 (Ab1 K a0 (Ac (Tf K) 1))) (by kernel_rfl) (by rw[ApR]<;>rfl))
omit K
theorem ApT (K:Nat) (rec:Int→Option ByteArray) (a0:Int):ST (AxJ K rec) Tryz.f74 [(.ro,sI)] [.str] (a0,())=Ab3 K rec a0:=by kernel_rfl
include K
theorem ApU (a0:List Int) (a1:ByteArray):Ab4 K a0 a1 (Ac (QS K) 1)=fun bq4 bq5=>MM K a0 a1 K bq4 bq5:=by
  funext bq4 bq5;exact Ae (fun x=>(Vt a0 a1 x.1 x.2)) (fun L x=>by kernel_rfl) K (bq4,bq5)
theorem Ak4 (a0:List Int) (a1:ByteArray):rM (QS K) Tryz.f126 (Wb K) (a0,a1,())=QT K a0 a1 :=
  Az (n0:=1) (by rfl) (.trans (b:=Y0 K a0 a1 (Ab4 K a0 a1 (Ac (QS K) 1))) (by kernel_rfl) (by rw[ApU]<;>rfl))
theorem ApV (a0:Int×Int×Int×Int):Ab6 K a0 (Ac (QX K) 0)=fun bq7 bq8 bq9 bq10 bq11=>JW K a0 K bq7 bq8 bq9 bq10 bq11:=by
  funext bq7 bq8 bq9 bq10 bq11;exact Ae (fun x=>(Vu a0 x.1 x.2.1 x.2.2.1 x.2.2.2.1 x.2.2.2.2)) (fun L x=>by kernel_rfl) K (bq7,bq8,bq9,bq10,bq11)
theorem Ak5 (a0:Int×Int×Int×Int):rM (QX K) Tryz.f179 (Ab5 K) (a0,())=N8 K a0 :=
  Az (n0:=0) (by rfl) (.trans (b:=Y1 K a0 (Ab6 K a0 (Ac (QX K) 0))) (by kernel_rfl) (by rw[ApV]<;>rfl))
theorem ApW (a0:Int×tL×List Int):Ab9 K a0 (Ac (Qh K) 1)=fun q12 q13 q14 y1 y2 y3 y18 bq23 bq24 bq25=>Ic K a0 q12 q13 q14 y1 y2 y3 y18 K bq23 bq24 bq25:=by
  funext q12 q13 q14 y1 y2 y3 y18 bq23 bq24 bq25;exact Ae (fun x=>(Vv a0 q12 q13 q14 y1 y2 y3 y18 x.1 x.2.1 x.2.2)) (fun L x=>by kernel_rfl) K (bq23,bq24,bq25)
theorem ApX (a0:Int×tL×List Int):Ab8 K a0 (Ac (Qh K) 1)=fun y1 y2 y3 bq11 bq12 bq13 bq14=>Ab7 K a0 y1 y2 y3 K bq11 bq12 bq13 bq14:=by
  funext y1 y2 y3 bq11 bq12 bq13 bq14;refine Ae (fun x=>(NS a0 y1 y2 y3 x.1 x.2.1 x.2.2.1 x.2.2.2)) (fun L x=>?_) K (bq11,bq12,bq13,bq14);exact .trans (b:=Gi K a0 y1 y2 y3 (Ab9 K a0 (Ac (Qh K) 1)) (fun v0 v1 v2 v3=>L (NS a0 y1 y2 y3 v0 v1 v2 v3)) x.1 x.2.1 x.2.2.1 x.2.2.2) (by kernel_rfl) (by rw[ApW]<;>rfl)
theorem ApY (a0:Int×tL×List Int):rM (Qh K) Tryz.f39 (Aii K) (a0,())=Aih K a0 :=
  Az (n0:=1) (by rfl) (.trans (b:=Aig K a0 (Ab8 K a0 (Ac (Qh K) 1))) (by kernel_rfl) (by rw[ApX]<;>rfl))
theorem Avj (a0:Int×tL×List Int):Ail K a0 (Ac (Afj K) 1)=fun y1 y2 bq7 bq8 bq9=>Y4 K a0 y1 y2 K bq7 bq8 bq9:=by
  funext y1 y2 bq7 bq8 bq9;exact Ae (fun x=>(Abg a0 y1 y2 x.1 x.2.1 x.2.2)) (fun L x=>by kernel_rfl) K (bq7,bq8,bq9)
theorem ApZ (a0:Int×tL×List Int):rM (Afj K) Tryz.f14 (Aik K) (a0,())=Afk K a0 :=
  Az (n0:=1) (by rfl) (.trans (b:=Aij K a0 (Ail K a0 (Ac (Afj K) 1))) (by kernel_rfl) (by rw[Avj]<;>rfl))
theorem Ap0 (a0:(List Int)×Int×Int):Aci K a0 (Ac (CR K) 1)=fun q15 q28 y1 y2 y3 y5 y6 y7 y35 bq39 bq40=>Ti K a0 q15 q28 y1 y2 y3 y5 y6 y7 y35 K bq39 bq40:=by
  funext q15 q28 y1 y2 y3 y5 y6 y7 y35 bq39 bq40;exact Ae (fun x=>(Vw a0 q15 q28 y1 y2 y3 y5 y6 y7 y35 x.1 x.2)) (fun L x=>by kernel_rfl) K (bq39,bq40)
theorem Ap1 (a0:(List Int)×Int×Int):Ace K a0 (Ac (CR K) 1)=fun q15 y1 y2 y3 y5 y6 y7 bq27 bq28 bq29 bq30=>Tj K a0 q15 y1 y2 y3 y5 y6 y7 K bq27 bq28 bq29 bq30:=by
  funext q15 y1 y2 y3 y5 y6 y7 bq27 bq28 bq29 bq30;refine Ae (fun x=>(NT a0 q15 y1 y2 y3 y5 y6 y7 x.1 x.2.1 x.2.2.1 x.2.2.2)) (fun L x=>?_) K (bq27,bq28,bq29,bq30);exact .trans (b:=Aca K a0 q15 y1 y2 y3 y5 y6 y7 (Aci K a0 (Ac (CR K) 1)) (fun v0 v1 v2 v3=>L (NT a0 q15 y1 y2 y3 y5 y6 y7 v0 v1 v2 v3)) x.1 x.2.1 x.2.2.1 x.2.2.2) (by kernel_rfl) (by rw[Ap0]<;>rfl)
theorem Ap2 (a0:(List Int)×Int×Int):Acf K a0 (Ac (CR K) 1)=fun y1 y2 y3 y5 y6 y7 bq14 bq15 bq16 bq17=>Tk K a0 y1 y2 y3 y5 y6 y7 K bq14 bq15 bq16 bq17:=by
  funext y1 y2 y3 y5 y6 y7 bq14 bq15 bq16 bq17;refine Ae (fun x=>(NU a0 y1 y2 y3 y5 y6 y7 x.1 x.2.1 x.2.2.1 x.2.2.2)) (fun L x=>?_) K (bq14,bq15,bq16,bq17);exact .trans (b:=Acb K a0 y1 y2 y3 y5 y6 y7 (Ace K a0 (Ac (CR K) 1)) (fun v0 v1 v2 v3=>L (NU a0 y1 y2 y3 y5 y6 y7 v0 v1 v2 v3)) x.1 x.2.1 x.2.2.1 x.2.2.2) (by kernel_rfl) (by rw[Ap1]<;>rfl)
theorem Ap3 (a0:(List Int)×Int×Int):Acj K a0 (Ac (CR K) 1)=fun y1 y2 y3 y5 y6 y48 bq51 bq52=>Tl K a0 y1 y2 y3 y5 y6 y48 K bq51 bq52:=by
  funext y1 y2 y3 y5 y6 y48 bq51 bq52;exact Ae (fun x=>(Vx a0 y1 y2 y3 y5 y6 y48 x.1 x.2)) (fun L x=>by kernel_rfl) K (bq51,bq52)
theorem Ap4 (a0:(List Int)×Int×Int):Ack K a0 (Ac (CR K) 1)=fun q67 q75 y1 y2 y3 y60 y61 y62 y82 bq85 bq86=>Tm K a0 q67 q75 y1 y2 y3 y60 y61 y62 y82 K bq85 bq86:=by
  funext q67 q75 y1 y2 y3 y60 y61 y62 y82 bq85 bq86;exact Ae (fun x=>(Vy a0 q67 q75 y1 y2 y3 y60 y61 y62 y82 x.1 x.2)) (fun L x=>by kernel_rfl) K (bq85,bq86)
theorem Ap5 (a0:(List Int)×Int×Int):Acg K a0 (Ac (CR K) 1)=fun q67 y1 y2 y3 y60 y61 y62 bq74 bq75 bq76 bq77=>Tn K a0 q67 y1 y2 y3 y60 y61 y62 K bq74 bq75 bq76 bq77:=by
  funext q67 y1 y2 y3 y60 y61 y62 bq74 bq75 bq76 bq77;refine Ae (fun x=>(NV a0 q67 y1 y2 y3 y60 y61 y62 x.1 x.2.1 x.2.2.1 x.2.2.2)) (fun L x=>?_) K (bq74,bq75,bq76,bq77);exact .trans (b:=Acc K a0 q67 y1 y2 y3 y60 y61 y62 (Ack K a0 (Ac (CR K) 1)) (fun v0 v1 v2 v3=>L (NV a0 q67 y1 y2 y3 y60 y61 y62 v0 v1 v2 v3)) x.1 x.2.1 x.2.2.1 x.2.2.2) (by kernel_rfl) (by rw[Ap4]<;>rfl)
theorem Ap6 (a0:(List Int)×Int×Int):Ach K a0 (Ac (CR K) 1)=fun y1 y2 y3 y60 y61 y62 bq66 bq67 bq68 bq69=>To K a0 y1 y2 y3 y60 y61 y62 K bq66 bq67 bq68 bq69:=by
  funext y1 y2 y3 y60 y61 y62 bq66 bq67 bq68 bq69;refine Ae (fun x=>(NW a0 y1 y2 y3 y60 y61 y62 x.1 x.2.1 x.2.2.1 x.2.2.2)) (fun L x=>?_) K (bq66,bq67,bq68,bq69);exact .trans (b:=Acd K a0 y1 y2 y3 y60 y61 y62 (Acg K a0 (Ac (CR K) 1)) (fun v0 v1 v2 v3=>L (NW a0 y1 y2 y3 y60 y61 y62 v0 v1 v2 v3)) x.1 x.2.1 x.2.2.1 x.2.2.2) (by kernel_rfl) (by rw[Ap5]<;>rfl)
theorem Ap7 (a0:(List Int)×Int×Int):Acl K a0 (Ac (CR K) 1)=fun y1 y2 y3 y60 y61 y94 bq97 bq98=>Tp K a0 y1 y2 y3 y60 y61 y94 K bq97 bq98:=by
  funext y1 y2 y3 y60 y61 y94 bq97 bq98;exact Ae (fun x=>(Vz a0 y1 y2 y3 y60 y61 y94 x.1 x.2)) (fun L x=>by kernel_rfl) K (bq97,bq98)
theorem Ap8 (a0:(List Int)×Int×Int):YI (CR K) Tryz.f18 5 (.int .u8) sV [] [.str] (a0,())=Ain K a0 :=
  AmM (n0:=1) (by rfl) (.trans (b:=Aim K a0 (Acf K a0 (Ac (CR K) 1)) (Acj K a0 (Ac (CR K) 1)) (Ach K a0 (Ac (CR K) 1)) (Acl K a0 (Ac (CR K) 1))) (by kernel_rfl) (by rw[Ap2,Ap3,Ap6,Ap7]<;>rfl))
theorem Ap9 (a0 a1:ByteArray) (a2:Int):Acn K a0 a1 a2 (Ac (QZ K) 0)=fun y1 bq5 bq6=>MN K a0 a1 a2 y1 K bq5 bq6:=by
  funext y1 bq5 bq6;exact Ae (fun x=>(VA a0 a1 a2 y1 x.1 x.2)) (fun L x=>by kernel_rfl) K (bq5,bq6)
theorem Ak6 (a0 a1:ByteArray) (a2:Int):rM (QZ K) Tryz.f145 (Q0 K) (a0,a1,a2,())=IR K a0 a1 a2 :=
  Az (n0:=0) (by rfl) (.trans (b:=Y6 K a0 a1 a2 (Acn K a0 a1 a2 (Ac (QZ K) 0))) (by kernel_rfl) (by rw[Ap9]<;>rfl))
theorem Aqa (a0:ByteArray):Acp K a0 (Ac (Q3 K) 0)=fun bq3 bq4=>MO K a0 K bq3 bq4:=by
  funext bq3 bq4;exact Ae (fun x=>(VB a0 x.1 x.2)) (fun L x=>by kernel_rfl) K (bq3,bq4)
theorem Ak7 (a0:ByteArray):rM (Q3 K) Tryz.f185 (Aco K) (a0,())=Wh K a0 :=
  Az (n0:=0) (by rfl) (.trans (b:=Y7 K a0 (Acp K a0 (Ac (Q3 K) 0))) (by kernel_rfl) (by rw[Aqa]<;>rfl))
theorem Aqb (a0:Int):Acz K a0 (Ac (Q5 K) 0)=fun bq9 bq10=>Acx K a0 K bq9 bq10:=by
  funext bq9 bq10;exact Ae (fun x=>(VC a0 x.1 x.2)) (fun L x=>by kernel_rfl) K (bq9,bq10)
theorem Ak8 (a0:Int):rM (Q5 K) Tryz.f221 (Acy K) (a0,())=Q6 K a0 :=
  Az (n0:=0) (by rfl) (.trans (b:=AiC K a0 (Acz K a0 (Ac (Q5 K) 0))) (by kernel_rfl) (by rw[Aqb]<;>rfl))
theorem Aqc (a0:List tA) (a1:(tA→Option Bool)):AcC K a0 a1 (Ac (Q7 K) 1)=fun bq4=>Tt K a0 a1 K bq4:=by
  funext bq4;exact Ae (fun x=>(VD a0 a1 x)) (fun L x=>by kernel_rfl) K bq4
theorem Ak9 (a0:List tA) (a1:(tA→Option Bool)):rM (Q7 K) Tryz.f255 (AcB K) (a0,a1,())=Wq K a0 a1 :=
  Az (n0:=1) (by rfl) (.trans (b:=Za K a0 a1 (AcC K a0 a1 (Ac (Q7 K) 1))) (by kernel_rfl) (by rw[Aqc]<;>rfl))
theorem Aqd (a0:List tA) (a1:(tA→Option Bool)):AcE K a0 a1 (Ac (Q8 K) 1)=fun y1 bq5 bq6 bq7=>Tu K a1 y1 K bq5 bq6 bq7:=by
  funext y1 bq5 bq6 bq7;exact Ae (fun x=>(VE a1 y1 x.1 x.2.1 x.2.2)) (fun L x=>by kernel_rfl) K (bq5,bq6,bq7)
theorem Ala (a0:List tA) (a1:(tA→Option Bool)):rM (Q8 K) Tryz.f220 (AcD K) (a0,a1,())=Wr K a0 a1 :=
  Az (n0:=1) (by rfl) (.trans (b:=Zb K a0 a1 (AcE K a0 a1 (Ac (Q8 K) 1))) (by kernel_rfl) (by rw[Aqd]<;>rfl))
theorem Aqe (a0:List tA) (a1:Int×Int×Int×Int):AcG K a0 a1 (Ac (Q9 K) 1)=fun bq3=>Tv K a0 a1 K bq3:=by
  funext bq3;exact Ae (fun x=>(VF a0 a1 x)) (fun L x=>by kernel_rfl) K bq3
theorem Alb (a0:List tA) (a1:Int×Int×Int×Int):rM (Q9 K) Tryz.f224 (AcF K) (a0,a1,())=Wt K a0 a1 :=
  Az (n0:=1) (by rfl) (.trans (b:=Zc K a0 a1 (AcG K a0 a1 (Ac (Q9 K) 1))) (by kernel_rfl) (by rw[Aqe]<;>rfl))
theorem Aqf (a0 a1:List Int):AcJ K a0 a1 (Ac (Rb K) 2)=fun bq3=>MS K a0 a1 K bq3:=by
  funext bq3;exact Ae (fun x=>(VG a0 a1 x)) (fun L x=>by kernel_rfl) K bq3
theorem Alc (a0 a1:List Int):rM (Rb K) Tryz.f198 (Wx K) (a0,a1,())=Rc K a0 a1 :=
  Az (n0:=2) (by rfl) (.trans (b:=Zd K a0 a1 (AcJ K a0 a1 (Ac (Rb K) 2))) (by kernel_rfl) (by rw[Aqf]<;>rfl))
theorem Aqg (a0:Int×Int×Int) (a1:List tM) (F12:Fr→Option (List tM)) (bq13:Int) (bq14:List (tM×Bool)) (bq15:List tM):AcP K a0 a1 F12 bq13 bq14 bq15 (Ac (Tx K) 1)=fun q13 q15 bq17 bq18 bq19=>JY K a0 a1 q13 q15 (fun v0 v1 v2=>F12 (Hm a0 a1 v0 v1 v2)) K bq17 bq18 bq19:=by
  funext q13 q15 bq17 bq18 bq19;exact Ae (fun x=>(VH a0 a1 q13 q15 x.1 x.2.1 x.2.2)) (fun L x=>by kernel_rfl) K (bq17,bq18,bq19)
theorem Aqh (a0:Int×Int×Int) (a1:List tM):AcO K a0 a1 (Ac (Tx K) 1)=fun bq13 bq14 bq15=>Gk K a0 a1 K bq13 bq14 bq15:=by
  funext bq13 bq14 bq15;refine Ae (fun x=>(Hm a0 a1 x.1 x.2.1 x.2.2)) (fun L x=>?_) K (bq13,bq14,bq15);exact .trans (b:=MT K a0 a1 (AcP K a0 a1 L bq13 bq14 bq15 (Ac (Tx K) 1)) (fun v0 v1 v2=>L (Hm a0 a1 v0 v1 v2)) x.1 x.2.1 x.2.2) (by kernel_rfl) (by rw[Aqg]<;>rfl)
theorem Aqi (a0:Int×Int×Int) (a1:List tM):rM (Tx K) Tryz.f58 (Aos K) (a0,a1,())=Ob K a0 a1 :=
  Az (n0:=1) (by rfl) (.trans (b:=AiL K a0 a1 (AcO K a0 a1 (Ac (Tx K) 1))) (by kernel_rfl) (by rw[Aqh]<;>rfl))
theorem Ald (a0:Int) (a1:Int×Int×Int) (a2:List tM) (q7:Int) (q8:List (tM×Bool)) (y1:List tA) (y12:Int×Int×Int×Int) (F21:Fr→Option Bool) (bq22:Int):WC K a0 a1 a2 q7 q8 y1 y12 F21 bq22 (Ac (FH K) 1)=fun q22 bq24=>Hq K a0 a1 a2 q7 q8 q22 y1 y12 (fun v0=>F21 (FC a0 a1 a2 q7 q8 y1 y12 v0)) K bq24:=by
  funext q22 bq24;exact Ae (fun x=>(QD a0 a1 a2 q7 q8 q22 y1 y12 x)) (fun L x=>by kernel_rfl) K bq24
theorem Ale (a0:Int) (a1:Int×Int×Int) (a2:List tM):WB K a0 a1 a2 (Ac (FH K) 1)=fun q7 q8 y1 y12 bq22=>Ht K a0 a1 a2 q7 q8 y1 y12 K bq22:=by
  funext q7 q8 y1 y12 bq22;refine Ae (fun x=>(FC a0 a1 a2 q7 q8 y1 y12 x)) (fun L x=>?_) K bq22;exact .trans (b:=Hr K a0 a1 a2 q7 q8 y1 y12 (WC K a0 a1 a2 q7 q8 y1 y12 L bq22 (Ac (FH K) 1)) (fun v0=>L (FC a0 a1 a2 q7 q8 y1 y12 v0)) x) (by kernel_rfl) (by rw[Ald]<;>rfl)
theorem Aqj (a0:Int) (a1:Int×Int×Int) (a2:List tM):AcR K a0 a1 a2 (Ac (FH K) 1)=fun y1 bq7 bq8=>TA K a0 a1 a2 y1 K bq7 bq8:=by
  funext y1 bq7 bq8;refine Ae (fun x=>(NX a0 a1 a2 y1 x.1 x.2)) (fun L x=>?_) K (bq7,bq8);exact .trans (b:=E3 K a0 a1 a2 y1 (WB K a0 a1 a2 (Ac (FH K) 1)) (fun v0 v1=>L (NX a0 a1 a2 y1 v0 v1)) x.1 x.2) (by kernel_rfl) (by rw[Ale]<;>rfl)
theorem Alf (a0:Int) (a1:Int×Int×Int) (a2:List tM):rM (FH K) Tryz.f130 (Wz K) (a0,a1,a2,())=Wy K a0 a1 a2 :=
  Az (n0:=1) (by rfl) (.trans (b:=Zf K a0 a1 a2 (AcR K a0 a1 a2 (Ac (FH K) 1))) (by kernel_rfl) (by rw[Aqj]<;>rfl))
theorem Avk (a0:Int) (a1:Int×Int×Int) (a2:List (List tM)):AiQ K a0 a1 a2 (Ac (Afl K) 1)=fun y1 bq5=>Zh K a0 a1 a2 y1 K bq5:=by
  funext y1 bq5;exact Ae (fun x=>(Abh a0 a1 a2 y1 x)) (fun L x=>by kernel_rfl) K bq5
theorem Aqk (a0:Int) (a1:Int×Int×Int) (a2:List (List tM)):rM (Afl K) Tryz.f75 (AiP K) (a0,a1,a2,())=Zi K a0 a1 a2 :=
  Az (n0:=1) (by rfl) (.trans (b:=AiO K a0 a1 a2 (AiQ K a0 a1 a2 (Ac (Afl K) 1))) (by kernel_rfl) (by rw[Avk]<;>rfl))
theorem Aql (a0:List (tV×Int)) (a1:((tV×Int)→Option Bool)):AcU K a0 a1 (Ac (Re K) 1)=fun bq4=>TB K a0 a1 K bq4:=by
  funext bq4;exact Ae (fun x=>(VI a0 a1 x)) (fun L x=>by kernel_rfl) K bq4
theorem Alg (a0:List (tV×Int)) (a1:((tV×Int)→Option Bool)):rM (Re K) Tryz.f233 (AcT K) (a0,a1,())=AcS K a0 a1 :=
  Az (n0:=1) (by rfl) (.trans (b:=Zj K a0 a1 (AcU K a0 a1 (Ac (Re K) 1))) (by kernel_rfl) (by rw[Aql]<;>rfl))
theorem Aqm (a0:List Int) (a1:Int):AcY K a0 a1 (Ac (Rf K) 1)=fun y1 bq4 bq5=>MV K a0 a1 y1 K bq4 bq5:=by
  funext y1 bq4 bq5;exact Ae (fun x=>(VJ a0 a1 y1 x.1 x.2)) (fun L x=>by kernel_rfl) K (bq4,bq5)
theorem Alh (a0:List Int) (a1:Int):rM (Rf K) Tryz.f196 (AcX K) (a0,a1,())=WE K a0 a1 :=
  Az (n0:=1) (by rfl) (.trans (b:=Zk K a0 a1 (AcY K a0 a1 (Ac (Rf K) 1))) (by kernel_rfl) (by rw[Aqm]<;>rfl))
theorem Avl (a0:Int×Int×Int) (F6:Fr→Option (List tV)) (bq7:Int) (bq8:List tV):AiX K a0 F6 bq7 bq8 (Ac (TD K) 0)=fun q7 bq10 bq11=>Oc K a0 q7 (fun v0 v1=>F6 (JH a0 v0 v1)) K bq10 bq11:=by
  funext q7 bq10 bq11;exact Ae (fun x=>(Abi a0 q7 x.1 x.2)) (fun L x=>by kernel_rfl) K (bq10,bq11)
theorem Avm (a0:Int×Int×Int):AiW K a0 (Ac (TD K) 0)=fun bq7 bq8=>Zl K a0 K bq7 bq8:=by
  funext bq7 bq8;refine Ae (fun x=>(JH a0 x.1 x.2)) (fun L x=>?_) K (bq7,bq8);exact .trans (b:=Od K a0 (AiX K a0 L bq7 bq8 (Ac (TD K) 0)) (fun v0 v1=>L (JH a0 v0 v1)) x.1 x.2) (by kernel_rfl) (by rw[Avl]<;>rfl)
theorem Aqn (a0:Int×Int×Int):rM (TD K) Tryz.f30 (Zm K) (a0,())=WF K a0 :=
  Az (n0:=0) (by rfl) (.trans (b:=AiU K a0 (AiW K a0 (Ac (TD K) 0))) (by kernel_rfl) (by rw[Avm]<;>rfl))
theorem Aqo (a0:List tV) (F7:Fr→Option (List tV)) (bq8:Int):Ac4 K a0 F7 bq8 (Ac (J0 K) 1)=fun q8 bq10 bq11 bq12=>J1 K a0 q8 K bq10 bq11 bq12:=by
  funext q8 bq10 bq11 bq12;exact Ae (fun x=>(VK a0 q8 x.1 x.2.1 x.2.2)) (fun L x=>by kernel_rfl) K (bq10,bq11,bq12)
theorem Aqp (a0:List tV):Ac3 K a0 (Ac (J0 K) 1)=fun bq8=>MX K a0 K bq8:=by
  funext bq8;refine Ae (fun x=>(JI a0 x)) (fun L x=>?_) K bq8;exact .trans (b:=MW K a0 (Ac4 K a0 L bq8 (Ac (J0 K) 1)) (fun v0=>L (JI a0 v0)) x) (by kernel_rfl) (by rw[Aqo]<;>rfl)
theorem Ali (a0:List tV):rM (J0 K) Tryz.f154 (Ac1 K) (a0,())=WH K a0 :=
  Az (n0:=1) (by rfl) (.trans (b:=Zn K a0 (Ac3 K a0 (Ac (J0 K) 1))) (by kernel_rfl) (by rw[Aqp]<;>rfl))
theorem Avn (a0:Int×Int×Int) (a1:List tM) (a2:Int×Int):Ai1 K a0 a1 a2 (Ac (Afn K) 1)=fun bq4 bq5=>Zo K a0 a1 a2 K bq4 bq5:=by
  funext bq4 bq5;exact Ae (fun x=>(Abk a0 a1 a2 x.1 x.2)) (fun L x=>by kernel_rfl) K (bq4,bq5)
theorem Aqq (a0:Int×Int×Int) (a1:List tM) (a2:Int×Int):rM (Afn K) Tryz.f96 (Ai0 K) (a0,a1,a2,())=Afo K a0 a1 a2 :=
  Az (n0:=1) (by rfl) (.trans (b:=AiZ K a0 a1 a2 (Ai1 K a0 a1 a2 (Ac (Afn K) 1))) (by kernel_rfl) (by rw[Avn]<;>rfl))
theorem Alj (a0:Int×Int×Int) (a1:List tM) (y3:List tV) (F16:Fr→Option ((List (List tV))×List Int)) (bq17:Int) (bq18:List (List tV)) (bq19:List Int):WM K a0 a1 y3 F16 bq17 bq18 bq19 (Ac (J2 K) 1)=fun q17 q18 q19 y20 y21 bq23 bq24=>Hu K a0 a1 q17 q18 q19 y3 y20 y21 (fun v0 v1 v2=>F16 (FD a0 a1 y3 v0 v1 v2)) K bq23 bq24:=by
  funext q17 q18 q19 y20 y21 bq23 bq24;exact Ae (fun x=>(QE a0 a1 q17 q18 q19 y3 y20 y21 x.1 x.2)) (fun L x=>by kernel_rfl) K (bq23,bq24)
theorem Alk (a0:Int×Int×Int) (a1:List tM):WL K a0 a1 (Ac (J2 K) 1)=fun y3 bq17 bq18 bq19=>WI K a0 a1 y3 K bq17 bq18 bq19:=by
  funext y3 bq17 bq18 bq19;refine Ae (fun x=>(FD a0 a1 y3 x.1 x.2.1 x.2.2)) (fun L x=>?_) K (bq17,bq18,bq19);exact .trans (b:=Df K a0 a1 y3 (WM K a0 a1 y3 L bq17 bq18 bq19 (Ac (J2 K) 1)) (fun v0 v1 v2=>L (FD a0 a1 y3 v0 v1 v2)) x.1 x.2.1 x.2.2) (by kernel_rfl) (by rw[Alj]<;>rfl)
theorem All (a0:Int×Int×Int) (a1:List tM):rM (J2 K) Tryz.f149 (Ac5 K) (a0,a1,())=WJ K a0 a1 :=
  Az (n0:=1) (by rfl) (.trans (b:=Zp K a0 a1 (WL K a0 a1 (Ac (J2 K) 1))) (by kernel_rfl) (by rw[Alk]<;>rfl))
theorem Aqr (a0:Int×Int×Int) (a1:List tM) (a2:List (tV×Int)) (y1:(List (List tV))×List Int) (F10:Fr→Option (Int×Int×Bool)) (bq11:Int):Ac8 K a0 a1 a2 y1 F10 bq11 (Ac (TG K) 2)=fun q11 bq13=>MZ K a0 a1 a2 q11 y1 (fun v0=>F10 (Hn a0 a1 a2 y1 v0)) K bq13:=by
  funext q11 bq13;exact Ae (fun x=>(VL a0 a1 a2 q11 y1 x)) (fun L x=>by kernel_rfl) K bq13
theorem Aqs (a0:Int×Int×Int) (a1:List tM) (a2:List (tV×Int)):Ac7 K a0 a1 a2 (Ac (TG K) 2)=fun y1 bq11=>J3 K a0 a1 a2 y1 K bq11:=by
  funext y1 bq11;refine Ae (fun x=>(Hn a0 a1 a2 y1 x)) (fun L x=>?_) K bq11;exact .trans (b:=M0 K a0 a1 a2 y1 (Ac8 K a0 a1 a2 y1 L bq11 (Ac (TG K) 2)) (fun v0=>L (Hn a0 a1 a2 y1 v0)) x) (by kernel_rfl) (by rw[Aqr]<;>rfl)
theorem Aqt (a0:Int×Int×Int) (a1:List tM) (a2:List (tV×Int)):rM (TG K) Tryz.f94 (Aoz K) (a0,a1,a2,())=Ai4 K a0 a1 a2 :=
  Az (n0:=2) (by rfl) (.trans (b:=Ai3 K a0 a1 a2 (Ac7 K a0 a1 a2 (Ac (TG K) 2))) (by kernel_rfl) (by rw[Aqs]<;>rfl))
theorem Avo (a0:Int) (a1:Int×Int×Int) (a2:List tV) (a3:Int):Ai8 K a0 a1 a2 a3 (Ac (Afp K) 1)=fun bq5 bq6=>Ai5 K a0 a1 a2 a3 K bq5 bq6:=by
  funext bq5 bq6;exact Ae (fun x=>(Abm a0 a1 a2 a3 x.1 x.2)) (fun L x=>by kernel_rfl) K (bq5,bq6)
theorem Aqu (a0:Int) (a1:Int×Int×Int) (a2:List tV) (a3:Int):rM (Afp K) Tryz.f95 (AoB K) (a0,a1,a2,a3,())=Ai7 K a0 a1 a2 a3 :=
  Az (n0:=1) (by rfl) (.trans (b:=Ai6 K a0 a1 a2 a3 (Ai8 K a0 a1 a2 a3 (Ac (Afp K) 1))) (by kernel_rfl) (by rw[Avo]<;>rfl))
theorem Aqv (a0:Int) (a1:Int×Int×Int) (a2:List tM) (a3:List (tV×Int)) (a4 y1:Int) (y2:Bool) (y3:Int×Int×Bool) (y5:Int×tL×List Int) (F15:Fr→Option ((Int×tL×List Int)×Int)) (bq16:Int) (bq17:List Int):Adb K a0 a1 a2 a3 a4 y1 y2 y3 y5 F15 bq16 bq17 (Ac (TH K) 2)=fun q16 y19 bq21 bq22=>M1 K a0 a1 a2 a3 a4 q16 y1 y2 y3 y5 y19 (fun v0 v1=>F15 (Ho a0 a1 a2 a3 a4 y1 y2 y3 y5 v0 v1)) K bq21 bq22:=by
  funext q16 y19 bq21 bq22;exact Ae (fun x=>(VM a0 a1 a2 a3 a4 q16 y1 y2 y3 y5 y19 x.1 x.2)) (fun L x=>by kernel_rfl) K (bq21,bq22)
theorem Aqw (a0:Int) (a1:Int×Int×Int) (a2:List tM) (a3:List (tV×Int)) (a4:Int):Ada K a0 a1 a2 a3 a4 (Ac (TH K) 2)=fun y1 y2 y3 y5 bq16 bq17=>TI K a0 a1 a2 a3 a4 y1 y2 y3 y5 K bq16 bq17:=by
  funext y1 y2 y3 y5 bq16 bq17;refine Ae (fun x=>(Ho a0 a1 a2 a3 a4 y1 y2 y3 y5 x.1 x.2)) (fun L x=>?_) K (bq16,bq17);exact .trans (b:=Gl K a0 a1 a2 a3 a4 y1 y2 y3 y5 (Adb K a0 a1 a2 a3 a4 y1 y2 y3 y5 L bq16 bq17 (Ac (TH K) 2)) (fun v0 v1=>L (Ho a0 a1 a2 a3 a4 y1 y2 y3 y5 v0 v1)) x.1 x.2) (by kernel_rfl) (by rw[Aqv]<;>rfl)
theorem Aqx (a0:Int) (a1:Int×Int×Int) (a2:List tM) (a3:List (tV×Int)) (a4:Int):rM (TH K) Tryz.f47 (AoC K) (a0,a1,a2,a3,a4,())=WN K a0 a1 a2 a3 a4 :=
  Az (n0:=2) (by rfl) (.trans (b:=Ai9 K a0 a1 a2 a3 a4 (Ada K a0 a1 a2 a3 a4 (Ac (TH K) 2))) (by kernel_rfl) (by rw[Aqw]<;>rfl))
theorem Avp (a0:ByteArray):Ajb K a0 (Ac (Afq K) 0)=fun y1 y2 bq6 bq7 bq8 bq9 bq10 bq11 bq12 bq13=>TJ K a0 y1 y2 K bq6 bq7 bq8 bq9 bq10 bq11 bq12 bq13:=by
  funext y1 y2 bq6 bq7 bq8 bq9 bq10 bq11 bq12 bq13;exact Ae (fun x=>(Abn a0 y1 y2 x.1 x.2.1 x.2.2.1 x.2.2.2.1 x.2.2.2.2.1 x.2.2.2.2.2.1 x.2.2.2.2.2.2.1 x.2.2.2.2.2.2.2)) (fun L x=>by kernel_rfl) K (bq6,bq7,bq8,bq9,bq10,bq11,bq12,bq13)
theorem Aqy (a0:ByteArray):Ae6 (Afq K) Tryz.f20 (.cons sI (.cons sI (.cons sL (.cons (.list 78 sM) (.list 61 (.cons sV sI)))))) [(.ro,.str)] [(.cons sI (.cons sL (.list 2 sI))),sI,sI] (a0,())=Zr K a0 :=
  AwS (n0:=0) (by rfl) (.trans (b:=Aja K a0 (Ajb K a0 (Ac (Afq K) 0))) (by kernel_rfl) (by rw[Avp]<;>rfl))
theorem Avq (a0:ByteArray) (a1:Int):Ajd K a0 a1 (Ac (Afr K) 0)=fun bq3 bq4 bq5=>Og K a0 a1 K bq3 bq4 bq5:=by
  funext bq3 bq4 bq5;exact Ae (fun x=>(Abo a0 a1 x.1 x.2.1 x.2.2)) (fun L x=>by kernel_rfl) K (bq3,bq4,bq5)
theorem Aqz (a0:ByteArray) (a1:Int):rM (Afr K) Tryz.f48 (TK K) (a0,a1,())=J4 K a0 a1 :=
  Az (n0:=0) (by rfl) (.trans (b:=Ajc K a0 a1 (Ajd K a0 a1 (Ac (Afr K) 0))) (by kernel_rfl) (by rw[Avq]<;>rfl))
theorem AqA (a0:ByteArray):Adc K a0 (Ac (Rg K) 0)=fun bq3 bq4=>M2 K a0 K bq3 bq4:=by
  funext bq3 bq4;exact Ae (fun x=>(VN a0 x.1 x.2)) (fun L x=>by kernel_rfl) K (bq3,bq4)
theorem Alm (a0:ByteArray):rM (Rg K) Tryz.f103 (WO K) (a0,())=LW K a0 :=
  Az (n0:=0) (by rfl) (.trans (b:=Zs K a0 (Adc K a0 (Ac (Rg K) 0))) (by kernel_rfl) (by rw[AqA]<;>rfl))
theorem AqB (a0:List ByteArray):Ade K a0 (Ac (Rh K) 1)=fun bq4 bq5=>M3 K a0 K bq4 bq5:=by
  funext bq4 bq5;exact Ae (fun x=>(VO a0 x.1 x.2)) (fun L x=>by kernel_rfl) K (bq4,bq5)
theorem Aln (a0:List ByteArray):rM (Rh K) Tryz.f156 (Ri K) (a0,())=Oh K a0 :=
  Az (n0:=1) (by rfl) (.trans (b:=Zt K a0 (Ade K a0 (Ac (Rh K) 1))) (by kernel_rfl) (by rw[AqB]<;>rfl))
theorem AqC (a0:Int×Int×Int) (a1:List Int) (a2:List (tV×Int)) (F9:Fr→Option (Int×Int×Bool)) (bq10:Int):Adj K a0 a1 a2 F9 bq10 (Ac (TN K) 2)=fun q10 bq12=>M5 K a0 a1 a2 q10 (fun v0=>F9 (JJ a0 a1 a2 v0)) K bq12:=by
  funext q10 bq12;exact Ae (fun x=>(VP a0 a1 a2 q10 x)) (fun L x=>by kernel_rfl) K bq12
theorem Avr (a0:Int×Int×Int) (a1:List Int) (a2:List (tV×Int)):Aji K a0 a1 a2 (Ac (TN K) 2)=fun bq10=>Oi K a0 a1 a2 K bq10:=by
  funext bq10;refine Ae (fun x=>(JJ a0 a1 a2 x)) (fun L x=>?_) K bq10;exact .trans (b:=TO K a0 a1 a2 (Adj K a0 a1 a2 L bq10 (Ac (TN K) 2)) (fun v0=>L (JJ a0 a1 a2 v0)) x) (by kernel_rfl) (by rw[AqC]<;>rfl)
theorem AqD (a0:Int×Int×Int) (a1:List Int) (a2:List (tV×Int)):rM (TN K) Tryz.f50 (AoI K) (a0,a1,a2,())=Afs K a0 a1 a2 :=
  Az (n0:=2) (by rfl) (.trans (b:=Ajg K a0 a1 a2 (Aji K a0 a1 a2 (Ac (TN K) 2))) (by kernel_rfl) (by rw[Avr]<;>rfl))
theorem Avs (a0:ByteArray):Ajk K a0 (Ac (Aft K) 0)=fun y1 bq5 bq6 bq7 bq8 bq9 bq10 bq11 bq12=>Oj K a0 y1 K bq5 bq6 bq7 bq8 bq9 bq10 bq11 bq12:=by
  funext y1 bq5 bq6 bq7 bq8 bq9 bq10 bq11 bq12;exact Ae (fun x=>(Abp a0 y1 x.1 x.2.1 x.2.2.1 x.2.2.2.1 x.2.2.2.2.1 x.2.2.2.2.2.1 x.2.2.2.2.2.2.1 x.2.2.2.2.2.2.2)) (fun L x=>by kernel_rfl) K (bq5,bq6,bq7,bq8,bq9,bq10,bq11,bq12)
theorem AqE (a0:ByteArray):Ae7 (Aft K) Tryz.f21 (.cons sI (.cons sL (.cons sI (.cons (.list 78 sM) (.list 61 (.cons sV sI)))))) [(.ro,.str)] [sI,sI] (a0,())=Zv K a0 :=
  AwT (n0:=0) (by rfl) (.trans (b:=Ajj K a0 (Ajk K a0 (Ac (Aft K) 0))) (by kernel_rfl) (by rw[Avs]<;>rfl))
theorem Avt (a0:ByteArray) (y1:Option (Int×tL×Int×(List tM)×List (tV×Int))×Int×Int) (y4:List Int) (z2:Int×tL×Int×(List tM)×List (tV×Int)) (F12:Fr→Option ((Int×tL×List Int)×Int×Int)) (bq13:Int) (bq14:List Int):Ajn K a0 y1 y4 z2 F12 bq13 bq14 (Ac (f7E K) 0)=fun q13 bq16 bq17=>Ok K a0 q13 y1 y4 z2 (fun v0 v1=>F12 (JK a0 y1 y4 z2 v0 v1)) K bq16 bq17:=by
  funext q13 bq16 bq17;exact Ae (fun x=>(Abq a0 q13 y1 y4 z2 x.1 x.2)) (fun L x=>by kernel_rfl) K (bq16,bq17)
theorem Avu (a0:ByteArray):Ajm K a0 (Ac (f7E K) 0)=fun y1 y4 z2 bq13 bq14=>K6 K a0 y1 y4 z2 K bq13 bq14:=by
  funext y1 y4 z2 bq13 bq14;refine Ae (fun x=>(JK a0 y1 y4 z2 x.1 x.2)) (fun L x=>?_) K (bq13,bq14);exact .trans (b:=TP K a0 y1 y4 z2 (Ajn K a0 y1 y4 z2 L bq13 bq14 (Ac (f7E K) 0)) (fun v0 v1=>L (JK a0 y1 y4 z2 v0 v1)) x.1 x.2) (by kernel_rfl) (by rw[Avt]<;>rfl)
theorem Avv (a0:ByteArray):rM (f7E K) Tryz.f7 (f7M K) (a0,())=f7G K a0 :=
  Az (n0:=0) (by rfl) (.trans (b:=AuH K a0 (Ajm K a0 (Ac (f7E K) 0))) (by kernel_rfl) (by rw[Avu]<;>rfl))
theorem Avw (a0:List Int):Ajq K a0 (Ac (Afu K) 1)=fun y2 bq6 bq7 bq8 bq9=>TQ K a0 y2 K bq6 bq7 bq8 bq9:=by
  funext y2 bq6 bq7 bq8 bq9;exact Ae (fun x=>(Abr a0 y2 x.1 x.2.1 x.2.2.1 x.2.2.2)) (fun L x=>by kernel_rfl) K (bq6,bq7,bq8,bq9)
theorem AqF (a0:List Int):rM (Afu K) Tryz.f12 (AoN K) (a0,())=Ajp K a0 :=
  Az (n0:=1) (by rfl) (.trans (b:=Ajo K a0 (Ajq K a0 (Ac (Afu K) 1))) (by kernel_rfl) (by rw[Avw]<;>rfl))
theorem AqG (a0:List Int) (a1:(Int→Option Bool)):Adn K a0 a1 (Ac (Rj K) 1)=fun bq4=>TR K a0 a1 K bq4:=by
  funext bq4;exact Ae (fun x=>(VQ a0 a1 x)) (fun L x=>by kernel_rfl) K bq4
theorem Alo (a0:List Int) (a1:(Int→Option Bool)):rM (Rj K) Tryz.f168 (Adm K) (a0,a1,())=Adl K a0 a1 :=
  Az (n0:=1) (by rfl) (.trans (b:=Zy K a0 a1 (Adn K a0 a1 (Ac (Rj K) 1))) (by kernel_rfl) (by rw[AqG]<;>rfl))
theorem AqH (a0:ByteArray) (a1:List Int):Ado K a0 a1 (Ac (Rk K) 1)=fun bq4 bq5=>M7 K a0 a1 K bq4 bq5:=by
  funext bq4 bq5;exact Ae (fun x=>(VS a0 a1 x.1 x.2)) (fun L x=>by kernel_rfl) K (bq4,bq5)
theorem Alp (a0:ByteArray) (a1:List Int):rM (Rk K) Tryz.f121 (WQ K) (a0,a1,())=Rm K a0 a1 :=
  Az (n0:=1) (by rfl) (.trans (b:=Zz K a0 a1 (Ado K a0 a1 (Ac (Rk K) 1))) (by kernel_rfl) (by rw[AqH]<;>rfl))
theorem Avx (a0:Int×tL×List Int) (a1:List tV):Ajz K a0 a1 (Ac (Afv K) 2)=fun bq6 bq7 bq8=>Ajw K a0 a1 K bq6 bq7 bq8:=by
  funext bq6 bq7 bq8;exact Ae (fun x=>(Abs a0 a1 x.1 x.2.1 x.2.2)) (fun L x=>by kernel_rfl) K (bq6,bq7,bq8)
theorem AqI (a0:Int×tL×List Int) (a1:List tV):rM (Afv K) Tryz.f29 (AoS K) (a0,a1,())=Ajy K a0 a1 :=
  Az (n0:=2) (by rfl) (.trans (b:=Ajx K a0 a1 (Ajz K a0 a1 (Ac (Afv K) 2))) (by kernel_rfl) (by rw[Avx]<;>rfl))
theorem Avy (a0 a1:List Int):AjC K a0 a1 (Ac (Afw K) 2)=fun bq3=>ZA K a0 a1 K bq3:=by
  funext bq3;exact Ae (fun x=>(Abt a0 a1 x)) (fun L x=>by kernel_rfl) K bq3
theorem AqJ (a0 a1:List Int):rM (Afw K) Tryz.f36 (AoW K) (a0,a1,())=AjB K a0 a1 :=
  Az (n0:=2) (by rfl) (.trans (b:=AjA K a0 a1 (AjC K a0 a1 (Ac (Afw K) 2))) (by kernel_rfl) (by rw[Avy]<;>rfl))
theorem Avz (a0 a1:List tM):AjG K a0 a1 (Ac (Afx K) 2)=fun bq3=>ZB K a0 a1 K bq3:=by
  funext bq3;exact Ae (fun x=>(Abu a0 a1 x)) (fun L x=>by kernel_rfl) K bq3
theorem AqK (a0 a1:List tM):rM (Afx K) Tryz.f16 (AoX K) (a0,a1,())=AjF K a0 a1 :=
  Az (n0:=2) (by rfl) (.trans (b:=AjE K a0 a1 (AjG K a0 a1 (Ac (Afx K) 2))) (by kernel_rfl) (by rw[Avz]<;>rfl))
theorem AvA (a0:Int×tL×List Int) (a1:tA×Int×Int):AjI K a0 a1 (Ac (Afy K) 1)=fun y1 bq6=>ZC K a0 a1 y1 K bq6:=by
  funext y1 bq6;exact Ae (fun x=>(Abv a0 a1 y1 x)) (fun L x=>by kernel_rfl) K bq6
theorem AqL (a0:Int×tL×List Int) (a1:tA×Int×Int):rM (Afy K) Tryz.f76 (AoZ K) (a0,a1,())=Afz K a0 a1 :=
  Az (n0:=1) (by rfl) (.trans (b:=AjH K a0 a1 (AjI K a0 a1 (Ac (Afy K) 1))) (by kernel_rfl) (by rw[AvA]<;>rfl))
theorem AvB (a0:Int×tL×List Int) (a1:List tM):AjL K a0 a1 (Ac (AfA K) 2)=fun bq4=>ZD K a0 a1 K bq4:=by
  funext bq4;exact Ae (fun x=>(Abw a0 a1 x)) (fun L x=>by kernel_rfl) K bq4
theorem AqM (a0:Int×tL×List Int) (a1:List tM):rM (AfA K) Tryz.f38 (Ao0 K) (a0,a1,())=AjK K a0 a1 :=
  Az (n0:=2) (by rfl) (.trans (b:=AjJ K a0 a1 (AjL K a0 a1 (Ac (AfA K) 2))) (by kernel_rfl) (by rw[AvB]<;>rfl))
end Go.Proofs.YtkemdhpdfaejgaaGreatDoor.X
