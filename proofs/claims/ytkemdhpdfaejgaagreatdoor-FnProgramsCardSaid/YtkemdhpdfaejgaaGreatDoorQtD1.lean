/- Functions of the program as plain Lean functions, and that the program does what they say. Printed by gen.py. -/
import Derived.Test.YtkemdhpdfaejgaaGreatDoorQtD0
namespace Go.Proofs.YtkemdhpdfaejgaaGreatDoor.X
open Go
set_option maxRecDepth 100000
attribute [local instance] cwD
set_option linter.unusedVariables false
noncomputable section
variable (K:Nat)
include K
def Ayi:Env:=eE K [] [0,1,2,3,4]
def IV (K:Nat) (a0:Int×Int×Int×Int) (a1:Int×Int):Option tV :=
  some ((w ((w (a0.1*a1.1))+(w (a0.2.1*a1.2)))),(w ((w (a0.2.2.1*a1.1))+(w (a0.2.2.2*a1.2)))))
def Wm:Mdl:=⟨[(.ro,sA),(.ro,sV)],[sV],fun x=>IV K x.1 x.2.1⟩
def Ayj:Env:=eE K [] [0,1,3,4]
def Acw (K:Nat) (a0:Int) (a1:Int×Int):Option Int :=
  some (w ((w ((w (a1.1*a1.1))+(w ((w (a0*a1.1))*a1.2))))+(w (a1.2*a1.2))))
def As6:Mdl:=⟨[(.ro,sI),(.ro,sV)],[sI],fun x=>Acw K x.1 x.2.1⟩
def Q5:Env:=eE K [(163,Wm K),(256,As6 K)] [0,2,3,4,5,6,7,8,10,11,54]
def Aom (a0:Int) (L8:Int→(List tA)→Option (List tA)) (q9:Int) (q10:List tA):Option (List tA) :=
  (bif (decide (q9<(81:Int))) then (IV K ((w ((w (q9.tdiv (27:Int)))-(1:Int))),(w (((w (q9.tdiv (9:Int))).tmod (3:Int))-(1:Int))),(w (((w (q9.tdiv (3:Int))).tmod (3:Int))-(1:Int))),(w ((q9.tmod (3:Int))-(1:Int)))) ((1:Int),(0:Int))).bind fun y11=>(IV K ((w ((w (q9.tdiv (27:Int)))-(1:Int))),(w (((w (q9.tdiv (9:Int))).tmod (3:Int))-(1:Int))),(w (((w (q9.tdiv (3:Int))).tmod (3:Int))-(1:Int))),(w ((q9.tmod (3:Int))-(1:Int)))) ((0:Int),(1:Int))).bind fun y12=>(IV K ((w ((w (q9.tdiv (27:Int)))-(1:Int))),(w (((w (q9.tdiv (9:Int))).tmod (3:Int))-(1:Int))),(w (((w (q9.tdiv (3:Int))).tmod (3:Int))-(1:Int))),(w ((q9.tmod (3:Int))-(1:Int)))) ((1:Int),(1:Int))).bind fun y13=>(Acw K a0 y11).bind fun y14=>((bif (y14==(1:Int)) then Acw K a0 y12 else some (0:Int))).bind fun y15=>((bif (bif (y14==(1:Int)) then (y15==(1:Int)) else false) then Acw K a0 y13 else some (0:Int))).bind fun y16=>(bif (bif (bif (y14==(1:Int)) then (y15==(1:Int)) else false) then (y16==(w ((2:Int)+a0))) else false) then (bif (Nat.ble (q10.length+[((w ((w (q9.tdiv (27:Int)))-(1:Int))),(w (((w (q9.tdiv (9:Int))).tmod (3:Int))-(1:Int))),(w (((w (q9.tdiv (3:Int))).tmod (3:Int))-(1:Int))),(w ((q9.tmod (3:Int))-(1:Int))))].length) (lim 32)) then L8 (w (q9+(1:Int))) (q10++[((w ((w (q9.tdiv (27:Int)))-(1:Int))),(w (((w (q9.tdiv (9:Int))).tmod (3:Int))-(1:Int))),(w (((w (q9.tdiv (3:Int))).tmod (3:Int))-(1:Int))),(w ((q9.tmod (3:Int))-(1:Int))))]) else none) else L8 (w (q9+(1:Int))) q10) else some q10)
def Acx (a0:Int) (n:Nat) (q9:Int) (q10:List tA):Option (List tA) :=
  Ax (X:=Int×List tA) (fun L x=>Aom K a0 (fun v0 v1=>L (v0,v1)) x.1 x.2) n (q9,q10)
def AiC (K:Nat) (a0:Int) (I8:Int→(List tA)→Option (List tA)):Option (List tA) :=
  I8 (0:Int) []
def Q6 (a0:Int):Option (List tA) :=
  AiC K a0 (fun d0 d1=>Acx K a0 K d0 d1)
def Acy:Mdl:=⟨[(.ro,sI)],[(.list 76 sA)],fun x=>Q6 K x.1⟩
def Aon (a0:Int) (lr:LR (List tA)):Ex→Fr→Option (List tA) :=
  Ak (Q5 K) 0 lr Asz [1,1,0,1,0] (fM (Q5 K) Tryz.f221 (Acy K) (a0,()))
def Acz (a0:Int) (lr:LR (List tA)) (bq9:Int) (bq10:List tA):Option (List tA) :=
  lr (AB Asz [1,1,0,1,0,0]) (VC a0 bq9 bq10) (Aon K a0 lr)
def Ayk:Env:=eE K [] [0,1,4]
def Wn (K:Nat) (a0 a1:Int):Option Int :=
  (bif (a1 != 0) then (bif (a1 != 0) then some ((w ((a0.tmod a1)+a1)).tmod a1) else none) else none)
def As7:Mdl:=⟨[(.ro,sI),(.ro,sI)],[sI],fun x=>Wn K x.1 x.2.1⟩
def Az7:Env:=eE K [(155,As7 K)] [0,1,2,3,4,5]
def Mu (a0:Int×Int×Int) (a1:Int×Int):Option tV :=
  (Wn K a1.2 a0.2.2).bind fun y1=>(bif (a0.2.2 != 0) then (Wn K (w (a1.1-(w ((w ((w (a1.2-y1)).tdiv a0.2.2))*a0.2.1)))) a0.1).bind fun y2=>some (y2,y1) else none)
def Wo:Mdl:=⟨[(.ro,sL),(.ro,sV)],[sV],fun x=>Mu K x.1 x.2.1⟩
def Ayl:Env:=eE K [(97,Wo K)] [0,1,2,3,4]
def Wp (a0:Int×Int×Int) (a1:Int×Int):Option Bool :=
  (Mu K a0 a1).bind fun y1=>some ((y1.1==(0:Int))&&(y1.2==(0:Int)))
def As8:Mdl:=⟨[(.ro,sL),(.ro,sV)],[.bool],fun x=>Wp K x.1 x.2.1⟩
def Aym:Env:=eE K [(163,Wm K),(223,As8 K)] [0,1,2,3,4,5]
def AcA (a0:Int×Int×Int×Int) (a1:Int×Int×Int) (a2 a3:Int×Int):Option Bool :=
  (IV K a0 a2).bind fun y1=>(Wp K a1 y1).bind fun y2=>((bif (!(!y2)) then IV K a0 a3 else some ((0:Int),(0:Int)))).bind fun y3=>((bif (!(!y2)) then Wp K a1 y3 else some false)).bind fun y4=>some (bif (!y2) then true else (!y4))
def AiD:Mdl:=⟨[(.ro,sA),(.cap,sL),(.cap,sV),(.cap,sV)],[.bool],fun x=>AcA K x.1 x.2.1 x.2.2.1 x.2.2.2.1⟩
def Q7:Env:=eE K [] [0,1,4,5,7,8,9,16]
def MP (K:Nat) (a0:List tA) (a1:(tA→Option Bool)) (L3:Int→Option Int) (q4:Int):Option Int :=
  (bif (decide (q4<(a0.length:Int))) then (bif (decide (0≤q4)&&decide (q4<(a0.length:Int))) then (a1 ((a0.getD ((0:Int)+q4).toNat zA).1,((a0.getD ((0:Int)+q4).toNat zA).2).1,(((a0.getD ((0:Int)+q4).toNat zA).2).2))).bind fun y5=>(bif y5 then some q4 else L3 (w (q4+(1:Int)))) else none) else some (-1:Int))
def Tt (a0:List tA) (a1:(tA→Option Bool)) (n:Nat) (q4:Int):Option Int :=
  Ax (X:=Int) (fun L x=>MP K a0 a1 (fun v0=>L v0) x) n q4
def Za (K:Nat) (a0:List tA) (a1:(tA→Option Bool)) (I3:Int→Option Int):Option Int :=
  I3 (0:Int)
def Wq (a0:List tA) (a1:(tA→Option Bool)):Option Int :=
  Za K a0 a1 (fun d0=>Tt K a0 a1 K d0)
def AcB:Mdl:=⟨[(.ro,(.list 76 sA)),(.ro,(.fn1 sA .bool))],[sI],fun x=>Wq K x.1 x.2.1⟩
def Aoo (a0:List tA) (a1:(tA→Option Bool)) (lr:LR Int):Ex→Fr→Option Int :=
  Ak (Q7 K) 1 lr AsA [1,0,1,0] (fM (Q7 K) Tryz.f255 (AcB K) (a0,a1,()))
def AcC (a0:List tA) (a1:(tA→Option Bool)) (lr:LR Int) (bq4:Int):Option Int :=
  lr (AB AsA [1,0,1,0,0]) (VD a0 a1 bq4) (Aoo K a0 a1 lr)
def Q8:Env:=eE K [(255,AcB K)] [0,1,4,5,6,7,12,19,29]
def MQ (K:Nat) (a1:(tA→Option Bool)) (y1:Int) (L4:Int→Int→(List tA)→Option (List tA)) (q5 q6:Int) (q7:List tA):Option (List tA) :=
  (bif (decide (q6<(q7.length:Int))) then (bif (decide (0≤q6)&&decide (q6<(q7.length:Int))) then (a1 ((q7.getD ((0:Int)+q6).toNat zA).1,((q7.getD ((0:Int)+q6).toNat zA).2).1,(((q7.getD ((0:Int)+q6).toNat zA).2).2))).bind fun y8=>(bif (!y8) then (bif (decide (0≤q5)&&decide (q5<(q7.length:Int))) then L4 (w (q5+(1:Int))) (w (q6+(1:Int))) (q7.set ((0:Int)+q5).toNat ((q7.getD ((0:Int)+q6).toNat zA).1,((q7.getD ((0:Int)+q6).toNat zA).2).1,(((q7.getD ((0:Int)+q6).toNat zA).2).2))) else none) else L4 q5 (w (q6+(1:Int))) q7) else none) else (bif (decide (0≤q5)&&decide (q5≤(q7.length:Int))&&decide ((q7.length:Int)≤(q7.length:Int))) then (bif (decide (0≤(0:Int))&&decide ((0:Int)≤q5)&&decide (q5≤((clr q7 ((0:Int)+q5).toNat (((0:Int)+q5)+(((0:Int)+(q7.length:Int))-((0:Int)+q5))).toNat zA).length:Int))) then some ((clr q7 ((0:Int)+q5).toNat (((0:Int)+q5)+(((0:Int)+(q7.length:Int))-((0:Int)+q5))).toNat zA).take ((0:Int)+q5).toNat) else none) else none))
def Tu (a1:(tA→Option Bool)) (y1:Int) (n:Nat) (q5 q6:Int) (q7:List tA):Option (List tA) :=
  Ax (X:=Int×Int×List tA) (fun L x=>MQ K a1 y1 (fun v0 v1 v2=>L (v0,v1,v2)) x.1 x.2.1 x.2.2) n (q5,q6,q7)
def Zb (a0:List tA) (a1:(tA→Option Bool)) (I4:Int→Int→Int→(List tA)→Option (List tA)):Option (List tA) :=
  (Wq K a0 a1).bind fun y1=>(bif (y1==(-1:Int)) then some a0 else I4 y1 y1 (w (y1+(1:Int))) a0)
def Wr (a0:List tA) (a1:(tA→Option Bool)):Option (List tA) :=
  Zb K a0 a1 (fun c0 d0 d1 d2=>Tu K a1 c0 K d0 d1 d2)
def AcD:Mdl:=⟨[(.mv,(.list 76 sA)),(.ro,(.fn1 sA .bool))],[(.list 76 sA)],fun x=>Wr K x.1 x.2.1⟩
def Aop (a0:List tA) (a1:(tA→Option Bool)) (lr:LR (List tA)):Ex→Fr→Option (List tA) :=
  Ak (Q8 K) 1 lr AsB [1,1,1,0,1,0] (fM (Q8 K) Tryz.f220 (AcD K) (a0,a1,()))
def AcE (a0:List tA) (a1:(tA→Option Bool)) (lr:LR (List tA)) (y1 bq5 bq6:Int) (bq7:List tA):Option (List tA) :=
  lr (AB AsB [1,1,1,0,1,0,0]) (VE a1 y1 bq5 bq6 bq7) (Aop K a0 a1 lr)
def Ayn:Env:=⟨[(219,As5 K),(220,AcD K),(221,Acy K),(222,AiD K)],tys,eqs,mts,K,[0,1,3,4,5,6],[],[],[],[],[(222,AiD K)],[],false⟩
def Ws (a0:Int) (a1:Int×Int×Int):Option (List tA) :=
  (AiB K a1).bind fun y1=>(Q6 K a0).bind fun y2=>(Wr K y2 (fun z3=>AcA K z3 a1 y1.1 y1.2)).bind fun y4=>some y4
def AiE:Mdl:=⟨[(.ro,sI),(.ro,sL)],[(.list 76 sA)],fun x=>Ws K x.1 x.2.1⟩
def Q9:Env:=eE K [] [0,1,3,4,5,7,8,9,16]
def MR (K:Nat) (a0:List tA) (a1:Int×Int×Int×Int) (L2:Int→Option Int) (q3:Int):Option Int :=
  (bif (decide (q3<(a0.length:Int))) then (bif (decide (0≤q3)&&decide (q3<(a0.length:Int))) then (bif ((a1.1==(a0.getD ((0:Int)+q3).toNat zA).1)&&((a1.2.1==((a0.getD ((0:Int)+q3).toNat zA).2).1)&&((a1.2.2.1==(((a0.getD ((0:Int)+q3).toNat zA).2).2).1)&&(a1.2.2.2==(((a0.getD ((0:Int)+q3).toNat zA).2).2).2)))) then some q3 else L2 (w (q3+(1:Int)))) else none) else some (-1:Int))
def Tv (a0:List tA) (a1:Int×Int×Int×Int) (n:Nat) (q3:Int):Option Int :=
  Ax (X:=Int) (fun L x=>MR K a0 a1 (fun v0=>L v0) x) n q3
def Zc (K:Nat) (a0:List tA) (a1:Int×Int×Int×Int) (I2:Int→Option Int):Option Int :=
  I2 (0:Int)
def Wt (a0:List tA) (a1:Int×Int×Int×Int):Option Int :=
  Zc K a0 a1 (fun d0=>Tv K a0 a1 K d0)
def AcF:Mdl:=⟨[(.ro,(.list 76 sA)),(.ro,sA)],[sI],fun x=>Wt K x.1 x.2.1⟩
def Aoq (a0:List tA) (a1:Int×Int×Int×Int) (lr:LR Int):Ex→Fr→Option Int :=
  Ak (Q9 K) 1 lr AsC [1,0,1,0] (fM (Q9 K) Tryz.f224 (AcF K) (a0,a1,()))
def AcG (a0:List tA) (a1:Int×Int×Int×Int) (lr:LR Int) (bq3:Int):Option Int :=
  lr (AB AsC [1,0,1,0,0]) (VF a0 a1 bq3) (Aoq K a0 a1 lr)
def Ayo:Env:=eE K [(224,AcF K)] [0,1,3,4]
def Wu (a0:List tA) (a1:Int×Int×Int×Int):Option Bool :=
  (Wt K a0 a1).bind fun y1=>some (decide (y1≥(0:Int)))
def AiF:Mdl:=⟨[(.ro,(.list 76 sA)),(.ro,sA)],[.bool],fun x=>Wu K x.1 x.2.1⟩
def Ayp:Env:=eE K [(120,Q2 K),(172,AiE K),(173,AiF K)] [0,1,2,4,5,6]
def AcH (a0:Int) (a1:Int×Int×Int) (a2:tA×Int×Int):Option Bool :=
  (LU K a2.2).bind fun y1=>((bif y1 then Ws K a0 a1 else some [])).bind fun y2=>((bif y1 then Wu K (bif y1 then y2 else []) a2.1 else some false)).bind fun y3=>some (bif y1 then y3 else false)
def As9:Mdl:=⟨[(.ro,sI),(.ro,sL),(.ro,sM)],[.bool],fun x=>AcH K x.1 x.2.1 x.2.2.1⟩
def Ayq:Env:=eE K [(97,Wo K)] [0,1,2,3,4]
def Ra (a0:Int×Int×Int) (a1:tA×Int×Int):Option tM :=
  (Mu K a0 a1.2).bind fun y1=>some (a1.1,y1)
def AcI:Mdl:=⟨[(.ro,sL),(.ro,sM)],[sM],fun x=>Ra K x.1 x.2.1⟩
def Az8:Env:=eE K [(111,AcI K),(146,As4 K),(147,As9 K)] [0,1,2,6,7,8,14,17,20,27]
def Auw (a0:Int×Int×tL×(List tM)×List (tV×Int)) (a1:ByteArray) (a2:Int):Option ((Int×Int×tL×(List tM)×List (tV×Int))×Int) :=
  (Wl K a1).bind fun y1=>(bif (!y1.2) then some (a0,(6:Int)) else (bif (decide (a2<(2:Int))) then some (a0,(5:Int)) else (bif ((a0.2.2.2.1.length:Int)==(8:Int)) then some (a0,(3:Int)) else (AcH K a0.2.1 a0.2.2.1 y1.1).bind fun y2=>(bif (!y2) then some (a0,(2:Int)) else (Ra K a0.2.2.1 y1.1).bind fun y3=>(bif (Nat.ble (a0.2.2.2.1.length+[y3].length) (lim 48)) then some ((a0.1,a0.2.1,a0.2.2.1,(a0.2.2.2.1++[y3]),a0.2.2.2.2),(0:Int)) else none)))))
def Ayr:Qa:=⟨(.cons sI (.cons sI (.cons sL (.cons (.list 78 sM) (.list 61 (.cons sV sI)))))),[(.ro,.str),(.ro,sI)],[sI],fun x=>Auw K x.1 x.2.1 x.2.2.1⟩
def Az9:Env:=⟨[(45,Aoh K),(88,Ax3 K),(89,Ax4 K),(90,Ax5 K)],tys,eqs,mts,K,[0,1,4,5,6,7,8,9,23,42,48,49,63,71,81,89],[],[],[(87,Ax2 K),(91,Ayr K)],[],[],[],false⟩
def AiG (a0:Int×Int×tL×(List tM)×List (tV×Int)) (a1:ByteArray):Option ((Int×Int×tL×(List tM)×List (tV×Int))×Int) :=
  (Y5 K a1 (bs [32])).bind fun y1=>(bif (decide (0≤(0:Int))&&decide ((0:Int)<(y1.length:Int))) then (bif (bif ((y1.getD ((0:Int)+(0:Int)).toNat ByteArray.empty)==(bs [109,97,114,107])) then ((y1.length:Int)==(3:Int)) else false) then (bif (decide (0≤(1:Int))&&decide ((1:Int)<(y1.length:Int))) then (bif (decide (0≤(2:Int))&&decide ((2:Int)<(y1.length:Int))) then (Auv K ((w (a0.1+(1:Int))),a0.2) (y1.getD ((0:Int)+(1:Int)).toNat ByteArray.empty) (y1.getD ((0:Int)+(2:Int)).toNat ByteArray.empty) a0.1).bind fun y2=>some y2 else none) else none) else (bif ((y1.length:Int) != (2:Int)) then some (((w (a0.1+(1:Int))),a0.2),(6:Int)) else (bif (decide (0≤(0:Int))&&decide ((0:Int)<(y1.length:Int))) then (bif ((y1.getD ((0:Int)+(0:Int)).toNat ByteArray.empty)==(bs [102,114,97,109,101])) then (bif (decide (0≤(1:Int))&&decide ((1:Int)<(y1.length:Int))) then (Aok K (bs [83,72]) (y1.getD ((0:Int)+(1:Int)).toNat ByteArray.empty)).bind fun y3=>(bif (decide (0≤(1:Int))&&decide ((1:Int)<(y1.length:Int))) then (bif (bif (((y1.getD ((0:Int)+(1:Int)).toNat ByteArray.empty).size:Int) != (1:Int)) then true else (decide (y3<(0:Int)))) then some (((w (a0.1+(1:Int))),a0.2),(6:Int)) else (Y8 K (a0.1==(0:Int))).bind fun y4=>some (((w (a0.1+(1:Int))),y3,a0.2.2),y4)) else none) else none) else (bif ((y1.getD ((0:Int)+(0:Int)).toNat ByteArray.empty)==(bs [108,97,116,116,105,99,101])) then (bif (decide (0≤(1:Int))&&decide ((1:Int)<(y1.length:Int))) then (Aol K (y1.getD ((0:Int)+(1:Int)).toNat ByteArray.empty)).bind fun y5=>(bif (!y5.2) then some (((w (a0.1+(1:Int))),a0.2),(6:Int)) else (Y8 K (a0.1==(1:Int))).bind fun y6=>some (((w (a0.1+(1:Int))),a0.2.1,y5.1,a0.2.2.2),y6)) else none) else (bif ((y1.getD ((0:Int)+(0:Int)).toNat ByteArray.empty)==(bs [109,111,116,105,111,110])) then (bif (decide (0≤(1:Int))&&decide ((1:Int)<(y1.length:Int))) then (Auw K ((w (a0.1+(1:Int))),a0.2) (y1.getD ((0:Int)+(1:Int)).toNat ByteArray.empty) a0.1).bind fun y7=>some y7 else none) else some (((w (a0.1+(1:Int))),a0.2),(6:Int))))) else none))) else none)
def Ays:Qa:=⟨(.cons sI (.cons sI (.cons sL (.cons (.list 78 sM) (.list 61 (.cons sV sI)))))),[(.ro,.str)],[sI],fun x=>AiG K x.1 x.2.1⟩
def Ayt:Env:=eE K [] [0,1,2,3,4]
def AiH (K:Nat) (a0 a1:Int×Int×Int×Int):Option tA :=
  some ((w ((w (a0.1*a1.1))+(w (a0.2.1*a1.2.2.1)))),(w ((w (a0.1*a1.2.1))+(w (a0.2.1*a1.2.2.2)))),(w ((w (a0.2.2.1*a1.1))+(w (a0.2.2.2*a1.2.2.1)))),(w ((w (a0.2.2.1*a1.2.1))+(w (a0.2.2.2*a1.2.2.2)))))
def Ata:Mdl:=⟨[(.ro,sA),(.ro,sA)],[sA],fun x=>AiH K x.1 x.2.1⟩
def Ayu:Env:=eE K [] [0,1,2,3,4]
def Wv (K:Nat) (a0 a1:Int×Int):Option tV :=
  some ((w (a0.1+a1.1)),(w (a0.2+a1.2)))
def AiI:Mdl:=⟨[(.ro,sV),(.ro,sV)],[sV],fun x=>Wv K x.1 x.2.1⟩
def Ayv:Env:=eE K [(162,Ata K),(163,Wm K),(164,AiI K)] [0,1,2,3,4]
def Ww (a0 a1:tA×Int×Int):Option tM :=
  (AiH K a0.1 a1.1).bind fun y1=>(IV K a0.1 a1.2).bind fun y2=>(Wv K y2 a0.2).bind fun y3=>some (y1,y3)
def AiJ:Mdl:=⟨[(.ro,sM),(.ro,sM)],[sM],fun x=>Ww K x.1 x.2.1⟩
def Rb:Env:=eE K [] [0,1,4,5,7,8,9,19,28]
def Tw (K:Nat) (a0 a1:List Int) (L2:Int→Option Int) (q3:Int):Option Int :=
  (bif (decide (q3<(a0.length:Int))) then (bif (decide (0≤q3)&&decide (q3<(a0.length:Int))) then (bif (decide (0≤q3)&&decide (q3<(a1.length:Int))) then (bif ((a0.getD ((0:Int)+q3).toNat (0:Int)) != (a1.getD ((0:Int)+q3).toNat (0:Int))) then (bif (decide (0≤q3)&&decide (q3<(a0.length:Int))) then (bif (decide (0≤q3)&&decide (q3<(a1.length:Int))) then (bif (decide ((a0.getD ((0:Int)+q3).toNat (0:Int))<(a1.getD ((0:Int)+q3).toNat (0:Int)))) then some (-1:Int) else some (1:Int)) else none) else none) else L2 (w (q3+(1:Int)))) else none) else none) else some (0:Int))
def MS (a0 a1:List Int) (n:Nat) (q3:Int):Option Int :=
  Ax (X:=Int) (fun L x=>Tw K a0 a1 (fun v0=>L v0) x) n q3
def Zd (K:Nat) (a0 a1:List Int) (I2:Int→Option Int):Option Int :=
  I2 (0:Int)
def Rc (a0 a1:List Int):Option Int :=
  Zd K a0 a1 (fun d0=>MS K a0 a1 K d0)
def Wx:Mdl:=⟨[(.ro,(.list 2 sI)),(.ro,(.list 2 sI))],[sI],fun x=>Rc K x.1 x.2.1⟩
def Aor (a0 a1:List Int) (lr:LR Int):Ex→Fr→Option Int :=
  Ak (Rb K) 2 lr AsD [1,0,1,0] (fM (Rb K) Tryz.f198 (Wx K) (a0,a1,()))
def AcJ (a0 a1:List Int) (lr:LR Int) (bq3:Int):Option Int :=
  lr (AB AsD [1,0,1,0,0]) (VG a0 a1 bq3) (Aor K a0 a1 lr)
def Ayw:Env:=eE K [(198,Wx K)] [0,1,2,3,4]
def AiK (a0 a1:Int×Int×Int×Int):Option Int :=
  (Rc K [a0.1,a0.2.1,a0.2.2.1,a0.2.2.2] [a1.1,a1.2.1,a1.2.2.1,a1.2.2.2]).bind fun y1=>some y1
def Atb:Mdl:=⟨[(.ro,sA),(.ro,sA)],[sI],fun x=>AiK K x.1 x.2.1⟩
def Ayx:Env:=eE K [(198,Wx K)] [0,1,2,3,4]
def LV (a0 a1:Int×Int):Option Int :=
  (Rc K [a0.1,a0.2] [a1.1,a1.2]).bind fun y1=>some y1
def AcK:Mdl:=⟨[(.ro,sV),(.ro,sV)],[sI],fun x=>LV K x.1 x.2.1⟩
def Ayy:Env:=eE K [(153,AcK K),(167,Atb K)] [0,1,2,3,4,5,12]
def Oa (a0 a1:tA×Int×Int):Option Int :=
  (AiK K a0.1 a1.1).bind fun y1=>(bif (y1 != (0:Int)) then some y1 else (LV K a0.2 a1.2).bind fun y2=>some y2)
def AcL:Mdl:=⟨[(.ro,sM),(.ro,sM)],[sI],fun x=>Oa K x.1 x.2.1⟩
omit K
def AcM (K:Nat) (a0:List tM) (a1:tM→tM→Option Int):Option (List tM):=PL sM a0 a1
def Atc (K:Nat):Mdl:=⟨[(.io,(.list 78 sM)),(.ro,(.fn2 sM sM sI))],[],fun x=>AcM K x.1 x.2.1⟩
include K
def Tx:Env:=⟨[(110,Acs K),(111,AcI K),(112,AiJ K),(113,Atc K),(114,AcL K)],tys,eqs,mts,K,[0,1,2,4,5,6,7,9,10,22,25,26,27,28,42],[],[],[],[],[(114,AcL K)],[],false⟩
def Tz (a0:Int×Int×Int) (a1:List tM) (q13:Int) (q15:List tM) (L12:Int→(List (tM×Bool))→(List tM)→Option (List tM)) (L16:Int→(List (tM×Bool))→(List tM)→Option (List tM)) (q17:Int) (q18:List (tM×Bool)) (q19:List tM):Option (List tM) :=
  (bif (decide (q17<(a1.length:Int))) then (bif (decide (0≤q17)&&decide (q17<(a1.length:Int))) then (bif (decide (0≤q13)&&decide (q13<(q19.length:Int))) then (Ww K ((((a1.getD ((0:Int)+q17).toNat zM).1).1,(((a1.getD ((0:Int)+q17).toNat zM).1).2).1,((((a1.getD ((0:Int)+q17).toNat zM).1).2).2)),((a1.getD ((0:Int)+q17).toNat zM).2)) ((((q19.getD ((0:Int)+q13).toNat zM).1).1,(((q19.getD ((0:Int)+q13).toNat zM).1).2).1,((((q19.getD ((0:Int)+q13).toNat zM).1).2).2)),((q19.getD ((0:Int)+q13).toNat zM).2))).bind fun y20=>(Ra K a0 y20).bind fun y21=>(bif (!((B2 (A7 sM) q18 y21).getD false)) then (bif (Nat.ble (q19.length+[y21].length) (lim 48)) then L16 (w (q17+(1:Int))) (EV (A7 sM) q18 y21 true) (q19++[y21]) else none) else L16 (w (q17+(1:Int))) q18 q19) else none) else none) else L12 (w (q13+(1:Int))) q18 q19)
def JY (a0:Int×Int×Int) (a1:List tM) (q13:Int) (q15:List tM) (L12:Int→(List (tM×Bool))→(List tM)→Option (List tM)) (n:Nat) (q17:Int) (q18:List (tM×Bool)) (q19:List tM):Option (List tM) :=
  Ax (X:=Int×List (tM×Bool)×List tM) (fun L x=>Tz K a0 a1 q13 q15 L12 (fun v0 v1 v2=>L (v0,v1,v2)) x.1 x.2.1 x.2.2) n (q17,q18,q19)
def MT (a0:Int×Int×Int) (a1:List tM) (I16:Int→(List tM)→Int→(List (tM×Bool))→(List tM)→Option (List tM)) (L12:Int→(List (tM×Bool))→(List tM)→Option (List tM)) (q13:Int) (q14:List (tM×Bool)) (q15:List tM):Option (List tM) :=
  (bif (decide (q13<(q15.length:Int))) then I16 q13 q15 (0:Int) q14 q15 else (AcM K q15 (fun z22 z23=>Oa K z22 z23)).bind fun y24=>some y24)
def Gk (a0:Int×Int×Int) (a1:List tM) (n:Nat) (q13:Int) (q14:List (tM×Bool)) (q15:List tM):Option (List tM) :=
  Ax (X:=Int×List (tM×Bool)×List tM) (fun L x=>(fun L12=>MT K a0 a1 (fun c0 c1 d0 d1 d2=>JY K a0 a1 c0 c1 L12 K d0 d1 d2) L12 x.1 x.2.1 x.2.2) (fun v0 v1 v2=>L (v0,v1,v2))) n (q13,q14,q15)
def AiL (a0:Int×Int×Int) (a1:List tM) (I12:Int→(List (tM×Bool))→(List tM)→Option (List tM)):Option (List tM) :=
  (N9 K).bind fun y1=>(bif (decide (0≤(0:Int))&&decide ((0:Int)<([(y1,(0:Int),(0:Int))].length:Int))) then I12 (0:Int) (EV (A7 sM) [] (((([(y1,(0:Int),(0:Int))].getD ((0:Int)+(0:Int)).toNat zM).1).1,((([(y1,(0:Int),(0:Int))].getD ((0:Int)+(0:Int)).toNat zM).1).2).1,(((([(y1,(0:Int),(0:Int))].getD ((0:Int)+(0:Int)).toNat zM).1).2).2)),(([(y1,(0:Int),(0:Int))].getD ((0:Int)+(0:Int)).toNat zM).2)) true) [(y1,(0:Int),(0:Int))] else none)
def Ob (a0:Int×Int×Int) (a1:List tM):Option (List tM) :=
  AiL K a0 a1 (fun d0 d1 d2=>Gk K a0 a1 K d0 d1 d2)
def Aos:Mdl:=⟨[(.ro,sL),(.ro,(.list 78 sM))],[(.list 78 sM)],fun x=>Ob K x.1 x.2.1⟩
def AcN (a0:Int×Int×Int) (a1:List tM) (lr:LR (List tM)):Ex→Fr→Option (List tM) :=
  Ak (Tx K) 1 lr Ano [1,1,1,0,1,0] (fM (Tx K) Tryz.f58 (Aos K) (a0,a1,()))
def AcO (a0:Int×Int×Int) (a1:List tM) (lr:LR (List tM)) (bq13:Int) (bq14:List (tM×Bool)) (bq15:List tM):Option (List tM) :=
  lr (AB Ano [1,1,1,0,1,0,0]) (Hm a0 a1 bq13 bq14 bq15) (AcN K a0 a1 lr)
def Aot (a0:Int×Int×Int) (a1:List tM) (F12:Fr→Option (List tM)) (bq13:Int) (bq14:List (tM×Bool)) (bq15:List tM) (lr:LR (List tM)):Ex→Fr→Option (List tM) :=
  Ak (Tx K) 1 lr (AB Ano [1,1,1,0,1,0,0]) [1,0,0,1,0] (D3 1 (Hm a0 a1 bq13 bq14 bq15) F12 (AcN K a0 a1 lr))
def AcP (a0:Int×Int×Int) (a1:List tM) (F12:Fr→Option (List tM)) (bq13:Int) (bq14:List (tM×Bool)) (bq15:List tM) (lr:LR (List tM)) (q13:Int) (q15:List tM) (bq17:Int) (bq18:List (tM×Bool)) (bq19:List tM):Option (List tM) :=
  lr (AB Ano [1,1,1,0,1,0,0,1,0,0,1,0,0]) (VH a0 a1 q13 q15 bq17 bq18 bq19) (Aot K a0 a1 F12 bq13 bq14 bq15 lr)
def AAa:Env:=eE K [(58,Aos K)] [0,2]
def Ze (a0:Int×Int×tL×(List tM)×List (tV×Int)):Option (List tM) :=
  (Ob K a0.2.2.1 a0.2.2.2.1).bind fun y1=>some y1
def Aux:Mdl:=⟨[(.cap,(.cons sI (.cons sI (.cons sL (.cons (.list 78 sM) (.list 61 (.cons sV sI)))))))],[(.list 78 sM)],fun x=>Ze K x.1⟩
def AAb:Env:=eE K [(117,Q1 K)] [0,2]
def AiM (a0:Int):Option Bool :=
  (IU K a0 (0:Int) (1:Int)).bind fun y1=>some y1
def Auy:Mdl:=⟨[(.ro,sI)],[.bool],fun x=>AiM K x.1⟩
def Ayz:Env:=eE K [(62,Auy K),(63,Aiv K)] [0,1,3,4,12]
def AcQ (a0:Int) (a1:Int×Int×Int):Option Int :=
  (AiM K a0).bind fun y1=>((bif (!(!y1)) then Y9 K a1 else some false)).bind fun y2=>(bif (bif (!y1) then true else (!y2)) then some (1:Int) else some (0:Int))
def Atd:Mdl:=⟨[(.ro,sI),(.ro,sL)],[sI],fun x=>AcQ K x.1 x.2.1⟩
def FH:Env:=eE K [(97,Wo K),(110,Acs K),(111,AcI K),(112,AiJ K),(114,AcL K),(172,AiE K),(173,AiF K)] [0,1,2,4,6,7,8,9,10,12,14,19,20,21,22,53,61,62,63,64,65,68,69,70,71,81]
def JZ (a0:Int) (a1:Int×Int×Int) (a2:List tM) (q7:Int) (q8:List (tM×Bool)) (q22:Int) (y1:List tA) (y12:Int×Int×Int×Int) (L21 L23:Int→Option Bool) (q24:Int):Option Bool :=
  (bif (decide (q24<(a2.length:Int))) then (bif (decide (0≤q24)&&decide (q24<(a2.length:Int))) then (Ww K ((((a2.getD ((0:Int)+q22).toNat zM).1).1,(((a2.getD ((0:Int)+q22).toNat zM).1).2).1,((((a2.getD ((0:Int)+q22).toNat zM).1).2).2)),((a2.getD ((0:Int)+q22).toNat zM).2)) ((((a2.getD ((0:Int)+q24).toNat zM).1).1,(((a2.getD ((0:Int)+q24).toNat zM).1).2).1,((((a2.getD ((0:Int)+q24).toNat zM).1).2).2)),((a2.getD ((0:Int)+q24).toNat zM).2))).bind fun y25=>(Ra K a1 y25).bind fun y26=>(bif (!((B2 (A7 sM) q8 y26).getD false)) then some false else L23 (w (q24+(1:Int)))) else none) else L21 (w (q22+(1:Int))))
def Hq (a0:Int) (a1:Int×Int×Int) (a2:List tM) (q7:Int) (q8:List (tM×Bool)) (q22:Int) (y1:List tA) (y12:Int×Int×Int×Int) (L21:Int→Option Bool) (n:Nat) (q24:Int):Option Bool :=
  Ax (X:=Int) (fun L x=>JZ K a0 a1 a2 q7 q8 q22 y1 y12 L21 (fun v0=>L v0) x) n q24
def Hr (K:Nat) (a0:Int) (a1:Int×Int×Int) (a2:List tM) (q7:Int) (q8:List (tM×Bool)) (y1:List tA) (y12:Int×Int×Int×Int) (I23:Int→Int→Option Bool) (L21:Int→Option Bool) (q22:Int):Option Bool :=
  (bif (decide (q22<(a2.length:Int))) then (bif (decide (0≤q22)&&decide (q22<(a2.length:Int))) then I23 q22 (0:Int) else none) else some true)
def Ht (a0:Int) (a1:Int×Int×Int) (a2:List tM) (q7:Int) (q8:List (tM×Bool)) (y1:List tA) (y12:Int×Int×Int×Int) (n:Nat) (q22:Int):Option Bool :=
  Ax (X:=Int) (fun L x=>(fun L21=>Hr K a0 a1 a2 q7 q8 y1 y12 (fun c0 d0=>Hq K a0 a1 a2 q7 q8 c0 y1 y12 L21 K d0) L21 x) (fun v0=>L v0)) n q22
def E3 (a0:Int) (a1:Int×Int×Int) (a2:List tM) (y1:List tA) (I21:Int→(List (tM×Bool))→(List tA)→tA→Int→Option Bool) (L6:Int→(List (tM×Bool))→Option Bool) (q7:Int) (q8:List (tM×Bool)):Option Bool :=
  (bif (decide (q7<(a2.length:Int))) then (bif (decide (0≤q7)&&decide (q7<(a2.length:Int))) then (Wu K y1 (((a2.getD ((0:Int)+q7).toNat zM).1).1,(((a2.getD ((0:Int)+q7).toNat zM).1).2).1,((((a2.getD ((0:Int)+q7).toNat zM).1).2).2))).bind fun y9=>((bif (!(!y9)) then Mu K a1 ((a2.getD ((0:Int)+q7).toNat zM).2) else some ((0:Int),(0:Int)))).bind fun y10=>(bif ((decide (0≤(w (q7-(1:Int))))&&decide ((w (q7-(1:Int)))<(a2.length:Int)))||(!((!(bif (!y9) then true else (!((y10.1==((a2.getD ((0:Int)+q7).toNat zM).2).1)&&(y10.2==((a2.getD ((0:Int)+q7).toNat zM).2).2)))))&&(decide (q7>(0:Int)))))) then ((bif ((!(bif (!y9) then true else (!((y10.1==((a2.getD ((0:Int)+q7).toNat zM).2).1)&&(y10.2==((a2.getD ((0:Int)+q7).toNat zM).2).2)))))&&(decide (q7>(0:Int)))) then Oa K ((((a2.getD ((0:Int)+(w (q7-(1:Int)))).toNat zM).1).1,(((a2.getD ((0:Int)+(w (q7-(1:Int)))).toNat zM).1).2).1,((((a2.getD ((0:Int)+(w (q7-(1:Int)))).toNat zM).1).2).2)),((a2.getD ((0:Int)+(w (q7-(1:Int)))).toNat zM).2)) ((((a2.getD ((0:Int)+q7).toNat zM).1).1,(((a2.getD ((0:Int)+q7).toNat zM).1).2).1,((((a2.getD ((0:Int)+q7).toNat zM).1).2).2)),((a2.getD ((0:Int)+q7).toNat zM).2)) else some (0:Int))).bind fun y11=>(bif (bif (bif (!y9) then true else (!((y10.1==((a2.getD ((0:Int)+q7).toNat zM).2).1)&&(y10.2==((a2.getD ((0:Int)+q7).toNat zM).2).2)))) then true else (bif (decide (q7>(0:Int))) then (decide (y11≥(0:Int))) else false)) then some false else L6 (w (q7+(1:Int))) (EV (A7 sM) q8 ((((a2.getD ((0:Int)+q7).toNat zM).1).1,(((a2.getD ((0:Int)+q7).toNat zM).1).2).1,((((a2.getD ((0:Int)+q7).toNat zM).1).2).2)),((a2.getD ((0:Int)+q7).toNat zM).2)) true)) else none) else none) else (N9 K).bind fun y12=>(bif (!((B2 (A7 sM) q8 (y12,(0:Int),(0:Int))).getD false)) then some false else I21 q7 q8 y1 y12 (0:Int)))
def TA (a0:Int) (a1:Int×Int×Int) (a2:List tM) (y1:List tA) (n:Nat) (q7:Int) (q8:List (tM×Bool)):Option Bool :=
  Ax (X:=Int×List (tM×Bool)) (fun L x=>E3 K a0 a1 a2 y1 (fun c0 c1 c2 c3 d0=>Ht K a0 a1 a2 c0 c1 c2 c3 K d0) (fun v0 v1=>L (v0,v1)) x.1 x.2) n (q7,q8)
def Zf (a0:Int) (a1:Int×Int×Int) (a2:List tM) (I6:(List tA)→Int→(List (tM×Bool))→Option Bool):Option Bool :=
  (Ws K a0 a1).bind fun y1=>I6 y1 (0:Int) []
def Wy (a0:Int) (a1:Int×Int×Int) (a2:List tM):Option Bool :=
  Zf K a0 a1 a2 (fun c0 d0 d1=>TA K a0 a1 a2 c0 K d0 d1)
def Wz:Mdl:=⟨[(.ro,sI),(.ro,sL),(.ro,(.list 78 sM))],[.bool],fun x=>Wy K x.1 x.2.1 x.2.2.1⟩
def Aou (a0:Int) (a1:Int×Int×Int) (a2:List tM) (lr:LR Bool):Ex→Fr→Option Bool :=
  Ak (FH K) 1 lr QC [1,1,0,1,0] (fM (FH K) Tryz.f130 (Wz K) (a0,a1,a2,()))
def AcR (a0:Int) (a1:Int×Int×Int) (a2:List tM) (lr:LR Bool) (y1:List tA) (bq7:Int) (bq8:List (tM×Bool)):Option Bool :=
  lr (AB QC [1,1,0,1,0,0]) (NX a0 a1 a2 y1 bq7 bq8) (Aou K a0 a1 a2 lr)
def WA (a0:Int) (a1:Int×Int×Int) (a2:List tM) (lr:LR Bool):Ex→Fr→Option Bool :=
  Ak (FH K) 1 lr QC [1,1,1,1,0,1,0] (fM (FH K) Tryz.f130 (Wz K) (a0,a1,a2,()))
def WB (a0:Int) (a1:Int×Int×Int) (a2:List tM) (lr:LR Bool) (q7:Int) (q8:List (tM×Bool)) (y1:List tA) (y12:Int×Int×Int×Int) (bq22:Int):Option Bool :=
  lr (AB QC [1,1,1,1,0,1,0,0]) (FC a0 a1 a2 q7 q8 y1 y12 bq22) (WA K a0 a1 a2 lr)
def AiN (a0:Int) (a1:Int×Int×Int) (a2:List tM) (q7:Int) (q8:List (tM×Bool)) (y1:List tA) (y12:Int×Int×Int×Int) (F21:Fr→Option Bool) (bq22:Int) (lr:LR Bool):Ex→Fr→Option Bool :=
  Ak (FH K) 1 lr (AB QC [1,1,1,1,0,1,0,0]) [1,1,0,0,1,1,0] (D3 1 (FC a0 a1 a2 q7 q8 y1 y12 bq22) F21 (WA K a0 a1 a2 lr))
def WC (a0:Int) (a1:Int×Int×Int) (a2:List tM) (q7:Int) (q8:List (tM×Bool)) (y1:List tA) (y12:Int×Int×Int×Int) (F21:Fr→Option Bool) (bq22:Int) (lr:LR Bool) (q22 bq24:Int):Option Bool :=
  lr (AB QC [1,1,1,1,0,1,0,0,1,1,0,0,1,1,0,0]) (QD a0 a1 a2 q7 q8 q22 y1 y12 bq24) (AiN K a0 a1 a2 q7 q8 y1 y12 F21 bq22 lr)
def Afl:Env:=eE K [(129,Atd K),(130,Wz K)] [0,1,2,4,6,7,9,14,16,17,18,19,26]
def Zg (a0:Int) (a1:Int×Int×Int) (a2:List (List tM)) (y1:Int) (L4:Int→Option Int) (q5:Int):Option Int :=
  (bif (decide (q5<(a2.length:Int))) then (bif (decide (0≤q5)&&decide (q5<(a2.length:Int))) then (Wy K a0 a1 (a2.getD ((0:Int)+q5).toNat [])).bind fun y6=>(bif (!y6) then some (2:Int) else L4 (w (q5+(1:Int)))) else none) else some (0:Int))
def Zh (a0:Int) (a1:Int×Int×Int) (a2:List (List tM)) (y1:Int) (n:Nat) (q5:Int):Option Int :=
  Ax (X:=Int) (fun L x=>Zg K a0 a1 a2 y1 (fun v0=>L v0) x) n q5
def AiO (a0:Int) (a1:Int×Int×Int) (a2:List (List tM)) (I4:Int→Int→Option Int):Option Int :=
  (AcQ K a0 a1).bind fun y1=>(bif (y1 != (0:Int)) then some y1 else I4 y1 (0:Int))
def Zi (a0:Int) (a1:Int×Int×Int) (a2:List (List tM)):Option Int :=
  AiO K a0 a1 a2 (fun c0 d0=>Zh K a0 a1 a2 c0 K d0)
def AiP:Mdl:=⟨[(.ro,sI),(.ro,sL),(.ro,(.list 32 (.list 78 sM)))],[sI],fun x=>Zi K x.1 x.2.1 x.2.2.1⟩
def Auz (a0:Int) (a1:Int×Int×Int) (a2:List (List tM)) (lr:LR Int):Ex→Fr→Option Int :=
  Ak (Afl K) 1 lr Aw9 [1,1,0,1,0] (fM (Afl K) Tryz.f75 (AiP K) (a0,a1,a2,()))
def AiQ (a0:Int) (a1:Int×Int×Int) (a2:List (List tM)) (lr:LR Int) (y1 bq5:Int):Option Int :=
  lr (AB Aw9 [1,1,0,1,0,0]) (Abh a0 a1 a2 y1 bq5) (Auz K a0 a1 a2 lr)
def AAc:Env:=eE K [(117,Q1 K)] [0,2]
def AiR (a0:Int):Option Bool :=
  (IU K a0 (0:Int) (9:Int)).bind fun y1=>some y1
def AuA:Mdl:=⟨[(.ro,sI)],[.bool],fun x=>AiR K x.1⟩
def AyA:Env:=eE K [(93,AuA K),(120,Q2 K)] [0,1,2]
def WD (a0:tV×Int):Option Bool :=
  (LU K a0.1).bind fun y1=>((bif (!(!y1)) then AiR K a0.2 else some false)).bind fun y2=>some (bif (!y1) then true else (!y2))
def AiS:Mdl:=⟨[(.ro,(.cons sV sI))],[.bool],fun x=>WD K x.1⟩
def Re:Env:=eE K [] [0,1,4,5,7,8,9,16]
def MU (K:Nat) (a0:List (tV×Int)) (a1:((tV×Int)→Option Bool)) (L3:Int→Option Int) (q4:Int):Option Int :=
  (bif (decide (q4<(a0.length:Int))) then (bif (decide (0≤q4)&&decide (q4<(a0.length:Int))) then (a1 (((a0.getD ((0:Int)+q4).toNat (((0:Int),(0:Int)),(0:Int))).1),(a0.getD ((0:Int)+q4).toNat (((0:Int),(0:Int)),(0:Int))).2)).bind fun y5=>(bif y5 then some q4 else L3 (w (q4+(1:Int)))) else none) else some (-1:Int))
def TB (a0:List (tV×Int)) (a1:((tV×Int)→Option Bool)) (n:Nat) (q4:Int):Option Int :=
  Ax (X:=Int) (fun L x=>MU K a0 a1 (fun v0=>L v0) x) n q4
def Zj (K:Nat) (a0:List (tV×Int)) (a1:((tV×Int)→Option Bool)) (I3:Int→Option Int):Option Int :=
  I3 (0:Int)
def AcS (a0:List (tV×Int)) (a1:((tV×Int)→Option Bool)):Option Int :=
  Zj K a0 a1 (fun d0=>TB K a0 a1 K d0)
def AcT:Mdl:=⟨[(.ro,(.list 61 (.cons sV sI))),(.ro,(.fn1 (.cons sV sI) .bool))],[sI],fun x=>AcS K x.1 x.2.1⟩
def Aov (a0:List (tV×Int)) (a1:((tV×Int)→Option Bool)) (lr:LR Int):Ex→Fr→Option Int :=
  Ak (Re K) 1 lr AsE [1,0,1,0] (fM (Re K) Tryz.f233 (AcT K) (a0,a1,()))
def AcU (a0:List (tV×Int)) (a1:((tV×Int)→Option Bool)) (lr:LR Int) (bq4:Int):Option Int :=
  lr (AB AsE [1,0,1,0,0]) (VI a0 a1 bq4) (Aov K a0 a1 lr)
def AyB:Env:=eE K [(233,AcT K)] [0,1,4]
def AcV (a0:List (tV×Int)) (a1:((tV×Int)→Option Bool)):Option Bool :=
  (AcS K a0 a1).bind fun y1=>some (decide (y1≥(0:Int)))
def Ate:Mdl:=⟨[(.ro,(.list 61 (.cons sV sI))),(.ro,(.fn1 (.cons sV sI) .bool))],[.bool],fun x=>AcV K x.1 x.2.1⟩
def AyC:Env:=⟨[(194,Ate K),(195,AiS K)],tys,eqs,mts,K,[0,2],[],[],[],[],[(195,AiS K)],[],false⟩
def AcW (a0:List (tV×Int)):Option Bool :=
  ((bif (decide ((a0.length:Int)≤(40:Int))) then AcV K a0 (fun z1=>WD K z1) else some false)).bind fun y2=>some (bif (decide ((a0.length:Int)≤(40:Int))) then (!y2) else false)
def Atf:Mdl:=⟨[(.ro,(.list 61 (.cons sV sI)))],[.bool],fun x=>AcW K x.1⟩
def AAd:Env:=eE K [(75,AiP K),(148,Atf K)] [0,1,2,3,5,8,9,16,20]
def Aow (a0:Int) (a1:Int×Int×Int) (a2:List tM) (a3:List (tV×Int)):Option Int :=
  (Zi K a0 a1 [a2]).bind fun y1=>(bif (y1 != (0:Int)) then some y1 else (AcW K a3).bind fun y2=>(bif (!y2) then some (2:Int) else some (0:Int)))
def AyD:Mdl:=⟨[(.ro,sI),(.ro,sL),(.ro,(.list 78 sM)),(.ro,(.list 61 (.cons sV sI)))],[sI],fun x=>Aow K x.1 x.2.1 x.2.2.1 x.2.2.2.1⟩
omit K
def AiT (K:Nat) (a0 a1:Int):Option tV:=AmK a0 a1
def Atg (K:Nat):Mdl:=⟨[(.ro,(.int .u64)),(.ro,(.int .u64))],[(.int .u64),(.int .u64)],fun x=>AiT K x.1 x.2.1⟩
include K
def Rf:Env:=eE K [(234,Atg K)] [0,1,4,5,6,7,8,10,26,37]
def TC (K:Nat) (a0:List Int) (a1:Int) (y1:Int×Int) (L3:Int→(List Int)→Option (List Int)) (q4:Int) (q5:List Int):Option (List Int) :=
  (bif (decide (q4<(q5.length:Int))) then (bif (decide (0≤q4)&&decide (q4≤(q5.length:Int))&&decide ((q5.length:Int)≤(q5.length:Int))) then (bif (decide (0≤(0:Int))&&decide ((0:Int)≤q4)&&decide (q4≤(q5.length:Int))) then L3 (w (q4+(bif decide ((((0:Int)+(q5.length:Int))-((0:Int)+q4))≤(((0:Int)+q4)-(0:Int))) then (((0:Int)+(q5.length:Int))-((0:Int)+q4)) else (((0:Int)+q4)-(0:Int))))) (q5.take ((0:Int)+q4).toNat++((q5.take ((0:Int)+(((0:Int)+q4)-(0:Int))).toNat).drop 0).take (bif decide ((((0:Int)+(q5.length:Int))-((0:Int)+q4))≤(((0:Int)+q4)-(0:Int))) then (((0:Int)+(q5.length:Int))-((0:Int)+q4)) else (((0:Int)+q4)-(0:Int))).toNat++q5.drop (((0:Int)+q4).toNat+(bif decide ((((0:Int)+(q5.length:Int))-((0:Int)+q4))≤(((0:Int)+q4)-(0:Int))) then (((0:Int)+(q5.length:Int))-((0:Int)+q4)) else (((0:Int)+q4)-(0:Int))).toNat)) else none) else none) else some q5)
def MV (a0:List Int) (a1:Int) (y1:Int×Int) (n:Nat) (q4:Int) (q5:List Int):Option (List Int) :=
  Ax (X:=Int×List Int) (fun L x=>TC K a0 a1 y1 (fun v0 v1=>L (v0,v1)) x.1 x.2) n (q4,q5)
def Zk (a0:List Int) (a1:Int) (I3:tV→Int→(List Int)→Option (List Int)):Option (List Int) :=
  (bif (decide (a1<(0:Int))) then none else (AiT K (IntKind.u64.wrap (a0.length:Int)) (IntKind.u64.wrap a1)).bind fun y1=>(bif (bif (decide (y1.1>(0:Int))) then true else (decide (y1.2>(9223372036854775807:Int)))) then none else (bif (decide (0≤(w y1.2))&&Nat.ble (w y1.2).toNat (lim 8)&&((w y1.2)==(w y1.2))) then I3 y1 (bif decide (((List.replicate (w y1.2).toNat (0:Int)).length:Int)≤(a0.length:Int)) then ((List.replicate (w y1.2).toNat (0:Int)).length:Int) else (a0.length:Int)) ((List.replicate (w y1.2).toNat (0:Int)).take 0++((a0.take ((0:Int)+(a0.length:Int)).toNat).drop 0).take (bif decide (((List.replicate (w y1.2).toNat (0:Int)).length:Int)≤(a0.length:Int)) then ((List.replicate (w y1.2).toNat (0:Int)).length:Int) else (a0.length:Int)).toNat++(List.replicate (w y1.2).toNat (0:Int)).drop (0+(bif decide (((List.replicate (w y1.2).toNat (0:Int)).length:Int)≤(a0.length:Int)) then ((List.replicate (w y1.2).toNat (0:Int)).length:Int) else (a0.length:Int)).toNat)) else none)))
def WE (a0:List Int) (a1:Int):Option (List Int) :=
  Zk K a0 a1 (fun c0 d0 d1=>MV K a0 a1 c0 K d0 d1)
def AcX:Mdl:=⟨[(.ro,(.list 2 sI)),(.ro,sI)],[(.list 2 sI)],fun x=>WE K x.1 x.2.1⟩
def Aox (a0:List Int) (a1:Int) (lr:LR (List Int)):Ex→Fr→Option (List Int) :=
  Ak (Rf K) 1 lr AsF [1,1,1,1,1,1,0,0] (fM (Rf K) Tryz.f196 (AcX K) (a0,a1,()))
def AcY (a0:List Int) (a1:Int) (lr:LR (List Int)) (y1:Int×Int) (bq4:Int) (bq5:List Int):Option (List Int) :=
  lr (AB AsF [1,1,1,1,1,1,0,0,0]) (VJ a0 a1 y1 bq4 bq5) (Aox K a0 a1 lr)
def TD:Env:=eE K [] [0,1,2,3,4,5,8,9,10,13,14,15]
def TE (K:Nat) (a0:Int×Int×Int) (q7:Int) (L6 L9:Int→(List tV)→Option (List tV)) (q10:Int) (q11:List tV):Option (List tV) :=
  (bif (decide (q10<a0.2.2)) then (bif (Nat.ble (q11.length+[(q7,q10)].length) (lim 16)) then L9 (w (q10+(1:Int))) (q11++[(q7,q10)]) else none) else L6 (w (q7+(1:Int))) q11)
def Oc (a0:Int×Int×Int) (q7:Int) (L6:Int→(List tV)→Option (List tV)) (n:Nat) (q10:Int) (q11:List tV):Option (List tV) :=
  Ax (X:=Int×List tV) (fun L x=>TE K a0 q7 L6 (fun v0 v1=>L (v0,v1)) x.1 x.2) n (q10,q11)
def Od (K:Nat) (a0:Int×Int×Int) (I9:Int→Int→(List tV)→Option (List tV)) (L6:Int→(List tV)→Option (List tV)) (q7:Int) (q8:List tV):Option (List tV) :=
  (bif (decide (q7<a0.1)) then I9 q7 (0:Int) q8 else some q8)
def Zl (a0:Int×Int×Int) (n:Nat) (q7:Int) (q8:List tV):Option (List tV) :=
  Ax (X:=Int×List tV) (fun L x=>(fun L6=>Od K a0 (fun c0 d0 d1=>Oc K a0 c0 L6 K d0 d1) L6 x.1 x.2) (fun v0 v1=>L (v0,v1))) n (q7,q8)
def AiU (K:Nat) (a0:Int×Int×Int) (I6:Int→(List tV)→Option (List tV)):Option (List tV) :=
  I6 (0:Int) []
def WF (a0:Int×Int×Int):Option (List tV) :=
  AiU K a0 (fun d0 d1=>Zl K a0 K d0 d1)
def Zm:Mdl:=⟨[(.ro,sL)],[(.list 59 sV)],fun x=>WF K x.1⟩
def AiV (a0:Int×Int×Int) (lr:LR (List tV)):Ex→Fr→Option (List tV) :=
  Ak (TD K) 0 lr Anp [1,1,0,1,0] (fM (TD K) Tryz.f30 (Zm K) (a0,()))
def AiW (a0:Int×Int×Int) (lr:LR (List tV)) (bq7:Int) (bq8:List tV):Option (List tV) :=
  lr (AB Anp [1,1,0,1,0,0]) (JH a0 bq7 bq8) (AiV K a0 lr)
def AuB (a0:Int×Int×Int) (F6:Fr→Option (List tV)) (bq7:Int) (bq8:List tV) (lr:LR (List tV)):Ex→Fr→Option (List tV) :=
  Ak (TD K) 0 lr (AB Anp [1,1,0,1,0,0]) [1,1,0,0,1,1,0] (D3 0 (JH a0 bq7 bq8) F6 (AiV K a0 lr))
def AiX (a0:Int×Int×Int) (F6:Fr→Option (List tV)) (bq7:Int) (bq8:List tV) (lr:LR (List tV)) (q7 bq10:Int) (bq11:List tV):Option (List tV) :=
  lr (AB Anp [1,1,0,1,0,0,1,1,0,0,1,1,0,0]) (Abi a0 q7 bq10 bq11) (AuB K a0 F6 bq7 bq8 lr)
def AAe:Env:=eE K [] [0,1,2,3,4]
def Qi (K:Nat) (a0:Int×Int×Int) (a1:Int×Int):Option Int :=
  some (w ((w (a1.1*a0.2.2))+a1.2))
def Afm:Mdl:=⟨[(.ro,sL),(.ro,sV)],[sI],fun x=>Qi K x.1 x.2.1⟩
def AyE:Env:=eE K [(163,Wm K),(164,AiI K)] [0,1,2,3,4]
def WG (a0:tA×Int×Int) (a1:Int×Int):Option tV :=
  (IV K a0.1 a1).bind fun y1=>(Wv K y1 a0.2).bind fun y2=>some y2
def AiY:Mdl:=⟨[(.ro,sM),(.ro,sV)],[sV],fun x=>WG K x.1 x.2.1⟩
def AyF:Env:=eE K [(97,Wo K),(131,AiY K)] [0,1,2,3,4,5,6]
def AcZ (a0:Int×Int×Int) (a1:tA×Int×Int) (a2:Int×Int):Option tV :=
  (WG K a1 a2).bind fun y1=>(Mu K a0 y1).bind fun y2=>some y2
def Ath:Mdl:=⟨[(.ro,sL),(.ro,sM),(.ro,sV)],[sV],fun x=>AcZ K x.1 x.2.1 x.2.2.1⟩
omit K
def Ac0 (K:Nat) (a0:List tV) (a1:tV→tV→Option Int):Option (List tV):=PL sV a0 a1
def Ati (K:Nat):Mdl:=⟨[(.io,(.list 59 sV)),(.ro,(.fn2 sV sV sI))],[],fun x=>Ac0 K x.1 x.2.1⟩
include K
def J0:Env:=eE K [] [0,2,3,4,5,8,13,25,32,44]
def TF (K:Nat) (a0:List tV) (q8:Int) (L9:Int→Int→(List tV)→Option (List tV)) (q10 q11:Int) (q12:List tV):Option (List tV) :=
  (bif (decide (q11<(((0:Int)+(a0.length:Int))-((0:Int)+q8)))) then (bif (decide (0≤q11)&&decide (q11<(((0:Int)+(a0.length:Int))-((0:Int)+q8)))) then (bif (decide (0≤(w (q11-(1:Int))))&&decide ((w (q11-(1:Int)))<(((0:Int)+(a0.length:Int))-((0:Int)+q8)))) then (bif (!(((q12.getD (((0:Int)+q8)+q11).toNat ((0:Int),(0:Int))).1==(q12.getD (((0:Int)+q8)+(w (q11-(1:Int)))).toNat ((0:Int),(0:Int))).1)&&((q12.getD (((0:Int)+q8)+q11).toNat ((0:Int),(0:Int))).2==(q12.getD (((0:Int)+q8)+(w (q11-(1:Int)))).toNat ((0:Int),(0:Int))).2))) then (bif (decide (0≤q11)&&decide (q11<(((0:Int)+(a0.length:Int))-((0:Int)+q8)))) then (bif (decide (0≤q10)&&decide (q10<(q12.length:Int))) then L9 (w (q10+(1:Int))) (w (q11+(1:Int))) (q12.set ((0:Int)+q10).toNat (q12.getD (((0:Int)+q8)+q11).toNat ((0:Int),(0:Int)))) else none) else none) else L9 q10 (w (q11+(1:Int))) q12) else none) else none) else (bif (decide (0≤q10)&&decide (q10≤(q12.length:Int))&&decide ((q12.length:Int)≤(q12.length:Int))) then (bif (decide (0≤(0:Int))&&decide ((0:Int)≤q10)&&decide (q10≤((clr q12 ((0:Int)+q10).toNat (((0:Int)+q10)+(((0:Int)+(q12.length:Int))-((0:Int)+q10))).toNat ((0:Int),(0:Int))).length:Int))) then some ((clr q12 ((0:Int)+q10).toNat (((0:Int)+q10)+(((0:Int)+(q12.length:Int))-((0:Int)+q10))).toNat ((0:Int),(0:Int))).take ((0:Int)+q10).toNat) else none) else none))
def J1 (a0:List tV) (q8:Int) (n:Nat) (q10 q11:Int) (q12:List tV):Option (List tV) :=
  Ax (X:=Int×Int×List tV) (fun L x=>TF K a0 q8 (fun v0 v1 v2=>L (v0,v1,v2)) x.1 x.2.1 x.2.2) n (q10,q11,q12)
def MW (K:Nat) (a0:List tV) (I9:Int→Int→Int→(List tV)→Option (List tV)) (L7:Int→Option (List tV)) (q8:Int):Option (List tV) :=
  (bif (decide (q8<(a0.length:Int))) then (bif (decide (0≤q8)&&decide (q8<(a0.length:Int))) then (bif (decide (0≤(w (q8-(1:Int))))&&decide ((w (q8-(1:Int)))<(a0.length:Int))) then (bif (((a0.getD ((0:Int)+q8).toNat ((0:Int),(0:Int))).1==(a0.getD ((0:Int)+(w (q8-(1:Int)))).toNat ((0:Int),(0:Int))).1)&&((a0.getD ((0:Int)+q8).toNat ((0:Int),(0:Int))).2==(a0.getD ((0:Int)+(w (q8-(1:Int)))).toNat ((0:Int),(0:Int))).2)) then (bif (decide (0≤q8)&&decide (q8≤(a0.length:Int))&&decide ((a0.length:Int)≤(a0.length:Int))) then I9 q8 q8 (1:Int) a0 else none) else L7 (w (q8+(1:Int)))) else none) else none) else some a0)
def MX (a0:List tV) (n:Nat) (q8:Int):Option (List tV) :=
  Ax (X:=Int) (fun L x=>MW K a0 (fun c0 d0 d1 d2=>J1 K a0 c0 K d0 d1 d2) (fun v0=>L v0) x) n q8
def Zn (K:Nat) (a0:List tV) (I7:Int→Option (List tV)):Option (List tV) :=
  (bif (decide ((a0.length:Int)<(2:Int))) then some a0 else I7 (1:Int))
def WH (a0:List tV):Option (List tV) :=
  Zn K a0 (fun d0=>MX K a0 K d0)
def Ac1:Mdl:=⟨[(.mv,(.list 59 sV))],[(.list 59 sV)],fun x=>WH K x.1⟩
def Ac2 (a0:List tV) (lr:LR (List tV)):Ex→Fr→Option (List tV) :=
  Ak (J0 K) 1 lr Abj [1,1,0,1,0] (fM (J0 K) Tryz.f154 (Ac1 K) (a0,()))
def Ac3 (a0:List tV) (lr:LR (List tV)) (bq8:Int):Option (List tV) :=
  lr (AB Abj [1,1,0,1,0,0]) (JI a0 bq8) (Ac2 K a0 lr)
def Aoy (a0:List tV) (F7:Fr→Option (List tV)) (bq8:Int) (lr:LR (List tV)):Ex→Fr→Option (List tV) :=
  Ak (J0 K) 1 lr (AB Abj [1,1,0,1,0,0]) [1,0,0,1,0,1,0,1,0] (D3 1 (JI a0 bq8) F7 (Ac2 K a0 lr))
def Ac4 (a0:List tV) (F7:Fr→Option (List tV)) (bq8:Int) (lr:LR (List tV)) (q8 bq10 bq11:Int) (bq12:List tV):Option (List tV) :=
  lr (AB Abj [1,1,0,1,0,0,1,0,0,1,0,1,0,1,0,0]) (VK a0 q8 bq10 bq11 bq12) (Aoy K a0 F7 bq8 lr)
def Afn:Env:=⟨[(151,Ath K),(152,Ati K),(153,AcK K),(154,Ac1 K)],tys,eqs,mts,K,[0,1,2,3,5,6,7,9,11,12,13,14],[],[],[],[],[(153,AcK K)],[],false⟩
def K4 (a0:Int×Int×Int) (a1:List tM) (a2:Int×Int) (L3:Int→(List tV)→Option (List tV)) (q4:Int) (q5:List tV):Option (List tV) :=
  (bif (decide (q4<(a1.length:Int))) then (bif (decide (0≤q4)&&decide (q4<(a1.length:Int))) then (AcZ K a0 ((((a1.getD ((0:Int)+q4).toNat zM).1).1,(((a1.getD ((0:Int)+q4).toNat zM).1).2).1,((((a1.getD ((0:Int)+q4).toNat zM).1).2).2)),((a1.getD ((0:Int)+q4).toNat zM).2)) a2).bind fun y6=>(bif (Nat.ble (q5.length+[y6].length) (lim 16)) then L3 (w (q4+(1:Int))) (q5++[y6]) else none) else none) else (Ac0 K q5 (fun z7 z8=>LV K z7 z8)).bind fun y9=>(WH K y9).bind fun y10=>some y10)
def Zo (a0:Int×Int×Int) (a1:List tM) (a2:Int×Int) (n:Nat) (q4:Int) (q5:List tV):Option (List tV) :=
  Ax (X:=Int×List tV) (fun L x=>K4 K a0 a1 a2 (fun v0 v1=>L (v0,v1)) x.1 x.2) n (q4,q5)
def AiZ (K:Nat) (a0:Int×Int×Int) (a1:List tM) (a2:Int×Int) (I3:Int→(List tV)→Option (List tV)):Option (List tV) :=
  I3 (0:Int) []
def Afo (a0:Int×Int×Int) (a1:List tM) (a2:Int×Int):Option (List tV) :=
  AiZ K a0 a1 a2 (fun d0 d1=>Zo K a0 a1 a2 K d0 d1)
def Ai0:Mdl:=⟨[(.ro,sL),(.ro,(.list 78 sM)),(.ro,sV)],[(.list 59 sV)],fun x=>Afo K x.1 x.2.1 x.2.2.1⟩
def AuC (a0:Int×Int×Int) (a1:List tM) (a2:Int×Int) (lr:LR (List tV)):Ex→Fr→Option (List tV) :=
  Ak (Afn K) 1 lr Axa [1,1,0,1,0] (fM (Afn K) Tryz.f96 (Ai0 K) (a0,a1,a2,()))
def Ai1 (a0:Int×Int×Int) (a1:List tM) (a2:Int×Int) (lr:LR (List tV)) (bq4:Int) (bq5:List tV):Option (List tV) :=
  lr (AB Axa [1,1,0,1,0,0]) (Abk a0 a1 a2 bq4 bq5) (AuC K a0 a1 a2 lr)
def J2:Env:=eE K [(30,Zm K),(64,Aiu K),(96,Ai0 K),(98,Afm K),(196,AcX K)] [0,1,2,4,5,6,7,9,10,12,19,20,21,22,31,36,37,38,39]
def FI (a0:Int×Int×Int) (a1:List tM) (q17:Int) (q18:List (List tV)) (q19:List Int) (y3:List tV) (y20:Int) (y21:List tV) (L16:Int→(List (List tV))→(List Int)→Option ((List (List tV))×List Int)) (L22:Int→(List Int)→Option ((List (List tV))×List Int)) (q23:Int) (q24:List Int):Option ((List (List tV))×List Int) :=
  (bif (decide (q23<(y21.length:Int))) then (bif (decide (0≤q23)&&decide (q23<(y21.length:Int))) then (Qi K a0 (y21.getD ((0:Int)+q23).toNat ((0:Int),(0:Int)))).bind fun y25=>(bif (decide (0≤y25)&&decide (y25<(q24.length:Int))) then L22 (w (q23+(1:Int))) (q24.set ((0:Int)+y25).toNat (q18.length:Int)) else none) else none) else (bif (Nat.ble (q18.length+[y21].length) (lim 24)) then L16 (w (q17+(1:Int))) (q18++[y21]) q24 else none))
def Hu (a0:Int×Int×Int) (a1:List tM) (q17:Int) (q18:List (List tV)) (q19:List Int) (y3:List tV) (y20:Int) (y21:List tV) (L16:Int→(List (List tV))→(List Int)→Option ((List (List tV))×List Int)) (n:Nat) (q23:Int) (q24:List Int):Option ((List (List tV))×List Int) :=
  Ax (X:=Int×List Int) (fun L x=>FI K a0 a1 q17 q18 q19 y3 y20 y21 L16 (fun v0 v1=>L (v0,v1)) x.1 x.2) n (q23,q24)
def Df (a0:Int×Int×Int) (a1:List tM) (y3:List tV) (I22:Int→(List (List tV))→(List Int)→Int→(List tV)→Int→(List Int)→Option ((List (List tV))×List Int)) (L16:Int→(List (List tV))→(List Int)→Option ((List (List tV))×List Int)) (q17:Int) (q18:List (List tV)) (q19:List Int):Option ((List (List tV))×List Int) :=
  (bif (decide (q17<(y3.length:Int))) then (bif (decide (0≤q17)&&decide (q17<(y3.length:Int))) then (Qi K a0 (y3.getD ((0:Int)+q17).toNat ((0:Int),(0:Int)))).bind fun y20=>(bif (decide (0≤y20)&&decide (y20<(q19.length:Int))) then (bif (decide ((q19.getD ((0:Int)+y20).toNat (0:Int))≥(0:Int))) then L16 (w (q17+(1:Int))) q18 q19 else (Afo K a0 a1 (y3.getD ((0:Int)+q17).toNat ((0:Int),(0:Int)))).bind fun y21=>I22 q17 q18 q19 y20 y21 (0:Int) q19) else none) else none) else some (q18,q19))
def WI (a0:Int×Int×Int) (a1:List tM) (y3:List tV) (n:Nat) (q17:Int) (q18:List (List tV)) (q19:List Int):Option ((List (List tV))×List Int) :=
  Ax (X:=Int×List (List tV)×List Int) (fun L x=>(fun L16=>Df K a0 a1 y3 (fun c0 c1 c2 c3 c4 d0 d1=>Hu K a0 a1 c0 c1 c2 y3 c3 c4 L16 K d0 d1) L16 x.1 x.2.1 x.2.2) (fun v0 v1 v2=>L (v0,v1,v2))) n (q17,q18,q19)
def Zp (a0:Int×Int×Int) (a1:List tM) (I16:(List tV)→Int→(List (List tV))→(List Int)→Option ((List (List tV))×List Int)):Option ((List (List tV))×List Int) :=
  (Ts K a0).bind fun y1=>(WE K [(-1:Int)] y1).bind fun y2=>(WF K a0).bind fun y3=>I16 y3 (0:Int) [] y2
def WJ (a0:Int×Int×Int) (a1:List tM):Option ((List (List tV))×List Int) :=
  Zp K a0 a1 (fun c0 d0 d1 d2=>WI K a0 a1 c0 K d0 d1 d2)
def Ac5:Mdl:=⟨[(.ro,sL),(.ro,(.list 78 sM))],[(.list 69 (.list 59 sV)),(.list 2 sI)],fun x=>WJ K x.1 x.2.1⟩
def WK (a0:Int×Int×Int) (a1:List tM) (lr:LR ((List (List tV))×List Int)):Ex→Fr→Option ((List (List tV))×List Int) :=
  Ak (J2 K) 1 lr Abl [1,1,0,1,0] (fM (J2 K) Tryz.f149 (Ac5 K) (a0,a1,()))
def WL (a0:Int×Int×Int) (a1:List tM) (lr:LR ((List (List tV))×List Int)) (y3:List tV) (bq17:Int) (bq18:List (List tV)) (bq19:List Int):Option ((List (List tV))×List Int) :=
  lr (AB Abl [1,1,0,1,0,0]) (FD a0 a1 y3 bq17 bq18 bq19) (WK K a0 a1 lr)
def Ai2 (a0:Int×Int×Int) (a1:List tM) (y3:List tV) (F16:Fr→Option ((List (List tV))×List Int)) (bq17:Int) (bq18:List (List tV)) (bq19:List Int) (lr:LR ((List (List tV))×List Int)):Ex→Fr→Option ((List (List tV))×List Int) :=
  Ak (J2 K) 1 lr (AB Abl [1,1,0,1,0,0]) [1,1,0,0,1,1,1,0,1,0] (D3 1 (FD a0 a1 y3 bq17 bq18 bq19) F16 (WK K a0 a1 lr))
def WM (a0:Int×Int×Int) (a1:List tM) (y3:List tV) (F16:Fr→Option ((List (List tV))×List Int)) (bq17:Int) (bq18:List (List tV)) (bq19:List Int) (lr:LR ((List (List tV))×List Int)) (q17:Int) (q18:List (List tV)) (q19:List Int) (y20:Int) (y21:List tV) (bq23:Int) (bq24:List Int):Option ((List (List tV))×List Int) :=
  lr (AB Abl [1,1,0,1,0,0,1,1,0,0,1,1,1,0,1,0,0]) (QE a0 a1 q17 q18 q19 y3 y20 y21 bq23 bq24) (Ai2 K a0 a1 y3 F16 bq17 bq18 bq19 lr)
def AyG:Env:=eE K [(97,Wo K),(98,Afm K)] [0,1,2,3,4]
def Oe (a0:tV×Int) (a1:List Int) (a2:Int×Int×Int):Option Int :=
  (Mu K a2 a0.1).bind fun y1=>(Qi K a2 y1).bind fun y2=>(bif (decide (0≤y2)&&decide (y2<(a1.length:Int))) then some (a1.getD ((0:Int)+y2).toNat (0:Int)) else none)
def Atj:Mdl:=⟨[(.ro,(.cons sV sI)),(.cap,(.list 2 sI)),(.cap,sL)],[sI],fun x=>Oe K x.1 x.2.1 x.2.2.1⟩
def TG:Env:=eE K [(149,Ac5 K),(150,Atj K)] [0,1,2,3,6,7,8,10,11,12,13,14,15,23,24,25,26,32,33,34,35,52]
def MY (a0:Int×Int×Int) (a1:List tM) (a2:List (tV×Int)) (q11:Int) (y1:(List (List tV))×List Int) (L10 L12:Int→Option (Int×Int×Bool)) (q13:Int):Option (Int×Int×Bool) :=
  (bif (decide (q13<(((0:Int)+q11)-(0:Int)))) then (bif (decide (0≤q13)&&decide (q13<(((0:Int)+q11)-(0:Int)))) then ((bif ((a2.getD ((0:Int)+q13).toNat (((0:Int),(0:Int)),(0:Int))).2 != (a2.getD ((0:Int)+q11).toNat (((0:Int),(0:Int)),(0:Int))).2) then Oe K (((a2.getD ((0:Int)+q13).toNat (((0:Int),(0:Int)),(0:Int))).1),(a2.getD ((0:Int)+q13).toNat (((0:Int),(0:Int)),(0:Int))).2) y1.2 a0 else some (0:Int))).bind fun y14=>((bif ((a2.getD ((0:Int)+q13).toNat (((0:Int),(0:Int)),(0:Int))).2 != (a2.getD ((0:Int)+q11).toNat (((0:Int),(0:Int)),(0:Int))).2) then Oe K (((a2.getD ((0:Int)+q11).toNat (((0:Int),(0:Int)),(0:Int))).1),(a2.getD ((0:Int)+q11).toNat (((0:Int),(0:Int)),(0:Int))).2) y1.2 a0 else some (0:Int))).bind fun y15=>(bif (bif ((a2.getD ((0:Int)+q13).toNat (((0:Int),(0:Int)),(0:Int))).2 != (a2.getD ((0:Int)+q11).toNat (((0:Int),(0:Int)),(0:Int))).2) then (y14==y15) else false) then some (q13,q11,true) else L12 (w (q13+(1:Int)))) else none) else L10 (w (q11+(1:Int))))
def MZ (a0:Int×Int×Int) (a1:List tM) (a2:List (tV×Int)) (q11:Int) (y1:(List (List tV))×List Int) (L10:Int→Option (Int×Int×Bool)) (n:Nat) (q13:Int):Option (Int×Int×Bool) :=
  Ax (X:=Int) (fun L x=>MY K a0 a1 a2 q11 y1 L10 (fun v0=>L v0) x) n q13
def M0 (K:Nat) (a0:Int×Int×Int) (a1:List tM) (a2:List (tV×Int)) (y1:(List (List tV))×List Int) (I12:Int→Int→Option (Int×Int×Bool)) (L10:Int→Option (Int×Int×Bool)) (q11:Int):Option (Int×Int×Bool) :=
  (bif (decide (q11<(a2.length:Int))) then (bif (decide (0≤q11)&&decide (q11<(a2.length:Int))) then (bif (decide (0≤(0:Int))&&decide ((0:Int)≤q11)&&decide (q11≤(a2.length:Int))) then I12 q11 (0:Int) else none) else none) else some ((0:Int),(0:Int),false))
def J3 (a0:Int×Int×Int) (a1:List tM) (a2:List (tV×Int)) (y1:(List (List tV))×List Int) (n:Nat) (q11:Int):Option (Int×Int×Bool) :=
  Ax (X:=Int) (fun L x=>(fun L10=>M0 K a0 a1 a2 y1 (fun c0 d0=>MZ K a0 a1 a2 c0 y1 L10 K d0) L10 x) (fun v0=>L v0)) n q11
def Ai3 (a0:Int×Int×Int) (a1:List tM) (a2:List (tV×Int)) (I10:((List (List tV))×List Int)→Int→Option (Int×Int×Bool)):Option (Int×Int×Bool) :=
  (WJ K a0 a1).bind fun y1=>I10 y1 (0:Int)
def Ai4 (a0:Int×Int×Int) (a1:List tM) (a2:List (tV×Int)):Option (Int×Int×Bool) :=
  Ai3 K a0 a1 a2 (fun c0 d0=>J3 K a0 a1 a2 c0 K d0)
def Aoz:Mdl:=⟨[(.ro,sL),(.ro,(.list 78 sM)),(.ro,(.list 61 (.cons sV sI)))],[sI,sI,.bool],fun x=>Ai4 K x.1 x.2.1 x.2.2.1⟩
def Ac6 (a0:Int×Int×Int) (a1:List tM) (a2:List (tV×Int)) (lr:LR (Int×Int×Bool)):Ex→Fr→Option (Int×Int×Bool) :=
  Ak (TG K) 2 lr Anq [1,1,1,0,1,0] (fM (TG K) Tryz.f94 (Aoz K) (a0,a1,a2,()))
def Ac7 (a0:Int×Int×Int) (a1:List tM) (a2:List (tV×Int)) (lr:LR (Int×Int×Bool)) (y1:(List (List tV))×List Int) (bq11:Int):Option (Int×Int×Bool) :=
  lr (AB Anq [1,1,1,0,1,0,0]) (Hn a0 a1 a2 y1 bq11) (Ac6 K a0 a1 a2 lr)
def AoA (a0:Int×Int×Int) (a1:List tM) (a2:List (tV×Int)) (y1:(List (List tV))×List Int) (F10:Fr→Option (Int×Int×Bool)) (bq11:Int) (lr:LR (Int×Int×Bool)):Ex→Fr→Option (Int×Int×Bool) :=
  Ak (TG K) 2 lr (AB Anq [1,1,1,0,1,0,0]) [1,1,0,0,1,1,0] (D3 2 (Hn a0 a1 a2 y1 bq11) F10 (Ac6 K a0 a1 a2 lr))
def Ac8 (a0:Int×Int×Int) (a1:List tM) (a2:List (tV×Int)) (y1:(List (List tV))×List Int) (F10:Fr→Option (Int×Int×Bool)) (bq11:Int) (lr:LR (Int×Int×Bool)) (q11 bq13:Int):Option (Int×Int×Bool) :=
  lr (AB Anq [1,1,1,0,1,0,0,1,1,0,0,1,1,0,0]) (VL a0 a1 a2 q11 y1 bq13) (AoA K a0 a1 a2 y1 F10 bq11 lr)
def Afp:Env:=eE K [(64,Aiu K),(98,Afm K)] [0,1,2,3,5,8,9,11,18,19,20,21]
def K5 (a0:Int) (a1:Int×Int×Int) (a2:List tV) (a3:Int) (L4:Int→(List Int)→Option (Int×tL×List Int)) (q5:Int) (q6:List Int):Option (Int×tL×List Int) :=
  (bif (decide (q5<(a2.length:Int))) then (bif (decide (0≤q5)&&decide (q5<(a2.length:Int))) then (Qi K a1 (a2.getD ((0:Int)+q5).toNat ((0:Int),(0:Int)))).bind fun y7=>(bif (decide (0≤y7)&&decide (y7<(q6.length:Int))) then L4 (w (q5+(1:Int))) (q6.set ((0:Int)+y7).toNat a3) else none) else none) else some (a0,a1,q6))
def Ai5 (a0:Int) (a1:Int×Int×Int) (a2:List tV) (a3:Int) (n:Nat) (q5:Int) (q6:List Int):Option (Int×tL×List Int) :=
  Ax (X:=Int×List Int) (fun L x=>K5 K a0 a1 a2 a3 (fun v0 v1=>L (v0,v1)) x.1 x.2) n (q5,q6)
def Ai6 (a0:Int) (a1:Int×Int×Int) (a2:List tV) (a3:Int) (I4:Int→(List Int)→Option (Int×tL×List Int)):Option (Int×tL×List Int) :=
  (Ts K a1).bind fun y1=>(bif (decide (0≤y1)&&Nat.ble y1.toNat (lim 8)&&(y1==y1)) then I4 (0:Int) (List.replicate y1.toNat (0:Int)) else none)
def Ai7 (a0:Int) (a1:Int×Int×Int) (a2:List tV) (a3:Int):Option (Int×tL×List Int) :=
  Ai6 K a0 a1 a2 a3 (fun d0 d1=>Ai5 K a0 a1 a2 a3 K d0 d1)
def AoB:Mdl:=⟨[(.ro,sI),(.ro,sL),(.ro,(.list 59 sV)),(.ro,sI)],[(.cons sI (.cons sL (.list 2 sI)))],fun x=>Ai7 K x.1 x.2.1 x.2.2.1 x.2.2.2.1⟩
def AuD (a0:Int) (a1:Int×Int×Int) (a2:List tV) (a3:Int) (lr:LR (Int×tL×List Int)):Ex→Fr→Option (Int×tL×List Int) :=
  Ak (Afp K) 1 lr Axb [1,1,0,1,0] (fM (Afp K) Tryz.f95 (AoB K) (a0,a1,a2,a3,()))
def Ai8 (a0:Int) (a1:Int×Int×Int) (a2:List tV) (a3:Int) (lr:LR (Int×tL×List Int)) (bq5:Int) (bq6:List Int):Option (Int×tL×List Int) :=
  lr (AB Axb [1,1,0,1,0,0]) (Abm a0 a1 a2 a3 bq5 bq6) (AuD K a0 a1 a2 a3 lr)
def TH:Env:=eE K [(30,Zm K),(92,AyD K),(93,AuA K),(94,Aoz K),(95,AoB K),(96,Ai0 K),(97,Wo K),(98,Afm K)] [0,1,2,3,4,6,10,11,12,15,16,18,20,27,32,42,50,51,52,53,62,63,64,65]
def Id (a0:Int) (a1:Int×Int×Int) (a2:List tM) (a3:List (tV×Int)) (a4 q16 y1:Int) (y2:Bool) (y3:Int×Int×Bool) (y5:Int×tL×List Int) (y19:List tV) (L15:Int→(List Int)→Option ((Int×tL×List Int)×Int)) (L20:Int→(List Int)→Option ((Int×tL×List Int)×Int)) (q21:Int) (q22:List Int):Option ((Int×tL×List Int)×Int) :=
  (bif (decide (q21<(y19.length:Int))) then (bif (decide (0≤q21)&&decide (q21<(y19.length:Int))) then (Qi K a1 (y19.getD ((0:Int)+q21).toNat ((0:Int),(0:Int)))).bind fun y23=>(bif (decide (0≤y23)&&decide (y23<(q22.length:Int))) then L20 (w (q21+(1:Int))) (q22.set ((0:Int)+y23).toNat ((a3.getD ((0:Int)+q16).toNat (((0:Int),(0:Int)),(0:Int))).2)) else none) else none) else L15 (w (q16+(1:Int))) q22)
def M1 (a0:Int) (a1:Int×Int×Int) (a2:List tM) (a3:List (tV×Int)) (a4 q16 y1:Int) (y2:Bool) (y3:Int×Int×Bool) (y5:Int×tL×List Int) (y19:List tV) (L15:Int→(List Int)→Option ((Int×tL×List Int)×Int)) (n:Nat) (q21:Int) (q22:List Int):Option ((Int×tL×List Int)×Int) :=
  Ax (X:=Int×List Int) (fun L x=>Id K a0 a1 a2 a3 a4 q16 y1 y2 y3 y5 y19 L15 (fun v0 v1=>L (v0,v1)) x.1 x.2) n (q21,q22)
def Gl (a0:Int) (a1:Int×Int×Int) (a2:List tM) (a3:List (tV×Int)) (a4 y1:Int) (y2:Bool) (y3:Int×Int×Bool) (y5:Int×tL×List Int) (I20:Int→(List tV)→Int→(List Int)→Option ((Int×tL×List Int)×Int)) (L15:Int→(List Int)→Option ((Int×tL×List Int)×Int)) (q16:Int) (q17:List Int):Option ((Int×tL×List Int)×Int) :=
  (bif (decide (q16<(a3.length:Int))) then (bif (decide (0≤q16)&&decide (q16<(a3.length:Int))) then (Mu K a1 ((a3.getD ((0:Int)+q16).toNat (((0:Int),(0:Int)),(0:Int))).1)).bind fun y18=>(Afo K a1 a2 y18).bind fun y19=>I20 q16 y19 (0:Int) q17 else none) else some ((y5.1,y5.2.1,q17),(0:Int)))
def TI (a0:Int) (a1:Int×Int×Int) (a2:List tM) (a3:List (tV×Int)) (a4 y1:Int) (y2:Bool) (y3:Int×Int×Bool) (y5:Int×tL×List Int) (n:Nat) (q16:Int) (q17:List Int):Option ((Int×tL×List Int)×Int) :=
  Ax (X:=Int×List Int) (fun L x=>(fun L15=>Gl K a0 a1 a2 a3 a4 y1 y2 y3 y5 (fun c0 c1 d0 d1=>M1 K a0 a1 a2 a3 a4 c0 y1 y2 y3 y5 c1 L15 K d0 d1) L15 x.1 x.2) (fun v0 v1=>L (v0,v1))) n (q16,q17)
def Ai9 (a0:Int) (a1:Int×Int×Int) (a2:List tM) (a3:List (tV×Int)) (a4:Int) (I15:Int→Bool→(Int×Int×Bool)→(Int×tL×List Int)→Int→(List Int)→Option ((Int×tL×List Int)×Int)):Option ((Int×tL×List Int)×Int) :=
  (Aow K a0 a1 a2 a3).bind fun y1=>(bif (y1 != (0:Int)) then some (((0:Int),((0:Int),(0:Int),(0:Int)),[]),y1) else (AiR K a4).bind fun y2=>(bif (!y2) then some (((0:Int),((0:Int),(0:Int),(0:Int)),[]),(2:Int)) else (Ai4 K a1 a2 a3).bind fun y3=>(bif y3.2.2 then some (((0:Int),((0:Int),(0:Int),(0:Int)),[]),(5:Int)) else (WF K a1).bind fun y4=>(Ai7 K a0 a1 y4 a4).bind fun y5=>I15 y1 y2 y3 y5 (0:Int) y5.2.2)))
def WN (a0:Int) (a1:Int×Int×Int) (a2:List tM) (a3:List (tV×Int)) (a4:Int):Option ((Int×tL×List Int)×Int) :=
  Ai9 K a0 a1 a2 a3 a4 (fun c0 c1 c2 c3 d0 d1=>TI K a0 a1 a2 a3 a4 c0 c1 c2 c3 K d0 d1)
def AoC:Mdl:=⟨[(.ro,sI),(.ro,sL),(.ro,(.list 78 sM)),(.ro,(.list 61 (.cons sV sI))),(.ro,sI)],[(.cons sI (.cons sL (.list 2 sI))),sI],fun x=>WN K x.1 x.2.1 x.2.2.1 x.2.2.2.1 x.2.2.2.2.1⟩
def Ac9 (a0:Int) (a1:Int×Int×Int) (a2:List tM) (a3:List (tV×Int)) (a4:Int) (lr:LR ((Int×tL×List Int)×Int)):Ex→Fr→Option ((Int×tL×List Int)×Int) :=
  Ak (TH K) 2 lr Anr [1,1,1,1,1,0,1,0] (fM (TH K) Tryz.f47 (AoC K) (a0,a1,a2,a3,a4,()))
def Ada (a0:Int) (a1:Int×Int×Int) (a2:List tM) (a3:List (tV×Int)) (a4:Int) (lr:LR ((Int×tL×List Int)×Int)) (y1:Int) (y2:Bool) (y3:Int×Int×Bool) (y5:Int×tL×List Int) (bq16:Int) (bq17:List Int):Option ((Int×tL×List Int)×Int) :=
  lr (AB Anr [1,1,1,1,1,0,1,0,0]) (Ho a0 a1 a2 a3 a4 y1 y2 y3 y5 bq16 bq17) (Ac9 K a0 a1 a2 a3 a4 lr)
def AoD (a0:Int) (a1:Int×Int×Int) (a2:List tM) (a3:List (tV×Int)) (a4 y1:Int) (y2:Bool) (y3:Int×Int×Bool) (y5:Int×tL×List Int) (F15:Fr→Option ((Int×tL×List Int)×Int)) (bq16:Int) (bq17:List Int) (lr:LR ((Int×tL×List Int)×Int)):Ex→Fr→Option ((Int×tL×List Int)×Int) :=
  Ak (TH K) 2 lr (AB Anr [1,1,1,1,1,0,1,0,0]) [1,1,0,0,1,1,0] (D3 2 (Ho a0 a1 a2 a3 a4 y1 y2 y3 y5 bq16 bq17) F15 (Ac9 K a0 a1 a2 a3 a4 lr))
def Adb (a0:Int) (a1:Int×Int×Int) (a2:List tM) (a3:List (tV×Int)) (a4 y1:Int) (y2:Bool) (y3:Int×Int×Bool) (y5:Int×tL×List Int) (F15:Fr→Option ((Int×tL×List Int)×Int)) (bq16:Int) (bq17:List Int) (lr:LR ((Int×tL×List Int)×Int)) (q16:Int) (y19:List tV) (bq21:Int) (bq22:List Int):Option ((Int×tL×List Int)×Int) :=
  lr (AB Anr [1,1,1,1,1,0,1,0,0,1,1,0,0,1,1,0,0]) (VM a0 a1 a2 a3 a4 q16 y1 y2 y3 y5 y19 bq21 bq22) (AoD K a0 a1 a2 a3 a4 y1 y2 y3 y5 F15 bq16 bq17 lr)
def Afq:Env:=⟨[(25,Aux K),(44,AxW K),(45,Aoh K),(47,AoC K)],tys,eqs,mts,K,[0,2,3,4,5,6,7,8,10,11,12,13,16,28,33,35,36,37,38,45,57,78],[],[],[(46,Ays K)],[],[],[],false⟩
def Zq (a0:ByteArray) (y1:ByteArray×Bool) (y2:List ByteArray) (L5:Int→Int→Int→Int→Int→Int→(List tM)→(List (tV×Int))→Option (Option (Int×Int×tL×(List tM)×List (tV×Int))×(Int×tL×List Int)×Int×Int)) (q6 q7 q8 q9 q10 q11:Int) (q12:List tM) (q13:List (tV×Int)):Option (Option (Int×Int×tL×(List tM)×List (tV×Int))×(Int×tL×List Int)×Int×Int) :=
  (bif (decide (q6<(y2.length:Int))) then (bif (decide (0≤q6)&&decide (q6<(y2.length:Int))) then (AiG K (q7,q8,(q9,q10,q11),q12,q13) (y2.getD ((0:Int)+q6).toNat ByteArray.empty)).bind fun y14=>(bif (y14.2 != (0:Int)) then some (none,(((0:Int),((0:Int),(0:Int),(0:Int)),[]),y14.1.1,y14.2)) else L5 (w (q6+(1:Int))) y14.1.1 y14.1.2.1 y14.1.2.2.1.1 y14.1.2.2.1.2.1 y14.1.2.2.1.2.2 y14.1.2.2.2.1 y14.1.2.2.2.2) else none) else (bif (decide (q7<(2:Int))) then some (none,(((0:Int),((0:Int),(0:Int),(0:Int)),[]),(0:Int),(4:Int))) else (Ze K (q7,q8,(q9,q10,q11),q12,q13)).bind fun y15=>(WN K q8 (q9,q10,q11) y15 q13 (0:Int)).bind fun y16=>(bif (y16.2 != (0:Int)) then some (none,(((0:Int),((0:Int),(0:Int),(0:Int)),[]),(0:Int),(1:Int))) else some ((some (q7,q8,(q9,q10,q11),q12,q13)),(y16.1,(0:Int),(0:Int))))))
def TJ (a0:ByteArray) (y1:ByteArray×Bool) (y2:List ByteArray) (n:Nat) (q6 q7 q8 q9 q10 q11:Int) (q12:List tM) (q13:List (tV×Int)):Option (Option (Int×Int×tL×(List tM)×List (tV×Int))×(Int×tL×List Int)×Int×Int) :=
  Ax (X:=Int×Int×Int×Int×Int×Int×List tM×List (tV×Int)) (fun L x=>Zq K a0 y1 y2 (fun v0 v1 v2 v3 v4 v5 v6 v7=>L (v0,v1,v2,v3,v4,v5,v6,v7)) x.1 x.2.1 x.2.2.1 x.2.2.2.1 x.2.2.2.2.1 x.2.2.2.2.2.1 x.2.2.2.2.2.2.1 x.2.2.2.2.2.2.2) n (q6,q7,q8,q9,q10,q11,q12,q13)
def Aja (a0:ByteArray) (I5:(ByteArray×Bool)→(List ByteArray)→Int→Int→Int→Int→Int→Int→(List tM)→(List (tV×Int))→Option (Option (Int×Int×tL×(List tM)×List (tV×Int))×(Int×tL×List Int)×Int×Int)):Option (Option (Int×Int×tL×(List tM)×List (tV×Int))×(Int×tL×List Int)×Int×Int) :=
  (bif (decide ((a0.size:Int)>(3000:Int))) then some (none,(((0:Int),((0:Int),(0:Int),(0:Int)),[]),(0:Int),(3:Int))) else (Aog K a0 (bs [10])).bind fun y1=>(bif (bif (a0 != ByteArray.empty) then (!y1.2) else false) then some (none,(((0:Int),((0:Int),(0:Int),(0:Int)),[]),(0:Int),(6:Int))) else (bif (a0 != ByteArray.empty) then (Y5 K y1.1 (bs [10])).bind fun y2=>I5 y1 y2 (0:Int) (0:Int) (0:Int) (0:Int) (0:Int) (0:Int) [] [] else (bif (decide ((0:Int)<(2:Int))) then some (none,(((0:Int),((0:Int),(0:Int),(0:Int)),[]),(0:Int),(4:Int))) else (Ze K ((0:Int),(0:Int),((0:Int),(0:Int),(0:Int)),[],[])).bind fun y17=>(WN K (0:Int) ((0:Int),(0:Int),(0:Int)) y17 [] (0:Int)).bind fun y18=>(bif (y18.2 != (0:Int)) then some (none,(((0:Int),((0:Int),(0:Int),(0:Int)),[]),(0:Int),(1:Int))) else some ((some ((0:Int),(0:Int),((0:Int),(0:Int),(0:Int)),[],[])),(y18.1,(0:Int),(0:Int))))))))
def Zr (a0:ByteArray):Option (Option (Int×Int×tL×(List tM)×List (tV×Int))×(Int×tL×List Int)×Int×Int) :=
  Aja K a0 (fun c0 c1 d0 d1 d2 d3 d4 d5 d6 d7=>TJ K a0 c0 c1 K d0 d1 d2 d3 d4 d5 d6 d7)
def AoE:IG:=⟨(.cons sI (.cons sI (.cons sL (.cons (.list 78 sM) (.list 61 (.cons sV sI)))))),[(.ro,.str)],[(.cons sI (.cons sL (.list 2 sI))),sI,sI],fun x=>Zr K x.1⟩
def AuE (a0:ByteArray) (lr:LR (Option (Int×Int×tL×(List tM)×List (tV×Int))×(Int×tL×List Int)×Int×Int)):Ex→Fr→Option (Option (Int×Int×tL×(List tM)×List (tV×Int))×(Int×tL×List Int)×Int×Int) :=
  Ak (Afq K) 0 lr Axc [1,1,1,1,1,0,1,0,1,0] (Ahm (Afq K) Tryz.f20 (.cons sI (.cons sI (.cons sL (.cons (.list 78 sM) (.list 61 (.cons sV sI)))))) [(.cons sI (.cons sL (.list 2 sI))),sI,sI])
def Ajb (a0:ByteArray) (lr:LR (Option (Int×Int×tL×(List tM)×List (tV×Int))×(Int×tL×List Int)×Int×Int)) (y1:ByteArray×Bool) (y2:List ByteArray) (bq6 bq7 bq8 bq9 bq10 bq11:Int) (bq12:List tM) (bq13:List (tV×Int)):Option (Option (Int×Int×tL×(List tM)×List (tV×Int))×(Int×tL×List Int)×Int×Int) :=
  lr (AB Axc [1,1,1,1,1,0,1,0,1,0,0]) (Abn a0 y1 y2 bq6 bq7 bq8 bq9 bq10 bq11 bq12 bq13) (AuE K a0 lr)
def f6E:Env:=⟨[],tys,eqs,mts,K,[0,2,3,4,6,7,8],[],[],[],[(20,AoE K)],[],[],false⟩
def f6G (a0:ByteArray):Option ((Int×tL×List Int)×Int×Int) :=
  (Zr K a0).bind fun y1=>Vf y1.1 (some y1.2) (fun z2=>some y1.2)
def f6M:Mdl:=⟨[(.ro,.str)],[(.cons sI (.cons sL (.list 2 sI))),sI,sI],fun x=>f6G K x.1⟩
def Afr:Env:=eE K [] [0,1,4,5,6,7,12,25]
def Of (K:Nat) (a0:ByteArray) (a1:Int) (L2:Int→Int→(List ByteArray)→Option (List ByteArray)) (q3 q4:Int) (q5:List ByteArray):Option (List ByteArray) :=
  (bif (decide (q4≤(a0.size:Int))) then (bif ((decide (0≤q4)&&decide (q4<(a0.size:Int)))||(!(!(q4==(a0.size:Int))))) then (bif (bif (q4==(a0.size:Int)) then true else (((a0.data.getD q4.toNat 0).toNat:Int)==a1)) then (bif (decide (0≤q3)&&decide (q3≤q4)&&decide (q4≤(a0.size:Int))) then (bif (Nat.ble (q5.length+[(a0.extract q3.toNat q4.toNat)].length) (lim 16)) then L2 (w (q4+(1:Int))) (w (q4+(1:Int))) (q5++[(a0.extract q3.toNat q4.toNat)]) else none) else none) else L2 q3 (w (q4+(1:Int))) q5) else none) else some q5)
def Og (a0:ByteArray) (a1:Int) (n:Nat) (q3 q4:Int) (q5:List ByteArray):Option (List ByteArray) :=
  Ax (X:=Int×Int×List ByteArray) (fun L x=>Of K a0 a1 (fun v0 v1 v2=>L (v0,v1,v2)) x.1 x.2.1 x.2.2) n (q3,q4,q5)
def Ajc (K:Nat) (a0:ByteArray) (a1:Int) (I2:Int→Int→(List ByteArray)→Option (List ByteArray)):Option (List ByteArray) :=
  I2 (0:Int) (0:Int) []
def J4 (a0:ByteArray) (a1:Int):Option (List ByteArray) :=
  Ajc K a0 a1 (fun d0 d1 d2=>Og K a0 a1 K d0 d1 d2)
def TK:Mdl:=⟨[(.ro,.str),(.ro,(.int .u8))],[(.list 9 .str)],fun x=>J4 K x.1 x.2.1⟩
def AuF (a0:ByteArray) (a1:Int) (lr:LR (List ByteArray)):Ex→Fr→Option (List ByteArray) :=
  Ak (Afr K) 0 lr Axd [1,1,1,0,1,0] (fM (Afr K) Tryz.f48 (TK K) (a0,a1,()))
def Ajd (a0:ByteArray) (a1:Int) (lr:LR (List ByteArray)) (bq3 bq4:Int) (bq5:List ByteArray):Option (List ByteArray) :=
  lr (AB Axd [1,1,1,0,1,0,0]) (Abo a0 a1 bq3 bq4 bq5) (AuF K a0 a1 lr)
def Rg:Env:=eE K [(74,AnV K)] [0,2,3,4,5,13,17,29]
def TL (a0:ByteArray) (L2:Int→Int→Option (Int×Bool)) (q3 q4:Int):Option (Int×Bool) :=
  (bif (decide (q4<(a0.size:Int))) then (bif (decide (0≤q4)&&decide (q4<(a0.size:Int))) then (bif ((decide (0≤q4)&&decide (q4<(a0.size:Int)))||(!(!(decide (((a0.data.getD q4.toNat 0).toNat:Int)<(48:Int)))))) then (bif (bif (decide (((a0.data.getD q4.toNat 0).toNat:Int)<(48:Int))) then true else (decide (((a0.data.getD q4.toNat 0).toNat:Int)>(57:Int)))) then some ((0:Int),false) else (bif (decide (0≤q4)&&decide (q4<(a0.size:Int))) then L2 (w ((w ((10:Int)*q3))+(w (IntKind.u8.wrap (((a0.data.getD q4.toNat 0).toNat:Int)-(48:Int)))))) (w (q4+(1:Int))) else none)) else none) else none) else (YZ K q3).bind fun y5=>some (q3,(y5==a0)))
def M2 (a0:ByteArray) (n:Nat) (q3 q4:Int):Option (Int×Bool) :=
  Ax (X:=Int×Int) (fun L x=>TL K a0 (fun v0 v1=>L (v0,v1)) x.1 x.2) n (q3,q4)
def Zs (K:Nat) (a0:ByteArray) (I2:Int→Int→Option (Int×Bool)):Option (Int×Bool) :=
  (bif (bif (decide ((a0.size:Int)<(1:Int))) then true else (decide ((a0.size:Int)>(10:Int)))) then some ((0:Int),false) else I2 (0:Int) (0:Int))
def LW (a0:ByteArray):Option (Int×Bool) :=
  Zs K a0 (fun d0 d1=>M2 K a0 K d0 d1)
def WO:Mdl:=⟨[(.ro,.str)],[sI,.bool],fun x=>LW K x.1⟩
def AoF (a0:ByteArray) (lr:LR (Int×Bool)):Ex→Fr→Option (Int×Bool) :=
  Ak (Rg K) 0 lr AsG [1,1,1,0,1,0] (fM (Rg K) Tryz.f103 (WO K) (a0,()))
def Adc (a0:ByteArray) (lr:LR (Int×Bool)) (bq3 bq4:Int):Option (Int×Bool) :=
  lr (AB AsG [1,1,1,0,1,0,0]) (VN a0 bq3 bq4) (AoF K a0 lr)
def AyH:Env:=eE K [(103,WO K)] [0,2,3,4,5,13]
def Add (a0:ByteArray):Option (Int×Bool) :=
  (bif ((decide (0≤(0:Int))&&decide ((0:Int)<(a0.size:Int)))||(!(decide ((a0.size:Int)>(0:Int))))) then (bif (bif (decide ((a0.size:Int)>(0:Int))) then (((a0.data.getD 0 0).toNat:Int)==(45:Int)) else false) then (bif (decide (0≤(1:Int))&&decide ((1:Int)≤(a0.size:Int))&&decide ((a0.size:Int)≤(a0.size:Int))) then (LW K (a0.extract 1 (a0.size:Int).toNat)).bind fun y1=>some ((w (0-y1.1)),(bif y1.2 then (decide (y1.1>(0:Int))) else false)) else none) else (LW K a0).bind fun y2=>some y2) else none)
def Atk:Mdl:=⟨[(.ro,.str)],[sI,.bool],fun x=>Add K x.1⟩
def Rh:Env:=eE K [(199,Atk K)] [0,2,3,4,5,6,7,12,24]
def TM (a0:List ByteArray) (L3:Int→(List Int)→Option ((List Int)×Bool)) (q4:Int) (q5:List Int):Option ((List Int)×Bool) :=
  (bif (decide (q4<(a0.length:Int))) then (bif (decide (0≤q4)&&decide (q4<(a0.length:Int))) then (Add K (a0.getD ((0:Int)+q4).toNat ByteArray.empty)).bind fun y6=>(bif (!y6.2) then some ([],false) else (bif (Nat.ble (q5.length+[y6.1].length) (lim 8)) then L3 (w (q4+(1:Int))) (q5++[y6.1]) else none)) else none) else some (q5,true))
def M3 (a0:List ByteArray) (n:Nat) (q4:Int) (q5:List Int):Option ((List Int)×Bool) :=
  Ax (X:=Int×List Int) (fun L x=>TM K a0 (fun v0 v1=>L (v0,v1)) x.1 x.2) n (q4,q5)
def Zt (K:Nat) (a0:List ByteArray) (I3:Int→(List Int)→Option ((List Int)×Bool)):Option ((List Int)×Bool) :=
  I3 (0:Int) []
def Oh (a0:List ByteArray):Option ((List Int)×Bool) :=
  Zt K a0 (fun d0 d1=>M3 K a0 K d0 d1)
def Ri:Mdl:=⟨[(.ro,(.list 9 .str))],[(.list 2 sI),.bool],fun x=>Oh K x.1⟩
def AoG (a0:List ByteArray) (lr:LR ((List Int)×Bool)):Ex→Fr→Option ((List Int)×Bool) :=
  Ak (Rh K) 1 lr AsH [1,1,0,1,0] (fM (Rh K) Tryz.f156 (Ri K) (a0,()))
def Ade (a0:List ByteArray) (lr:LR ((List Int)×Bool)) (bq4:Int) (bq5:List Int):Option ((List Int)×Bool) :=
  lr (AB AsH [1,1,0,1,0,0]) (VO a0 bq4 bq5) (AoG K a0 lr)
def AAf:Env:=eE K [(48,TK K),(124,AbA K),(156,Ri K)] [0,2,3,4,5,32]
def AoH (a0:ByteArray):Option (tL×Bool) :=
  (J4 K a0 (44:Int)).bind fun y1=>(Oh K y1).bind fun y2=>(bif ((decide (0≤(0:Int))&&decide ((0:Int)<(y2.1.length:Int)))||(!(!(bif (!y2.2) then true else ((y2.1.length:Int) != (3:Int)))))) then (bif ((decide (0≤(1:Int))&&decide ((1:Int)<(y2.1.length:Int)))||(!(!(bif (!y2.2) then true else ((y2.1.length:Int) != (3:Int)))))) then (bif ((decide (0≤(2:Int))&&decide ((2:Int)<(y2.1.length:Int)))||(!(!(bif (!y2.2) then true else ((y2.1.length:Int) != (3:Int)))))) then ((bif (!(bif (!y2.2) then true else ((y2.1.length:Int) != (3:Int)))) then QF K ((y2.1.getD ((0:Int)+(0:Int)).toNat (0:Int)),(y2.1.getD ((0:Int)+(1:Int)).toNat (0:Int)),(y2.1.getD ((0:Int)+(2:Int)).toNat (0:Int))) else some false)).bind fun y3=>(bif (bif (bif (!y2.2) then true else ((y2.1.length:Int) != (3:Int))) then true else (!y3)) then some (((0:Int),(0:Int),(0:Int)),false) else (bif (decide (0≤(0:Int))&&decide ((0:Int)<(y2.1.length:Int))) then (bif (decide (0≤(1:Int))&&decide ((1:Int)<(y2.1.length:Int))) then (bif (decide (0≤(2:Int))&&decide ((2:Int)<(y2.1.length:Int))) then some (((y2.1.getD ((0:Int)+(0:Int)).toNat (0:Int)),(y2.1.getD ((0:Int)+(1:Int)).toNat (0:Int)),(y2.1.getD ((0:Int)+(2:Int)).toNat (0:Int))),true) else none) else none) else none)) else none) else none) else none)
def AyI:Mdl:=⟨[(.ro,.str)],[sL,.bool],fun x=>AoH K x.1⟩
def AyJ:Env:=eE K [(48,TK K),(135,Wd K),(156,Ri K)] [0,2,3,4,5,6,19,36]
def Adf (a0:ByteArray):Option (tA×Bool) :=
  (J4 K a0 (44:Int)).bind fun y1=>(Oh K y1).bind fun y2=>(bif (bif (!y2.2) then true else ((y2.1.length:Int) != (4:Int))) then some (((0:Int),(0:Int),(0:Int),(0:Int)),false) else (bif (decide (0≤(0:Int))&&decide ((0:Int)<(y2.1.length:Int))) then (bif (decide (0≤(1:Int))&&decide ((1:Int)<(y2.1.length:Int))) then (bif (decide (0≤(2:Int))&&decide ((2:Int)<(y2.1.length:Int))) then (bif (decide (0≤(3:Int))&&decide ((3:Int)<(y2.1.length:Int))) then (JU K ((y2.1.getD ((0:Int)+(0:Int)).toNat (0:Int)),(y2.1.getD ((0:Int)+(1:Int)).toNat (0:Int)),(y2.1.getD ((0:Int)+(2:Int)).toNat (0:Int)),(y2.1.getD ((0:Int)+(3:Int)).toNat (0:Int)))).bind fun y3=>(bif (!y3) then some (((0:Int),(0:Int),(0:Int),(0:Int)),false) else some (((y2.1.getD ((0:Int)+(0:Int)).toNat (0:Int)),(y2.1.getD ((0:Int)+(1:Int)).toNat (0:Int)),(y2.1.getD ((0:Int)+(2:Int)).toNat (0:Int)),(y2.1.getD ((0:Int)+(3:Int)).toNat (0:Int))),true)) else none) else none) else none) else none))
def Atl:Mdl:=⟨[(.ro,.str)],[sA,.bool],fun x=>Adf K x.1⟩
def AyK:Env:=eE K [(48,TK K),(127,QU K),(156,Ri K)] [0,2,3,4,5,29]
def WP (a0:ByteArray):Option (tV×Bool) :=
  (J4 K a0 (44:Int)).bind fun y1=>(Oh K y1).bind fun y2=>(bif ((decide (0≤(0:Int))&&decide ((0:Int)<(y2.1.length:Int)))||(!(!(bif (!y2.2) then true else ((y2.1.length:Int) != (2:Int)))))) then (bif ((decide (0≤(1:Int))&&decide ((1:Int)<(y2.1.length:Int)))||(!(!(bif (!y2.2) then true else ((y2.1.length:Int) != (2:Int)))))) then ((bif (!(bif (!y2.2) then true else ((y2.1.length:Int) != (2:Int)))) then JT K ((y2.1.getD ((0:Int)+(0:Int)).toNat (0:Int)),(y2.1.getD ((0:Int)+(1:Int)).toNat (0:Int))) else some false)).bind fun y3=>(bif (bif (bif (!y2.2) then true else ((y2.1.length:Int) != (2:Int))) then true else (!y3)) then some (((0:Int),(0:Int)),false) else (bif (decide (0≤(0:Int))&&decide ((0:Int)<(y2.1.length:Int))) then (bif (decide (0≤(1:Int))&&decide ((1:Int)<(y2.1.length:Int))) then some (((y2.1.getD ((0:Int)+(0:Int)).toNat (0:Int)),(y2.1.getD ((0:Int)+(1:Int)).toNat (0:Int))),true) else none) else none)) else none) else none)
def Aje:Mdl:=⟨[(.ro,.str)],[sV,.bool],fun x=>WP K x.1⟩
def AyL:Env:=eE K [(48,TK K),(81,Aup K),(102,Aje K),(157,Atl K)] [0,2,3,4,5,6,7,8,9,14,43]
def Adg (a0:ByteArray):Option (tM×Bool) :=
  (J4 K a0 (59:Int)).bind fun y1=>(bif ((y1.length:Int) != (2:Int)) then some ((((0:Int),(0:Int),(0:Int),(0:Int)),(0:Int),(0:Int)),false) else (bif (decide (0≤(0:Int))&&decide ((0:Int)<(y1.length:Int))) then (Adf K (y1.getD ((0:Int)+(0:Int)).toNat ByteArray.empty)).bind fun y2=>(bif (decide (0≤(1:Int))&&decide ((1:Int)<(y1.length:Int))) then (WP K (y1.getD ((0:Int)+(1:Int)).toNat ByteArray.empty)).bind fun y3=>((bif (!(bif (!y2.2) then true else (!y3.2))) then Y2 K (y2.1,y3.1) else some false)).bind fun y4=>(bif (bif (bif (!y2.2) then true else (!y3.2)) then true else (!y4)) then some ((((0:Int),(0:Int),(0:Int),(0:Int)),(0:Int),(0:Int)),false) else some ((y2.1,y3.1),true)) else none) else none))
def Atm:Mdl:=⟨[(.ro,.str)],[sM,.bool],fun x=>Adg K x.1⟩
def AyM:Env:=eE K [(123,Ahr K),(135,Wd K),(180,Ahu K)] [0,1,3,4]
def Adh (a0:Int) (a1:Int×Int×Int×Int):Option Bool :=
  (VU K a0).bind fun y1=>((bif y1 then JU K a1 else some false)).bind fun y2=>((bif (bif y1 then y2 else false) then VW K a0 a1 else some false)).bind fun y3=>some (bif (bif y1 then y2 else false) then y3 else false)
def Atn:Mdl:=⟨[(.ro,sI),(.ro,sA)],[.bool],fun x=>Adh K x.1 x.2.1⟩
def AyN:Env:=eE K [(70,Ahs K),(127,QU K),(139,AhA K),(158,Atn K)] [0,1,2,4,5,6]
def Adi (a0:Int) (a1:Int×Int×Int) (a2:tA×Int×Int):Option Bool :=
  (YK K a0 a1).bind fun y1=>((bif (y1==(0:Int)) then Adh K a0 a2.1 else some false)).bind fun y2=>((bif (bif (y1==(0:Int)) then y2 else false) then V2 K a2.1 a1 else some ((0:Int),((0:Int),(0:Int))))).bind fun y3=>((bif (bif (bif (y1==(0:Int)) then y2 else false) then ((y3.1==a1.1)&&((y3.2.1==a1.2.1)&&(y3.2.2==a1.2.2))) else false) then JT K a2.2 else some false)).bind fun y4=>some (bif (bif (bif (y1==(0:Int)) then y2 else false) then ((y3.1==a1.1)&&((y3.2.1==a1.2.1)&&(y3.2.2==a1.2.2))) else false) then y4 else false)
def Ato:Mdl:=⟨[(.ro,sI),(.ro,sL),(.ro,sM)],[.bool],fun x=>Adi K x.1 x.2.1 x.2.2.1⟩
def AAg:Env:=eE K [(48,TK K),(53,AnA K),(99,AyI K),(100,Atm K),(101,Ato K),(102,Aje K),(103,WO K)] [0,1,2,4,5,6,7,8,9,10,11,12,13,14,21,45,51,54,72,76,81,98,102,107,113,134,158,173,178]
def Ajf (a0:Int×tL×Int×(List tM)×List (tV×Int)) (a1:ByteArray):Option ((Int×tL×Int×(List tM)×List (tV×Int))×Int) :=
  (J4 K a1 (32:Int)).bind fun y1=>(bif ((decide (0≤(0:Int))&&decide ((0:Int)<(y1.length:Int)))||(!((y1.length:Int)==(2:Int)))) then (bif ((decide (0≤(1:Int))&&decide ((1:Int)<(y1.length:Int)))||(!(bif ((y1.length:Int)==(2:Int)) then ((y1.getD ((0:Int)+(0:Int)).toNat ByteArray.empty)==(bs [102,114,97,109,101])) else false))) then (bif ((decide (0≤(1:Int))&&decide ((1:Int)<(y1.length:Int)))||(!((bif ((y1.length:Int)==(2:Int)) then ((y1.getD ((0:Int)+(0:Int)).toNat ByteArray.empty)==(bs [102,114,97,109,101])) else false)&&(!((y1.getD ((0:Int)+(1:Int)).toNat ByteArray.empty)==(bs [83])))))) then (bif (bif (bif ((y1.length:Int)==(2:Int)) then ((y1.getD ((0:Int)+(0:Int)).toNat ByteArray.empty)==(bs [102,114,97,109,101])) else false) then (bif ((y1.getD ((0:Int)+(1:Int)).toNat ByteArray.empty)==(bs [83])) then true else ((y1.getD ((0:Int)+(1:Int)).toNat ByteArray.empty)==(bs [72]))) else false) then (bif ((w (a0.2.2.1+(1:Int))) != (1:Int)) then some ((a0.1,a0.2.1,(w (a0.2.2.1+(1:Int))),a0.2.2.2),(5:Int)) else (bif (decide (0≤(1:Int))&&decide ((1:Int)<(y1.length:Int))) then (bif ((y1.getD ((0:Int)+(1:Int)).toNat ByteArray.empty)==(bs [72])) then some (((1:Int),a0.2.1,(w (a0.2.2.1+(1:Int))),a0.2.2.2),(0:Int)) else some (((0:Int),a0.2.1,(w (a0.2.2.1+(1:Int))),a0.2.2.2),(0:Int))) else none)) else (bif ((decide (0≤(0:Int))&&decide ((0:Int)<(y1.length:Int)))||(!((y1.length:Int)==(2:Int)))) then (bif (bif ((y1.length:Int)==(2:Int)) then ((y1.getD ((0:Int)+(0:Int)).toNat ByteArray.empty)==(bs [108,97,116,116,105,99,101])) else false) then (bif (decide (0≤(1:Int))&&decide ((1:Int)<(y1.length:Int))) then (AoH K (y1.getD ((0:Int)+(1:Int)).toNat ByteArray.empty)).bind fun y2=>(bif (!y2.2) then some ((a0.1,a0.2.1,(w (a0.2.2.1+(1:Int))),a0.2.2.2),(6:Int)) else (bif ((w (a0.2.2.1+(1:Int))) != (2:Int)) then some ((a0.1,a0.2.1,(w (a0.2.2.1+(1:Int))),a0.2.2.2),(5:Int)) else some ((a0.1,y2.1,(w (a0.2.2.1+(1:Int))),a0.2.2.2),(0:Int)))) else none) else (bif ((decide (0≤(0:Int))&&decide ((0:Int)<(y1.length:Int)))||(!((y1.length:Int)==(2:Int)))) then (bif (bif ((y1.length:Int)==(2:Int)) then ((y1.getD ((0:Int)+(0:Int)).toNat ByteArray.empty)==(bs [109,111,116,105,111,110])) else false) then (bif (decide (0≤(1:Int))&&decide ((1:Int)<(y1.length:Int))) then (Adg K (y1.getD ((0:Int)+(1:Int)).toNat ByteArray.empty)).bind fun y3=>(bif (!y3.2) then some ((a0.1,a0.2.1,(w (a0.2.2.1+(1:Int))),a0.2.2.2),(6:Int)) else (bif (decide ((w (a0.2.2.1+(1:Int)))<(3:Int))) then some ((a0.1,a0.2.1,(w (a0.2.2.1+(1:Int))),a0.2.2.2),(5:Int)) else (bif ((a0.2.2.2.1.length:Int)==(8:Int)) then some ((a0.1,a0.2.1,(w (a0.2.2.1+(1:Int))),a0.2.2.2),(3:Int)) else (Adi K a0.1 a0.2.1 y3.1).bind fun y4=>(bif (!y4) then some ((a0.1,a0.2.1,(w (a0.2.2.1+(1:Int))),a0.2.2.2),(2:Int)) else (bif (Nat.ble (0+a0.2.2.2.1.length) (lim 48)) then (Afc K a0.2.1 y3.1).bind fun y5=>(bif (Nat.ble (([]++a0.2.2.2.1).length+[y5].length) (lim 48)) then some ((a0.1,a0.2.1,(w (a0.2.2.1+(1:Int))),(([]++a0.2.2.2.1)++[y5]),a0.2.2.2.2),(0:Int)) else none) else none))))) else none) else (bif ((decide (0≤(0:Int))&&decide ((0:Int)<(y1.length:Int)))||(!((y1.length:Int)==(3:Int)))) then (bif (bif ((y1.length:Int)==(3:Int)) then ((y1.getD ((0:Int)+(0:Int)).toNat ByteArray.empty)==(bs [109,97,114,107])) else false) then (bif (decide (0≤(1:Int))&&decide ((1:Int)<(y1.length:Int))) then (WP K (y1.getD ((0:Int)+(1:Int)).toNat ByteArray.empty)).bind fun y6=>(bif (decide (0≤(2:Int))&&decide ((2:Int)<(y1.length:Int))) then (LW K (y1.getD ((0:Int)+(2:Int)).toNat ByteArray.empty)).bind fun y7=>(bif ((decide (0≤(2:Int))&&decide ((2:Int)<(y1.length:Int)))||(!(!(bif (!y6.2) then true else (!y7.2))))) then (bif (bif (bif (!y6.2) then true else (!y7.2)) then true else (((y1.getD ((0:Int)+(2:Int)).toNat ByteArray.empty).size:Int) != (1:Int))) then some ((a0.1,a0.2.1,(w (a0.2.2.1+(1:Int))),a0.2.2.2),(6:Int)) else (bif (decide ((w (a0.2.2.1+(1:Int)))<(3:Int))) then some ((a0.1,a0.2.1,(w (a0.2.2.1+(1:Int))),a0.2.2.2),(5:Int)) else (bif ((a0.2.2.2.2.length:Int)==(40:Int)) then some ((a0.1,a0.2.1,(w (a0.2.2.1+(1:Int))),a0.2.2.2),(3:Int)) else (bif (Nat.ble (0+a0.2.2.2.2.length) (lim 24)) then (bif (Nat.ble (([]++a0.2.2.2.2).length+[(y6.1,y7.1)].length) (lim 24)) then some ((a0.1,a0.2.1,(w (a0.2.2.1+(1:Int))),a0.2.2.2.1,(([]++a0.2.2.2.2)++[(y6.1,y7.1)])),(0:Int)) else none) else none)))) else none) else none) else none) else some ((a0.1,a0.2.1,(w (a0.2.2.1+(1:Int))),a0.2.2.2),(6:Int))) else none)) else none)) else none)) else none) else none) else none)
def AyO:Mdl:=⟨[(.mv,(.cons sI (.cons sL (.cons sI (.cons (.list 78 sM) (.list 61 (.cons sV sI))))))),(.ro,.str)],[(.cons sI (.cons sL (.cons sI (.cons (.list 78 sM) (.list 61 (.cons sV sI)))))),sI],fun x=>Ajf K x.1 x.2.1⟩
def TN:Env:=eE K [(24,AhS K)] [0,1,2,3,6,7,8,9,10,11,12,16,21,59]
def M4 (a0:Int×Int×Int) (a1:List Int) (a2:List (tV×Int)) (q10:Int) (L9 L11:Int→Option (Int×Int×Bool)) (q12:Int):Option (Int×Int×Bool) :=
  (bif (decide (q12<q10)) then (bif (decide (0≤q12)&&decide (q12<(a2.length:Int))) then (N6 K a0 ((a2.getD ((0:Int)+q12).toNat (((0:Int),(0:Int)),(0:Int))).1)).bind fun y13=>(bif (decide (0≤y13)&&decide (y13<(a1.length:Int))) then (bif (decide (0≤q10)&&decide (q10<(a2.length:Int))) then (N6 K a0 ((a2.getD ((0:Int)+q10).toNat (((0:Int),(0:Int)),(0:Int))).1)).bind fun y14=>(bif (decide (0≤y14)&&decide (y14<(a1.length:Int))) then (bif ((decide (0≤q12)&&decide (q12<(a2.length:Int)))||(!((a1.getD ((0:Int)+y13).toNat (0:Int))==(a1.getD ((0:Int)+y14).toNat (0:Int))))) then (bif ((decide (0≤q10)&&decide (q10<(a2.length:Int)))||(!((a1.getD ((0:Int)+y13).toNat (0:Int))==(a1.getD ((0:Int)+y14).toNat (0:Int))))) then (bif (bif ((a1.getD ((0:Int)+y13).toNat (0:Int))==(a1.getD ((0:Int)+y14).toNat (0:Int))) then ((a2.getD ((0:Int)+q12).toNat (((0:Int),(0:Int)),(0:Int))).2 != (a2.getD ((0:Int)+q10).toNat (((0:Int),(0:Int)),(0:Int))).2) else false) then some (q12,q10,true) else L11 (w (q12+(1:Int)))) else none) else none) else none) else none) else none) else none) else L9 (w (q10+(1:Int))))
def M5 (a0:Int×Int×Int) (a1:List Int) (a2:List (tV×Int)) (q10:Int) (L9:Int→Option (Int×Int×Bool)) (n:Nat) (q12:Int):Option (Int×Int×Bool) :=
  Ax (X:=Int) (fun L x=>M4 K a0 a1 a2 q10 L9 (fun v0=>L v0) x) n q12
def TO (K:Nat) (a0:Int×Int×Int) (a1:List Int) (a2:List (tV×Int)) (I11:Int→Int→Option (Int×Int×Bool)) (L9:Int→Option (Int×Int×Bool)) (q10:Int):Option (Int×Int×Bool) :=
  (bif (decide (q10<(a2.length:Int))) then I11 q10 (0:Int) else some ((0:Int),(0:Int),false))
def Oi (a0:Int×Int×Int) (a1:List Int) (a2:List (tV×Int)) (n:Nat) (q10:Int):Option (Int×Int×Bool) :=
  Ax (X:=Int) (fun L x=>(fun L9=>TO K a0 a1 a2 (fun c0 d0=>M5 K a0 a1 a2 c0 L9 K d0) L9 x) (fun v0=>L v0)) n q10
def Ajg (K:Nat) (a0:Int×Int×Int) (a1:List Int) (a2:List (tV×Int)) (I9:Int→Option (Int×Int×Bool)):Option (Int×Int×Bool) :=
  I9 (0:Int)
def Afs (a0:Int×Int×Int) (a1:List Int) (a2:List (tV×Int)):Option (Int×Int×Bool) :=
  Ajg K a0 a1 a2 (fun d0=>Oi K a0 a1 a2 K d0)
def AoI:Mdl:=⟨[(.ro,sL),(.ro,(.list 2 sI)),(.ro,(.list 61 (.cons sV sI)))],[sI,sI,.bool],fun x=>Afs K x.1 x.2.1 x.2.2.1⟩
def Ajh (a0:Int×Int×Int) (a1:List Int) (a2:List (tV×Int)) (lr:LR (Int×Int×Bool)):Ex→Fr→Option (Int×Int×Bool) :=
  Ak (TN K) 2 lr Ans [1,0,1,0] (fM (TN K) Tryz.f50 (AoI K) (a0,a1,a2,()))
def Aji (a0:Int×Int×Int) (a1:List Int) (a2:List (tV×Int)) (lr:LR (Int×Int×Bool)) (bq10:Int):Option (Int×Int×Bool) :=
  lr (AB Ans [1,0,1,0,0]) (JJ a0 a1 a2 bq10) (Ajh K a0 a1 a2 lr)
def AoJ (a0:Int×Int×Int) (a1:List Int) (a2:List (tV×Int)) (F9:Fr→Option (Int×Int×Bool)) (bq10:Int) (lr:LR (Int×Int×Bool)):Ex→Fr→Option (Int×Int×Bool) :=
  Ak (TN K) 2 lr (AB Ans [1,0,1,0,0]) [1,0,0,1,0] (D3 2 (JJ a0 a1 a2 bq10) F9 (Ajh K a0 a1 a2 lr))
def Adj (a0:Int×Int×Int) (a1:List Int) (a2:List (tV×Int)) (F9:Fr→Option (Int×Int×Bool)) (bq10:Int) (lr:LR (Int×Int×Bool)) (q10 bq12:Int):Option (Int×Int×Bool) :=
  lr (AB Ans [1,0,1,0,0,1,0,0,1,0,0]) (VP a0 a1 a2 q10 bq12) (AoJ K a0 a1 a2 F9 bq10 lr)
def Aft:Env:=eE K [(22,Aff K),(23,V5 K),(48,TK K),(49,AyO K),(50,AoI K)] [0,2,3,4,5,6,7,8,9,12,16,26,32,45,53,72]
def Zu (a0:ByteArray) (y1:List ByteArray) (L4:Int→Int→Int→Int→Int→Int→(List tM)→(List (tV×Int))→Option (Option (Int×tL×Int×(List tM)×List (tV×Int))×Int×Int)) (q5 q6 q7 q8 q9 q10:Int) (q11:List tM) (q12:List (tV×Int)):Option (Option (Int×tL×Int×(List tM)×List (tV×Int))×Int×Int) :=
  (bif (decide ((w (q5+(1:Int)))<(y1.length:Int))) then (bif (decide (0≤q5)&&decide (q5<(y1.length:Int))) then (Ajf K (q6,(q7,q8,q9),q10,q11,q12) (y1.getD ((0:Int)+q5).toNat ByteArray.empty)).bind fun y13=>(bif (y13.2 != (0:Int)) then some (none,((w (q5+(1:Int))),y13.2)) else L4 (w (q5+(1:Int))) y13.1.1 y13.1.2.1.1 y13.1.2.1.2.1 y13.1.2.1.2.2 y13.1.2.2.1 y13.1.2.2.2.1 y13.1.2.2.2.2) else none) else (bif (decide (q10<(2:Int))) then some ((some (q6,(q7,q8,q9),q10,q11,q12)),((0:Int),(4:Int))) else (FG K (q7,q8,q9) q11).bind fun y14=>(Qg K (q7,q8,q9) y14).bind fun y15=>(Afs K (q7,q8,q9) y15 q12).bind fun y16=>(bif y16.2.2 then some ((some (q6,(q7,q8,q9),q10,q11,q12)),((0:Int),(1:Int))) else some ((some (q6,(q7,q8,q9),q10,q11,q12)),((0:Int),(0:Int))))))
def Oj (a0:ByteArray) (y1:List ByteArray) (n:Nat) (q5 q6 q7 q8 q9 q10:Int) (q11:List tM) (q12:List (tV×Int)):Option (Option (Int×tL×Int×(List tM)×List (tV×Int))×Int×Int) :=
  Ax (X:=Int×Int×Int×Int×Int×Int×List tM×List (tV×Int)) (fun L x=>Zu K a0 y1 (fun v0 v1 v2 v3 v4 v5 v6 v7=>L (v0,v1,v2,v3,v4,v5,v6,v7)) x.1 x.2.1 x.2.2.1 x.2.2.2.1 x.2.2.2.2.1 x.2.2.2.2.2.1 x.2.2.2.2.2.2.1 x.2.2.2.2.2.2.2) n (q5,q6,q7,q8,q9,q10,q11,q12)
def Ajj (a0:ByteArray) (I4:(List ByteArray)→Int→Int→Int→Int→Int→Int→(List tM)→(List (tV×Int))→Option (Option (Int×tL×Int×(List tM)×List (tV×Int))×Int×Int)):Option (Option (Int×tL×Int×(List tM)×List (tV×Int))×Int×Int) :=
  (bif (decide ((a0.size:Int)>(3000:Int))) then some ((some ((0:Int),((0:Int),(0:Int),(0:Int)),(0:Int),[],[])),((0:Int),(3:Int))) else (J4 K a0 (10:Int)).bind fun y1=>(bif (decide (0≤(w ((y1.length:Int)-(1:Int))))&&decide ((w ((y1.length:Int)-(1:Int)))<(y1.length:Int))) then (bif ((y1.getD ((0:Int)+(w ((y1.length:Int)-(1:Int)))).toNat ByteArray.empty) != ByteArray.empty) then some ((some ((0:Int),((0:Int),(0:Int),(0:Int)),(0:Int),[],[])),((0:Int),(6:Int))) else I4 y1 (0:Int) (0:Int) (0:Int) (0:Int) (0:Int) (0:Int) [] []) else none))
def Zv (a0:ByteArray):Option (Option (Int×tL×Int×(List tM)×List (tV×Int))×Int×Int) :=
  Ajj K a0 (fun c0 d0 d1 d2 d3 d4 d5 d6 d7=>Oj K a0 c0 K d0 d1 d2 d3 d4 d5 d6 d7)
def AoK:IG:=⟨(.cons sI (.cons sL (.cons sI (.cons (.list 78 sM) (.list 61 (.cons sV sI)))))),[(.ro,.str)],[sI,sI],fun x=>Zv K x.1⟩
def AuG (a0:ByteArray) (lr:LR (Option (Int×tL×Int×(List tM)×List (tV×Int))×Int×Int)):Ex→Fr→Option (Option (Int×tL×Int×(List tM)×List (tV×Int))×Int×Int) :=
  Ak (Aft K) 0 lr Axe [1,1,1,1,1,0,1,0] (Ahn (Aft K) Tryz.f21 (.cons sI (.cons sL (.cons sI (.cons (.list 78 sM) (.list 61 (.cons sV sI)))))) [sI,sI])
def Ajk (a0:ByteArray) (lr:LR (Option (Int×tL×Int×(List tM)×List (tV×Int))×Int×Int)) (y1:List ByteArray) (bq5 bq6 bq7 bq8 bq9 bq10:Int) (bq11:List tM) (bq12:List (tV×Int)):Option (Option (Int×tL×Int×(List tM)×List (tV×Int))×Int×Int) :=
  lr (AB Axe [1,1,1,1,1,0,1,0,0]) (Abp a0 y1 bq5 bq6 bq7 bq8 bq9 bq10 bq11 bq12) (AuG K a0 lr)
def f7E:Env:=⟨[(22,Aff K),(23,V5 K),(24,AhS K)],tys,eqs,mts,K,[0,2,3,4,5,6,7,8,9,10,11,19,43,49,68],[],[],[],[],[],[(21,AoK K)],false⟩
def Zw (a0:ByteArray) (q13:Int) (y1:Option (Int×tL×Int×(List tM)×List (tV×Int))×Int×Int) (y4:List Int) (z2:Int×tL×Int×(List tM)×List (tV×Int)) (L12:Int→(List Int)→Option ((Int×tL×List Int)×Int×Int)) (L15:Int→(List Int)→Option ((Int×tL×List Int)×Int×Int)) (q16:Int) (q17:List Int):Option ((Int×tL×List Int)×Int×Int) :=
  (bif (decide (q16<(y4.length:Int))) then (bif (decide (0≤q16)&&decide (q16<(y4.length:Int))) then (bif (decide (0≤q13)&&decide (q13<(z2.2.2.2.2.length:Int))) then (N6 K z2.2.1 ((z2.2.2.2.2.getD ((0:Int)+q13).toNat (((0:Int),(0:Int)),(0:Int))).1)).bind fun y18=>(bif (decide (0≤y18)&&decide (y18<(y4.length:Int))) then (bif ((y4.getD ((0:Int)+q16).toNat (0:Int))==(y4.getD ((0:Int)+y18).toNat (0:Int))) then (bif (decide (0≤q13)&&decide (q13<(z2.2.2.2.2.length:Int))) then (bif (decide (0≤q16)&&decide (q16<(q17.length:Int))) then L15 (w (q16+(1:Int))) (q17.set ((0:Int)+q16).toNat ((z2.2.2.2.2.getD ((0:Int)+q13).toNat (((0:Int),(0:Int)),(0:Int))).2)) else none) else none) else L15 (w (q16+(1:Int))) q17) else none) else none) else none) else L12 (w (q13+(1:Int))) q17)
def Ok (a0:ByteArray) (q13:Int) (y1:Option (Int×tL×Int×(List tM)×List (tV×Int))×Int×Int) (y4:List Int) (z2:Int×tL×Int×(List tM)×List (tV×Int)) (L12:Int→(List Int)→Option ((Int×tL×List Int)×Int×Int)) (n:Nat) (q16:Int) (q17:List Int):Option ((Int×tL×List Int)×Int×Int) :=
  Ax (X:=Int×List Int) (fun L x=>Zw K a0 q13 y1 y4 z2 L12 (fun v0 v1=>L (v0,v1)) x.1 x.2) n (q16,q17)
def TP (K:Nat) (a0:ByteArray) (y1:Option (Int×tL×Int×(List tM)×List (tV×Int))×Int×Int) (y4:List Int) (z2:Int×tL×Int×(List tM)×List (tV×Int)) (I15:Int→Int→(List Int)→Option ((Int×tL×List Int)×Int×Int)) (L12:Int→(List Int)→Option ((Int×tL×List Int)×Int×Int)) (q13:Int) (q14:List Int):Option ((Int×tL×List Int)×Int×Int) :=
  (bif (decide (q13<(z2.2.2.2.2.length:Int))) then I15 q13 (0:Int) q14 else some ((z2.1,z2.2.1,q14),(0:Int),(0:Int)))
def K6 (a0:ByteArray) (y1:Option (Int×tL×Int×(List tM)×List (tV×Int))×Int×Int) (y4:List Int) (z2:Int×tL×Int×(List tM)×List (tV×Int)) (n:Nat) (q13:Int) (q14:List Int):Option ((Int×tL×List Int)×Int×Int) :=
  Ax (X:=Int×List Int) (fun L x=>(fun L12=>TP K a0 y1 y4 z2 (fun c0 d0 d1=>Ok K a0 c0 y1 y4 z2 L12 K d0 d1) L12 x.1 x.2) (fun v0 v1=>L (v0,v1))) n (q13,q14)
def AuH (a0:ByteArray) (I12:(Option (Int×tL×Int×(List tM)×List (tV×Int))×Int×Int)→(List Int)→(Int×tL×Int×(List tM)×List (tV×Int))→Int→(List Int)→Option ((Int×tL×List Int)×Int×Int)):Option ((Int×tL×List Int)×Int×Int) :=
  (Zv K a0).bind fun y1=>Vf y1.1 ((bif (y1.2.2 != (0:Int)) then some (((0:Int),((0:Int),(0:Int),(0:Int)),[]),y1.2) else none)) (fun z2=>(bif (y1.2.2 != (0:Int)) then some (((0:Int),((0:Int),(0:Int),(0:Int)),[]),y1.2) else (FG K z2.2.1 z2.2.2.2.1).bind fun y3=>(Qg K z2.2.1 y3).bind fun y4=>(bif (decide (0≤(y4.length:Int))&&Nat.ble (y4.length:Int).toNat (lim 8)&&((y4.length:Int)==(y4.length:Int))) then I12 y1 y4 z2 (0:Int) (List.replicate (y4.length:Int).toNat (0:Int)) else none)))
def f7G (a0:ByteArray):Option ((Int×tL×List Int)×Int×Int) :=
  AuH K a0 (fun c0 c1 c2 d0 d1=>K6 K a0 c0 c1 c2 K d0 d1)
def f7M:Mdl:=⟨[(.ro,.str)],[(.cons sI (.cons sL (.list 2 sI))),sI,sI],fun x=>f7G K x.1⟩
def Ajl (a0:ByteArray) (lr:LR ((Int×tL×List Int)×Int×Int)):Ex→Fr→Option ((Int×tL×List Int)×Int×Int) :=
  Ak (f7E K) 0 lr f7C [1,1,1,1,1,0,1,0] (fM (f7E K) Tryz.f7 (f7M K) (a0,()))
def Ajm (a0:ByteArray) (lr:LR ((Int×tL×List Int)×Int×Int)) (y1:Option (Int×tL×Int×(List tM)×List (tV×Int))×Int×Int) (y4:List Int) (z2:Int×tL×Int×(List tM)×List (tV×Int)) (bq13:Int) (bq14:List Int):Option ((Int×tL×List Int)×Int×Int) :=
  lr (AB f7C [1,1,1,1,1,0,1,0,0]) (JK a0 y1 y4 z2 bq13 bq14) (Ajl K a0 lr)
def AuI (a0:ByteArray) (y1:Option (Int×tL×Int×(List tM)×List (tV×Int))×Int×Int) (y4:List Int) (z2:Int×tL×Int×(List tM)×List (tV×Int)) (F12:Fr→Option ((Int×tL×List Int)×Int×Int)) (bq13:Int) (bq14:List Int) (lr:LR ((Int×tL×List Int)×Int×Int)):Ex→Fr→Option ((Int×tL×List Int)×Int×Int) :=
  Ak (f7E K) 0 lr (AB f7C [1,1,1,1,1,0,1,0,0]) [1,0,0,1,0] (D3 0 (JK a0 y1 y4 z2 bq13 bq14) F12 (Ajl K a0 lr))
def Ajn (a0:ByteArray) (y1:Option (Int×tL×Int×(List tM)×List (tV×Int))×Int×Int) (y4:List Int) (z2:Int×tL×Int×(List tM)×List (tV×Int)) (F12:Fr→Option ((Int×tL×List Int)×Int×Int)) (bq13:Int) (bq14:List Int) (lr:LR ((Int×tL×List Int)×Int×Int)) (q13 bq16:Int) (bq17:List Int):Option ((Int×tL×List Int)×Int×Int) :=
  lr (AB f7C [1,1,1,1,1,0,1,0,0,1,0,0,1,0,0]) (Abq a0 q13 y1 y4 z2 bq16 bq17) (AuI K a0 y1 y4 z2 F12 bq13 bq14 lr)
def f8E:Env:=⟨[(25,Aux K)],tys,eqs,mts,K,[0,2,3,4,7,16],[],[],[],[(20,AoE K)],[],[],false⟩
def f8G (a0:ByteArray):Option ((List tM)×Int) :=
  (Zr K a0).bind fun y1=>Vf y1.1 ((bif (y1.2.2.2 != (0:Int)) then some ([],y1.2.2.2) else none)) (fun z2=>(bif (y1.2.2.2 != (0:Int)) then some ([],y1.2.2.2) else (Ze K z2).bind fun y3=>some (y3,(0:Int))))
def f8M:Mdl:=⟨[(.ro,.str)],[(.list 78 sM),sI],fun x=>f8G K x.1⟩
def f9E:Env:=⟨[(23,V5 K)],tys,eqs,mts,K,[0,2,3,4,6,14],[],[],[],[],[],[(21,AoK K)],false⟩
def f9G (a0:ByteArray):Option ((List tM)×Int) :=
  (Zv K a0).bind fun y1=>Vf y1.1 ((bif (y1.2.2 != (0:Int)) then some ([],y1.2.2) else none)) (fun z2=>(bif (y1.2.2 != (0:Int)) then some ([],y1.2.2) else (FG K z2.2.1 z2.2.2.2.1).bind fun y3=>some (y3,(0:Int))))
def f9M:Mdl:=⟨[(.ro,.str)],[(.list 78 sM),sI],fun x=>f9G K x.1⟩
def AAh:Env:=⟨[],tys,eqs,mts,K,[0,2,3,4,7,16],[],[],[],[(20,AoE K)],[],[],false⟩
def AoL (a0:ByteArray):Option tV :=
  (Zr K a0).bind fun y1=>Vf y1.1 ((bif (y1.2.2.2 != (0:Int)) then some ((0:Int),y1.2.2.2) else none)) (fun z2=>(bif (y1.2.2.2 != (0:Int)) then some ((0:Int),y1.2.2.2) else some (z2.1,(0:Int))))
def AyP:Mdl:=⟨[(.ro,.str)],[sI,sI],fun x=>AoL K x.1⟩
def AAi:Env:=⟨[],tys,eqs,mts,K,[0,2,3,4,6,14],[],[],[],[],[],[(21,AoK K)],false⟩
def AoM (a0:ByteArray):Option tV :=
  (Zv K a0).bind fun y1=>Vf y1.1 ((bif (y1.2.2 != (0:Int)) then some ((0:Int),y1.2.2) else none)) (fun z2=>(bif (y1.2.2 != (0:Int)) then some ((0:Int),y1.2.2) else some (z2.2.2.1,(0:Int))))
def AyQ:Mdl:=⟨[(.ro,.str)],[sI,sI],fun x=>AoM K x.1⟩
def Afu:Env:=⟨[],tys,eqs,mts,K,[0,2,3,4,5,6,11,20],[(26,NZ K),(27,Auk K)],[(19,Auc K)],[],[],[],[],false⟩
def Zx (a0:List Int) (y2:tV×Int) (L5:Int→Int→Int→(List Int)→Option (Int×tL×List Int)) (q6 q7 q8:Int) (q9:List Int):Option (Int×tL×List Int) :=
  (AL K (a0,q7,q8) (3:Int)).bind fun y10=>(bif (decide (q6<(w ((39:Int)+y10.2)))) then (bif (decide (0≤q6)&&decide (q6<(q9.length:Int))) then L5 (w (q6+(1:Int))) y10.1.1 y10.1.2 (q9.set ((0:Int)+q6).toNat (w ((1:Int)+(q6.tmod (9:Int))))) else none) else some ((0:Int),((7:Int),(0:Int),(6:Int)),q9))
def TQ (a0:List Int) (y2:tV×Int) (n:Nat) (q6 q7 q8:Int) (q9:List Int):Option (Int×tL×List Int) :=
  Ax (X:=Int×Int×Int×List Int) (fun L x=>Zx K a0 y2 (fun v0 v1 v2 v3=>L (v0,v1,v2,v3)) x.1 x.2.1 x.2.2.1 x.2.2.2) n (q6,q7,q8,q9)
def Ajo (a0:List Int) (I5:(tV×Int)→Int→Int→Int→(List Int)→Option (Int×tL×List Int)):Option (Int×tL×List Int) :=
  (Ae8 K a0).bind fun y1=>(AL K (a0,y1) (20:Int)).bind fun y2=>(bif (y2.2==(0:Int)) then (bif (decide (0≤(42:Int))&&Nat.ble 42 (lim 8)&&((42:Int)==(42:Int))) then I5 y2 (0:Int) y2.1.1 y2.1.2 (List.replicate 42 (0:Int)) else none) else (Ah0 K (a0,y2.1)).bind fun y11=>some y11.2)
def Ajp (a0:List Int):Option (Int×tL×List Int) :=
  Ajo K a0 (fun c0 d0 d1 d2 d3=>TQ K a0 c0 K d0 d1 d2 d3)
def AoN:Mdl:=⟨[(.ro,(.list 5 (.int .u8)))],[(.cons sI (.cons sL (.list 2 sI)))],fun x=>Ajp K x.1⟩
def AuJ (a0:List Int) (lr:LR (Int×tL×List Int)):Ex→Fr→Option (Int×tL×List Int) :=
  Ak (Afu K) 1 lr Axf [1,1,0,1,0,1,1,0,1,0] (fM (Afu K) Tryz.f12 (AoN K) (a0,()))
def Ajq (a0:List Int) (lr:LR (Int×tL×List Int)) (y2:tV×Int) (bq6 bq7 bq8:Int) (bq9:List Int):Option (Int×tL×List Int) :=
  lr (AB Axf [1,1,0,1,0,1,1,0,1,0,0]) (Abr a0 y2 bq6 bq7 bq8 bq9) (AuJ K a0 lr)
def AyR:Env:=eE K [(117,Q1 K)] [0,1,2,4]
def Adk (a0 a1 a2:Int):Option Bool :=
  (IU K a0 a1 a2).bind fun y1=>some (!y1)
def Ajr:Mdl:=⟨[(.ro,sI),(.cap,sI),(.cap,sI)],[.bool],fun x=>Adk K x.1 x.2.1 x.2.2.1⟩
def Rj:Env:=eE K [] [0,1,4,5,7,8,9,16]
def M6 (K:Nat) (a0:List Int) (a1:(Int→Option Bool)) (L3:Int→Option Int) (q4:Int):Option Int :=
  (bif (decide (q4<(a0.length:Int))) then (bif (decide (0≤q4)&&decide (q4<(a0.length:Int))) then (a1 (a0.getD ((0:Int)+q4).toNat (0:Int))).bind fun y5=>(bif y5 then some q4 else L3 (w (q4+(1:Int)))) else none) else some (-1:Int))
def TR (a0:List Int) (a1:(Int→Option Bool)) (n:Nat) (q4:Int):Option Int :=
  Ax (X:=Int) (fun L x=>M6 K a0 a1 (fun v0=>L v0) x) n q4
def Zy (K:Nat) (a0:List Int) (a1:(Int→Option Bool)) (I3:Int→Option Int):Option Int :=
  I3 (0:Int)
def Adl (a0:List Int) (a1:(Int→Option Bool)):Option Int :=
  Zy K a0 a1 (fun d0=>TR K a0 a1 K d0)
def Adm:Mdl:=⟨[(.ro,(.list 2 sI)),(.ro,(.fn1 sI .bool))],[sI],fun x=>Adl K x.1 x.2.1⟩
def AoO (a0:List Int) (a1:(Int→Option Bool)) (lr:LR Int):Ex→Fr→Option Int :=
  Ak (Rj K) 1 lr AsI [1,0,1,0] (fM (Rj K) Tryz.f168 (Adm K) (a0,a1,()))
def Adn (a0:List Int) (a1:(Int→Option Bool)) (lr:LR Int) (bq4:Int):Option Int :=
  lr (AB AsI [1,0,1,0,0]) (VQ a0 a1 bq4) (AoO K a0 a1 lr)
def AyS:Env:=eE K [(168,Adm K)] [0,1,4]
def Ajs (a0:List Int) (a1:(Int→Option Bool)):Option Bool :=
  (Adl K a0 a1).bind fun y1=>some (decide (y1≥(0:Int)))
def Atp:Mdl:=⟨[(.ro,(.list 2 sI)),(.ro,(.fn1 sI .bool))],[.bool],fun x=>Ajs K x.1 x.2.1⟩
def AAj:Env:=⟨[(118,Atp K),(119,Ajr K)],tys,eqs,mts,K,[0,1,2,4,5,6],[],[],[],[],[(119,Ajr K)],[],false⟩
def AoP (a0:List Int) (a1 a2:Int):Option Bool :=
  (Ajs K a0 (fun z1=>Adk K z1 a1 a2)).bind fun y2=>some (!y2)
def AyT:Mdl:=⟨[(.ro,(.list 2 sI)),(.ro,sI),(.ro,sI)],[.bool],fun x=>AoP K x.1 x.2.1 x.2.2.1⟩
def AAk:Env:=eE K [(62,Auy K),(63,Aiv K),(64,Aiu K),(65,AyT K)] [0,1,2]
def Ajt (a0:Int×tL×List Int):Option Bool :=
  (AiM K a0.1).bind fun y1=>((bif y1 then Y9 K a0.2.1 else some false)).bind fun y2=>((bif (bif y1 then y2 else false) then Ts K a0.2.1 else some (0:Int))).bind fun y3=>((bif (bif (bif y1 then y2 else false) then ((a0.2.2.length:Int)==y3) else false) then AoP K a0.2.2 (0:Int) (9:Int) else some false)).bind fun y4=>some (bif (bif (bif y1 then y2 else false) then ((a0.2.2.length:Int)==y3) else false) then y4 else false)
def AuK:Mdl:=⟨[(.ro,(.cons sI (.cons sL (.list 2 sI))))],[.bool],fun x=>Ajt K x.1⟩
def AAl:Env:=eE K [(97,Wo K),(98,Afm K)] [0,1,2,3,4]
def Aju (a0:Int×tL×List Int) (a1:Int×Int):Option Int :=
  (Mu K a0.2.1 a1).bind fun y1=>(Qi K a0.2.1 y1).bind fun y2=>(bif (decide (0≤y2)&&decide (y2<(a0.2.2.length:Int))) then some (a0.2.2.getD ((0:Int)+y2).toNat (0:Int)) else none)
def AuL:Mdl:=⟨[(.ro,(.cons sI (.cons sL (.list 2 sI)))),(.ro,sV)],[sI],fun x=>Aju K x.1 x.2.1⟩
omit K
def Ajv (K:Nat) (a0:List ByteArray) (a1:ByteArray):Option ByteArray:=P5 a0 a1
def Atq (K:Nat):Mdl:=⟨[(.mv,(.list 9 .str)),(.ro,.str)],[.str],fun x=>Ajv K x.1 x.2.1⟩
include K
def Rk:Env:=eE K [(68,Auu K),(170,Atq K)] [0,1,4,5,7,9,10,11,12]
def TS (a0:ByteArray) (a1:List Int) (L3:Int→(List ByteArray)→Option ByteArray) (q4:Int) (q5:List ByteArray):Option ByteArray :=
  (bif (decide (q4<(a1.length:Int))) then (bif (decide (0≤q4)&&decide (q4<(a1.length:Int))) then (Aiq K (a1.getD ((0:Int)+q4).toNat (0:Int))).bind fun y6=>(bif (Nat.ble (q5.length+[y6].length) (lim 16)) then L3 (w (q4+(1:Int))) (q5++[y6]) else none) else none) else (Ajv K q5 a0).bind fun y7=>some y7)
def M7 (a0:ByteArray) (a1:List Int) (n:Nat) (q4:Int) (q5:List ByteArray):Option ByteArray :=
  Ax (X:=Int×List ByteArray) (fun L x=>TS K a0 a1 (fun v0 v1=>L (v0,v1)) x.1 x.2) n (q4,q5)
def Zz (K:Nat) (a0:ByteArray) (a1:List Int) (I3:Int→(List ByteArray)→Option ByteArray):Option ByteArray :=
  I3 (0:Int) []
def Rm (a0:ByteArray) (a1:List Int):Option ByteArray :=
  Zz K a0 a1 (fun d0 d1=>M7 K a0 a1 K d0 d1)
def WQ:Mdl:=⟨[(.ro,.str),(.ro,(.list 2 sI))],[.str],fun x=>Rm K x.1 x.2.1⟩
def AoQ (a0:ByteArray) (a1:List Int) (lr:LR ByteArray):Ex→Fr→Option ByteArray :=
  Ak (Rk K) 1 lr AsJ [1,1,0,1,0] (fM (Rk K) Tryz.f121 (WQ K) (a0,a1,()))
def Ado (a0:ByteArray) (a1:List Int) (lr:LR ByteArray) (bq4:Int) (bq5:List ByteArray):Option ByteArray :=
  lr (AB AsJ [1,1,0,1,0,0]) (VS a0 a1 bq4 bq5) (AoQ K a0 a1 lr)
def AAm:Env:=eE K [(120,Q2 K),(121,WQ K)] [0,1,2,5]
def AoR (a0:Int×Int):Option ByteArray :=
  (LU K a0).bind fun y1=>(bif (!y1) then some ByteArray.empty else (Rm K (bs [44]) [a0.1,a0.2]).bind fun y2=>some y2)
def AyU:Mdl:=⟨[(.ro,sV)],[.str],fun x=>AoR K x.1⟩
def Afv:Env:=eE K [(66,AuL K),(67,AyU K),(68,Auu K)] [0,1,2,4,5,6,7,9,10,11,12,13,14,21,36]
def K7 (a0:Int×tL×List Int) (a1:List tV) (L5:ByteArray→Int→Int→Option (ByteArray×Int)) (q6:ByteArray) (q7 q8:Int):Option (ByteArray×Int) :=
  (bif (decide (q8<(a1.length:Int))) then (bif (decide (0≤q8)&&decide (q8<(a1.length:Int))) then (Aju K a0 (a1.getD ((0:Int)+q8).toNat ((0:Int),(0:Int)))).bind fun y9=>(bif (y9 != (0:Int)) then (AoR K (a1.getD ((0:Int)+q8).toNat ((0:Int),(0:Int)))).bind fun y10=>(bif (Nat.ble ((bs [109,97,114,107,32]).size+y10.size) 9223372036854775807) then (bif (Nat.ble (((bs [109,97,114,107,32])++y10).size+(bs [32]).size) 9223372036854775807) then (Aiq K y9).bind fun y11=>(bif (Nat.ble ((((bs [109,97,114,107,32])++y10)++(bs [32])).size+y11.size) 9223372036854775807) then (bif (Nat.ble (((((bs [109,97,114,107,32])++y10)++(bs [32]))++y11).size+(bs [10]).size) 9223372036854775807) then (bif (Nat.ble (q6.size+(((((bs [109,97,114,107,32])++y10)++(bs [32]))++y11)++(bs [10])).size) 9223372036854775807) then L5 (q6++(((((bs [109,97,114,107,32])++y10)++(bs [32]))++y11)++(bs [10]))) (w (q7+(1:Int))) (w (q8+(1:Int))) else none) else none) else none) else none) else none) else L5 q6 q7 (w (q8+(1:Int)))) else none) else (bif (decide (q7>(40:Int))) then some (ByteArray.empty,(3:Int)) else some (q6,(0:Int))))
def Ajw (a0:Int×tL×List Int) (a1:List tV) (n:Nat) (q6:ByteArray) (q7 q8:Int):Option (ByteArray×Int) :=
  Ax (X:=ByteArray×Int×Int) (fun L x=>K7 K a0 a1 (fun v0 v1 v2=>L (v0,v1,v2)) x.1 x.2.1 x.2.2) n (q6,q7,q8)
def Ajx (K:Nat) (a0:Int×tL×List Int) (a1:List tV) (I5:ByteArray→Int→Int→Option (ByteArray×Int)):Option (ByteArray×Int) :=
  I5 ByteArray.empty (0:Int) (0:Int)
def Ajy (a0:Int×tL×List Int) (a1:List tV):Option (ByteArray×Int) :=
  Ajx K a0 a1 (fun d0 d1 d2=>Ajw K a0 a1 K d0 d1 d2)
def AoS:Mdl:=⟨[(.ro,(.cons sI (.cons sL (.list 2 sI)))),(.ro,(.list 59 sV))],[.str,sI],fun x=>Ajy K x.1 x.2.1⟩
def AuM (a0:Int×tL×List Int) (a1:List tV) (lr:LR (ByteArray×Int)):Ex→Fr→Option (ByteArray×Int) :=
  Ak (Afv K) 2 lr Axg [1,1,0,1,0] (fM (Afv K) Tryz.f29 (AoS K) (a0,a1,()))
def Ajz (a0:Int×tL×List Int) (a1:List tV) (lr:LR (ByteArray×Int)) (bq6:ByteArray) (bq7 bq8:Int):Option (ByteArray×Int) :=
  lr (AB Axg [1,1,0,1,0,0]) (Abs a0 a1 bq6 bq7 bq8) (AuM K a0 a1 lr)
def AAn:Env:=eE K [(63,Aiv K),(121,WQ K)] [0,1,2,5]
def AoT (a0:Int×Int×Int):Option ByteArray :=
  (Y9 K a0).bind fun y1=>(bif (!y1) then some ByteArray.empty else (Rm K (bs [44]) [a0.1,a0.2.1,a0.2.2]).bind fun y2=>some y2)
def AyV:Mdl:=⟨[(.ro,sL)],[.str],fun x=>AoT K x.1⟩
def AAo:Env:=eE K [(69,AyV K)] [0,1,2]
def AoU (a0:Int×tL×List Int):Option ByteArray :=
  (bif (decide (0≤a0.1)&&decide (a0.1≤(w (a0.1+(1:Int))))&&decide ((w (a0.1+(1:Int)))≤((bs [83,72]).size:Int))) then (bif (Nat.ble ((bs [102,114,97,109,101,32]).size+((bs [83,72]).extract a0.1.toNat (w (a0.1+(1:Int))).toNat).size) 9223372036854775807) then (bif (Nat.ble (((bs [102,114,97,109,101,32])++((bs [83,72]).extract a0.1.toNat (w (a0.1+(1:Int))).toNat)).size+(bs [10,108,97,116,116,105,99,101,32]).size) 9223372036854775807) then (AoT K a0.2.1).bind fun y1=>(bif (Nat.ble ((((bs [102,114,97,109,101,32])++((bs [83,72]).extract a0.1.toNat (w (a0.1+(1:Int))).toNat))++(bs [10,108,97,116,116,105,99,101,32])).size+y1.size) 9223372036854775807) then (bif (Nat.ble (((((bs [102,114,97,109,101,32])++((bs [83,72]).extract a0.1.toNat (w (a0.1+(1:Int))).toNat))++(bs [10,108,97,116,116,105,99,101,32]))++y1).size+(bs [10]).size) 9223372036854775807) then some (((((bs [102,114,97,109,101,32])++((bs [83,72]).extract a0.1.toNat (w (a0.1+(1:Int))).toNat))++(bs [10,108,97,116,116,105,99,101,32]))++y1)++(bs [10])) else none) else none) else none) else none) else none)
def AyW:Mdl:=⟨[(.ro,(.cons sI (.cons sL (.list 2 sI))))],[.str],fun x=>AoU K x.1⟩
def AAp:Env:=eE K [(28,AuK K),(29,AoS K),(30,Zm K),(31,AyW K)] [0,1,2,3,4,5,8,18]
def AoV (a0:Int×tL×List Int):Option (ByteArray×Int) :=
  (Ajt K a0).bind fun y1=>(bif (!y1) then some (ByteArray.empty,(1:Int)) else (WF K a0.2.1).bind fun y2=>(Ajy K a0 y2).bind fun y3=>(bif (y3.2 != (0:Int)) then some (ByteArray.empty,y3.2) else (AoU K a0).bind fun y4=>(bif (Nat.ble (y4.size+y3.1.size) 9223372036854775807) then some ((y4++y3.1),(0:Int)) else none)))
def AyX:Mdl:=⟨[(.ro,(.cons sI (.cons sL (.list 2 sI))))],[.str,sI],fun x=>AoV K x.1⟩
def Afw:Env:=eE K [] [0,1,4,5,10,14,25]
def TT (K:Nat) (a0 a1:List Int) (L2:Int→Option Bool) (q3:Int):Option Bool :=
  (bif (decide (q3<(a0.length:Int))) then (bif (decide (0≤q3)&&decide (q3<(a0.length:Int))) then (bif (decide (0≤q3)&&decide (q3<(a1.length:Int))) then (bif ((a0.getD ((0:Int)+q3).toNat (0:Int)) != (a1.getD ((0:Int)+q3).toNat (0:Int))) then some false else L2 (w (q3+(1:Int)))) else none) else none) else some true)
def ZA (a0 a1:List Int) (n:Nat) (q3:Int):Option Bool :=
  Ax (X:=Int) (fun L x=>TT K a0 a1 (fun v0=>L v0) x) n q3
def AjA (K:Nat) (a0 a1:List Int) (I2:Int→Option Bool):Option Bool :=
  (bif ((a0.length:Int) != (a1.length:Int)) then some false else I2 (0:Int))
def AjB (a0 a1:List Int):Option Bool :=
  AjA K a0 a1 (fun d0=>ZA K a0 a1 K d0)
def AoW:Mdl:=⟨[(.ro,(.list 2 sI)),(.ro,(.list 2 sI))],[.bool],fun x=>AjB K x.1 x.2.1⟩
def AuN (a0 a1:List Int) (lr:LR Bool):Ex→Fr→Option Bool :=
  Ak (Afw K) 2 lr Axh [1,1,0,1,0] (fM (Afw K) Tryz.f36 (AoW K) (a0,a1,()))
def AjC (a0 a1:List Int) (lr:LR Bool) (bq3:Int):Option Bool :=
  lr (AB Axh [1,1,0,1,0,0]) (Abt a0 a1 bq3) (AuN K a0 a1 lr)
def AAq:Env:=eE K [(36,AoW K)] [0,1,2,3,4]
def AjD (a0 a1:Int×tL×List Int):Option Bool :=
  ((bif (bif (a0.1==a1.1) then ((a0.2.1.1==a1.2.1.1)&&((a0.2.1.2.1==a1.2.1.2.1)&&(a0.2.1.2.2==a1.2.1.2.2))) else false) then AjB K a0.2.2 a1.2.2 else some false)).bind fun y1=>some (bif (bif (a0.1==a1.1) then ((a0.2.1.1==a1.2.1.1)&&((a0.2.1.2.1==a1.2.1.2.1)&&(a0.2.1.2.2==a1.2.1.2.2))) else false) then y1 else false)
def AyY:Mdl:=⟨[(.ro,(.cons sI (.cons sL (.list 2 sI)))),(.ro,(.cons sI (.cons sL (.list 2 sI))))],[.bool],fun x=>AjD K x.1 x.2.1⟩
def Afx:Env:=eE K [] [0,1,4,5,10,14,25]
def TU (K:Nat) (a0 a1:List tM) (L2:Int→Option Bool) (q3:Int):Option Bool :=
  (bif (decide (q3<(a0.length:Int))) then (bif (decide (0≤q3)&&decide (q3<(a0.length:Int))) then (bif (decide (0≤q3)&&decide (q3<(a1.length:Int))) then (bif (!((((a0.getD ((0:Int)+q3).toNat zM).1).1==((a1.getD ((0:Int)+q3).toNat zM).1).1)&&(((((a0.getD ((0:Int)+q3).toNat zM).1).2).1==(((a1.getD ((0:Int)+q3).toNat zM).1).2).1)&&((((((a0.getD ((0:Int)+q3).toNat zM).1).2).2).1==((((a1.getD ((0:Int)+q3).toNat zM).1).2).2).1)&&((((((a0.getD ((0:Int)+q3).toNat zM).1).2).2).2==((((a1.getD ((0:Int)+q3).toNat zM).1).2).2).2)&&((((a0.getD ((0:Int)+q3).toNat zM).2).1==((a1.getD ((0:Int)+q3).toNat zM).2).1)&&(((a0.getD ((0:Int)+q3).toNat zM).2).2==((a1.getD ((0:Int)+q3).toNat zM).2).2))))))) then some false else L2 (w (q3+(1:Int)))) else none) else none) else some true)
def ZB (a0 a1:List tM) (n:Nat) (q3:Int):Option Bool :=
  Ax (X:=Int) (fun L x=>TU K a0 a1 (fun v0=>L v0) x) n q3
def AjE (K:Nat) (a0 a1:List tM) (I2:Int→Option Bool):Option Bool :=
  (bif ((a0.length:Int) != (a1.length:Int)) then some false else I2 (0:Int))
def AjF (a0 a1:List tM):Option Bool :=
  AjE K a0 a1 (fun d0=>ZB K a0 a1 K d0)
def AoX:Mdl:=⟨[(.ro,(.list 78 sM)),(.ro,(.list 78 sM))],[.bool],fun x=>AjF K x.1 x.2.1⟩
def AuO (a0 a1:List tM) (lr:LR Bool):Ex→Fr→Option Bool :=
  Ak (Afx K) 2 lr Axi [1,1,0,1,0] (fM (Afx K) Tryz.f16 (AoX K) (a0,a1,()))
def AjG (a0 a1:List tM) (lr:LR Bool) (bq3:Int):Option Bool :=
  lr (AB Axi [1,1,0,1,0,0]) (Abu a0 a1 bq3) (AuO K a0 a1 lr)
def AAr:Env:=eE K [(28,AuK K),(75,AiP K)] [0,1,2,4,7]
def AoY (a0:Int×tL×List Int) (a1:List tM):Option Int :=
  (Ajt K a0).bind fun y1=>(bif (!y1) then some (1:Int) else (Zi K a0.1 a0.2.1 [a1]).bind fun y2=>some y2)
def AyZ:Mdl:=⟨[(.ro,(.cons sI (.cons sL (.list 2 sI)))),(.ro,(.list 78 sM))],[sI],fun x=>AoY K x.1 x.2.1⟩
def Afy:Env:=eE K [(30,Zm K),(66,AuL K),(131,AiY K)] [0,1,2,3,4,5,6,9,10,11,12,26]
def TV (a0:Int×tL×List Int) (a1:tA×Int×Int) (y1:List tV) (L5:Int→Option Bool) (q6:Int):Option Bool :=
  (bif (decide (q6<(y1.length:Int))) then (bif (decide (0≤q6)&&decide (q6<(y1.length:Int))) then (WG K a1 (y1.getD ((0:Int)+q6).toNat ((0:Int),(0:Int)))).bind fun y7=>(Aju K a0 y7).bind fun y8=>(bif (decide (0≤q6)&&decide (q6<(a0.2.2.length:Int))) then (bif (y8 != (a0.2.2.getD ((0:Int)+q6).toNat (0:Int))) then some false else L5 (w (q6+(1:Int)))) else none) else none) else some true)
def ZC (a0:Int×tL×List Int) (a1:tA×Int×Int) (y1:List tV) (n:Nat) (q6:Int):Option Bool :=
  Ax (X:=Int) (fun L x=>TV K a0 a1 y1 (fun v0=>L v0) x) n q6
def AjH (a0:Int×tL×List Int) (a1:tA×Int×Int) (I5:(List tV)→Int→Option Bool):Option Bool :=
  (WF K a0.2.1).bind fun y1=>I5 y1 (0:Int)
def Afz (a0:Int×tL×List Int) (a1:tA×Int×Int):Option Bool :=
  AjH K a0 a1 (fun c0 d0=>ZC K a0 a1 c0 K d0)
def AoZ:Mdl:=⟨[(.ro,(.cons sI (.cons sL (.list 2 sI)))),(.ro,sM)],[.bool],fun x=>Afz K x.1 x.2.1⟩
def AuP (a0:Int×tL×List Int) (a1:tA×Int×Int) (lr:LR Bool):Ex→Fr→Option Bool :=
  Ak (Afy K) 1 lr Axj [1,0,1,0] (fM (Afy K) Tryz.f76 (AoZ K) (a0,a1,()))
def AjI (a0:Int×tL×List Int) (a1:tA×Int×Int) (lr:LR Bool) (y1:List tV) (bq6:Int):Option Bool :=
  lr (AB Axj [1,0,1,0,0]) (Abv a0 a1 y1 bq6) (AuP K a0 a1 lr)
def AfA:Env:=eE K [(76,AoZ K)] [0,1,2,4,6,7,8,9,10,16]
def TW (a0:Int×tL×List Int) (a1:List tM) (L3:Int→Option Bool) (q4:Int):Option Bool :=
  (bif (decide (q4<(a1.length:Int))) then (bif (decide (0≤q4)&&decide (q4<(a1.length:Int))) then (Afz K a0 ((((a1.getD ((0:Int)+q4).toNat zM).1).1,(((a1.getD ((0:Int)+q4).toNat zM).1).2).1,((((a1.getD ((0:Int)+q4).toNat zM).1).2).2)),((a1.getD ((0:Int)+q4).toNat zM).2))).bind fun y5=>(bif (!y5) then some false else L3 (w (q4+(1:Int)))) else none) else some true)
def ZD (a0:Int×tL×List Int) (a1:List tM) (n:Nat) (q4:Int):Option Bool :=
  Ax (X:=Int) (fun L x=>TW K a0 a1 (fun v0=>L v0) x) n q4
def AjJ (K:Nat) (a0:Int×tL×List Int) (a1:List tM) (I3:Int→Option Bool):Option Bool :=
  I3 (0:Int)
def AjK (a0:Int×tL×List Int) (a1:List tM):Option Bool :=
  AjJ K a0 a1 (fun d0=>ZD K a0 a1 K d0)
def Ao0:Mdl:=⟨[(.ro,(.cons sI (.cons sL (.list 2 sI)))),(.ro,(.list 78 sM))],[.bool],fun x=>AjK K x.1 x.2.1⟩
def AuQ (a0:Int×tL×List Int) (a1:List tM) (lr:LR Bool):Ex→Fr→Option Bool :=
  Ak (AfA K) 2 lr Axk [1,0,1,0] (fM (AfA K) Tryz.f38 (Ao0 K) (a0,a1,()))
def AjL (a0:Int×tL×List Int) (a1:List tM) (lr:LR Bool) (bq4:Int):Option Bool :=
  lr (AB Axk [1,0,1,0,0]) (Abw a0 a1 bq4) (AuQ K a0 a1 lr)
def AAs:Env:=eE K [(37,AyZ K),(38,Ao0 K)] [0,1,2,4,5,6,11]
def AfB (a0:Int×tL×List Int) (a1:List tM):Option (Bool×Int) :=
  (AoY K a0 a1).bind fun y1=>(bif (y1 != (0:Int)) then some (false,y1) else (AjK K a0 a1).bind fun y2=>some (y2,(0:Int)))
def Ay0:Mdl:=⟨[(.ro,(.cons sI (.cons sL (.list 2 sI)))),(.ro,(.list 78 sM))],[.bool,sI],fun x=>AfB K x.1 x.2.1⟩
def f3E:Env:=eE K [(4,f4M K),(5,f5M K),(6,f6M K),(7,f7M K),(8,f8M K),(9,f9M K),(10,AyP K),(11,AyQ K),(12,AoN K),(13,AyX K),(14,Aik K),(15,AyY K),(16,AoX K),(17,Ay0 K)] [0,2,3,4,5,6,7,8,9,10,11,12,13,14,15,16,17,18,19,20,21,22,23,24,25,26,27,29,130,132,150,152]
def f3G (a0:List Int):Option Bool :=
  (f4G K a0).bind fun y1=>(bif y1 then some true else (f5G K a0).bind fun y2=>(f6G K y2).bind fun y3=>(f7G K y2).bind fun y4=>(f8G K y2).bind fun y5=>(f9G K y2).bind fun y6=>(AoL K y2).bind fun y7=>(AoM K y2).bind fun y8=>(Ajp K a0).bind fun y9=>(AoV K y9).bind fun y10=>(Afk K y9).bind fun y11=>((bif (!(y3.2.2 != y4.2.2)) then AjD K y3.1 y4.1 else some false)).bind fun y12=>((bif (!(bif (bif (bif (y3.2.2 != y4.2.2) then true else (!y12)) then true else (y3.2.1 != y4.2.1)) then true else (y5.2 != y6.2))) then AjF K y5.1 y6.1 else some false)).bind fun y13=>(bif (bif (bif (bif (bif (bif (bif (bif (bif (bif (bif (y3.2.2 != y4.2.2) then true else (!y12)) then true else (y3.2.1 != y4.2.1)) then true else (y5.2 != y6.2)) then true else (!y13)) then true else (y7.2 != y8.2)) then true else (y7.1 != y8.1)) then true else (y10.2 != y11.2)) then true else (y10.1 != y11.1)) then true else (y5.2 != y3.2.2)) then true else (y7.2 != y3.2.2)) then some false else (bif (y10.2==(0:Int)) then (f6G K y10.1).bind fun y14=>((bif (!(bif (y14.2.2 != (0:Int)) then true else (y14.2.1 != (0:Int)))) then AjD K y14.1 y9 else some false)).bind fun y15=>(bif (bif (bif (y14.2.2 != (0:Int)) then true else (y14.2.1 != (0:Int))) then true else (!y15)) then some false else (bif (y3.2.2 != (0:Int)) then some true else (AfB K y3.1 y5.1).bind fun y16=>some (bif (bif (y3.2.1==(0:Int)) then (decide (y7.1≥(2:Int))) else false) then (bif (decide ((y5.1.length:Int)>(100:Int))) then true else (bif (y16.2==(0:Int)) then y16.1 else false)) else false))) else (bif (y3.2.2 != (0:Int)) then some true else (AfB K y3.1 y5.1).bind fun y17=>some (bif (bif (y3.2.1==(0:Int)) then (decide (y7.1≥(2:Int))) else false) then (bif (decide ((y5.1.length:Int)>(100:Int))) then true else (bif (y17.2==(0:Int)) then y17.1 else false)) else false)))))
def f3M:Mdl:=⟨[(.ro,(.list 5 (.int .u8)))],[.bool],fun x=>f3G K x.1⟩
end
end Go.Proofs.YtkemdhpdfaejgaaGreatDoor.X
