/- Functions of the program as plain Lean functions, and that the program does what they say. Printed by gen.py. -/
import Derived.Test.YteheolldcpjkcaaGreatDoorQtD0
namespace Go.Proofs.YteheolldcpjkcaaGreatDoor.X
open Go
set_option maxRecDepth 100000
attribute [local instance] cwD
set_option linter.unusedVariables false
noncomputable section
variable (K:Nat)
include K
def NR:Env:=eE K [(165,RS K),(180,WJ K)] [0,1,2,3,4,5,10]
def Il (a0:Int×Int×Int) (a1:Int×Int) (L4:Int→Int→Option tV) (q5 q6:Int):Option tV :=
  (Lp K a0 (q5,q6)).bind fun y7=>(bif (!y7) then (Hg K (q5,q6) a1).bind fun y8=>L4 y8.1 y8.2 else some (q5,q6))
def Ea (a0:Int×Int×Int) (a1:Int×Int) (n:Nat) (q5 q6:Int):Option tV :=
  AJ (X:=Int×Int) (fun L x=>Il K a0 a1 (fun v0 v1=>L (v0,v1)) x.1 x.2) n (q5,q6)
def PW (K:Nat) (a0:Int×Int×Int) (a1:Int×Int) (I4:Int→Int→Option tV):Option tV :=
  I4 a1.1 a1.2
def Hh (a0:Int×Int×Int) (a1:Int×Int):Option tV :=
  PW K a0 a1 (fun d0 d1=>Ea K a0 a1 K d0 d1)
def R4:Mdl:=⟨[(.ro,sL),(.ro,sV)],[sV],fun x=>Hh K x.1 x.2.1⟩
def Af7 (a0:Int×Int×Int) (a1:Int×Int) (lr:LR tV):Ex→Fr→Option tV :=
  Au (NR K) 0 lr Ajw [1,1,0,0] (fM (NR K) Tryz.f124 (R4 K) (a0,a1,()))
def Xd (a0:Int×Int×Int) (a1:Int×Int) (lr:LR tV) (bq5 bq6:Int):Option tV :=
  lr (AH Ajw [1,1,0,0,0]) (Rv a0 a1 bq5 bq6) (Af7 K a0 a1 lr)
def Im:Env:=eE K [] [0,2,3,4,5,11,18]
def Af8 (K:Nat) (a0 q7:Int) (L6 L9:Int→(List tV)→Option (List tV)) (q10:Int) (q11:List tV):Option (List tV) :=
  (bif (decide (q10≤a0)) then (bif (Nat.ble (q11.length+[(q7,q10)].length) (lim 16)) then L9 (w (q10+(1:Int))) (q11++[(q7,q10)]) else none) else L6 (w (q7+(1:Int))) q11)
def Xe (a0 q7:Int) (L6:Int→(List tV)→Option (List tV)) (n:Nat) (q10:Int) (q11:List tV):Option (List tV) :=
  AJ (X:=Int×List tV) (fun L x=>Af8 K a0 q7 L6 (fun v0 v1=>L (v0,v1)) x.1 x.2) n (q10,q11)
def Xf (K:Nat) (a0:Int) (I9:Int→Int→(List tV)→Option (List tV)) (L6:Int→(List tV)→Option (List tV)) (q7:Int) (q8:List tV):Option (List tV) :=
  (bif (decide (q7≤a0)) then I9 q7 (w (0-a0)) q8 else some q8)
def Xg (a0:Int) (n:Nat) (q7:Int) (q8:List tV):Option (List tV) :=
  AJ (X:=Int×List tV) (fun L x=>(fun L6=>Xf K a0 (fun c0 d0 d1=>Xe K a0 c0 L6 K d0 d1) L6 x.1 x.2) (fun v0 v1=>L (v0,v1))) n (q7,q8)
def Ach (K:Nat) (a0:Int) (I6:Int→(List tV)→Option (List tV)):Option (List tV) :=
  I6 (w (0-a0)) []
def Xh (a0:Int):Option (List tV) :=
  Ach K a0 (fun d0 d1=>Xg K a0 K d0 d1)
def Xi:Mdl:=⟨[(.ro,sI)],[(.list 33 sV)],fun x=>Xh K x.1⟩
def Xj (a0:Int) (lr:LR (List tV)):Ex→Fr→Option (List tV) :=
  Au (Im K) 0 lr VQ [1,1,0,1,0] (fM (Im K) Tryz.f203 (Xi K) (a0,()))
def Xk (a0:Int) (lr:LR (List tV)) (bq7:Int) (bq8:List tV):Option (List tV) :=
  lr (AH VQ [1,1,0,1,0,0]) (FW a0 bq7 bq8) (Xj K a0 lr)
def Af9 (a0:Int) (F6:Fr→Option (List tV)) (bq7:Int) (bq8:List tV) (lr:LR (List tV)):Ex→Fr→Option (List tV) :=
  Au (Im K) 0 lr (AH VQ [1,1,0,1,0,0]) [1,0,0,1,0] (ET 0 (FW a0 bq7 bq8) F6 (Xj K a0 lr))
def Xl (a0:Int) (F6:Fr→Option (List tV)) (bq7:Int) (bq8:List tV) (lr:LR (List tV)) (q7 bq10:Int) (bq11:List tV):Option (List tV) :=
  lr (AH VQ [1,1,0,1,0,0,1,0,0,1,0,0]) (Rw a0 q7 bq10 bq11) (Af9 K a0 F6 bq7 bq8 lr)
def NS:Env:=eE K [(180,WJ K),(203,Xi K),(204,AbF K)] [0,1,3,4,5,6,8,9,11,12,13,14,36,39]
def KC (a0:Int) (a1:Int×Int×Int) (y1:List tV) (L9:Int→Int→(List tV)→Option (List tV)) (q10 q11:Int) (q12:List tV):Option (List tV) :=
  (bif (decide (q10<(y1.length:Int))) then (bif (decide (0≤q10)&&decide (q10<(y1.length:Int))) then (JS K a0 (y1.getD ((0:Int)+q10).toNat ((0:Int),(0:Int)))).bind fun y13=>((bif (!(y13==(0:Int))) then Lp K a1 (y1.getD ((0:Int)+q10).toNat ((0:Int),(0:Int))) else some false)).bind fun y14=>(bif (bif (bif (y13==(0:Int)) then true else (!y14)) then true else (bif (decide (q11>(0:Int))) then (decide (y13>q11)) else false)) then L9 (w (q10+(1:Int))) q11 q12 else (bif (y13 != q11) then (bif (Nat.ble (0+[(y1.getD ((0:Int)+q10).toNat ((0:Int),(0:Int)))].length) (lim 16)) then L9 (w (q10+(1:Int))) y13 ([]++[(y1.getD ((0:Int)+q10).toNat ((0:Int),(0:Int)))]) else none) else (bif (Nat.ble (q12.length+[(y1.getD ((0:Int)+q10).toNat ((0:Int),(0:Int)))].length) (lim 16)) then L9 (w (q10+(1:Int))) q11 (q12++[(y1.getD ((0:Int)+q10).toNat ((0:Int),(0:Int)))]) else none))) else none) else some q12)
def PX (a0:Int) (a1:Int×Int×Int) (y1:List tV) (n:Nat) (q10 q11:Int) (q12:List tV):Option (List tV) :=
  AJ (X:=Int×Int×List tV) (fun L x=>KC K a0 a1 y1 (fun v0 v1 v2=>L (v0,v1,v2)) x.1 x.2.1 x.2.2) n (q10,q11,q12)
def Uk (a0:Int) (a1:Int×Int×Int) (I9:(List tV)→Int→Int→(List tV)→Option (List tV)):Option (List tV) :=
  (Xh K (12:Int)).bind fun y1=>I9 y1 (0:Int) (0:Int) []
def R5 (a0:Int) (a1:Int×Int×Int):Option (List tV) :=
  Uk K a0 a1 (fun c0 d0 d1 d2=>PX K a0 a1 c0 K d0 d1 d2)
def Xm:Mdl:=⟨[(.ro,sI),(.ro,sL)],[(.list 33 sV)],fun x=>R5 K x.1 x.2.1⟩
def Aga (a0:Int) (a1:Int×Int×Int) (lr:LR (List tV)):Ex→Fr→Option (List tV) :=
  Au (NS K) 0 lr Ajx [1,1,0,1,0] (fM (NS K) Tryz.f126 (Xm K) (a0,a1,()))
def Xn (a0:Int) (a1:Int×Int×Int) (lr:LR (List tV)) (y1:List tV) (bq10 bq11:Int) (bq12:List tV):Option (List tV) :=
  lr (AH Ajx [1,1,0,1,0,0]) (Rx a0 a1 y1 bq10 bq11 bq12) (Aga K a0 a1 lr)
def NT:Env:=eE K [] [0,1,3,4,5,7,8,9,16]
def PY (K:Nat) (a0:List tV) (a1:Int×Int) (L2:Int→Option Int) (q3:Int):Option Int :=
  (bif (decide (q3<(a0.length:Int))) then (bif (decide (0≤q3)&&decide (q3<(a0.length:Int))) then (bif ((a1.1==(a0.getD ((0:Int)+q3).toNat ((0:Int),(0:Int))).1)&&(a1.2==(a0.getD ((0:Int)+q3).toNat ((0:Int),(0:Int))).2)) then some q3 else L2 (w (q3+(1:Int)))) else none) else some (-1:Int))
def KD (a0:List tV) (a1:Int×Int) (n:Nat) (q3:Int):Option Int :=
  AJ (X:=Int) (fun L x=>PY K a0 a1 (fun v0=>L v0) x) n q3
def Aci (K:Nat) (a0:List tV) (a1:Int×Int) (I2:Int→Option Int):Option Int :=
  I2 (0:Int)
def Xo (a0:List tV) (a1:Int×Int):Option Int :=
  Aci K a0 a1 (fun d0=>KD K a0 a1 K d0)
def Xp:Mdl:=⟨[(.ro,(.list 33 sV)),(.ro,sV)],[sI],fun x=>Xo K x.1 x.2.1⟩
def Agb (a0:List tV) (a1:Int×Int) (lr:LR Int):Ex→Fr→Option Int :=
  Au (NT K) 1 lr Ajy [1,0,1,0] (fM (NT K) Tryz.f205 (Xp K) (a0,a1,()))
def Xq (a0:List tV) (a1:Int×Int) (lr:LR Int) (bq3:Int):Option Int :=
  lr (AH Ajy [1,0,1,0,0]) (Ry a0 a1 bq3) (Agb K a0 a1 lr)
def Aoq:Env:=eE K [(205,Xp K)] [0,1,3,4]
def Ls (a0:List tV) (a1:Int×Int):Option Bool :=
  (Xo K a0 a1).bind fun y1=>some (decide (y1≥(0:Int)))
def Aj8:Mdl:=⟨[(.ro,(.list 33 sV)),(.ro,sV)],[.bool],fun x=>Ls K x.1 x.2.1⟩
def Aor:Env:=eE K [(86,TW K),(125,Xc K),(165,RS K)] [0,1,2,3,4,5,6,16]
def NU (a0:Int×Int×Int×Int) (a1:Int×Int):Option Int :=
  (Jl K a0 a1).bind fun y1=>(Hg K a1 y1).bind fun y2=>(FZ K a0).bind fun y3=>(bif (y3.1 != (0:Int)) then (bif (y3.1 != 0) then some (w (y2.1.tdiv y3.1)) else none) else (bif (y3.2 != 0) then some (w (y2.2.tdiv y3.2)) else none))
def Aj9:Mdl:=⟨[(.ro,sA),(.ro,sV)],[sI],fun x=>NU K x.1 x.2.1⟩
def Aos:Env:=eE K [(84,Aa6 K),(166,NF K),(206,Acd K),(207,Aj9 K)] [0,1,2,3,4,5,6,10]
def NV (a0:Int×Int×Int) (a1:tA×Int×Int):Option Bool :=
  (R2 K a1.1).bind fun y1=>(bif (!y1) then some false else (Pn K a0).bind fun y2=>(NU K a1.1 a1.2).bind fun y3=>(NU K a1.1 y2.1).bind fun y4=>(NU K a1.1 y2.2).bind fun y5=>(Ic K y4 y5).bind fun y6=>(bif (y6 != 0) then some ((y3.tmod y6)==(0:Int)) else none))
def Aka:Mdl:=⟨[(.ro,sL),(.ro,sM)],[.bool],fun x=>NV K x.1 x.2.1⟩
def Aot:Env:=eE K [] [0,1,2]
def Xr (K:Nat) (a0:Int×Int×Int×Int):Option tA :=
  some ((w (0-a0.1)),(w (0-a0.2.1)),(w (0-a0.2.2.1)),(w (0-a0.2.2.2)))
def Akb:Mdl:=⟨[(.ro,sA)],[sA],fun x=>Xr K x.1⟩
def Aou:Env:=eE K [] [0,1,2,3,4]
def Xs (K:Nat) (a0 a1:Int×Int):Option Int :=
  some (w ((w (a0.1*a1.2))-(w (a0.2*a1.1))))
def Akc:Mdl:=⟨[(.ro,sV),(.ro,sV)],[sI],fun x=>Xs K x.1 x.2.1⟩
def Aov:Env:=eE K [(80,Afo K),(124,R4 K),(125,Xc K),(208,Akc K),(209,Akb K)] [0,1,2,3,4,5]
def F3 (a0:Int×Int×Int) (a1:Int×Int×Int×Int):Option Bool :=
  (FZ K a1).bind fun y1=>(Hh K a0 y1).bind fun y2=>(Xr K a1).bind fun y3=>(FZ K y3).bind fun y4=>(Hh K a0 y4).bind fun y5=>(Xs K y2 y5).bind fun y6=>(RR K a0).bind fun y7=>some ((if (w (0-y6))>y6 then (w (0-y6)) else y6) != y7)
def Akd:Mdl:=⟨[(.ro,sL),(.ro,sA)],[.bool],fun x=>F3 K x.1 x.2.1⟩
def Zc:Env:=eE K [(46,RV K),(123,W7 K),(124,R4 K),(125,Xc K),(126,Xm K),(127,Aj8 K),(128,RU K),(129,Aka K),(130,Akd K)] [0,1,2,4,6,7,9,10,11,15,16,17,18,24,27,52,60]
def KE (a0:Int) (a1:Int×Int×Int) (a2:List tM) (y1:Int) (L15:Int→Int→Int→Int→Bool→Option (Int×Int×Int×Int×Bool)) (q16 q17 q18 q19:Int) (q20:Bool):Option (Int×Int×Int×Int×Bool) :=
  (bif (decide (q16<(a2.length:Int))) then (bif (decide (0≤q16)&&decide (q16<(a2.length:Int))) then (ED K (((a2.getD ((0:Int)+q16).toNat zM).1).1,(((a2.getD ((0:Int)+q16).toNat zM).1).2).1,((((a2.getD ((0:Int)+q16).toNat zM).1).2).2))).bind fun y21=>(bif (y21==(1:Int)) then L15 (w (q16+(1:Int))) q17 q18 q19 q20 else (bif (q17==(0:Int)) then (FZ K (((a2.getD ((0:Int)+q16).toNat zM).1).1,(((a2.getD ((0:Int)+q16).toNat zM).1).2).1,((((a2.getD ((0:Int)+q16).toNat zM).1).2).2))).bind fun y22=>(Hh K a1 y22).bind fun y23=>(R5 K a0 a1).bind fun y24=>(Ls K y24 y23).bind fun y25=>((bif (!y25) then Fo K y23 (-1:Int) else some ((0:Int),(0:Int)))).bind fun y26=>((bif (!y25) then Ls K y24 y26 else some false)).bind fun y27=>(NV K a1 ((((a2.getD ((0:Int)+q16).toNat zM).1).1,(((a2.getD ((0:Int)+q16).toNat zM).1).2).1,((((a2.getD ((0:Int)+q16).toNat zM).1).2).2)),((a2.getD ((0:Int)+q16).toNat zM).2))).bind fun y28=>(bif y28 then (F3 K a1 (((a2.getD ((0:Int)+q16).toNat zM).1).1,(((a2.getD ((0:Int)+q16).toNat zM).1).2).1,((((a2.getD ((0:Int)+q16).toNat zM).1).2).2))).bind fun y29=>(bif y29 then L15 (w (q16+(1:Int))) (w (q17+(1:Int))) (w (q18+(1:Int))) (w (q19+(1:Int))) (bif y25 then true else y27) else L15 (w (q16+(1:Int))) (w (q17+(1:Int))) (w (q18+(1:Int))) q19 (bif y25 then true else y27)) else (F3 K a1 (((a2.getD ((0:Int)+q16).toNat zM).1).1,(((a2.getD ((0:Int)+q16).toNat zM).1).2).1,((((a2.getD ((0:Int)+q16).toNat zM).1).2).2))).bind fun y30=>(bif y30 then L15 (w (q16+(1:Int))) (w (q17+(1:Int))) q18 (w (q19+(1:Int))) (bif y25 then true else y27) else L15 (w (q16+(1:Int))) (w (q17+(1:Int))) q18 q19 (bif y25 then true else y27))) else (NV K a1 ((((a2.getD ((0:Int)+q16).toNat zM).1).1,(((a2.getD ((0:Int)+q16).toNat zM).1).2).1,((((a2.getD ((0:Int)+q16).toNat zM).1).2).2)),((a2.getD ((0:Int)+q16).toNat zM).2))).bind fun y31=>(bif y31 then (F3 K a1 (((a2.getD ((0:Int)+q16).toNat zM).1).1,(((a2.getD ((0:Int)+q16).toNat zM).1).2).1,((((a2.getD ((0:Int)+q16).toNat zM).1).2).2))).bind fun y32=>(bif y32 then L15 (w (q16+(1:Int))) (w (q17+(1:Int))) (w (q18+(1:Int))) (w (q19+(1:Int))) q20 else L15 (w (q16+(1:Int))) (w (q17+(1:Int))) (w (q18+(1:Int))) q19 q20) else (F3 K a1 (((a2.getD ((0:Int)+q16).toNat zM).1).1,(((a2.getD ((0:Int)+q16).toNat zM).1).2).1,((((a2.getD ((0:Int)+q16).toNat zM).1).2).2))).bind fun y33=>(bif y33 then L15 (w (q16+(1:Int))) (w (q17+(1:Int))) q18 (w (q19+(1:Int))) q20 else L15 (w (q16+(1:Int))) (w (q17+(1:Int))) q18 q19 q20)))) else none) else some (y1,q17,q18,q19,q20))
def PZ (a0:Int) (a1:Int×Int×Int) (a2:List tM) (y1:Int) (n:Nat) (q16 q17 q18 q19:Int) (q20:Bool):Option (Int×Int×Int×Int×Bool) :=
  AJ (X:=Int×Int×Int×Int×Bool) (fun L x=>KE K a0 a1 a2 y1 (fun v0 v1 v2 v3 v4=>L (v0,v1,v2,v3,v4)) x.1 x.2.1 x.2.2.1 x.2.2.2.1 x.2.2.2.2) n (q16,q17,q18,q19,q20)
def Acj (a0:Int) (a1:Int×Int×Int) (a2:List tM) (I15:Int→Int→Int→Int→Int→Bool→Option (Int×Int×Int×Int×Bool)):Option (Int×Int×Int×Int×Bool) :=
  (R1 K a2).bind fun y1=>I15 y1 (0:Int) (0:Int) (0:Int) (0:Int) false
def Ack (a0:Int) (a1:Int×Int×Int) (a2:List tM):Option (Int×Int×Int×Int×Bool) :=
  Acj K a0 a1 a2 (fun c0 d0 d1 d2 d3 d4=>PZ K a0 a1 a2 c0 K d0 d1 d2 d3 d4)
def Agc:Mdl:=⟨[(.ro,sI),(.ro,sL),(.ro,(.list 64 sM))],[(.cons sI (.cons sI (.cons sI (.cons sI .bool))))],fun x=>Ack K x.1 x.2.1 x.2.2.1⟩
def Agd (a0:Int) (a1:Int×Int×Int) (a2:List tM) (lr:LR (Int×Int×Int×Int×Bool)):Ex→Fr→Option (Int×Int×Int×Int×Bool) :=
  Au (Zc K) 1 lr Ank [1,1,0,1,0] (fM (Zc K) Tryz.f65 (Agc K) (a0,a1,a2,()))
def Xt (a0:Int) (a1:Int×Int×Int) (a2:List tM) (lr:LR (Int×Int×Int×Int×Bool)) (y1 bq16 bq17 bq18 bq19:Int) (bq20:Bool):Option (Int×Int×Int×Int×Bool) :=
  lr (AH Ank [1,1,0,1,0,0]) (Rz a0 a1 a2 y1 bq16 bq17 bq18 bq19 bq20) (Agd K a0 a1 a2 lr)
def Aow:Env:=eE K [(106,Lj K)] [0,1,2,3,23,37,44,63,70,93,112,131,142,149]
def R6 (a0:Int×Int×Int×Int×Bool):Option ByteArray :=
  (bif (bif (bif (a0.1==(1:Int)) then (a0.2.1==(1:Int)) else false) then (a0.2.2.1==(0:Int)) else false) then some (bs [112,103]) else (bif (bif (a0.1==(1:Int)) then (bif (bif (a0.2.1==a0.1) then (a0.2.2.1==a0.1) else false) then (a0.2.2.2.1==a0.1) else false) else false) then some (bs [99,109]) else (bif (bif (bif (bif (a0.1==(1:Int)) then (a0.2.1==(1:Int)) else false) then (a0.2.2.1==(1:Int)) else false) then (a0.2.2.2.1==(0:Int)) else false) then some (bs [112,109]) else (bif (bif (a0.1==(2:Int)) then (bif (bif (a0.2.1==a0.1) then (a0.2.2.1==a0.1) else false) then (a0.2.2.2.1==a0.1) else false) else false) then some (bs [99,109,109]) else ((bif (bif (bif (a0.1==(2:Int)) then (a0.2.1==(2:Int)) else false) then (a0.2.2.2.1==(0:Int)) else false) then EC K a0.2.2.1 (0:Int) (2:Int) else some false)).bind fun y1=>(bif (bif (bif (bif (a0.1==(2:Int)) then (a0.2.1==(2:Int)) else false) then (a0.2.2.2.1==(0:Int)) else false) then y1 else false) then (bif (decide (0≤a0.2.2.1)&&decide (a0.2.2.1<(3:Int))) then some ([(bs [112,103,103]),(bs [112,109,103]),(bs [112,109,109])].getD a0.2.2.1.toNat ByteArray.empty) else none) else (bif (bif (bif (bif (a0.1==(4:Int)) then (a0.2.1==(4:Int)) else false) then (a0.2.2.2.1==(2:Int)) else false) then (a0.2.2.1==(4:Int)) else false) then some (bs [112,52,109]) else (bif (bif (bif (bif (a0.1==(4:Int)) then (a0.2.1==(4:Int)) else false) then (a0.2.2.2.1==(2:Int)) else false) then (a0.2.2.1==(2:Int)) else false) then some (bs [112,52,103]) else (bif (bif (bif (a0.1==(3:Int)) then (bif (bif (a0.2.1==a0.1) then (a0.2.2.1==a0.1) else false) then (a0.2.2.2.1==a0.1) else false) else false) then a0.2.2.2.2 else false) then some (bs [112,51,49,109]) else (bif (bif (a0.1==(3:Int)) then (bif (bif (a0.2.1==a0.1) then (a0.2.2.1==a0.1) else false) then (a0.2.2.2.1==a0.1) else false) else false) then some (bs [112,51,109,49]) else (bif (bif (a0.1==(6:Int)) then (bif (bif (a0.2.1==a0.1) then (a0.2.2.1==a0.1) else false) then (a0.2.2.2.1==a0.1) else false) else false) then some (bs [112,54,109]) else some ByteArray.empty))))))))))
def Ake:Mdl:=⟨[(.ro,(.cons sI (.cons sI (.cons sI (.cons sI .bool)))))],[.str],fun x=>R6 K x.1⟩
omit K
def Akf (K:Nat) (a0 a1:Int):Option ByteArray:=Aja a0 a1
def Akg (K:Nat):Mdl:=⟨[(.ro,sI),(.ro,sI)],[.str],fun x=>Akf K x.1 x.2.1⟩
include K
def Aox:Env:=eE K [(200,Akg K)] [0,2]
def Akh (a0:Int):Option ByteArray :=
  (Akf K a0 (10:Int)).bind fun y1=>some y1
def Aki:Mdl:=⟨[(.ro,sI)],[.str],fun x=>Akh K x.1⟩
def Aoy:Env:=eE K [] [0]
def Akj (K:Nat):Option (List ByteArray) :=
  some [(bs [112,49]),(bs [112,50]),(bs [112,109]),(bs [112,103]),(bs [99,109]),(bs [112,109,109]),(bs [112,109,103]),(bs [112,103,103]),(bs [99,109,109]),(bs [112,52]),(bs [112,52,109]),(bs [112,52,103]),(bs [112,51]),(bs [112,51,109,49]),(bs [112,51,49,109]),(bs [112,54]),(bs [112,54,109])]
def Akk:Mdl:=⟨[],[(.list 9 .str)],fun x=>Akj K ⟩
def NW:Env:=eE K [] [0,1,4,5,7,8,9,16]
def Age (K:Nat) (a0:List ByteArray) (a1:ByteArray) (L2:Int→Option Int) (q3:Int):Option Int :=
  (bif (decide (q3<(a0.length:Int))) then (bif (decide (0≤q3)&&decide (q3<(a0.length:Int))) then (bif (a1==(a0.getD ((0:Int)+q3).toNat ByteArray.empty)) then some q3 else L2 (w (q3+(1:Int)))) else none) else some (-1:Int))
def Xu (a0:List ByteArray) (a1:ByteArray) (n:Nat) (q3:Int):Option Int :=
  AJ (X:=Int) (fun L x=>Age K a0 a1 (fun v0=>L v0) x) n q3
def Acl (K:Nat) (a0:List ByteArray) (a1:ByteArray) (I2:Int→Option Int):Option Int :=
  I2 (0:Int)
def Acm (a0:List ByteArray) (a1:ByteArray):Option Int :=
  Acl K a0 a1 (fun d0=>Xu K a0 a1 K d0)
def Xv:Mdl:=⟨[(.ro,(.list 9 .str)),(.ro,.str)],[sI],fun x=>Acm K x.1 x.2.1⟩
def Agf (a0:List ByteArray) (a1:ByteArray) (lr:LR Int):Ex→Fr→Option Int :=
  Au (NW K) 1 lr Ajz [1,0,1,0] (fM (NW K) Tryz.f201 (Xv K) (a0,a1,()))
def Xw (a0:List ByteArray) (a1:ByteArray) (lr:LR Int) (bq3:Int):Option Int :=
  lr (AH Ajz [1,0,1,0,0]) (RA a0 a1 bq3) (Agf K a0 a1 lr)
def Aoz:Env:=eE K [(201,Xv K)] [0,1,4]
def Akl (a0:List ByteArray) (a1:ByteArray):Option Bool :=
  (Acm K a0 a1).bind fun y1=>some (decide (y1≥(0:Int)))
def Akm:Mdl:=⟨[(.ro,(.list 9 .str)),(.ro,.str)],[.bool],fun x=>Akl K x.1 x.2.1⟩
def ApS:Env:=eE K [(119,Ake K),(120,Aki K),(121,Akm K),(122,Akk K)] [0,1,2,3,6,23]
def Fx (a0:Int×Int×Int×Int×Bool):Option ByteArray :=
  (bif (a0.2.1 != (0:Int)) then (R6 K a0).bind fun y1=>some y1 else (Akh K a0.1).bind fun y2=>(bif (Nat.ble ((bs [112]).size+y2.size) 9223372036854775807) then ((bif (!(!((a0.1==a0.1)&&((a0.2.1==(0:Int))&&((a0.2.2.1==(0:Int))&&((a0.2.2.2.1==(0:Int))&&(a0.2.2.2.2==false))))))) then Akj K else some [])).bind fun y3=>((bif (!(!((a0.1==a0.1)&&((a0.2.1==(0:Int))&&((a0.2.2.1==(0:Int))&&((a0.2.2.2.1==(0:Int))&&(a0.2.2.2.2==false))))))) then Akl K (bif (!(!((a0.1==a0.1)&&((a0.2.1==(0:Int))&&((a0.2.2.1==(0:Int))&&((a0.2.2.2.1==(0:Int))&&(a0.2.2.2.2==false))))))) then y3 else []) ((bs [112])++y2) else some false)).bind fun y4=>(bif (bif (!((a0.1==a0.1)&&((a0.2.1==(0:Int))&&((a0.2.2.1==(0:Int))&&((a0.2.2.2.1==(0:Int))&&(a0.2.2.2.2==false)))))) then true else (!y4)) then some ByteArray.empty else some ((bs [112])++y2)) else none))
def AoA:Mdl:=⟨[(.ro,(.cons sI (.cons sI (.cons sI (.cons sI .bool)))))],[.str],fun x=>Fx K x.1⟩
def ApT:Env:=eE K [(38,T8 K),(64,AoA K),(65,Agc K)] [0,1,2]
def Agg (a0:Int×tL×List Int):Option ByteArray :=
  (RZ K a0).bind fun y1=>(Ack K a0.1 a0.2.1 y1).bind fun y2=>(Fx K y2).bind fun y3=>some y3
def AoB:Mdl:=⟨[(.ro,(.cons sI (.cons sL (.list 2 sI))))],[.str],fun x=>Agg K x.1⟩
def ApU:Env:=eE K [(32,TU K),(33,T0 K),(52,AoB K)] [0,1,2,3,6]
def Ul (a0:Int×tL×List Int):Option (ByteArray×Int) :=
  (M0 K a0).bind fun y1=>(bif (!y1) then some (ByteArray.empty,(1:Int)) else (M2 K a0).bind fun y2=>(Agg K y2).bind fun y3=>some (y3,(0:Int)))
def AoC:Mdl:=⟨[(.ro,(.cons sI (.cons sL (.list 2 sI))))],[.str,sI],fun x=>Ul K x.1⟩
def ApV:Env:=eE K [(106,Lj K)] [0,1,2,3,4]
def Agh (a0:Int×Int×Int) (a1:Int×Int):Option Bool :=
  (EC K a1.1 (0:Int) (w (a0.1-(1:Int)))).bind fun y1=>((bif y1 then EC K a1.2 (0:Int) (w (a0.2.2-(1:Int))) else some false)).bind fun y2=>some (bif y1 then y2 else false)
def AoD:Mdl:=⟨[(.ro,sL),(.ro,sV)],[.bool],fun x=>Agh K x.1 x.2.1⟩
def ApW:Env:=eE K [(32,TU K),(33,T0 K),(38,T8 K),(40,Y4 K),(53,AoD K)] [0,1,2,3,4,5,6,9,16]
def Agi (a0:Int×tL×List Int) (a1:Int×Int):Option ((List tM)×Int) :=
  (M0 K a0).bind fun y1=>(bif (!y1) then some ([],(1:Int)) else (M2 K a0).bind fun y2=>(Agh K y2.2.1 a1).bind fun y3=>(bif (!y3) then some ([],(2:Int)) else (RZ K y2).bind fun y4=>(Ua K y2.2.1 y4 a1).bind fun y5=>some (y5,(0:Int))))
def AoE:Mdl:=⟨[(.ro,(.cons sI (.cons sL (.list 2 sI)))),(.ro,sV)],[(.list 64 sM),sI],fun x=>Agi K x.1 x.2.1⟩
def f3E:Env:=eE K [(5,f5M K),(6,f6M K),(7,f7M K),(8,f8M K),(9,f9M K),(10,AfP K),(11,An9 K),(12,AfS K),(13,Ab4 K),(14,Aoe K),(15,Af0 K),(16,Aog K),(17,AoC K),(18,AoE K)] [0,2,3,4,5,6,7,8,9,10,11,12,13,14,15,16,17,18,19,20,21,22,23,24,25,26,27,28,29,31,107,109]
def f3G (a0:List Int):Option Bool :=
  (f5G K a0).bind fun y1=>(bif y1 then some true else (f6G K a0).bind fun y2=>(f7G K y2).bind fun y3=>(f8G K y2).bind fun y4=>(f9G K y2).bind fun y5=>(AbT K y2).bind fun y6=>(AfQ K a0).bind fun y7=>(AbW K y7.1 y7.2).bind fun y8=>(Ab3 K y7.1 y7.2).bind fun y9=>((bif (!(y3.2 != y4.2)) then AfZ K y3.1 y4.1 else some false)).bind fun y10=>((bif (!(bif (bif (bif (bif (bif (y3.2 != y4.2) then true else (!y10)) then true else (y5.2.2 != y6.2.2)) then true else (!((y5.1.1==y6.1.1)&&(y5.1.2==y6.1.2)))) then true else (y5.2.1 != y6.2.1)) then true else (y8.2 != y9.2))) then Aca K y8.1 y9.1 else some false)).bind fun y11=>(bif (bif (bif (bif (bif (bif (bif (y3.2 != y4.2) then true else (!y10)) then true else (y5.2.2 != y6.2.2)) then true else (!((y5.1.1==y6.1.1)&&(y5.1.2==y6.1.2)))) then true else (y5.2.1 != y6.2.1)) then true else (y8.2 != y9.2)) then true else (!y11)) then some false else (bif (y3.2 != (0:Int)) then some true else (f7G K y3.1).bind fun y12=>(Af3 K y12.1 y2).bind fun y13=>(Ul K y2).bind fun y14=>(Ul K y3.1).bind fun y15=>(Agi K y2 y5.1).bind fun y16=>some (bif (bif (bif (bif (bif (bif (bif (y12.2==(0:Int)) then (y13.2==(0:Int)) else false) then y13.1 else false) then (y14.2==(0:Int)) else false) then (y15.2==(0:Int)) else false) then (y14.1==y15.1) else false) then (y16.2==(0:Int)) else false) then ((y16.1.length:Int)==y5.2.1) else false))))
def f3M:Mdl:=⟨[(.ro,(.list 5 (.int .u8)))],[.bool],fun x=>f3G K x.1⟩
end
end Go.Proofs.YteheolldcpjkcaaGreatDoor.X
