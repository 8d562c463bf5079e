/- Functions of the program as plain Lean functions, and that the program does what they say. Printed by gen.py. -/
import Derived.Test.YteheolldcpjkcaaGreatQuD0
namespace Go.Proofs.YteheolldcpjkcaaGreat.X
open Go
set_option maxRecDepth 100000
attribute [local instance] cwD
set_option linter.unusedVariables false
noncomputable section
variable (K:Nat)
include K
def Aag:Env:=eE K [(62,Acm K),(100,OH K)] [0,1,2,3,5,8,9,11,18,19,20,21]
def JB (a0:Int) (a1:Int×Int×Int) (a2:List tV) (a3:Int) (L4:Int→(List Int)→Option (Int×tL×List Int)) (q5:Int) (q6:List Int):Option (Int×tL×List Int) :=
  (bif (decide (q5<(a2.length:Int))) then (bif (decide (0≤q5)&&decide (q5<(a2.length:Int))) then (HF K a1 (a2.getD ((0:Int)+q5).toNat ((0:Int),(0:Int)))).bind fun y7=>(bif (decide (0≤y7)&&decide (y7<(q6.length:Int))) then L4 (w (q5+(1:Int))) (q6.set ((0:Int)+y7).toNat a3) else none) else none) else some (a0,a1,q6))
def AcN (a0:Int) (a1:Int×Int×Int) (a2:List tV) (a3:Int) (n:Nat) (q5:Int) (q6:List Int):Option (Int×tL×List Int) :=
  AH (X:=Int×List Int) (fun L x=>JB K a0 a1 a2 a3 (fun v0 v1=>L (v0,v1)) x.1 x.2) n (q5,q6)
def AcO (a0:Int) (a1:Int×Int×Int) (a2:List tV) (a3:Int) (I4:Int→(List Int)→Option (Int×tL×List Int)):Option (Int×tL×List Int) :=
  (Qa K a1).bind fun y1=>(bif (decide (0≤y1)&&Nat.ble y1.toNat (lim 8)&&(y1==y1)) then I4 (0:Int) (List.replicate y1.toNat (0:Int)) else none)
def AcP (a0:Int) (a1:Int×Int×Int) (a2:List tV) (a3:Int):Option (Int×tL×List Int) :=
  AcO K a0 a1 a2 a3 (fun d0 d1=>AcN K a0 a1 a2 a3 K d0 d1)
def AgU:Mdl:=⟨[(.ro,sI),(.ro,sL),(.ro,(.list 34 sV)),(.ro,sI)],[(.cons sI (.cons sL (.list 2 sI)))],fun x=>AcP K x.1 x.2.1 x.2.2.1 x.2.2.2.1⟩
def AlU (a0:Int) (a1:Int×Int×Int) (a2:List tV) (a3:Int) (lr:LR (Int×tL×List Int)):Ex→Fr→Option (Int×tL×List Int) :=
  Aw (Aag K) 1 lr Ant [1,1,0,1,0] (fM (Aag K) Tryz.f98 (AgU K) (a0,a1,a2,a3,()))
def AcQ (a0:Int) (a1:Int×Int×Int) (a2:List tV) (a3:Int) (lr:LR (Int×tL×List Int)) (bq5:Int) (bq6:List Int):Option (Int×tL×List Int) :=
  lr (AF Ant [1,1,0,1,0,0]) (WL a0 a1 a2 a3 bq5 bq6) (AlU K a0 a1 a2 a3 lr)
def Qq:Env:=eE K [(52,AcH K),(83,AgP K),(90,Qb K),(96,AlR K),(97,AcM K),(98,AgU K),(99,Aab K),(100,OH K)] [0,1,2,3,4,6,10,11,12,15,16,18,20,27,32,42,50,51,52,53,62,63,64,65]
def G8 (a0:Int) (a1:Int×Int×Int) (a2:List tM) (a3:List (tV×Int)) (a4 q16 y1:Int) (y2:Bool) (y3:Int×Int×Bool) (y5:Int×tL×List Int) (y19:List tV) (L15:Int→(List Int)→Option ((Int×tL×List Int)×Int)) (L20:Int→(List Int)→Option ((Int×tL×List Int)×Int)) (q21:Int) (q22:List Int):Option ((Int×tL×List Int)×Int) :=
  (bif (decide (q21<(y19.length:Int))) then (bif (decide (0≤q21)&&decide (q21<(y19.length:Int))) then (HF K a1 (y19.getD ((0:Int)+q21).toNat ((0:Int),(0:Int)))).bind fun y23=>(bif (decide (0≤y23)&&decide (y23<(q22.length:Int))) then L20 (w (q21+(1:Int))) (q22.set ((0:Int)+y23).toNat ((a3.getD ((0:Int)+q16).toNat (((0:Int),(0:Int)),(0:Int))).2)) else none) else none) else L15 (w (q16+(1:Int))) q22)
def K8 (a0:Int) (a1:Int×Int×Int) (a2:List tM) (a3:List (tV×Int)) (a4 q16 y1:Int) (y2:Bool) (y3:Int×Int×Bool) (y5:Int×tL×List Int) (y19:List tV) (L15:Int→(List Int)→Option ((Int×tL×List Int)×Int)) (n:Nat) (q21:Int) (q22:List Int):Option ((Int×tL×List Int)×Int) :=
  AH (X:=Int×List Int) (fun L x=>G8 K a0 a1 a2 a3 a4 q16 y1 y2 y3 y5 y19 L15 (fun v0 v1=>L (v0,v1)) x.1 x.2) n (q21,q22)
def E9 (a0:Int) (a1:Int×Int×Int) (a2:List tM) (a3:List (tV×Int)) (a4 y1:Int) (y2:Bool) (y3:Int×Int×Bool) (y5:Int×tL×List Int) (I20:Int→(List tV)→Int→(List Int)→Option ((Int×tL×List Int)×Int)) (L15:Int→(List Int)→Option ((Int×tL×List Int)×Int)) (q16:Int) (q17:List Int):Option ((Int×tL×List Int)×Int) :=
  (bif (decide (q16<(a3.length:Int))) then (bif (decide (0≤q16)&&decide (q16<(a3.length:Int))) then (Jz K a1 ((a3.getD ((0:Int)+q16).toNat (((0:Int),(0:Int)),(0:Int))).1)).bind fun y18=>(Aad K a1 a2 y18).bind fun y19=>I20 q16 y19 (0:Int) q17 else none) else some ((y5.1,y5.2.1,q17),(0:Int)))
def Qr (a0:Int) (a1:Int×Int×Int) (a2:List tM) (a3:List (tV×Int)) (a4 y1:Int) (y2:Bool) (y3:Int×Int×Bool) (y5:Int×tL×List Int) (n:Nat) (q16:Int) (q17:List Int):Option ((Int×tL×List Int)×Int) :=
  AH (X:=Int×List Int) (fun L x=>(fun L15=>E9 K a0 a1 a2 a3 a4 y1 y2 y3 y5 (fun c0 c1 d0 d1=>K8 K a0 a1 a2 a3 a4 c0 y1 y2 y3 y5 c1 L15 K d0 d1) L15 x.1 x.2) (fun v0 v1=>L (v0,v1))) n (q16,q17)
def AcR (a0:Int) (a1:Int×Int×Int) (a2:List tM) (a3:List (tV×Int)) (a4:Int) (I15:Int→Bool→(Int×Int×Bool)→(Int×tL×List Int)→Int→(List Int)→Option ((Int×tL×List Int)×Int)):Option ((Int×tL×List Int)×Int) :=
  (Aaa K a0 a1 a2 a3).bind fun y1=>(bif (y1 != (0:Int)) then some (((0:Int),((0:Int),(0:Int),(0:Int)),[]),y1) else (Acy K a4).bind fun y2=>(bif (!y2) then some (((0:Int),((0:Int),(0:Int),(0:Int)),[]),(2:Int)) else (Aaf K a1 a2 a3).bind fun y3=>(bif y3.2.2 then some (((0:Int),((0:Int),(0:Int),(0:Int)),[]),(5:Int)) else (Vh K a1).bind fun y4=>(AcP K a0 a1 y4 a4).bind fun y5=>I15 y1 y2 y3 y5 (0:Int) y5.2.2)))
def AcS (a0:Int) (a1:Int×Int×Int) (a2:List tM) (a3:List (tV×Int)) (a4:Int):Option ((Int×tL×List Int)×Int) :=
  AcR K a0 a1 a2 a3 a4 (fun c0 c1 c2 c3 d0 d1=>Qr K a0 a1 a2 a3 a4 c0 c1 c2 c3 K d0 d1)
def AgV:Mdl:=⟨[(.ro,sI),(.ro,sL),(.ro,(.list 59 sM)),(.ro,(.list 84 (.cons sV sI))),(.ro,sI)],[(.cons sI (.cons sL (.list 2 sI))),sI],fun x=>AcS K x.1 x.2.1 x.2.2.1 x.2.2.2.1 x.2.2.2.2.1⟩
def Yd (a0:Int) (a1:Int×Int×Int) (a2:List tM) (a3:List (tV×Int)) (a4:Int) (lr:LR ((Int×tL×List Int)×Int)):Ex→Fr→Option ((Int×tL×List Int)×Int) :=
  Aw (Qq K) 2 lr Agi [1,1,1,1,1,0,1,0] (fM (Qq K) Tryz.f34 (AgV K) (a0,a1,a2,a3,a4,()))
def Ye (a0:Int) (a1:Int×Int×Int) (a2:List tM) (a3:List (tV×Int)) (a4:Int) (lr:LR ((Int×tL×List Int)×Int)) (y1:Int) (y2:Bool) (y3:Int×Int×Bool) (y5:Int×tL×List Int) (bq16:Int) (bq17:List Int):Option ((Int×tL×List Int)×Int) :=
  lr (AF Agi [1,1,1,1,1,0,1,0,0]) (Gc a0 a1 a2 a3 a4 y1 y2 y3 y5 bq16 bq17) (Yd K a0 a1 a2 a3 a4 lr)
def AgW (a0:Int) (a1:Int×Int×Int) (a2:List tM) (a3:List (tV×Int)) (a4 y1:Int) (y2:Bool) (y3:Int×Int×Bool) (y5:Int×tL×List Int) (F15:Fr→Option ((Int×tL×List Int)×Int)) (bq16:Int) (bq17:List Int) (lr:LR ((Int×tL×List Int)×Int)):Ex→Fr→Option ((Int×tL×List Int)×Int) :=
  Aw (Qq K) 2 lr (AF Agi [1,1,1,1,1,0,1,0,0]) [1,1,0,0,1,1,0] (Da 2 (Gc a0 a1 a2 a3 a4 y1 y2 y3 y5 bq16 bq17) F15 (Yd K a0 a1 a2 a3 a4 lr))
def Yf (a0:Int) (a1:Int×Int×Int) (a2:List tM) (a3:List (tV×Int)) (a4 y1:Int) (y2:Bool) (y3:Int×Int×Bool) (y5:Int×tL×List Int) (F15:Fr→Option ((Int×tL×List Int)×Int)) (bq16:Int) (bq17:List Int) (lr:LR ((Int×tL×List Int)×Int)) (q16:Int) (y19:List tV) (bq21:Int) (bq22:List Int):Option ((Int×tL×List Int)×Int) :=
  lr (AF Agi [1,1,1,1,1,0,1,0,0,1,1,0,0,1,1,0,0]) (R3 a0 a1 a2 a3 a4 q16 y1 y2 y3 y5 y19 bq21 bq22) (AgW K a0 a1 a2 a3 a4 y1 y2 y3 y5 F15 bq16 bq17 lr)
def Aah:Env:=eE K [(101,N9 K),(112,Xa K)] [0,2,3,7,25]
def Qs (a0:List (tV×Int)) (L4:Int→Option Bool) (q5:Int):Option Bool :=
  (bif (decide (q5<(a0.length:Int))) then (bif (decide (0≤q5)&&decide (q5<(a0.length:Int))) then (Mb K ((a0.getD ((0:Int)+q5).toNat (((0:Int),(0:Int)),(0:Int))).1)).bind fun y6=>(bif ((decide (0≤q5)&&decide (q5<(a0.length:Int)))||(!(!(!y6)))) then ((bif (!(!y6)) then Gi K ((a0.getD ((0:Int)+q5).toNat (((0:Int),(0:Int)),(0:Int))).2) (0:Int) (9:Int) else some false)).bind fun y7=>(bif (bif (!y6) then true else (!y7)) then some false else L4 (w (q5+(1:Int)))) else none) else none) else some (decide ((a0.length:Int)≤(40:Int))))
def Vk (a0:List (tV×Int)) (n:Nat) (q5:Int):Option Bool :=
  AH (X:=Int) (fun L x=>Qs K a0 (fun v0=>L v0) x) n q5
def AcT (K:Nat) (a0:List (tV×Int)) (I4:Int→Option Bool):Option Bool :=
  I4 (0:Int)
def Vl (a0:List (tV×Int)):Option Bool :=
  AcT K a0 (fun d0=>Vk K a0 K d0)
def Aai:Mdl:=⟨[(.ro,(.list 84 (.cons sV sI)))],[.bool],fun x=>Vl K x.1⟩
def AlV (a0:List (tV×Int)) (lr:LR Bool):Ex→Fr→Option Bool :=
  Aw (Aah K) 1 lr Anu [1,0,1,0] (fM (Aah K) Tryz.f43 (Aai K) (a0,()))
def AcU (a0:List (tV×Int)) (lr:LR Bool) (bq5:Int):Option Bool :=
  lr (AF Anu [1,0,1,0,0]) (WM a0 bq5) (AlV K a0 lr)
def AoE:Env:=eE K [(138,Ka K)] [0,1,2,4,6,7,16]
def AcV (a0:Int) (a1:Int×Int×Int) (a2:Bool):Option Int :=
  (HA K a0 a1).bind fun y1=>(bif (bif (y1==(0:Int)) then (!a2) else false) then some (2:Int) else some y1)
def Alj:Mdl:=⟨[(.ro,sI),(.ro,sL),(.ro,.bool)],[sI],fun x=>AcV K x.1 x.2.1 x.2.2.1⟩
def Apz:Env:=eE K [(66,Z5 K),(115,Alj K)] [0,1,2,3,5,8]
def AcW (a0:Int) (a1:Int×Int×Int) (a2:List tM) (a3:Bool):Option Int :=
  ((bif a3 then Z4 K a0 a1 a2 else some false)).bind fun y1=>(AcV K a0 a1 (bif a3 then y1 else false)).bind fun y2=>some y2
def AoF:Mdl:=⟨[(.ro,sI),(.ro,sL),(.ro,(.list 59 sM)),(.ro,.bool)],[sI],fun x=>AcW K x.1 x.2.1 x.2.2.1 x.2.2.2.1⟩
def ApA:Env:=eE K [(43,Aai K),(46,AoF K)] [0,1,2,3,5,8]
def Aaj (a0:Int) (a1:Int×Int×Int) (a2:List tM) (a3:List (tV×Int)):Option Int :=
  (Vl K a3).bind fun y1=>(AcW K a0 a1 a2 y1).bind fun y2=>some y2
def AgX:Mdl:=⟨[(.ro,sI),(.ro,sL),(.ro,(.list 59 sM)),(.ro,(.list 84 (.cons sV sI)))],[sI],fun x=>Aaj K x.1 x.2.1 x.2.2.1 x.2.2.2.1⟩
def Iw:Env:=eE K [(68,Acg K)] [0,1,2,3,6,7,8,9,10,11,12,16,21,59]
def Ix (a0:Int×Int×Int) (a1:List Int) (a2:List (tV×Int)) (q10:Int) (L9 L11:Int→Option (Int×Int×Bool)) (q12:Int):Option (Int×Int×Bool) :=
  (bif (decide (q12<q10)) then (bif (decide (0≤q12)&&decide (q12<(a2.length:Int))) then (KC K a0 ((a2.getD ((0:Int)+q12).toNat (((0:Int),(0:Int)),(0:Int))).1)).bind fun y13=>(bif (decide (0≤y13)&&decide (y13<(a1.length:Int))) then (bif (decide (0≤q10)&&decide (q10<(a2.length:Int))) then (KC K a0 ((a2.getD ((0:Int)+q10).toNat (((0:Int),(0:Int)),(0:Int))).1)).bind fun y14=>(bif (decide (0≤y14)&&decide (y14<(a1.length:Int))) then (bif ((decide (0≤q12)&&decide (q12<(a2.length:Int)))||(!((a1.getD ((0:Int)+y13).toNat (0:Int))==(a1.getD ((0:Int)+y14).toNat (0:Int))))) then (bif ((decide (0≤q10)&&decide (q10<(a2.length:Int)))||(!((a1.getD ((0:Int)+y13).toNat (0:Int))==(a1.getD ((0:Int)+y14).toNat (0:Int))))) then (bif (bif ((a1.getD ((0:Int)+y13).toNat (0:Int))==(a1.getD ((0:Int)+y14).toNat (0:Int))) then ((a2.getD ((0:Int)+q12).toNat (((0:Int),(0:Int)),(0:Int))).2 != (a2.getD ((0:Int)+q10).toNat (((0:Int),(0:Int)),(0:Int))).2) else false) then some (q12,q10,true) else L11 (w (q12+(1:Int)))) else none) else none) else none) else none) else none) else none) else L9 (w (q10+(1:Int))))
def Iy (a0:Int×Int×Int) (a1:List Int) (a2:List (tV×Int)) (q10:Int) (L9:Int→Option (Int×Int×Bool)) (n:Nat) (q12:Int):Option (Int×Int×Bool) :=
  AH (X:=Int) (fun L x=>Ix K a0 a1 a2 q10 L9 (fun v0=>L v0) x) n q12
def K9 (K:Nat) (a0:Int×Int×Int) (a1:List Int) (a2:List (tV×Int)) (I11:Int→Int→Option (Int×Int×Bool)) (L9:Int→Option (Int×Int×Bool)) (q10:Int):Option (Int×Int×Bool) :=
  (bif (decide (q10<(a2.length:Int))) then I11 q10 (0:Int) else some ((0:Int),(0:Int),false))
def Iz (a0:Int×Int×Int) (a1:List Int) (a2:List (tV×Int)) (n:Nat) (q10:Int):Option (Int×Int×Bool) :=
  AH (X:=Int) (fun L x=>(fun L9=>K9 K a0 a1 a2 (fun c0 d0=>Iy K a0 a1 a2 c0 L9 K d0) L9 x) (fun v0=>L v0)) n q10
def Vm (K:Nat) (a0:Int×Int×Int) (a1:List Int) (a2:List (tV×Int)) (I9:Int→Option (Int×Int×Bool)):Option (Int×Int×Bool) :=
  I9 (0:Int)
def Mk (a0:Int×Int×Int) (a1:List Int) (a2:List (tV×Int)):Option (Int×Int×Bool) :=
  Vm K a0 a1 a2 (fun d0=>Iz K a0 a1 a2 K d0)
def Ta:Mdl:=⟨[(.ro,sL),(.ro,(.list 2 sI)),(.ro,(.list 84 (.cons sV sI)))],[sI,sI,.bool],fun x=>Mk K x.1 x.2.1 x.2.2.1⟩
def Yg (a0:Int×Int×Int) (a1:List Int) (a2:List (tV×Int)) (lr:LR (Int×Int×Bool)):Ex→Fr→Option (Int×Int×Bool) :=
  Aw (Iw K) 2 lr WN [1,0,1,0] (fM (Iw K) Tryz.f103 (Ta K) (a0,a1,a2,()))
def Yh (a0:Int×Int×Int) (a1:List Int) (a2:List (tV×Int)) (lr:LR (Int×Int×Bool)) (bq10:Int):Option (Int×Int×Bool) :=
  lr (AF WN [1,0,1,0,0]) (Ge a0 a1 a2 bq10) (Yg K a0 a1 a2 lr)
def AcX (a0:Int×Int×Int) (a1:List Int) (a2:List (tV×Int)) (F9:Fr→Option (Int×Int×Bool)) (bq10:Int) (lr:LR (Int×Int×Bool)):Ex→Fr→Option (Int×Int×Bool) :=
  Aw (Iw K) 2 lr (AF WN [1,0,1,0,0]) [1,0,0,1,0] (Da 2 (Ge a0 a1 a2 bq10) F9 (Yg K a0 a1 a2 lr))
def Tb (a0:Int×Int×Int) (a1:List Int) (a2:List (tV×Int)) (F9:Fr→Option (Int×Int×Bool)) (bq10:Int) (lr:LR (Int×Int×Bool)) (q10 bq12:Int):Option (Int×Int×Bool) :=
  lr (AF WN [1,0,1,0,0,1,0,0,1,0,0]) (N6 a0 a1 a2 q10 bq12) (AcX K a0 a1 a2 F9 bq10 lr)
def Ht:Env:=eE K [(68,Acg K),(78,AgX K),(101,N9 K),(102,Mf K),(103,Ta K)] [0,1,2,3,4,6,10,11,12,13,16,17,18,19,20,32,34,48,57,64,81]
def AgY (a0:Int) (a1:Int×Int×Int) (a2:List tM) (a3:List (tV×Int)) (a4 q13:Int) (q14:List Int) (y1:Int) (y2:Bool) (y3:List Int) (y4:Int×Int×Bool) (L12:Int→(List Int)→Option ((Int×tL×List Int)×Int)) (L15:Int→Int→Option ((Int×tL×List Int)×Int)) (q16 q17:Int):Option ((Int×tL×List Int)×Int) :=
  (bif (decide (q17<(a3.length:Int))) then (bif (decide (0≤q17)&&decide (q17<(a3.length:Int))) then (KC K a1 ((a3.getD ((0:Int)+q17).toNat (((0:Int),(0:Int)),(0:Int))).1)).bind fun y18=>(bif (decide (0≤y18)&&decide (y18<(y3.length:Int))) then (bif (decide (0≤q13)&&decide (q13<(y3.length:Int))) then (bif ((y3.getD ((0:Int)+y18).toNat (0:Int))==(y3.getD ((0:Int)+q13).toNat (0:Int))) then (bif (decide (0≤q17)&&decide (q17<(a3.length:Int))) then L15 ((a3.getD ((0:Int)+q17).toNat (((0:Int),(0:Int)),(0:Int))).2) (w (q17+(1:Int))) else none) else L15 q16 (w (q17+(1:Int)))) else none) else none) else none) else (bif (Nat.ble (q14.length+[q16].length) (lim 8)) then L12 (w (q13+(1:Int))) (q14++[q16]) else none))
def Yi (a0:Int) (a1:Int×Int×Int) (a2:List tM) (a3:List (tV×Int)) (a4 q13:Int) (q14:List Int) (y1:Int) (y2:Bool) (y3:List Int) (y4:Int×Int×Bool) (L12:Int→(List Int)→Option ((Int×tL×List Int)×Int)) (n:Nat) (q16 q17:Int):Option ((Int×tL×List Int)×Int) :=
  AH (X:=Int×Int) (fun L x=>AgY K a0 a1 a2 a3 a4 q13 q14 y1 y2 y3 y4 L12 (fun v0 v1=>L (v0,v1)) x.1 x.2) n (q16,q17)
def Yj (K:Nat) (a0:Int) (a1:Int×Int×Int) (a2:List tM) (a3:List (tV×Int)) (a4 y1:Int) (y2:Bool) (y3:List Int) (y4:Int×Int×Bool) (I15:Int→(List Int)→Int→Int→Option ((Int×tL×List Int)×Int)) (L12:Int→(List Int)→Option ((Int×tL×List Int)×Int)) (q13:Int) (q14:List Int):Option ((Int×tL×List Int)×Int) :=
  (bif (decide (q13<(y3.length:Int))) then I15 q13 q14 a4 (0:Int) else some ((a0,a1,q14),(0:Int)))
def Yk (a0:Int) (a1:Int×Int×Int) (a2:List tM) (a3:List (tV×Int)) (a4 y1:Int) (y2:Bool) (y3:List Int) (y4:Int×Int×Bool) (n:Nat) (q13:Int) (q14:List Int):Option ((Int×tL×List Int)×Int) :=
  AH (X:=Int×List Int) (fun L x=>(fun L12=>Yj K a0 a1 a2 a3 a4 y1 y2 y3 y4 (fun c0 c1 d0 d1=>Yi K a0 a1 a2 a3 a4 c0 c1 y1 y2 y3 y4 L12 K d0 d1) L12 x.1 x.2) (fun v0 v1=>L (v0,v1))) n (q13,q14)
def G9 (a0:Int) (a1:Int×Int×Int) (a2:List tM) (a3:List (tV×Int)) (a4 q22:Int) (q23:List Int) (y1:Int) (y2:Bool) (y19:List Int) (y20:Int×Int×Bool) (L21:Int→(List Int)→Option ((Int×tL×List Int)×Int)) (L24:Int→Int→Option ((Int×tL×List Int)×Int)) (q25 q26:Int):Option ((Int×tL×List Int)×Int) :=
  (bif (decide (q26<(a3.length:Int))) then (bif (decide (0≤q26)&&decide (q26<(a3.length:Int))) then (KC K a1 ((a3.getD ((0:Int)+q26).toNat (((0:Int),(0:Int)),(0:Int))).1)).bind fun y27=>(bif (decide (0≤y27)&&decide (y27<(y19.length:Int))) then (bif (decide (0≤q22)&&decide (q22<(y19.length:Int))) then (bif ((y19.getD ((0:Int)+y27).toNat (0:Int))==(y19.getD ((0:Int)+q22).toNat (0:Int))) then (bif (decide (0≤q26)&&decide (q26<(a3.length:Int))) then L24 ((a3.getD ((0:Int)+q26).toNat (((0:Int),(0:Int)),(0:Int))).2) (w (q26+(1:Int))) else none) else L24 q25 (w (q26+(1:Int)))) else none) else none) else none) else (bif (Nat.ble (q23.length+[q25].length) (lim 8)) then L21 (w (q22+(1:Int))) (q23++[q25]) else none))
def La (a0:Int) (a1:Int×Int×Int) (a2:List tM) (a3:List (tV×Int)) (a4 q22:Int) (q23:List Int) (y1:Int) (y2:Bool) (y19:List Int) (y20:Int×Int×Bool) (L21:Int→(List Int)→Option ((Int×tL×List Int)×Int)) (n:Nat) (q25 q26:Int):Option ((Int×tL×List Int)×Int) :=
  AH (X:=Int×Int) (fun L x=>G9 K a0 a1 a2 a3 a4 q22 q23 y1 y2 y19 y20 L21 (fun v0 v1=>L (v0,v1)) x.1 x.2) n (q25,q26)
def Fc (K:Nat) (a0:Int) (a1:Int×Int×Int) (a2:List tM) (a3:List (tV×Int)) (a4 y1:Int) (y2:Bool) (y19:List Int) (y20:Int×Int×Bool) (I24:Int→(List Int)→Int→Int→Option ((Int×tL×List Int)×Int)) (L21:Int→(List Int)→Option ((Int×tL×List Int)×Int)) (q22:Int) (q23:List Int):Option ((Int×tL×List Int)×Int) :=
  (bif (decide (q22<(y19.length:Int))) then I24 q22 q23 a4 (0:Int) else some ((a0,a1,q23),(0:Int)))
def Qt (a0:Int) (a1:Int×Int×Int) (a2:List tM) (a3:List (tV×Int)) (a4 y1:Int) (y2:Bool) (y19:List Int) (y20:Int×Int×Bool) (n:Nat) (q22:Int) (q23:List Int):Option ((Int×tL×List Int)×Int) :=
  AH (X:=Int×List Int) (fun L x=>(fun L21=>Fc K a0 a1 a2 a3 a4 y1 y2 y19 y20 (fun c0 c1 d0 d1=>La K a0 a1 a2 a3 a4 c0 c1 y1 y2 y19 y20 L21 K d0 d1) L21 x.1 x.2) (fun v0 v1=>L (v0,v1))) n (q22,q23)
def AcY (a0:Int) (a1:Int×Int×Int) (a2:List tM) (a3:List (tV×Int)) (a4:Int) (I12:Int→Bool→(List Int)→(Int×Int×Bool)→Int→(List Int)→Option ((Int×tL×List Int)×Int)) (I21:Int→Bool→(List Int)→(Int×Int×Bool)→Int→(List Int)→Option ((Int×tL×List Int)×Int)):Option ((Int×tL×List Int)×Int) :=
  (Aaj K a0 a1 a2 a3).bind fun y1=>((bif (y1==(0:Int)) then Gi K a4 (0:Int) (9:Int) else some false)).bind fun y2=>(bif (bif (y1==(0:Int)) then (!y2) else false) then (bif ((2:Int) != (0:Int)) then some (((0:Int),((0:Int),(0:Int),(0:Int)),[]),(2:Int)) else (HC K a1 a2).bind fun y3=>(Mk K a1 y3 a3).bind fun y4=>(bif y4.2.2 then some (((0:Int),((0:Int),(0:Int),(0:Int)),[]),(5:Int)) else I12 y1 y2 y3 y4 (0:Int) [])) else (bif (y1 != (0:Int)) then some (((0:Int),((0:Int),(0:Int),(0:Int)),[]),y1) else (HC K a1 a2).bind fun y19=>(Mk K a1 y19 a3).bind fun y20=>(bif y20.2.2 then some (((0:Int),((0:Int),(0:Int),(0:Int)),[]),(5:Int)) else I21 y1 y2 y19 y20 (0:Int) [])))
def AcZ (a0:Int) (a1:Int×Int×Int) (a2:List tM) (a3:List (tV×Int)) (a4:Int):Option ((Int×tL×List Int)×Int) :=
  AcY K a0 a1 a2 a3 a4 (fun c0 c1 c2 c3 d0 d1=>Yk K a0 a1 a2 a3 a4 c0 c1 c2 c3 K d0 d1) (fun c0 c1 c2 c3 d0 d1=>Qt K a0 a1 a2 a3 a4 c0 c1 c2 c3 K d0 d1)
def Ac0:Mdl:=⟨[(.ro,sI),(.ro,sL),(.ro,(.list 59 sM)),(.ro,(.list 84 (.cons sV sI))),(.ro,sI)],[(.cons sI (.cons sL (.list 2 sI))),sI],fun x=>AcZ K x.1 x.2.1 x.2.2.1 x.2.2.2.1 x.2.2.2.2.1⟩
def Yl (a0:Int) (a1:Int×Int×Int) (a2:List tM) (a3:List (tV×Int)) (a4:Int) (lr:LR ((Int×tL×List Int)×Int)):Ex→Fr→Option ((Int×tL×List Int)×Int) :=
  Aw (Ht K) 2 lr R4 [1,1,1,1,1,1,1,1,0,1,0] (fM (Ht K) Tryz.f35 (Ac0 K) (a0,a1,a2,a3,a4,()))
def Ym (a0:Int) (a1:Int×Int×Int) (a2:List tM) (a3:List (tV×Int)) (a4:Int) (lr:LR ((Int×tL×List Int)×Int)) (y1:Int) (y2:Bool) (y3:List Int) (y4:Int×Int×Bool) (bq13:Int) (bq14:List Int):Option ((Int×tL×List Int)×Int) :=
  lr (AF R4 [1,1,1,1,1,1,1,1,0,1,0,0]) (Gf a0 a1 a2 a3 a4 y1 y2 y3 y4 bq13 bq14) (Yl K a0 a1 a2 a3 a4 lr)
def Yn (a0:Int) (a1:Int×Int×Int) (a2:List tM) (a3:List (tV×Int)) (a4:Int) (lr:LR ((Int×tL×List Int)×Int)):Ex→Fr→Option ((Int×tL×List Int)×Int) :=
  Aw (Ht K) 2 lr R4 [1,1,1,1,1,1,1,1,0,1,0] (fM (Ht K) Tryz.f35 (Ac0 K) (a0,a1,a2,a3,a4,()))
def Yo (a0:Int) (a1:Int×Int×Int) (a2:List tM) (a3:List (tV×Int)) (a4:Int) (lr:LR ((Int×tL×List Int)×Int)) (y1:Int) (y2:Bool) (y19:List Int) (y20:Int×Int×Bool) (bq22:Int) (bq23:List Int):Option ((Int×tL×List Int)×Int) :=
  lr (AF R4 [1,1,1,1,1,1,1,1,0,1,0,0]) (Gg a0 a1 a2 a3 a4 y1 y2 y19 y20 bq22 bq23) (Yn K a0 a1 a2 a3 a4 lr)
def AgZ (a0:Int) (a1:Int×Int×Int) (a2:List tM) (a3:List (tV×Int)) (a4 y1:Int) (y2:Bool) (y3:List Int) (y4:Int×Int×Bool) (F12:Fr→Option ((Int×tL×List Int)×Int)) (bq13:Int) (bq14:List Int) (lr:LR ((Int×tL×List Int)×Int)):Ex→Fr→Option ((Int×tL×List Int)×Int) :=
  Aw (Ht K) 2 lr (AF R4 [1,1,1,1,1,1,1,1,0,1,0,0]) [1,0,0,1,0,1,0] (Da 2 (Gf a0 a1 a2 a3 a4 y1 y2 y3 y4 bq13 bq14) F12 (Yl K a0 a1 a2 a3 a4 lr))
def Yp (a0:Int) (a1:Int×Int×Int) (a2:List tM) (a3:List (tV×Int)) (a4 y1:Int) (y2:Bool) (y3:List Int) (y4:Int×Int×Bool) (F12:Fr→Option ((Int×tL×List Int)×Int)) (bq13:Int) (bq14:List Int) (lr:LR ((Int×tL×List Int)×Int)) (q13:Int) (q14:List Int) (bq16 bq17:Int):Option ((Int×tL×List Int)×Int) :=
  lr (AF R4 [1,1,1,1,1,1,1,1,0,1,0,0,1,0,0,1,0,1,0,0]) (R5 a0 a1 a2 a3 a4 q13 q14 y1 y2 y3 y4 bq16 bq17) (AgZ K a0 a1 a2 a3 a4 y1 y2 y3 y4 F12 bq13 bq14 lr)
def Ag0 (a0:Int) (a1:Int×Int×Int) (a2:List tM) (a3:List (tV×Int)) (a4 y1:Int) (y2:Bool) (y19:List Int) (y20:Int×Int×Bool) (F21:Fr→Option ((Int×tL×List Int)×Int)) (bq22:Int) (bq23:List Int) (lr:LR ((Int×tL×List Int)×Int)):Ex→Fr→Option ((Int×tL×List Int)×Int) :=
  Aw (Ht K) 2 lr (AF R4 [1,1,1,1,1,1,1,1,0,1,0,0]) [1,0,0,1,0,1,0] (Da 2 (Gg a0 a1 a2 a3 a4 y1 y2 y19 y20 bq22 bq23) F21 (Yn K a0 a1 a2 a3 a4 lr))
def Yq (a0:Int) (a1:Int×Int×Int) (a2:List tM) (a3:List (tV×Int)) (a4 y1:Int) (y2:Bool) (y19:List Int) (y20:Int×Int×Bool) (F21:Fr→Option ((Int×tL×List Int)×Int)) (bq22:Int) (bq23:List Int) (lr:LR ((Int×tL×List Int)×Int)) (q22:Int) (q23:List Int) (bq25 bq26:Int):Option ((Int×tL×List Int)×Int) :=
  lr (AF R4 [1,1,1,1,1,1,1,1,0,1,0,0,1,0,0,1,0,1,0,0]) (R6 a0 a1 a2 a3 a4 q22 q23 y1 y2 y19 y20 bq25 bq26) (Ag0 K a0 a1 a2 a3 a4 y1 y2 y19 y20 F21 bq22 bq23 lr)
def ApB:Env:=eE K [(83,AgP K),(97,AcM K)] [0,1,2,3,5,8,9,10,11,12,13,14,21,32]
def Ag1 (a0:Int) (a1:Int×Int×Int) (a2:List tM) (a3:List (tV×Int)):Option tL :=
  (Aaa K a0 a1 a2 a3).bind fun y1=>(bif (y1 != (0:Int)) then some ((0:Int),(0:Int),y1) else (Aaf K a1 a2 a3).bind fun y2=>(bif (!y2.2.2) then some ((0:Int),(0:Int),(4:Int)) else some (y2.1,y2.2.1,(0:Int))))
def AoG:Mdl:=⟨[(.ro,sI),(.ro,sL),(.ro,(.list 59 sM)),(.ro,(.list 84 (.cons sV sI)))],[sI,sI,sI],fun x=>Ag1 K x.1 x.2.1 x.2.2.1 x.2.2.2.1⟩
def ApC:Env:=eE K [(78,AgX K),(102,Mf K),(103,Ta K)] [0,1,2,3,5,8,9,10,11,12,13,14,21,34]
def Ag2 (a0:Int) (a1:Int×Int×Int) (a2:List tM) (a3:List (tV×Int)):Option tL :=
  (Aaj K a0 a1 a2 a3).bind fun y1=>(bif (y1 != (0:Int)) then some ((0:Int),(0:Int),y1) else (HC K a1 a2).bind fun y2=>(Mk K a1 y2 a3).bind fun y3=>(bif (!y3.2.2) then some ((0:Int),(0:Int),(4:Int)) else some (y3.1,y3.2.1,(0:Int))))
def AoH:Mdl:=⟨[(.ro,sI),(.ro,sL),(.ro,(.list 59 sM)),(.ro,(.list 84 (.cons sV sI)))],[sI,sI,sI],fun x=>Ag2 K x.1 x.2.1 x.2.2.1 x.2.2.2.1⟩
def OI:Env:=eE K [] [0,1,3,4,5,7,8,9,16]
def Lb (K:Nat) (a0:List tV) (a1:Int×Int) (L2:Int→Option Int) (q3:Int):Option Int :=
  (bif (decide (q3<(a0.length:Int))) then (bif (decide (0≤q3)&&decide (q3<(a0.length:Int))) then (bif ((a1.1==(a0.getD ((0:Int)+q3).toNat ((0:Int),(0:Int))).1)&&(a1.2==(a0.getD ((0:Int)+q3).toNat ((0:Int),(0:Int))).2)) then some q3 else L2 (w (q3+(1:Int)))) else none) else some (-1:Int))
def Qu (a0:List tV) (a1:Int×Int) (n:Nat) (q3:Int):Option Int :=
  AH (X:=Int) (fun L x=>Lb K a0 a1 (fun v0=>L v0) x) n q3
def Vn (K:Nat) (a0:List tV) (a1:Int×Int) (I2:Int→Option Int):Option Int :=
  I2 (0:Int)
def Tc (a0:List tV) (a1:Int×Int):Option Int :=
  Vn K a0 a1 (fun d0=>Qu K a0 a1 K d0)
def Yr:Mdl:=⟨[(.ro,(.list 34 sV)),(.ro,sV)],[sI],fun x=>Tc K x.1 x.2.1⟩
def Ag3 (a0:List tV) (a1:Int×Int) (lr:LR Int):Ex→Fr→Option Int :=
  Aw (OI K) 1 lr AkA [1,0,1,0] (fM (OI K) Tryz.f169 (Yr K) (a0,a1,()))
def Ys (a0:List tV) (a1:Int×Int) (lr:LR Int) (bq3:Int):Option Int :=
  lr (AF AkA [1,0,1,0,0]) (R7 a0 a1 bq3) (Ag3 K a0 a1 lr)
def ApD:Env:=eE K [(169,Yr K)] [0,1,3,4]
def Ag4 (a0:List tV) (a1:Int×Int):Option Bool :=
  (Tc K a0 a1).bind fun y1=>some (decide (y1≥(0:Int)))
def AoI:Mdl:=⟨[(.ro,(.list 34 sV)),(.ro,sV)],[.bool],fun x=>Ag4 K x.1 x.2.1⟩
def ApE:Env:=eE K [(89,AoI K),(90,Qb K)] [0,1,2,3,4]
def AlW (a0:tV×Int) (a1:List tV) (a2:Int×Int×Int):Option Bool :=
  (Jz K a2 a0.1).bind fun y1=>(Ag4 K a1 y1).bind fun y2=>some y2
def AlX:Mdl:=⟨[(.ro,(.cons sV sI)),(.cap,(.list 34 sV)),(.cap,sL)],[.bool],fun x=>AlW K x.1 x.2.1 x.2.2.1⟩
def ApF:Env:=⟨[(87,AgN K),(88,AlX K)],tys,eqs,mts,K,[0,1,2,3,4],[],[],[],[],[(88,AlX K)],[],false⟩
def Td (a0:List tV) (a1:List (tV×Int)) (a2:Int×Int×Int):Option Bool :=
  (Z8 K a1 (fun z1=>AlW K z1 a0 a2)).bind fun y2=>some y2
def AlY:Mdl:=⟨[(.ro,(.list 34 sV)),(.cap,(.list 84 (.cons sV sI))),(.cap,sL)],[.bool],fun x=>Td K x.1 x.2.1 x.2.2.1⟩
omit K
def Ag5 (K:Nat) (a0:List (List tV)) (a1:(List tV)→Option Bool):Option (List (List tV)):=Afr (.list 34 sV) a0 a1
def AoJ (K:Nat):Mdl:=⟨[(.mv,(.list 87 (.list 34 sV))),(.ro,(.fn1 (.list 34 sV) .bool))],[(.list 87 (.list 34 sV))],fun x=>Ag5 K x.1 x.2.1⟩
include K
def ApG:Env:=⟨[(83,AgP K),(84,AcK K),(85,AoJ K),(86,AlY K)],tys,eqs,mts,K,[0,1,2,3,5,7,8,9,10,11,19],[],[],[],[],[(86,AlY K)],[],false⟩
def Ag6 (a0:Int) (a1:Int×Int×Int) (a2:List tM) (a3:List (tV×Int)):Option ((List (List tV))×Int) :=
  (Aaa K a0 a1 a2 a3).bind fun y1=>(bif (y1 != (0:Int)) then some ([],y1) else (Aae K a1 a2).bind fun y2=>(Ag5 K y2.1 (fun z3=>Td K z3 a3 a1)).bind fun y4=>some (y4,(0:Int)))
def AoK:Mdl:=⟨[(.ro,sI),(.ro,sL),(.ro,(.list 59 sM)),(.ro,(.list 84 (.cons sV sI)))],[(.list 87 (.list 34 sV)),sI],fun x=>Ag6 K x.1 x.2.1 x.2.2.1 x.2.2.2.1⟩
def Aak:Env:=eE K [] [0,1,3,4,5,9,17]
def Qv (K:Nat) (a0:List tV) (a1:Int×Int) (L2:Int→Option Bool) (q3:Int):Option Bool :=
  (bif (decide (q3<(a0.length:Int))) then (bif (decide (0≤q3)&&decide (q3<(a0.length:Int))) then (bif (((a0.getD ((0:Int)+q3).toNat ((0:Int),(0:Int))).1==a1.1)&&((a0.getD ((0:Int)+q3).toNat ((0:Int),(0:Int))).2==a1.2)) then some true else L2 (w (q3+(1:Int)))) else none) else some false)
def Vo (a0:List tV) (a1:Int×Int) (n:Nat) (q3:Int):Option Bool :=
  AH (X:=Int) (fun L x=>Qv K a0 a1 (fun v0=>L v0) x) n q3
def Ac1 (K:Nat) (a0:List tV) (a1:Int×Int) (I2:Int→Option Bool):Option Bool :=
  I2 (0:Int)
def Aal (a0:List tV) (a1:Int×Int):Option Bool :=
  Ac1 K a0 a1 (fun d0=>Vo K a0 a1 K d0)
def Ag7:Mdl:=⟨[(.ro,(.list 34 sV)),(.ro,sV)],[.bool],fun x=>Aal K x.1 x.2.1⟩
def AlZ (a0:List tV) (a1:Int×Int) (lr:LR Bool):Ex→Fr→Option Bool :=
  Aw (Aak K) 1 lr Anv [1,0,1,0] (fM (Aak K) Tryz.f80 (Ag7 K) (a0,a1,()))
def Ac2 (a0:List tV) (a1:Int×Int) (lr:LR Bool) (bq3:Int):Option Bool :=
  lr (AF Anv [1,0,1,0,0]) (WO a0 a1 bq3) (AlZ K a0 a1 lr)
def Qw:Env:=eE K [(78,AgX K),(79,Z7 K),(80,Ag7 K),(81,AbW K)] [0,1,2,3,5,8,9,10,11,12,13,14,15,22,31,37,56,1000011]
def Lc (a0:Int) (a1:Int×Int×Int) (a2:List tM) (a3:List (tV×Int)) (q13:Int) (q14:List (Option (List tV))) (q15:List (List tV)) (y1:Int) (L12:Int→(List (Option (List tV)))→(List (List tV))→Option ((List (List tV))×Int)) (L16:Bool→Int→Option ((List (List tV))×Int)) (q17:Bool) (q18:Int):Option ((List (List tV))×Int) :=
  (bif (decide (q18<(a3.length:Int))) then (bif ((decide (0≤q13)&&decide (q13<(q14.length:Int)))||(!q17)) then (bif ((q14.getD ((0:Int)+q13).toNat none).isSome||(!q17)) then (bif ((decide (0≤q18)&&decide (q18<(a3.length:Int)))||(!q17)) then ((bif q17 then Sq K a1 ((a3.getD ((0:Int)+q18).toNat (((0:Int),(0:Int)),(0:Int))).1) else some ((0:Int),(0:Int)))).bind fun y19=>((bif q17 then Aal K (bif q17 then ((q14.getD ((0:Int)+q13).toNat none).getD []) else []) y19 else some false)).bind fun y20=>L16 (bif q17 then (!y20) else false) (w (q18+(1:Int))) else none) else none) else none) else (bif q17 then (bif (decide (0≤q13)&&decide (q13<(q14.length:Int))) then (bif (q14.getD ((0:Int)+q13).toNat none).isSome then (bif ((q14.getD ((0:Int)+q13).toNat none).isSome&&Nat.ble (q15.length+1) (lim 24)) then L12 (w (q13+(1:Int))) (q14.set ((0:Int)+q13).toNat none) (q15++[((q14.getD ((0:Int)+q13).toNat none).getD [])]) else none) else none) else none) else L12 (w (q13+(1:Int))) q14 q15))
def IA (a0:Int) (a1:Int×Int×Int) (a2:List tM) (a3:List (tV×Int)) (q13:Int) (q14:List (Option (List tV))) (q15:List (List tV)) (y1:Int) (L12:Int→(List (Option (List tV)))→(List (List tV))→Option ((List (List tV))×Int)) (n:Nat) (q17:Bool) (q18:Int):Option ((List (List tV))×Int) :=
  AH (X:=Bool×Int) (fun L x=>Lc K a0 a1 a2 a3 q13 q14 q15 y1 L12 (fun v0 v1=>L (v0,v1)) x.1 x.2) n (q17,q18)
def IB (K:Nat) (a0:Int) (a1:Int×Int×Int) (a2:List tM) (a3:List (tV×Int)) (y1:Int) (I16:Int→(List (Option (List tV)))→(List (List tV))→Bool→Int→Option ((List (List tV))×Int)) (L12:Int→(List (Option (List tV)))→(List (List tV))→Option ((List (List tV))×Int)) (q13:Int) (q14:List (Option (List tV))) (q15:List (List tV)):Option ((List (List tV))×Int) :=
  (bif (decide (q13<(q14.length:Int))) then I16 q13 q14 q15 true (0:Int) else some (q15,(0:Int)))
def Qx (a0:Int) (a1:Int×Int×Int) (a2:List tM) (a3:List (tV×Int)) (y1:Int) (n:Nat) (q13:Int) (q14:List (Option (List tV))) (q15:List (List tV)):Option ((List (List tV))×Int) :=
  AH (X:=Int×List (Option (List tV))×List (List tV)) (fun L x=>(fun L12=>IB K a0 a1 a2 a3 y1 (fun c0 c1 c2 d0 d1=>IA K a0 a1 a2 a3 c0 c1 c2 y1 L12 K d0 d1) L12 x.1 x.2.1 x.2.2) (fun v0 v1 v2=>L (v0,v1,v2))) n (q13,q14,q15)
def Ac3 (a0:Int) (a1:Int×Int×Int) (a2:List tM) (a3:List (tV×Int)) (I12:Int→Int→(List (Option (List tV)))→(List (List tV))→Option ((List (List tV))×Int)):Option ((List (List tV))×Int) :=
  (Aaj K a0 a1 a2 a3).bind fun y1=>(bif (y1 != (0:Int)) then some ([],y1) else (U0 K a1 a2).bind fun y2=>I12 y1 (0:Int) (y2.map some) [])
def Ac4 (a0:Int) (a1:Int×Int×Int) (a2:List tM) (a3:List (tV×Int)):Option ((List (List tV))×Int) :=
  Ac3 K a0 a1 a2 a3 (fun c0 d0 d1 d2=>Qx K a0 a1 a2 a3 c0 K d0 d1 d2)
def Ag8:Mdl:=⟨[(.ro,sI),(.ro,sL),(.ro,(.list 59 sM)),(.ro,(.list 84 (.cons sV sI)))],[(.list 87 (.list 34 sV)),sI],fun x=>Ac4 K x.1 x.2.1 x.2.2.1 x.2.2.2.1⟩
def Yt (a0:Int) (a1:Int×Int×Int) (a2:List tM) (a3:List (tV×Int)) (lr:LR ((List (List tV))×Int)):Ex→Fr→Option ((List (List tV))×Int) :=
  Aw (Qw K) 2 lr Agj [1,1,1,1,1,0,1,0] (fM (Qw K) Tryz.f24 (Ag8 K) (a0,a1,a2,a3,()))
def Yu (a0:Int) (a1:Int×Int×Int) (a2:List tM) (a3:List (tV×Int)) (lr:LR ((List (List tV))×Int)) (y1 bq13:Int) (bq14:List (Option (List tV))) (bq15:List (List tV)):Option ((List (List tV))×Int) :=
  lr (AF Agj [1,1,1,1,1,0,1,0,0]) (Gh a0 a1 a2 a3 y1 bq13 bq14 bq15) (Yt K a0 a1 a2 a3 lr)
def Ag9 (a0:Int) (a1:Int×Int×Int) (a2:List tM) (a3:List (tV×Int)) (y1:Int) (F12:Fr→Option ((List (List tV))×Int)) (bq13:Int) (bq14:List (Option (List tV))) (bq15:List (List tV)) (lr:LR ((List (List tV))×Int)):Ex→Fr→Option ((List (List tV))×Int) :=
  Aw (Qw K) 2 lr (AF Agj [1,1,1,1,1,0,1,0,0]) [1,0,0,1,0,1,0] (Da 2 (Gh a0 a1 a2 a3 y1 bq13 bq14 bq15) F12 (Yt K a0 a1 a2 a3 lr))
def Yv (a0:Int) (a1:Int×Int×Int) (a2:List tM) (a3:List (tV×Int)) (y1:Int) (F12:Fr→Option ((List (List tV))×Int)) (bq13:Int) (bq14:List (Option (List tV))) (bq15:List (List tV)) (lr:LR ((List (List tV))×Int)) (q13:Int) (q14:List (Option (List tV))) (q15:List (List tV)) (bq17:Bool) (bq18:Int):Option ((List (List tV))×Int) :=
  lr (AF Agj [1,1,1,1,1,0,1,0,0,1,0,0,1,0,1,0,0]) (R8 a0 a1 a2 a3 q13 q14 q15 y1 bq17 bq18) (Ag9 K a0 a1 a2 a3 y1 F12 bq13 bq14 bq15 lr)
def CH:Env:=⟨[(58,Agn K),(102,Mf K),(138,Ka K),(148,Sr K),(199,Sy K)],tys,eqs,mts,K,[0,1,2,5,6,7,8,9,10,11,12,13,14,15,23,29,35,60,72],[(57,Ii K),(198,AbV K)],[],[],[],[],[],false⟩
def Ml (K:Nat) (a0:(List Int)×Int×Int) (a1:Int) (a2:Int×Int×Int) (q9:Int) (q12:List tM) (q21 q22 q23:Int) (q24:List Int) (y1:Int) (y3:tV×Int) (y15:List tM) (y16:List Int) (y17:tV×Int) (L27:Int→(List Int)→Option (tV×Int×tL×List Int)) (q28:Int) (q29:List Int):Option (tV×Int×tL×List Int) :=
  (bif (decide (q28<(y16.length:Int))) then (bif (decide (0≤q28)&&decide (q28<(y16.length:Int))) then (bif (decide (0≤(y16.getD ((0:Int)+q28).toNat (0:Int)))&&decide ((y16.getD ((0:Int)+q28).toNat (0:Int))<(q24.length:Int))) then (bif (Nat.ble (q29.length+[(q24.getD ((0:Int)+(y16.getD ((0:Int)+q28).toNat (0:Int))).toNat (0:Int))].length) (lim 8)) then L27 (w (q28+(1:Int))) (q29++[(q24.getD ((0:Int)+(y16.getD ((0:Int)+q28).toNat (0:Int))).toNat (0:Int))]) else none) else none) else none) else some ((q22,q23),a1,a2,q29))
def Gt (a0:(List Int)×Int×Int) (a1:Int) (a2:Int×Int×Int) (q9:Int) (q12:List tM) (q21 q22 q23:Int) (q24:List Int) (y1:Int) (y3:tV×Int) (y15:List tM) (y16:List Int) (y17:tV×Int) (n:Nat) (q28:Int) (q29:List Int):Option (tV×Int×tL×List Int) :=
  AH (X:=Int×List Int) (fun L x=>Ml K a0 a1 a2 q9 q12 q21 q22 q23 q24 y1 y3 y15 y16 y17 (fun v0 v1=>L (v0,v1)) x.1 x.2) n (q28,q29)
def IC (a0:(List Int)×Int×Int) (a1:Int) (a2:Int×Int×Int) (q9:Int) (q12:List tM) (y1:Int) (y3:tV×Int) (y15:List tM) (y16:List Int) (y17:tV×Int) (I27:Int→(List tM)→Int→Int→Int→(List Int)→Int→(tV×Int)→(List tM)→(List Int)→(tV×Int)→Int→(List Int)→Option (tV×Int×tL×List Int)) (L20:Int→Int→Int→(List Int)→Option (tV×Int×tL×List Int)) (q21 q22 q23:Int) (q24:List Int):Option (tV×Int×tL×List Int) :=
  (bif (decide (q21<(y16.length:Int))) then (A8 K (a0.1,q22,q23) (w ((2:Int)+y17.2))).bind fun y25=>(bif (Nat.ble (q24.length+[y25.2].length) (lim 8)) then L20 (w (q21+(1:Int))) y25.1.1 y25.1.2 (q24++[y25.2]) else none) else I27 q9 q12 q21 q22 q23 q24 y1 y3 y15 y16 y17 (0:Int) [])
def Gu (a0:(List Int)×Int×Int) (a1:Int) (a2:Int×Int×Int) (q9:Int) (q12:List tM) (y1:Int) (y3:tV×Int) (y15:List tM) (y16:List Int) (y17:tV×Int) (n:Nat) (q21 q22 q23:Int) (q24:List Int):Option (tV×Int×tL×List Int) :=
  AH (X:=Int×Int×Int×List Int) (fun L x=>IC K a0 a1 a2 q9 q12 y1 y3 y15 y16 y17 (fun c0 c1 c2 c3 c4 c5 c6 c7 c8 c9 c10 d0 d1=>Gt K a0 a1 a2 c0 c1 c2 c3 c4 c5 c6 c7 c8 c9 c10 K d0 d1) (fun v0 v1 v2 v3=>L (v0,v1,v2,v3)) x.1 x.2.1 x.2.2.1 x.2.2.2) n (q21,q22,q23,q24)
def Ld (a0:(List Int)×Int×Int) (a1:Int) (a2:Int×Int×Int) (y1:Int) (y2:tA×Int×Int) (y3:tV×Int) (I20:Int→(List tM)→Int→(tV×Int)→(List tM)→(List Int)→(tV×Int)→Int→Int→Int→(List Int)→Option (tV×Int×tL×List Int)) (L8:Int→Int→Int→(List tM)→Option (tV×Int×tL×List Int)) (q9 q10 q11:Int) (q12:List tM):Option (tV×Int×tL×List Int) :=
  (bif (decide (q9>(0:Int))) then (Sp K (a0.1,q10,q11) a1 a2).bind fun y13=>(Kc K a2 y13.2).bind fun y14=>(bif (Nat.ble (q12.length+[y14].length) (lim 48)) then L8 (w (q9-(1:Int))) y13.1.1 y13.1.2 (q12++[y14]) else none) else (Gm K a2 q12).bind fun y15=>(HC K a2 y15).bind fun y16=>(A8 K (a0.1,q10,q11) (3:Int)).bind fun y17=>I20 q9 q12 y1 y3 y15 y16 y17 (0:Int) y17.1.1 y17.1.2 [])
def Lg (a0:(List Int)×Int×Int) (a1:Int) (a2:Int×Int×Int) (y1:Int) (y2:tA×Int×Int) (y3:tV×Int) (n:Nat) (q9 q10 q11:Int) (q12:List tM):Option (tV×Int×tL×List Int) :=
  AH (X:=Int×Int×Int×List tM) (fun L x=>Ld K a0 a1 a2 y1 y2 y3 (fun c0 c1 c2 c3 c4 c5 c6 d0 d1 d2 d3=>Gu K a0 a1 a2 c0 c1 c2 c3 c4 c5 c6 K d0 d1 d2 d3) (fun v0 v1 v2 v3=>L (v0,v1,v2,v3)) x.1 x.2.1 x.2.2.1 x.2.2.2) n (q9,q10,q11,q12)
def Mm (K:Nat) (a0:(List Int)×Int×Int) (a1:Int) (a2:Int×Int×Int) (q39 q40 q41:Int) (q42 q43:List Int) (y1:Int) (y2:tA×Int×Int) (y3:tV×Int) (y30:List Int) (y31:tV×Int) (L46:Int→(List Int)→Option (tV×Int×tL×List Int)) (q47:Int) (q48:List Int):Option (tV×Int×tL×List Int) :=
  (bif (decide (q47<(y30.length:Int))) then (bif (decide (0≤q47)&&decide (q47<(y30.length:Int))) then (bif (decide (0≤(y30.getD ((0:Int)+q47).toNat (0:Int)))&&decide ((y30.getD ((0:Int)+q47).toNat (0:Int))<(q43.length:Int))) then (bif (Nat.ble (q48.length+[(q43.getD ((0:Int)+(y30.getD ((0:Int)+q47).toNat (0:Int))).toNat (0:Int))].length) (lim 8)) then L46 (w (q47+(1:Int))) (q48++[(q43.getD ((0:Int)+(y30.getD ((0:Int)+q47).toNat (0:Int))).toNat (0:Int))]) else none) else none) else none) else some ((q40,q41),a1,a2,q48))
def Gv (a0:(List Int)×Int×Int) (a1:Int) (a2:Int×Int×Int) (q39 q40 q41:Int) (q42 q43:List Int) (y1:Int) (y2:tA×Int×Int) (y3:tV×Int) (y30:List Int) (y31:tV×Int) (n:Nat) (q47:Int) (q48:List Int):Option (tV×Int×tL×List Int) :=
  AH (X:=Int×List Int) (fun L x=>Mm K a0 a1 a2 q39 q40 q41 q42 q43 y1 y2 y3 y30 y31 (fun v0 v1=>L (v0,v1)) x.1 x.2) n (q47,q48)
def ID (a0:(List Int)×Int×Int) (a1:Int) (a2:Int×Int×Int) (y1:Int) (y2:tA×Int×Int) (y3:tV×Int) (y30:List Int) (y31:tV×Int) (I46:Int→Int→Int→(List Int)→(List Int)→Int→tM→(tV×Int)→(List Int)→(tV×Int)→Int→(List Int)→Option (tV×Int×tL×List Int)) (L38:Int→Int→Int→(List Int)→(List Int)→Option (tV×Int×tL×List Int)) (q39 q40 q41:Int) (q42 q43:List Int):Option (tV×Int×tL×List Int) :=
  (bif (decide (q39<(y30.length:Int))) then (A8 K (a0.1,q40,q41) (w ((2:Int)+y31.2))).bind fun y44=>(bif (Nat.ble (q43.length+[y44.2].length) (lim 8)) then L38 (w (q39+(1:Int))) y44.1.1 y44.1.2 q42 (q43++[y44.2]) else none) else I46 q39 q40 q41 q42 q43 y1 y2 y3 y30 y31 (0:Int) [])
def IE (a0:(List Int)×Int×Int) (a1:Int) (a2:Int×Int×Int) (y1:Int) (y2:tA×Int×Int) (y3:tV×Int) (y30:List Int) (y31:tV×Int) (n:Nat) (q39 q40 q41:Int) (q42 q43:List Int):Option (tV×Int×tL×List Int) :=
  AH (X:=Int×Int×Int×List Int×List Int) (fun L x=>ID K a0 a1 a2 y1 y2 y3 y30 y31 (fun c0 c1 c2 c3 c4 c5 c6 c7 c8 c9 d0 d1=>Gv K a0 a1 a2 c0 c1 c2 c3 c4 c5 c6 c7 c8 c9 K d0 d1) (fun v0 v1 v2 v3 v4=>L (v0,v1,v2,v3,v4)) x.1 x.2.1 x.2.2.1 x.2.2.2.1 x.2.2.2.2) n (q39,q40,q41,q42,q43)
def Vp (a0:(List Int)×Int×Int) (a1:Int) (a2:Int×Int×Int) (I8:Int→tM→(tV×Int)→Int→Int→Int→(List tM)→Option (tV×Int×tL×List Int)) (I38:Int→tM→(tV×Int)→(List Int)→(tV×Int)→Int→Int→Int→(List Int)→(List Int)→Option (tV×Int×tL×List Int)):Option (tV×Int×tL×List Int) :=
  (HA K a1 a2).bind fun y1=>(bif (y1 != (0:Int)) then some (a0.2,a1,a2,[]) else (Ss K).bind fun y2=>(A8 K a0 (4:Int)).bind fun y3=>(bif (decide (y3.2>(0:Int))) then (A8 K (a0.1,y3.1) (2:Int)).bind fun y4=>I8 y1 y2 y3 (w ((1:Int)+y4.2)) y4.1.1 y4.1.2 [] else (HC K a2 [y2]).bind fun y30=>(A8 K (a0.1,y3.1) (3:Int)).bind fun y31=>I38 y1 y2 y3 y30 y31 (0:Int) y31.1.1 y31.1.2 [] []))
def Te (a0:(List Int)×Int×Int) (a1:Int) (a2:Int×Int×Int):Option (tV×Int×tL×List Int) :=
  Vp K a0 a1 a2 (fun c0 c1 c2 d0 d1 d2 d3=>Lg K a0 a1 a2 c0 c1 c2 K d0 d1 d2 d3) (fun c0 c1 c2 c3 c4 d0 d1 d2 d3 d4=>IE K a0 a1 a2 c0 c1 c2 c3 c4 K d0 d1 d2 d3 d4)
def Alk:DY:=⟨5,(.int .u8),sV,[(.ro,sI),(.ro,sL)],[(.cons sI (.cons sL (.list 2 sI)))],fun x=>Te K x.1 x.2.1 x.2.2.1⟩
def Ac5 (a0:(List Int)×Int×Int) (a1:Int) (a2:Int×Int×Int) (lr:LR (tV×Int×tL×List Int)):Ex→Fr→Option (tV×Int×tL×List Int) :=
  Aw (CH K) 1 lr Hz [1,1,1,1,1,1,1,1,0,1,0] (LS (CH K) Tryz.f175 sV [(.cons sI (.cons sL (.list 2 sI)))])
def Tf (a0:(List Int)×Int×Int) (a1:Int) (a2:Int×Int×Int) (lr:LR (tV×Int×tL×List Int)) (q9:Int) (q12:List tM) (y1:Int) (y3:tV×Int) (y15:List tM) (y16:List Int) (y17:tV×Int) (bq21 bq22 bq23:Int) (bq24:List Int):Option (tV×Int×tL×List Int) :=
  lr (AF Hz [1,1,1,1,1,1,1,1,0,1,0,0]) (Ju a0 a1 a2 q9 q12 y1 y3 y15 y16 y17 bq21 bq22 bq23 bq24) (Ac5 K a0 a1 a2 lr)
def Aha (a0:(List Int)×Int×Int) (a1:Int) (a2:Int×Int×Int) (lr:LR (tV×Int×tL×List Int)):Ex→Fr→Option (tV×Int×tL×List Int) :=
  Aw (CH K) 1 lr Hz [1,1,1,1,0,1,0,1,0,1,0] (LS (CH K) Tryz.f175 sV [(.cons sI (.cons sL (.list 2 sI)))])
def Yw (a0:(List Int)×Int×Int) (a1:Int) (a2:Int×Int×Int) (lr:LR (tV×Int×tL×List Int)) (y1:Int) (y2:tA×Int×Int) (y3:tV×Int) (bq9 bq10 bq11:Int) (bq12:List tM):Option (tV×Int×tL×List Int) :=
  lr (AF Hz [1,1,1,1,0,1,0,1,0,1,0,0]) (LV a0 a1 a2 y1 y2 y3 bq9 bq10 bq11 bq12) (Aha K a0 a1 a2 lr)
def Ac6 (a0:(List Int)×Int×Int) (a1:Int) (a2:Int×Int×Int) (lr:LR (tV×Int×tL×List Int)):Ex→Fr→Option (tV×Int×tL×List Int) :=
  Aw (CH K) 1 lr Hz [1,1,1,1,1,1,1,1,0,1,0] (LS (CH K) Tryz.f175 sV [(.cons sI (.cons sL (.list 2 sI)))])
def Tg (a0:(List Int)×Int×Int) (a1:Int) (a2:Int×Int×Int) (lr:LR (tV×Int×tL×List Int)) (y1:Int) (y2:tA×Int×Int) (y3:tV×Int) (y30:List Int) (y31:tV×Int) (bq39 bq40 bq41:Int) (bq42 bq43:List Int):Option (tV×Int×tL×List Int) :=
  lr (AF Hz [1,1,1,1,1,1,1,1,0,1,0,0]) (Jv a0 a1 a2 y1 y2 y3 y30 y31 bq39 bq40 bq41 bq42 bq43) (Ac6 K a0 a1 a2 lr)
def Ac7 (a0:(List Int)×Int×Int) (a1:Int) (a2:Int×Int×Int) (lr:LR (tV×Int×tL×List Int)):Ex→Fr→Option (tV×Int×tL×List Int) :=
  Aw (CH K) 1 lr Hz [1,1,1,1,1,1,1,1,1,0,1,0] (LS (CH K) Tryz.f175 sV [(.cons sI (.cons sL (.list 2 sI)))])
def Th (a0:(List Int)×Int×Int) (a1:Int) (a2:Int×Int×Int) (lr:LR (tV×Int×tL×List Int)) (q9:Int) (q12:List tM) (q21 q22 q23:Int) (q24:List Int) (y1:Int) (y3:tV×Int) (y15:List tM) (y16:List Int) (y17:tV×Int) (bq28:Int) (bq29:List Int):Option (tV×Int×tL×List Int) :=
  lr (AF Hz [1,1,1,1,1,1,1,1,1,0,1,0,0]) (N7 a0 a1 a2 q9 q12 q21 q22 q23 q24 y1 y3 y15 y16 y17 bq28 bq29) (Ac7 K a0 a1 a2 lr)
def Ac8 (a0:(List Int)×Int×Int) (a1:Int) (a2:Int×Int×Int) (lr:LR (tV×Int×tL×List Int)):Ex→Fr→Option (tV×Int×tL×List Int) :=
  Aw (CH K) 1 lr Hz [1,1,1,1,1,1,1,1,1,0,1,0] (LS (CH K) Tryz.f175 sV [(.cons sI (.cons sL (.list 2 sI)))])
def Ti (a0:(List Int)×Int×Int) (a1:Int) (a2:Int×Int×Int) (lr:LR (tV×Int×tL×List Int)) (q39 q40 q41:Int) (q42 q43:List Int) (y1:Int) (y2:tA×Int×Int) (y3:tV×Int) (y30:List Int) (y31:tV×Int) (bq47:Int) (bq48:List Int):Option (tV×Int×tL×List Int) :=
  lr (AF Hz [1,1,1,1,1,1,1,1,1,0,1,0,0]) (N8 a0 a1 a2 q39 q40 q41 q42 q43 y1 y2 y3 y30 y31 bq47 bq48) (Ac8 K a0 a1 a2 lr)
def AoL:Env:=⟨[],tys,eqs,mts,K,[0,2,3,4,5,16,17,24,29],[(57,Ii K),(59,Z2 K),(174,AbL K),(175,Alk K)],[],[],[],[],[],false⟩
def Yx (a0:(List Int)×Int×Int):Option (tV×Int×tL×List Int) :=
  (Sd K a0).bind fun y1=>(Te K (a0.1,y1.1) y1.2.1 y1.2.2).bind fun y2=>(A8 K (a0.1,y2.1) (60:Int)).bind fun y3=>(bif (y3.2==(0:Int)) then (bif (Nat.ble (y2.2.2.2.length+[(0:Int)].length) (lim 8)) then some (y3.1,y2.2.1,y2.2.2.1,(y2.2.2.2++[(0:Int)])) else none) else (bif (y3.2==(1:Int)) then (bif (decide ((y2.2.2.2.length:Int)>(0:Int))) then (KB K (a0.1,y3.1) [(-1:Int),(9:Int),(10:Int)]).bind fun y4=>(bif (decide (0≤(0:Int))&&decide ((0:Int)<(y2.2.2.2.length:Int))) then some (y4.1,y2.2.1,y2.2.2.1,(y2.2.2.2.set ((0:Int)+(0:Int)).toNat y4.2)) else none) else some (y3.1,y2.2)) else some (y3.1,y2.2)))
def All:DY:=⟨5,(.int .u8),sV,[],[(.cons sI (.cons sL (.list 2 sI)))],fun x=>Yx K x.1⟩
def ApH:Env:=⟨[],tys,eqs,mts,K,[0,2,3,4,5],[(104,All K),(105,Ack K)],[(55,AlK K)],[],[],[],[],false⟩
def Ahb (a0:List Int):Option ((Int×tL×List Int)×List (tV×Int)) :=
  (Z1 K a0).bind fun y1=>(Yx K (a0,y1)).bind fun y2=>(Ot K (a0,y2.1) y2.2).bind fun y3=>some (y2.2,y3.2)
def AoM:Mdl:=⟨[(.ro,(.list 5 (.int .u8)))],[(.cons sI (.cons sL (.list 2 sI))),(.list 84 (.cons sV sI))],fun x=>Ahb K x.1⟩
def AoN:Env:=eE K [(172,Ou K)] [0,1,2,4]
def Yy (a0 a1 a2:Int):Option Bool :=
  (HD K a0 a1 a2).bind fun y1=>some (!y1)
def Ac9:Mdl:=⟨[(.ro,sI),(.cap,sI),(.cap,sI)],[.bool],fun x=>Yy K x.1 x.2.1 x.2.2.1⟩
def OJ:Env:=eE K [] [0,1,4,5,7,8,9,16]
def Lh (K:Nat) (a0:List Int) (a1:(Int→Option Bool)) (L3:Int→Option Int) (q4:Int):Option Int :=
  (bif (decide (q4<(a0.length:Int))) then (bif (decide (0≤q4)&&decide (q4<(a0.length:Int))) then (a1 (a0.getD ((0:Int)+q4).toNat (0:Int))).bind fun y5=>(bif y5 then some q4 else L3 (w (q4+(1:Int)))) else none) else some (-1:Int))
def Qy (a0:List Int) (a1:(Int→Option Bool)) (n:Nat) (q4:Int):Option Int :=
  AH (X:=Int) (fun L x=>Lh K a0 a1 (fun v0=>L v0) x) n q4
def Vq (K:Nat) (a0:List Int) (a1:(Int→Option Bool)) (I3:Int→Option Int):Option Int :=
  I3 (0:Int)
def Yz (a0:List Int) (a1:(Int→Option Bool)):Option Int :=
  Vq K a0 a1 (fun d0=>Qy K a0 a1 K d0)
def YA:Mdl:=⟨[(.ro,(.list 2 sI)),(.ro,(.fn1 sI .bool))],[sI],fun x=>Yz K x.1 x.2.1⟩
def Ahc (a0:List Int) (a1:(Int→Option Bool)) (lr:LR Int):Ex→Fr→Option Int :=
  Aw (OJ K) 1 lr AkB [1,0,1,0] (fM (OJ K) Tryz.f253 (YA K) (a0,a1,()))
def YB (a0:List Int) (a1:(Int→Option Bool)) (lr:LR Int) (bq4:Int):Option Int :=
  lr (AF AkB [1,0,1,0,0]) (R9 a0 a1 bq4) (Ahc K a0 a1 lr)
def AoO:Env:=eE K [(253,YA K)] [0,1,4]
def Ada (a0:List Int) (a1:(Int→Option Bool)):Option Bool :=
  (Yz K a0 a1).bind fun y1=>some (decide (y1≥(0:Int)))
def Alm:Mdl:=⟨[(.ro,(.list 2 sI)),(.ro,(.fn1 sI .bool))],[.bool],fun x=>Ada K x.1 x.2.1⟩
def AoP:Env:=⟨[(210,Alm K),(211,Ac9 K)],tys,eqs,mts,K,[0,1,2,4,5,6],[],[],[],[],[(211,Ac9 K)],[],false⟩
def YC (a0:List Int) (a1 a2:Int):Option Bool :=
  (Ada K a0 (fun z1=>Yy K z1 a1 a2)).bind fun y2=>some (!y2)
def Aln:Mdl:=⟨[(.ro,(.list 2 sI)),(.ro,sI),(.ro,sI)],[.bool],fun x=>YC K x.1 x.2.1 x.2.2.1⟩
def ApI:Env:=eE K [(62,Acm K),(154,Acl K),(155,Acn K),(156,Aln K)] [0,1,2]
def Aam (a0:Int×tL×List Int):Option Bool :=
  (SP K a0.1).bind fun y1=>((bif y1 then SQ K a0.2.1 else some false)).bind fun y2=>((bif (bif y1 then y2 else false) then Qa K a0.2.1 else some (0:Int))).bind fun y3=>((bif (bif (bif y1 then y2 else false) then ((a0.2.2.length:Int)==y3) else false) then YC K a0.2.2 (0:Int) (9:Int) else some false)).bind fun y4=>some (bif (bif (bif y1 then y2 else false) then ((a0.2.2.length:Int)==y3) else false) then y4 else false)
def Ahd:Mdl:=⟨[(.ro,(.cons sI (.cons sL (.list 2 sI))))],[.bool],fun x=>Aam K x.1⟩
def AoQ:Env:=eE K [(90,Qb K),(100,OH K)] [0,1,2,3,4]
def OK (a0:Int×tL×List Int) (a1:Int×Int):Option Int :=
  (Jz K a0.2.1 a1).bind fun y1=>(HF K a0.2.1 y1).bind fun y2=>(bif (decide (0≤y2)&&decide (y2<(a0.2.2.length:Int))) then some (a0.2.2.getD ((0:Int)+y2).toNat (0:Int)) else none)
def YD:Mdl:=⟨[(.ro,(.cons sI (.cons sL (.list 2 sI)))),(.ro,sV)],[sI],fun x=>OK K x.1 x.2.1⟩
def AoR:Env:=eE K [(107,YD K)] [0,1,2,3]
def YE (a0:tV×Int) (a1:Int×tL×List Int):Option Bool :=
  (OK K a1 a0.1).bind fun y1=>some (y1 != a0.2)
def Adb:Mdl:=⟨[(.ro,(.cons sV sI)),(.cap,(.cons sI (.cons sL (.list 2 sI))))],[.bool],fun x=>YE K x.1 x.2.1⟩
def ApJ:Env:=⟨[(42,AgO K),(74,Ahd K),(87,AgN K),(106,Adb K)],tys,eqs,mts,K,[0,1,2,4,5,8,11],[],[],[],[],[(106,Adb K)],[],false⟩
def Adc (a0:Int×tL×List Int) (a1:List (tV×Int)):Option (Bool×Int) :=
  (Aam K a0).bind fun y1=>(bif (!y1) then some (false,(1:Int)) else (Z9 K a1).bind fun y2=>(bif (!y2) then some (false,(2:Int)) else (Z8 K a1 (fun z3=>YE K z3 a0)).bind fun y4=>some ((!y4),(0:Int))))
def AoS:Mdl:=⟨[(.ro,(.cons sI (.cons sL (.list 2 sI)))),(.ro,(.list 84 (.cons sV sI)))],[.bool,sI],fun x=>Adc K x.1 x.2.1⟩
def Aan:Env:=eE K [(43,Aai K),(108,Aci K),(109,Acj K)] [0,1,2,4,5,6,7,11,18,33]
def Qz (a0:Int×tL×List Int) (a1:List (tV×Int)) (y1 y2:Bool) (L5:Int→Option (Bool×Int)) (q6:Int):Option (Bool×Int) :=
  (bif (decide (q6<(a1.length:Int))) then (bif (decide (0≤q6)&&decide (q6<(a1.length:Int))) then (SO K a0 ((a1.getD ((0:Int)+q6).toNat (((0:Int),(0:Int)),(0:Int))).1)).bind fun y7=>(bif (decide (0≤q6)&&decide (q6<(a1.length:Int))) then (bif (y7 != (a1.getD ((0:Int)+q6).toNat (((0:Int),(0:Int)),(0:Int))).2) then some (false,(0:Int)) else L5 (w (q6+(1:Int)))) else none) else none) else some (true,(0:Int)))
def Vr (a0:Int×tL×List Int) (a1:List (tV×Int)) (y1 y2:Bool) (n:Nat) (q6:Int):Option (Bool×Int) :=
  AH (X:=Int) (fun L x=>Qz K a0 a1 y1 y2 (fun v0=>L v0) x) n q6
def Add (a0:Int×tL×List Int) (a1:List (tV×Int)) (I5:Bool→Bool→Int→Option (Bool×Int)):Option (Bool×Int) :=
  (SL K a0).bind fun y1=>(bif (!y1) then some (false,(1:Int)) else (Vl K a1).bind fun y2=>(bif (!y2) then some (false,(2:Int)) else I5 y1 y2 (0:Int)))
def Ade (a0:Int×tL×List Int) (a1:List (tV×Int)):Option (Bool×Int) :=
  Add K a0 a1 (fun c0 c1 d0=>Vr K a0 a1 c0 c1 K d0)
def Ahe:Mdl:=⟨[(.ro,(.cons sI (.cons sL (.list 2 sI)))),(.ro,(.list 84 (.cons sV sI)))],[.bool,sI],fun x=>Ade K x.1 x.2.1⟩
def Al0 (a0:Int×tL×List Int) (a1:List (tV×Int)) (lr:LR (Bool×Int)):Ex→Fr→Option (Bool×Int) :=
  Aw (Aan K) 2 lr Anw [1,1,0,1,0] (fM (Aan K) Tryz.f40 (Ahe K) (a0,a1,()))
def Adf (a0:Int×tL×List Int) (a1:List (tV×Int)) (lr:LR (Bool×Int)) (y1 y2:Bool) (bq6:Int):Option (Bool×Int) :=
  lr (AF Anw [1,1,0,1,0,0]) (WP a0 a1 y1 y2 bq6) (Al0 K a0 a1 lr)
def Aao:Env:=eE K [] [0,1,4,5,10,14,25]
def QA (K:Nat) (a0 a1:List Int) (L2:Int→Option Bool) (q3:Int):Option Bool :=
  (bif (decide (q3<(a0.length:Int))) then (bif (decide (0≤q3)&&decide (q3<(a0.length:Int))) then (bif (decide (0≤q3)&&decide (q3<(a1.length:Int))) then (bif ((a0.getD ((0:Int)+q3).toNat (0:Int)) != (a1.getD ((0:Int)+q3).toNat (0:Int))) then some false else L2 (w (q3+(1:Int)))) else none) else none) else some true)
def Vs (a0 a1:List Int) (n:Nat) (q3:Int):Option Bool :=
  AH (X:=Int) (fun L x=>QA K a0 a1 (fun v0=>L v0) x) n q3
def Adg (K:Nat) (a0 a1:List Int) (I2:Int→Option Bool):Option Bool :=
  (bif ((a0.length:Int) != (a1.length:Int)) then some false else I2 (0:Int))
def Adh (a0 a1:List Int):Option Bool :=
  Adg K a0 a1 (fun d0=>Vs K a0 a1 K d0)
def Ahf:Mdl:=⟨[(.ro,(.list 2 sI)),(.ro,(.list 2 sI))],[.bool],fun x=>Adh K x.1 x.2.1⟩
def Al1 (a0 a1:List Int) (lr:LR Bool):Ex→Fr→Option Bool :=
  Aw (Aao K) 2 lr Anx [1,1,0,1,0] (fM (Aao K) Tryz.f72 (Ahf K) (a0,a1,()))
def Adi (a0 a1:List Int) (lr:LR Bool) (bq3:Int):Option Bool :=
  lr (AF Anx [1,1,0,1,0,0]) (WQ a0 a1 bq3) (Al1 K a0 a1 lr)
def ApK:Env:=eE K [(72,Ahf K)] [0,1,2,3,4]
def Ahg (a0 a1:Int×tL×List Int):Option Bool :=
  ((bif (bif (a0.1==a1.1) then ((a0.2.1.1==a1.2.1.1)&&((a0.2.1.2.1==a1.2.1.2.1)&&(a0.2.1.2.2==a1.2.1.2.2))) else false) then Adh K a0.2.2 a1.2.2 else some false)).bind fun y1=>some (bif (bif (a0.1==a1.1) then ((a0.2.1.1==a1.2.1.1)&&((a0.2.1.2.1==a1.2.1.2.1)&&(a0.2.1.2.2==a1.2.1.2.2))) else false) then y1 else false)
def AoT:Mdl:=⟨[(.ro,(.cons sI (.cons sL (.list 2 sI)))),(.ro,(.cons sI (.cons sL (.list 2 sI))))],[.bool],fun x=>Ahg K x.1 x.2.1⟩
def OL:Env:=eE K [] [0,1,4,5,10,14,25]
def Li (K:Nat) (a0 a1:List tV) (L2:Int→Option Bool) (q3:Int):Option Bool :=
  (bif (decide (q3<(a0.length:Int))) then (bif (decide (0≤q3)&&decide (q3<(a0.length:Int))) then (bif (decide (0≤q3)&&decide (q3<(a1.length:Int))) then (bif (!(((a0.getD ((0:Int)+q3).toNat ((0:Int),(0:Int))).1==(a1.getD ((0:Int)+q3).toNat ((0:Int),(0:Int))).1)&&((a0.getD ((0:Int)+q3).toNat ((0:Int),(0:Int))).2==(a1.getD ((0:Int)+q3).toNat ((0:Int),(0:Int))).2))) then some false else L2 (w (q3+(1:Int)))) else none) else none) else some true)
def QB (a0 a1:List tV) (n:Nat) (q3:Int):Option Bool :=
  AH (X:=Int) (fun L x=>Li K a0 a1 (fun v0=>L v0) x) n q3
def Vt (K:Nat) (a0 a1:List tV) (I2:Int→Option Bool):Option Bool :=
  (bif ((a0.length:Int) != (a1.length:Int)) then some false else I2 (0:Int))
def Tj (a0 a1:List tV):Option Bool :=
  Vt K a0 a1 (fun d0=>QB K a0 a1 K d0)
def YF:Mdl:=⟨[(.ro,(.list 34 sV)),(.ro,(.list 34 sV))],[.bool],fun x=>Tj K x.1 x.2.1⟩
def Ahh (a0 a1:List tV) (lr:LR Bool):Ex→Fr→Option Bool :=
  Aw (OL K) 2 lr AkC [1,1,0,1,0] (fM (OL K) Tryz.f110 (YF K) (a0,a1,()))
def YG (a0 a1:List tV) (lr:LR Bool) (bq3:Int):Option Bool :=
  lr (AF AkC [1,1,0,1,0,0]) (Sa a0 a1 bq3) (Ahh K a0 a1 lr)
def Aap:Env:=eE K [(110,YF K)] [0,1,4,5,10,14,26]
def QC (a0 a1:List (List tV)) (L3:Int→Option Bool) (q4:Int):Option Bool :=
  (bif (decide (q4<(a0.length:Int))) then (bif (decide (0≤q4)&&decide (q4<(a0.length:Int))) then (bif (decide (0≤q4)&&decide (q4<(a1.length:Int))) then (Tj K (a0.getD ((0:Int)+q4).toNat []) (a1.getD ((0:Int)+q4).toNat [])).bind fun y5=>(bif (!y5) then some false else L3 (w (q4+(1:Int)))) else none) else none) else some true)
def Vu (a0 a1:List (List tV)) (n:Nat) (q4:Int):Option Bool :=
  AH (X:=Int) (fun L x=>QC K a0 a1 (fun v0=>L v0) x) n q4
def Adj (K:Nat) (a0 a1:List (List tV)) (I3:Int→Option Bool):Option Bool :=
  (bif ((a0.length:Int) != (a1.length:Int)) then some false else I3 (0:Int))
def Adk (a0 a1:List (List tV)):Option Bool :=
  Adj K a0 a1 (fun d0=>Vu K a0 a1 K d0)
def Ahi:Mdl:=⟨[(.ro,(.list 87 (.list 34 sV))),(.ro,(.list 87 (.list 34 sV)))],[.bool],fun x=>Adk K x.1 x.2.1⟩
def Al2 (a0 a1:List (List tV)) (lr:LR Bool):Ex→Fr→Option Bool :=
  Aw (Aap K) 2 lr Anz [1,1,0,1,0] (fM (Aap K) Tryz.f41 (Ahi K) (a0,a1,()))
def Adl (a0 a1:List (List tV)) (lr:LR Bool) (bq4:Int):Option Bool :=
  lr (AF Anz [1,1,0,1,0,0]) (WR a0 a1 bq4) (Al2 K a0 a1 lr)
def AoU:Env:=eE K [(74,Ahd K),(121,S5 K)] [0,1,2,4,7]
def YH (a0:Int×tL×List Int) (a1:List tM):Option Int :=
  (Aam K a0).bind fun y1=>(bif (!y1) then some (1:Int) else (Mg K a0.1 a0.2.1 [a1]).bind fun y2=>some y2)
def Alo:Mdl:=⟨[(.ro,(.cons sI (.cons sL (.list 2 sI)))),(.ro,(.list 59 sM))],[sI],fun x=>YH K x.1 x.2.1⟩
def OM:Env:=eE K [(99,Aab K),(107,YD K),(164,AcF K)] [0,1,2,3,4,5,6,9,10,11,12,26]
def Lj (a0:Int×tL×List Int) (a1:tA×Int×Int) (y1:List tV) (L5:Int→Option Bool) (q6:Int):Option Bool :=
  (bif (decide (q6<(y1.length:Int))) then (bif (decide (0≤q6)&&decide (q6<(y1.length:Int))) then (S8 K a1 (y1.getD ((0:Int)+q6).toNat ((0:Int),(0:Int)))).bind fun y7=>(OK K a0 y7).bind fun y8=>(bif (decide (0≤q6)&&decide (q6<(a0.2.2.length:Int))) then (bif (y8 != (a0.2.2.getD ((0:Int)+q6).toNat (0:Int))) then some false else L5 (w (q6+(1:Int)))) else none) else none) else some true)
def QD (a0:Int×tL×List Int) (a1:tA×Int×Int) (y1:List tV) (n:Nat) (q6:Int):Option Bool :=
  AH (X:=Int) (fun L x=>Lj K a0 a1 y1 (fun v0=>L v0) x) n q6
def Vv (a0:Int×tL×List Int) (a1:tA×Int×Int) (I5:(List tV)→Int→Option Bool):Option Bool :=
  (Vh K a0.2.1).bind fun y1=>I5 y1 (0:Int)
def ON (a0:Int×tL×List Int) (a1:tA×Int×Int):Option Bool :=
  Vv K a0 a1 (fun c0 d0=>QD K a0 a1 c0 K d0)
def YI:Mdl:=⟨[(.ro,(.cons sI (.cons sL (.list 2 sI)))),(.ro,sM)],[.bool],fun x=>ON K x.1 x.2.1⟩
def Ahj (a0:Int×tL×List Int) (a1:tA×Int×Int) (lr:LR Bool):Ex→Fr→Option Bool :=
  Aw (OM K) 1 lr AkD [1,0,1,0] (fM (OM K) Tryz.f178 (YI K) (a0,a1,()))
def YJ (a0:Int×tL×List Int) (a1:tA×Int×Int) (lr:LR Bool) (y1:List tV) (bq6:Int):Option Bool :=
  lr (AF AkD [1,0,1,0,0]) (Sb a0 a1 y1 bq6) (Ahj K a0 a1 lr)
def OO:Env:=eE K [(178,YI K)] [0,1,2,4,6,7,8,9,10,16]
def Lk (a0:Int×tL×List Int) (a1:List tM) (L3:Int→Option Bool) (q4:Int):Option Bool :=
  (bif (decide (q4<(a1.length:Int))) then (bif (decide (0≤q4)&&decide (q4<(a1.length:Int))) then (ON K a0 ((((a1.getD ((0:Int)+q4).toNat zM).1).1,(((a1.getD ((0:Int)+q4).toNat zM).1).2).1,((((a1.getD ((0:Int)+q4).toNat zM).1).2).2)),((a1.getD ((0:Int)+q4).toNat zM).2))).bind fun y5=>(bif (!y5) then some false else L3 (w (q4+(1:Int)))) else none) else some true)
def QE (a0:Int×tL×List Int) (a1:List tM) (n:Nat) (q4:Int):Option Bool :=
  AH (X:=Int) (fun L x=>Lk K a0 a1 (fun v0=>L v0) x) n q4
def Vw (K:Nat) (a0:Int×tL×List Int) (a1:List tM) (I3:Int→Option Bool):Option Bool :=
  I3 (0:Int)
def Tk (a0:Int×tL×List Int) (a1:List tM):Option Bool :=
  Vw K a0 a1 (fun d0=>QE K a0 a1 K d0)
def YK:Mdl:=⟨[(.ro,(.cons sI (.cons sL (.list 2 sI)))),(.ro,(.list 59 sM))],[.bool],fun x=>Tk K x.1 x.2.1⟩
def Ahk (a0:Int×tL×List Int) (a1:List tM) (lr:LR Bool):Ex→Fr→Option Bool :=
  Aw (OO K) 2 lr AkE [1,0,1,0] (fM (OO K) Tryz.f114 (YK K) (a0,a1,()))
def YL (a0:Int×tL×List Int) (a1:List tM) (lr:LR Bool) (bq4:Int):Option Bool :=
  lr (AF AkE [1,0,1,0,0]) (Sc a0 a1 bq4) (Ahk K a0 a1 lr)
def ApL:Env:=eE K [(113,Alo K),(114,YK K)] [0,1,2,4,5,6,11]
def Ahl (a0:Int×tL×List Int) (a1:List tM):Option (Bool×Int) :=
  (YH K a0 a1).bind fun y1=>(bif (y1 != (0:Int)) then some (false,y1) else (Tk K a0 a1).bind fun y2=>some (y2,(0:Int)))
def AoV:Mdl:=⟨[(.ro,(.cons sI (.cons sL (.list 2 sI)))),(.ro,(.list 59 sM))],[.bool,sI],fun x=>Ahl K x.1 x.2.1⟩
def ApM:Env:=eE K [(74,Ahd K),(76,AlQ K),(107,YD K)] [0,1,2,3,4,5,13]
def Ahm (a0:Int×tL×List Int) (a1:Int×Int):Option tV :=
  (Aam K a0).bind fun y1=>((bif (!(!y1)) then Acx K a1 else some false)).bind fun y2=>(bif (bif (!y1) then true else (!y2)) then some ((0:Int),(1:Int)) else (OK K a0 a1).bind fun y3=>some (y3,(0:Int)))
def AoW:Mdl:=⟨[(.ro,(.cons sI (.cons sL (.list 2 sI)))),(.ro,sV)],[sI,sI],fun x=>Ahm K x.1 x.2.1⟩
def f6E:Env:=eE K [(14,AnA K),(18,AoT K),(24,Ag8 K),(26,AoK K),(33,Aod K),(34,AgV K),(35,Ac0 K),(36,AoG K),(37,AoH K),(38,AoM K),(39,AoS K),(40,Ahe K),(41,Ahi K),(42,AgO K),(43,Aai K),(44,AoV K),(45,AoW K)] [0,2,3,4,5,6,7,8,9,10,11,12,13,14,15,16,17,18,19,20,21,22,23,24,25,26,27,28,29,30,31,32,33,34,36,165,185,187,191,207,227]
def QF (a0:List Int) (y1:Bool) (y2:Int×tL×(List tM)×(List (tV×Int))×Int) (y3 y4:(Int×tL×List Int)×Int) (y5 y6:Int×Int×Int) (y7:(List (List tV))×Int) (y8:(List (List tV))×Int) (y9:(Int×tL×List Int)×List (tV×Int)) (y10 y11:Bool×Int) (y12 y13 y14 y15:Bool) (y16 y17:Bool×Int) (L20:Int→Option Bool) (q21:Int):Option Bool :=
  (bif (decide (q21<(y7.1.length:Int))) then (bif (decide (0≤q21)&&decide (q21<(y7.1.length:Int))) then (bif (decide (0≤(0:Int))&&decide ((0:Int)<((y7.1.getD ((0:Int)+q21).toNat []).length:Int))) then (Ahm K y3.1 ((y7.1.getD ((0:Int)+q21).toNat []).getD ((0:Int)+(0:Int)).toNat ((0:Int),(0:Int)))).bind fun y22=>(bif (bif (y22.2 != (0:Int)) then true else (y22.1 != y2.2.2.2.2)) then some false else L20 (w (q21+(1:Int)))) else none) else none) else some (bif (bif (bif (bif (y5.2.2==(4:Int)) then (y16.2==(0:Int)) else false) then y16.1 else false) then (y17.2==(0:Int)) else false) then y17.1 else false))
def Vx (a0:List Int) (y1:Bool) (y2:Int×tL×(List tM)×(List (tV×Int))×Int) (y3 y4:(Int×tL×List Int)×Int) (y5 y6:Int×Int×Int) (y7:(List (List tV))×Int) (y8:(List (List tV))×Int) (y9:(Int×tL×List Int)×List (tV×Int)) (y10 y11:Bool×Int) (y12 y13 y14 y15:Bool) (y16 y17:Bool×Int) (n:Nat) (q21:Int):Option Bool :=
  AH (X:=Int) (fun L x=>QF K a0 y1 y2 y3 y4 y5 y6 y7 y8 y9 y10 y11 y12 y13 y14 y15 y16 y17 (fun v0=>L v0) x) n q21
def Al3 (a0:List Int) (I20:Bool→(Int×tL×(List tM)×(List (tV×Int))×Int)→((Int×tL×List Int)×Int)→((Int×tL×List Int)×Int)→tL→tL→((List (List tV))×Int)→((List (List tV))×Int)→((Int×tL×List Int)×List (tV×Int))→(Bool×Int)→(Bool×Int)→Bool→Bool→Bool→Bool→(Bool×Int)→(Bool×Int)→Int→Option Bool):Option Bool :=
  (AlJ K a0).bind fun y1=>(bif y1 then some true else (AgD K a0).bind fun y2=>(AcS K y2.1 y2.2.1 y2.2.2.1 y2.2.2.2.1 y2.2.2.2.2).bind fun y3=>(AcZ K y2.1 y2.2.1 y2.2.2.1 y2.2.2.2.1 y2.2.2.2.2).bind fun y4=>(Ag1 K y2.1 y2.2.1 y2.2.2.1 y2.2.2.2.1).bind fun y5=>(Ag2 K y2.1 y2.2.1 y2.2.2.1 y2.2.2.2.1).bind fun y6=>(Ag6 K y2.1 y2.2.1 y2.2.2.1 y2.2.2.2.1).bind fun y7=>(Ac4 K y2.1 y2.2.1 y2.2.2.1 y2.2.2.2.1).bind fun y8=>(Ahb K a0).bind fun y9=>(Adc K y9.1 y9.2).bind fun y10=>(Ade K y9.1 y9.2).bind fun y11=>((bif (!(y3.2 != y4.2)) then Ahg K y3.1 y4.1 else some false)).bind fun y12=>((bif (!(bif (bif (bif (bif (bif (y3.2 != y4.2) then true else (!y12)) then true else (y5.2.2 != y6.2.2)) then true else (y5.1 != y6.1)) then true else (y5.2.1 != y6.2.1)) then true else (y7.2 != y8.2))) then Adk K y7.1 y8.1 else some false)).bind fun y13=>((bif (!(bif (bif (bif (bif (bif (bif (bif (bif (y3.2 != y4.2) then true else (!y12)) then true else (y5.2.2 != y6.2.2)) then true else (y5.1 != y6.1)) then true else (y5.2.1 != y6.2.1)) then true else (y7.2 != y8.2)) then true else (!y13)) then true else (y10.2 != y11.2)) then true else (y10.1 != y11.1))) then Z9 K y9.2 else some false)).bind fun y14=>((bif (!(bif (bif (bif (bif (bif (bif (bif (bif (y3.2 != y4.2) then true else (!y12)) then true else (y5.2.2 != y6.2.2)) then true else (y5.1 != y6.1)) then true else (y5.2.1 != y6.2.1)) then true else (y7.2 != y8.2)) then true else (!y13)) then true else (y10.2 != y11.2)) then true else (y10.1 != y11.1))) then Vl K y9.2 else some false)).bind fun y15=>(bif (bif (bif (bif (bif (bif (bif (bif (bif (bif (y3.2 != y4.2) then true else (!y12)) then true else (y5.2.2 != y6.2.2)) then true else (y5.1 != y6.1)) then true else (y5.2.1 != y6.2.1)) then true else (y7.2 != y8.2)) then true else (!y13)) then true else (y10.2 != y11.2)) then true else (y10.1 != y11.1)) then true else (y14 != y15)) then some false else (bif ((decide (0≤y5.1)&&decide (y5.1<(y2.2.2.2.1.length:Int)))||(!(y5.2.2==(0:Int)))) then (bif ((decide (0≤y5.2.1)&&decide (y5.2.1<(y2.2.2.2.1.length:Int)))||(!(y5.2.2==(0:Int)))) then (bif (bif (y5.2.2==(0:Int)) then (bif ((y2.2.2.2.1.getD ((0:Int)+y5.1).toNat (((0:Int),(0:Int)),(0:Int))).2==(y2.2.2.2.1.getD ((0:Int)+y5.2.1).toNat (((0:Int),(0:Int)),(0:Int))).2) then true else (decide (y5.1≥y5.2.1))) else false) then some false else (bif (y3.2==(5:Int)) then some (y5.2.2==(0:Int)) else (bif (y3.2 != (0:Int)) then some true else (Adc K y3.1 y2.2.2.2.1).bind fun y16=>(Ahl K y3.1 y2.2.2.1).bind fun y17=>I20 y1 y2 y3 y4 y5 y6 y7 y8 y9 y10 y11 y12 y13 y14 y15 y16 y17 (0:Int)))) else none) else none)))
def f6G (a0:List Int):Option Bool :=
  Al3 K a0 (fun c0 c1 c2 c3 c4 c5 c6 c7 c8 c9 c10 c11 c12 c13 c14 c15 c16 d0=>Vx K a0 c0 c1 c2 c3 c4 c5 c6 c7 c8 c9 c10 c11 c12 c13 c14 c15 c16 K d0)
def f6M:Mdl:=⟨[(.ro,(.list 5 (.int .u8)))],[.bool],fun x=>f6G K x.1⟩
def Al4 (a0:List Int) (lr:LR Bool):Ex→Fr→Option Bool :=
  Aw (f6E K) 1 lr f6C [1,1,1,1,1,1,1,1,1,1,1,1,1,1,1,1,1,1,0,1,0] (fM (f6E K) Tryz.f6 (f6M K) (a0,()))
def Adm (a0:List Int) (lr:LR Bool) (y1:Bool) (y2:Int×tL×(List tM)×(List (tV×Int))×Int) (y3 y4:(Int×tL×List Int)×Int) (y5 y6:Int×Int×Int) (y7:(List (List tV))×Int) (y8:(List (List tV))×Int) (y9:(Int×tL×List Int)×List (tV×Int)) (y10 y11:Bool×Int) (y12 y13 y14 y15:Bool) (y16 y17:Bool×Int) (bq21:Int):Option Bool :=
  lr (AF f6C [1,1,1,1,1,1,1,1,1,1,1,1,1,1,1,1,1,1,0,1,0,0]) (WS a0 y1 y2 y3 y4 y5 y6 y7 y8 y9 y10 y11 y12 y13 y14 y15 y16 y17 bq21) (Al4 K a0 lr)
end
end Go.Proofs.YteheolldcpjkcaaGreat.X
