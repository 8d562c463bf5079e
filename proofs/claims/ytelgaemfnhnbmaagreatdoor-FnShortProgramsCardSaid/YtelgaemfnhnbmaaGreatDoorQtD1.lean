/- Functions of the program as plain Lean functions, and that the program does what they say. Printed by gen.py. -/
import Derived.Test.YtelgaemfnhnbmaaGreatDoorQtD0
namespace Go.Proofs.YtelgaemfnhnbmaaGreatDoor.X
open Go
set_option maxRecDepth 100000
attribute [local instance] cwD
set_option linter.unusedVariables false
noncomputable section
variable (K:Nat)
include K
def f66E:Env:=eE K [(120,f120M K)] [0,1,2,3,8,9,13,23]
def f66_b3 (a0:List Int) (a1 a2 a3:Int) (L3:Int→Option Bool) (q4:Int):Option Bool :=
  (bif (decide (q4<(a0.length:Int))) then (bif (decide (0≤q4)&&decide (q4<(a0.length:Int))) then (f120G K (a0.getD ((0:Int)+q4).toNat (0:Int)) a2 a3).bind fun y5=>(bif (!y5) then some false else L3 (w (q4+(1:Int)))) else none) else some (decide ((a0.length:Int)≤a1)))
def f66_l3 (a0:List Int) (a1 a2 a3:Int) (n:Nat) (q4:Int):Option Bool :=
  iter (X:=Int) (fun L x=>f66_b3 K a0 a1 a2 a3 (fun v0=>L v0) x) n q4
def f66_g (K:Nat) (a0:List Int) (a1 a2 a3:Int) (I3:Int→Option Bool):Option Bool :=
  I3 (0:Int)
def f66G (a0:List Int) (a1 a2 a3:Int):Option Bool :=
  f66_g K a0 a1 a2 a3 (fun d0=>f66_l3 K a0 a1 a2 a3 K d0)
def f66M:Mdl:=⟨[(.ro,(.list 2 sI)),(.ro,sI),(.ro,sI),(.ro,sI)],[.bool],fun x=>f66G K x.1 x.2.1 x.2.2.1 x.2.2.2.1⟩
def f66_k3 (a0:List Int) (a1 a2 a3:Int) (lr:LR Bool):Ex→Fr→Option Bool :=
  contC (f66E K) 1 lr f66C [1,0,1,0] (fM (f66E K) Tryz.f66 (f66M K) (a0,a1,a2,a3,()))
def f66_j3 (a0:List Int) (a1 a2 a3:Int) (lr:LR Bool) (bq4:Int):Option Bool :=
  lr (selC f66C [1,0,1,0,0]) (f66_fr3 a0 a1 a2 a3 bq4) (f66_k3 K a0 a1 a2 a3 lr)
def f24E:Env:=eE K [(65,f65M K),(66,f66M K)] [0,1,2]
def f24G (a0:Int×tL×List Int):Option Bool :=
  (f65G K a0.1 a0.2.1).bind fun y1=>((bif (bif (y1==(0:Int)) then ((a0.2.2.length:Int)==(w (a0.2.1.1*a0.2.1.2.2))) else false) then f66G K a0.2.2 (64:Int) (0:Int) (9:Int) else some false)).bind fun y2=>some (bif (bif (y1==(0:Int)) then ((a0.2.2.length:Int)==(w (a0.2.1.1*a0.2.1.2.2))) else false) then y2 else false)
def f24M:Mdl:=⟨[(.ro,(.cons sI (.cons sL (.list 2 sI))))],[.bool],fun x=>f24G K x.1⟩
def f33E:Env:=eE K [(82,f82M K)] [0,1,2,3,4]
def f33G (a0:Int×tL×List Int) (a1:Int×Int):Option Int :=
  (f82G K a0.2.1 a1).bind fun y1=>(bif (decide (0≤y1)&&decide (y1<(a0.2.2.length:Int))) then some (a0.2.2.getD ((0:Int)+y1).toNat (0:Int)) else none)
def f33M:Mdl:=⟨[(.ro,(.cons sI (.cons sL (.list 2 sI)))),(.ro,sV)],[sI],fun x=>f33G K x.1 x.2.1⟩
def f71E:Env:=eE K [(33,f33M K),(70,f70M K),(125,f125M K)] [0,1,2,3,4,5,6,13,30]
def f71_b6 (a0:Int×tL×List Int) (a1:tA×Int×Int) (y1:List tV) (L6:Int→Option Bool) (q7:Int):Option Bool :=
  (bif (decide (q7<(y1.length:Int))) then (bif (decide (0≤q7)&&decide (q7<(y1.length:Int))) then (f125G K a1 (y1.getD ((0:Int)+q7).toNat ((0:Int),(0:Int)))).bind fun y8=>(f33G K a0 y8).bind fun y9=>(bif (decide (0≤q7)&&decide (q7<(y1.length:Int))) then (f33G K a0 (y1.getD ((0:Int)+q7).toNat ((0:Int),(0:Int)))).bind fun y10=>(bif (y9 != y10) then some false else L6 (w (q7+(1:Int)))) else none) else none) else some true)
def f71_l6 (a0:Int×tL×List Int) (a1:tA×Int×Int) (y1:List tV) (n:Nat) (q7:Int):Option Bool :=
  iter (X:=Int) (fun L x=>f71_b6 K a0 a1 y1 (fun v0=>L v0) x) n q7
def f71_g (a0:Int×tL×List Int) (a1:tA×Int×Int) (I6:(List tV)→Int→Option Bool):Option Bool :=
  (f70G K a0.2.1).bind fun y1=>I6 y1 (0:Int)
def f71G (a0:Int×tL×List Int) (a1:tA×Int×Int):Option Bool :=
  f71_g K a0 a1 (fun c0 d0=>f71_l6 K a0 a1 c0 K d0)
def f71M:Mdl:=⟨[(.ro,(.cons sI (.cons sL (.list 2 sI)))),(.ro,sM)],[.bool],fun x=>f71G K x.1 x.2.1⟩
def f71_k6 (a0:Int×tL×List Int) (a1:tA×Int×Int) (lr:LR Bool):Ex→Fr→Option Bool :=
  contC (f71E K) 1 lr f71C [1,1,0,1,0] (fM (f71E K) Tryz.f71 (f71M K) (a0,a1,()))
def f71_j6 (a0:Int×tL×List Int) (a1:tA×Int×Int) (lr:LR Bool) (y1:List tV) (bq7:Int):Option Bool :=
  lr (selC f71C [1,1,0,1,0,0]) (f71_fr6 a0 a1 y1 bq7) (f71_k6 K a0 a1 lr)
def f68E:Env:=eE K [(70,f70M K),(71,f71M K),(73,f73M K),(121,f121M K),(122,f122M K)] [0,1,2,3,4,5,15,25]
def f68_b6 (a0:Int×tL×List Int) (y1:List tV) (L6:Int→(List tV)→Option tL) (q7:Int) (q8:List tV):Option tL :=
  (bif (decide (q7<(y1.length:Int))) then (f73G K).bind fun y9=>(bif (decide (0≤q7)&&decide (q7<(y1.length:Int))) then (f71G K a0 (y9,(y1.getD ((0:Int)+q7).toNat ((0:Int),(0:Int))))).bind fun y10=>(bif y10 then (bif (decide (0≤q7)&&decide (q7<(y1.length:Int))) then (bif (Nat.ble (q8.length+[(y1.getD ((0:Int)+q7).toNat ((0:Int),(0:Int)))].length) (lim 16)) then L6 (w (q7+(1:Int))) (q8++[(y1.getD ((0:Int)+q7).toNat ((0:Int),(0:Int)))]) else none) else none) else L6 (w (q7+(1:Int))) q8) else none) else (f122G K q8).bind fun y11=>some y11)
def f68_l6 (a0:Int×tL×List Int) (y1:List tV) (n:Nat) (q7:Int) (q8:List tV):Option tL :=
  iter (X:=Int×List tV) (fun L x=>f68_b6 K a0 y1 (fun v0 v1=>L (v0,v1)) x.1 x.2) n (q7,q8)
def f68_g (a0:Int×tL×List Int) (I6:(List tV)→Int→(List tV)→Option tL):Option tL :=
  (f70G K a0.2.1).bind fun y1=>(f121G K a0.2.1).bind fun y2=>I6 y1 (0:Int) y2
def f68G (a0:Int×tL×List Int):Option tL :=
  f68_g K a0 (fun c0 d0 d1=>f68_l6 K a0 c0 K d0 d1)
def f68M:Mdl:=⟨[(.ro,(.cons sI (.cons sL (.list 2 sI))))],[sL],fun x=>f68G K x.1⟩
def f68_k6 (a0:Int×tL×List Int) (lr:LR tL):Ex→Fr→Option tL :=
  contC (f68E K) 1 lr f68C [1,1,1,0,1,0] (fM (f68E K) Tryz.f68 (f68M K) (a0,()))
def f68_j6 (a0:Int×tL×List Int) (lr:LR tL) (y1:List tV) (bq7:Int) (bq8:List tV):Option tL :=
  lr (selC f68C [1,1,1,0,1,0,0]) (f68_fr6 a0 y1 bq7 bq8) (f68_k6 K a0 lr)
def f67E:Env:=eE K [(33,f33M K),(70,f70M K)] [0,1,2,3,4,5,6,7,18]
def f67_b4 (a0:Int×tL×List Int) (a1:Int×Int×Int) (y1:List tV) (L4:Int→(List Int)→Option (Int×tL×List Int)) (q5:Int) (q6:List Int):Option (Int×tL×List Int) :=
  (bif (decide (q5<(y1.length:Int))) then (bif (decide (0≤q5)&&decide (q5<(y1.length:Int))) then (f33G K a0 (y1.getD ((0:Int)+q5).toNat ((0:Int),(0:Int)))).bind fun y7=>(bif (Nat.ble (q6.length+[y7].length) (lim 8)) then L4 (w (q5+(1:Int))) (q6++[y7]) else none) else none) else some (a0.1,a1,q6))
def f67_l4 (a0:Int×tL×List Int) (a1:Int×Int×Int) (y1:List tV) (n:Nat) (q5:Int) (q6:List Int):Option (Int×tL×List Int) :=
  iter (X:=Int×List Int) (fun L x=>f67_b4 K a0 a1 y1 (fun v0 v1=>L (v0,v1)) x.1 x.2) n (q5,q6)
def f67_g (a0:Int×tL×List Int) (a1:Int×Int×Int) (I4:(List tV)→Int→(List Int)→Option (Int×tL×List Int)):Option (Int×tL×List Int) :=
  (f70G K a1).bind fun y1=>I4 y1 (0:Int) []
def f67G (a0:Int×tL×List Int) (a1:Int×Int×Int):Option (Int×tL×List Int) :=
  f67_g K a0 a1 (fun c0 d0 d1=>f67_l4 K a0 a1 c0 K d0 d1)
def f67M:Mdl:=⟨[(.ro,(.cons sI (.cons sL (.list 2 sI)))),(.ro,sL)],[(.cons sI (.cons sL (.list 2 sI)))],fun x=>f67G K x.1 x.2.1⟩
def f67_k4 (a0:Int×tL×List Int) (a1:Int×Int×Int) (lr:LR (Int×tL×List Int)):Ex→Fr→Option (Int×tL×List Int) :=
  contC (f67E K) 1 lr f67C [1,1,1,0,1,0] (fM (f67E K) Tryz.f67 (f67M K) (a0,a1,()))
def f67_j4 (a0:Int×tL×List Int) (a1:Int×Int×Int) (lr:LR (Int×tL×List Int)) (y1:List tV) (bq5:Int) (bq6:List Int):Option (Int×tL×List Int) :=
  lr (selC f67C [1,1,1,0,1,0,0]) (f67_fr4 a0 a1 y1 bq5 bq6) (f67_k4 K a0 a1 lr)
def f25E:Env:=eE K [(67,f67M K),(68,f68M K)] [0,1,2]
def f25G (a0:Int×tL×List Int):Option (Int×tL×List Int) :=
  (f68G K a0).bind fun y1=>(f67G K a0 y1).bind fun y2=>some y2
def f25M:Mdl:=⟨[(.ro,(.cons sI (.cons sL (.list 2 sI))))],[(.cons sI (.cons sL (.list 2 sI)))],fun x=>f25G K x.1⟩
def f26E:Env:=eE K [(69,f69M K),(70,f70M K),(71,f71M K)] [0,1,2,3,4,5,6,7,8,21,27,41]
def f26_b13 (a0:Int×tL×List Int) (q11:Int) (y1:List tA) (y2:List tV) (L10 L13:Int→(List tM)→Option (List tM)) (q14:Int) (q15:List tM):Option (List tM) :=
  (bif (decide (q14<(y2.length:Int))) then (bif (decide (0≤q11)&&decide (q11<(y1.length:Int))) then (bif (decide (0≤q14)&&decide (q14<(y2.length:Int))) then (f71G K a0 (((y1.getD ((0:Int)+q11).toNat zA).1,((y1.getD ((0:Int)+q11).toNat zA).2).1,(((y1.getD ((0:Int)+q11).toNat zA).2).2)),(y2.getD ((0:Int)+q14).toNat ((0:Int),(0:Int))))).bind fun y16=>(bif y16 then (bif (Nat.ble (q15.length+[(((y1.getD ((0:Int)+q11).toNat zA).1,((y1.getD ((0:Int)+q11).toNat zA).2).1,(((y1.getD ((0:Int)+q11).toNat zA).2).2)),(y2.getD ((0:Int)+q14).toNat ((0:Int),(0:Int))))].length) (lim 48)) then L13 (w (q14+(1:Int))) (q15++[(((y1.getD ((0:Int)+q11).toNat zA).1,((y1.getD ((0:Int)+q11).toNat zA).2).1,(((y1.getD ((0:Int)+q11).toNat zA).2).2)),(y2.getD ((0:Int)+q14).toNat ((0:Int),(0:Int))))]) else none) else L13 (w (q14+(1:Int))) q15) else none) else none) else L10 (w (q11+(1:Int))) q15)
def f26_l13 (a0:Int×tL×List Int) (q11:Int) (y1:List tA) (y2:List tV) (L10:Int→(List tM)→Option (List tM)) (n:Nat) (q14:Int) (q15:List tM):Option (List tM) :=
  iter (X:=Int×List tM) (fun L x=>f26_b13 K a0 q11 y1 y2 L10 (fun v0 v1=>L (v0,v1)) x.1 x.2) n (q14,q15)
def f26_b10 (K:Nat) (a0:Int×tL×List Int) (y1:List tA) (y2:List tV) (I13:Int→Int→(List tM)→Option (List tM)) (L10:Int→(List tM)→Option (List tM)) (q11:Int) (q12:List tM):Option (List tM) :=
  (bif (decide (q11<(y1.length:Int))) then I13 q11 (0:Int) q12 else some q12)
def f26_l10 (a0:Int×tL×List Int) (y1:List tA) (y2:List tV) (n:Nat) (q11:Int) (q12:List tM):Option (List tM) :=
  iter (X:=Int×List tM) (fun L x=>(fun L10=>f26_b10 K a0 y1 y2 (fun c0 d0 d1=>f26_l13 K a0 c0 y1 y2 L10 K d0 d1) L10 x.1 x.2) (fun v0 v1=>L (v0,v1))) n (q11,q12)
def f26_g (a0:Int×tL×List Int) (I10:(List tA)→(List tV)→Int→(List tM)→Option (List tM)):Option (List tM) :=
  (f69G K a0.1 a0.2.1).bind fun y1=>(f70G K a0.2.1).bind fun y2=>I10 y1 y2 (0:Int) []
def f26G (a0:Int×tL×List Int):Option (List tM) :=
  f26_g K a0 (fun c0 c1 d0 d1=>f26_l10 K a0 c0 c1 K d0 d1)
def f26M:Mdl:=⟨[(.ro,(.cons sI (.cons sL (.list 2 sI))))],[(.list 52 sM)],fun x=>f26G K x.1⟩
def f26_k10 (a0:Int×tL×List Int) (lr:LR (List tM)):Ex→Fr→Option (List tM) :=
  contC (f26E K) 1 lr f26C [1,1,1,0,1,0] (fM (f26E K) Tryz.f26 (f26M K) (a0,()))
def f26_j10 (a0:Int×tL×List Int) (lr:LR (List tM)) (y1:List tA) (y2:List tV) (bq11:Int) (bq12:List tM):Option (List tM) :=
  lr (selC f26C [1,1,1,0,1,0,0]) (f26_fr10 a0 y1 y2 bq11 bq12) (f26_k10 K a0 lr)
def f26_k13 (a0:Int×tL×List Int) (y1:List tA) (y2:List tV) (F10:Fr→Option (List tM)) (bq11:Int) (bq12:List tM) (lr:LR (List tM)):Ex→Fr→Option (List tM) :=
  contC (f26E K) 1 lr (selC f26C [1,1,1,0,1,0,0]) [1,0,0,1,0] (loopK 1 (f26_fr10 a0 y1 y2 bq11 bq12) F10 (f26_k10 K a0 lr))
def f26_j13 (a0:Int×tL×List Int) (y1:List tA) (y2:List tV) (F10:Fr→Option (List tM)) (bq11:Int) (bq12:List tM) (lr:LR (List tM)) (q11 bq14:Int) (bq15:List tM):Option (List tM) :=
  lr (selC f26C [1,1,1,0,1,0,0,1,0,0,1,0,0]) (f26_fr13 a0 q11 y1 y2 bq14 bq15) (f26_k13 K a0 y1 y2 F10 bq11 bq12 lr)
omit K
def f83E (K:Nat) (rec:Int→Option ByteArray):Env:=⟨[(83,⟨[(.ro,sI)],[.str],fun x=>rec x.1⟩)],tys,eqs,mts,K,[0,2,4],[],[],[],[],[],[],false⟩
def f83_s (K:Nat) (rec:Int→Option ByteArray) (a0:Int):Option ByteArray :=
  (bif (decide (a0<(10:Int))) then some (strOfNums [(IntKind.u8.wrap (w ((48:Int)+a0)))]) else (rec (w (a0.tdiv (10:Int)))).bind fun y1=>(bif (Nat.ble (y1.size+(strOfNums [(IntKind.u8.wrap (w ((48:Int)+(a0.tmod (10:Int)))))]).size) 9223372036854775807) then some (y1++(strOfNums [(IntKind.u8.wrap (w ((48:Int)+(a0.tmod (10:Int)))))])) else none))
def f83R (K:Nat):Nat→Int→Option ByteArray
  | 0=>fun _=>none
  | n+1=>fun a0=>f83_s K (f83R K n) a0
def f83G (K:Nat) (a0:Int):Option ByteArray:=f83R K K a0
def f83M (K:Nat):Mdl:=⟨[(.ro,sI)],[.str],fun x=>f83G K x.1⟩
include K
def f136E:Env:=eE K [(83,f83M K)] [0,2,4]
def f136G (a0:Int):Option ByteArray :=
  (bif (decide (a0<(0:Int))) then (f83G K (w (0-a0))).bind fun y1=>(bif (Nat.ble ((bs [45]).size+y1.size) 9223372036854775807) then some ((bs [45])++y1) else none) else (f83G K a0).bind fun y2=>some y2)
def f136M:Mdl:=⟨[(.ro,sI)],[.str],fun x=>f136G K x.1⟩
def f126E:Env:=eE K [(136,f136M K)] [0,1,4,5,6,10,14]
def f126_b3 (a0:List Int) (a1:ByteArray) (L3:ByteArray→Int→Option ByteArray) (q4:ByteArray) (q5:Int):Option ByteArray :=
  (bif (decide (q5<(a0.length:Int))) then (bif (decide (q5>(0:Int))) then (bif (Nat.ble (q4.size+a1.size) 9223372036854775807) then (bif (decide (0≤q5)&&decide (q5<(a0.length:Int))) then (f136G K (a0.getD ((0:Int)+q5).toNat (0:Int))).bind fun y6=>(bif (Nat.ble ((q4++a1).size+y6.size) 9223372036854775807) then L3 ((q4++a1)++y6) (w (q5+(1:Int))) else none) else none) else none) else (bif (decide (0≤q5)&&decide (q5<(a0.length:Int))) then (f136G K (a0.getD ((0:Int)+q5).toNat (0:Int))).bind fun y7=>(bif (Nat.ble (q4.size+y7.size) 9223372036854775807) then L3 (q4++y7) (w (q5+(1:Int))) else none) else none)) else some q4)
def f126_l3 (a0:List Int) (a1:ByteArray) (n:Nat) (q4:ByteArray) (q5:Int):Option ByteArray :=
  iter (X:=ByteArray×Int) (fun L x=>f126_b3 K a0 a1 (fun v0 v1=>L (v0,v1)) x.1 x.2) n (q4,q5)
def f126_g (K:Nat) (a0:List Int) (a1:ByteArray) (I3:ByteArray→Int→Option ByteArray):Option ByteArray :=
  I3 ByteArray.empty (0:Int)
def f126G (a0:List Int) (a1:ByteArray):Option ByteArray :=
  f126_g K a0 a1 (fun d0 d1=>f126_l3 K a0 a1 K d0 d1)
def f126M:Mdl:=⟨[(.ro,(.list 2 sI)),(.ro,.str)],[.str],fun x=>f126G K x.1 x.2.1⟩
def f126_k3 (a0:List Int) (a1:ByteArray) (lr:LR ByteArray):Ex→Fr→Option ByteArray :=
  contC (f126E K) 1 lr f126C [1,1,0,1,0] (fM (f126E K) Tryz.f126 (f126M K) (a0,a1,()))
def f126_j3 (a0:List Int) (a1:ByteArray) (lr:LR ByteArray) (bq4:ByteArray) (bq5:Int):Option ByteArray :=
  lr (selC f126C [1,1,0,1,0,0]) (f126_fr3 a0 a1 bq4 bq5) (f126_k3 K a0 a1 lr)
def f72E:Env:=eE K [(119,f119M K),(126,f126M K)] [0,1,2,5]
def f72G (a0:Int×Int×Int):Option ByteArray :=
  (f119G K a0).bind fun y1=>(bif (!y1) then some ByteArray.empty else (f126G K [a0.1,a0.2.1,a0.2.2] (bs [44])).bind fun y2=>some y2)
def f72M:Mdl:=⟨[(.ro,sL)],[.str],fun x=>f72G K x.1⟩
def f27E:Env:=eE K [(72,f72M K)] [0,1,2]
def f27G (a0:Int×tL×List Int):Option ByteArray :=
  (bif (decide (0≤a0.1)&&decide (a0.1≤(w (a0.1+(1:Int))))&&decide ((w (a0.1+(1:Int)))≤((bs [83,72]).size:Int))) then (bif (Nat.ble ((bs [102,114,97,109,101,32]).size+((bs [83,72]).extract a0.1.toNat (w (a0.1+(1:Int))).toNat).size) 9223372036854775807) then (bif (Nat.ble (((bs [102,114,97,109,101,32])++((bs [83,72]).extract a0.1.toNat (w (a0.1+(1:Int))).toNat)).size+(bs [10,108,97,116,116,105,99,101,32]).size) 9223372036854775807) then (f72G K a0.2.1).bind fun y1=>(bif (Nat.ble ((((bs [102,114,97,109,101,32])++((bs [83,72]).extract a0.1.toNat (w (a0.1+(1:Int))).toNat))++(bs [10,108,97,116,116,105,99,101,32])).size+y1.size) 9223372036854775807) then (bif (Nat.ble (((((bs [102,114,97,109,101,32])++((bs [83,72]).extract a0.1.toNat (w (a0.1+(1:Int))).toNat))++(bs [10,108,97,116,116,105,99,101,32]))++y1).size+(bs [10]).size) 9223372036854775807) then some (((((bs [102,114,97,109,101,32])++((bs [83,72]).extract a0.1.toNat (w (a0.1+(1:Int))).toNat))++(bs [10,108,97,116,116,105,99,101,32]))++y1)++(bs [10])) else none) else none) else none) else none) else none)
def f27M:Mdl:=⟨[(.ro,(.cons sI (.cons sL (.list 2 sI))))],[.str],fun x=>f27G K x.1⟩
def f134E:Env:=eE K [(120,f120M K)] [0,1,2]
def f134G (a0:Int×Int):Option Bool :=
  (f120G K a0.1 (-1000:Int) (1000:Int)).bind fun y1=>((bif y1 then f120G K a0.2 (-1000:Int) (1000:Int) else some false)).bind fun y2=>some (bif y1 then y2 else false)
def f134M:Mdl:=⟨[(.ro,sV)],[.bool],fun x=>f134G K x.1⟩
def f187E:Env:=eE K [(134,f134M K)] [0,1,2]
def f187G (a0:Int×Int×Int×Int):Option Bool :=
  (f134G K (a0.1,a0.2.1)).bind fun y1=>((bif y1 then f134G K a0.2.2 else some false)).bind fun y2=>some (bif y1 then y2 else false)
def f187M:Mdl:=⟨[(.ro,sA)],[.bool],fun x=>f187G K x.1⟩
def f188E:Env:=eE K [] [0,1,2]
def f188G (K:Nat) (a0:Int×Int×Int×Int):Option Int :=
  some (w ((w (a0.1*a0.2.2.2))-(w (a0.2.1*a0.2.2.1))))
def f188M:Mdl:=⟨[(.ro,sA)],[sI],fun x=>f188G K x.1⟩
def f132E:Env:=eE K [(187,f187M K),(188,f188M K)] [0,1,2]
def f132G (a0:Int×Int×Int×Int):Option Bool :=
  (f187G K a0).bind fun y1=>((bif y1 then f188G K a0 else some (0:Int))).bind fun y2=>((bif (y1&&(!(y2==(1:Int)))) then f188G K a0 else some (0:Int))).bind fun y3=>some (bif y1 then (bif (y2==(1:Int)) then true else (y3==(-1:Int))) else false)
def f132M:Mdl:=⟨[(.ro,sA)],[.bool],fun x=>f132G K x.1⟩
def f189E:Env:=eE K [(73,f73M K),(129,f129M K),(187,f187M K)] [0,1,2,3,4,7,15,18]
def f189_b6 (a0:Int×Int×Int×Int) (L6:Int→Int→Int→Int→Int→Option Int) (q7 q8 q9 q10 q11:Int):Option Int :=
  (bif (decide (q7≤(6:Int))) then (f129G K a0 (q8,q9,q10,q11)).bind fun y12=>(f187G K y12).bind fun y13=>(bif (!y13) then some (0:Int) else (f73G K).bind fun y14=>(bif ((y12.1==y14.1)&&((y12.2.1==y14.2.1)&&((y12.2.2.1==y14.2.2.1)&&(y12.2.2.2==y14.2.2.2)))) then some q7 else L6 (w (q7+(1:Int))) y12.1 y12.2.1 y12.2.2.1 y12.2.2.2)) else some (0:Int))
def f189_l6 (a0:Int×Int×Int×Int) (n:Nat) (q7 q8 q9 q10 q11:Int):Option Int :=
  iter (X:=Int×Int×Int×Int×Int) (fun L x=>f189_b6 K a0 (fun v0 v1 v2 v3 v4=>L (v0,v1,v2,v3,v4)) x.1 x.2.1 x.2.2.1 x.2.2.2.1 x.2.2.2.2) n (q7,q8,q9,q10,q11)
def f189_g (a0:Int×Int×Int×Int) (I6:Int→Int→Int→Int→Int→Option Int):Option Int :=
  (f73G K).bind fun y1=>I6 (1:Int) y1.1 y1.2.1 y1.2.2.1 y1.2.2.2
def f189G (a0:Int×Int×Int×Int):Option Int :=
  f189_g K a0 (fun d0 d1 d2 d3 d4=>f189_l6 K a0 K d0 d1 d2 d3 d4)
def f189M:Mdl:=⟨[(.ro,sA)],[sI],fun x=>f189G K x.1⟩
def f189_k6 (a0:Int×Int×Int×Int) (lr:LR Int):Ex→Fr→Option Int :=
  contC (f189E K) 0 lr f189C [1,1,0,1,0] (fM (f189E K) Tryz.f189 (f189M K) (a0,()))
def f189_j6 (a0:Int×Int×Int×Int) (lr:LR Int) (bq7 bq8 bq9 bq10 bq11:Int):Option Int :=
  lr (selC f189C [1,1,0,1,0,0]) (f189_fr6 a0 bq7 bq8 bq9 bq10 bq11) (f189_k6 K a0 lr)
def f133E:Env:=eE K [(188,f188M K),(189,f189M K)] [0,1,2,3,9]
def f133G (a0:Int×Int×Int×Int):Option Int :=
  (f188G K a0).bind fun y1=>(bif (y1==(1:Int)) then (f189G K a0).bind fun y2=>some y2 else (f189G K a0).bind fun y3=>(bif (y3==(2:Int)) then some (-2:Int) else some (0:Int)))
def f133M:Mdl:=⟨[(.ro,sA)],[sI],fun x=>f133G K x.1⟩
def f78E:Env:=eE K [(132,f132M K),(133,f133M K),(134,f134M K)] [0,1,2]
def f78G (a0:tA×Int×Int):Option Bool :=
  (f132G K a0.1).bind fun y1=>((bif y1 then f133G K a0.1 else some (0:Int))).bind fun y2=>((bif (bif y1 then (y2 != (0:Int)) else false) then f134G K a0.2 else some false)).bind fun y3=>some (bif (bif y1 then (y2 != (0:Int)) else false) then y3 else false)
def f78M:Mdl:=⟨[(.ro,sM)],[.bool],fun x=>f78G K x.1⟩
def f79E:Env:=eE K [(126,f126M K),(132,f132M K),(135,f135M K)] [0,1,2,5]
def f79G (a0:Int×Int×Int×Int):Option ByteArray :=
  (f132G K a0).bind fun y1=>(bif (!y1) then some ByteArray.empty else (f135G K a0).bind fun y2=>(f126G K y2 (bs [44])).bind fun y3=>some y3)
def f79M:Mdl:=⟨[(.ro,sA)],[.str],fun x=>f79G K x.1⟩
def f80E:Env:=eE K [(134,f134M K),(136,f136M K)] [0,1,2,5]
def f80G (a0:Int×Int):Option ByteArray :=
  (f134G K a0).bind fun y1=>(bif (!y1) then some ByteArray.empty else (f136G K a0.1).bind fun y2=>(bif (Nat.ble (y2.size+(bs [44]).size) 9223372036854775807) then (f136G K a0.2).bind fun y3=>(bif (Nat.ble ((y2++(bs [44])).size+y3.size) 9223372036854775807) then some ((y2++(bs [44]))++y3) else none) else none))
def f80M:Mdl:=⟨[(.ro,sV)],[.str],fun x=>f80G K x.1⟩
def f31E:Env:=eE K [(78,f78M K),(79,f79M K),(80,f80M K)] [0,1,2,5]
def f31G (a0:tA×Int×Int):Option ByteArray :=
  (f78G K a0).bind fun y1=>(bif (!y1) then some ByteArray.empty else (f79G K a0.1).bind fun y2=>(bif (Nat.ble (y2.size+(bs [59]).size) 9223372036854775807) then (f80G K a0.2).bind fun y3=>(bif (Nat.ble ((y2++(bs [59])).size+y3.size) 9223372036854775807) then some ((y2++(bs [59]))++y3) else none) else none))
def f31M:Mdl:=⟨[(.ro,sM)],[.str],fun x=>f31G K x.1⟩
def f34E:Env:=eE K [(80,f80M K),(83,f83M K)] [0,1,2,4]
def f34G (a0:Int×Int) (a1:Int):Option ByteArray :=
  (f80G K a0).bind fun y1=>(bif (Nat.ble ((bs [109,97,114,107,32]).size+y1.size) 9223372036854775807) then (bif (Nat.ble (((bs [109,97,114,107,32])++y1).size+(bs [32]).size) 9223372036854775807) then (f83G K a1).bind fun y2=>(bif (Nat.ble ((((bs [109,97,114,107,32])++y1)++(bs [32])).size+y2.size) 9223372036854775807) then (bif (Nat.ble (((((bs [109,97,114,107,32])++y1)++(bs [32]))++y2).size+(bs [10]).size) 9223372036854775807) then some (((((bs [109,97,114,107,32])++y1)++(bs [32]))++y2)++(bs [10])) else none) else none) else none) else none)
def f34M:Mdl:=⟨[(.ro,sV),(.ro,sI)],[.str],fun x=>f34G K x.1 x.2.1⟩
def f7E:Env:=eE K [(24,f24M K),(25,f25M K),(26,f26M K),(27,f27M K),(28,f28M K),(29,f29M K),(30,f30M K),(31,f31M K),(32,f32M K),(33,f33M K),(34,f34M K)] [0,1,2,3,4,5,6,7,8,9,10,11,12,13,16,29,38,66,78,97]
def f7_b22 (a0:Int×tL×List Int) (q12:Int) (q13 q14:List tM) (y1:Bool) (y2:Int×tL×List Int) (y3:List tM) (y18:List (List tV)) (L22:ByteArray→Int→Int→Option (ByteArray×Int)) (q23:ByteArray) (q24 q25:Int):Option (ByteArray×Int) :=
  (bif (decide (q25<(y18.length:Int))) then (bif (decide (0≤q25)&&decide (q25<(y18.length:Int))) then (bif (decide (0≤(0:Int))&&decide ((0:Int)<((y18.getD ((0:Int)+q25).toNat []).length:Int))) then (f33G K y2 ((y18.getD ((0:Int)+q25).toNat []).getD ((0:Int)+(0:Int)).toNat ((0:Int),(0:Int)))).bind fun y26=>(bif (decide (y26>(0:Int))) then (bif (decide (0≤q25)&&decide (q25<(y18.length:Int))) then (bif (decide (0≤(0:Int))&&decide ((0:Int)<((y18.getD ((0:Int)+q25).toNat []).length:Int))) then (f34G K ((y18.getD ((0:Int)+q25).toNat []).getD ((0:Int)+(0:Int)).toNat ((0:Int),(0:Int))) y26).bind fun y27=>(bif (Nat.ble (q23.size+y27.size) 9223372036854775807) then L22 (q23++y27) (w (q24+(1:Int))) (w (q25+(1:Int))) else none) else none) else none) else L22 q23 q24 (w (q25+(1:Int)))) else none) else none) else (bif (bif (decide ((q13.length:Int)>(8:Int))) then true else (decide (q24>(40:Int)))) then some (ByteArray.empty,(3:Int)) else some (q23,(0:Int))))
def f7_l22 (a0:Int×tL×List Int) (q12:Int) (q13 q14:List tM) (y1:Bool) (y2:Int×tL×List Int) (y3:List tM) (y18:List (List tV)) (n:Nat) (q23:ByteArray) (q24 q25:Int):Option (ByteArray×Int) :=
  iter (X:=ByteArray×Int×Int) (fun L x=>f7_b22 K a0 q12 q13 q14 y1 y2 y3 y18 (fun v0 v1 v2=>L (v0,v1,v2)) x.1 x.2.1 x.2.2) n (q23,q24,q25)
def f7_b10 (a0:Int×tL×List Int) (y1:Bool) (y2:Int×tL×List Int) (y3:List tM) (I22:Int→(List tM)→(List tM)→Bool→(Int×tL×List Int)→(List tM)→(List (List tV))→ByteArray→Int→Int→Option (ByteArray×Int)) (L10:ByteArray→Int→(List tM)→(List tM)→Option (ByteArray×Int)) (q11:ByteArray) (q12:Int) (q13 q14:List tM):Option (ByteArray×Int) :=
  (bif (decide (q12<(y3.length:Int))) then (bif (decide (0≤q12)&&decide (q12<(y3.length:Int))) then (f29G K q14 ((((y3.getD ((0:Int)+q12).toNat zM).1).1,(((y3.getD ((0:Int)+q12).toNat zM).1).2).1,((((y3.getD ((0:Int)+q12).toNat zM).1).2).2)),((y3.getD ((0:Int)+q12).toNat zM).2))).bind fun y15=>(bif (!y15) then (bif (decide (0≤q12)&&decide (q12<(y3.length:Int))) then (bif (Nat.ble (q13.length+[((((y3.getD ((0:Int)+q12).toNat zM).1).1,(((y3.getD ((0:Int)+q12).toNat zM).1).2).1,((((y3.getD ((0:Int)+q12).toNat zM).1).2).2)),((y3.getD ((0:Int)+q12).toNat zM).2))].length) (lim 48)) then (f30G K y2.2.1 (q13++[((((y3.getD ((0:Int)+q12).toNat zM).1).1,(((y3.getD ((0:Int)+q12).toNat zM).1).2).1,((((y3.getD ((0:Int)+q12).toNat zM).1).2).2)),((y3.getD ((0:Int)+q12).toNat zM).2))])).bind fun y16=>(bif (Nat.ble (q11.size+(bs [109,111,116,105,111,110,32]).size) 9223372036854775807) then (bif (decide (0≤q12)&&decide (q12<(y3.length:Int))) then (f31G K ((((y3.getD ((0:Int)+q12).toNat zM).1).1,(((y3.getD ((0:Int)+q12).toNat zM).1).2).1,((((y3.getD ((0:Int)+q12).toNat zM).1).2).2)),((y3.getD ((0:Int)+q12).toNat zM).2))).bind fun y17=>(bif (Nat.ble ((q11++(bs [109,111,116,105,111,110,32])).size+y17.size) 9223372036854775807) then (bif (Nat.ble (((q11++(bs [109,111,116,105,111,110,32]))++y17).size+(bs [10]).size) 9223372036854775807) then L10 (((q11++(bs [109,111,116,105,111,110,32]))++y17)++(bs [10])) (w (q12+(1:Int))) (q13++[((((y3.getD ((0:Int)+q12).toNat zM).1).1,(((y3.getD ((0:Int)+q12).toNat zM).1).2).1,((((y3.getD ((0:Int)+q12).toNat zM).1).2).2)),((y3.getD ((0:Int)+q12).toNat zM).2))]) y16 else none) else none) else none) else none) else none) else none) else L10 q11 (w (q12+(1:Int))) q13 q14) else none) else (f32G K y2.2.1 y3).bind fun y18=>I22 q12 q13 q14 y1 y2 y3 y18 q11 (0:Int) (0:Int))
def f7_l10 (a0:Int×tL×List Int) (y1:Bool) (y2:Int×tL×List Int) (y3:List tM) (n:Nat) (q11:ByteArray) (q12:Int) (q13 q14:List tM):Option (ByteArray×Int) :=
  iter (X:=ByteArray×Int×List tM×List tM) (fun L x=>f7_b10 K a0 y1 y2 y3 (fun c0 c1 c2 c3 c4 c5 c6 d0 d1 d2=>f7_l22 K a0 c0 c1 c2 c3 c4 c5 c6 K d0 d1 d2) (fun v0 v1 v2 v3=>L (v0,v1,v2,v3)) x.1 x.2.1 x.2.2.1 x.2.2.2) n (q11,q12,q13,q14)
def f7_g (a0:Int×tL×List Int) (I10:Bool→(Int×tL×List Int)→(List tM)→ByteArray→Int→(List tM)→(List tM)→Option (ByteArray×Int)):Option (ByteArray×Int) :=
  (f24G K a0).bind fun y1=>(bif (!y1) then some (ByteArray.empty,(1:Int)) else (f25G K a0).bind fun y2=>(f26G K y2).bind fun y3=>(f27G K y2).bind fun y4=>(f28G K).bind fun y5=>I10 y1 y2 y3 y4 (0:Int) [] [y5])
def f7G (a0:Int×tL×List Int):Option (ByteArray×Int) :=
  f7_g K a0 (fun c0 c1 c2 d0 d1 d2 d3=>f7_l10 K a0 c0 c1 c2 K d0 d1 d2 d3)
def f7M:Mdl:=⟨[(.ro,(.cons sI (.cons sL (.list 2 sI))))],[.str,sI],fun x=>f7G K x.1⟩
def f7_k10 (a0:Int×tL×List Int) (lr:LR (ByteArray×Int)):Ex→Fr→Option (ByteArray×Int) :=
  contC (f7E K) 1 lr f7C [1,1,1,1,1,0,1,0] (fM (f7E K) Tryz.f7 (f7M K) (a0,()))
def f7_j10 (a0:Int×tL×List Int) (lr:LR (ByteArray×Int)) (y1:Bool) (y2:Int×tL×List Int) (y3:List tM) (bq11:ByteArray) (bq12:Int) (bq13 bq14:List tM):Option (ByteArray×Int) :=
  lr (selC f7C [1,1,1,1,1,0,1,0,0]) (f7_fr10 a0 y1 y2 y3 bq11 bq12 bq13 bq14) (f7_k10 K a0 lr)
def f7_k22 (a0:Int×tL×List Int) (lr:LR (ByteArray×Int)):Ex→Fr→Option (ByteArray×Int) :=
  contC (f7E K) 1 lr f7C [1,1,1,1,1,1,1,1,0,1,0] (fM (f7E K) Tryz.f7 (f7M K) (a0,()))
def f7_j22 (a0:Int×tL×List Int) (lr:LR (ByteArray×Int)) (q12:Int) (q13 q14:List tM) (y1:Bool) (y2:Int×tL×List Int) (y3:List tM) (y18:List (List tV)) (bq23:ByteArray) (bq24 bq25:Int):Option (ByteArray×Int) :=
  lr (selC f7C [1,1,1,1,1,1,1,1,0,1,0,0]) (f7_fr22 a0 q12 q13 q14 y1 y2 y3 y18 bq23 bq24 bq25) (f7_k22 K a0 lr)
def f190E:Env:=eE K [] [0,1,4]
def f190G (K:Nat) (a0 a1:ByteArray):Option Bool :=
  (bif ((decide (0≤(w ((a0.size:Int)-(a1.size:Int))))&&decide ((w ((a0.size:Int)-(a1.size:Int)))≤(a0.size:Int))&&decide ((a0.size:Int)≤(a0.size:Int)))||(!(decide ((a0.size:Int)≥(a1.size:Int))))) then some (bif (decide ((a0.size:Int)≥(a1.size:Int))) then ((a0.extract (w ((a0.size:Int)-(a1.size:Int))).toNat (a0.size:Int).toNat)==a1) else false) else none)
def f190M:Mdl:=⟨[(.ro,.str),(.ro,.str)],[.bool],fun x=>f190G K x.1 x.2.1⟩
def f139E:Env:=eE K [(190,f190M K)] [0,1,4,5,9]
def f139G (a0 a1:ByteArray):Option (ByteArray×Bool) :=
  (f190G K a0 a1).bind fun y1=>(bif (!y1) then some (a0,false) else (bif (decide (0≤(0:Int))&&decide ((0:Int)≤(w ((a0.size:Int)-(a1.size:Int))))&&decide ((w ((a0.size:Int)-(a1.size:Int)))≤(a0.size:Int))) then some ((a0.extract 0 (w ((a0.size:Int)-(a1.size:Int))).toNat),true) else none))
def f139M:Mdl:=⟨[(.ro,.str),(.ro,.str)],[.str,.bool],fun x=>f139G K x.1 x.2.1⟩
def f84E:Env:=eE K [(139,f139M K)] [0,1,4,5]
def f84G (a0 a1:ByteArray):Option (ByteArray×Bool) :=
  (f139G K a0 a1).bind fun y1=>some y1
def f84M:Mdl:=⟨[(.ro,.str),(.ro,.str)],[.str,.bool],fun x=>f84G K x.1 x.2.1⟩
omit K
def f85G (K:Nat) (a0 a1:ByteArray):Option (List ByteArray):=splitF a0 a1
def f85M (K:Nat):Mdl:=⟨[(.ro,.str),(.ro,.str)],[(.list 9 .str)],fun x=>f85G K x.1 x.2.1⟩
include K
omit K
def f233G (K:Nat) (a0:ByteArray):Option (Int×Bool):=numF a0
def f233M (K:Nat):Mdl:=⟨[(.ro,.str)],[.int .i64,.bool],fun x=>f233G K x.1⟩
include K
def f195E:Env:=eE K [(85,f85M K),(233,f233M K)] [0,1,2,6,7,8,9,11,12,13,20,22,23,24,25,34]
def f195_b4 (a0 a1:ByteArray) (a2:Int) (y1:List ByteArray) (L4:Int→(List Int)→Option ((List Int)×Bool)) (q5:Int) (q6:List Int):Option ((List Int)×Bool) :=
  (bif (decide (q5<(y1.length:Int))) then (bif (decide (0≤q5)&&decide (q5<(y1.length:Int))) then (f233G K (y1.getD ((0:Int)+q5).toNat ByteArray.empty)).bind fun y7=>(bif (!y7.2) then some ([],false) else (bif (Nat.ble (q6.length+[y7.1].length) (lim 8)) then L4 (w (q5+(1:Int))) (q6++[y7.1]) else none)) else none) else some (q6,true))
def f195_l4 (a0 a1:ByteArray) (a2:Int) (y1:List ByteArray) (n:Nat) (q5:Int) (q6:List Int):Option ((List Int)×Bool) :=
  iter (X:=Int×List Int) (fun L x=>f195_b4 K a0 a1 a2 y1 (fun v0 v1=>L (v0,v1)) x.1 x.2) n (q5,q6)
def f195_g (a0 a1:ByteArray) (a2:Int) (I4:(List ByteArray)→Int→(List Int)→Option ((List Int)×Bool)):Option ((List Int)×Bool) :=
  (f85G K a0 a1).bind fun y1=>(bif ((y1.length:Int) != a2) then some ([],false) else I4 y1 (0:Int) [])
def f195G (a0 a1:ByteArray) (a2:Int):Option ((List Int)×Bool) :=
  f195_g K a0 a1 a2 (fun c0 d0 d1=>f195_l4 K a0 a1 a2 c0 K d0 d1)
def f195M:Mdl:=⟨[(.ro,.str),(.ro,.str),(.ro,sI)],[(.list 2 sI),.bool],fun x=>f195G K x.1 x.2.1 x.2.2.1⟩
def f195_k4 (a0 a1:ByteArray) (a2:Int) (lr:LR ((List Int)×Bool)):Ex→Fr→Option ((List Int)×Bool) :=
  contC (f195E K) 0 lr f195C [1,1,1,1,0,1,0] (fM (f195E K) Tryz.f195 (f195M K) (a0,a1,a2,()))
def f195_j4 (a0 a1:ByteArray) (a2:Int) (lr:LR ((List Int)×Bool)) (y1:List ByteArray) (bq5:Int) (bq6:List Int):Option ((List Int)×Bool) :=
  lr (selC f195C [1,1,1,1,0,1,0,0]) (f195_fr4 a0 a1 a2 y1 bq5 bq6) (f195_k4 K a0 a1 a2 lr)
def f227E:Env:=eE K [(112,f112M K),(195,f195M K)] [0,2,3,4,5,23]
def f227G (a0:ByteArray):Option (tV×Bool) :=
  (f195G K a0 (bs [44]) (2:Int)).bind fun y1=>(bif ((decide (0≤(0:Int))&&decide ((0:Int)<(y1.1.length:Int)))||(!(!(!y1.2)))) then (bif ((decide (0≤(1:Int))&&decide ((1:Int)<(y1.1.length:Int)))||(!(!(!y1.2)))) then ((bif (!(!y1.2)) then f112G K ((y1.1.getD ((0:Int)+(0:Int)).toNat (0:Int)),(y1.1.getD ((0:Int)+(1:Int)).toNat (0:Int))) else some false)).bind fun y2=>(bif (bif (!y1.2) then true else (!y2)) then some (((0:Int),(0:Int)),false) else (bif (decide (0≤(0:Int))&&decide ((0:Int)<(y1.1.length:Int))) then (bif (decide (0≤(1:Int))&&decide ((1:Int)<(y1.1.length:Int))) then some (((y1.1.getD ((0:Int)+(0:Int)).toNat (0:Int)),(y1.1.getD ((0:Int)+(1:Int)).toNat (0:Int))),true) else none) else none)) else none) else none)
def f227M:Mdl:=⟨[(.ro,.str)],[sV,.bool],fun x=>f227G K x.1⟩
def f228E:Env:=eE K [] [0,2,3,4,5,8,9,10,21]
def f228_b2 (K:Nat) (a0:ByteArray) (L2:Int→(List Int)→Option ((List Int)×Bool)) (q3:Int) (q4:List Int):Option ((List Int)×Bool) :=
  (bif (decide (q3<(a0.size:Int))) then (bif (decide (0≤q3)&&decide (q3<(a0.size:Int))) then (bif ((decide (0≤q3)&&decide (q3<(a0.size:Int)))||(!(!(decide (((a0.data.getD q3.toNat 0).toNat:Int)<(48:Int)))))) then (bif (bif (decide (((a0.data.getD q3.toNat 0).toNat:Int)<(48:Int))) then true else (decide (((a0.data.getD q3.toNat 0).toNat:Int)>(57:Int)))) then some ([],false) else (bif (decide (0≤q3)&&decide (q3<(a0.size:Int))) then (bif (Nat.ble (q4.length+[(w (IntKind.u8.wrap (((a0.data.getD q3.toNat 0).toNat:Int)-(48:Int))))].length) (lim 8)) then L2 (w (q3+(1:Int))) (q4++[(w (IntKind.u8.wrap (((a0.data.getD q3.toNat 0).toNat:Int)-(48:Int))))]) else none) else none)) else none) else none) else some (q4,true))
def f228_l2 (a0:ByteArray) (n:Nat) (q3:Int) (q4:List Int):Option ((List Int)×Bool) :=
  iter (X:=Int×List Int) (fun L x=>f228_b2 K a0 (fun v0 v1=>L (v0,v1)) x.1 x.2) n (q3,q4)
def f228_g (K:Nat) (a0:ByteArray) (I2:Int→(List Int)→Option ((List Int)×Bool)):Option ((List Int)×Bool) :=
  I2 (0:Int) []
def f228G (a0:ByteArray):Option ((List Int)×Bool) :=
  f228_g K a0 (fun d0 d1=>f228_l2 K a0 K d0 d1)
def f228M:Mdl:=⟨[(.ro,.str)],[(.list 2 sI),.bool],fun x=>f228G K x.1⟩
def f228_k2 (a0:ByteArray) (lr:LR ((List Int)×Bool)):Ex→Fr→Option ((List Int)×Bool) :=
  contC (f228E K) 0 lr f228C [1,1,0,1,0] (fM (f228E K) Tryz.f228 (f228M K) (a0,()))
def f228_j2 (a0:ByteArray) (lr:LR ((List Int)×Bool)) (bq3:Int) (bq4:List Int):Option ((List Int)×Bool) :=
  lr (selC f228C [1,1,0,1,0,0]) (f228_fr2 a0 bq3 bq4) (f228_k2 K a0 lr)
def f193E:Env:=eE K [(227,f227M K),(228,f228M K)] [0,1,4,5,6,7,8,9,30]
def f193G (a0 a1:ByteArray):Option ((tV×Int)×Bool) :=
  (f227G K a0).bind fun y1=>(f228G K a1).bind fun y2=>(bif (bif (bif (!y1.2) then true else (!y2.2)) then true else ((y2.1.length:Int) != (1:Int))) then some ((((0:Int),(0:Int)),(0:Int)),false) else (bif (decide (0≤(0:Int))&&decide ((0:Int)<(y2.1.length:Int))) then some ((y1.1,(y2.1.getD ((0:Int)+(0:Int)).toNat (0:Int))),true) else none))
def f193M:Mdl:=⟨[(.ro,.str),(.ro,.str)],[(.cons sV sI),.bool],fun x=>f193G K x.1 x.2.1⟩
def f141E:Env:=eE K [(193,f193M K)] [0,1,2,3,8,9,10,17,20,23]
def f141G (a0:Int×Int×tL×(List tM)×List (tV×Int)) (a1 a2:ByteArray) (a3:Int):Option ((Int×Int×tL×(List tM)×List (tV×Int))×Int) :=
  (f193G K a1 a2).bind fun y1=>(bif (!y1.2) then some (a0,(6:Int)) else (bif (decide (a3<(2:Int))) then some (a0,(5:Int)) else (bif ((a0.2.2.2.2.length:Int)==(40:Int)) then some (a0,(3:Int)) else (bif (Nat.ble (a0.2.2.2.2.length+[y1.1].length) (lim 24)) then some ((a0.1,a0.2.1,a0.2.2.1,a0.2.2.2.1,(a0.2.2.2.2++[y1.1])),(0:Int)) else none))))
def f141M:QMdl:=⟨(.cons sI (.cons sI (.cons sL (.cons (.list 52 sM) (.list 170 (.cons sV sI)))))),[(.ro,.str),(.ro,.str),(.ro,sI)],[sI],fun x=>f141G K x.1 x.2.1 x.2.2.1 x.2.2.2.1⟩
omit K
def f142G (K:Nat) (a0 a1:ByteArray):Option (Int):=idxF a0 a1
def f142M (K:Nat):Mdl:=⟨[(.ro,.str),(.ro,.str)],[sI],fun x=>f142G K x.1 x.2.1⟩
include K
def f143E:Env:=eE K [] [0,2,3]
def f143G (K:Nat) (a0:Bool):Option Int :=
  (bif a0 then some (0:Int) else some (5:Int))
def f143M:Mdl:=⟨[(.ro,.bool)],[sI],fun x=>f143G K x.1⟩
def f144E:Env:=eE K [(42,f42M K),(195,f195M K)] [0,2,3,4,5,26]
def f144G (a0:ByteArray):Option (tL×Bool) :=
  (f195G K a0 (bs [44]) (3:Int)).bind fun y1=>(bif ((decide (0≤(0:Int))&&decide ((0:Int)<(y1.1.length:Int)))||(!(!(!y1.2)))) then (bif ((decide (0≤(1:Int))&&decide ((1:Int)<(y1.1.length:Int)))||(!(!(!y1.2)))) then (bif ((decide (0≤(2:Int))&&decide ((2:Int)<(y1.1.length:Int)))||(!(!(!y1.2)))) then ((bif (!(!y1.2)) then f42G K ((y1.1.getD ((0:Int)+(0:Int)).toNat (0:Int)),(y1.1.getD ((0:Int)+(1:Int)).toNat (0:Int)),(y1.1.getD ((0:Int)+(2:Int)).toNat (0:Int))) else some false)).bind fun y2=>(bif (bif (!y1.2) then true else (!y2)) then some (((0:Int),(0:Int),(0:Int)),false) else (bif (decide (0≤(0:Int))&&decide ((0:Int)<(y1.1.length:Int))) then (bif (decide (0≤(1:Int))&&decide ((1:Int)<(y1.1.length:Int))) then (bif (decide (0≤(2:Int))&&decide ((2:Int)<(y1.1.length:Int))) then some (((y1.1.getD ((0:Int)+(0:Int)).toNat (0:Int)),(y1.1.getD ((0:Int)+(1:Int)).toNat (0:Int)),(y1.1.getD ((0:Int)+(2:Int)).toNat (0:Int))),true) else none) else none) else none)) else none) else none) else none)
def f144M:Mdl:=⟨[(.ro,.str)],[sL,.bool],fun x=>f144G K x.1⟩
omit K
def f234G (K:Nat) (a0 a1:ByteArray):Option (ByteArray×ByteArray×Bool):=cutF a0 a1
def f234M (K:Nat):Mdl:=⟨[(.ro,.str),(.ro,.str)],[.str,.str,.bool],fun x=>f234G K x.1 x.2.1⟩
include K
def f235E:Env:=eE K [(110,f110M K),(195,f195M K)] [0,2,3,4,5,29]
def f235G (a0:ByteArray):Option (tA×Bool) :=
  (f195G K a0 (bs [44]) (4:Int)).bind fun y1=>(bif ((decide (0≤(0:Int))&&decide ((0:Int)<(y1.1.length:Int)))||(!(!(!y1.2)))) then (bif ((decide (0≤(1:Int))&&decide ((1:Int)<(y1.1.length:Int)))||(!(!(!y1.2)))) then (bif ((decide (0≤(2:Int))&&decide ((2:Int)<(y1.1.length:Int)))||(!(!(!y1.2)))) then (bif ((decide (0≤(3:Int))&&decide ((3:Int)<(y1.1.length:Int)))||(!(!(!y1.2)))) then ((bif (!(!y1.2)) then f110G K ((y1.1.getD ((0:Int)+(0:Int)).toNat (0:Int)),(y1.1.getD ((0:Int)+(1:Int)).toNat (0:Int)),(y1.1.getD ((0:Int)+(2:Int)).toNat (0:Int)),(y1.1.getD ((0:Int)+(3:Int)).toNat (0:Int))) else some false)).bind fun y2=>(bif (bif (!y1.2) then true else (!y2)) then some (((0:Int),(0:Int),(0:Int),(0:Int)),false) else (bif (decide (0≤(0:Int))&&decide ((0:Int)<(y1.1.length:Int))) then (bif (decide (0≤(1:Int))&&decide ((1:Int)<(y1.1.length:Int))) then (bif (decide (0≤(2:Int))&&decide ((2:Int)<(y1.1.length:Int))) then (bif (decide (0≤(3:Int))&&decide ((3:Int)<(y1.1.length:Int))) then some (((y1.1.getD ((0:Int)+(0:Int)).toNat (0:Int)),(y1.1.getD ((0:Int)+(1:Int)).toNat (0:Int)),(y1.1.getD ((0:Int)+(2:Int)).toNat (0:Int)),(y1.1.getD ((0:Int)+(3:Int)).toNat (0:Int))),true) else none) else none) else none) else none)) else none) else none) else none) else none)
def f235M:Mdl:=⟨[(.ro,.str)],[sA,.bool],fun x=>f235G K x.1⟩
def f196E:Env:=eE K [(57,f57M K),(227,f227M K),(234,f234M K),(235,f235M K)] [0,2,3,4,5,7,8,9,10,39]
def f196G (a0:ByteArray):Option (tM×Bool) :=
  (f234G K a0 (bs [59])).bind fun y1=>(f235G K y1.1).bind fun y2=>(f227G K y1.2.1).bind fun y3=>((bif (!(bif (!y2.2) then true else (!y3.2))) then f57G K (y2.1,y3.1) else some false)).bind fun y4=>(bif (bif (bif (!y2.2) then true else (!y3.2)) then true else (!y4)) then some ((((0:Int),(0:Int),(0:Int),(0:Int)),(0:Int),(0:Int)),false) else some ((y2.1,y3.1),true))
def f196M:Mdl:=⟨[(.ro,.str)],[sM,.bool],fun x=>f196G K x.1⟩
def f256E:Env:=eE K [] [0,1,3,4,5,7,8,9,16]
def f256_b2 (K:Nat) (a0:List tA) (a1:Int×Int×Int×Int) (L2:Int→Option Int) (q3:Int):Option Int :=
  (bif (decide (q3<(a0.length:Int))) then (bif (decide (0≤q3)&&decide (q3<(a0.length:Int))) then (bif ((a1.1==(a0.getD ((0:Int)+q3).toNat zA).1)&&((a1.2.1==((a0.getD ((0:Int)+q3).toNat zA).2).1)&&((a1.2.2.1==(((a0.getD ((0:Int)+q3).toNat zA).2).2).1)&&(a1.2.2.2==(((a0.getD ((0:Int)+q3).toNat zA).2).2).2)))) then some q3 else L2 (w (q3+(1:Int)))) else none) else some (-1:Int))
def f256_l2 (a0:List tA) (a1:Int×Int×Int×Int) (n:Nat) (q3:Int):Option Int :=
  iter (X:=Int) (fun L x=>f256_b2 K a0 a1 (fun v0=>L v0) x) n q3
def f256_g (K:Nat) (a0:List tA) (a1:Int×Int×Int×Int) (I2:Int→Option Int):Option Int :=
  I2 (0:Int)
def f256G (a0:List tA) (a1:Int×Int×Int×Int):Option Int :=
  f256_g K a0 a1 (fun d0=>f256_l2 K a0 a1 K d0)
def f256M:Mdl:=⟨[(.ro,(.list 48 sA)),(.ro,sA)],[sI],fun x=>f256G K x.1 x.2.1⟩
def f256_k2 (a0:List tA) (a1:Int×Int×Int×Int) (lr:LR Int):Ex→Fr→Option Int :=
  contC (f256E K) 1 lr f256C [1,0,1,0] (fM (f256E K) Tryz.f256 (f256M K) (a0,a1,()))
def f256_j2 (a0:List tA) (a1:Int×Int×Int×Int) (lr:LR Int) (bq3:Int):Option Int :=
  lr (selC f256C [1,0,1,0,0]) (f256_fr2 a0 a1 bq3) (f256_k2 K a0 a1 lr)
def f236E:Env:=eE K [(256,f256M K)] [0,1,3,4]
def f236G (a0:List tA) (a1:Int×Int×Int×Int):Option Bool :=
  (f256G K a0 a1).bind fun y1=>some (decide (y1≥(0:Int)))
def f236M:Mdl:=⟨[(.ro,(.list 48 sA)),(.ro,sA)],[.bool],fun x=>f236G K x.1 x.2.1⟩
def f197E:Env:=eE K [(53,f53M K),(112,f112M K),(236,f236M K)] [0,1,2,4,5,6]
def f197G (a0:Int) (a1:Int×Int×Int) (a2:tA×Int×Int):Option Bool :=
  (f112G K a2.2).bind fun y1=>((bif y1 then f53G K a0 a1 else some [])).bind fun y2=>((bif y1 then f236G K (bif y1 then y2 else []) a2.1 else some false)).bind fun y3=>some (bif y1 then y3 else false)
def f197M:Mdl:=⟨[(.ro,sI),(.ro,sL),(.ro,sM)],[.bool],fun x=>f197G K x.1 x.2.1 x.2.2.1⟩
def f145E:Env:=eE K [(49,f49M K),(196,f196M K),(197,f197M K)] [0,1,2,6,7,8,14,17,20,27]
def f145G (a0:Int×Int×tL×(List tM)×List (tV×Int)) (a1:ByteArray) (a2:Int):Option ((Int×Int×tL×(List tM)×List (tV×Int))×Int) :=
  (f196G K a1).bind fun y1=>(bif (!y1.2) then some (a0,(6:Int)) else (bif (decide (a2<(2:Int))) then some (a0,(5:Int)) else (bif ((a0.2.2.2.1.length:Int)==(8:Int)) then some (a0,(3:Int)) else (f197G K a0.2.1 a0.2.2.1 y1.1).bind fun y2=>(bif (!y2) then some (a0,(2:Int)) else (f49G K a0.2.2.1 y1.1).bind fun y3=>(bif (Nat.ble (a0.2.2.2.1.length+[y3].length) (lim 48)) then some ((a0.1,a0.2.1,a0.2.2.1,(a0.2.2.2.1++[y3]),a0.2.2.2.2),(0:Int)) else none)))))
def f145M:QMdl:=⟨(.cons sI (.cons sI (.cons sL (.cons (.list 52 sM) (.list 170 (.cons sV sI)))))),[(.ro,.str),(.ro,sI)],[sI],fun x=>f145G K x.1 x.2.1 x.2.2.1⟩
def f86E:Env:=⟨[(85,f85M K),(142,f142M K),(143,f143M K),(144,f144M K)],tys,eqs,mts,K,[0,1,4,5,6,7,8,9,23,42,48,49,63,71,81,89],[],[],[(141,f141M K),(145,f145M K)],[],[],[],false⟩
def f86G (a0:Int×Int×tL×(List tM)×List (tV×Int)) (a1:ByteArray):Option ((Int×Int×tL×(List tM)×List (tV×Int))×Int) :=
  (f85G K a1 (bs [32])).bind fun y1=>(bif (decide (0≤(0:Int))&&decide ((0:Int)<(y1.length:Int))) then (bif (bif ((y1.getD ((0:Int)+(0:Int)).toNat ByteArray.empty)==(bs [109,97,114,107])) then ((y1.length:Int)==(3:Int)) else false) then (bif (decide (0≤(1:Int))&&decide ((1:Int)<(y1.length:Int))) then (bif (decide (0≤(2:Int))&&decide ((2:Int)<(y1.length:Int))) then (f141G K ((w (a0.1+(1:Int))),a0.2) (y1.getD ((0:Int)+(1:Int)).toNat ByteArray.empty) (y1.getD ((0:Int)+(2:Int)).toNat ByteArray.empty) a0.1).bind fun y2=>some y2 else none) else none) else (bif ((y1.length:Int) != (2:Int)) then some (((w (a0.1+(1:Int))),a0.2),(6:Int)) else (bif (decide (0≤(0:Int))&&decide ((0:Int)<(y1.length:Int))) then (bif ((y1.getD ((0:Int)+(0:Int)).toNat ByteArray.empty)==(bs [102,114,97,109,101])) then (bif (decide (0≤(1:Int))&&decide ((1:Int)<(y1.length:Int))) then (f142G K (bs [83,72]) (y1.getD ((0:Int)+(1:Int)).toNat ByteArray.empty)).bind fun y3=>(bif (decide (0≤(1:Int))&&decide ((1:Int)<(y1.length:Int))) then (bif (bif (((y1.getD ((0:Int)+(1:Int)).toNat ByteArray.empty).size:Int) != (1:Int)) then true else (decide (y3<(0:Int)))) then some (((w (a0.1+(1:Int))),a0.2),(6:Int)) else (f143G K (a0.1==(0:Int))).bind fun y4=>some (((w (a0.1+(1:Int))),y3,a0.2.2),y4)) else none) else none) else (bif ((y1.getD ((0:Int)+(0:Int)).toNat ByteArray.empty)==(bs [108,97,116,116,105,99,101])) then (bif (decide (0≤(1:Int))&&decide ((1:Int)<(y1.length:Int))) then (f144G K (y1.getD ((0:Int)+(1:Int)).toNat ByteArray.empty)).bind fun y5=>(bif (!y5.2) then some (((w (a0.1+(1:Int))),a0.2),(6:Int)) else (f143G K (a0.1==(1:Int))).bind fun y6=>some (((w (a0.1+(1:Int))),a0.2.1,y5.1,a0.2.2.2),y6)) else none) else (bif ((y1.getD ((0:Int)+(0:Int)).toNat ByteArray.empty)==(bs [109,111,116,105,111,110])) then (bif (decide (0≤(1:Int))&&decide ((1:Int)<(y1.length:Int))) then (f145G K ((w (a0.1+(1:Int))),a0.2) (y1.getD ((0:Int)+(1:Int)).toNat ByteArray.empty) a0.1).bind fun y7=>some y7 else none) else some (((w (a0.1+(1:Int))),a0.2),(6:Int))))) else none))) else none)
def f86M:QMdl:=⟨(.cons sI (.cons sI (.cons sL (.cons (.list 52 sM) (.list 170 (.cons sV sI)))))),[(.ro,.str)],[sI],fun x=>f86G K x.1 x.2.1⟩
def f36E:Env:=eE K [(18,f18M K)] [0,2]
def f36G (a0:Int×Int×tL×(List tM)×List (tV×Int)):Option (List tM) :=
  (f18G K a0.2.2.1 a0.2.2.2.1).bind fun y1=>some y1
def f36M:Mdl:=⟨[(.cap,(.cons sI (.cons sI (.cons sL (.cons (.list 52 sM) (.list 170 (.cons sV sI)))))))],[(.list 52 sM)],fun x=>f36G K x.1⟩
def f237E:Env:=eE K [(41,f41M K),(42,f42M K)] [0,1,3,4,12]
def f237G (a0:Int) (a1:Int×Int×Int):Option Int :=
  (f41G K a0).bind fun y1=>((bif (!(!y1)) then f42G K a1 else some false)).bind fun y2=>(bif (bif (!y1) then true else (!y2)) then some (1:Int) else some (0:Int))
def f237M:Mdl:=⟨[(.ro,sI),(.ro,sL)],[sI],fun x=>f237G K x.1 x.2.1⟩
def f238E:Env:=eE K [(48,f48M K),(49,f49M K),(50,f50M K),(52,f52M K),(53,f53M K),(97,f97M K),(236,f236M K)] [0,1,2,4,6,7,8,9,10,12,14,19,20,21,22,53,61,62,63,64,65,68,69,70,71,81]
def f238_b23 (a0:Int) (a1:Int×Int×Int) (a2:List tM) (q7:Int) (q8:List (tM×Bool)) (q22:Int) (y1:List tA) (y12:Int×Int×Int×Int) (L21 L23:Int→Option Bool) (q24:Int):Option Bool :=
  (bif (decide (q24<(a2.length:Int))) then (bif (decide (0≤q24)&&decide (q24<(a2.length:Int))) then (f50G K ((((a2.getD ((0:Int)+q22).toNat zM).1).1,(((a2.getD ((0:Int)+q22).toNat zM).1).2).1,((((a2.getD ((0:Int)+q22).toNat zM).1).2).2)),((a2.getD ((0:Int)+q22).toNat zM).2)) ((((a2.getD ((0:Int)+q24).toNat zM).1).1,(((a2.getD ((0:Int)+q24).toNat zM).1).2).1,((((a2.getD ((0:Int)+q24).toNat zM).1).2).2)),((a2.getD ((0:Int)+q24).toNat zM).2))).bind fun y25=>(f49G K a1 y25).bind fun y26=>(bif (!((mfind (eqSh sM) q8 y26).getD false)) then some false else L23 (w (q24+(1:Int)))) else none) else L21 (w (q22+(1:Int))))
def f238_l23 (a0:Int) (a1:Int×Int×Int) (a2:List tM) (q7:Int) (q8:List (tM×Bool)) (q22:Int) (y1:List tA) (y12:Int×Int×Int×Int) (L21:Int→Option Bool) (n:Nat) (q24:Int):Option Bool :=
  iter (X:=Int) (fun L x=>f238_b23 K a0 a1 a2 q7 q8 q22 y1 y12 L21 (fun v0=>L v0) x) n q24
def f238_b21 (K:Nat) (a0:Int) (a1:Int×Int×Int) (a2:List tM) (q7:Int) (q8:List (tM×Bool)) (y1:List tA) (y12:Int×Int×Int×Int) (I23:Int→Int→Option Bool) (L21:Int→Option Bool) (q22:Int):Option Bool :=
  (bif (decide (q22<(a2.length:Int))) then (bif (decide (0≤q22)&&decide (q22<(a2.length:Int))) then I23 q22 (0:Int) else none) else some true)
def f238_l21 (a0:Int) (a1:Int×Int×Int) (a2:List tM) (q7:Int) (q8:List (tM×Bool)) (y1:List tA) (y12:Int×Int×Int×Int) (n:Nat) (q22:Int):Option Bool :=
  iter (X:=Int) (fun L x=>(fun L21=>f238_b21 K a0 a1 a2 q7 q8 y1 y12 (fun c0 d0=>f238_l23 K a0 a1 a2 q7 q8 c0 y1 y12 L21 K d0) L21 x) (fun v0=>L v0)) n q22
def f238_b6 (a0:Int) (a1:Int×Int×Int) (a2:List tM) (y1:List tA) (I21:Int→(List (tM×Bool))→(List tA)→tA→Int→Option Bool) (L6:Int→(List (tM×Bool))→Option Bool) (q7:Int) (q8:List (tM×Bool)):Option Bool :=
  (bif (decide (q7<(a2.length:Int))) then (bif (decide (0≤q7)&&decide (q7<(a2.length:Int))) then (f236G K y1 (((a2.getD ((0:Int)+q7).toNat zM).1).1,(((a2.getD ((0:Int)+q7).toNat zM).1).2).1,((((a2.getD ((0:Int)+q7).toNat zM).1).2).2))).bind fun y9=>((bif (!(!y9)) then f97G K a1 ((a2.getD ((0:Int)+q7).toNat zM).2) else some ((0:Int),(0:Int)))).bind fun y10=>(bif ((decide (0≤(w (q7-(1:Int))))&&decide ((w (q7-(1:Int)))<(a2.length:Int)))||(!((!(bif (!y9) then true else (!((y10.1==((a2.getD ((0:Int)+q7).toNat zM).2).1)&&(y10.2==((a2.getD ((0:Int)+q7).toNat zM).2).2)))))&&(decide (q7>(0:Int)))))) then ((bif ((!(bif (!y9) then true else (!((y10.1==((a2.getD ((0:Int)+q7).toNat zM).2).1)&&(y10.2==((a2.getD ((0:Int)+q7).toNat zM).2).2)))))&&(decide (q7>(0:Int)))) then f52G K ((((a2.getD ((0:Int)+(w (q7-(1:Int)))).toNat zM).1).1,(((a2.getD ((0:Int)+(w (q7-(1:Int)))).toNat zM).1).2).1,((((a2.getD ((0:Int)+(w (q7-(1:Int)))).toNat zM).1).2).2)),((a2.getD ((0:Int)+(w (q7-(1:Int)))).toNat zM).2)) ((((a2.getD ((0:Int)+q7).toNat zM).1).1,(((a2.getD ((0:Int)+q7).toNat zM).1).2).1,((((a2.getD ((0:Int)+q7).toNat zM).1).2).2)),((a2.getD ((0:Int)+q7).toNat zM).2)) else some (0:Int))).bind fun y11=>(bif (bif (bif (!y9) then true else (!((y10.1==((a2.getD ((0:Int)+q7).toNat zM).2).1)&&(y10.2==((a2.getD ((0:Int)+q7).toNat zM).2).2)))) then true else (bif (decide (q7>(0:Int))) then (decide (y11≥(0:Int))) else false)) then some false else L6 (w (q7+(1:Int))) (mput (eqSh sM) q8 ((((a2.getD ((0:Int)+q7).toNat zM).1).1,(((a2.getD ((0:Int)+q7).toNat zM).1).2).1,((((a2.getD ((0:Int)+q7).toNat zM).1).2).2)),((a2.getD ((0:Int)+q7).toNat zM).2)) true)) else none) else none) else (f48G K).bind fun y12=>(bif (!((mfind (eqSh sM) q8 (y12,(0:Int),(0:Int))).getD false)) then some false else I21 q7 q8 y1 y12 (0:Int)))
def f238_l6 (a0:Int) (a1:Int×Int×Int) (a2:List tM) (y1:List tA) (n:Nat) (q7:Int) (q8:List (tM×Bool)):Option Bool :=
  iter (X:=Int×List (tM×Bool)) (fun L x=>f238_b6 K a0 a1 a2 y1 (fun c0 c1 c2 c3 d0=>f238_l21 K a0 a1 a2 c0 c1 c2 c3 K d0) (fun v0 v1=>L (v0,v1)) x.1 x.2) n (q7,q8)
def f238_g (a0:Int) (a1:Int×Int×Int) (a2:List tM) (I6:(List tA)→Int→(List (tM×Bool))→Option Bool):Option Bool :=
  (f53G K a0 a1).bind fun y1=>I6 y1 (0:Int) []
def f238G (a0:Int) (a1:Int×Int×Int) (a2:List tM):Option Bool :=
  f238_g K a0 a1 a2 (fun c0 d0 d1=>f238_l6 K a0 a1 a2 c0 K d0 d1)
def f238M:Mdl:=⟨[(.ro,sI),(.ro,sL),(.ro,(.list 52 sM))],[.bool],fun x=>f238G K x.1 x.2.1 x.2.2.1⟩
def f238_k6 (a0:Int) (a1:Int×Int×Int) (a2:List tM) (lr:LR Bool):Ex→Fr→Option Bool :=
  contC (f238E K) 1 lr f238C [1,1,0,1,0] (fM (f238E K) Tryz.f238 (f238M K) (a0,a1,a2,()))
def f238_j6 (a0:Int) (a1:Int×Int×Int) (a2:List tM) (lr:LR Bool) (y1:List tA) (bq7:Int) (bq8:List (tM×Bool)):Option Bool :=
  lr (selC f238C [1,1,0,1,0,0]) (f238_fr6 a0 a1 a2 y1 bq7 bq8) (f238_k6 K a0 a1 a2 lr)
def f238_k21 (a0:Int) (a1:Int×Int×Int) (a2:List tM) (lr:LR Bool):Ex→Fr→Option Bool :=
  contC (f238E K) 1 lr f238C [1,1,1,1,0,1,0] (fM (f238E K) Tryz.f238 (f238M K) (a0,a1,a2,()))
def f238_j21 (a0:Int) (a1:Int×Int×Int) (a2:List tM) (lr:LR Bool) (q7:Int) (q8:List (tM×Bool)) (y1:List tA) (y12:Int×Int×Int×Int) (bq22:Int):Option Bool :=
  lr (selC f238C [1,1,1,1,0,1,0,0]) (f238_fr21 a0 a1 a2 q7 q8 y1 y12 bq22) (f238_k21 K a0 a1 a2 lr)
def f238_k23 (a0:Int) (a1:Int×Int×Int) (a2:List tM) (q7:Int) (q8:List (tM×Bool)) (y1:List tA) (y12:Int×Int×Int×Int) (F21:Fr→Option Bool) (bq22:Int) (lr:LR Bool):Ex→Fr→Option Bool :=
  contC (f238E K) 1 lr (selC f238C [1,1,1,1,0,1,0,0]) [1,1,0,0,1,1,0] (loopK 1 (f238_fr21 a0 a1 a2 q7 q8 y1 y12 bq22) F21 (f238_k21 K a0 a1 a2 lr))
def f238_j23 (a0:Int) (a1:Int×Int×Int) (a2:List tM) (q7:Int) (q8:List (tM×Bool)) (y1:List tA) (y12:Int×Int×Int×Int) (F21:Fr→Option Bool) (bq22:Int) (lr:LR Bool) (q22 bq24:Int):Option Bool :=
  lr (selC f238C [1,1,1,1,0,1,0,0,1,1,0,0,1,1,0,0]) (f238_fr23 a0 a1 a2 q7 q8 q22 y1 y12 bq24) (f238_k23 K a0 a1 a2 q7 q8 y1 y12 F21 bq22 lr)
def f198E:Env:=eE K [(237,f237M K),(238,f238M K)] [0,1,2,4,6,7,9,14,16,17,18,19,26]
def f198_b4 (a0:Int) (a1:Int×Int×Int) (a2:List (List tM)) (y1:Int) (L4:Int→Option Int) (q5:Int):Option Int :=
  (bif (decide (q5<(a2.length:Int))) then (bif (decide (0≤q5)&&decide (q5<(a2.length:Int))) then (f238G K a0 a1 (a2.getD ((0:Int)+q5).toNat [])).bind fun y6=>(bif (!y6) then some (2:Int) else L4 (w (q5+(1:Int)))) else none) else some (0:Int))
def f198_l4 (a0:Int) (a1:Int×Int×Int) (a2:List (List tM)) (y1:Int) (n:Nat) (q5:Int):Option Int :=
  iter (X:=Int) (fun L x=>f198_b4 K a0 a1 a2 y1 (fun v0=>L v0) x) n q5
def f198_g (a0:Int) (a1:Int×Int×Int) (a2:List (List tM)) (I4:Int→Int→Option Int):Option Int :=
  (f237G K a0 a1).bind fun y1=>(bif (y1 != (0:Int)) then some y1 else I4 y1 (0:Int))
def f198G (a0:Int) (a1:Int×Int×Int) (a2:List (List tM)):Option Int :=
  f198_g K a0 a1 a2 (fun c0 d0=>f198_l4 K a0 a1 a2 c0 K d0)
def f198M:Mdl:=⟨[(.ro,sI),(.ro,sL),(.ro,(.list 36 (.list 52 sM)))],[sI],fun x=>f198G K x.1 x.2.1 x.2.2.1⟩
def f198_k4 (a0:Int) (a1:Int×Int×Int) (a2:List (List tM)) (lr:LR Int):Ex→Fr→Option Int :=
  contC (f198E K) 1 lr f198C [1,1,0,1,0] (fM (f198E K) Tryz.f198 (f198M K) (a0,a1,a2,()))
def f198_j4 (a0:Int) (a1:Int×Int×Int) (a2:List (List tM)) (lr:LR Int) (y1 bq5:Int):Option Int :=
  lr (selC f198C [1,1,0,1,0,0]) (f198_fr4 a0 a1 a2 y1 bq5) (f198_k4 K a0 a1 a2 lr)
def f147E:Env:=eE K [(91,f91M K)] [0,2]
def f147G (a0:Int):Option Bool :=
  (f91G K a0 (0:Int) (9:Int)).bind fun y1=>some y1
def f147M:Mdl:=⟨[(.ro,sI)],[.bool],fun x=>f147G K x.1⟩
def f240E:Env:=eE K [(112,f112M K),(147,f147M K)] [0,1,2]
def f240G (a0:tV×Int):Option Bool :=
  (f112G K a0.1).bind fun y1=>((bif (!(!y1)) then f147G K a0.2 else some false)).bind fun y2=>some (bif (!y1) then true else (!y2))
def f240M:Mdl:=⟨[(.ro,(.cons sV sI))],[.bool],fun x=>f240G K x.1⟩
def f257E:Env:=eE K [] [0,1,4,5,7,8,9,16]
def f257_b3 (K:Nat) (a0:List (tV×Int)) (a1:((tV×Int)→Option Bool)) (L3:Int→Option Int) (q4:Int):Option Int :=
  (bif (decide (q4<(a0.length:Int))) then (bif (decide (0≤q4)&&decide (q4<(a0.length:Int))) then (a1 (((a0.getD ((0:Int)+q4).toNat (((0:Int),(0:Int)),(0:Int))).1),(a0.getD ((0:Int)+q4).toNat (((0:Int),(0:Int)),(0:Int))).2)).bind fun y5=>(bif y5 then some q4 else L3 (w (q4+(1:Int)))) else none) else some (-1:Int))
def f257_l3 (a0:List (tV×Int)) (a1:((tV×Int)→Option Bool)) (n:Nat) (q4:Int):Option Int :=
  iter (X:=Int) (fun L x=>f257_b3 K a0 a1 (fun v0=>L v0) x) n q4
def f257_g (K:Nat) (a0:List (tV×Int)) (a1:((tV×Int)→Option Bool)) (I3:Int→Option Int):Option Int :=
  I3 (0:Int)
def f257G (a0:List (tV×Int)) (a1:((tV×Int)→Option Bool)):Option Int :=
  f257_g K a0 a1 (fun d0=>f257_l3 K a0 a1 K d0)
def f257M:Mdl:=⟨[(.ro,(.list 170 (.cons sV sI))),(.ro,(.fn1 (.cons sV sI) .bool))],[sI],fun x=>f257G K x.1 x.2.1⟩
def f257_k3 (a0:List (tV×Int)) (a1:((tV×Int)→Option Bool)) (lr:LR Int):Ex→Fr→Option Int :=
  contC (f257E K) 1 lr f257C [1,0,1,0] (fM (f257E K) Tryz.f257 (f257M K) (a0,a1,()))
def f257_j3 (a0:List (tV×Int)) (a1:((tV×Int)→Option Bool)) (lr:LR Int) (bq4:Int):Option Int :=
  lr (selC f257C [1,0,1,0,0]) (f257_fr3 a0 a1 bq4) (f257_k3 K a0 a1 lr)
def f239E:Env:=eE K [(257,f257M K)] [0,1,4]
def f239G (a0:List (tV×Int)) (a1:((tV×Int)→Option Bool)):Option Bool :=
  (f257G K a0 a1).bind fun y1=>some (decide (y1≥(0:Int)))
def f239M:Mdl:=⟨[(.ro,(.list 170 (.cons sV sI))),(.ro,(.fn1 (.cons sV sI) .bool))],[.bool],fun x=>f239G K x.1 x.2.1⟩
def f199E:Env:=⟨[(239,f239M K),(240,f240M K)],tys,eqs,mts,K,[0,2],[],[],[],[],[(240,f240M K)],[],false⟩
def f199G (a0:List (tV×Int)):Option Bool :=
  ((bif (decide ((a0.length:Int)≤(40:Int))) then f239G K a0 (fun z1=>f240G K z1) else some false)).bind fun y2=>some (bif (decide ((a0.length:Int)≤(40:Int))) then (!y2) else false)
def f199M:Mdl:=⟨[(.ro,(.list 170 (.cons sV sI)))],[.bool],fun x=>f199G K x.1⟩
def f146E:Env:=eE K [(198,f198M K),(199,f199M K)] [0,1,2,3,5,8,9,16,20]
def f146G (a0:Int) (a1:Int×Int×Int) (a2:List tM) (a3:List (tV×Int)):Option Int :=
  (f198G K a0 a1 [a2]).bind fun y1=>(bif (y1 != (0:Int)) then some y1 else (f199G K a3).bind fun y2=>(bif (!y2) then some (2:Int) else some (0:Int)))
def f146M:Mdl:=⟨[(.ro,sI),(.ro,sL),(.ro,(.list 52 sM)),(.ro,(.list 170 (.cons sV sI)))],[sI],fun x=>f146G K x.1 x.2.1 x.2.2.1 x.2.2.2.1⟩
def f200E:Env:=eE K [(61,f61M K),(97,f97M K)] [0,1,2,3,4]
def f200G (a0:tV×Int) (a1:List Int) (a2:Int×Int×Int):Option Int :=
  (f97G K a2 a0.1).bind fun y1=>(f61G K a2 y1).bind fun y2=>(bif (decide (0≤y2)&&decide (y2<(a1.length:Int))) then some (a1.getD ((0:Int)+y2).toNat (0:Int)) else none)
def f200M:Mdl:=⟨[(.ro,(.cons sV sI)),(.cap,(.list 2 sI)),(.cap,sL)],[sI],fun x=>f200G K x.1 x.2.1 x.2.2.1⟩
def f148E:Env:=eE K [(22,f22M K),(200,f200M K)] [0,1,2,3,6,7,8,10,11,12,13,14,15,23,24,25,26,32,33,34,35,52]
def f148_b12 (a0:Int×Int×Int) (a1:List tM) (a2:List (tV×Int)) (q11:Int) (y1:(List (List tV))×List Int) (L10 L12:Int→Option (Int×Int×Bool)) (q13:Int):Option (Int×Int×Bool) :=
  (bif (decide (q13<(((0:Int)+q11)-(0:Int)))) then (bif (decide (0≤q13)&&decide (q13<(((0:Int)+q11)-(0:Int)))) then ((bif ((a2.getD ((0:Int)+q13).toNat (((0:Int),(0:Int)),(0:Int))).2 != (a2.getD ((0:Int)+q11).toNat (((0:Int),(0:Int)),(0:Int))).2) then f200G K (((a2.getD ((0:Int)+q13).toNat (((0:Int),(0:Int)),(0:Int))).1),(a2.getD ((0:Int)+q13).toNat (((0:Int),(0:Int)),(0:Int))).2) y1.2 a0 else some (0:Int))).bind fun y14=>((bif ((a2.getD ((0:Int)+q13).toNat (((0:Int),(0:Int)),(0:Int))).2 != (a2.getD ((0:Int)+q11).toNat (((0:Int),(0:Int)),(0:Int))).2) then f200G K (((a2.getD ((0:Int)+q11).toNat (((0:Int),(0:Int)),(0:Int))).1),(a2.getD ((0:Int)+q11).toNat (((0:Int),(0:Int)),(0:Int))).2) y1.2 a0 else some (0:Int))).bind fun y15=>(bif (bif ((a2.getD ((0:Int)+q13).toNat (((0:Int),(0:Int)),(0:Int))).2 != (a2.getD ((0:Int)+q11).toNat (((0:Int),(0:Int)),(0:Int))).2) then (y14==y15) else false) then some (q13,q11,true) else L12 (w (q13+(1:Int)))) else none) else L10 (w (q11+(1:Int))))
def f148_l12 (a0:Int×Int×Int) (a1:List tM) (a2:List (tV×Int)) (q11:Int) (y1:(List (List tV))×List Int) (L10:Int→Option (Int×Int×Bool)) (n:Nat) (q13:Int):Option (Int×Int×Bool) :=
  iter (X:=Int) (fun L x=>f148_b12 K a0 a1 a2 q11 y1 L10 (fun v0=>L v0) x) n q13
def f148_b10 (K:Nat) (a0:Int×Int×Int) (a1:List tM) (a2:List (tV×Int)) (y1:(List (List tV))×List Int) (I12:Int→Int→Option (Int×Int×Bool)) (L10:Int→Option (Int×Int×Bool)) (q11:Int):Option (Int×Int×Bool) :=
  (bif (decide (q11<(a2.length:Int))) then (bif (decide (0≤q11)&&decide (q11<(a2.length:Int))) then (bif (decide (0≤(0:Int))&&decide ((0:Int)≤q11)&&decide (q11≤(a2.length:Int))) then I12 q11 (0:Int) else none) else none) else some ((0:Int),(0:Int),false))
def f148_l10 (a0:Int×Int×Int) (a1:List tM) (a2:List (tV×Int)) (y1:(List (List tV))×List Int) (n:Nat) (q11:Int):Option (Int×Int×Bool) :=
  iter (X:=Int) (fun L x=>(fun L10=>f148_b10 K a0 a1 a2 y1 (fun c0 d0=>f148_l12 K a0 a1 a2 c0 y1 L10 K d0) L10 x) (fun v0=>L v0)) n q11
def f148_g (a0:Int×Int×Int) (a1:List tM) (a2:List (tV×Int)) (I10:((List (List tV))×List Int)→Int→Option (Int×Int×Bool)):Option (Int×Int×Bool) :=
  (f22G K a0 a1).bind fun y1=>I10 y1 (0:Int)
def f148G (a0:Int×Int×Int) (a1:List tM) (a2:List (tV×Int)):Option (Int×Int×Bool) :=
  f148_g K a0 a1 a2 (fun c0 d0=>f148_l10 K a0 a1 a2 c0 K d0)
def f148M:Mdl:=⟨[(.ro,sL),(.ro,(.list 52 sM)),(.ro,(.list 170 (.cons sV sI)))],[sI,sI,.bool],fun x=>f148G K x.1 x.2.1 x.2.2.1⟩
def f148_k10 (a0:Int×Int×Int) (a1:List tM) (a2:List (tV×Int)) (lr:LR (Int×Int×Bool)):Ex→Fr→Option (Int×Int×Bool) :=
  contC (f148E K) 2 lr f148C [1,1,1,0,1,0] (fM (f148E K) Tryz.f148 (f148M K) (a0,a1,a2,()))
def f148_j10 (a0:Int×Int×Int) (a1:List tM) (a2:List (tV×Int)) (lr:LR (Int×Int×Bool)) (y1:(List (List tV))×List Int) (bq11:Int):Option (Int×Int×Bool) :=
  lr (selC f148C [1,1,1,0,1,0,0]) (f148_fr10 a0 a1 a2 y1 bq11) (f148_k10 K a0 a1 a2 lr)
def f148_k12 (a0:Int×Int×Int) (a1:List tM) (a2:List (tV×Int)) (y1:(List (List tV))×List Int) (F10:Fr→Option (Int×Int×Bool)) (bq11:Int) (lr:LR (Int×Int×Bool)):Ex→Fr→Option (Int×Int×Bool) :=
  contC (f148E K) 2 lr (selC f148C [1,1,1,0,1,0,0]) [1,1,0,0,1,1,0] (loopK 2 (f148_fr10 a0 a1 a2 y1 bq11) F10 (f148_k10 K a0 a1 a2 lr))
def f148_j12 (a0:Int×Int×Int) (a1:List tM) (a2:List (tV×Int)) (y1:(List (List tV))×List Int) (F10:Fr→Option (Int×Int×Bool)) (bq11:Int) (lr:LR (Int×Int×Bool)) (q11 bq13:Int):Option (Int×Int×Bool) :=
  lr (selC f148C [1,1,1,0,1,0,0,1,1,0,0,1,1,0,0]) (f148_fr12 a0 a1 a2 q11 y1 bq13) (f148_k12 K a0 a1 a2 y1 F10 bq11 lr)
def f149E:Env:=eE K [(43,f43M K),(61,f61M K)] [0,1,2,3,5,8,9,11,18,19,20,21]
def f149_b4 (a0:Int) (a1:Int×Int×Int) (a2:List tV) (a3:Int) (L4:Int→(List Int)→Option (Int×tL×List Int)) (q5:Int) (q6:List Int):Option (Int×tL×List Int) :=
  (bif (decide (q5<(a2.length:Int))) then (bif (decide (0≤q5)&&decide (q5<(a2.length:Int))) then (f61G K a1 (a2.getD ((0:Int)+q5).toNat ((0:Int),(0:Int)))).bind fun y7=>(bif (decide (0≤y7)&&decide (y7<(q6.length:Int))) then L4 (w (q5+(1:Int))) (q6.set ((0:Int)+y7).toNat a3) else none) else none) else some (a0,a1,q6))
def f149_l4 (a0:Int) (a1:Int×Int×Int) (a2:List tV) (a3:Int) (n:Nat) (q5:Int) (q6:List Int):Option (Int×tL×List Int) :=
  iter (X:=Int×List Int) (fun L x=>f149_b4 K a0 a1 a2 a3 (fun v0 v1=>L (v0,v1)) x.1 x.2) n (q5,q6)
def f149_g (a0:Int) (a1:Int×Int×Int) (a2:List tV) (a3:Int) (I4:Int→(List Int)→Option (Int×tL×List Int)):Option (Int×tL×List Int) :=
  (f43G K a1).bind fun y1=>(bif (decide (0≤y1)&&Nat.ble y1.toNat (lim 8)&&(y1==y1)) then I4 (0:Int) (List.replicate y1.toNat (0:Int)) else none)
def f149G (a0:Int) (a1:Int×Int×Int) (a2:List tV) (a3:Int):Option (Int×tL×List Int) :=
  f149_g K a0 a1 a2 a3 (fun d0 d1=>f149_l4 K a0 a1 a2 a3 K d0 d1)
def f149M:Mdl:=⟨[(.ro,sI),(.ro,sL),(.ro,(.list 50 sV)),(.ro,sI)],[(.cons sI (.cons sL (.list 2 sI)))],fun x=>f149G K x.1 x.2.1 x.2.2.1 x.2.2.2.1⟩
def f149_k4 (a0:Int) (a1:Int×Int×Int) (a2:List tV) (a3:Int) (lr:LR (Int×tL×List Int)):Ex→Fr→Option (Int×tL×List Int) :=
  contC (f149E K) 1 lr f149C [1,1,0,1,0] (fM (f149E K) Tryz.f149 (f149M K) (a0,a1,a2,a3,()))
def f149_j4 (a0:Int) (a1:Int×Int×Int) (a2:List tV) (a3:Int) (lr:LR (Int×tL×List Int)) (bq5:Int) (bq6:List Int):Option (Int×tL×List Int) :=
  lr (selC f149C [1,1,0,1,0,0]) (f149_fr4 a0 a1 a2 a3 bq5 bq6) (f149_k4 K a0 a1 a2 a3 lr)
def f87E:Env:=eE K [(54,f54M K),(61,f61M K),(62,f62M K),(97,f97M K),(146,f146M K),(147,f147M K),(148,f148M K),(149,f149M K)] [0,1,2,3,4,6,10,11,12,15,16,18,20,27,32,42,50,51,52,53,62,63,64,65]
def f87_b20 (a0:Int) (a1:Int×Int×Int) (a2:List tM) (a3:List (tV×Int)) (a4 q16 y1:Int) (y2:Bool) (y3:Int×Int×Bool) (y5:Int×tL×List Int) (y19:List tV) (L15:Int→(List Int)→Option ((Int×tL×List Int)×Int)) (L20:Int→(List Int)→Option ((Int×tL×List Int)×Int)) (q21:Int) (q22:List Int):Option ((Int×tL×List Int)×Int) :=
  (bif (decide (q21<(y19.length:Int))) then (bif (decide (0≤q21)&&decide (q21<(y19.length:Int))) then (f61G K a1 (y19.getD ((0:Int)+q21).toNat ((0:Int),(0:Int)))).bind fun y23=>(bif (decide (0≤y23)&&decide (y23<(q22.length:Int))) then L20 (w (q21+(1:Int))) (q22.set ((0:Int)+y23).toNat ((a3.getD ((0:Int)+q16).toNat (((0:Int),(0:Int)),(0:Int))).2)) else none) else none) else L15 (w (q16+(1:Int))) q22)
def f87_l20 (a0:Int) (a1:Int×Int×Int) (a2:List tM) (a3:List (tV×Int)) (a4 q16 y1:Int) (y2:Bool) (y3:Int×Int×Bool) (y5:Int×tL×List Int) (y19:List tV) (L15:Int→(List Int)→Option ((Int×tL×List Int)×Int)) (n:Nat) (q21:Int) (q22:List Int):Option ((Int×tL×List Int)×Int) :=
  iter (X:=Int×List Int) (fun L x=>f87_b20 K a0 a1 a2 a3 a4 q16 y1 y2 y3 y5 y19 L15 (fun v0 v1=>L (v0,v1)) x.1 x.2) n (q21,q22)
def f87_b15 (a0:Int) (a1:Int×Int×Int) (a2:List tM) (a3:List (tV×Int)) (a4 y1:Int) (y2:Bool) (y3:Int×Int×Bool) (y5:Int×tL×List Int) (I20:Int→(List tV)→Int→(List Int)→Option ((Int×tL×List Int)×Int)) (L15:Int→(List Int)→Option ((Int×tL×List Int)×Int)) (q16:Int) (q17:List Int):Option ((Int×tL×List Int)×Int) :=
  (bif (decide (q16<(a3.length:Int))) then (bif (decide (0≤q16)&&decide (q16<(a3.length:Int))) then (f97G K a1 ((a3.getD ((0:Int)+q16).toNat (((0:Int),(0:Int)),(0:Int))).1)).bind fun y18=>(f62G K a1 a2 y18).bind fun y19=>I20 q16 y19 (0:Int) q17 else none) else some ((y5.1,y5.2.1,q17),(0:Int)))
def f87_l15 (a0:Int) (a1:Int×Int×Int) (a2:List tM) (a3:List (tV×Int)) (a4 y1:Int) (y2:Bool) (y3:Int×Int×Bool) (y5:Int×tL×List Int) (n:Nat) (q16:Int) (q17:List Int):Option ((Int×tL×List Int)×Int) :=
  iter (X:=Int×List Int) (fun L x=>(fun L15=>f87_b15 K a0 a1 a2 a3 a4 y1 y2 y3 y5 (fun c0 c1 d0 d1=>f87_l20 K a0 a1 a2 a3 a4 c0 y1 y2 y3 y5 c1 L15 K d0 d1) L15 x.1 x.2) (fun v0 v1=>L (v0,v1))) n (q16,q17)
def f87_g (a0:Int) (a1:Int×Int×Int) (a2:List tM) (a3:List (tV×Int)) (a4:Int) (I15:Int→Bool→(Int×Int×Bool)→(Int×tL×List Int)→Int→(List Int)→Option ((Int×tL×List Int)×Int)):Option ((Int×tL×List Int)×Int) :=
  (f146G K a0 a1 a2 a3).bind fun y1=>(bif (y1 != (0:Int)) then some (((0:Int),((0:Int),(0:Int),(0:Int)),[]),y1) else (f147G K a4).bind fun y2=>(bif (!y2) then some (((0:Int),((0:Int),(0:Int),(0:Int)),[]),(2:Int)) else (f148G K a1 a2 a3).bind fun y3=>(bif y3.2.2 then some (((0:Int),((0:Int),(0:Int),(0:Int)),[]),(5:Int)) else (f54G K a1).bind fun y4=>(f149G K a0 a1 y4 a4).bind fun y5=>I15 y1 y2 y3 y5 (0:Int) y5.2.2)))
def f87G (a0:Int) (a1:Int×Int×Int) (a2:List tM) (a3:List (tV×Int)) (a4:Int):Option ((Int×tL×List Int)×Int) :=
  f87_g K a0 a1 a2 a3 a4 (fun c0 c1 c2 c3 d0 d1=>f87_l15 K a0 a1 a2 a3 a4 c0 c1 c2 c3 K d0 d1)
def f87M:Mdl:=⟨[(.ro,sI),(.ro,sL),(.ro,(.list 52 sM)),(.ro,(.list 170 (.cons sV sI))),(.ro,sI)],[(.cons sI (.cons sL (.list 2 sI))),sI],fun x=>f87G K x.1 x.2.1 x.2.2.1 x.2.2.2.1 x.2.2.2.2.1⟩
def f87_k15 (a0:Int) (a1:Int×Int×Int) (a2:List tM) (a3:List (tV×Int)) (a4:Int) (lr:LR ((Int×tL×List Int)×Int)):Ex→Fr→Option ((Int×tL×List Int)×Int) :=
  contC (f87E K) 2 lr f87C [1,1,1,1,1,0,1,0] (fM (f87E K) Tryz.f87 (f87M K) (a0,a1,a2,a3,a4,()))
def f87_j15 (a0:Int) (a1:Int×Int×Int) (a2:List tM) (a3:List (tV×Int)) (a4:Int) (lr:LR ((Int×tL×List Int)×Int)) (y1:Int) (y2:Bool) (y3:Int×Int×Bool) (y5:Int×tL×List Int) (bq16:Int) (bq17:List Int):Option ((Int×tL×List Int)×Int) :=
  lr (selC f87C [1,1,1,1,1,0,1,0,0]) (f87_fr15 a0 a1 a2 a3 a4 y1 y2 y3 y5 bq16 bq17) (f87_k15 K a0 a1 a2 a3 a4 lr)
def f87_k20 (a0:Int) (a1:Int×Int×Int) (a2:List tM) (a3:List (tV×Int)) (a4 y1:Int) (y2:Bool) (y3:Int×Int×Bool) (y5:Int×tL×List Int) (F15:Fr→Option ((Int×tL×List Int)×Int)) (bq16:Int) (bq17:List Int) (lr:LR ((Int×tL×List Int)×Int)):Ex→Fr→Option ((Int×tL×List Int)×Int) :=
  contC (f87E K) 2 lr (selC f87C [1,1,1,1,1,0,1,0,0]) [1,1,0,0,1,1,0] (loopK 2 (f87_fr15 a0 a1 a2 a3 a4 y1 y2 y3 y5 bq16 bq17) F15 (f87_k15 K a0 a1 a2 a3 a4 lr))
def f87_j20 (a0:Int) (a1:Int×Int×Int) (a2:List tM) (a3:List (tV×Int)) (a4 y1:Int) (y2:Bool) (y3:Int×Int×Bool) (y5:Int×tL×List Int) (F15:Fr→Option ((Int×tL×List Int)×Int)) (bq16:Int) (bq17:List Int) (lr:LR ((Int×tL×List Int)×Int)) (q16:Int) (y19:List tV) (bq21:Int) (bq22:List Int):Option ((Int×tL×List Int)×Int) :=
  lr (selC f87C [1,1,1,1,1,0,1,0,0,1,1,0,0,1,1,0,0]) (f87_fr20 a0 a1 a2 a3 a4 q16 y1 y2 y3 y5 y19 bq21 bq22) (f87_k20 K a0 a1 a2 a3 a4 y1 y2 y3 y5 F15 bq16 bq17 lr)
def f35E:Env:=⟨[(36,f36M K),(84,f84M K),(85,f85M K),(87,f87M K)],tys,eqs,mts,K,[0,2,3,4,5,6,7,8,10,11,12,13,16,28,33,35,36,37,38,45,57,78],[],[],[(86,f86M K)],[],[],[],false⟩
def f35_b5 (a0:ByteArray) (y1:ByteArray×Bool) (y2:List ByteArray) (L5:Int→Int→Int→Int→Int→Int→(List tM)→(List (tV×Int))→Option (Option (Int×Int×tL×(List tM)×List (tV×Int))×(Int×tL×List Int)×Int×Int)) (q6 q7 q8 q9 q10 q11:Int) (q12:List tM) (q13:List (tV×Int)):Option (Option (Int×Int×tL×(List tM)×List (tV×Int))×(Int×tL×List Int)×Int×Int) :=
  (bif (decide (q6<(y2.length:Int))) then (bif (decide (0≤q6)&&decide (q6<(y2.length:Int))) then (f86G K (q7,q8,(q9,q10,q11),q12,q13) (y2.getD ((0:Int)+q6).toNat ByteArray.empty)).bind fun y14=>(bif (y14.2 != (0:Int)) then some (none,(((0:Int),((0:Int),(0:Int),(0:Int)),[]),y14.1.1,y14.2)) else L5 (w (q6+(1:Int))) y14.1.1 y14.1.2.1 y14.1.2.2.1.1 y14.1.2.2.1.2.1 y14.1.2.2.1.2.2 y14.1.2.2.2.1 y14.1.2.2.2.2) else none) else (bif (decide (q7<(2:Int))) then some (none,(((0:Int),((0:Int),(0:Int),(0:Int)),[]),(0:Int),(4:Int))) else (f36G K (q7,q8,(q9,q10,q11),q12,q13)).bind fun y15=>(f87G K q8 (q9,q10,q11) y15 q13 (0:Int)).bind fun y16=>(bif (y16.2 != (0:Int)) then some (none,(((0:Int),((0:Int),(0:Int),(0:Int)),[]),(0:Int),(1:Int))) else some ((some (q7,q8,(q9,q10,q11),q12,q13)),(y16.1,(0:Int),(0:Int))))))
def f35_l5 (a0:ByteArray) (y1:ByteArray×Bool) (y2:List ByteArray) (n:Nat) (q6 q7 q8 q9 q10 q11:Int) (q12:List tM) (q13:List (tV×Int)):Option (Option (Int×Int×tL×(List tM)×List (tV×Int))×(Int×tL×List Int)×Int×Int) :=
  iter (X:=Int×Int×Int×Int×Int×Int×List tM×List (tV×Int)) (fun L x=>f35_b5 K a0 y1 y2 (fun v0 v1 v2 v3 v4 v5 v6 v7=>L (v0,v1,v2,v3,v4,v5,v6,v7)) x.1 x.2.1 x.2.2.1 x.2.2.2.1 x.2.2.2.2.1 x.2.2.2.2.2.1 x.2.2.2.2.2.2.1 x.2.2.2.2.2.2.2) n (q6,q7,q8,q9,q10,q11,q12,q13)
def f35_g (a0:ByteArray) (I5:(ByteArray×Bool)→(List ByteArray)→Int→Int→Int→Int→Int→Int→(List tM)→(List (tV×Int))→Option (Option (Int×Int×tL×(List tM)×List (tV×Int))×(Int×tL×List Int)×Int×Int)):Option (Option (Int×Int×tL×(List tM)×List (tV×Int))×(Int×tL×List Int)×Int×Int) :=
  (bif (decide ((a0.size:Int)>(3000:Int))) then some (none,(((0:Int),((0:Int),(0:Int),(0:Int)),[]),(0:Int),(3:Int))) else (f84G K a0 (bs [10])).bind fun y1=>(bif (bif (a0 != ByteArray.empty) then (!y1.2) else false) then some (none,(((0:Int),((0:Int),(0:Int),(0:Int)),[]),(0:Int),(6:Int))) else (bif (a0 != ByteArray.empty) then (f85G K y1.1 (bs [10])).bind fun y2=>I5 y1 y2 (0:Int) (0:Int) (0:Int) (0:Int) (0:Int) (0:Int) [] [] else (bif (decide ((0:Int)<(2:Int))) then some (none,(((0:Int),((0:Int),(0:Int),(0:Int)),[]),(0:Int),(4:Int))) else (f36G K ((0:Int),(0:Int),((0:Int),(0:Int),(0:Int)),[],[])).bind fun y17=>(f87G K (0:Int) ((0:Int),(0:Int),(0:Int)) y17 [] (0:Int)).bind fun y18=>(bif (y18.2 != (0:Int)) then some (none,(((0:Int),((0:Int),(0:Int),(0:Int)),[]),(0:Int),(1:Int))) else some ((some ((0:Int),(0:Int),((0:Int),(0:Int),(0:Int)),[],[])),(y18.1,(0:Int),(0:Int))))))))
def f35G (a0:ByteArray):Option (Option (Int×Int×tL×(List tM)×List (tV×Int))×(Int×tL×List Int)×Int×Int) :=
  f35_g K a0 (fun c0 c1 d0 d1 d2 d3 d4 d5 d6 d7=>f35_l5 K a0 c0 c1 K d0 d1 d2 d3 d4 d5 d6 d7)
def f35M:CMdl:=⟨(.cons sI (.cons sI (.cons sL (.cons (.list 52 sM) (.list 170 (.cons sV sI)))))),[(.ro,.str)],[(.cons sI (.cons sL (.list 2 sI))),sI,sI],fun x=>f35G K x.1⟩
def f35_k5 (a0:ByteArray) (lr:LR (Option (Int×Int×tL×(List tM)×List (tV×Int))×(Int×tL×List Int)×Int×Int)):Ex→Fr→Option (Option (Int×Int×tL×(List tM)×List (tV×Int))×(Int×tL×List Int)×Int×Int) :=
  contC (f35E K) 0 lr f35C [1,1,1,1,1,0,1,0,1,0] (finC (f35E K) Tryz.f35 (.cons sI (.cons sI (.cons sL (.cons (.list 52 sM) (.list 170 (.cons sV sI)))))) [(.cons sI (.cons sL (.list 2 sI))),sI,sI])
def f35_j5 (a0:ByteArray) (lr:LR (Option (Int×Int×tL×(List tM)×List (tV×Int))×(Int×tL×List Int)×Int×Int)) (y1:ByteArray×Bool) (y2:List ByteArray) (bq6 bq7 bq8 bq9 bq10 bq11:Int) (bq12:List tM) (bq13:List (tV×Int)):Option (Option (Int×Int×tL×(List tM)×List (tV×Int))×(Int×tL×List Int)×Int×Int) :=
  lr (selC f35C [1,1,1,1,1,0,1,0,1,0,0]) (f35_fr5 a0 y1 y2 bq6 bq7 bq8 bq9 bq10 bq11 bq12 bq13) (f35_k5 K a0 lr)
def f8E:Env:=⟨[],tys,eqs,mts,K,[0,2,3,4,6,7,8],[],[],[],[(35,f35M K)],[],[],false⟩
def f8G (a0:ByteArray):Option ((Int×tL×List Int)×Int×Int) :=
  (f35G K a0).bind fun y1=>optK y1.1 (some y1.2) (fun z2=>some y1.2)
def f8M:Mdl:=⟨[(.ro,.str)],[(.cons sI (.cons sL (.list 2 sI))),sI,sI],fun x=>f8G K x.1⟩
def f9E:Env:=eE K [(15,f15M K),(16,f16M K)] [0,1,2,3,6]
def f9G (a0:Int×tL×List Int):Option ((Int×tL×List Int)×Int) :=
  (f15G K a0).bind fun y1=>(bif (!y1) then some (((0:Int),((0:Int),(0:Int),(0:Int)),[]),(1:Int)) else (f16G K a0).bind fun y2=>some (y2,(0:Int)))
def f9M:Mdl:=⟨[(.ro,(.cons sI (.cons sL (.list 2 sI))))],[(.cons sI (.cons sL (.list 2 sI))),sI],fun x=>f9G K x.1⟩
def f10E:Env:=⟨[(36,f36M K)],tys,eqs,mts,K,[0,2,3,4,7,16],[],[],[],[(35,f35M K)],[],[],false⟩
def f10G (a0:ByteArray):Option ((List tM)×Int) :=
  (f35G K a0).bind fun y1=>optK y1.1 ((bif (y1.2.2.2 != (0:Int)) then some ([],y1.2.2.2) else none)) (fun z2=>(bif (y1.2.2.2 != (0:Int)) then some ([],y1.2.2.2) else (f36G K z2).bind fun y3=>some (y3,(0:Int))))
def f10M:Mdl:=⟨[(.ro,.str)],[(.list 52 sM),sI],fun x=>f10G K x.1⟩
def f11E:Env:=eE K [(15,f15M K),(16,f16M K),(19,f19M K)] [0,1,2,3,6]
def f11G (a0:Int×tL×List Int):Option ((List tM)×Int) :=
  (f15G K a0).bind fun y1=>(bif (!y1) then some ([],(1:Int)) else (f16G K a0).bind fun y2=>(f19G K y2).bind fun y3=>some (y3,(0:Int)))
def f11M:Mdl:=⟨[(.ro,(.cons sI (.cons sL (.list 2 sI))))],[(.list 52 sM),sI],fun x=>f11G K x.1⟩
def f37E:Env:=eE K [] [0,1,4,5,10,14,25]
def f37_b2 (K:Nat) (a0 a1:List Int) (L2:Int→Option Bool) (q3:Int):Option Bool :=
  (bif (decide (q3<(a0.length:Int))) then (bif (decide (0≤q3)&&decide (q3<(a0.length:Int))) then (bif (decide (0≤q3)&&decide (q3<(a1.length:Int))) then (bif ((a0.getD ((0:Int)+q3).toNat (0:Int)) != (a1.getD ((0:Int)+q3).toNat (0:Int))) then some false else L2 (w (q3+(1:Int)))) else none) else none) else some true)
def f37_l2 (a0 a1:List Int) (n:Nat) (q3:Int):Option Bool :=
  iter (X:=Int) (fun L x=>f37_b2 K a0 a1 (fun v0=>L v0) x) n q3
def f37_g (K:Nat) (a0 a1:List Int) (I2:Int→Option Bool):Option Bool :=
  (bif ((a0.length:Int) != (a1.length:Int)) then some false else I2 (0:Int))
def f37G (a0 a1:List Int):Option Bool :=
  f37_g K a0 a1 (fun d0=>f37_l2 K a0 a1 K d0)
def f37M:Mdl:=⟨[(.ro,(.list 2 sI)),(.ro,(.list 2 sI))],[.bool],fun x=>f37G K x.1 x.2.1⟩
def f37_k2 (a0 a1:List Int) (lr:LR Bool):Ex→Fr→Option Bool :=
  contC (f37E K) 2 lr f37C [1,1,0,1,0] (fM (f37E K) Tryz.f37 (f37M K) (a0,a1,()))
def f37_j2 (a0 a1:List Int) (lr:LR Bool) (bq3:Int):Option Bool :=
  lr (selC f37C [1,1,0,1,0,0]) (f37_fr2 a0 a1 bq3) (f37_k2 K a0 a1 lr)
def f12E:Env:=eE K [(37,f37M K)] [0,1,2,3,4]
def f12G (a0 a1:Int×tL×List Int):Option Bool :=
  ((bif (bif (a0.1==a1.1) then ((a0.2.1.1==a1.2.1.1)&&((a0.2.1.2.1==a1.2.1.2.1)&&(a0.2.1.2.2==a1.2.1.2.2))) else false) then f37G K a0.2.2 a1.2.2 else some false)).bind fun y1=>some (bif (bif (a0.1==a1.1) then ((a0.2.1.1==a1.2.1.1)&&((a0.2.1.2.1==a1.2.1.2.1)&&(a0.2.1.2.2==a1.2.1.2.2))) else false) then y1 else false)
def f12M:Mdl:=⟨[(.ro,(.cons sI (.cons sL (.list 2 sI)))),(.ro,(.cons sI (.cons sL (.list 2 sI))))],[.bool],fun x=>f12G K x.1 x.2.1⟩
def f13E:Env:=eE K [] [0,1,4,5,10,14,25]
def f13_b2 (K:Nat) (a0 a1:List tM) (L2:Int→Option Bool) (q3:Int):Option Bool :=
  (bif (decide (q3<(a0.length:Int))) then (bif (decide (0≤q3)&&decide (q3<(a0.length:Int))) then (bif (decide (0≤q3)&&decide (q3<(a1.length:Int))) then (bif (!((((a0.getD ((0:Int)+q3).toNat zM).1).1==((a1.getD ((0:Int)+q3).toNat zM).1).1)&&(((((a0.getD ((0:Int)+q3).toNat zM).1).2).1==(((a1.getD ((0:Int)+q3).toNat zM).1).2).1)&&((((((a0.getD ((0:Int)+q3).toNat zM).1).2).2).1==((((a1.getD ((0:Int)+q3).toNat zM).1).2).2).1)&&((((((a0.getD ((0:Int)+q3).toNat zM).1).2).2).2==((((a1.getD ((0:Int)+q3).toNat zM).1).2).2).2)&&((((a0.getD ((0:Int)+q3).toNat zM).2).1==((a1.getD ((0:Int)+q3).toNat zM).2).1)&&(((a0.getD ((0:Int)+q3).toNat zM).2).2==((a1.getD ((0:Int)+q3).toNat zM).2).2))))))) then some false else L2 (w (q3+(1:Int)))) else none) else none) else some true)
def f13_l2 (a0 a1:List tM) (n:Nat) (q3:Int):Option Bool :=
  iter (X:=Int) (fun L x=>f13_b2 K a0 a1 (fun v0=>L v0) x) n q3
def f13_g (K:Nat) (a0 a1:List tM) (I2:Int→Option Bool):Option Bool :=
  (bif ((a0.length:Int) != (a1.length:Int)) then some false else I2 (0:Int))
def f13G (a0 a1:List tM):Option Bool :=
  f13_g K a0 a1 (fun d0=>f13_l2 K a0 a1 K d0)
def f13M:Mdl:=⟨[(.ro,(.list 52 sM)),(.ro,(.list 52 sM))],[.bool],fun x=>f13G K x.1 x.2.1⟩
def f13_k2 (a0 a1:List tM) (lr:LR Bool):Ex→Fr→Option Bool :=
  contC (f13E K) 2 lr f13C [1,1,0,1,0] (fM (f13E K) Tryz.f13 (f13M K) (a0,a1,()))
def f13_j2 (a0 a1:List tM) (lr:LR Bool) (bq3:Int):Option Bool :=
  lr (selC f13C [1,1,0,1,0,0]) (f13_fr2 a0 a1 bq3) (f13_k2 K a0 a1 lr)
def f3E:Env:=eE K [(4,f4M K),(5,f5M K),(6,f6M K),(7,f7M K),(8,f8M K),(9,f9M K),(10,f10M K),(11,f11M K),(12,f12M K),(13,f13M K)] [0,2,3,4,5,6,7,8,9,10,11,12,13,14,15,16,18,38,40]
def f3G (a0:List Int):Option Bool :=
  (f4G K a0).bind fun y1=>(bif y1 then some true else (f5G K a0).bind fun y2=>(f6G K y2).bind fun y3=>(f7G K y2).bind fun y4=>(bif (bif (y3.2 != y4.2) then true else (y3.1 != y4.1)) then some false else (bif (y3.2 != (0:Int)) then some true else (f8G K y3.1).bind fun y5=>(f9G K y2).bind fun y6=>(f10G K y3.1).bind fun y7=>(f11G K y2).bind fun y8=>((bif (bif (bif (y5.2.2==(0:Int)) then (y5.2.1==(0:Int)) else false) then (y6.2==(0:Int)) else false) then f12G K y5.1 y6.1 else some false)).bind fun y9=>((bif (bif (bif (bif (bif (bif (y5.2.2==(0:Int)) then (y5.2.1==(0:Int)) else false) then (y6.2==(0:Int)) else false) then y9 else false) then (y7.2==(0:Int)) else false) then (y8.2==(0:Int)) else false) then f13G K y7.1 y8.1 else some false)).bind fun y10=>some (bif (bif (bif (bif (bif (bif (y5.2.2==(0:Int)) then (y5.2.1==(0:Int)) else false) then (y6.2==(0:Int)) else false) then y9 else false) then (y7.2==(0:Int)) else false) then (y8.2==(0:Int)) else false) then y10 else false))))
def f3M:Mdl:=⟨[(.ro,(.list 5 (.int .u8)))],[.bool],fun x=>f3G K x.1⟩
end
end Go.Proofs.YtelgaemfnhnbmaaGreatDoor.X
