/- Functions of the program as plain Lean functions, and that the program does what they say. Printed by gen.py. -/
import Derived.Test.YteheolldcpjkcaaGreatQzXLoop
import Derived.Test.YteheolldcpjkcaaGreatQzXLib
import Derived.Test.YteheolldcpjkcaaGreatQzXDel
import Derived.Test.YteheolldcpjkcaaGreatProg
namespace Go.Proofs.YteheolldcpjkcaaGreat.X
open Go
set_option maxRecDepth 100000
attribute [local instance] cwD
set_option linter.unusedVariables false
abbrev tM:Type:=((Int×Int×Int×Int)×Int×Int)
abbrev tA:Type:=(Int×Int×Int×Int)
abbrev tL:Type:=(Int×Int×Int)
abbrev tV:Type:=(Int×Int)
abbrev sM:Sh:=(.cons (.cons (.int .i64) (.cons (.int .i64) (.cons (.int .i64) (.int .i64)))) (.cons (.int .i64) (.int .i64)))
abbrev sA:Sh:=(.cons (.int .i64) (.cons (.int .i64) (.cons (.int .i64) (.int .i64))))
abbrev sL:Sh:=(.cons (.int .i64) (.cons (.int .i64) (.int .i64)))
abbrev sV:Sh:=(.cons (.int .i64) (.int .i64))
abbrev sI:Sh:=(.int .i64)
abbrev zM:tM:=(((0:Int),((0:Int),((0:Int),(0:Int)))),((0:Int),(0:Int)))
abbrev zA:tA:=((0:Int),((0:Int),((0:Int),(0:Int))))
noncomputable section
def tys:List (Nat×Ty):=[(2,.sc sI),(3,.sc sI),(4,.sc .bool),(9,.sc .str),(23,.st sL [(0,1),(1,1),(2,1)]),(24,.sl 96 sM 48),(26,.st sV [(0,1),(1,1)]),(30,.st sL [(0,1),(1,1),(2,1)]),(32,.sl 59 sM 48),(34,.st sV [(0,1),(1,1)]),(46,.sl 2 sI 8),(57,.st sA [(0,1),(1,1),(2,1),(3,1)]),(59,.st sM [(0,4),(4,2)]),(60,.sl 135 (.cons sV sI) 24),(62,.sl 87 (.list 34 sV) 24),(65,.sl 84 (.cons sV sI) 24),(84,.st (.cons sV sI) [(0,2),(2,1)]),(87,.sl 34 sV 16),(90,.sl 32 (.list 59 sM) 24),(94,.st sA [(0,1),(1,1),(2,1),(3,1)]),(96,.st sM [(0,4),(4,2)]),(124,.sc (.int .u64)),(135,.st (.cons sV sI) [(0,2),(2,1)]),(202,.sl 57 sA 32)]
def eqs:List (Nat×List Sh):=[(30,[sI,sI,sI]),(34,[sI,sI]),(57,[sI,sI,sI,sI]),(59,[sI,sI,sI,sI,sI,sI])]
def mts:List (Nat×MTy):=[(249,⟨59,4,sM,.bool⟩)]
theorem QE:Zx Tryz.prog tys eqs mts=true:=by kernel_rfl
theorem Jj:Tryz.prog.follows .mixedOrders=true:=by kernel_rfl
def eE (K:Nat) (l:List (Nat×Mdl)) (k:List Nat):Env:=⟨l,tys,eqs,mts,K,k,[],[],[],[],[],[],false⟩
abbrev rM (E:Env) (f:Func) (m:Mdl) (x:AT m.ps):=Od E f m.ps m.rs x
abbrev fM (E:Env) (f:Func) (m:Mdl) (x:AT m.ps):=AhK E f m.ps m.rs x
theorem Ar {X R:Type} {E:Env} {n0:Nat} {S:Code} {fr0:Fr} {k:Ex→Fr→Option R} (frame:X→Fr) {body:(X→Option R)→X→Option R} (h:∀ (L:Fr→Option R) x,CL E n0 (Af E n0) S (frame x) (Fd n0 fr0 L k)=body (fun x=>L (frame x)) x) (n:Nat) (x:X):EL (CQ E n0 S) n0 fr0 n (frame x) k=AL body n x :=
  Kn (fun L x=>(Gc E n0 S _ _).trans (h L x)) n x
def jI (n:Int):Lf:=.int .i64 n
def jV (v:Int×Int):List Lf:=[jI v.1,jI v.2]
def jL (l:Int×Int×Int):List Lf:=[jI l.1,jI l.2.1,jI l.2.2]
def jA (m:Int×Int×Int×Int):List Lf:=[jI m.1,jI m.2.1,jI m.2.2.1,jI m.2.2.2]
def jM (m:tA×Int×Int):List Lf:=[jI m.1.1,jI m.1.2.1,jI m.1.2.2.1,jI m.1.2.2.2,jI m.2.1,jI m.2.2]
def AfZ:Code:=Ax Tryz.f10
def R9 (a0:List tM) (q4:Int) (q5:List tM):Fr:=⟨23,[(0,.v false [.row 0]),(2,.v false [.row 1]),(3,.v false [.row 2]),(4,.v false [jI q4])],[],[some ⟨96,sM,a0,.ro⟩,some ⟨59,sM,[],.own⟩,some ⟨59,sM,q5,.own⟩]⟩
def Af0:Code:=Ax Tryz.f25
def Sa (a0:List (tV×Int)) (q4:Int) (q5:List (tV×Int)):Fr:=⟨23,[(0,.v false [.row 0]),(2,.v false [.row 1]),(3,.v false [.row 2]),(4,.v false [jI q4])],[],[some ⟨135,(.cons sV sI),a0,.ro⟩,some ⟨84,(.cons sV sI),[],.own⟩,some ⟨84,(.cons sV sI),q5,.own⟩]⟩
def Af1:Code:=Ax Tryz.f43
def Sb (a0:List (tV×Int)) (q5:Int):Fr:=⟨29,[(0,.v false [.row 0]),(2,.v false [.bool false]),(3,.v false [jI q5])],[],[some ⟨84,(.cons sV sI),a0,.ro⟩]⟩
def Sc:Code:=Ax Tryz.f251
def K6 (a0:List tV) (q11 q12 q16 q17 q18 q19:Int):Fr:=⟨74,[(0,.v false [.row 0]),(2,.v false [.box 0 0]),(3,.v false [.box 1 0]),(4,.v false [jI q11]),(5,.v false [jI q12]),(6,.v false [.box 2 0]),(13,.v false [.bool (decide (q12<(a0.length:Int)))])],[some ⟨true,[jI (0:Int),jI (0:Int),jI (0:Int)]⟩,some ⟨true,[jI q16,jI q17]⟩,some ⟨true,[jI q18,jI q19]⟩],[some ⟨34,sV,a0,.ro⟩]⟩
def DK (a0:List tV) (q11 q12 q13 q14:Int):Fr:=⟨74,[(0,.v false [.row 0]),(2,.v false [.box 0 0]),(3,.v false [.box 1 0]),(4,.v false [jI q11]),(5,.v false [jI q12])],[some ⟨true,[jI (0:Int),jI (0:Int),jI (0:Int)]⟩,some ⟨true,[jI q13,jI q14]⟩],[some ⟨34,sV,a0,.ro⟩]⟩
def Af2:Code:=Ax Tryz.f71
def Sd (a0 a1:List Int) (q3:Int):Fr:=⟨41,[(0,.v false [.row 0]),(1,.v false [.row 1]),(4,.v false [.bool false]),(5,.v false [jI q3])],[],[some ⟨2,sI,a0,.ro⟩,some ⟨2,sI,a1,.ro⟩]⟩
def AcP:Code:=Ax Tryz.f181
def Oe (a0:List tM) (a1:tA×Int×Int) (q7 q8:Int):Fr:=⟨27,[(0,.v false [.row 0]),(1,.v true (jM a1)),(3,.v false [.box 0 0]),(4,.v false [jI (0:Int)]),(5,.v false [jI q7]),(6,.v false [jI q8])],[some ⟨true,(jM a1)⟩],[some ⟨59,sM,a0,.ro⟩]⟩
def UF:Code:=Ax Tryz.f66
def Of (a0:Int) (a1:Int×Int×Int) (a2:List tM) (q7 q24 y1:Int) (y12:Bool) (q26:Int):Fr:=⟨93,[(0,.v false [jI a0]),(1,.v true (jL a1)),(2,.v false [.row 0]),(4,.v false [.box 0 0]),(6,.v false [.bool false]),(7,.v false [jI q7]),(8,.v false [jI q24]),(9,.v false [jI q26]),(18,.v false [.bool (bif (y1 != (0:Int)) then true else (decide ((a2.length:Int)>(768:Int))))]),(22,.v false [.bool (decide (q7<(a2.length:Int)))]),(66,.v false [.bool (!y12)]),(70,.v false [.bool (decide (q24<(a2.length:Int)))])],[some ⟨true,(jL a1)⟩],[some ⟨59,sM,a2,.ro⟩]⟩
def EM (a0:Int) (a1:Int×Int×Int) (a2:List tM) (q7 y1:Int) (y12:Bool) (q24:Int):Fr:=⟨93,[(0,.v false [jI a0]),(1,.v true (jL a1)),(2,.v false [.row 0]),(4,.v false [.box 0 0]),(6,.v false [.bool false]),(7,.v false [jI q7]),(8,.v false [jI q24]),(18,.v false [.bool (bif (y1 != (0:Int)) then true else (decide ((a2.length:Int)>(768:Int))))]),(22,.v false [.bool (decide (q7<(a2.length:Int)))]),(66,.v false [.bool (!y12)])],[some ⟨true,(jL a1)⟩],[some ⟨59,sM,a2,.ro⟩]⟩
def MJ (a0:Int) (a1:Int×Int×Int) (a2:List tM) (y1 q7:Int):Fr:=⟨93,[(0,.v false [jI a0]),(1,.v true (jL a1)),(2,.v false [.row 0]),(4,.v false [.box 0 0]),(6,.v false [.bool false]),(7,.v false [jI q7]),(18,.v false [.bool (bif (y1 != (0:Int)) then true else (decide ((a2.length:Int)>(768:Int))))])],[some ⟨true,(jL a1)⟩],[some ⟨59,sM,a2,.ro⟩]⟩
def ZC:Code:=Ax Tryz.f67
def Se (a0:Int×Int×Int) (q7 q10:Int) (q11:List tV):Fr:=⟨26,[(0,.v true (jL a0)),(1,.v false [.box 0 0]),(2,.v false [.row 0]),(3,.v false [.row 1]),(4,.v false [jI q7]),(5,.v false [jI q10]),(10,.v false [.bool (decide (q7<a0.1))])],[some ⟨true,(jL a0)⟩],[some ⟨34,sV,[],.own⟩,some ⟨34,sV,q11,.own⟩]⟩
def Gt (a0:Int×Int×Int) (q7:Int) (q8:List tV):Fr:=⟨26,[(0,.v true (jL a0)),(1,.v false [.box 0 0]),(2,.v false [.row 0]),(3,.v false [.row 1]),(4,.v false [jI q7])],[some ⟨true,(jL a0)⟩],[some ⟨34,sV,[],.own⟩,some ⟨34,sV,q8,.own⟩]⟩
def AcQ:Code:=Ax Tryz.f183
def Og (a0:List tV) (a1:Int×Int) (q4:Int):Fr:=⟨45,[(0,.v false [.row 0]),(1,.v true (jV a1)),(3,.v false [.box 0 0]),(4,.v false [.row 1]),(5,.v false [jI q4])],[some ⟨true,(jV a1)⟩],[some ⟨34,sV,a0,.own⟩,some ⟨34,sV,[],.own⟩]⟩
def AcR:Code:=Ax Tryz.f119
def Oh (a0:Int×Int×Int) (a1:List tM) (a2:Int×Int) (q5:Int) (q6:List tV):Fr:=⟨26,[(0,.v true (jL a0)),(1,.v false [.row 0]),(2,.v true (jV a2)),(3,.v false [.box 0 0]),(5,.v false [.box 1 0]),(6,.v false [.row 1]),(7,.v false [.row 2]),(8,.v false [jI q5])],[some ⟨true,(jL a0)⟩,some ⟨true,(jV a2)⟩],[some ⟨59,sM,a1,.ro⟩,some ⟨34,sV,[],.own⟩,some ⟨34,sV,q6,.own⟩]⟩
def Af3:Code:=Ax Tryz.f79
def Sf (a0:Int×Int×Int) (a1:List tM) (y1:List tV) (q5:Int) (q6:List (List tV)):Fr:=⟨38,[(0,.v true (jL a0)),(1,.v false [.row 0]),(2,.v false [.box 0 0]),(4,.v false [.row 1]),(5,.v false [.row 2]),(6,.v false [.row 3]),(7,.v false [jI q5])],[some ⟨true,(jL a0)⟩],[some ⟨59,sM,a1,.ro⟩,some ⟨87,(.list 34 sV),[],.own⟩,some ⟨34,sV,y1,.own⟩,some ⟨87,(.list 34 sV),q6,.own⟩]⟩
def Af4:Code:=Ax Tryz.f80
def Si (a0:List tV) (a1:Int×Int) (q3:Int):Fr:=⟨18,[(0,.v false [.row 0]),(1,.v true (jV a1)),(3,.v false [.box 0 0]),(4,.v false [.bool false]),(5,.v false [jI q3])],[some ⟨true,(jV a1)⟩],[some ⟨34,sV,a0,.ro⟩]⟩
def ZD:Code:=Ax Tryz.f24
def Oi (a0:Int) (a1:Int×Int×Int) (a2:List tM) (a3:List (tV×Int)) (q13:Int) (q14:List (Option (List tV))) (q15:List (List tV)) (y1:Int) (q17:Bool) (q18:Int):Fr:=⟨65,[(0,.v false [jI a0]),(1,.v true (jL a1)),(2,.v false [.row 0]),(3,.v false [.row 1]),(5,.v false [.box 0 0]),(8,.v false [.row 2]),(9,.v false [jI (0:Int)]),(10,.v false [jI y1]),(11,.v false [.row 3]),(12,.v false [.row 4]),(13,.v false [jI q13]),(14,.v false [.bool q17]),(15,.v false [jI q18]),(22,.v false [.bool (y1 != (0:Int))]),(31,.v false [.bool (decide (q13<(q14.length:Int)))])],[some ⟨true,(jL a1)⟩],[some ⟨59,sM,a2,.ro⟩,some ⟨84,(.cons sV sI),a3,.ro⟩,some ⟨87,(.list 34 sV),[],.own⟩,some ⟨87,(.ol 34 sV),q14,.own⟩,some ⟨87,(.list 34 sV),q15,.own⟩]⟩
def EN (a0:Int) (a1:Int×Int×Int) (a2:List tM) (a3:List (tV×Int)) (y1 q13:Int) (q14:List (Option (List tV))) (q15:List (List tV)):Fr:=⟨65,[(0,.v false [jI a0]),(1,.v true (jL a1)),(2,.v false [.row 0]),(3,.v false [.row 1]),(5,.v false [.box 0 0]),(8,.v false [.row 2]),(9,.v false [jI (0:Int)]),(10,.v false [jI y1]),(11,.v false [.row 3]),(12,.v false [.row 4]),(13,.v false [jI q13]),(22,.v false [.bool (y1 != (0:Int))])],[some ⟨true,(jL a1)⟩],[some ⟨59,sM,a2,.ro⟩,some ⟨84,(.cons sV sI),a3,.ro⟩,some ⟨87,(.list 34 sV),[],.own⟩,some ⟨87,(.ol 34 sV),q14,.own⟩,some ⟨87,(.list 34 sV),q15,.own⟩]⟩
def AcS:Code:=Ax Tryz.f158
def Oj (a0 q9:Int) (q10:List tA):Fr:=⟨61,[(0,.v false [jI a0]),(2,.v false [.row 0]),(3,.v false [.row 1]),(10,.v false [jI q9])],[],[some ⟨57,sA,[],.own⟩,some ⟨57,sA,q10,.own⟩]⟩
def AcT:Code:=Ax Tryz.f274
def Ok (a0:List tA) (a1:(tA→Option Bool)) (q4:Int):Fr:=⟨19,[(0,.v false [.row 0]),(1,.v false [.fv1 sA .bool a1]),(4,.v false [jI (0:Int)]),(7,.v false [jI (a0.length:Int)]),(8,.v false [jI q4])],[],[some ⟨57,sA,a0,.ro⟩]⟩
def AcU:Code:=Ax Tryz.f257
def Ol (a1:(tA→Option Bool)) (y1 q5 q6:Int) (q7:List tA):Fr:=⟨42,[(0,.v false [.row 0]),(1,.v false [.fv1 sA .bool a1]),(4,.v false [.row 1]),(5,.v false [jI q5]),(6,.v false [jI q6]),(12,.v false [.bool (y1==(-1:Int))])],[],[some ⟨57,sA,q7,.own⟩,some ⟨57,sA,[],.own⟩]⟩
def AcV:Code:=Ax Tryz.f212
def Om (a0:List tA) (a1:Int×Int×Int×Int) (q3:Int):Fr:=⟨19,[(0,.v false [.row 0]),(1,.v true (jA a1)),(3,.v false [.box 0 0]),(4,.v false [jI (0:Int)]),(7,.v false [jI (a0.length:Int)]),(8,.v false [jI q3])],[some ⟨true,(jA a1)⟩],[some ⟨57,sA,a0,.ro⟩]⟩
def AcW:Code:=Ax Tryz.f190
def On (a0 a1:List Int) (q3:Int):Fr:=⟨30,[(0,.v false [.row 0]),(1,.v false [.row 1]),(4,.v false [jI (0:Int)]),(7,.v false [jI (a0.length:Int)]),(8,.v false [jI q3])],[],[some ⟨2,sI,a0,.ro⟩,some ⟨2,sI,a1,.ro⟩]⟩
def K7:Code:=Ax Tryz.f186
def K8 (a0:Int) (a1:Int×Int×Int) (a2:List tM) (q7:Int) (q8:List (tM×Bool)) (q22:Int) (y1:List tA) (y12:Int×Int×Int×Int) (q24:Int):Fr:=⟨84,[(0,.v false [jI a0]),(1,.v true (jL a1)),(2,.v false [.row 0]),(4,.v false [.box 0 0]),(6,.v false [.bool false]),(7,.v false [.row 1]),(8,.v false [.mp 1]),(12,.v false [.box 2 0]),(19,.v false [.row 0]),(20,.v false [jI (a2.length:Int)]),(21,.v false [jI q7]),(22,.v false [.bool (decide (q7<(a2.length:Int)))]),(61,.v false [.bool (!((BN (AO sM) q8 (y12,(0:Int),(0:Int))).getD false))]),(62,.v false [.row 0]),(63,.v false [jI (a2.length:Int)]),(64,.v false [jI q22]),(65,.v false [.bool (decide (q22<(a2.length:Int)))]),(68,.v false [.row 0]),(69,.v false [jI (a2.length:Int)]),(70,.v false [jI q24])],[some ⟨true,(jL a1)⟩,some ⟨true,[.mc sM .bool q8]⟩,some ⟨true,[jI (((a2.getD ((0:Int)+q22).toNat zM).1).1),jI ((((a2.getD ((0:Int)+q22).toNat zM).1).2).1),jI (((((a2.getD ((0:Int)+q22).toNat zM).1).2).2).1),jI (((((a2.getD ((0:Int)+q22).toNat zM).1).2).2).2),jI (((a2.getD ((0:Int)+q22).toNat zM).2).1),jI (((a2.getD ((0:Int)+q22).toNat zM).2).2)]⟩],[some ⟨59,sM,a2,.ro⟩,some ⟨57,sA,y1,.own⟩]⟩
def DL (a0:Int) (a1:Int×Int×Int) (a2:List tM) (q7:Int) (q8:List (tM×Bool)) (y1:List tA) (y12:Int×Int×Int×Int) (q22:Int):Fr:=⟨84,[(0,.v false [jI a0]),(1,.v true (jL a1)),(2,.v false [.row 0]),(4,.v false [.box 0 0]),(6,.v false [.bool false]),(7,.v false [.row 1]),(8,.v false [.mp 1]),(19,.v false [.row 0]),(20,.v false [jI (a2.length:Int)]),(21,.v false [jI q7]),(22,.v false [.bool (decide (q7<(a2.length:Int)))]),(61,.v false [.bool (!((BN (AO sM) q8 (y12,(0:Int),(0:Int))).getD false))]),(62,.v false [.row 0]),(63,.v false [jI (a2.length:Int)]),(64,.v false [jI q22])],[some ⟨true,(jL a1)⟩,some ⟨true,[.mc sM .bool q8]⟩],[some ⟨59,sM,a2,.ro⟩,some ⟨57,sA,y1,.own⟩]⟩
def Jk (a0:Int) (a1:Int×Int×Int) (a2:List tM) (y1:List tA) (q7:Int) (q8:List (tM×Bool)):Fr:=⟨84,[(0,.v false [jI a0]),(1,.v true (jL a1)),(2,.v false [.row 0]),(4,.v false [.box 0 0]),(6,.v false [.bool false]),(7,.v false [.row 1]),(8,.v false [.mp 1]),(19,.v false [.row 0]),(20,.v false [jI (a2.length:Int)]),(21,.v false [jI q7])],[some ⟨true,(jL a1)⟩,some ⟨true,[.mc sM .bool q8]⟩],[some ⟨59,sM,a2,.ro⟩,some ⟨57,sA,y1,.own⟩]⟩
def AcX:Code:=Ax Tryz.f121
def Oo (a0:Int) (a1:Int×Int×Int) (a2:List (List tM)) (y1 q5:Int):Fr:=⟨28,[(0,.v false [jI a0]),(1,.v true (jL a1)),(2,.v false [.row 0]),(4,.v false [.box 0 0]),(6,.v false [jI (0:Int)]),(7,.v false [jI y1]),(14,.v false [.bool (y1 != (0:Int))]),(16,.v false [.row 0]),(17,.v false [jI (a2.length:Int)]),(18,.v false [jI q5])],[some ⟨true,(jL a1)⟩],[some ⟨32,(.list 59 sM),a2,.ro⟩]⟩
def AcY:Code:=Ax Tryz.f168
def Oq (a0:List (tV×Int)) (a1:((tV×Int)→Option Bool)) (q4:Int):Fr:=⟨19,[(0,.v false [.row 0]),(1,.v false [.fv1 (.cons sV sI) .bool a1]),(4,.v false [jI (0:Int)]),(7,.v false [jI (a0.length:Int)]),(8,.v false [jI q4])],[],[some ⟨84,(.cons sV sI),a0,.ro⟩]⟩
def AcZ:Code:=Ax Tryz.f166
def Ot (a0:List Int) (a1:Int) (y1:Int×Int) (q4:Int) (q5:List Int):Fr:=⟨48,[(0,.v false [.row 0]),(1,.v false [jI a1]),(4,.v false [.row 1]),(5,.v false [.int .u64 y1.1]),(6,.v false [.int .u64 y1.2]),(7,.v false [.row 2]),(8,.v false [jI q4]),(10,.v false [.bool (decide (a1<(0:Int)))]),(26,.v false [.bool (bif (decide (y1.1>(0:Int))) then true else (decide (y1.2>(9223372036854775807:Int))))])],[],[some ⟨2,sI,a0,.ro⟩,some ⟨2,sI,[],.own⟩,some ⟨2,sI,q5,.own⟩]⟩
def ZE:Code:=Ax Tryz.f99
def Sj (a0:Int×Int×Int) (q7 q10:Int) (q11:List tV):Fr:=⟨26,[(0,.v true (jL a0)),(1,.v false [.box 0 0]),(2,.v false [.row 0]),(3,.v false [.row 1]),(4,.v false [jI q7]),(8,.v false [jI a0.1]),(9,.v false [jI q7]),(10,.v false [.bool (decide (q7<a0.1))]),(13,.v false [jI a0.2.2]),(14,.v false [jI q10])],[some ⟨true,(jL a0)⟩],[some ⟨34,sV,[],.own⟩,some ⟨34,sV,q11,.own⟩]⟩
def Gu (a0:Int×Int×Int) (q7:Int) (q8:List tV):Fr:=⟨26,[(0,.v true (jL a0)),(1,.v false [.box 0 0]),(2,.v false [.row 0]),(3,.v false [.row 1]),(8,.v false [jI a0.1]),(9,.v false [jI q7])],[some ⟨true,(jL a0)⟩],[some ⟨34,sV,[],.own⟩,some ⟨34,sV,q8,.own⟩]⟩
def Sk:Code:=Ax Tryz.f128
def Ou (a0:List tV) (q8 q10 q11:Int) (q12:List tV):Fr:=⟨61,[(0,.v false [.row 0]),(2,.v false [.row 1]),(3,.v false [jI q10]),(4,.v false [.view 0 ((0:Int)+q8) ((0:Int)+(a0.length:Int))]),(5,.v false [jI q11]),(8,.v false [.bool (decide ((a0.length:Int)<(2:Int)))]),(13,.v false [.bool (decide (q8<(a0.length:Int)))]),(25,.v false [.bool (((a0.getD ((0:Int)+q8).toNat ((0:Int),(0:Int))).1==(a0.getD ((0:Int)+(w (q8-(1:Int)))).toNat ((0:Int),(0:Int))).1)&&((a0.getD ((0:Int)+q8).toNat ((0:Int),(0:Int))).2==(a0.getD ((0:Int)+(w (q8-(1:Int)))).toNat ((0:Int),(0:Int))).2))])],[],[some ⟨34,sV,q12,.own⟩,some ⟨34,sV,[],.own⟩]⟩
def Gv (a0:List tV) (q8:Int):Fr:=⟨61,[(0,.v false [.row 0]),(2,.v false [.row 1]),(3,.v false [jI q8]),(8,.v false [.bool (decide ((a0.length:Int)<(2:Int)))])],[],[some ⟨34,sV,a0,.own⟩,some ⟨34,sV,[],.own⟩]⟩
def Af5:Code:=Ax Tryz.f52
def Sl (a0:Int×Int×Int) (a1:List tM) (a2:Int×Int) (q4:Int) (q5:List tV):Fr:=⟨29,[(0,.v true (jL a0)),(1,.v false [.row 0]),(2,.v true (jV a2)),(3,.v false [.box 0 0]),(5,.v false [.box 1 0]),(6,.v false [.row 1]),(7,.v false [.row 2]),(11,.v false [.row 0]),(12,.v false [jI (a1.length:Int)]),(13,.v false [jI q4])],[some ⟨true,(jL a0)⟩,some ⟨true,(jV a2)⟩],[some ⟨59,sM,a1,.ro⟩,some ⟨34,sV,[],.own⟩,some ⟨34,sV,q5,.own⟩]⟩
def ZF:Code:=Ax Tryz.f84
def Ov (a0:Int×Int×Int) (a1:List tM) (q17:Int) (q18:List (List tV)) (q19:List Int) (y3:List tV) (y20:Int) (y21:List tV) (q23:Int) (q24:List Int):Fr:=⟨57,[(0,.v true (jL a0)),(1,.v false [.row 0]),(2,.v false [.box 0 0]),(4,.v false [.row 1]),(5,.v false [.row 2]),(6,.v false [.row 3]),(7,.v false [.row 4]),(9,.v false [.box 1 0]),(10,.v false [.row 5]),(19,.v false [.row 6]),(20,.v false [jI (y3.length:Int)]),(21,.v false [jI q17]),(22,.v false [.bool (decide (q17<(y3.length:Int)))]),(31,.v false [.bool (decide ((q19.getD ((0:Int)+y20).toNat (0:Int))≥(0:Int)))]),(36,.v false [.row 5]),(37,.v false [jI (y21.length:Int)]),(38,.v false [jI q23])],[some ⟨true,(jL a0)⟩,some ⟨true,[jI ((y3.getD ((0:Int)+q17).toNat ((0:Int),(0:Int))).1),jI ((y3.getD ((0:Int)+q17).toNat ((0:Int),(0:Int))).2)]⟩],[some ⟨59,sM,a1,.ro⟩,some ⟨87,(.list 34 sV),[],.own⟩,some ⟨2,sI,[],.own⟩,some ⟨87,(.list 34 sV),q18,.own⟩,some ⟨2,sI,q24,.own⟩,some ⟨34,sV,y21,.own⟩,some ⟨34,sV,y3,.own⟩]⟩
def EO (a0:Int×Int×Int) (a1:List tM) (y3:List tV) (q17:Int) (q18:List (List tV)) (q19:List Int):Fr:=⟨57,[(0,.v true (jL a0)),(1,.v false [.row 0]),(2,.v false [.box 0 0]),(4,.v false [.row 1]),(5,.v false [.row 2]),(6,.v false [.row 3]),(7,.v false [.row 4]),(19,.v false [.row 5]),(20,.v false [jI (y3.length:Int)]),(21,.v false [jI q17])],[some ⟨true,(jL a0)⟩],[some ⟨59,sM,a1,.ro⟩,some ⟨87,(.list 34 sV),[],.own⟩,some ⟨2,sI,[],.own⟩,some ⟨87,(.list 34 sV),q18,.own⟩,some ⟨2,sI,q19,.own⟩,some ⟨34,sV,y3,.own⟩]⟩
def Ac0:Code:=Ax Tryz.f169
def Ow (a0:List tV) (a1:Int×Int) (q3:Int):Fr:=⟨19,[(0,.v false [.row 0]),(1,.v true (jV a1)),(3,.v false [.box 0 0]),(4,.v false [jI (0:Int)]),(7,.v false [jI (a0.length:Int)]),(8,.v false [jI q3])],[some ⟨true,(jV a1)⟩],[some ⟨34,sV,a0,.ro⟩]⟩
def Af6:Code:=Ax Tryz.f91
def Sn (a0 a1:List tV) (q4:Int):Fr:=⟨27,[(0,.v false [.row 0]),(1,.v false [.row 1]),(4,.v false [.bool false]),(5,.v false [jI q4]),(10,.v false [.bool ((a0.length:Int) != (a1.length:Int))])],[],[some ⟨34,sV,a0,.ro⟩,some ⟨34,sV,a1,.ro⟩]⟩
def Af7:Code:=Ax Tryz.f27
def So (a0 a1:List (List tV)) (q4:Int):Fr:=⟨27,[(0,.v false [.row 0]),(1,.v false [.row 1]),(4,.v false [.bool false]),(5,.v false [jI q4]),(10,.v false [.bool ((a0.length:Int) != (a1.length:Int))])],[],[some ⟨87,(.list 34 sV),a0,.ro⟩,some ⟨87,(.list 34 sV),a1,.ro⟩]⟩
def Af8:Code:=Ax Tryz.f13
def Sp (a0 a1:List tM) (q4:Int):Fr:=⟨27,[(0,.v false [.row 0]),(1,.v false [.row 1]),(4,.v false [.bool false]),(5,.v false [jI q4]),(10,.v false [.bool ((a0.length:Int) != (a1.length:Int))])],[],[some ⟨59,sM,a0,.ro⟩,some ⟨59,sM,a1,.ro⟩]⟩
def Af9:Code:=Ax Tryz.f28
def Sq (a0 a1:List (tV×Int)) (q4:Int):Fr:=⟨27,[(0,.v false [.row 0]),(1,.v false [.row 1]),(4,.v false [.bool false]),(5,.v false [jI q4]),(10,.v false [.bool ((a0.length:Int) != (a1.length:Int))])],[],[some ⟨84,(.cons sV sI),a0,.ro⟩,some ⟨84,(.cons sV sI),a1,.ro⟩]⟩
def Aga:Code:=Ax Tryz.f29
def Sr (q3 q4:Int) (q5:List tM):Fr:=⟨61,[(0,.v false [.row 0]),(1,.v false [jI q3]),(4,.v false [jI (0:Int)]),(5,.v false [jI q4])],[],[some ⟨59,sM,q5,.io⟩]⟩
def Agb:Code:=Ax Tryz.f30
def Ss (q3 q4:Int) (q5:List (tV×Int)):Fr:=⟨36,[(0,.v false [.row 0]),(1,.v false [jI q3]),(4,.v false [jI (0:Int)]),(5,.v false [jI q4])],[],[some ⟨84,(.cons sV sI),q5,.io⟩]⟩
def Agc:Code:=Ax Tryz.f93
def St (q3 q4:Int) (q5:List tV):Fr:=⟨27,[(0,.v false [.row 0]),(1,.v false [jI q3]),(4,.v false [jI (0:Int)]),(5,.v false [jI q4])],[],[some ⟨34,sV,q5,.io⟩]⟩
def Agd:Code:=Ax Tryz.f31
def Su (q4 q5:Int) (q6:List (List tV)):Fr:=⟨19,[(0,.v false [.row 0]),(1,.v false [jI q4]),(4,.v false [jI (0:Int)]),(5,.v false [jI q5])],[],[some ⟨87,(.list 34 sV),q6,.io⟩]⟩
def Age:Code:=Ax Tryz.f94
def Sw (a0:List tV) (q3 q4:Int):Fr:=⟨31,[(0,.v false [.row 0]),(1,.v false [jI q3]),(4,.v false [jI (0:Int)]),(5,.v false [jI q4])],[],[some ⟨34,sV,a0,.ro⟩]⟩
def Agf:Code:=Ax Tryz.f32
def Sx (a0:List (List tV)) (q4 q5:Int):Fr:=⟨21,[(0,.v false [.row 0]),(1,.v false [jI q4]),(4,.v false [jI (0:Int)]),(5,.v false [jI q5])],[],[some ⟨87,(.list 34 sV),a0,.ro⟩]⟩
variable (K:Nat)
include K
def f7E:Env:=eE K [] [0,1,4,10]
def f7G (K:Nat) (a0:List tM) (a1:Int):Option Int :=
  (bif (decide ((w (a1-(a0.length:Int)))<(0:Int))) then some (-1:Int) else some (w (a1-(a0.length:Int))))
def f7M:Mdl:=⟨[(.ro,(.list 96 sM)),(.ro,sI)],[sI],fun x=>f7G K x.1 x.2.1⟩
def AhQ:Env:=eE K [] [0,1,4,10]
def Ad1 (K:Nat) (a0:List (tV×Int)) (a1:Int):Option Int :=
  (bif (decide ((w (a1-(a0.length:Int)))<(0:Int))) then some (-1:Int) else some (w (a1-(a0.length:Int))))
def Agg:Mdl:=⟨[(.ro,(.list 135 (.cons sV sI))),(.ro,sI)],[sI],fun x=>Ad1 K x.1 x.2.1⟩
def f9E:Env:=eE K [] [0,1,2,3]
def f9G (K:Nat) (a0:Int×Int×Int):Option tL :=
  some a0
def f9M:Mdl:=⟨[(.ro,sL)],[sL],fun x=>f9G K x.1⟩
def Agh:Env:=eE K [] [0,1,2,3]
def V4 (K:Nat) (a0:Int×Int×Int×Int):Option tA :=
  some a0
def Ac1:Mdl:=⟨[(.ro,sA)],[sA],fun x=>V4 K x.1⟩
def AhR:Env:=eE K [] [0,1,2,3]
def V5 (K:Nat) (a0:Int×Int):Option tV :=
  some a0
def Ad2:Mdl:=⟨[(.ro,sV)],[sV],fun x=>V5 K x.1⟩
def AhS:Env:=eE K [(11,Ad2 K),(120,Ac1 K)] [0,1,2,3]
def ZG (a0:tA×Int×Int):Option tM :=
  (V4 K a0.1).bind fun y1=>(V5 K a0.2).bind fun y2=>some (y1,y2)
def Agi:Mdl:=⟨[(.ro,sM)],[sM],fun x=>ZG K x.1⟩
def UG:Env:=eE K [(50,Agi K)] [0,2,3,4,11]
def MK (a0:List tM) (L3:Int→(List tM)→Option (List tM)) (q4:Int) (q5:List tM):Option (List tM) :=
  (bif (decide (q4<(a0.length:Int))) then (bif (decide (0≤q4)&&decide (q4<(a0.length:Int))) then (ZG K ((((a0.getD ((0:Int)+q4).toNat zM).1).1,(((a0.getD ((0:Int)+q4).toNat zM).1).2).1,((((a0.getD ((0:Int)+q4).toNat zM).1).2).2)),((a0.getD ((0:Int)+q4).toNat zM).2))).bind fun y6=>(bif (decide (0≤q4)&&decide (q4<(q5.length:Int))) then L3 (w (q4+(1:Int))) (q5.set ((0:Int)+q4).toNat y6) else none) else none) else some q5)
def QF (a0:List tM) (n:Nat) (q4:Int) (q5:List tM):Option (List tM) :=
  AL (X:=Int×List tM) (fun L x=>MK K a0 (fun v0 v1=>L (v0,v1)) x.1 x.2) n (q4,q5)
def V6 (K:Nat) (a0:List tM) (I3:Int→(List tM)→Option (List tM)):Option (List tM) :=
  (bif (decide (0≤(a0.length:Int))&&Nat.ble (a0.length:Int).toNat (lim 48)&&((a0.length:Int)==(a0.length:Int))) then I3 (0:Int) (List.replicate (a0.length:Int).toNat zM) else none)
def Ox (a0:List tM):Option (List tM) :=
  V6 K a0 (fun d0 d1=>QF K a0 K d0 d1)
def ZH:Mdl:=⟨[(.ro,(.list 96 sM))],[(.list 59 sM)],fun x=>Ox K x.1⟩
def Ad3 (a0:List tM) (lr:LR (List tM)):Ex→Fr→Option (List tM) :=
  AD (UG K) 1 lr AfZ [1,1,0,1,0] (fM (UG K) Tryz.f10 (ZH K) (a0,()))
def V7 (a0:List tM) (lr:LR (List tM)) (bq4:Int) (bq5:List tM):Option (List tM) :=
  lr (AP AfZ [1,1,0,1,0,0]) (R9 a0 bq4 bq5) (Ad3 K a0 lr)
def AhT:Env:=eE K [(11,Ad2 K)] [0,1,2,3]
def ZI (a0:tV×Int):Option (tV×Int) :=
  (V5 K a0.1).bind fun y1=>some (y1,a0.2)
def Agj:Mdl:=⟨[(.ro,(.cons sV sI))],[(.cons sV sI)],fun x=>ZI K x.1⟩
def UH:Env:=eE K [(82,Agj K)] [0,2,3,4,11]
def ML (a0:List (tV×Int)) (L3:Int→(List (tV×Int))→Option (List (tV×Int))) (q4:Int) (q5:List (tV×Int)):Option (List (tV×Int)) :=
  (bif (decide (q4<(a0.length:Int))) then (bif (decide (0≤q4)&&decide (q4<(a0.length:Int))) then (ZI K (((a0.getD ((0:Int)+q4).toNat (((0:Int),(0:Int)),(0:Int))).1),(a0.getD ((0:Int)+q4).toNat (((0:Int),(0:Int)),(0:Int))).2)).bind fun y6=>(bif (decide (0≤q4)&&decide (q4<(q5.length:Int))) then L3 (w (q4+(1:Int))) (q5.set ((0:Int)+q4).toNat y6) else none) else none) else some q5)
def QG (a0:List (tV×Int)) (n:Nat) (q4:Int) (q5:List (tV×Int)):Option (List (tV×Int)) :=
  AL (X:=Int×List (tV×Int)) (fun L x=>ML K a0 (fun v0 v1=>L (v0,v1)) x.1 x.2) n (q4,q5)
def V8 (K:Nat) (a0:List (tV×Int)) (I3:Int→(List (tV×Int))→Option (List (tV×Int))):Option (List (tV×Int)) :=
  (bif (decide (0≤(a0.length:Int))&&Nat.ble (a0.length:Int).toNat (lim 24)&&((a0.length:Int)==(a0.length:Int))) then I3 (0:Int) (List.replicate (a0.length:Int).toNat (((0:Int),(0:Int)),(0:Int))) else none)
def Oy (a0:List (tV×Int)):Option (List (tV×Int)) :=
  V8 K a0 (fun d0 d1=>QG K a0 K d0 d1)
def ZJ:Mdl:=⟨[(.ro,(.list 135 (.cons sV sI)))],[(.list 84 (.cons sV sI))],fun x=>Oy K x.1⟩
def Ad4 (a0:List (tV×Int)) (lr:LR (List (tV×Int))):Ex→Fr→Option (List (tV×Int)) :=
  AD (UH K) 1 lr Af0 [1,1,0,1,0] (fM (UH K) Tryz.f25 (ZJ K) (a0,()))
def V9 (a0:List (tV×Int)) (lr:LR (List (tV×Int))) (bq4:Int) (bq5:List (tV×Int)):Option (List (tV×Int)) :=
  lr (AP Af0 [1,1,0,1,0,0]) (Sa a0 bq4 bq5) (Ad4 K a0 lr)
def Agk:Env:=eE K [] [0,1,2,6]
def Gw (K:Nat) (a0 a1 a2:Int):Option Bool :=
  some (bif (decide (a0≥a1)) then (decide (a0≤a2)) else false)
def Sy:Mdl:=⟨[(.ro,sI),(.ro,sI),(.ro,sI)],[.bool],fun x=>Gw K x.1 x.2.1 x.2.2.1⟩
def Agl:Env:=eE K [(101,Sy K)] [0,1,2]
def Jl (a0:Int×Int):Option Bool :=
  (Gw K a0.1 (-1000:Int) (1000:Int)).bind fun y1=>((bif y1 then Gw K a0.2 (-1000:Int) (1000:Int) else some false)).bind fun y2=>some (bif y1 then y2 else false)
def Sz:Mdl:=⟨[(.ro,sV)],[.bool],fun x=>Jl K x.1⟩
def UI:Env:=eE K [(101,Sy K),(112,Sz K)] [0,2,3,7,25]
def MM (a0:List (tV×Int)) (L4:Int→Option Bool) (q5:Int):Option Bool :=
  (bif (decide (q5<(a0.length:Int))) then (bif (decide (0≤q5)&&decide (q5<(a0.length:Int))) then (Jl K ((a0.getD ((0:Int)+q5).toNat (((0:Int),(0:Int)),(0:Int))).1)).bind fun y6=>(bif ((decide (0≤q5)&&decide (q5<(a0.length:Int)))||(!(!(!y6)))) then ((bif (!(!y6)) then Gw K ((a0.getD ((0:Int)+q5).toNat (((0:Int),(0:Int)),(0:Int))).2) (0:Int) (9:Int) else some false)).bind fun y7=>(bif (bif (!y6) then true else (!y7)) then some false else L4 (w (q5+(1:Int)))) else none) else none) else some (decide ((a0.length:Int)≤(40:Int))))
def QH (a0:List (tV×Int)) (n:Nat) (q5:Int):Option Bool :=
  AL (X:=Int) (fun L x=>MM K a0 (fun v0=>L v0) x) n q5
def Wa (K:Nat) (a0:List (tV×Int)) (I4:Int→Option Bool):Option Bool :=
  I4 (0:Int)
def Wb (a0:List (tV×Int)):Option Bool :=
  Wa K a0 (fun d0=>QH K a0 K d0)
def ZK:Mdl:=⟨[(.ro,(.list 84 (.cons sV sI)))],[.bool],fun x=>Wb K x.1⟩
def Ad5 (a0:List (tV×Int)) (lr:LR Bool):Ex→Fr→Option Bool :=
  AD (UI K) 1 lr Af1 [1,0,1,0] (fM (UI K) Tryz.f43 (ZK K) (a0,()))
def Wc (a0:List (tV×Int)) (lr:LR Bool) (bq5:Int):Option Bool :=
  lr (AP Af1 [1,0,1,0,0]) (Sb a0 bq5) (Ad5 K a0 lr)
def Agm:Env:=eE K [] [0,2]
def Oz (K:Nat) (a0:Int):Option Bool :=
  some (bif (a0==(0:Int)) then true else (a0==(1:Int)))
def Wd:Mdl:=⟨[(.ro,sI)],[.bool],fun x=>Oz K x.1⟩
def Agn:Env:=eE K [(101,Sy K)] [0,1,2]
def SA (a0:Int×Int×Int):Option Bool :=
  (Gw K a0.1 (1:Int) (64:Int)).bind fun y1=>((bif y1 then Gw K a0.2.2 (1:Int) (64:Int) else some false)).bind fun y2=>((bif (bif y1 then y2 else false) then Gw K a0.2.1 (0:Int) (w (a0.1-(1:Int))) else some false)).bind fun y3=>some (bif (bif (bif y1 then y2 else false) then y3 else false) then (decide ((w (a0.1*a0.2.2))≤(64:Int))) else false)
def Ac2:Mdl:=⟨[(.ro,sL)],[.bool],fun x=>SA K x.1⟩
def Ago:Env:=eE K [(200,Wd K),(201,Ac2 K)] [0,1,3,4,12]
def K9 (a0:Int) (a1:Int×Int×Int):Option Int :=
  (Oz K a0).bind fun y1=>((bif (!(!y1)) then SA K a1 else some false)).bind fun y2=>(bif (bif (!y1) then true else (!y2)) then some (1:Int) else some (0:Int))
def SB:Mdl:=⟨[(.ro,sI),(.ro,sL)],[sI],fun x=>K9 K x.1 x.2.1⟩
def Agp:Env:=eE K [(112,Sz K)] [0,1,2]
def We (a0:Int×Int×Int×Int):Option Bool :=
  (Jl K (a0.1,a0.2.1)).bind fun y1=>((bif y1 then Jl K a0.2.2 else some false)).bind fun y2=>some (bif y1 then y2 else false)
def Ac3:Mdl:=⟨[(.ro,sA)],[.bool],fun x=>We K x.1⟩
def Agq:Env:=eE K [] [0,1,2]
def SC (K:Nat) (a0:Int×Int×Int×Int):Option Int :=
  some (w ((w (a0.1*a0.2.2.2))-(w (a0.2.1*a0.2.2.1))))
def Ac4:Mdl:=⟨[(.ro,sA)],[sI],fun x=>SC K x.1⟩
def Agr:Env:=eE K [(269,Ac3 K),(270,Ac4 K)] [0,1,2]
def SD (a0:Int×Int×Int×Int):Option Bool :=
  (We K a0).bind fun y1=>((bif y1 then SC K a0 else some (0:Int))).bind fun y2=>((bif (y1&&(!(y2==(1:Int)))) then SC K a0 else some (0:Int))).bind fun y3=>some (bif y1 then (bif (y2==(1:Int)) then true else (y3==(-1:Int))) else false)
def Ac5:Mdl:=⟨[(.ro,sA)],[.bool],fun x=>SD K x.1⟩
def Ags:Env:=eE K [] [0,1,3,4,5,18]
def La (K:Nat) (a0:Int) (a1:Int×Int):Option Int :=
  (bif (a0==(1:Int)) then some (w ((w ((w (a1.1*a1.1))+(w (a1.2*a1.2))))+(w (a1.1*a1.2)))) else some (w ((w (a1.1*a1.1))+(w (a1.2*a1.2)))))
def Ac6:Mdl:=⟨[(.ro,sI),(.ro,sV)],[sI],fun x=>La K x.1 x.2.1⟩
def Agt:Env:=eE K [] [0,1,2,3,4]
def Jm (K:Nat) (a0 a1:Int×Int):Option tV :=
  some ((w (a0.1+a1.1)),(w (a0.2+a1.2)))
def SE:Mdl:=⟨[(.ro,sV),(.ro,sV)],[sV],fun x=>Jm K x.1 x.2.1⟩
def Agu:Env:=eE K [(152,SE K),(271,Ac6 K)] [0,1,3,4,5,6]
def SG (a0:Int) (a1:Int×Int×Int×Int):Option Bool :=
  (La K a0 (a1.1,a1.2.2.1)).bind fun y1=>((bif (y1==(1:Int)) then La K a0 (a1.2.1,a1.2.2.2) else some (0:Int))).bind fun y2=>((bif (bif (y1==(1:Int)) then (y2==(1:Int)) else false) then Jm K (a1.1,a1.2.2.1) (a1.2.1,a1.2.2.2) else some ((0:Int),(0:Int)))).bind fun y3=>((bif (bif (y1==(1:Int)) then (y2==(1:Int)) else false) then La K a0 y3 else some (0:Int))).bind fun y4=>some (bif (bif (y1==(1:Int)) then (y2==(1:Int)) else false) then (y4==(w ((2:Int)+a0))) else false)
def Ac7:Mdl:=⟨[(.ro,sI),(.ro,sA)],[.bool],fun x=>SG K x.1 x.2.1⟩
def Agv:Env:=eE K [(200,Wd K),(248,Ac5 K),(249,Ac7 K)] [0,1,3,4]
def SH (a0:Int) (a1:Int×Int×Int×Int):Option Bool :=
  (Oz K a0).bind fun y1=>((bif y1 then SD K a1 else some false)).bind fun y2=>((bif (bif y1 then y2 else false) then SG K a0 a1 else some false)).bind fun y3=>some (bif (bif y1 then y2 else false) then y3 else false)
def Ac8:Mdl:=⟨[(.ro,sI),(.ro,sA)],[.bool],fun x=>SH K x.1 x.2.1⟩
def Agw:Env:=eE K [] [0,1,2]
def Wg (K:Nat) (a0:Int×Int×Int):Option (List tV) :=
  some [(a0.1,(0:Int)),a0.2]
def Ac9:Mdl:=⟨[(.ro,sL)],[(.list 34 sV)],fun x=>Wg K x.1⟩
def Agx:Env:=eE K [] [0,1,2,3,4]
def Jn (K:Nat) (a0:Int×Int×Int×Int) (a1:Int×Int):Option tV :=
  some ((w ((w (a0.1*a1.1))+(w (a0.2.1*a1.2)))),(w ((w (a0.2.2.1*a1.1))+(w (a0.2.2.2*a1.2)))))
def SJ:Mdl:=⟨[(.ro,sA),(.ro,sV)],[sV],fun x=>Jn K x.1 x.2.1⟩
omit K
def Ada (K:Nat) (rec:Int→Int→Option Int):Env:=⟨[(272,⟨[(.ro,sI),(.ro,sI)],[sI],fun x=>rec x.1 x.2.1⟩)],tys,eqs,mts,K,[0,1,4,6],[],[],[],[],[],[],false⟩
def Hh (K:Nat) (rec:Int→Int→Option Int) (a0 a1:Int):Option Int :=
  (bif (a1==(0:Int)) then some (if (w (0-a0))>a0 then (w (0-a0)) else a0) else (bif (a1 != 0) then (rec a1 (a0.tmod a1)).bind fun y1=>some y1 else none))
def HW (K:Nat):Nat→Int→Int→Option Int
  | 0=>fun _ _=>none
  | n+1=>fun a0 a1=>Hh K (HW K n) a0 a1
def SK (K:Nat) (a0 a1:Int):Option Int:=HW K K a0 a1
def Adb (K:Nat):Mdl:=⟨[(.ro,sI),(.ro,sI)],[sI],fun x=>SK K x.1 x.2.1⟩
include K
def Agy:Env:=eE K [] [0,1,4,9]
def FM (K:Nat) (a0 a1:Int):Option Int :=
  (bif (a1 != 0) then (bif (decide ((a0.tmod a1)<(0:Int))) then some (w ((a0.tmod a1)+a1)) else some (a0.tmod a1)) else none)
def Wh:Mdl:=⟨[(.ro,sI),(.ro,sI)],[sI],fun x=>FM K x.1 x.2.1⟩
def Agz:Env:=eE K [] [0,1,2,4]
def Wi (K:Nat) (a0:Int×Int) (a1:Int):Option tV :=
  some ((w (a1*a0.1)),(w (a1*a0.2)))
def Adc:Mdl:=⟨[(.ro,sV),(.ro,sI)],[sV],fun x=>Wi K x.1 x.2.1⟩
def Gx:Env:=eE K [(165,Wh K),(272,Adb K),(273,Adc K)] [0,2,3,4,5,6,7,8,13,22,50,58,62]
def Jo (a0:List tV) (q11 q12:Int) (L10 L15:Int→Int→Int→Int→Option tL) (q16 q17 q18 q19:Int):Option tL :=
  (bif (q19 != (0:Int)) then (bif (q19 != 0) then L15 q18 q19 (w (q16-(w ((w (q17.tdiv q19))*q18)))) (w (q17-(w ((w (q17.tdiv q19))*q19)))) else none) else (SK K q11 q18).bind fun y20=>(bif (decide (y20>(0:Int))) then (FM K q16 y20).bind fun y21=>L10 y20 (w (q12+(1:Int))) y21 q17 else L10 y20 (w (q12+(1:Int))) q16 q17))
def DM (a0:List tV) (q11 q12:Int) (L10:Int→Int→Int→Int→Option tL) (n:Nat) (q16 q17 q18 q19:Int):Option tL :=
  AL (X:=Int×Int×Int×Int) (fun L x=>Jo K a0 q11 q12 L10 (fun v0 v1 v2 v3=>L (v0,v1,v2,v3)) x.1 x.2.1 x.2.2.1 x.2.2.2) n (q16,q17,q18,q19)
def EP (a0:List tV) (I15:Int→Int→Int→Int→Int→Int→Option tL) (L10:Int→Int→Int→Int→Option tL) (q11 q12 q13 q14:Int):Option tL :=
  (bif (decide (q12<(a0.length:Int))) then (bif (decide (0≤q12)&&decide (q12<(a0.length:Int))) then I15 q11 q12 q13 q14 ((a0.getD ((0:Int)+q12).toNat ((0:Int),(0:Int))).1) ((a0.getD ((0:Int)+q12).toNat ((0:Int),(0:Int))).2) else none) else (bif (decide (q14<(0:Int))) then (Wi K (q13,q14) (-1:Int)).bind fun y22=>(bif (decide (q11>(0:Int))) then (FM K y22.1 q11).bind fun y23=>some (q11,y23,y22.2) else some (q11,y22)) else (bif (decide (q11>(0:Int))) then (FM K q13 q11).bind fun y24=>some (q11,y24,q14) else some (q11,q13,q14))))
def Jp (a0:List tV) (n:Nat) (q11 q12 q13 q14:Int):Option tL :=
  AL (X:=Int×Int×Int×Int) (fun L x=>(fun L10=>EP K a0 (fun c0 c1 d0 d1 d2 d3=>DM K a0 c0 c1 L10 K d0 d1 d2 d3) L10 x.1 x.2.1 x.2.2.1 x.2.2.2) (fun v0 v1 v2 v3=>L (v0,v1,v2,v3))) n (q11,q12,q13,q14)
def QI (K:Nat) (a0:List tV) (I10:Int→Int→Int→Int→Option tL):Option tL :=
  I10 (0:Int) (0:Int) (0:Int) (0:Int)
def Lb (a0:List tV):Option tL :=
  QI K a0 (fun d0 d1 d2 d3=>Jp K a0 K d0 d1 d2 d3)
def SL:Mdl:=⟨[(.ro,(.list 34 sV))],[sL],fun x=>Lb K x.1⟩
def OA (a0:List tV) (lr:LR tL):Ex→Fr→Option tL :=
  AD (Gx K) 1 lr Sc [1,1,0,1,0] (fM (Gx K) Tryz.f251 (SL K) (a0,()))
def OB (a0:List tV) (lr:LR tL) (bq11 bq12 bq13 bq14:Int):Option tL :=
  lr (AP Sc [1,1,0,1,0,0]) (DK a0 bq11 bq12 bq13 bq14) (OA K a0 lr)
def Wj (a0:List tV) (F10:Fr→Option tL) (bq11 bq12 bq13 bq14:Int) (lr:LR tL):Ex→Fr→Option tL :=
  AD (Gx K) 1 lr (AP Sc [1,1,0,1,0,0]) [1,0,0,1,0,0] (Fd 1 (DK a0 bq11 bq12 bq13 bq14) F10 (OA K a0 lr))
def OD (a0:List tV) (F10:Fr→Option tL) (bq11 bq12 bq13 bq14:Int) (lr:LR tL) (q11 q12 bq16 bq17 bq18 bq19:Int):Option tL :=
  lr (AP Sc [1,1,0,1,0,0,1,0,0,1,0,0,0]) (K6 a0 q11 q12 bq16 bq17 bq18 bq19) (Wj K a0 F10 bq11 bq12 bq13 bq14 lr)
def AgA:Env:=eE K [(153,SJ K),(250,Ac9 K),(251,SL K)] [0,1,2,3,4,5]
def SM (a0:Int×Int×Int×Int) (a1:Int×Int×Int):Option tL :=
  (Wg K a1).bind fun y1=>(bif (decide (0≤(0:Int))&&decide ((0:Int)<(y1.length:Int))) then (Jn K a0 (y1.getD ((0:Int)+(0:Int)).toNat ((0:Int),(0:Int)))).bind fun y2=>(bif (decide (0≤(1:Int))&&decide ((1:Int)<(y1.length:Int))) then (Jn K a0 (y1.getD ((0:Int)+(1:Int)).toNat ((0:Int),(0:Int)))).bind fun y3=>(Lb K [y2,y3]).bind fun y4=>some y4 else none) else none)
def Add:Mdl:=⟨[(.ro,sA),(.ro,sL)],[sL],fun x=>SM K x.1 x.2.1⟩
def AgB:Env:=eE K [(112,Sz K),(138,SB K),(205,Ac8 K),(206,Add K)] [0,1,2,4,5,6]
def SN (a0:Int) (a1:Int×Int×Int) (a2:tA×Int×Int):Option Bool :=
  (K9 K a0 a1).bind fun y1=>((bif (y1==(0:Int)) then SH K a0 a2.1 else some false)).bind fun y2=>((bif (bif (y1==(0:Int)) then y2 else false) then SM K a2.1 a1 else some ((0:Int),((0:Int),(0:Int))))).bind fun y3=>((bif (bif (bif (y1==(0:Int)) then y2 else false) then ((y3.1==a1.1)&&((y3.2.1==a1.2.1)&&(y3.2.2==a1.2.2))) else false) then Jl K a2.2 else some false)).bind fun y4=>some (bif (bif (bif (y1==(0:Int)) then y2 else false) then ((y3.1==a1.1)&&((y3.2.1==a1.2.1)&&(y3.2.2==a1.2.2))) else false) then y4 else false)
def Ade:Mdl:=⟨[(.ro,sI),(.ro,sL),(.ro,sM)],[.bool],fun x=>SN K x.1 x.2.1 x.2.2.1⟩
def AhU:Env:=eE K [(165,Wh K)] [0,1,2,3,4,5,6]
def QJ (a0:Int×Int×Int) (a1:Int×Int):Option tV :=
  (FM K a1.2 a0.2.2).bind fun y1=>(bif (a0.2.2 != 0) then (FM K (w (a1.1-(w ((w ((w (a1.2-y1)).tdiv a0.2.2))*a0.2.1)))) a0.1).bind fun y2=>some (y2,y1) else none)
def ZL:Mdl:=⟨[(.ro,sL),(.ro,sV)],[sV],fun x=>QJ K x.1 x.2.1⟩
def AgC:Env:=eE K [(81,ZL K)] [0,1,2,3,4]
def OE (a0:Int×Int×Int) (a1:tA×Int×Int):Option tM :=
  (QJ K a0 a1.2).bind fun y1=>some (a1.1,y1)
def Adf:Mdl:=⟨[(.ro,sL),(.ro,sM)],[sM],fun x=>OE K x.1 x.2.1⟩
def AgD:Env:=eE K [] [0,1,2]
def SO (K:Nat) (a0:Int×Int×Int×Int):Option (List Int) :=
  some [a0.1,a0.2.1,a0.2.2.1,a0.2.2.2]
def Adg:Mdl:=⟨[(.ro,sA)],[(.list 2 sI)],fun x=>SO K x.1⟩
def UJ:Env:=eE K [] [0,1,4,5,15,26]
def QK (K:Nat) (a0 a1:List Int) (L2:Int→Option Bool) (q3:Int):Option Bool :=
  (bif (bif (decide (q3<(a0.length:Int))) then (decide (q3<(a1.length:Int))) else false) then (bif (decide (0≤q3)&&decide (q3<(a0.length:Int))) then (bif (decide (0≤q3)&&decide (q3<(a1.length:Int))) then (bif ((a0.getD ((0:Int)+q3).toNat (0:Int)) != (a1.getD ((0:Int)+q3).toNat (0:Int))) then (bif (decide (0≤q3)&&decide (q3<(a0.length:Int))) then (bif (decide (0≤q3)&&decide (q3<(a1.length:Int))) then some (decide ((a0.getD ((0:Int)+q3).toNat (0:Int))<(a1.getD ((0:Int)+q3).toNat (0:Int)))) else none) else none) else L2 (w (q3+(1:Int)))) else none) else none) else some (decide ((a0.length:Int)<(a1.length:Int))))
def Jq (a0 a1:List Int) (n:Nat) (q3:Int):Option Bool :=
  AL (X:=Int) (fun L x=>QK K a0 a1 (fun v0=>L v0) x) n q3
def Wk (K:Nat) (a0 a1:List Int) (I2:Int→Option Bool):Option Bool :=
  I2 (0:Int)
def ZM (a0 a1:List Int):Option Bool :=
  Wk K a0 a1 (fun d0=>Jq K a0 a1 K d0)
def ZN:Mdl:=⟨[(.ro,(.list 2 sI)),(.ro,(.list 2 sI))],[.bool],fun x=>ZM K x.1 x.2.1⟩
def Ad6 (a0 a1:List Int) (lr:LR Bool):Ex→Fr→Option Bool :=
  AD (UJ K) 2 lr Af2 [1,0,1,0] (fM (UJ K) Tryz.f71 (ZN K) (a0,a1,()))
def Wl (a0 a1:List Int) (lr:LR Bool) (bq3:Int):Option Bool :=
  lr (AP Af2 [1,0,1,0,0]) (Sd a0 a1 bq3) (Ad6 K a0 a1 lr)
def AgE:Env:=eE K [(71,ZN K),(252,Adg K)] [0,1,2,3,4]
def Wm (a0 a1:Int×Int×Int×Int):Option Bool :=
  (SO K a0).bind fun y1=>(SO K a1).bind fun y2=>(ZM K y1 y2).bind fun y3=>some y3
def Adh:Mdl:=⟨[(.ro,sA),(.ro,sA)],[.bool],fun x=>Wm K x.1 x.2.1⟩
def AgF:Env:=eE K [] [0,1,2,3,4]
def OG (K:Nat) (a0 a1:Int×Int):Option Bool :=
  some (bif (decide (a0.1<a1.1)) then true else (bif (a0.1==a1.1) then (decide (a0.2<a1.2)) else false))
def Wn:Mdl:=⟨[(.ro,sV),(.ro,sV)],[.bool],fun x=>OG K x.1 x.2.1⟩
def AgG:Env:=eE K [(207,Adh K),(208,Wn K)] [0,1,2,3,4,9]
def OH (a0 a1:tA×Int×Int):Option Bool :=
  (bif (!((a0.1.1==a1.1.1)&&((a0.1.2.1==a1.1.2.1)&&((a0.1.2.2.1==a1.1.2.2.1)&&(a0.1.2.2.2==a1.1.2.2.2))))) then (Wm K a0.1 a1.1).bind fun y1=>some y1 else (OG K a0.2 a1.2).bind fun y2=>some y2)
def Wo:Mdl:=⟨[(.ro,sM),(.ro,sM)],[.bool],fun x=>OH K x.1 x.2.1⟩
def AgH:Env:=eE K [] [0]
def Wp (K:Nat):Option tA :=
  some ((1:Int),(0:Int),(0:Int),(1:Int))
def Adi:Mdl:=⟨[],[sA],fun x=>Wp K ⟩
def AhV:Env:=eE K [(141,Adi K)] [0]
def Ad7:Option tM :=
  (Wp K).bind fun y1=>some (y1,(0:Int),(0:Int))
def AgI:Mdl:=⟨[],[sM],fun x=>Ad7 K ⟩
def Lc:Env:=eE K [(149,Wo K)] [0,1,3,4,5,6,7,12,22]
def MN (a0:List tM) (a1:tA×Int×Int) (L6:Int→Int→Option Int) (q7 q8:Int):Option Int :=
  (bif (decide (q7<q8)) then (bif (decide (0≤(w ((w (q7+q8)).tdiv (2:Int))))&&decide ((w ((w (q7+q8)).tdiv (2:Int)))<(a0.length:Int))) then (OH K ((((a0.getD ((0:Int)+(w ((w (q7+q8)).tdiv (2:Int)))).toNat zM).1).1,(((a0.getD ((0:Int)+(w ((w (q7+q8)).tdiv (2:Int)))).toNat zM).1).2).1,((((a0.getD ((0:Int)+(w ((w (q7+q8)).tdiv (2:Int)))).toNat zM).1).2).2)),((a0.getD ((0:Int)+(w ((w (q7+q8)).tdiv (2:Int)))).toNat zM).2)) a1).bind fun y9=>(bif y9 then L6 (w ((w ((w (q7+q8)).tdiv (2:Int)))+(1:Int))) q8 else L6 q7 (w ((w (q7+q8)).tdiv (2:Int)))) else none) else some q7)
def Gy (a0:List tM) (a1:tA×Int×Int) (n:Nat) (q7 q8:Int):Option Int :=
  AL (X:=Int×Int) (fun L x=>MN K a0 a1 (fun v0 v1=>L (v0,v1)) x.1 x.2) n (q7,q8)
def QL (K:Nat) (a0:List tM) (a1:tA×Int×Int) (I6:Int→Int→Option Int):Option Int :=
  I6 (0:Int) (a0.length:Int)
def SP (a0:List tM) (a1:tA×Int×Int):Option Int :=
  QL K a0 a1 (fun d0 d1=>Gy K a0 a1 K d0 d1)
def SQ:Mdl:=⟨[(.ro,(.list 59 sM)),(.ro,sM)],[sI],fun x=>SP K x.1 x.2.1⟩
def ZO (a0:List tM) (a1:tA×Int×Int) (lr:LR Int):Ex→Fr→Option Int :=
  AD (Lc K) 1 lr AcP [1,1,0,0] (fM (Lc K) Tryz.f181 (SQ K) (a0,a1,()))
def SR (a0:List tM) (a1:tA×Int×Int) (lr:LR Int) (bq7 bq8:Int):Option Int :=
  lr (AP AcP [1,1,0,0,0]) (Oe a0 a1 bq7 bq8) (ZO K a0 a1 lr)
def AgJ:Env:=eE K [(181,SQ K)] [0,1,3,4,5]
def OI (a0:List tM) (a1:tA×Int×Int):Option Bool :=
  (SP K a0 a1).bind fun y1=>(bif ((decide (0≤y1)&&decide (y1<(a0.length:Int)))||(!(decide (y1<(a0.length:Int))))) then some (bif (decide (y1<(a0.length:Int))) then ((((a0.getD ((0:Int)+y1).toNat zM).1).1==a1.1.1)&&(((((a0.getD ((0:Int)+y1).toNat zM).1).2).1==a1.1.2.1)&&((((((a0.getD ((0:Int)+y1).toNat zM).1).2).2).1==a1.1.2.2.1)&&((((((a0.getD ((0:Int)+y1).toNat zM).1).2).2).2==a1.1.2.2.2)&&((((a0.getD ((0:Int)+y1).toNat zM).2).1==a1.2.1)&&(((a0.getD ((0:Int)+y1).toNat zM).2).2==a1.2.2)))))) else false) else none)
def Adj:Mdl:=⟨[(.ro,(.list 59 sM)),(.ro,sM)],[.bool],fun x=>OI K x.1 x.2.1⟩
def AgK:Env:=eE K [] [0,1,2,3,4]
def Wq (K:Nat) (a0 a1:Int×Int×Int×Int):Option tA :=
  some ((w ((w (a0.1*a1.1))+(w (a0.2.1*a1.2.2.1)))),(w ((w (a0.1*a1.2.1))+(w (a0.2.1*a1.2.2.2)))),(w ((w (a0.2.2.1*a1.1))+(w (a0.2.2.2*a1.2.2.1)))),(w ((w (a0.2.2.1*a1.2.1))+(w (a0.2.2.2*a1.2.2.2)))))
def Adk:Mdl:=⟨[(.ro,sA),(.ro,sA)],[sA],fun x=>Wq K x.1 x.2.1⟩
def AgL:Env:=eE K [(152,SE K),(153,SJ K),(209,Adk K)] [0,1,2,3,4]
def SS (a0 a1:tA×Int×Int):Option tM :=
  (Wq K a0.1 a1.1).bind fun y1=>(Jn K a0.1 a1.2).bind fun y2=>(Jm K y2 a0.2).bind fun y3=>some (y1,y3)
def Adl:Mdl:=⟨[(.ro,sM),(.ro,sM)],[sM],fun x=>SS K x.1 x.2.1⟩
def Hi:Env:=eE K [(58,AgI K),(138,SB K),(147,Ade K),(148,Adf K),(149,Wo K),(150,Adj K),(151,Adl K)] [0,1,2,4,6,7,8,9,18,22,62,66,70,76,92]
def Iu (a0:Int) (a1:Int×Int×Int) (a2:List tM) (q7 q24 y1:Int) (y12:Bool) (L23 L25:Int→Option Bool) (q26:Int):Option Bool :=
  (bif (decide (q26<(a2.length:Int))) then (bif (decide (0≤q24)&&decide (q24<(a2.length:Int))) then (bif (decide (0≤q26)&&decide (q26<(a2.length:Int))) then (SS K ((((a2.getD ((0:Int)+q24).toNat zM).1).1,(((a2.getD ((0:Int)+q24).toNat zM).1).2).1,((((a2.getD ((0:Int)+q24).toNat zM).1).2).2)),((a2.getD ((0:Int)+q24).toNat zM).2)) ((((a2.getD ((0:Int)+q26).toNat zM).1).1,(((a2.getD ((0:Int)+q26).toNat zM).1).2).1,((((a2.getD ((0:Int)+q26).toNat zM).1).2).2)),((a2.getD ((0:Int)+q26).toNat zM).2))).bind fun y27=>(OE K a1 y27).bind fun y28=>(OI K a2 y28).bind fun y29=>(bif (!y29) then some false else L25 (w (q26+(1:Int)))) else none) else none) else L23 (w (q24+(1:Int))))
def Gz (a0:Int) (a1:Int×Int×Int) (a2:List tM) (q7 q24 y1:Int) (y12:Bool) (L23:Int→Option Bool) (n:Nat) (q26:Int):Option Bool :=
  AL (X:=Int) (fun L x=>Iu K a0 a1 a2 q7 q24 y1 y12 L23 (fun v0=>L v0) x) n q26
def GA (K:Nat) (a0:Int) (a1:Int×Int×Int) (a2:List tM) (q7 y1:Int) (y12:Bool) (I25:Int→Int→Option Bool) (L23:Int→Option Bool) (q24:Int):Option Bool :=
  (bif (decide (q24<(a2.length:Int))) then I25 q24 (0:Int) else some true)
def Fl (a0:Int) (a1:Int×Int×Int) (a2:List tM) (q7 y1:Int) (y12:Bool) (n:Nat) (q24:Int):Option Bool :=
  AL (X:=Int) (fun L x=>(fun L23=>GA K a0 a1 a2 q7 y1 y12 (fun c0 d0=>Gz K a0 a1 a2 q7 c0 y1 y12 L23 K d0) L23 x) (fun v0=>L v0)) n q24
def D7 (a0:Int) (a1:Int×Int×Int) (a2:List tM) (y1:Int) (I23:Int→Int→Bool→Int→Option Bool) (L6:Int→Option Bool) (q7:Int):Option Bool :=
  (bif (decide (q7<(a2.length:Int))) then (bif (decide (0≤q7)&&decide (q7<(a2.length:Int))) then (SN K a0 a1 ((((a2.getD ((0:Int)+q7).toNat zM).1).1,(((a2.getD ((0:Int)+q7).toNat zM).1).2).1,((((a2.getD ((0:Int)+q7).toNat zM).1).2).2)),((a2.getD ((0:Int)+q7).toNat zM).2))).bind fun y8=>(bif ((decide (0≤q7)&&decide (q7<(a2.length:Int)))||(!(!(!y8)))) then ((bif (!(!y8)) then OE K a1 ((((a2.getD ((0:Int)+q7).toNat zM).1).1,(((a2.getD ((0:Int)+q7).toNat zM).1).2).1,((((a2.getD ((0:Int)+q7).toNat zM).1).2).2)),((a2.getD ((0:Int)+q7).toNat zM).2)) else some zM)).bind fun y9=>(bif ((decide (0≤q7)&&decide (q7<(a2.length:Int)))||(!(!(!y8)))) then (bif ((decide (0≤(w (q7-(1:Int))))&&decide ((w (q7-(1:Int)))<(a2.length:Int)))||(!((!(bif (!y8) then true else (!((y9.1.1==((a2.getD ((0:Int)+q7).toNat zM).1).1)&&((y9.1.2.1==(((a2.getD ((0:Int)+q7).toNat zM).1).2).1)&&((y9.1.2.2.1==((((a2.getD ((0:Int)+q7).toNat zM).1).2).2).1)&&((y9.1.2.2.2==((((a2.getD ((0:Int)+q7).toNat zM).1).2).2).2)&&((y9.2.1==((a2.getD ((0:Int)+q7).toNat zM).2).1)&&(y9.2.2==((a2.getD ((0:Int)+q7).toNat zM).2).2)))))))))&&(decide (q7>(0:Int)))))) then (bif ((decide (0≤q7)&&decide (q7<(a2.length:Int)))||(!((!(bif (!y8) then true else (!((y9.1.1==((a2.getD ((0:Int)+q7).toNat zM).1).1)&&((y9.1.2.1==(((a2.getD ((0:Int)+q7).toNat zM).1).2).1)&&((y9.1.2.2.1==((((a2.getD ((0:Int)+q7).toNat zM).1).2).2).1)&&((y9.1.2.2.2==((((a2.getD ((0:Int)+q7).toNat zM).1).2).2).2)&&((y9.2.1==((a2.getD ((0:Int)+q7).toNat zM).2).1)&&(y9.2.2==((a2.getD ((0:Int)+q7).toNat zM).2).2)))))))))&&(decide (q7>(0:Int)))))) then ((bif ((!(bif (!y8) then true else (!((y9.1.1==((a2.getD ((0:Int)+q7).toNat zM).1).1)&&((y9.1.2.1==(((a2.getD ((0:Int)+q7).toNat zM).1).2).1)&&((y9.1.2.2.1==((((a2.getD ((0:Int)+q7).toNat zM).1).2).2).1)&&((y9.1.2.2.2==((((a2.getD ((0:Int)+q7).toNat zM).1).2).2).2)&&((y9.2.1==((a2.getD ((0:Int)+q7).toNat zM).2).1)&&(y9.2.2==((a2.getD ((0:Int)+q7).toNat zM).2).2)))))))))&&(decide (q7>(0:Int)))) then OH K ((((a2.getD ((0:Int)+(w (q7-(1:Int)))).toNat zM).1).1,(((a2.getD ((0:Int)+(w (q7-(1:Int)))).toNat zM).1).2).1,((((a2.getD ((0:Int)+(w (q7-(1:Int)))).toNat zM).1).2).2)),((a2.getD ((0:Int)+(w (q7-(1:Int)))).toNat zM).2)) ((((a2.getD ((0:Int)+q7).toNat zM).1).1,(((a2.getD ((0:Int)+q7).toNat zM).1).2).1,((((a2.getD ((0:Int)+q7).toNat zM).1).2).2)),((a2.getD ((0:Int)+q7).toNat zM).2)) else some false)).bind fun y10=>(bif (bif (bif (!y8) then true else (!((y9.1.1==((a2.getD ((0:Int)+q7).toNat zM).1).1)&&((y9.1.2.1==(((a2.getD ((0:Int)+q7).toNat zM).1).2).1)&&((y9.1.2.2.1==((((a2.getD ((0:Int)+q7).toNat zM).1).2).2).1)&&((y9.1.2.2.2==((((a2.getD ((0:Int)+q7).toNat zM).1).2).2).2)&&((y9.2.1==((a2.getD ((0:Int)+q7).toNat zM).2).1)&&(y9.2.2==((a2.getD ((0:Int)+q7).toNat zM).2).2)))))))) then true else (bif (decide (q7>(0:Int))) then (!y10) else false)) then some false else L6 (w (q7+(1:Int)))) else none) else none) else none) else none) else none) else (Ad7 K).bind fun y11=>(OI K a2 y11).bind fun y12=>(bif (!y12) then some false else I23 q7 y1 y12 (0:Int)))
def MO (a0:Int) (a1:Int×Int×Int) (a2:List tM) (y1:Int) (n:Nat) (q7:Int):Option Bool :=
  AL (X:=Int) (fun L x=>D7 K a0 a1 a2 y1 (fun c0 c1 c2 d0=>Fl K a0 a1 a2 c0 c1 c2 K d0) (fun v0=>L v0) x) n q7
def Wr (a0:Int) (a1:Int×Int×Int) (a2:List tM) (I6:Int→Int→Option Bool):Option Bool :=
  (K9 K a0 a1).bind fun y1=>(bif (bif (y1 != (0:Int)) then true else (decide ((a2.length:Int)>(768:Int)))) then some false else I6 y1 (0:Int))
def Ws (a0:Int) (a1:Int×Int×Int) (a2:List tM):Option Bool :=
  Wr K a0 a1 a2 (fun c0 d0=>MO K a0 a1 a2 c0 K d0)
def Wt:Mdl:=⟨[(.ro,sI),(.ro,sL),(.ro,(.list 59 sM))],[.bool],fun x=>Ws K x.1 x.2.1 x.2.2.1⟩
def Ad8 (a0:Int) (a1:Int×Int×Int) (a2:List tM) (lr:LR Bool):Ex→Fr→Option Bool :=
  AD (Hi K) 1 lr UF [1,1,0,1,0] (fM (Hi K) Tryz.f66 (Wt K) (a0,a1,a2,()))
def Wu (a0:Int) (a1:Int×Int×Int) (a2:List tM) (lr:LR Bool) (y1 bq7:Int):Option Bool :=
  lr (AP UF [1,1,0,1,0,0]) (MJ a0 a1 a2 y1 bq7) (Ad8 K a0 a1 a2 lr)
def ST (a0:Int) (a1:Int×Int×Int) (a2:List tM) (lr:LR Bool):Ex→Fr→Option Bool :=
  AD (Hi K) 1 lr UF [1,1,1,1,0,1,0] (fM (Hi K) Tryz.f66 (Wt K) (a0,a1,a2,()))
def SU (a0:Int) (a1:Int×Int×Int) (a2:List tM) (lr:LR Bool) (q7 y1:Int) (y12:Bool) (bq24:Int):Option Bool :=
  lr (AP UF [1,1,1,1,0,1,0,0]) (EM a0 a1 a2 q7 y1 y12 bq24) (ST K a0 a1 a2 lr)
def ZP (a0:Int) (a1:Int×Int×Int) (a2:List tM) (q7 y1:Int) (y12:Bool) (F23:Fr→Option Bool) (bq24:Int) (lr:LR Bool):Ex→Fr→Option Bool :=
  AD (Hi K) 1 lr (AP UF [1,1,1,1,0,1,0,0]) [1,0,0,1,0] (Fd 1 (EM a0 a1 a2 q7 y1 y12 bq24) F23 (ST K a0 a1 a2 lr))
def SV (a0:Int) (a1:Int×Int×Int) (a2:List tM) (q7 y1:Int) (y12:Bool) (F23:Fr→Option Bool) (bq24:Int) (lr:LR Bool) (q24 bq26:Int):Option Bool :=
  lr (AP UF [1,1,1,1,0,1,0,0,1,0,0,1,0,0]) (Of a0 a1 a2 q7 q24 y1 y12 bq26) (ZP K a0 a1 a2 q7 y1 y12 F23 bq24 lr)
def AgM:Env:=eE K [(138,SB K)] [0,1,2,4,6,7,16]
def Wv (a0:Int) (a1:Int×Int×Int) (a2:Bool):Option Int :=
  (K9 K a0 a1).bind fun y1=>(bif (bif (y1==(0:Int)) then (!a2) else false) then some (2:Int) else some y1)
def Adm:Mdl:=⟨[(.ro,sI),(.ro,sL),(.ro,.bool)],[sI],fun x=>Wv K x.1 x.2.1 x.2.2.1⟩
def AhW:Env:=eE K [(66,Wt K),(115,Adm K)] [0,1,2,3,5,8]
def Ww (a0:Int) (a1:Int×Int×Int) (a2:List tM) (a3:Bool):Option Int :=
  ((bif a3 then Ws K a0 a1 a2 else some false)).bind fun y1=>(Wv K a0 a1 (bif a3 then y1 else false)).bind fun y2=>some y2
def AgN:Mdl:=⟨[(.ro,sI),(.ro,sL),(.ro,(.list 59 sM)),(.ro,.bool)],[sI],fun x=>Ww K x.1 x.2.1 x.2.2.1 x.2.2.2.1⟩
def AhX:Env:=eE K [(43,ZK K),(46,AgN K)] [0,1,2,3,5,8]
def ZQ (a0:Int) (a1:Int×Int×Int) (a2:List tM) (a3:List (tV×Int)):Option Int :=
  (Wb K a3).bind fun y1=>(Ww K a0 a1 a2 y1).bind fun y2=>some y2
def AgO:Mdl:=⟨[(.ro,sI),(.ro,sL),(.ro,(.list 59 sM)),(.ro,(.list 84 (.cons sV sI)))],[sI],fun x=>ZQ K x.1 x.2.1 x.2.2.1 x.2.2.2.1⟩
def MP:Env:=eE K [] [0,1,2,3,4,5,10,16]
def MQ (K:Nat) (a0:Int×Int×Int) (q7:Int) (L6 L9:Int→(List tV)→Option (List tV)) (q10:Int) (q11:List tV):Option (List tV) :=
  (bif (decide (q10<a0.2.2)) then (bif (Nat.ble (q11.length+[(q7,q10)].length) (lim 16)) then L9 (w (q10+(1:Int))) (q11++[(q7,q10)]) else none) else L6 (w (q7+(1:Int))) q11)
def Jr (a0:Int×Int×Int) (q7:Int) (L6:Int→(List tV)→Option (List tV)) (n:Nat) (q10:Int) (q11:List tV):Option (List tV) :=
  AL (X:=Int×List tV) (fun L x=>MQ K a0 q7 L6 (fun v0 v1=>L (v0,v1)) x.1 x.2) n (q10,q11)
def Js (K:Nat) (a0:Int×Int×Int) (I9:Int→Int→(List tV)→Option (List tV)) (L6:Int→(List tV)→Option (List tV)) (q7:Int) (q8:List tV):Option (List tV) :=
  (bif (decide (q7<a0.1)) then I9 q7 (0:Int) q8 else some q8)
def QM (a0:Int×Int×Int) (n:Nat) (q7:Int) (q8:List tV):Option (List tV) :=
  AL (X:=Int×List tV) (fun L x=>(fun L6=>Js K a0 (fun c0 d0 d1=>Jr K a0 c0 L6 K d0 d1) L6 x.1 x.2) (fun v0 v1=>L (v0,v1))) n (q7,q8)
def Wx (K:Nat) (a0:Int×Int×Int) (I6:Int→(List tV)→Option (List tV)):Option (List tV) :=
  I6 (0:Int) []
def Wy (a0:Int×Int×Int):Option (List tV) :=
  Wx K a0 (fun d0 d1=>QM K a0 K d0 d1)
def ZR:Mdl:=⟨[(.ro,sL)],[(.list 34 sV)],fun x=>Wy K x.1⟩
def Wz (a0:Int×Int×Int) (lr:LR (List tV)):Ex→Fr→Option (List tV) :=
  AD (MP K) 0 lr ZC [1,1,0,1,0] (fM (MP K) Tryz.f67 (ZR K) (a0,()))
def WA (a0:Int×Int×Int) (lr:LR (List tV)) (bq7:Int) (bq8:List tV):Option (List tV) :=
  lr (AP ZC [1,1,0,1,0,0]) (Gt a0 bq7 bq8) (Wz K a0 lr)
def Ad9 (a0:Int×Int×Int) (F6:Fr→Option (List tV)) (bq7:Int) (bq8:List tV) (lr:LR (List tV)):Ex→Fr→Option (List tV) :=
  AD (MP K) 0 lr (AP ZC [1,1,0,1,0,0]) [1,0,0,1,0] (Fd 0 (Gt a0 bq7 bq8) F6 (Wz K a0 lr))
def WB (a0:Int×Int×Int) (F6:Fr→Option (List tV)) (bq7:Int) (bq8:List tV) (lr:LR (List tV)) (q7 bq10:Int) (bq11:List tV):Option (List tV) :=
  lr (AP ZC [1,1,0,1,0,0,1,0,0,1,0,0]) (Se a0 q7 bq10 bq11) (Ad9 K a0 F6 bq7 bq8 lr)
def AhY:Env:=eE K [(152,SE K),(153,SJ K)] [0,1,2,3,4]
def ZS (a0:tA×Int×Int) (a1:Int×Int):Option tV :=
  (Jn K a0.1 a1).bind fun y1=>(Jm K y1 a0.2).bind fun y2=>some y2
def AgP:Mdl:=⟨[(.ro,sM),(.ro,sV)],[sV],fun x=>ZS K x.1 x.2.1⟩
def AgQ:Env:=eE K [(69,AgP K),(81,ZL K)] [0,1,2,3,4,5,6]
def SX (a0:Int×Int×Int) (a1:tA×Int×Int) (a2:Int×Int):Option tV :=
  (ZS K a1 a2).bind fun y1=>(QJ K a0 y1).bind fun y2=>some y2
def Adn:Mdl:=⟨[(.ro,sL),(.ro,sM),(.ro,sV)],[sV],fun x=>SX K x.1 x.2.1 x.2.2.1⟩
def Ld:Env:=eE K [(208,Wn K)] [0,1,3,4,5,17,31]
def MR (a0:List tV) (a1:Int×Int) (L3:Int→Option (List tV)) (q4:Int):Option (List tV) :=
  (bif ((decide (0≤q4)&&decide (q4<(a0.length:Int)))||(!(decide (q4<(a0.length:Int))))) then ((bif (decide (q4<(a0.length:Int))) then OG K (a0.getD ((0:Int)+q4).toNat ((0:Int),(0:Int))) a1 else some false)).bind fun y5=>(bif (bif (decide (q4<(a0.length:Int))) then y5 else false) then L3 (w (q4+(1:Int))) else (bif ((decide (0≤q4)&&decide (q4<(a0.length:Int)))||(!(decide (q4<(a0.length:Int))))) then (bif (bif (decide (q4<(a0.length:Int))) then (((a0.getD ((0:Int)+q4).toNat ((0:Int),(0:Int))).1==a1.1)&&((a0.getD ((0:Int)+q4).toNat ((0:Int),(0:Int))).2==a1.2)) else false) then some a0 else (bif (decide (0≤(0:Int))&&decide ((0:Int)≤q4)&&decide (q4≤(a0.length:Int))) then (bif (Nat.ble (0+((a0.take ((0:Int)+q4).toNat).drop 0).length) (lim 16)) then (bif (Nat.ble (([]++((a0.take ((0:Int)+q4).toNat).drop 0)).length+[a1].length) (lim 16)) then (bif (decide (0≤q4)&&decide (q4≤(a0.length:Int))&&decide ((a0.length:Int)≤(a0.length:Int))) then (bif (Nat.ble ((([]++((a0.take ((0:Int)+q4).toNat).drop 0))++[a1]).length+((a0.take ((0:Int)+(a0.length:Int)).toNat).drop ((0:Int)+q4).toNat).length) (lim 16)) then some ((([]++((a0.take ((0:Int)+q4).toNat).drop 0))++[a1])++((a0.take ((0:Int)+(a0.length:Int)).toNat).drop ((0:Int)+q4).toNat)) else none) else none) else none) else none) else none)) else none)) else none)
def Iw (a0:List tV) (a1:Int×Int) (n:Nat) (q4:Int):Option (List tV) :=
  AL (X:=Int) (fun L x=>MR K a0 a1 (fun v0=>L v0) x) n q4
def QN (K:Nat) (a0:List tV) (a1:Int×Int) (I3:Int→Option (List tV)):Option (List tV) :=
  I3 (0:Int)
def OJ (a0:List tV) (a1:Int×Int):Option (List tV) :=
  QN K a0 a1 (fun d0=>Iw K a0 a1 K d0)
def SY:Mdl:=⟨[(.mv,(.list 34 sV)),(.ro,sV)],[(.list 34 sV)],fun x=>OJ K x.1 x.2.1⟩
def ZT (a0:List tV) (a1:Int×Int) (lr:LR (List tV)):Ex→Fr→Option (List tV) :=
  AD (Ld K) 1 lr AcQ [1,1,0,0] (fM (Ld K) Tryz.f183 (SY K) (a0,a1,()))
def SZ (a0:List tV) (a1:Int×Int) (lr:LR (List tV)) (bq4:Int):Option (List tV) :=
  lr (AP AcQ [1,1,0,0,0]) (Og a0 a1 bq4) (ZT K a0 a1 lr)
def Lg:Env:=eE K [(183,SY K),(184,Adn K)] [0,1,2,3,5,6,7,8,13]
def Fm (a0:Int×Int×Int) (a1:List tM) (a2:Int×Int) (L4:Int→(List tV)→Option (List tV)) (q5:Int) (q6:List tV):Option (List tV) :=
  (bif (decide (q5<(a1.length:Int))) then (bif (decide (0≤q5)&&decide (q5<(a1.length:Int))) then (SX K a0 ((((a1.getD ((0:Int)+q5).toNat zM).1).1,(((a1.getD ((0:Int)+q5).toNat zM).1).2).1,((((a1.getD ((0:Int)+q5).toNat zM).1).2).2)),((a1.getD ((0:Int)+q5).toNat zM).2)) a2).bind fun y7=>(OJ K q6 y7).bind fun y8=>L4 (w (q5+(1:Int))) y8 else none) else some q6)
def MS (a0:Int×Int×Int) (a1:List tM) (a2:Int×Int) (n:Nat) (q5:Int) (q6:List tV):Option (List tV) :=
  AL (X:=Int×List tV) (fun L x=>Fm K a0 a1 a2 (fun v0 v1=>L (v0,v1)) x.1 x.2) n (q5,q6)
def QO (K:Nat) (a0:Int×Int×Int) (a1:List tM) (a2:Int×Int) (I4:Int→(List tV)→Option (List tV)):Option (List tV) :=
  I4 (0:Int) []
def OK (a0:Int×Int×Int) (a1:List tM) (a2:Int×Int):Option (List tV) :=
  QO K a0 a1 a2 (fun d0 d1=>MS K a0 a1 a2 K d0 d1)
def S0:Mdl:=⟨[(.ro,sL),(.ro,(.list 59 sM)),(.ro,sV)],[(.list 34 sV)],fun x=>OK K x.1 x.2.1 x.2.2.1⟩
def ZU (a0:Int×Int×Int) (a1:List tM) (a2:Int×Int) (lr:LR (List tV)):Ex→Fr→Option (List tV) :=
  AD (Lg K) 1 lr AcR [1,1,0,1,0] (fM (Lg K) Tryz.f119 (S0 K) (a0,a1,a2,()))
def S1 (a0:Int×Int×Int) (a1:List tM) (a2:Int×Int) (lr:LR (List tV)) (bq5:Int) (bq6:List tV):Option (List tV) :=
  lr (AP AcR [1,1,0,1,0,0]) (Oh a0 a1 a2 bq5 bq6) (ZU K a0 a1 a2 lr)
def UK:Env:=eE K [(67,ZR K),(119,S0 K)] [0,1,2,4,5,6,7,8,15,32]
def Hj (a0:Int×Int×Int) (a1:List tM) (y1:List tV) (L4:Int→(List (List tV))→Option (List (List tV))) (q5:Int) (q6:List (List tV)):Option (List (List tV)) :=
  (bif (decide (q5<(y1.length:Int))) then (bif (decide (0≤q5)&&decide (q5<(y1.length:Int))) then (OK K a0 a1 (y1.getD ((0:Int)+q5).toNat ((0:Int),(0:Int)))).bind fun y7=>(bif (decide (0≤(0:Int))&&decide ((0:Int)<(y7.length:Int))) then (bif (decide (0≤q5)&&decide (q5<(y1.length:Int))) then (bif (((y7.getD ((0:Int)+(0:Int)).toNat ((0:Int),(0:Int))).1==(y1.getD ((0:Int)+q5).toNat ((0:Int),(0:Int))).1)&&((y7.getD ((0:Int)+(0:Int)).toNat ((0:Int),(0:Int))).2==(y1.getD ((0:Int)+q5).toNat ((0:Int),(0:Int))).2)) then (bif (Nat.ble (q6.length+[y7].length) (lim 24)) then L4 (w (q5+(1:Int))) (q6++[y7]) else none) else L4 (w (q5+(1:Int))) q6) else none) else none) else none) else some q6)
def QP (a0:Int×Int×Int) (a1:List tM) (y1:List tV) (n:Nat) (q5:Int) (q6:List (List tV)):Option (List (List tV)) :=
  AL (X:=Int×List (List tV)) (fun L x=>Hj K a0 a1 y1 (fun v0 v1=>L (v0,v1)) x.1 x.2) n (q5,q6)
def WC (a0:Int×Int×Int) (a1:List tM) (I4:(List tV)→Int→(List (List tV))→Option (List (List tV))):Option (List (List tV)) :=
  (Wy K a0).bind fun y1=>I4 y1 (0:Int) []
def WD (a0:Int×Int×Int) (a1:List tM):Option (List (List tV)) :=
  WC K a0 a1 (fun c0 d0 d1=>QP K a0 a1 c0 K d0 d1)
def ZV:Mdl:=⟨[(.ro,sL),(.ro,(.list 59 sM))],[(.list 87 (.list 34 sV))],fun x=>WD K x.1 x.2.1⟩
def Aea (a0:Int×Int×Int) (a1:List tM) (lr:LR (List (List tV))):Ex→Fr→Option (List (List tV)) :=
  AD (UK K) 1 lr Af3 [1,1,1,0,1,0] (fM (UK K) Tryz.f79 (ZV K) (a0,a1,()))
def WE (a0:Int×Int×Int) (a1:List tM) (lr:LR (List (List tV))) (y1:List tV) (bq5:Int) (bq6:List (List tV)):Option (List (List tV)) :=
  lr (AP Af3 [1,1,1,0,1,0,0]) (Sf a0 a1 y1 bq5 bq6) (Aea K a0 a1 lr)
def UL:Env:=eE K [] [0,1,3,4,5,9,17]
def MT (K:Nat) (a0:List tV) (a1:Int×Int) (L2:Int→Option Bool) (q3:Int):Option Bool :=
  (bif (decide (q3<(a0.length:Int))) then (bif (decide (0≤q3)&&decide (q3<(a0.length:Int))) then (bif (((a0.getD ((0:Int)+q3).toNat ((0:Int),(0:Int))).1==a1.1)&&((a0.getD ((0:Int)+q3).toNat ((0:Int),(0:Int))).2==a1.2)) then some true else L2 (w (q3+(1:Int)))) else none) else some false)
def QQ (a0:List tV) (a1:Int×Int) (n:Nat) (q3:Int):Option Bool :=
  AL (X:=Int) (fun L x=>MT K a0 a1 (fun v0=>L v0) x) n q3
def WF (K:Nat) (a0:List tV) (a1:Int×Int) (I2:Int→Option Bool):Option Bool :=
  I2 (0:Int)
def UM (a0:List tV) (a1:Int×Int):Option Bool :=
  WF K a0 a1 (fun d0=>QQ K a0 a1 K d0)
def ZW:Mdl:=⟨[(.ro,(.list 34 sV)),(.ro,sV)],[.bool],fun x=>UM K x.1 x.2.1⟩
def Aeb (a0:List tV) (a1:Int×Int) (lr:LR Bool):Ex→Fr→Option Bool :=
  AD (UL K) 1 lr Af4 [1,0,1,0] (fM (UL K) Tryz.f80 (ZW K) (a0,a1,()))
def WG (a0:List tV) (a1:Int×Int) (lr:LR Bool) (bq3:Int):Option Bool :=
  lr (AP Af4 [1,0,1,0,0]) (Si a0 a1 bq3) (Aeb K a0 a1 lr)
def MU:Env:=eE K [(78,AgO K),(79,ZV K),(80,ZW K),(81,ZL K)] [0,1,2,3,5,8,9,10,11,12,13,14,15,22,31,37,56,1000011]
def Ix (a0:Int) (a1:Int×Int×Int) (a2:List tM) (a3:List (tV×Int)) (q13:Int) (q14:List (Option (List tV))) (q15:List (List tV)) (y1:Int) (L12:Int→(List (Option (List tV)))→(List (List tV))→Option ((List (List tV))×Int)) (L16:Bool→Int→Option ((List (List tV))×Int)) (q17:Bool) (q18:Int):Option ((List (List tV))×Int) :=
  (bif (decide (q18<(a3.length:Int))) then (bif ((decide (0≤q13)&&decide (q13<(q14.length:Int)))||(!q17)) then (bif ((q14.getD ((0:Int)+q13).toNat none).isSome||(!q17)) then (bif ((decide (0≤q18)&&decide (q18<(a3.length:Int)))||(!q17)) then ((bif q17 then QJ K a1 ((a3.getD ((0:Int)+q18).toNat (((0:Int),(0:Int)),(0:Int))).1) else some ((0:Int),(0:Int)))).bind fun y19=>((bif q17 then UM K (bif q17 then ((q14.getD ((0:Int)+q13).toNat none).getD []) else []) y19 else some false)).bind fun y20=>L16 (bif q17 then (!y20) else false) (w (q18+(1:Int))) else none) else none) else none) else (bif q17 then (bif (decide (0≤q13)&&decide (q13<(q14.length:Int))) then (bif (q14.getD ((0:Int)+q13).toNat none).isSome then (bif ((q14.getD ((0:Int)+q13).toNat none).isSome&&Nat.ble (q15.length+1) (lim 24)) then L12 (w (q13+(1:Int))) (q14.set ((0:Int)+q13).toNat none) (q15++[((q14.getD ((0:Int)+q13).toNat none).getD [])]) else none) else none) else none) else L12 (w (q13+(1:Int))) q14 q15))
def GB (a0:Int) (a1:Int×Int×Int) (a2:List tM) (a3:List (tV×Int)) (q13:Int) (q14:List (Option (List tV))) (q15:List (List tV)) (y1:Int) (L12:Int→(List (Option (List tV)))→(List (List tV))→Option ((List (List tV))×Int)) (n:Nat) (q17:Bool) (q18:Int):Option ((List (List tV))×Int) :=
  AL (X:=Bool×Int) (fun L x=>Ix K a0 a1 a2 a3 q13 q14 q15 y1 L12 (fun v0 v1=>L (v0,v1)) x.1 x.2) n (q17,q18)
def GC (K:Nat) (a0:Int) (a1:Int×Int×Int) (a2:List tM) (a3:List (tV×Int)) (y1:Int) (I16:Int→(List (Option (List tV)))→(List (List tV))→Bool→Int→Option ((List (List tV))×Int)) (L12:Int→(List (Option (List tV)))→(List (List tV))→Option ((List (List tV))×Int)) (q13:Int) (q14:List (Option (List tV))) (q15:List (List tV)):Option ((List (List tV))×Int) :=
  (bif (decide (q13<(q14.length:Int))) then I16 q13 q14 q15 true (0:Int) else some (q15,(0:Int)))
def MV (a0:Int) (a1:Int×Int×Int) (a2:List tM) (a3:List (tV×Int)) (y1:Int) (n:Nat) (q13:Int) (q14:List (Option (List tV))) (q15:List (List tV)):Option ((List (List tV))×Int) :=
  AL (X:=Int×List (Option (List tV))×List (List tV)) (fun L x=>(fun L12=>GC K a0 a1 a2 a3 y1 (fun c0 c1 c2 d0 d1=>GB K a0 a1 a2 a3 c0 c1 c2 y1 L12 K d0 d1) L12 x.1 x.2.1 x.2.2) (fun v0 v1 v2=>L (v0,v1,v2))) n (q13,q14,q15)
def WH (a0:Int) (a1:Int×Int×Int) (a2:List tM) (a3:List (tV×Int)) (I12:Int→Int→(List (Option (List tV)))→(List (List tV))→Option ((List (List tV))×Int)):Option ((List (List tV))×Int) :=
  (ZQ K a0 a1 a2 a3).bind fun y1=>(bif (y1 != (0:Int)) then some ([],y1) else (WD K a1 a2).bind fun y2=>I12 y1 (0:Int) (y2.map some) [])
def WI (a0:Int) (a1:Int×Int×Int) (a2:List tM) (a3:List (tV×Int)):Option ((List (List tV))×Int) :=
  WH K a0 a1 a2 a3 (fun c0 d0 d1 d2=>MV K a0 a1 a2 a3 c0 K d0 d1 d2)
def ZX:Mdl:=⟨[(.ro,sI),(.ro,sL),(.ro,(.list 59 sM)),(.ro,(.list 84 (.cons sV sI)))],[(.list 87 (.list 34 sV)),sI],fun x=>WI K x.1 x.2.1 x.2.2.1 x.2.2.2.1⟩
def S2 (a0:Int) (a1:Int×Int×Int) (a2:List tM) (a3:List (tV×Int)) (lr:LR ((List (List tV))×Int)):Ex→Fr→Option ((List (List tV))×Int) :=
  AD (MU K) 2 lr ZD [1,1,1,1,1,0,1,0] (fM (MU K) Tryz.f24 (ZX K) (a0,a1,a2,a3,()))
def S3 (a0:Int) (a1:Int×Int×Int) (a2:List tM) (a3:List (tV×Int)) (lr:LR ((List (List tV))×Int)) (y1 bq13:Int) (bq14:List (Option (List tV))) (bq15:List (List tV)):Option ((List (List tV))×Int) :=
  lr (AP ZD [1,1,1,1,1,0,1,0,0]) (EN a0 a1 a2 a3 y1 bq13 bq14 bq15) (S2 K a0 a1 a2 a3 lr)
def ZY (a0:Int) (a1:Int×Int×Int) (a2:List tM) (a3:List (tV×Int)) (y1:Int) (F12:Fr→Option ((List (List tV))×Int)) (bq13:Int) (bq14:List (Option (List tV))) (bq15:List (List tV)) (lr:LR ((List (List tV))×Int)):Ex→Fr→Option ((List (List tV))×Int) :=
  AD (MU K) 2 lr (AP ZD [1,1,1,1,1,0,1,0,0]) [1,0,0,1,0,1,0] (Fd 2 (EN a0 a1 a2 a3 y1 bq13 bq14 bq15) F12 (S2 K a0 a1 a2 a3 lr))
def S4 (a0:Int) (a1:Int×Int×Int) (a2:List tM) (a3:List (tV×Int)) (y1:Int) (F12:Fr→Option ((List (List tV))×Int)) (bq13:Int) (bq14:List (Option (List tV))) (bq15:List (List tV)) (lr:LR ((List (List tV))×Int)) (q13:Int) (q14:List (Option (List tV))) (q15:List (List tV)) (bq17:Bool) (bq18:Int):Option ((List (List tV))×Int) :=
  lr (AP ZD [1,1,1,1,1,0,1,0,0,1,0,0,1,0,1,0,0]) (Oi a0 a1 a2 a3 q13 q14 q15 y1 bq17 bq18) (ZY K a0 a1 a2 a3 y1 F12 bq13 bq14 bq15 lr)
def AgR:Env:=eE K [] [0,1,2,6]
def GD (K:Nat) (a0 a1 a2:Int):Option Bool :=
  some (bif (decide (a0≥a1)) then (decide (a0≤a2)) else false)
def OL:Mdl:=⟨[(.ro,sI),(.ro,sI),(.ro,sI)],[.bool],fun x=>GD K x.1 x.2.1 x.2.2.1⟩
def AgS:Env:=eE K [(172,OL K)] [0,2]
def S5 (a0:Int):Option Bool :=
  (GD K a0 (0:Int) (1:Int)).bind fun y1=>some y1
def Ado:Mdl:=⟨[(.ro,sI)],[.bool],fun x=>S5 K x.1⟩
def AhZ:Env:=eE K [] [0,1,2]
def WJ (K:Nat) (a0:Int×Int×Int):Option Int :=
  some (w (a0.1*a0.2.2))
def Aec:Mdl:=⟨[(.ro,sL)],[sI],fun x=>WJ K x.1⟩
def AgT:Env:=eE K [(62,Aec K),(172,OL K)] [0,1,2]
def S6 (a0:Int×Int×Int):Option Bool :=
  (GD K a0.1 (1:Int) (64:Int)).bind fun y1=>((bif y1 then GD K a0.2.2 (1:Int) (64:Int) else some false)).bind fun y2=>((bif (bif y1 then y2 else false) then GD K a0.2.1 (0:Int) (w (a0.1-(1:Int))) else some false)).bind fun y3=>((bif (bif (bif y1 then y2 else false) then y3 else false) then WJ K a0 else some (0:Int))).bind fun y4=>some (bif (bif (bif y1 then y2 else false) then y3 else false) then (decide (y4≤(64:Int))) else false)
def Adp:Mdl:=⟨[(.ro,sL)],[.bool],fun x=>S6 K x.1⟩
def AgU:Env:=eE K [(154,Ado K),(155,Adp K)] [0,1,3,4,12]
def S7 (a0:Int) (a1:Int×Int×Int):Option Int :=
  (S5 K a0).bind fun y1=>((bif (!(!y1)) then S6 K a1 else some false)).bind fun y2=>(bif (bif (!y1) then true else (!y2)) then some (1:Int) else some (0:Int))
def Adq:Mdl:=⟨[(.ro,sI),(.ro,sL)],[sI],fun x=>S7 K x.1 x.2.1⟩
def AgV:Env:=eE K [] [0,1,2,3]
def WK (K:Nat) (a0:Int×Int×Int):Option (tV×Int×Int) :=
  some ((a0.1,(0:Int)),a0.2)
def Adr:Mdl:=⟨[(.ro,sL)],[sV,sV],fun x=>WK K x.1⟩
def AgW:Env:=eE K [] [0,1,2,3,4]
def FN (K:Nat) (a0:Int×Int×Int×Int) (a1:Int×Int):Option tV :=
  some ((w ((w (a0.1*a1.1))+(w (a0.2.1*a1.2)))),(w ((w (a0.2.2.1*a1.1))+(w (a0.2.2.2*a1.2)))))
def OM:Mdl:=⟨[(.ro,sA),(.ro,sV)],[sV],fun x=>FN K x.1 x.2.1⟩
def AgX:Env:=eE K [] [0,1,3,4]
def S8 (K:Nat) (a0:Int) (a1:Int×Int):Option Int :=
  some (w ((w ((w (a1.1*a1.1))+(w ((w (a0*a1.1))*a1.2))))+(w (a1.2*a1.2))))
def Ads:Mdl:=⟨[(.ro,sI),(.ro,sV)],[sI],fun x=>S8 K x.1 x.2.1⟩
def Lh:Env:=eE K [(162,OM K),(213,Ads K)] [0,2,3,4,5,6,7,8,10,11,54]
def ZZ (a0:Int) (L8:Int→(List tA)→Option (List tA)) (q9:Int) (q10:List tA):Option (List tA) :=
  (bif (decide (q9<(81:Int))) then (FN K ((w ((w (q9.tdiv (27:Int)))-(1:Int))),(w (((w (q9.tdiv (9:Int))).tmod (3:Int))-(1:Int))),(w (((w (q9.tdiv (3:Int))).tmod (3:Int))-(1:Int))),(w ((q9.tmod (3:Int))-(1:Int)))) ((1:Int),(0:Int))).bind fun y11=>(FN K ((w ((w (q9.tdiv (27:Int)))-(1:Int))),(w (((w (q9.tdiv (9:Int))).tmod (3:Int))-(1:Int))),(w (((w (q9.tdiv (3:Int))).tmod (3:Int))-(1:Int))),(w ((q9.tmod (3:Int))-(1:Int)))) ((0:Int),(1:Int))).bind fun y12=>(FN K ((w ((w (q9.tdiv (27:Int)))-(1:Int))),(w (((w (q9.tdiv (9:Int))).tmod (3:Int))-(1:Int))),(w (((w (q9.tdiv (3:Int))).tmod (3:Int))-(1:Int))),(w ((q9.tmod (3:Int))-(1:Int)))) ((1:Int),(1:Int))).bind fun y13=>(S8 K a0 y11).bind fun y14=>((bif (y14==(1:Int)) then S8 K a0 y12 else some (0:Int))).bind fun y15=>((bif (bif (y14==(1:Int)) then (y15==(1:Int)) else false) then S8 K a0 y13 else some (0:Int))).bind fun y16=>(bif (bif (bif (y14==(1:Int)) then (y15==(1:Int)) else false) then (y16==(w ((2:Int)+a0))) else false) then (bif (Nat.ble (q10.length+[((w ((w (q9.tdiv (27:Int)))-(1:Int))),(w (((w (q9.tdiv (9:Int))).tmod (3:Int))-(1:Int))),(w (((w (q9.tdiv (3:Int))).tmod (3:Int))-(1:Int))),(w ((q9.tmod (3:Int))-(1:Int))))].length) (lim 32)) then L8 (w (q9+(1:Int))) (q10++[((w ((w (q9.tdiv (27:Int)))-(1:Int))),(w (((w (q9.tdiv (9:Int))).tmod (3:Int))-(1:Int))),(w (((w (q9.tdiv (3:Int))).tmod (3:Int))-(1:Int))),(w ((q9.tmod (3:Int))-(1:Int))))]) else none) else L8 (w (q9+(1:Int))) q10) else some q10)
def S9 (a0:Int) (n:Nat) (q9:Int) (q10:List tA):Option (List tA) :=
  AL (X:=Int×List tA) (fun L x=>ZZ K a0 (fun v0 v1=>L (v0,v1)) x.1 x.2) n (q9,q10)
def WL (K:Nat) (a0:Int) (I8:Int→(List tA)→Option (List tA)):Option (List tA) :=
  I8 (0:Int) []
def Li (a0:Int):Option (List tA) :=
  WL K a0 (fun d0 d1=>S9 K a0 K d0 d1)
def Ta:Mdl:=⟨[(.ro,sI)],[(.list 57 sA)],fun x=>Li K x.1⟩
def Z0 (a0:Int) (lr:LR (List tA)):Ex→Fr→Option (List tA) :=
  AD (Lh K) 0 lr AcS [1,1,0,1,0] (fM (Lh K) Tryz.f158 (Ta K) (a0,()))
def Tb (a0:Int) (lr:LR (List tA)) (bq9:Int) (bq10:List tA):Option (List tA) :=
  lr (AP AcS [1,1,0,1,0,0]) (Oj a0 bq9 bq10) (Z0 K a0 lr)
def AgY:Env:=eE K [] [0,1,4]
def ON (K:Nat) (a0 a1:Int):Option Int :=
  (bif (a1 != 0) then (bif (a1 != 0) then some ((w ((a0.tmod a1)+a1)).tmod a1) else none) else none)
def Adt:Mdl:=⟨[(.ro,sI),(.ro,sI)],[sI],fun x=>ON K x.1 x.2.1⟩
def Ah0:Env:=eE K [(170,Adt K)] [0,1,2,3,4,5]
def KM (a0:Int×Int×Int) (a1:Int×Int):Option tV :=
  (ON K a1.2 a0.2.2).bind fun y1=>(bif (a0.2.2 != 0) then (ON K (w (a1.1-(w ((w ((w (a1.2-y1)).tdiv a0.2.2))*a0.2.1)))) a0.1).bind fun y2=>some (y2,y1) else none)
def UN:Mdl:=⟨[(.ro,sL),(.ro,sV)],[sV],fun x=>KM K x.1 x.2.1⟩
def AgZ:Env:=eE K [(90,UN K)] [0,1,2,3,4]
def OO (a0:Int×Int×Int) (a1:Int×Int):Option Bool :=
  (KM K a0 a1).bind fun y1=>some ((y1.1==(0:Int))&&(y1.2==(0:Int)))
def Adu:Mdl:=⟨[(.ro,sL),(.ro,sV)],[.bool],fun x=>OO K x.1 x.2.1⟩
def Ag0:Env:=eE K [(162,OM K),(259,Adu K)] [0,1,2,3,4,5]
def Tc (a0:Int×Int×Int×Int) (a1:Int×Int×Int) (a2 a3:Int×Int):Option Bool :=
  (FN K a0 a2).bind fun y1=>(OO K a1 y1).bind fun y2=>((bif (!(!y2)) then FN K a0 a3 else some ((0:Int),(0:Int)))).bind fun y3=>((bif (!(!y2)) then OO K a1 y3 else some false)).bind fun y4=>some (bif (!y2) then true else (!y4))
def WM:Mdl:=⟨[(.ro,sA),(.cap,sL),(.cap,sV),(.cap,sV)],[.bool],fun x=>Tc K x.1 x.2.1 x.2.2.1 x.2.2.2.1⟩
def Lj:Env:=eE K [] [0,1,4,5,7,8,9,16]
def Iy (K:Nat) (a0:List tA) (a1:(tA→Option Bool)) (L3:Int→Option Int) (q4:Int):Option Int :=
  (bif (decide (q4<(a0.length:Int))) then (bif (decide (0≤q4)&&decide (q4<(a0.length:Int))) then (a1 ((a0.getD ((0:Int)+q4).toNat zA).1,((a0.getD ((0:Int)+q4).toNat zA).2).1,(((a0.getD ((0:Int)+q4).toNat zA).2).2))).bind fun y5=>(bif y5 then some q4 else L3 (w (q4+(1:Int)))) else none) else some (-1:Int))
def MW (a0:List tA) (a1:(tA→Option Bool)) (n:Nat) (q4:Int):Option Int :=
  AL (X:=Int) (fun L x=>Iy K a0 a1 (fun v0=>L v0) x) n q4
def QR (K:Nat) (a0:List tA) (a1:(tA→Option Bool)) (I3:Int→Option Int):Option Int :=
  I3 (0:Int)
def OP (a0:List tA) (a1:(tA→Option Bool)):Option Int :=
  QR K a0 a1 (fun d0=>MW K a0 a1 K d0)
def Td:Mdl:=⟨[(.ro,(.list 57 sA)),(.ro,(.fn1 sA .bool))],[sI],fun x=>OP K x.1 x.2.1⟩
def Z1 (a0:List tA) (a1:(tA→Option Bool)) (lr:LR Int):Ex→Fr→Option Int :=
  AD (Lj K) 1 lr AcT [1,0,1,0] (fM (Lj K) Tryz.f274 (Td K) (a0,a1,()))
def Te (a0:List tA) (a1:(tA→Option Bool)) (lr:LR Int) (bq4:Int):Option Int :=
  lr (AP AcT [1,0,1,0,0]) (Ok a0 a1 bq4) (Z1 K a0 a1 lr)
def Lk:Env:=eE K [(274,Td K)] [0,1,4,5,6,7,12,19,29]
def Iz (K:Nat) (a1:(tA→Option Bool)) (y1:Int) (L4:Int→Int→(List tA)→Option (List tA)) (q5 q6:Int) (q7:List tA):Option (List tA) :=
  (bif (decide (q6<(q7.length:Int))) then (bif (decide (0≤q6)&&decide (q6<(q7.length:Int))) then (a1 ((q7.getD ((0:Int)+q6).toNat zA).1,((q7.getD ((0:Int)+q6).toNat zA).2).1,(((q7.getD ((0:Int)+q6).toNat zA).2).2))).bind fun y8=>(bif (!y8) then (bif (decide (0≤q5)&&decide (q5<(q7.length:Int))) then L4 (w (q5+(1:Int))) (w (q6+(1:Int))) (q7.set ((0:Int)+q5).toNat ((q7.getD ((0:Int)+q6).toNat zA).1,((q7.getD ((0:Int)+q6).toNat zA).2).1,(((q7.getD ((0:Int)+q6).toNat zA).2).2))) else none) else L4 q5 (w (q6+(1:Int))) q7) else none) else (bif (decide (0≤q5)&&decide (q5≤(q7.length:Int))&&decide ((q7.length:Int)≤(q7.length:Int))) then (bif (decide (0≤(0:Int))&&decide ((0:Int)≤q5)&&decide (q5≤((clr q7 ((0:Int)+q5).toNat (((0:Int)+q5)+(((0:Int)+(q7.length:Int))-((0:Int)+q5))).toNat zA).length:Int))) then some ((clr q7 ((0:Int)+q5).toNat (((0:Int)+q5)+(((0:Int)+(q7.length:Int))-((0:Int)+q5))).toNat zA).take ((0:Int)+q5).toNat) else none) else none))
def MX (a1:(tA→Option Bool)) (y1:Int) (n:Nat) (q5 q6:Int) (q7:List tA):Option (List tA) :=
  AL (X:=Int×Int×List tA) (fun L x=>Iz K a1 y1 (fun v0 v1 v2=>L (v0,v1,v2)) x.1 x.2.1 x.2.2) n (q5,q6,q7)
def QS (a0:List tA) (a1:(tA→Option Bool)) (I4:Int→Int→Int→(List tA)→Option (List tA)):Option (List tA) :=
  (OP K a0 a1).bind fun y1=>(bif (y1==(-1:Int)) then some a0 else I4 y1 y1 (w (y1+(1:Int))) a0)
def OQ (a0:List tA) (a1:(tA→Option Bool)):Option (List tA) :=
  QS K a0 a1 (fun c0 d0 d1 d2=>MX K a1 c0 K d0 d1 d2)
def Tf:Mdl:=⟨[(.mv,(.list 57 sA)),(.ro,(.fn1 sA .bool))],[(.list 57 sA)],fun x=>OQ K x.1 x.2.1⟩
def Z2 (a0:List tA) (a1:(tA→Option Bool)) (lr:LR (List tA)):Ex→Fr→Option (List tA) :=
  AD (Lk K) 1 lr AcU [1,1,1,0,1,0] (fM (Lk K) Tryz.f257 (Tf K) (a0,a1,()))
def Tg (a0:List tA) (a1:(tA→Option Bool)) (lr:LR (List tA)) (y1 bq5 bq6:Int) (bq7:List tA):Option (List tA) :=
  lr (AP AcU [1,1,1,0,1,0,0]) (Ol a1 y1 bq5 bq6 bq7) (Z2 K a0 a1 lr)
def Ag1:Env:=⟨[(158,Ta K),(160,Adr K),(257,Tf K),(258,WM K)],tys,eqs,mts,K,[0,1,3,4,5,6],[],[],[],[],[(258,WM K)],[],false⟩
def Th (a0:Int) (a1:Int×Int×Int):Option (List tA) :=
  (WK K a1).bind fun y1=>(Li K a0).bind fun y2=>(OQ K y2 (fun z3=>Tc K z3 a1 y1.1 y1.2)).bind fun y4=>some y4
def Adv:Mdl:=⟨[(.ro,sI),(.ro,sL)],[(.list 57 sA)],fun x=>Th K x.1 x.2.1⟩
def Ll:Env:=eE K [] [0,1,3,4,5,7,8,9,16]
def IA (K:Nat) (a0:List tA) (a1:Int×Int×Int×Int) (L2:Int→Option Int) (q3:Int):Option Int :=
  (bif (decide (q3<(a0.length:Int))) then (bif (decide (0≤q3)&&decide (q3<(a0.length:Int))) then (bif ((a1.1==(a0.getD ((0:Int)+q3).toNat zA).1)&&((a1.2.1==((a0.getD ((0:Int)+q3).toNat zA).2).1)&&((a1.2.2.1==(((a0.getD ((0:Int)+q3).toNat zA).2).2).1)&&(a1.2.2.2==(((a0.getD ((0:Int)+q3).toNat zA).2).2).2)))) then some q3 else L2 (w (q3+(1:Int)))) else none) else some (-1:Int))
def MY (a0:List tA) (a1:Int×Int×Int×Int) (n:Nat) (q3:Int):Option Int :=
  AL (X:=Int) (fun L x=>IA K a0 a1 (fun v0=>L v0) x) n q3
def QT (K:Nat) (a0:List tA) (a1:Int×Int×Int×Int) (I2:Int→Option Int):Option Int :=
  I2 (0:Int)
def OR (a0:List tA) (a1:Int×Int×Int×Int):Option Int :=
  QT K a0 a1 (fun d0=>MY K a0 a1 K d0)
def Ti:Mdl:=⟨[(.ro,(.list 57 sA)),(.ro,sA)],[sI],fun x=>OR K x.1 x.2.1⟩
def Z3 (a0:List tA) (a1:Int×Int×Int×Int) (lr:LR Int):Ex→Fr→Option Int :=
  AD (Ll K) 1 lr AcV [1,0,1,0] (fM (Ll K) Tryz.f212 (Ti K) (a0,a1,()))
def Tj (a0:List tA) (a1:Int×Int×Int×Int) (lr:LR Int) (bq3:Int):Option Int :=
  lr (AP AcV [1,0,1,0,0]) (Om a0 a1 bq3) (Z3 K a0 a1 lr)
def Ag2:Env:=eE K [(212,Ti K)] [0,1,3,4]
def Tk (a0:List tA) (a1:Int×Int×Int×Int):Option Bool :=
  (OR K a0 a1).bind fun y1=>some (decide (y1≥(0:Int)))
def Adw:Mdl:=⟨[(.ro,(.list 57 sA)),(.ro,sA)],[.bool],fun x=>Tk K x.1 x.2.1⟩
def Lm:Env:=eE K [] [0,1,4,5,7,8,9,19,28]
def MZ (K:Nat) (a0 a1:List Int) (L2:Int→Option Int) (q3:Int):Option Int :=
  (bif (decide (q3<(a0.length:Int))) then (bif (decide (0≤q3)&&decide (q3<(a0.length:Int))) then (bif (decide (0≤q3)&&decide (q3<(a1.length:Int))) then (bif ((a0.getD ((0:Int)+q3).toNat (0:Int)) != (a1.getD ((0:Int)+q3).toNat (0:Int))) then (bif (decide (0≤q3)&&decide (q3<(a0.length:Int))) then (bif (decide (0≤q3)&&decide (q3<(a1.length:Int))) then (bif (decide ((a0.getD ((0:Int)+q3).toNat (0:Int))<(a1.getD ((0:Int)+q3).toNat (0:Int)))) then some (-1:Int) else some (1:Int)) else none) else none) else L2 (w (q3+(1:Int)))) else none) else none) else some (0:Int))
def IB (a0 a1:List Int) (n:Nat) (q3:Int):Option Int :=
  AL (X:=Int) (fun L x=>MZ K a0 a1 (fun v0=>L v0) x) n q3
def QU (K:Nat) (a0 a1:List Int) (I2:Int→Option Int):Option Int :=
  I2 (0:Int)
def Ln (a0 a1:List Int):Option Int :=
  QU K a0 a1 (fun d0=>IB K a0 a1 K d0)
def OS:Mdl:=⟨[(.ro,(.list 2 sI)),(.ro,(.list 2 sI))],[sI],fun x=>Ln K x.1 x.2.1⟩
def Z4 (a0 a1:List Int) (lr:LR Int):Ex→Fr→Option Int :=
  AD (Lm K) 2 lr AcW [1,0,1,0] (fM (Lm K) Tryz.f190 (OS K) (a0,a1,()))
def Tl (a0 a1:List Int) (lr:LR Int) (bq3:Int):Option Int :=
  lr (AP AcW [1,0,1,0,0]) (On a0 a1 bq3) (Z4 K a0 a1 lr)
def Ag3:Env:=eE K [(190,OS K)] [0,1,2,3,4]
def WN (a0 a1:Int×Int×Int×Int):Option Int :=
  (Ln K [a0.1,a0.2.1,a0.2.2.1,a0.2.2.2] [a1.1,a1.2.1,a1.2.2.1,a1.2.2.2]).bind fun y1=>some y1
def Adx:Mdl:=⟨[(.ro,sA),(.ro,sA)],[sI],fun x=>WN K x.1 x.2.1⟩
def Ag4:Env:=eE K [(190,OS K)] [0,1,2,3,4]
def HX (a0 a1:Int×Int):Option Int :=
  (Ln K [a0.1,a0.2] [a1.1,a1.2]).bind fun y1=>some y1
def Tm:Mdl:=⟨[(.ro,sV),(.ro,sV)],[sI],fun x=>HX K x.1 x.2.1⟩
def Ag5:Env:=eE K [(127,Tm K),(245,Adx K)] [0,1,2,3,4,5,12]
def Tn (a0 a1:tA×Int×Int):Option Int :=
  (WN K a0.1 a1.1).bind fun y1=>(bif (y1 != (0:Int)) then some y1 else (HX K a0.2 a1.2).bind fun y2=>some y2)
def Ady:Mdl:=⟨[(.ro,sM),(.ro,sM)],[sI],fun x=>Tn K x.1 x.2.1⟩
def Ag6:Env:=eE K [] [0]
def WO (K:Nat):Option tA :=
  some ((1:Int),(0:Int),(0:Int),(1:Int))
def Adz:Mdl:=⟨[],[sA],fun x=>WO K ⟩
def Ag7:Env:=eE K [] [0,1,2,3,4]
def WP (K:Nat) (a0 a1:Int×Int×Int×Int):Option tA :=
  some ((w ((w (a0.1*a1.1))+(w (a0.2.1*a1.2.2.1)))),(w ((w (a0.1*a1.2.1))+(w (a0.2.1*a1.2.2.2)))),(w ((w (a0.2.2.1*a1.1))+(w (a0.2.2.2*a1.2.2.1)))),(w ((w (a0.2.2.1*a1.2.1))+(w (a0.2.2.2*a1.2.2.2)))))
def AdA:Mdl:=⟨[(.ro,sA),(.ro,sA)],[sA],fun x=>WP K x.1 x.2.1⟩
def Ag8:Env:=eE K [] [0,1,2,3,4]
def OT (K:Nat) (a0 a1:Int×Int):Option tV :=
  some ((w (a0.1+a1.1)),(w (a0.2+a1.2)))
def WQ:Mdl:=⟨[(.ro,sV),(.ro,sV)],[sV],fun x=>OT K x.1 x.2.1⟩
def Ag9:Env:=eE K [(162,OM K),(214,WQ K),(236,AdA K)] [0,1,2,3,4]
def To (a0 a1:tA×Int×Int):Option tM :=
  (WP K a0.1 a1.1).bind fun y1=>(FN K a0.1 a1.2).bind fun y2=>(OT K y2 a0.2).bind fun y3=>some (y1,y3)
def AdB:Mdl:=⟨[(.ro,sM),(.ro,sM)],[sM],fun x=>To K x.1 x.2.1⟩
def Aha:Env:=eE K [(90,UN K)] [0,1,2,3,4]
def Tp (a0:Int×Int×Int) (a1:tA×Int×Int):Option tM :=
  (KM K a0 a1.2).bind fun y1=>some (a1.1,y1)
def AdC:Mdl:=⟨[(.ro,sL),(.ro,sM)],[sM],fun x=>Tp K x.1 x.2.1⟩
def DN:Env:=eE K [(90,UN K),(157,Adw K),(192,AdC K),(193,AdB K),(197,Ady K),(223,Adv K),(224,Adz K)] [0,1,2,4,6,7,8,9,10,12,14,19,20,21,22,53,61,62,63,64,65,68,69,70,71,81]
def GE (a0:Int) (a1:Int×Int×Int) (a2:List tM) (q7:Int) (q8:List (tM×Bool)) (q22:Int) (y1:List tA) (y12:Int×Int×Int×Int) (L21 L23:Int→Option Bool) (q24:Int):Option Bool :=
  (bif (decide (q24<(a2.length:Int))) then (bif (decide (0≤q24)&&decide (q24<(a2.length:Int))) then (To K ((((a2.getD ((0:Int)+q22).toNat zM).1).1,(((a2.getD ((0:Int)+q22).toNat zM).1).2).1,((((a2.getD ((0:Int)+q22).toNat zM).1).2).2)),((a2.getD ((0:Int)+q22).toNat zM).2)) ((((a2.getD ((0:Int)+q24).toNat zM).1).1,(((a2.getD ((0:Int)+q24).toNat zM).1).2).1,((((a2.getD ((0:Int)+q24).toNat zM).1).2).2)),((a2.getD ((0:Int)+q24).toNat zM).2))).bind fun y25=>(Tp K a1 y25).bind fun y26=>(bif (!((BN (AO sM) q8 y26).getD false)) then some false else L23 (w (q24+(1:Int)))) else none) else L21 (w (q22+(1:Int))))
def EQ (a0:Int) (a1:Int×Int×Int) (a2:List tM) (q7:Int) (q8:List (tM×Bool)) (q22:Int) (y1:List tA) (y12:Int×Int×Int×Int) (L21:Int→Option Bool) (n:Nat) (q24:Int):Option Bool :=
  AL (X:=Int) (fun L x=>GE K a0 a1 a2 q7 q8 q22 y1 y12 L21 (fun v0=>L v0) x) n q24
def ER (K:Nat) (a0:Int) (a1:Int×Int×Int) (a2:List tM) (q7:Int) (q8:List (tM×Bool)) (y1:List tA) (y12:Int×Int×Int×Int) (I23:Int→Int→Option Bool) (L21:Int→Option Bool) (q22:Int):Option Bool :=
  (bif (decide (q22<(a2.length:Int))) then (bif (decide (0≤q22)&&decide (q22<(a2.length:Int))) then I23 q22 (0:Int) else none) else some true)
def ES (a0:Int) (a1:Int×Int×Int) (a2:List tM) (q7:Int) (q8:List (tM×Bool)) (y1:List tA) (y12:Int×Int×Int×Int) (n:Nat) (q22:Int):Option Bool :=
  AL (X:=Int) (fun L x=>(fun L21=>ER K a0 a1 a2 q7 q8 y1 y12 (fun c0 d0=>EQ K a0 a1 a2 q7 q8 c0 y1 y12 L21 K d0) L21 x) (fun v0=>L v0)) n q22
def Dp (a0:Int) (a1:Int×Int×Int) (a2:List tM) (y1:List tA) (I21:Int→(List (tM×Bool))→(List tA)→tA→Int→Option Bool) (L6:Int→(List (tM×Bool))→Option Bool) (q7:Int) (q8:List (tM×Bool)):Option Bool :=
  (bif (decide (q7<(a2.length:Int))) then (bif (decide (0≤q7)&&decide (q7<(a2.length:Int))) then (Tk K y1 (((a2.getD ((0:Int)+q7).toNat zM).1).1,(((a2.getD ((0:Int)+q7).toNat zM).1).2).1,((((a2.getD ((0:Int)+q7).toNat zM).1).2).2))).bind fun y9=>((bif (!(!y9)) then KM K a1 ((a2.getD ((0:Int)+q7).toNat zM).2) else some ((0:Int),(0:Int)))).bind fun y10=>(bif ((decide (0≤(w (q7-(1:Int))))&&decide ((w (q7-(1:Int)))<(a2.length:Int)))||(!((!(bif (!y9) then true else (!((y10.1==((a2.getD ((0:Int)+q7).toNat zM).2).1)&&(y10.2==((a2.getD ((0:Int)+q7).toNat zM).2).2)))))&&(decide (q7>(0:Int)))))) then ((bif ((!(bif (!y9) then true else (!((y10.1==((a2.getD ((0:Int)+q7).toNat zM).2).1)&&(y10.2==((a2.getD ((0:Int)+q7).toNat zM).2).2)))))&&(decide (q7>(0:Int)))) then Tn K ((((a2.getD ((0:Int)+(w (q7-(1:Int)))).toNat zM).1).1,(((a2.getD ((0:Int)+(w (q7-(1:Int)))).toNat zM).1).2).1,((((a2.getD ((0:Int)+(w (q7-(1:Int)))).toNat zM).1).2).2)),((a2.getD ((0:Int)+(w (q7-(1:Int)))).toNat zM).2)) ((((a2.getD ((0:Int)+q7).toNat zM).1).1,(((a2.getD ((0:Int)+q7).toNat zM).1).2).1,((((a2.getD ((0:Int)+q7).toNat zM).1).2).2)),((a2.getD ((0:Int)+q7).toNat zM).2)) else some (0:Int))).bind fun y11=>(bif (bif (bif (!y9) then true else (!((y10.1==((a2.getD ((0:Int)+q7).toNat zM).2).1)&&(y10.2==((a2.getD ((0:Int)+q7).toNat zM).2).2)))) then true else (bif (decide (q7>(0:Int))) then (decide (y11≥(0:Int))) else false)) then some false else L6 (w (q7+(1:Int))) (Ew (AO sM) q8 ((((a2.getD ((0:Int)+q7).toNat zM).1).1,(((a2.getD ((0:Int)+q7).toNat zM).1).2).1,((((a2.getD ((0:Int)+q7).toNat zM).1).2).2)),((a2.getD ((0:Int)+q7).toNat zM).2)) true)) else none) else none) else (WO K).bind fun y12=>(bif (!((BN (AO sM) q8 (y12,(0:Int),(0:Int))).getD false)) then some false else I21 q7 q8 y1 y12 (0:Int)))
def M0 (a0:Int) (a1:Int×Int×Int) (a2:List tM) (y1:List tA) (n:Nat) (q7:Int) (q8:List (tM×Bool)):Option Bool :=
  AL (X:=Int×List (tM×Bool)) (fun L x=>Dp K a0 a1 a2 y1 (fun c0 c1 c2 c3 d0=>ES K a0 a1 a2 c0 c1 c2 c3 K d0) (fun v0 v1=>L (v0,v1)) x.1 x.2) n (q7,q8)
def QV (a0:Int) (a1:Int×Int×Int) (a2:List tM) (I6:(List tA)→Int→(List (tM×Bool))→Option Bool):Option Bool :=
  (Th K a0 a1).bind fun y1=>I6 y1 (0:Int) []
def OU (a0:Int) (a1:Int×Int×Int) (a2:List tM):Option Bool :=
  QV K a0 a1 a2 (fun c0 d0 d1=>M0 K a0 a1 a2 c0 K d0 d1)
def OV:Mdl:=⟨[(.ro,sI),(.ro,sL),(.ro,(.list 59 sM))],[.bool],fun x=>OU K x.1 x.2.1 x.2.2.1⟩
def Z5 (a0:Int) (a1:Int×Int×Int) (a2:List tM) (lr:LR Bool):Ex→Fr→Option Bool :=
  AD (DN K) 1 lr K7 [1,1,0,1,0] (fM (DN K) Tryz.f186 (OV K) (a0,a1,a2,()))
def Tq (a0:Int) (a1:Int×Int×Int) (a2:List tM) (lr:LR Bool) (y1:List tA) (bq7:Int) (bq8:List (tM×Bool)):Option Bool :=
  lr (AP K7 [1,1,0,1,0,0]) (Jk a0 a1 a2 y1 bq7 bq8) (Z5 K a0 a1 a2 lr)
def OW (a0:Int) (a1:Int×Int×Int) (a2:List tM) (lr:LR Bool):Ex→Fr→Option Bool :=
  AD (DN K) 1 lr K7 [1,1,1,1,0,1,0] (fM (DN K) Tryz.f186 (OV K) (a0,a1,a2,()))
def OX (a0:Int) (a1:Int×Int×Int) (a2:List tM) (lr:LR Bool) (q7:Int) (q8:List (tM×Bool)) (y1:List tA) (y12:Int×Int×Int×Int) (bq22:Int):Option Bool :=
  lr (AP K7 [1,1,1,1,0,1,0,0]) (DL a0 a1 a2 q7 q8 y1 y12 bq22) (OW K a0 a1 a2 lr)
def WR (a0:Int) (a1:Int×Int×Int) (a2:List tM) (q7:Int) (q8:List (tM×Bool)) (y1:List tA) (y12:Int×Int×Int×Int) (F21:Fr→Option Bool) (bq22:Int) (lr:LR Bool):Ex→Fr→Option Bool :=
  AD (DN K) 1 lr (AP K7 [1,1,1,1,0,1,0,0]) [1,1,0,0,1,1,0] (Fd 1 (DL a0 a1 a2 q7 q8 y1 y12 bq22) F21 (OW K a0 a1 a2 lr))
def OY (a0:Int) (a1:Int×Int×Int) (a2:List tM) (q7:Int) (q8:List (tM×Bool)) (y1:List tA) (y12:Int×Int×Int×Int) (F21:Fr→Option Bool) (bq22:Int) (lr:LR Bool) (q22 bq24:Int):Option Bool :=
  lr (AP K7 [1,1,1,1,0,1,0,0,1,1,0,0,1,1,0,0]) (K8 a0 a1 a2 q7 q8 q22 y1 y12 bq24) (WR K a0 a1 a2 q7 q8 y1 y12 F21 bq22 lr)
def Lo:Env:=eE K [(185,Adq K),(186,OV K)] [0,1,2,4,6,7,9,14,16,17,18,19,26]
def M1 (a0:Int) (a1:Int×Int×Int) (a2:List (List tM)) (y1:Int) (L4:Int→Option Int) (q5:Int):Option Int :=
  (bif (decide (q5<(a2.length:Int))) then (bif (decide (0≤q5)&&decide (q5<(a2.length:Int))) then (OU K a0 a1 (a2.getD ((0:Int)+q5).toNat [])).bind fun y6=>(bif (!y6) then some (2:Int) else L4 (w (q5+(1:Int)))) else none) else some (0:Int))
def M2 (a0:Int) (a1:Int×Int×Int) (a2:List (List tM)) (y1:Int) (n:Nat) (q5:Int):Option Int :=
  AL (X:=Int) (fun L x=>M1 K a0 a1 a2 y1 (fun v0=>L v0) x) n q5
def QW (a0:Int) (a1:Int×Int×Int) (a2:List (List tM)) (I4:Int→Int→Option Int):Option Int :=
  (S7 K a0 a1).bind fun y1=>(bif (y1 != (0:Int)) then some y1 else I4 y1 (0:Int))
def Lp (a0:Int) (a1:Int×Int×Int) (a2:List (List tM)):Option Int :=
  QW K a0 a1 a2 (fun c0 d0=>M2 K a0 a1 a2 c0 K d0)
def Tr:Mdl:=⟨[(.ro,sI),(.ro,sL),(.ro,(.list 32 (.list 59 sM)))],[sI],fun x=>Lp K x.1 x.2.1 x.2.2.1⟩
def Z6 (a0:Int) (a1:Int×Int×Int) (a2:List (List tM)) (lr:LR Int):Ex→Fr→Option Int :=
  AD (Lo K) 1 lr AcX [1,1,0,1,0] (fM (Lo K) Tryz.f121 (Tr K) (a0,a1,a2,()))
def Ts (a0:Int) (a1:Int×Int×Int) (a2:List (List tM)) (lr:LR Int) (y1 bq5:Int):Option Int :=
  lr (AP AcX [1,1,0,1,0,0]) (Oo a0 a1 a2 y1 bq5) (Z6 K a0 a1 a2 lr)
def Ahb:Env:=eE K [(172,OL K)] [0,2]
def Tt (a0:Int):Option Bool :=
  (GD K a0 (-1000:Int) (1000:Int)).bind fun y1=>some y1
def AdD:Mdl:=⟨[(.ro,sI)],[.bool],fun x=>Tt K x.1⟩
def Ah1:Env:=eE K [(159,AdD K)] [0,1,2]
def Z7 (a0:Int×Int):Option Bool :=
  (Tt K a0.1).bind fun y1=>((bif y1 then Tt K a0.2 else some false)).bind fun y2=>some (bif y1 then y2 else false)
def Ahc:Mdl:=⟨[(.ro,sV)],[.bool],fun x=>Z7 K x.1⟩
def Ah2:Env:=eE K [(172,OL K)] [0,2]
def Aed (a0:Int):Option Bool :=
  (GD K a0 (0:Int) (9:Int)).bind fun y1=>some y1
def Ahd:Mdl:=⟨[(.ro,sI)],[.bool],fun x=>Aed K x.1⟩
def Ahe:Env:=eE K [(76,Ahc K),(96,Ahd K)] [0,1,2]
def OZ (a0:tV×Int):Option Bool :=
  (Z7 K a0.1).bind fun y1=>((bif (!(!y1)) then Aed K a0.2 else some false)).bind fun y2=>some (bif (!y1) then true else (!y2))
def WS:Mdl:=⟨[(.ro,(.cons sV sI))],[.bool],fun x=>OZ K x.1⟩
def Lq:Env:=eE K [] [0,1,4,5,7,8,9,16]
def IC (K:Nat) (a0:List (tV×Int)) (a1:((tV×Int)→Option Bool)) (L3:Int→Option Int) (q4:Int):Option Int :=
  (bif (decide (q4<(a0.length:Int))) then (bif (decide (0≤q4)&&decide (q4<(a0.length:Int))) then (a1 (((a0.getD ((0:Int)+q4).toNat (((0:Int),(0:Int)),(0:Int))).1),(a0.getD ((0:Int)+q4).toNat (((0:Int),(0:Int)),(0:Int))).2)).bind fun y5=>(bif y5 then some q4 else L3 (w (q4+(1:Int)))) else none) else some (-1:Int))
def M3 (a0:List (tV×Int)) (a1:((tV×Int)→Option Bool)) (n:Nat) (q4:Int):Option Int :=
  AL (X:=Int) (fun L x=>IC K a0 a1 (fun v0=>L v0) x) n q4
def QX (K:Nat) (a0:List (tV×Int)) (a1:((tV×Int)→Option Bool)) (I3:Int→Option Int):Option Int :=
  I3 (0:Int)
def Tu (a0:List (tV×Int)) (a1:((tV×Int)→Option Bool)):Option Int :=
  QX K a0 a1 (fun d0=>M3 K a0 a1 K d0)
def Tv:Mdl:=⟨[(.ro,(.list 84 (.cons sV sI))),(.ro,(.fn1 (.cons sV sI) .bool))],[sI],fun x=>Tu K x.1 x.2.1⟩
def Z8 (a0:List (tV×Int)) (a1:((tV×Int)→Option Bool)) (lr:LR Int):Ex→Fr→Option Int :=
  AD (Lq K) 1 lr AcY [1,0,1,0] (fM (Lq K) Tryz.f168 (Tv K) (a0,a1,()))
def Tw (a0:List (tV×Int)) (a1:((tV×Int)→Option Bool)) (lr:LR Int) (bq4:Int):Option Int :=
  lr (AP AcY [1,0,1,0,0]) (Oq a0 a1 bq4) (Z8 K a0 a1 lr)
def Ah3:Env:=eE K [(168,Tv K)] [0,1,4]
def WT (a0:List (tV×Int)) (a1:((tV×Int)→Option Bool)):Option Bool :=
  (Tu K a0 a1).bind fun y1=>some (decide (y1≥(0:Int)))
def Aee:Mdl:=⟨[(.ro,(.list 84 (.cons sV sI))),(.ro,(.fn1 (.cons sV sI) .bool))],[.bool],fun x=>WT K x.1 x.2.1⟩
def Ah4:Env:=⟨[(87,Aee K),(111,WS K)],tys,eqs,mts,K,[0,2],[],[],[],[],[(111,WS K)],[],false⟩
def Z9 (a0:List (tV×Int)):Option Bool :=
  ((bif (decide ((a0.length:Int)≤(40:Int))) then WT K a0 (fun z1=>OZ K z1) else some false)).bind fun y2=>some (bif (decide ((a0.length:Int)≤(40:Int))) then (!y2) else false)
def Ahf:Mdl:=⟨[(.ro,(.list 84 (.cons sV sI)))],[.bool],fun x=>Z9 K x.1⟩
def Ah5:Env:=eE K [(42,Ahf K),(121,Tr K)] [0,1,2,3,5,8,9,16,20]
def Aaa (a0:Int) (a1:Int×Int×Int) (a2:List tM) (a3:List (tV×Int)):Option Int :=
  (Lp K a0 a1 [a2]).bind fun y1=>(bif (y1 != (0:Int)) then some y1 else (Z9 K a3).bind fun y2=>(bif (!y2) then some (2:Int) else some (0:Int)))
def Ahg:Mdl:=⟨[(.ro,sI),(.ro,sL),(.ro,(.list 59 sM)),(.ro,(.list 84 (.cons sV sI)))],[sI],fun x=>Aaa K x.1 x.2.1 x.2.2.1 x.2.2.2.1⟩
omit K
def WU (K:Nat) (a0 a1:Int):Option tV:=Y6 a0 a1
def AdE (K:Nat):Mdl:=⟨[(.ro,(.int .u64)),(.ro,(.int .u64))],[(.int .u64),(.int .u64)],fun x=>WU K x.1 x.2.1⟩
include K
def Lr:Env:=eE K [(218,AdE K)] [0,1,4,5,6,7,8,10,26,37]
def M4 (K:Nat) (a0:List Int) (a1:Int) (y1:Int×Int) (L3:Int→(List Int)→Option (List Int)) (q4:Int) (q5:List Int):Option (List Int) :=
  (bif (decide (q4<(q5.length:Int))) then (bif (decide (0≤q4)&&decide (q4≤(q5.length:Int))&&decide ((q5.length:Int)≤(q5.length:Int))) then (bif (decide (0≤(0:Int))&&decide ((0:Int)≤q4)&&decide (q4≤(q5.length:Int))) then L3 (w (q4+(bif decide ((((0:Int)+(q5.length:Int))-((0:Int)+q4))≤(((0:Int)+q4)-(0:Int))) then (((0:Int)+(q5.length:Int))-((0:Int)+q4)) else (((0:Int)+q4)-(0:Int))))) (q5.take ((0:Int)+q4).toNat++((q5.take ((0:Int)+(((0:Int)+q4)-(0:Int))).toNat).drop 0).take (bif decide ((((0:Int)+(q5.length:Int))-((0:Int)+q4))≤(((0:Int)+q4)-(0:Int))) then (((0:Int)+(q5.length:Int))-((0:Int)+q4)) else (((0:Int)+q4)-(0:Int))).toNat++q5.drop (((0:Int)+q4).toNat+(bif decide ((((0:Int)+(q5.length:Int))-((0:Int)+q4))≤(((0:Int)+q4)-(0:Int))) then (((0:Int)+(q5.length:Int))-((0:Int)+q4)) else (((0:Int)+q4)-(0:Int))).toNat)) else none) else none) else some q5)
def ID (a0:List Int) (a1:Int) (y1:Int×Int) (n:Nat) (q4:Int) (q5:List Int):Option (List Int) :=
  AL (X:=Int×List Int) (fun L x=>M4 K a0 a1 y1 (fun v0 v1=>L (v0,v1)) x.1 x.2) n (q4,q5)
def QY (a0:List Int) (a1:Int) (I3:tV→Int→(List Int)→Option (List Int)):Option (List Int) :=
  (bif (decide (a1<(0:Int))) then none else (WU K (IntKind.u64.wrap (a0.length:Int)) (IntKind.u64.wrap a1)).bind fun y1=>(bif (bif (decide (y1.1>(0:Int))) then true else (decide (y1.2>(9223372036854775807:Int)))) then none else (bif (decide (0≤(w y1.2))&&Nat.ble (w y1.2).toNat (lim 8)&&((w y1.2)==(w y1.2))) then I3 y1 (bif decide (((List.replicate (w y1.2).toNat (0:Int)).length:Int)≤(a0.length:Int)) then ((List.replicate (w y1.2).toNat (0:Int)).length:Int) else (a0.length:Int)) ((List.replicate (w y1.2).toNat (0:Int)).take 0++((a0.take ((0:Int)+(a0.length:Int)).toNat).drop 0).take (bif decide (((List.replicate (w y1.2).toNat (0:Int)).length:Int)≤(a0.length:Int)) then ((List.replicate (w y1.2).toNat (0:Int)).length:Int) else (a0.length:Int)).toNat++(List.replicate (w y1.2).toNat (0:Int)).drop (0+(bif decide (((List.replicate (w y1.2).toNat (0:Int)).length:Int)≤(a0.length:Int)) then ((List.replicate (w y1.2).toNat (0:Int)).length:Int) else (a0.length:Int)).toNat)) else none)))
def O0 (a0:List Int) (a1:Int):Option (List Int) :=
  QY K a0 a1 (fun c0 d0 d1=>ID K a0 a1 c0 K d0 d1)
def Tx:Mdl:=⟨[(.ro,(.list 2 sI)),(.ro,sI)],[(.list 2 sI)],fun x=>O0 K x.1 x.2.1⟩
def Aab (a0:List Int) (a1:Int) (lr:LR (List Int)):Ex→Fr→Option (List Int) :=
  AD (Lr K) 1 lr AcZ [1,1,1,1,1,1,0,0] (fM (Lr K) Tryz.f166 (Tx K) (a0,a1,()))
def Tz (a0:List Int) (a1:Int) (lr:LR (List Int)) (y1:Int×Int) (bq4:Int) (bq5:List Int):Option (List Int) :=
  lr (AP AcZ [1,1,1,1,1,1,0,0,0]) (Ot a0 a1 y1 bq4 bq5) (Aab K a0 a1 lr)
def M5:Env:=eE K [] [0,1,2,3,4,5,8,9,10,13,14,15]
def M6 (K:Nat) (a0:Int×Int×Int) (q7:Int) (L6 L9:Int→(List tV)→Option (List tV)) (q10:Int) (q11:List tV):Option (List tV) :=
  (bif (decide (q10<a0.2.2)) then (bif (Nat.ble (q11.length+[(q7,q10)].length) (lim 16)) then L9 (w (q10+(1:Int))) (q11++[(q7,q10)]) else none) else L6 (w (q7+(1:Int))) q11)
def Jt (a0:Int×Int×Int) (q7:Int) (L6:Int→(List tV)→Option (List tV)) (n:Nat) (q10:Int) (q11:List tV):Option (List tV) :=
  AL (X:=Int×List tV) (fun L x=>M6 K a0 q7 L6 (fun v0 v1=>L (v0,v1)) x.1 x.2) n (q10,q11)
def Ju (K:Nat) (a0:Int×Int×Int) (I9:Int→Int→(List tV)→Option (List tV)) (L6:Int→(List tV)→Option (List tV)) (q7:Int) (q8:List tV):Option (List tV) :=
  (bif (decide (q7<a0.1)) then I9 q7 (0:Int) q8 else some q8)
def QZ (a0:Int×Int×Int) (n:Nat) (q7:Int) (q8:List tV):Option (List tV) :=
  AL (X:=Int×List tV) (fun L x=>(fun L6=>Ju K a0 (fun c0 d0 d1=>Jt K a0 c0 L6 K d0 d1) L6 x.1 x.2) (fun v0 v1=>L (v0,v1))) n (q7,q8)
def WV (K:Nat) (a0:Int×Int×Int) (I6:Int→(List tV)→Option (List tV)):Option (List tV) :=
  I6 (0:Int) []
def WW (a0:Int×Int×Int):Option (List tV) :=
  WV K a0 (fun d0 d1=>QZ K a0 K d0 d1)
def Aac:Mdl:=⟨[(.ro,sL)],[(.list 34 sV)],fun x=>WW K x.1⟩
def WX (a0:Int×Int×Int) (lr:LR (List tV)):Ex→Fr→Option (List tV) :=
  AD (M5 K) 0 lr ZE [1,1,0,1,0] (fM (M5 K) Tryz.f99 (Aac K) (a0,()))
def WY (a0:Int×Int×Int) (lr:LR (List tV)) (bq7:Int) (bq8:List tV):Option (List tV) :=
  lr (AP ZE [1,1,0,1,0,0]) (Gu a0 bq7 bq8) (WX K a0 lr)
def Aef (a0:Int×Int×Int) (F6:Fr→Option (List tV)) (bq7:Int) (bq8:List tV) (lr:LR (List tV)):Ex→Fr→Option (List tV) :=
  AD (M5 K) 0 lr (AP ZE [1,1,0,1,0,0]) [1,1,0,0,1,1,0] (Fd 0 (Gu a0 bq7 bq8) F6 (WX K a0 lr))
def WZ (a0:Int×Int×Int) (F6:Fr→Option (List tV)) (bq7:Int) (bq8:List tV) (lr:LR (List tV)) (q7 bq10:Int) (bq11:List tV):Option (List tV) :=
  lr (AP ZE [1,1,0,1,0,0,1,1,0,0,1,1,0,0]) (Sj a0 q7 bq10 bq11) (Aef K a0 F6 bq7 bq8 lr)
def Ahh:Env:=eE K [] [0,1,2,3,4]
def O1 (K:Nat) (a0:Int×Int×Int) (a1:Int×Int):Option Int :=
  some (w ((w (a1.1*a0.2.2))+a1.2))
def AdF:Mdl:=⟨[(.ro,sL),(.ro,sV)],[sI],fun x=>O1 K x.1 x.2.1⟩
def Ahi:Env:=eE K [(162,OM K),(214,WQ K)] [0,1,2,3,4]
def TA (a0:tA×Int×Int) (a1:Int×Int):Option tV :=
  (FN K a0.1 a1).bind fun y1=>(OT K y1 a0.2).bind fun y2=>some y2
def AdG:Mdl:=⟨[(.ro,sM),(.ro,sV)],[sV],fun x=>TA K x.1 x.2.1⟩
def Ahj:Env:=eE K [(90,UN K),(164,AdG K)] [0,1,2,3,4,5,6]
def TB (a0:Int×Int×Int) (a1:tA×Int×Int) (a2:Int×Int):Option tV :=
  (TA K a1 a2).bind fun y1=>(KM K a0 y1).bind fun y2=>some y2
def AdH:Mdl:=⟨[(.ro,sL),(.ro,sM),(.ro,sV)],[sV],fun x=>TB K x.1 x.2.1 x.2.2.1⟩
omit K
def TC (K:Nat) (a0:List tV) (a1:tV→tV→Option Int):Option (List tV):=P4 sV a0 a1
def AdI (K:Nat):Mdl:=⟨[(.io,(.list 34 sV)),(.ro,(.fn2 sV sV sI))],[],fun x=>TC K x.1 x.2.1⟩
include K
def GF:Env:=eE K [] [0,2,3,4,5,8,13,25,32,44]
def M7 (K:Nat) (a0:List tV) (q8:Int) (L9:Int→Int→(List tV)→Option (List tV)) (q10 q11:Int) (q12:List tV):Option (List tV) :=
  (bif (decide (q11<(((0:Int)+(a0.length:Int))-((0:Int)+q8)))) then (bif (decide (0≤q11)&&decide (q11<(((0:Int)+(a0.length:Int))-((0:Int)+q8)))) then (bif (decide (0≤(w (q11-(1:Int))))&&decide ((w (q11-(1:Int)))<(((0:Int)+(a0.length:Int))-((0:Int)+q8)))) then (bif (!(((q12.getD (((0:Int)+q8)+q11).toNat ((0:Int),(0:Int))).1==(q12.getD (((0:Int)+q8)+(w (q11-(1:Int)))).toNat ((0:Int),(0:Int))).1)&&((q12.getD (((0:Int)+q8)+q11).toNat ((0:Int),(0:Int))).2==(q12.getD (((0:Int)+q8)+(w (q11-(1:Int)))).toNat ((0:Int),(0:Int))).2))) then (bif (decide (0≤q11)&&decide (q11<(((0:Int)+(a0.length:Int))-((0:Int)+q8)))) then (bif (decide (0≤q10)&&decide (q10<(q12.length:Int))) then L9 (w (q10+(1:Int))) (w (q11+(1:Int))) (q12.set ((0:Int)+q10).toNat (q12.getD (((0:Int)+q8)+q11).toNat ((0:Int),(0:Int)))) else none) else none) else L9 q10 (w (q11+(1:Int))) q12) else none) else none) else (bif (decide (0≤q10)&&decide (q10≤(q12.length:Int))&&decide ((q12.length:Int)≤(q12.length:Int))) then (bif (decide (0≤(0:Int))&&decide ((0:Int)≤q10)&&decide (q10≤((clr q12 ((0:Int)+q10).toNat (((0:Int)+q10)+(((0:Int)+(q12.length:Int))-((0:Int)+q10))).toNat ((0:Int),(0:Int))).length:Int))) then some ((clr q12 ((0:Int)+q10).toNat (((0:Int)+q10)+(((0:Int)+(q12.length:Int))-((0:Int)+q10))).toNat ((0:Int),(0:Int))).take ((0:Int)+q10).toNat) else none) else none))
def GG (a0:List tV) (q8:Int) (n:Nat) (q10 q11:Int) (q12:List tV):Option (List tV) :=
  AL (X:=Int×Int×List tV) (fun L x=>M7 K a0 q8 (fun v0 v1 v2=>L (v0,v1,v2)) x.1 x.2.1 x.2.2) n (q10,q11,q12)
def IE (K:Nat) (a0:List tV) (I9:Int→Int→Int→(List tV)→Option (List tV)) (L7:Int→Option (List tV)) (q8:Int):Option (List tV) :=
  (bif (decide (q8<(a0.length:Int))) then (bif (decide (0≤q8)&&decide (q8<(a0.length:Int))) then (bif (decide (0≤(w (q8-(1:Int))))&&decide ((w (q8-(1:Int)))<(a0.length:Int))) then (bif (((a0.getD ((0:Int)+q8).toNat ((0:Int),(0:Int))).1==(a0.getD ((0:Int)+(w (q8-(1:Int)))).toNat ((0:Int),(0:Int))).1)&&((a0.getD ((0:Int)+q8).toNat ((0:Int),(0:Int))).2==(a0.getD ((0:Int)+(w (q8-(1:Int)))).toNat ((0:Int),(0:Int))).2)) then (bif (decide (0≤q8)&&decide (q8≤(a0.length:Int))&&decide ((a0.length:Int)≤(a0.length:Int))) then I9 q8 q8 (1:Int) a0 else none) else L7 (w (q8+(1:Int)))) else none) else none) else some a0)
def IF (a0:List tV) (n:Nat) (q8:Int):Option (List tV) :=
  AL (X:=Int) (fun L x=>IE K a0 (fun c0 d0 d1 d2=>GG K a0 c0 K d0 d1 d2) (fun v0=>L v0) x) n q8
def Q0 (K:Nat) (a0:List tV) (I7:Int→Option (List tV)):Option (List tV) :=
  (bif (decide ((a0.length:Int)<(2:Int))) then some a0 else I7 (1:Int))
def O2 (a0:List tV):Option (List tV) :=
  Q0 K a0 (fun d0=>IF K a0 K d0)
def TD:Mdl:=⟨[(.mv,(.list 34 sV))],[(.list 34 sV)],fun x=>O2 K x.1⟩
def TE (a0:List tV) (lr:LR (List tV)):Ex→Fr→Option (List tV) :=
  AD (GF K) 1 lr Sk [1,1,0,1,0] (fM (GF K) Tryz.f128 (TD K) (a0,()))
def TF (a0:List tV) (lr:LR (List tV)) (bq8:Int):Option (List tV) :=
  lr (AP Sk [1,1,0,1,0,0]) (Gv a0 bq8) (TE K a0 lr)
def Aad (a0:List tV) (F7:Fr→Option (List tV)) (bq8:Int) (lr:LR (List tV)):Ex→Fr→Option (List tV) :=
  AD (GF K) 1 lr (AP Sk [1,1,0,1,0,0]) [1,0,0,1,0,1,0,1,0] (Fd 1 (Gv a0 bq8) F7 (TE K a0 lr))
def TG (a0:List tV) (F7:Fr→Option (List tV)) (bq8:Int) (lr:LR (List tV)) (q8 bq10 bq11:Int) (bq12:List tV):Option (List tV) :=
  lr (AP Sk [1,1,0,1,0,0,1,0,0,1,0,1,0,1,0,0]) (Ou a0 q8 bq10 bq11 bq12) (Aad K a0 F7 bq8 lr)
def UO:Env:=⟨[(125,AdH K),(126,AdI K),(127,Tm K),(128,TD K)],tys,eqs,mts,K,[0,1,2,3,5,6,7,9,11,12,13,14],[],[],[],[],[(127,Tm K)],[],false⟩
def Hk (a0:Int×Int×Int) (a1:List tM) (a2:Int×Int) (L3:Int→(List tV)→Option (List tV)) (q4:Int) (q5:List tV):Option (List tV) :=
  (bif (decide (q4<(a1.length:Int))) then (bif (decide (0≤q4)&&decide (q4<(a1.length:Int))) then (TB K a0 ((((a1.getD ((0:Int)+q4).toNat zM).1).1,(((a1.getD ((0:Int)+q4).toNat zM).1).2).1,((((a1.getD ((0:Int)+q4).toNat zM).1).2).2)),((a1.getD ((0:Int)+q4).toNat zM).2)) a2).bind fun y6=>(bif (Nat.ble (q5.length+[y6].length) (lim 16)) then L3 (w (q4+(1:Int))) (q5++[y6]) else none) else none) else (TC K q5 (fun z7 z8=>HX K z7 z8)).bind fun y9=>(O2 K y9).bind fun y10=>some y10)
def Q1 (a0:Int×Int×Int) (a1:List tM) (a2:Int×Int) (n:Nat) (q4:Int) (q5:List tV):Option (List tV) :=
  AL (X:=Int×List tV) (fun L x=>Hk K a0 a1 a2 (fun v0 v1=>L (v0,v1)) x.1 x.2) n (q4,q5)
def W0 (K:Nat) (a0:Int×Int×Int) (a1:List tM) (a2:Int×Int) (I3:Int→(List tV)→Option (List tV)):Option (List tV) :=
  I3 (0:Int) []
def W1 (a0:Int×Int×Int) (a1:List tM) (a2:Int×Int):Option (List tV) :=
  W0 K a0 a1 a2 (fun d0 d1=>Q1 K a0 a1 a2 K d0 d1)
def Aae:Mdl:=⟨[(.ro,sL),(.ro,(.list 59 sM)),(.ro,sV)],[(.list 34 sV)],fun x=>W1 K x.1 x.2.1 x.2.2.1⟩
def Aeg (a0:Int×Int×Int) (a1:List tM) (a2:Int×Int) (lr:LR (List tV)):Ex→Fr→Option (List tV) :=
  AD (UO K) 1 lr Af5 [1,1,0,1,0] (fM (UO K) Tryz.f52 (Aae K) (a0,a1,a2,()))
def W3 (a0:Int×Int×Int) (a1:List tM) (a2:Int×Int) (lr:LR (List tV)) (bq4:Int) (bq5:List tV):Option (List tV) :=
  lr (AP Af5 [1,1,0,1,0,0]) (Sl a0 a1 a2 bq4 bq5) (Aeg K a0 a1 a2 lr)
def M8:Env:=eE K [(52,Aae K),(62,Aec K),(99,Aac K),(100,AdF K),(166,Tx K)] [0,1,2,4,5,6,7,9,10,12,19,20,21,22,31,36,37,38,39]
def Fo (a0:Int×Int×Int) (a1:List tM) (q17:Int) (q18:List (List tV)) (q19:List Int) (y3:List tV) (y20:Int) (y21:List tV) (L16:Int→(List (List tV))→(List Int)→Option ((List (List tV))×List Int)) (L22:Int→(List Int)→Option ((List (List tV))×List Int)) (q23:Int) (q24:List Int):Option ((List (List tV))×List Int) :=
  (bif (decide (q23<(y21.length:Int))) then (bif (decide (0≤q23)&&decide (q23<(y21.length:Int))) then (O1 K a0 (y21.getD ((0:Int)+q23).toNat ((0:Int),(0:Int)))).bind fun y25=>(bif (decide (0≤y25)&&decide (y25<(q24.length:Int))) then L22 (w (q23+(1:Int))) (q24.set ((0:Int)+y25).toNat (q18.length:Int)) else none) else none) else (bif (Nat.ble (q18.length+[y21].length) (lim 24)) then L16 (w (q17+(1:Int))) (q18++[y21]) q24 else none))
def GH (a0:Int×Int×Int) (a1:List tM) (q17:Int) (q18:List (List tV)) (q19:List Int) (y3:List tV) (y20:Int) (y21:List tV) (L16:Int→(List (List tV))→(List Int)→Option ((List (List tV))×List Int)) (n:Nat) (q23:Int) (q24:List Int):Option ((List (List tV))×List Int) :=
  AL (X:=Int×List Int) (fun L x=>Fo K a0 a1 q17 q18 q19 y3 y20 y21 L16 (fun v0 v1=>L (v0,v1)) x.1 x.2) n (q23,q24)
def CZ (a0:Int×Int×Int) (a1:List tM) (y3:List tV) (I22:Int→(List (List tV))→(List Int)→Int→(List tV)→Int→(List Int)→Option ((List (List tV))×List Int)) (L16:Int→(List (List tV))→(List Int)→Option ((List (List tV))×List Int)) (q17:Int) (q18:List (List tV)) (q19:List Int):Option ((List (List tV))×List Int) :=
  (bif (decide (q17<(y3.length:Int))) then (bif (decide (0≤q17)&&decide (q17<(y3.length:Int))) then (O1 K a0 (y3.getD ((0:Int)+q17).toNat ((0:Int),(0:Int)))).bind fun y20=>(bif (decide (0≤y20)&&decide (y20<(q19.length:Int))) then (bif (decide ((q19.getD ((0:Int)+y20).toNat (0:Int))≥(0:Int))) then L16 (w (q17+(1:Int))) q18 q19 else (W1 K a0 a1 (y3.getD ((0:Int)+q17).toNat ((0:Int),(0:Int)))).bind fun y21=>I22 q17 q18 q19 y20 y21 (0:Int) q19) else none) else none) else some (q18,q19))
def TH (a0:Int×Int×Int) (a1:List tM) (y3:List tV) (n:Nat) (q17:Int) (q18:List (List tV)) (q19:List Int):Option ((List (List tV))×List Int) :=
  AL (X:=Int×List (List tV)×List Int) (fun L x=>(fun L16=>CZ K a0 a1 y3 (fun c0 c1 c2 c3 c4 d0 d1=>GH K a0 a1 c0 c1 c2 y3 c3 c4 L16 K d0 d1) L16 x.1 x.2.1 x.2.2) (fun v0 v1 v2=>L (v0,v1,v2))) n (q17,q18,q19)
def W4 (a0:Int×Int×Int) (a1:List tM) (I16:(List tV)→Int→(List (List tV))→(List Int)→Option ((List (List tV))×List Int)):Option ((List (List tV))×List Int) :=
  (WJ K a0).bind fun y1=>(O0 K [(-1:Int)] y1).bind fun y2=>(WW K a0).bind fun y3=>I16 y3 (0:Int) [] y2
def W5 (a0:Int×Int×Int) (a1:List tM):Option ((List (List tV))×List Int) :=
  W4 K a0 a1 (fun c0 d0 d1 d2=>TH K a0 a1 c0 K d0 d1 d2)
def Aaf:Mdl:=⟨[(.ro,sL),(.ro,(.list 59 sM))],[(.list 87 (.list 34 sV)),(.list 2 sI)],fun x=>W5 K x.1 x.2.1⟩
def TI (a0:Int×Int×Int) (a1:List tM) (lr:LR ((List (List tV))×List Int)):Ex→Fr→Option ((List (List tV))×List Int) :=
  AD (M8 K) 1 lr ZF [1,1,0,1,0] (fM (M8 K) Tryz.f84 (Aaf K) (a0,a1,()))
def TJ (a0:Int×Int×Int) (a1:List tM) (lr:LR ((List (List tV))×List Int)) (y3:List tV) (bq17:Int) (bq18:List (List tV)) (bq19:List Int):Option ((List (List tV))×List Int) :=
  lr (AP ZF [1,1,0,1,0,0]) (EO a0 a1 y3 bq17 bq18 bq19) (TI K a0 a1 lr)
def Aag (a0:Int×Int×Int) (a1:List tM) (y3:List tV) (F16:Fr→Option ((List (List tV))×List Int)) (bq17:Int) (bq18:List (List tV)) (bq19:List Int) (lr:LR ((List (List tV))×List Int)):Ex→Fr→Option ((List (List tV))×List Int) :=
  AD (M8 K) 1 lr (AP ZF [1,1,0,1,0,0]) [1,1,0,0,1,1,1,0,1,0] (Fd 1 (EO a0 a1 y3 bq17 bq18 bq19) F16 (TI K a0 a1 lr))
def TK (a0:Int×Int×Int) (a1:List tM) (y3:List tV) (F16:Fr→Option ((List (List tV))×List Int)) (bq17:Int) (bq18:List (List tV)) (bq19:List Int) (lr:LR ((List (List tV))×List Int)) (q17:Int) (q18:List (List tV)) (q19:List Int) (y20:Int) (y21:List tV) (bq23:Int) (bq24:List Int):Option ((List (List tV))×List Int) :=
  lr (AP ZF [1,1,0,1,0,0,1,1,0,0,1,1,1,0,1,0,0]) (Ov a0 a1 q17 q18 q19 y3 y20 y21 bq23 bq24) (Aag K a0 a1 y3 F16 bq17 bq18 bq19 lr)
def Ls:Env:=eE K [] [0,1,3,4,5,7,8,9,16]
def IG (K:Nat) (a0:List tV) (a1:Int×Int) (L2:Int→Option Int) (q3:Int):Option Int :=
  (bif (decide (q3<(a0.length:Int))) then (bif (decide (0≤q3)&&decide (q3<(a0.length:Int))) then (bif ((a1.1==(a0.getD ((0:Int)+q3).toNat ((0:Int),(0:Int))).1)&&(a1.2==(a0.getD ((0:Int)+q3).toNat ((0:Int),(0:Int))).2)) then some q3 else L2 (w (q3+(1:Int)))) else none) else some (-1:Int))
def M9 (a0:List tV) (a1:Int×Int) (n:Nat) (q3:Int):Option Int :=
  AL (X:=Int) (fun L x=>IG K a0 a1 (fun v0=>L v0) x) n q3
def Q2 (K:Nat) (a0:List tV) (a1:Int×Int) (I2:Int→Option Int):Option Int :=
  I2 (0:Int)
def O3 (a0:List tV) (a1:Int×Int):Option Int :=
  Q2 K a0 a1 (fun d0=>M9 K a0 a1 K d0)
def TL:Mdl:=⟨[(.ro,(.list 34 sV)),(.ro,sV)],[sI],fun x=>O3 K x.1 x.2.1⟩
def Aah (a0:List tV) (a1:Int×Int) (lr:LR Int):Ex→Fr→Option Int :=
  AD (Ls K) 1 lr Ac0 [1,0,1,0] (fM (Ls K) Tryz.f169 (TL K) (a0,a1,()))
def TM (a0:List tV) (a1:Int×Int) (lr:LR Int) (bq3:Int):Option Int :=
  lr (AP Ac0 [1,0,1,0,0]) (Ow a0 a1 bq3) (Aah K a0 a1 lr)
def Ah6:Env:=eE K [(169,TL K)] [0,1,3,4]
def Aai (a0:List tV) (a1:Int×Int):Option Bool :=
  (O3 K a0 a1).bind fun y1=>some (decide (y1≥(0:Int)))
def Ahk:Mdl:=⟨[(.ro,(.list 34 sV)),(.ro,sV)],[.bool],fun x=>Aai K x.1 x.2.1⟩
def Ah7:Env:=eE K [(89,Ahk K),(90,UN K)] [0,1,2,3,4]
def Aeh (a0:tV×Int) (a1:List tV) (a2:Int×Int×Int):Option Bool :=
  (KM K a2 a0.1).bind fun y1=>(Aai K a1 y1).bind fun y2=>some y2
def Aei:Mdl:=⟨[(.ro,(.cons sV sI)),(.cap,(.list 34 sV)),(.cap,sL)],[.bool],fun x=>Aeh K x.1 x.2.1 x.2.2.1⟩
def Ah8:Env:=⟨[(87,Aee K),(88,Aei K)],tys,eqs,mts,K,[0,1,2,3,4],[],[],[],[],[(88,Aei K)],[],false⟩
def O4 (a0:List tV) (a1:List (tV×Int)) (a2:Int×Int×Int):Option Bool :=
  (WT K a1 (fun z1=>Aeh K z1 a0 a2)).bind fun y2=>some y2
def Aej:Mdl:=⟨[(.ro,(.list 34 sV)),(.cap,(.list 84 (.cons sV sI))),(.cap,sL)],[.bool],fun x=>O4 K x.1 x.2.1 x.2.2.1⟩
omit K
def Aaj (K:Nat) (a0:List (List tV)) (a1:(List tV)→Option Bool):Option (List (List tV)):=YQ (.list 34 sV) a0 a1
def Ahl (K:Nat):Mdl:=⟨[(.mv,(.list 87 (.list 34 sV))),(.ro,(.fn1 (.list 34 sV) .bool))],[(.list 87 (.list 34 sV))],fun x=>Aaj K x.1 x.2.1⟩
include K
def Ah9:Env:=⟨[(83,Ahg K),(84,Aaf K),(85,Ahl K),(86,Aej K)],tys,eqs,mts,K,[0,1,2,3,5,7,8,9,10,11,19],[],[],[],[],[(86,Aej K)],[],false⟩
def W6 (a0:Int) (a1:Int×Int×Int) (a2:List tM) (a3:List (tV×Int)):Option ((List (List tV))×Int) :=
  (Aaa K a0 a1 a2 a3).bind fun y1=>(bif (y1 != (0:Int)) then some ([],y1) else (W5 K a1 a2).bind fun y2=>(Aaj K y2.1 (fun z3=>O4 K z3 a3 a1)).bind fun y4=>some (y4,(0:Int)))
def Ahm:Mdl:=⟨[(.ro,sI),(.ro,sL),(.ro,(.list 59 sM)),(.ro,(.list 84 (.cons sV sI)))],[(.list 87 (.list 34 sV)),sI],fun x=>W6 K x.1 x.2.1 x.2.2.1 x.2.2.2.1⟩
def Ahn:Env:=eE K [] [0,1,2,3,4,9,14]
def Jv (K:Nat) (a0 a1:Int×Int):Option Bool :=
  (bif (a0.1 != a1.1) then some false else (bif (a0.2 != a1.2) then some false else some true))
def TN:Mdl:=⟨[(.ro,sV),(.ro,sV)],[.bool],fun x=>Jv K x.1 x.2.1⟩
def UP:Env:=eE K [(136,TN K)] [0,1,4,5,10,14,26]
def Na (a0 a1:List tV) (L3:Int→Option Bool) (q4:Int):Option Bool :=
  (bif (decide (q4<(a0.length:Int))) then (bif (decide (0≤q4)&&decide (q4<(a0.length:Int))) then (bif (decide (0≤q4)&&decide (q4<(a1.length:Int))) then (Jv K (a0.getD ((0:Int)+q4).toNat ((0:Int),(0:Int))) (a1.getD ((0:Int)+q4).toNat ((0:Int),(0:Int)))).bind fun y5=>(bif (!y5) then some false else L3 (w (q4+(1:Int)))) else none) else none) else some true)
def Q3 (a0 a1:List tV) (n:Nat) (q4:Int):Option Bool :=
  AL (X:=Int) (fun L x=>Na K a0 a1 (fun v0=>L v0) x) n q4
def W7 (K:Nat) (a0 a1:List tV) (I3:Int→Option Bool):Option Bool :=
  (bif ((a0.length:Int) != (a1.length:Int)) then some false else I3 (0:Int))
def W8 (a0 a1:List tV):Option Bool :=
  W7 K a0 a1 (fun d0=>Q3 K a0 a1 K d0)
def Aak:Mdl:=⟨[(.ro,(.list 34 sV)),(.ro,(.list 34 sV))],[.bool],fun x=>W8 K x.1 x.2.1⟩
def Aek (a0 a1:List tV) (lr:LR Bool):Ex→Fr→Option Bool :=
  AD (UP K) 2 lr Af6 [1,1,0,1,0] (fM (UP K) Tryz.f91 (Aak K) (a0,a1,()))
def W9 (a0 a1:List tV) (lr:LR Bool) (bq4:Int):Option Bool :=
  lr (AP Af6 [1,1,0,1,0,0]) (Sn a0 a1 bq4) (Aek K a0 a1 lr)
def UQ:Env:=eE K [(91,Aak K)] [0,1,4,5,10,14,26]
def Nb (a0 a1:List (List tV)) (L3:Int→Option Bool) (q4:Int):Option Bool :=
  (bif (decide (q4<(a0.length:Int))) then (bif (decide (0≤q4)&&decide (q4<(a0.length:Int))) then (bif (decide (0≤q4)&&decide (q4<(a1.length:Int))) then (W8 K (a0.getD ((0:Int)+q4).toNat []) (a1.getD ((0:Int)+q4).toNat [])).bind fun y5=>(bif (!y5) then some false else L3 (w (q4+(1:Int)))) else none) else none) else some true)
def Xa (a0 a1:List (List tV)) (n:Nat) (q4:Int):Option Bool :=
  AL (X:=Int) (fun L x=>Nb K a0 a1 (fun v0=>L v0) x) n q4
def Xb (K:Nat) (a0 a1:List (List tV)) (I3:Int→Option Bool):Option Bool :=
  (bif ((a0.length:Int) != (a1.length:Int)) then some false else I3 (0:Int))
def Q4 (a0 a1:List (List tV)):Option Bool :=
  Xb K a0 a1 (fun d0=>Xa K a0 a1 K d0)
def Aal:Mdl:=⟨[(.ro,(.list 87 (.list 34 sV))),(.ro,(.list 87 (.list 34 sV)))],[.bool],fun x=>Q4 K x.1 x.2.1⟩
def Ael (a0 a1:List (List tV)) (lr:LR Bool):Ex→Fr→Option Bool :=
  AD (UQ K) 2 lr Af7 [1,1,0,1,0] (fM (UQ K) Tryz.f27 (Aal K) (a0,a1,()))
def Xc (a0 a1:List (List tV)) (lr:LR Bool) (bq4:Int):Option Bool :=
  lr (AP Af7 [1,1,0,1,0,0]) (So a0 a1 bq4) (Ael K a0 a1 lr)
def Aho:Env:=eE K [] [0,1,2,3,4,9,14,19,24]
def Xd (K:Nat) (a0 a1:Int×Int×Int×Int):Option Bool :=
  (bif (a0.1 != a1.1) then some false else (bif (a0.2.1 != a1.2.1) then some false else (bif (a0.2.2.1 != a1.2.2.1) then some false else (bif (a0.2.2.2 != a1.2.2.2) then some false else some true))))
def AdJ:Mdl:=⟨[(.ro,sA),(.ro,sA)],[.bool],fun x=>Xd K x.1 x.2.1⟩
def Aia:Env:=eE K [(135,AdJ K),(136,TN K)] [0,1,2,3,4,10,16]
def Aam (a0 a1:tA×Int×Int):Option Bool :=
  (Xd K a0.1 a1.1).bind fun y1=>(bif (!y1) then some false else (Jv K a0.2 a1.2).bind fun y2=>(bif (!y2) then some false else some true))
def Ahp:Mdl:=⟨[(.ro,sM),(.ro,sM)],[.bool],fun x=>Aam K x.1 x.2.1⟩
def UR:Env:=eE K [(54,Ahp K)] [0,1,4,5,10,14,26]
def Nc (a0 a1:List tM) (L3:Int→Option Bool) (q4:Int):Option Bool :=
  (bif (decide (q4<(a0.length:Int))) then (bif (decide (0≤q4)&&decide (q4<(a0.length:Int))) then (bif (decide (0≤q4)&&decide (q4<(a1.length:Int))) then (Aam K ((((a0.getD ((0:Int)+q4).toNat zM).1).1,(((a0.getD ((0:Int)+q4).toNat zM).1).2).1,((((a0.getD ((0:Int)+q4).toNat zM).1).2).2)),((a0.getD ((0:Int)+q4).toNat zM).2)) ((((a1.getD ((0:Int)+q4).toNat zM).1).1,(((a1.getD ((0:Int)+q4).toNat zM).1).2).1,((((a1.getD ((0:Int)+q4).toNat zM).1).2).2)),((a1.getD ((0:Int)+q4).toNat zM).2))).bind fun y5=>(bif (!y5) then some false else L3 (w (q4+(1:Int)))) else none) else none) else some true)
def Q5 (a0 a1:List tM) (n:Nat) (q4:Int):Option Bool :=
  AL (X:=Int) (fun L x=>Nc K a0 a1 (fun v0=>L v0) x) n q4
def Xe (K:Nat) (a0 a1:List tM) (I3:Int→Option Bool):Option Bool :=
  (bif ((a0.length:Int) != (a1.length:Int)) then some false else I3 (0:Int))
def Xf (a0 a1:List tM):Option Bool :=
  Xe K a0 a1 (fun d0=>Q5 K a0 a1 K d0)
def Aan:Mdl:=⟨[(.ro,(.list 59 sM)),(.ro,(.list 59 sM))],[.bool],fun x=>Xf K x.1 x.2.1⟩
def Aem (a0 a1:List tM) (lr:LR Bool):Ex→Fr→Option Bool :=
  AD (UR K) 2 lr Af8 [1,1,0,1,0] (fM (UR K) Tryz.f13 (Aan K) (a0,a1,()))
def Xg (a0 a1:List tM) (lr:LR Bool) (bq4:Int):Option Bool :=
  lr (AP Af8 [1,1,0,1,0,0]) (Sp a0 a1 bq4) (Aem K a0 a1 lr)
def Aib:Env:=eE K [(136,TN K)] [0,1,2,3,4,10,15]
def Aao (a0 a1:tV×Int):Option Bool :=
  (Jv K a0.1 a1.1).bind fun y1=>(bif (!y1) then some false else (bif (a0.2 != a1.2) then some false else some true))
def Ahq:Mdl:=⟨[(.ro,(.cons sV sI)),(.ro,(.cons sV sI))],[.bool],fun x=>Aao K x.1 x.2.1⟩
def US:Env:=eE K [(92,Ahq K)] [0,1,4,5,10,14,26]
def Nd (a0 a1:List (tV×Int)) (L3:Int→Option Bool) (q4:Int):Option Bool :=
  (bif (decide (q4<(a0.length:Int))) then (bif (decide (0≤q4)&&decide (q4<(a0.length:Int))) then (bif (decide (0≤q4)&&decide (q4<(a1.length:Int))) then (Aao K (((a0.getD ((0:Int)+q4).toNat (((0:Int),(0:Int)),(0:Int))).1),(a0.getD ((0:Int)+q4).toNat (((0:Int),(0:Int)),(0:Int))).2) (((a1.getD ((0:Int)+q4).toNat (((0:Int),(0:Int)),(0:Int))).1),(a1.getD ((0:Int)+q4).toNat (((0:Int),(0:Int)),(0:Int))).2)).bind fun y5=>(bif (!y5) then some false else L3 (w (q4+(1:Int)))) else none) else none) else some true)
def Q6 (a0 a1:List (tV×Int)) (n:Nat) (q4:Int):Option Bool :=
  AL (X:=Int) (fun L x=>Nd K a0 a1 (fun v0=>L v0) x) n q4
def Xh (K:Nat) (a0 a1:List (tV×Int)) (I3:Int→Option Bool):Option Bool :=
  (bif ((a0.length:Int) != (a1.length:Int)) then some false else I3 (0:Int))
def Xi (a0 a1:List (tV×Int)):Option Bool :=
  Xh K a0 a1 (fun d0=>Q6 K a0 a1 K d0)
def Aap:Mdl:=⟨[(.ro,(.list 84 (.cons sV sI))),(.ro,(.list 84 (.cons sV sI)))],[.bool],fun x=>Xi K x.1 x.2.1⟩
def Aen (a0 a1:List (tV×Int)) (lr:LR Bool):Ex→Fr→Option Bool :=
  AD (US K) 2 lr Af9 [1,1,0,1,0] (fM (US K) Tryz.f28 (Aap K) (a0,a1,()))
def Xj (a0 a1:List (tV×Int)) (lr:LR Bool) (bq4:Int):Option Bool :=
  lr (AP Af9 [1,1,0,1,0,0]) (Sq a0 a1 bq4) (Aen K a0 a1 lr)
def UT:Env:=eE K [] [0,1,4,5,9]
def Jw (K:Nat) (L2:Int→Int→(List tM)→Option ((List tM)×Int)) (q3 q4:Int) (q5:List tM):Option ((List tM)×Int) :=
  (bif (decide (q4<(q5.length:Int))) then (bif (decide (0≤q4)&&decide (q4<(q5.length:Int))) then (bif (decide (0≤q4)&&decide (q4<((q5.set ((0:Int)+q4).toNat ((q3,((q5.getD ((0:Int)+q4).toNat zM).1).2),(q5.getD ((0:Int)+q4).toNat zM).2)).length:Int))) then (let s4:=((q5.set ((0:Int)+q4).toNat ((q3,((q5.getD ((0:Int)+q4).toNat zM).1).2),(q5.getD ((0:Int)+q4).toNat zM).2)).set ((0:Int)+q4).toNat (((((q5.set ((0:Int)+q4).toNat ((q3,((q5.getD ((0:Int)+q4).toNat zM).1).2),(q5.getD ((0:Int)+q4).toNat zM).2)).getD ((0:Int)+q4).toNat zM).1).1,(w (q3+(1:Int))),((((q5.set ((0:Int)+q4).toNat ((q3,((q5.getD ((0:Int)+q4).toNat zM).1).2),(q5.getD ((0:Int)+q4).toNat zM).2)).getD ((0:Int)+q4).toNat zM).1).2).2),((q5.set ((0:Int)+q4).toNat ((q3,((q5.getD ((0:Int)+q4).toNat zM).1).2),(q5.getD ((0:Int)+q4).toNat zM).2)).getD ((0:Int)+q4).toNat zM).2));(bif (decide (0≤q4)&&decide (q4<(s4.length:Int))) then (bif (decide (0≤q4)&&decide (q4<((s4.set ((0:Int)+q4).toNat ((((s4.getD ((0:Int)+q4).toNat zM).1).1,(((s4.getD ((0:Int)+q4).toNat zM).1).2).1,(w ((w (q3+(1:Int)))+(1:Int))),((((s4.getD ((0:Int)+q4).toNat zM).1).2).2).2),(s4.getD ((0:Int)+q4).toNat zM).2)).length:Int))) then (let s5:=((s4.set ((0:Int)+q4).toNat ((((s4.getD ((0:Int)+q4).toNat zM).1).1,(((s4.getD ((0:Int)+q4).toNat zM).1).2).1,(w ((w (q3+(1:Int)))+(1:Int))),((((s4.getD ((0:Int)+q4).toNat zM).1).2).2).2),(s4.getD ((0:Int)+q4).toNat zM).2)).set ((0:Int)+q4).toNat (((((s4.set ((0:Int)+q4).toNat ((((s4.getD ((0:Int)+q4).toNat zM).1).1,(((s4.getD ((0:Int)+q4).toNat zM).1).2).1,(w ((w (q3+(1:Int)))+(1:Int))),((((s4.getD ((0:Int)+q4).toNat zM).1).2).2).2),(s4.getD ((0:Int)+q4).toNat zM).2)).getD ((0:Int)+q4).toNat zM).1).1,((((s4.set ((0:Int)+q4).toNat ((((s4.getD ((0:Int)+q4).toNat zM).1).1,(((s4.getD ((0:Int)+q4).toNat zM).1).2).1,(w ((w (q3+(1:Int)))+(1:Int))),((((s4.getD ((0:Int)+q4).toNat zM).1).2).2).2),(s4.getD ((0:Int)+q4).toNat zM).2)).getD ((0:Int)+q4).toNat zM).1).2).1,(((((s4.set ((0:Int)+q4).toNat ((((s4.getD ((0:Int)+q4).toNat zM).1).1,(((s4.getD ((0:Int)+q4).toNat zM).1).2).1,(w ((w (q3+(1:Int)))+(1:Int))),((((s4.getD ((0:Int)+q4).toNat zM).1).2).2).2),(s4.getD ((0:Int)+q4).toNat zM).2)).getD ((0:Int)+q4).toNat zM).1).2).2).1,(w ((w ((w (q3+(1:Int)))+(1:Int)))+(1:Int)))),((s4.set ((0:Int)+q4).toNat ((((s4.getD ((0:Int)+q4).toNat zM).1).1,(((s4.getD ((0:Int)+q4).toNat zM).1).2).1,(w ((w (q3+(1:Int)))+(1:Int))),((((s4.getD ((0:Int)+q4).toNat zM).1).2).2).2),(s4.getD ((0:Int)+q4).toNat zM).2)).getD ((0:Int)+q4).toNat zM).2));(bif (decide (0≤q4)&&decide (q4<(s5.length:Int))) then (bif (decide (0≤q4)&&decide (q4<((s5.set ((0:Int)+q4).toNat ((s5.getD ((0:Int)+q4).toNat zM).1,(w ((w ((w ((w (q3+(1:Int)))+(1:Int)))+(1:Int)))+(1:Int))),((s5.getD ((0:Int)+q4).toNat zM).2).2)).length:Int))) then (let s6:=((s5.set ((0:Int)+q4).toNat ((s5.getD ((0:Int)+q4).toNat zM).1,(w ((w ((w ((w (q3+(1:Int)))+(1:Int)))+(1:Int)))+(1:Int))),((s5.getD ((0:Int)+q4).toNat zM).2).2)).set ((0:Int)+q4).toNat (((s5.set ((0:Int)+q4).toNat ((s5.getD ((0:Int)+q4).toNat zM).1,(w ((w ((w ((w (q3+(1:Int)))+(1:Int)))+(1:Int)))+(1:Int))),((s5.getD ((0:Int)+q4).toNat zM).2).2)).getD ((0:Int)+q4).toNat zM).1,(((s5.set ((0:Int)+q4).toNat ((s5.getD ((0:Int)+q4).toNat zM).1,(w ((w ((w ((w (q3+(1:Int)))+(1:Int)))+(1:Int)))+(1:Int))),((s5.getD ((0:Int)+q4).toNat zM).2).2)).getD ((0:Int)+q4).toNat zM).2).1,(w ((w ((w ((w ((w (q3+(1:Int)))+(1:Int)))+(1:Int)))+(1:Int)))+(1:Int)))));L2 (w ((w ((w ((w ((w ((w (q3+(1:Int)))+(1:Int)))+(1:Int)))+(1:Int)))+(1:Int)))+(1:Int))) (w (q4+(1:Int))) s6) else none) else none)) else none) else none)) else none) else none) else some (q5,q3))
def Q7 (n:Nat) (q3 q4:Int) (q5:List tM):Option ((List tM)×Int) :=
  AL (X:=Int×Int×List tM) (fun L x=>Jw K (fun v0 v1 v2=>L (v0,v1,v2)) x.1 x.2.1 x.2.2) n (q3,q4,q5)
def Xk (K:Nat) (a0:List tM) (a1:Int) (I2:Int→Int→(List tM)→Option ((List tM)×Int)):Option ((List tM)×Int) :=
  I2 a1 (0:Int) a0
def Xl (a0:List tM) (a1:Int):Option ((List tM)×Int) :=
  Xk K a0 a1 (fun d0 d1 d2=>Q7 K K d0 d1 d2)
def Aaq:Mdl:=⟨[(.io,(.list 59 sM)),(.ro,sI)],[sI],fun x=>Xl K x.1 x.2.1⟩
def Aeo (a0:List tM) (a1:Int) (lr:LR ((List tM)×Int)):Ex→Fr→Option ((List tM)×Int) :=
  AD (UT K) 1 lr Aga [1,0,1,0] (fM (UT K) Tryz.f29 (Aaq K) (a0,a1,()))
def Xm (a0:List tM) (a1:Int) (lr:LR ((List tM)×Int)) (bq3 bq4:Int) (bq5:List tM):Option ((List tM)×Int) :=
  lr (AP Aga [1,0,1,0,0]) (Sr bq3 bq4 bq5) (Aeo K a0 a1 lr)
def UU:Env:=eE K [] [0,1,4,5,9]
def Jx (K:Nat) (L2:Int→Int→(List (tV×Int))→Option ((List (tV×Int))×Int)) (q3 q4:Int) (q5:List (tV×Int)):Option ((List (tV×Int))×Int) :=
  (bif (decide (q4<(q5.length:Int))) then (bif (decide (0≤q4)&&decide (q4<(q5.length:Int))) then (bif (decide (0≤q4)&&decide (q4<((q5.set ((0:Int)+q4).toNat ((q3,((q5.getD ((0:Int)+q4).toNat (((0:Int),(0:Int)),(0:Int))).1).2),(q5.getD ((0:Int)+q4).toNat (((0:Int),(0:Int)),(0:Int))).2)).length:Int))) then (bif (decide (0≤q4)&&decide (q4<(((q5.set ((0:Int)+q4).toNat ((q3,((q5.getD ((0:Int)+q4).toNat (((0:Int),(0:Int)),(0:Int))).1).2),(q5.getD ((0:Int)+q4).toNat (((0:Int),(0:Int)),(0:Int))).2)).set ((0:Int)+q4).toNat (((((q5.set ((0:Int)+q4).toNat ((q3,((q5.getD ((0:Int)+q4).toNat (((0:Int),(0:Int)),(0:Int))).1).2),(q5.getD ((0:Int)+q4).toNat (((0:Int),(0:Int)),(0:Int))).2)).getD ((0:Int)+q4).toNat (((0:Int),(0:Int)),(0:Int))).1).1,(w (q3+(1:Int)))),((q5.set ((0:Int)+q4).toNat ((q3,((q5.getD ((0:Int)+q4).toNat (((0:Int),(0:Int)),(0:Int))).1).2),(q5.getD ((0:Int)+q4).toNat (((0:Int),(0:Int)),(0:Int))).2)).getD ((0:Int)+q4).toNat (((0:Int),(0:Int)),(0:Int))).2)).length:Int))) then (let s2:=(((q5.set ((0:Int)+q4).toNat ((q3,((q5.getD ((0:Int)+q4).toNat (((0:Int),(0:Int)),(0:Int))).1).2),(q5.getD ((0:Int)+q4).toNat (((0:Int),(0:Int)),(0:Int))).2)).set ((0:Int)+q4).toNat (((((q5.set ((0:Int)+q4).toNat ((q3,((q5.getD ((0:Int)+q4).toNat (((0:Int),(0:Int)),(0:Int))).1).2),(q5.getD ((0:Int)+q4).toNat (((0:Int),(0:Int)),(0:Int))).2)).getD ((0:Int)+q4).toNat (((0:Int),(0:Int)),(0:Int))).1).1,(w (q3+(1:Int)))),((q5.set ((0:Int)+q4).toNat ((q3,((q5.getD ((0:Int)+q4).toNat (((0:Int),(0:Int)),(0:Int))).1).2),(q5.getD ((0:Int)+q4).toNat (((0:Int),(0:Int)),(0:Int))).2)).getD ((0:Int)+q4).toNat (((0:Int),(0:Int)),(0:Int))).2)).set ((0:Int)+q4).toNat ((((q5.set ((0:Int)+q4).toNat ((q3,((q5.getD ((0:Int)+q4).toNat (((0:Int),(0:Int)),(0:Int))).1).2),(q5.getD ((0:Int)+q4).toNat (((0:Int),(0:Int)),(0:Int))).2)).set ((0:Int)+q4).toNat (((((q5.set ((0:Int)+q4).toNat ((q3,((q5.getD ((0:Int)+q4).toNat (((0:Int),(0:Int)),(0:Int))).1).2),(q5.getD ((0:Int)+q4).toNat (((0:Int),(0:Int)),(0:Int))).2)).getD ((0:Int)+q4).toNat (((0:Int),(0:Int)),(0:Int))).1).1,(w (q3+(1:Int)))),((q5.set ((0:Int)+q4).toNat ((q3,((q5.getD ((0:Int)+q4).toNat (((0:Int),(0:Int)),(0:Int))).1).2),(q5.getD ((0:Int)+q4).toNat (((0:Int),(0:Int)),(0:Int))).2)).getD ((0:Int)+q4).toNat (((0:Int),(0:Int)),(0:Int))).2)).getD ((0:Int)+q4).toNat (((0:Int),(0:Int)),(0:Int))).1,(w ((w (q3+(1:Int)))+(1:Int)))));L2 (w ((w ((w (q3+(1:Int)))+(1:Int)))+(1:Int))) (w (q4+(1:Int))) s2) else none) else none) else none) else some (q5,q3))
def Q8 (n:Nat) (q3 q4:Int) (q5:List (tV×Int)):Option ((List (tV×Int))×Int) :=
  AL (X:=Int×Int×List (tV×Int)) (fun L x=>Jx K (fun v0 v1 v2=>L (v0,v1,v2)) x.1 x.2.1 x.2.2) n (q3,q4,q5)
def Xn (K:Nat) (a0:List (tV×Int)) (a1:Int) (I2:Int→Int→(List (tV×Int))→Option ((List (tV×Int))×Int)):Option ((List (tV×Int))×Int) :=
  I2 a1 (0:Int) a0
def Xo (a0:List (tV×Int)) (a1:Int):Option ((List (tV×Int))×Int) :=
  Xn K a0 a1 (fun d0 d1 d2=>Q8 K K d0 d1 d2)
def Aar:Mdl:=⟨[(.io,(.list 84 (.cons sV sI))),(.ro,sI)],[sI],fun x=>Xo K x.1 x.2.1⟩
def Aep (a0:List (tV×Int)) (a1:Int) (lr:LR ((List (tV×Int))×Int)):Ex→Fr→Option ((List (tV×Int))×Int) :=
  AD (UU K) 1 lr Agb [1,0,1,0] (fM (UU K) Tryz.f30 (Aar K) (a0,a1,()))
def Xp (a0:List (tV×Int)) (a1:Int) (lr:LR ((List (tV×Int))×Int)) (bq3 bq4:Int) (bq5:List (tV×Int)):Option ((List (tV×Int))×Int) :=
  lr (AP Agb [1,0,1,0,0]) (Ss bq3 bq4 bq5) (Aep K a0 a1 lr)
def UV:Env:=eE K [] [0,1,4,5,9]
def Nf (K:Nat) (L2:Int→Int→(List tV)→Option ((List tV)×Int)) (q3 q4:Int) (q5:List tV):Option ((List tV)×Int) :=
  (bif (decide (q4<(q5.length:Int))) then (bif (decide (0≤q4)&&decide (q4<(q5.length:Int))) then (bif (decide (0≤q4)&&decide (q4<((q5.set ((0:Int)+q4).toNat (q3,(q5.getD ((0:Int)+q4).toNat ((0:Int),(0:Int))).2)).length:Int))) then L2 (w ((w (q3+(1:Int)))+(1:Int))) (w (q4+(1:Int))) ((q5.set ((0:Int)+q4).toNat (q3,(q5.getD ((0:Int)+q4).toNat ((0:Int),(0:Int))).2)).set ((0:Int)+q4).toNat (((q5.set ((0:Int)+q4).toNat (q3,(q5.getD ((0:Int)+q4).toNat ((0:Int),(0:Int))).2)).getD ((0:Int)+q4).toNat ((0:Int),(0:Int))).1,(w (q3+(1:Int))))) else none) else none) else some (q5,q3))
def Q9 (n:Nat) (q3 q4:Int) (q5:List tV):Option ((List tV)×Int) :=
  AL (X:=Int×Int×List tV) (fun L x=>Nf K (fun v0 v1 v2=>L (v0,v1,v2)) x.1 x.2.1 x.2.2) n (q3,q4,q5)
def Xq (K:Nat) (a0:List tV) (a1:Int) (I2:Int→Int→(List tV)→Option ((List tV)×Int)):Option ((List tV)×Int) :=
  I2 a1 (0:Int) a0
def Xr (a0:List tV) (a1:Int):Option ((List tV)×Int) :=
  Xq K a0 a1 (fun d0 d1 d2=>Q9 K K d0 d1 d2)
def Aas:Mdl:=⟨[(.io,(.list 34 sV)),(.ro,sI)],[sI],fun x=>Xr K x.1 x.2.1⟩
def Aeq (a0:List tV) (a1:Int) (lr:LR ((List tV)×Int)):Ex→Fr→Option ((List tV)×Int) :=
  AD (UV K) 1 lr Agc [1,0,1,0] (fM (UV K) Tryz.f93 (Aas K) (a0,a1,()))
def Xs (a0:List tV) (a1:Int) (lr:LR ((List tV)×Int)) (bq3 bq4:Int) (bq5:List tV):Option ((List tV)×Int) :=
  lr (AP Agc [1,0,1,0,0]) (St bq3 bq4 bq5) (Aeq K a0 a1 lr)
def UW:Env:=eE K [(93,Aas K)] [0,1,4,5,9]
def Jy (L3:Int→Int→(List (List tV))→Option ((List (List tV))×Int)) (q4 q5:Int) (q6:List (List tV)):Option ((List (List tV))×Int) :=
  (bif (decide (q5<(q6.length:Int))) then (bif (decide (0≤q5)&&decide (q5<(q6.length:Int))) then (Xr K (q6.getD ((0:Int)+q5).toNat []) q4).bind fun y7=>L3 y7.2 (w (q5+(1:Int))) (q6.set ((0:Int)+q5).toNat y7.1) else none) else some (q6,q4))
def Jz (n:Nat) (q4 q5:Int) (q6:List (List tV)):Option ((List (List tV))×Int) :=
  AL (X:=Int×Int×List (List tV)) (fun L x=>Jy K (fun v0 v1 v2=>L (v0,v1,v2)) x.1 x.2.1 x.2.2) n (q4,q5,q6)
def Xt (K:Nat) (a0:List (List tV)) (a1:Int) (I3:Int→Int→(List (List tV))→Option ((List (List tV))×Int)):Option ((List (List tV))×Int) :=
  I3 a1 (0:Int) a0
def UX (a0:List (List tV)) (a1:Int):Option ((List (List tV))×Int) :=
  Xt K a0 a1 (fun d0 d1 d2=>Jz K K d0 d1 d2)
def Aat:Mdl:=⟨[(.io,(.list 87 (.list 34 sV))),(.ro,sI)],[sI],fun x=>UX K x.1 x.2.1⟩
def Aer (a0:List (List tV)) (a1:Int) (lr:LR ((List (List tV))×Int)):Ex→Fr→Option ((List (List tV))×Int) :=
  AD (UW K) 1 lr Agd [1,0,1,0] (fM (UW K) Tryz.f31 (Aat K) (a0,a1,()))
def Xu (a0:List (List tV)) (a1:Int) (lr:LR ((List (List tV))×Int)) (bq4 bq5:Int) (bq6:List (List tV)):Option ((List (List tV))×Int) :=
  lr (AP Agd [1,0,1,0,0]) (Su bq4 bq5 bq6) (Aer K a0 a1 lr)
def UY:Env:=eE K [] [0,1,4,5,9,18,27]
def Ng (K:Nat) (a0:List tV) (L2:Int→Int→Option Int) (q3 q4:Int):Option Int :=
  (bif (decide (q4<(a0.length:Int))) then (bif (decide (0≤q4)&&decide (q4<(a0.length:Int))) then (bif ((a0.getD ((0:Int)+q4).toNat ((0:Int),(0:Int))).1 != q3) then some (-1:Int) else (bif (decide (0≤q4)&&decide (q4<(a0.length:Int))) then (bif ((a0.getD ((0:Int)+q4).toNat ((0:Int),(0:Int))).2 != (w (q3+(1:Int)))) then some (-1:Int) else L2 (w ((w (q3+(1:Int)))+(1:Int))) (w (q4+(1:Int)))) else none)) else none) else some q3)
def Ra (a0:List tV) (n:Nat) (q3 q4:Int):Option Int :=
  AL (X:=Int×Int) (fun L x=>Ng K a0 (fun v0 v1=>L (v0,v1)) x.1 x.2) n (q3,q4)
def Xv (K:Nat) (a0:List tV) (a1:Int) (I2:Int→Int→Option Int):Option Int :=
  I2 a1 (0:Int)
def Xw (a0:List tV) (a1:Int):Option Int :=
  Xv K a0 a1 (fun d0 d1=>Ra K a0 K d0 d1)
def Aau:Mdl:=⟨[(.ro,(.list 34 sV)),(.ro,sI)],[sI],fun x=>Xw K x.1 x.2.1⟩
def Aes (a0:List tV) (a1:Int) (lr:LR Int):Ex→Fr→Option Int :=
  AD (UY K) 1 lr Age [1,0,1,0] (fM (UY K) Tryz.f94 (Aau K) (a0,a1,()))
def Xx (a0:List tV) (a1:Int) (lr:LR Int) (bq3 bq4:Int):Option Int :=
  lr (AP Age [1,0,1,0,0]) (Sw a0 bq3 bq4) (Aes K a0 a1 lr)
def UZ:Env:=eE K [(94,Aau K)] [0,1,4,5,9,19]
def JA (a0:List (List tV)) (L3:Int→Int→Option Int) (q4 q5:Int):Option Int :=
  (bif (decide (q5<(a0.length:Int))) then (bif (decide (0≤q5)&&decide (q5<(a0.length:Int))) then (Xw K (a0.getD ((0:Int)+q5).toNat []) q4).bind fun y6=>(bif (decide (y6<(0:Int))) then some (-1:Int) else L3 y6 (w (q5+(1:Int)))) else none) else some q4)
def JB (a0:List (List tV)) (n:Nat) (q4 q5:Int):Option Int :=
  AL (X:=Int×Int) (fun L x=>JA K a0 (fun v0 v1=>L (v0,v1)) x.1 x.2) n (q4,q5)
def Xy (K:Nat) (a0:List (List tV)) (a1:Int) (I3:Int→Int→Option Int):Option Int :=
  I3 a1 (0:Int)
def Rb (a0:List (List tV)) (a1:Int):Option Int :=
  Xy K a0 a1 (fun d0 d1=>JB K a0 K d0 d1)
def Aav:Mdl:=⟨[(.ro,(.list 87 (.list 34 sV))),(.ro,sI)],[sI],fun x=>Rb K x.1 x.2.1⟩
def Aet (a0:List (List tV)) (a1:Int) (lr:LR Int):Ex→Fr→Option Int :=
  AD (UZ K) 1 lr Agf [1,0,1,0] (fM (UZ K) Tryz.f32 (Aav K) (a0,a1,()))
def Xz (a0:List (List tV)) (a1:Int) (lr:LR Int) (bq4 bq5:Int):Option Int :=
  lr (AP Agf [1,0,1,0,0]) (Sx a0 bq4 bq5) (Aet K a0 a1 lr)
def f5E:Env:=eE K [(7,f7M K),(9,f9M K),(10,ZH K),(13,Aan K),(23,Agg K),(24,ZX K),(25,ZJ K),(26,Ahm K),(27,Aal K),(28,Aap K),(29,Aaq K),(30,Aar K),(31,Aat K),(32,Aav K)] [0,1,2,3,5,8,9,10,11,12,13,14,15,16,17,18,19,20,25,30,63,68,73,92,100,103,123,128,131]
def f5G (a0:Int) (a1:Int×Int×Int) (a2:List tM) (a3:List (tV×Int)):Option Bool :=
  (f7G K a2 (1048576:Int)).bind fun y1=>(bif (decide (y1<(0:Int))) then some true else (Ad1 K a3 y1).bind fun y2=>(bif (decide (y2<(0:Int))) then some true else (f9G K a1).bind fun y3=>(Ox K a2).bind fun y4=>(Oy K a3).bind fun y5=>(WI K a0 y3 y4 y5).bind fun y6=>(Ox K a2).bind fun y7=>(Oy K a3).bind fun y8=>(f9G K a1).bind fun y9=>(W6 K a0 y9 y7 y8).bind fun y10=>(Q4 K y10.1 y6.1).bind fun y11=>(bif (bif (!y11) then true else (y10.2 != y6.2)) then some false else (Ox K a2).bind fun y12=>(Xf K y7 y12).bind fun y13=>(bif (!y13) then some false else (Oy K a3).bind fun y14=>(Xi K y8 y14).bind fun y15=>(bif (!y15) then some false else (Xl K y7 (1:Int)).bind fun y16=>(Xo K y8 y16.2).bind fun y17=>((bif (!(decide (y17.2<(0:Int)))) then Q4 K y10.1 y6.1 else some false)).bind fun y18=>(bif (bif (bif (decide (y17.2<(0:Int))) then true else (!y18)) then true else (y10.2 != y6.2)) then some false else (UX K y10.1 (1:Int)).bind fun y19=>(Rb K y19.1 (1:Int)).bind fun y20=>(bif (decide (y20<(0:Int))) then some false else (bif (y20 != y19.2) then some false else (f9G K a1).bind fun y21=>(Ox K a2).bind fun y22=>(Oy K a3).bind fun y23=>(W6 K a0 y21 y22 y23).bind fun y24=>(Q4 K y24.1 y6.1).bind fun y25=>(bif (bif (!y25) then true else (y24.2 != y6.2)) then some false else (Rb K y19.1 (1:Int)).bind fun y26=>(bif (decide (y26<(0:Int))) then some false else (bif (y26 != y19.2) then some false else some true)))))))))))
def f5M:Mdl:=⟨[(.ro,sI),(.ro,sL),(.ro,(.list 96 sM)),(.ro,(.list 135 (.cons sV sI)))],[.bool],fun x=>f5G K x.1 x.2.1 x.2.2.1 x.2.2.2.1⟩
end
end Go.Proofs.YteheolldcpjkcaaGreat.X
