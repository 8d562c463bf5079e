/- Functions of the program as plain Lean functions, and that the program does what they say. Printed by gen.py. -/
import Derived.Test.YteheolldcpjkcaaGreatQvXLoop
import Derived.Test.YteheolldcpjkcaaGreatQvXLib
import Derived.Test.YteheolldcpjkcaaGreatQvXDel
import Derived.Test.YteheolldcpjkcaaGreatProg
namespace Go.Proofs.YteheolldcpjkcaaGreat.X
open Go
set_option maxRecDepth 100000
attribute [local instance] cwD
set_option linter.unusedVariables false
abbrev tM:Type:=((Int×Int×Int×Int)×Int×Int)
abbrev tA:Type:=(Int×Int×Int×Int)
abbrev tL:Type:=(Int×Int×Int)
abbrev tV:Type:=(Int×Int)
abbrev sM:Sh:=(.cons (.cons (.int .i64) (.cons (.int .i64) (.cons (.int .i64) (.int .i64)))) (.cons (.int .i64) (.int .i64)))
abbrev sA:Sh:=(.cons (.int .i64) (.cons (.int .i64) (.cons (.int .i64) (.int .i64))))
abbrev sL:Sh:=(.cons (.int .i64) (.cons (.int .i64) (.int .i64)))
abbrev sV:Sh:=(.cons (.int .i64) (.int .i64))
abbrev sI:Sh:=(.int .i64)
abbrev zM:tM:=(((0:Int),((0:Int),((0:Int),(0:Int)))),((0:Int),(0:Int)))
abbrev zA:tA:=((0:Int),((0:Int),((0:Int),(0:Int))))
noncomputable section
def tys:List (Nat×Ty):=[(2,.sc sI),(3,.sc sI),(4,.sc .bool),(5,.sc (.int .u8)),(9,.sc .str),(30,.st sL [(0,1),(1,1),(2,1)]),(32,.sl 59 sM 48),(34,.st sV [(0,1),(1,1)]),(38,.sl 5 (.int .u8) 1),(46,.sl 2 sI 8),(48,.st (.cons sI (.cons sL (.list 2 sI))) [(0,1),(1,3),(4,1)]),(57,.st sA [(0,1),(1,1),(2,1),(3,1)]),(59,.st sM [(0,4),(4,2)]),(62,.sl 87 (.list 34 sV) 24),(65,.sl 84 (.cons sV sI) 24),(84,.st (.cons sV sI) [(0,2),(2,1)]),(87,.sl 34 sV 16),(90,.sl 32 (.list 59 sM) 24),(124,.sc (.int .u64)),(182,.st (.cons (.list 5 (.int .u8)) sV) [(0,1),(1,1),(2,1)]),(202,.sl 57 sA 32)]
def eqs:List (Nat×List Sh):=[(30,[sI,sI,sI]),(34,[sI,sI]),(57,[sI,sI,sI,sI]),(59,[sI,sI,sI,sI,sI,sI])]
def mts:List (Nat×MTy):=[(249,⟨59,4,sM,.bool⟩)]
theorem UP:Af9 Tryz.prog tys eqs mts=true:=by kernel_rfl
theorem LT:Tryz.prog.follows .mixedOrders=true:=by kernel_rfl
def eE (K:Nat) (l:List (Nat×Mdl)) (k:List Nat):Env:=⟨l,tys,eqs,mts,K,k,[],[],[],[],[],[],false⟩
abbrev rM (E:Env) (f:Func) (m:Mdl) (x:AT m.ps):=RE E f m.ps m.rs x
abbrev fM (E:Env) (f:Func) (m:Mdl) (x:AT m.ps):=Apf E f m.ps m.rs x
theorem Ag {X R:Type} {E:Env} {n0:Nat} {S:Code} {fr0:Fr} {k:Ex→Fr→Option R} (frame:X→Fr) {body:(X→Option R)→X→Option R} (h:∀ (L:Fr→Option R) x,Dz E n0 (Ad E n0) S (frame x) (Da n0 fr0 L k)=body (fun x=>L (frame x)) x) (n:Nat) (x:X):F4 (DD E n0 S) n0 fr0 n (frame x) k=AH body n x :=
  Nj (fun L x=>(Fv E n0 S _ _).trans (h L x)) n x
def jI (n:Int):Lf:=.int .i64 n
def jV (v:Int×Int):List Lf:=[jI v.1,jI v.2]
def jL (l:Int×Int×Int):List Lf:=[jI l.1,jI l.2.1,jI l.2.2]
def jA (m:Int×Int×Int×Int):List Lf:=[jI m.1,jI m.2.1,jI m.2.2.1,jI m.2.2.2]
def jM (m:tA×Int×Int):List Lf:=[jI m.1.1,jI m.1.2.1,jI m.1.2.2.1,jI m.1.2.2.2,jI m.2.1,jI m.2.2]
def Anp:Code:=Ar Tryz.f55
def WB (a0:List Int) (q3 q4:Int):Fr:=⟨34,[(0,.v false [.row 0]),(2,.v false [.und]),(3,.v false [.box 0 0]),(4,.v false [jI q3])],[some ⟨true,[.row 0,jI (0:Int),jI q4]⟩],[some ⟨5,(.int .u8),a0,.ro⟩]⟩
def Akh:Code:=Ar Tryz.f246
def RF (a0 q4:Int) (q5:List tA):Fr:=⟨34,[(0,.v false [jI a0]),(2,.v false [.row 0]),(3,.v false [.row 1]),(4,.v false [jI q4])],[],[some ⟨57,sA,[],.own⟩,some ⟨57,sA,q5,.own⟩]⟩
def WC:Code:=Ar Tryz.f251
def N1 (a0:List tV) (q11 q12 q16 q17 q18 q19:Int):Fr:=⟨74,[(0,.v false [.row 0]),(2,.v false [.box 0 0]),(3,.v false [.box 1 0]),(4,.v false [jI q11]),(5,.v false [jI q12]),(6,.v false [.box 2 0]),(13,.v false [.bool (decide (q12<(a0.length:Int)))])],[some ⟨true,[jI (0:Int),jI (0:Int),jI (0:Int)]⟩,some ⟨true,[jI q16,jI q17]⟩,some ⟨true,[jI q18,jI q19]⟩],[some ⟨34,sV,a0,.ro⟩]⟩
def EF (a0:List tV) (q11 q12 q13 q14:Int):Fr:=⟨74,[(0,.v false [.row 0]),(2,.v false [.box 0 0]),(3,.v false [.box 1 0]),(4,.v false [jI q11]),(5,.v false [jI q12])],[some ⟨true,[jI (0:Int),jI (0:Int),jI (0:Int)]⟩,some ⟨true,[jI q13,jI q14]⟩],[some ⟨34,sV,a0,.ro⟩]⟩
def Aki:Code:=Ar Tryz.f202
def RG (a0:Int) (a1:Int×Int×Int) (y1:List tA) (q5:Int) (q6:List tA):Fr:=⟨33,[(0,.v false [jI a0]),(1,.v true (jL a1)),(3,.v false [.box 0 0]),(4,.v false [.row 0]),(5,.v false [.row 1]),(6,.v false [.row 2]),(7,.v false [jI q5])],[some ⟨true,(jL a1)⟩],[some ⟨57,sA,[],.own⟩,some ⟨57,sA,y1,.own⟩,some ⟨57,sA,q6,.own⟩]⟩
def Anq:Code:=Ar Tryz.f71
def WD (a0 a1:List Int) (q3:Int):Fr:=⟨41,[(0,.v false [.row 0]),(1,.v false [.row 1]),(4,.v false [.bool false]),(5,.v false [jI q3])],[],[some ⟨2,sI,a0,.ro⟩,some ⟨2,sI,a1,.ro⟩]⟩
def Akj:Code:=Ar Tryz.f181
def RH (a0:List tM) (a1:tA×Int×Int) (q7 q8:Int):Fr:=⟨27,[(0,.v false [.row 0]),(1,.v true (jM a1)),(3,.v false [.box 0 0]),(4,.v false [jI (0:Int)]),(5,.v false [jI q7]),(6,.v false [jI q8])],[some ⟨true,(jM a1)⟩],[some ⟨59,sM,a0,.ro⟩]⟩
def WE:Code:=Ar Tryz.f199
def N2 (a0:Int×Int×Int) (a1:List tM) (q18:Int) (q20:List tM) (q22:Int) (q23 q24:List tM):Fr:=⟨49,[(0,.v true (jL a0)),(1,.v false [.row 0]),(2,.v false [.box 0 0]),(4,.v false [.row 1]),(5,.v false [.row 2]),(6,.v false [.row 3]),(7,.v false [jI q18]),(8,.v false [jI q22]),(17,.v false [.bool (decide (q18<(q20.length:Int)))])],[some ⟨true,(jL a0)⟩],[some ⟨59,sM,a1,.ro⟩,some ⟨59,sM,[],.own⟩,some ⟨59,sM,q23,.own⟩,some ⟨59,sM,q24,.own⟩]⟩
def EG (a0:Int×Int×Int) (a1:List tM) (q18:Int) (q19 q20:List tM):Fr:=⟨49,[(0,.v true (jL a0)),(1,.v false [.row 0]),(2,.v false [.box 0 0]),(4,.v false [.row 1]),(5,.v false [.row 2]),(6,.v false [.row 3]),(7,.v false [jI q18])],[some ⟨true,(jL a0)⟩],[some ⟨59,sM,a1,.ro⟩,some ⟨59,sM,[],.own⟩,some ⟨59,sM,q19,.own⟩,some ⟨59,sM,q20,.own⟩]⟩
def Akk:Code:=Ar Tryz.f137
def RI (a0:(List Int)×Int×Int) (y1:tV×Int×Int×Int×Int) (y2 q8 q9 q10:Int) (q11:List tM):Fr:=⟨98,[(0,.v false [.box 0 0]),(2,.v false [jI (0:Int)]),(3,.v false [.box 1 0]),(4,.v false [.row 1]),(5,.v false [jI y1.2.1]),(6,.v false [.box 2 0]),(7,.v false [.row 2]),(8,.v false [jI q8]),(19,.v false [.bool (y2==(0:Int))])],[some ⟨true,[.row 0,jI q9,jI q10]⟩,some ⟨true,[jI (0:Int),jI (0:Int),jI (0:Int)]⟩,some ⟨true,(jL y1.2.2)⟩],[some ⟨5,(.int .u8),a0.1,.ro⟩,some ⟨59,sM,[],.own⟩,some ⟨59,sM,q11,.own⟩]⟩
def Z0:Code:=Ar Tryz.f66
def RJ (a0:Int) (a1:Int×Int×Int) (a2:List tM) (q7 q24 y1:Int) (y12:Bool) (q26:Int):Fr:=⟨93,[(0,.v false [jI a0]),(1,.v true (jL a1)),(2,.v false [.row 0]),(4,.v false [.box 0 0]),(6,.v false [.bool false]),(7,.v false [jI q7]),(8,.v false [jI q24]),(9,.v false [jI q26]),(18,.v false [.bool (bif (y1 != (0:Int)) then true else (decide ((a2.length:Int)>(768:Int))))]),(22,.v false [.bool (decide (q7<(a2.length:Int)))]),(66,.v false [.bool (!y12)]),(70,.v false [.bool (decide (q24<(a2.length:Int)))])],[some ⟨true,(jL a1)⟩],[some ⟨59,sM,a2,.ro⟩]⟩
def F5 (a0:Int) (a1:Int×Int×Int) (a2:List tM) (q7 y1:Int) (y12:Bool) (q24:Int):Fr:=⟨93,[(0,.v false [jI a0]),(1,.v true (jL a1)),(2,.v false [.row 0]),(4,.v false [.box 0 0]),(6,.v false [.bool false]),(7,.v false [jI q7]),(8,.v false [jI q24]),(18,.v false [.bool (bif (y1 != (0:Int)) then true else (decide ((a2.length:Int)>(768:Int))))]),(22,.v false [.bool (decide (q7<(a2.length:Int)))]),(66,.v false [.bool (!y12)])],[some ⟨true,(jL a1)⟩],[some ⟨59,sM,a2,.ro⟩]⟩
def PW (a0:Int) (a1:Int×Int×Int) (a2:List tM) (y1 q7:Int):Fr:=⟨93,[(0,.v false [jI a0]),(1,.v true (jL a1)),(2,.v false [.row 0]),(4,.v false [.box 0 0]),(6,.v false [.bool false]),(7,.v false [jI q7]),(18,.v false [.bool (bif (y1 != (0:Int)) then true else (decide ((a2.length:Int)>(768:Int))))])],[some ⟨true,(jL a1)⟩],[some ⟨59,sM,a2,.ro⟩]⟩
def Age:Code:=Ar Tryz.f67
def WF (a0:Int×Int×Int) (q7 q10:Int) (q11:List tV):Fr:=⟨26,[(0,.v true (jL a0)),(1,.v false [.box 0 0]),(2,.v false [.row 0]),(3,.v false [.row 1]),(4,.v false [jI q7]),(5,.v false [jI q10]),(10,.v false [.bool (decide (q7<a0.1))])],[some ⟨true,(jL a0)⟩],[some ⟨34,sV,[],.own⟩,some ⟨34,sV,q11,.own⟩]⟩
def Ie (a0:Int×Int×Int) (q7:Int) (q8:List tV):Fr:=⟨26,[(0,.v true (jL a0)),(1,.v false [.box 0 0]),(2,.v false [.row 0]),(3,.v false [.row 1]),(4,.v false [jI q7])],[some ⟨true,(jL a0)⟩],[some ⟨34,sV,[],.own⟩,some ⟨34,sV,q8,.own⟩]⟩
def Akl:Code:=Ar Tryz.f183
def RK (a0:List tV) (a1:Int×Int) (q4:Int):Fr:=⟨45,[(0,.v false [.row 0]),(1,.v true (jV a1)),(3,.v false [.box 0 0]),(4,.v false [.row 1]),(5,.v false [jI q4])],[some ⟨true,(jV a1)⟩],[some ⟨34,sV,a0,.own⟩,some ⟨34,sV,[],.own⟩]⟩
def Akm:Code:=Ar Tryz.f119
def RL (a0:Int×Int×Int) (a1:List tM) (a2:Int×Int) (q5:Int) (q6:List tV):Fr:=⟨26,[(0,.v true (jL a0)),(1,.v false [.row 0]),(2,.v true (jV a2)),(3,.v false [.box 0 0]),(5,.v false [.box 1 0]),(6,.v false [.row 1]),(7,.v false [.row 2]),(8,.v false [jI q5])],[some ⟨true,(jL a0)⟩,some ⟨true,(jV a2)⟩],[some ⟨59,sM,a1,.ro⟩,some ⟨34,sV,[],.own⟩,some ⟨34,sV,q6,.own⟩]⟩
def Anr:Code:=Ar Tryz.f79
def WG (a0:Int×Int×Int) (a1:List tM) (y1:List tV) (q5:Int) (q6:List (List tV)):Fr:=⟨38,[(0,.v true (jL a0)),(1,.v false [.row 0]),(2,.v false [.box 0 0]),(4,.v false [.row 1]),(5,.v false [.row 2]),(6,.v false [.row 3]),(7,.v false [jI q5])],[some ⟨true,(jL a0)⟩],[some ⟨59,sM,a1,.ro⟩,some ⟨87,(.list 34 sV),[],.own⟩,some ⟨34,sV,y1,.own⟩,some ⟨87,(.list 34 sV),q6,.own⟩]⟩
def WH:Code:=Ar Tryz.f102
def N3 (a0:Int×Int×Int) (a1:List tM) (q10:Int) (y1:List (List tV)) (q13:Int) (q14:List Int):Fr:=⟨46,[(0,.v true (jL a0)),(1,.v false [.row 0]),(2,.v false [.box 0 0]),(4,.v false [.row 1]),(5,.v false [.row 2]),(6,.v false [.row 3]),(7,.v false [jI q10]),(8,.v false [jI q13]),(21,.v false [.bool (decide (q10<(y1.length:Int)))])],[some ⟨true,(jL a0)⟩],[some ⟨59,sM,a1,.ro⟩,some ⟨2,sI,[],.own⟩,some ⟨2,sI,q14,.own⟩,some ⟨87,(.list 34 sV),y1,.own⟩]⟩
def F8 (a0:Int×Int×Int) (a1:List tM) (y1:List (List tV)) (q10:Int) (q11:List Int):Fr:=⟨46,[(0,.v true (jL a0)),(1,.v false [.row 0]),(2,.v false [.box 0 0]),(4,.v false [.row 1]),(5,.v false [.row 2]),(6,.v false [.row 3]),(7,.v false [jI q10])],[some ⟨true,(jL a0)⟩],[some ⟨59,sM,a1,.ro⟩,some ⟨2,sI,[],.own⟩,some ⟨2,sI,q11,.own⟩,some ⟨87,(.list 34 sV),y1,.own⟩]⟩
def Akn:Code:=Ar Tryz.f219
def RM (a0:Int) (a1:Int×Int×Int) (a2:List tM) (a3 y1:List Int) (q4:Int) (q5:List Int):Fr:=⟨38,[(0,.v false [jI a0]),(1,.v true (jL a1)),(2,.v false [.row 0]),(3,.v false [.row 1]),(5,.v false [.box 0 0]),(8,.v false [.box 1 0]),(9,.v false [.row 2]),(10,.v false [.box 2 0]),(11,.v false [jI q4])],[some ⟨true,(jL a1)⟩,some ⟨true,[jI (0:Int),jI (0:Int),jI (0:Int),jI (0:Int),.row 3]⟩,some ⟨true,[jI a0,jI a1.1,jI a1.2.1,jI a1.2.2,.row 4]⟩],[some ⟨59,sM,a2,.ro⟩,some ⟨2,sI,a3,.ro⟩,some ⟨2,sI,y1,.own⟩,some ⟨2,sI,[],.own⟩,some ⟨2,sI,q5,.own⟩]⟩
def Ako:Code:=Ar Tryz.f171
def RN (a0:(List Int)×Int×Int) (y1:tV×Int×tL×List tM) (y2:Bool) (q7 q8 q9:Int) (q10:List Int):Fr:=⟨61,[(0,.v false [.box 0 0]),(2,.v false [.box 1 0]),(3,.v false [.row 1]),(4,.v false [jI y1.2.1]),(5,.v false [.box 2 0]),(6,.v false [.row 2]),(7,.v false [.box 3 0]),(8,.v false [.row 3]),(9,.v false [jI q7]),(25,.v false [.bool (!y2)])],[some ⟨true,[.row 0,jI q8,jI q9]⟩,some ⟨true,[jI (0:Int),jI (0:Int),jI (0:Int),jI (0:Int),.row 4]⟩,some ⟨true,(jL y1.2.2.1)⟩,some ⟨true,[jI y1.2.1,jI y1.2.2.1.1,jI y1.2.2.1.2.1,jI y1.2.2.1.2.2,.row 5]⟩],[some ⟨5,(.int .u8),a0.1,.ro⟩,some ⟨59,sM,[],.own⟩,some ⟨59,sM,y1.2.2.2,.own⟩,some ⟨2,sI,q10,.own⟩,some ⟨2,sI,[],.own⟩,some ⟨2,sI,[],.own⟩]⟩
def Akp:Code:=Ar Tryz.f177
def RO (a0:List Int) (a1 a2 a3 q4:Int):Fr:=⟨28,[(0,.v false [.row 0]),(1,.v false [jI a1]),(2,.v false [jI a2]),(3,.v false [jI a3]),(8,.v false [.bool false]),(9,.v false [jI q4])],[],[some ⟨2,sI,a0,.ro⟩]⟩
def Akq:Code:=Ar Tryz.f176
def RP (a0:(List Int)×Int×Int) (q7 q8 q9:Int) (q10:List (tV×Int)):Fr:=⟨45,[(0,.v false [.box 0 0]),(2,.v false [.row 1]),(3,.v false [.row 2]),(4,.v false [jI q7])],[some ⟨true,[.row 0,jI q8,jI q9]⟩],[some ⟨5,(.int .u8),a0.1,.ro⟩,some ⟨84,(.cons sV sI),[],.own⟩,some ⟨84,(.cons sV sI),q10,.own⟩]⟩
def Akr:Code:=Ar Tryz.f105
def RQ (a0:(List Int)×Int×Int) (a1:Int×tL×List Int) (y1:Bool) (y2:tV×Int) (q10 q11 q12:Int) (q13:List (tV×Int)):Fr:=⟨58,[(0,.v false [.box 0 0]),(1,.v true [jI a1.1,jI a1.2.1.1,jI a1.2.1.2.1,jI a1.2.1.2.2,.row 1]),(3,.v false [.box 1 0]),(4,.v false [.row 2]),(5,.v false [.row 3]),(6,.v false [jI q10]),(15,.v false [.bool (bif (!y1) then true else (y2.2==(0:Int)))])],[some ⟨true,[.row 0,jI q11,jI q12]⟩,some ⟨true,[jI a1.1,jI a1.2.1.1,jI a1.2.1.2.1,jI a1.2.1.2.2,.row 1]⟩],[some ⟨5,(.int .u8),a0.1,.ro⟩,some ⟨2,sI,a1.2.2,.ro⟩,some ⟨84,(.cons sV sI),[],.own⟩,some ⟨84,(.cons sV sI),q13,.own⟩]⟩
def Aks:Code:=Ar Tryz.f158
def RR (a0 q9:Int) (q10:List tA):Fr:=⟨61,[(0,.v false [jI a0]),(2,.v false [.row 0]),(3,.v false [.row 1]),(10,.v false [jI q9])],[],[some ⟨57,sA,[],.own⟩,some ⟨57,sA,q10,.own⟩]⟩
def Akt:Code:=Ar Tryz.f274
def RS (a0:List tA) (a1:(tA→Option Bool)) (q4:Int):Fr:=⟨19,[(0,.v false [.row 0]),(1,.v false [.fv1 sA .bool a1]),(4,.v false [jI (0:Int)]),(7,.v false [jI (a0.length:Int)]),(8,.v false [jI q4])],[],[some ⟨57,sA,a0,.ro⟩]⟩
def Aku:Code:=Ar Tryz.f257
def RU (a1:(tA→Option Bool)) (y1 q5 q6:Int) (q7:List tA):Fr:=⟨42,[(0,.v false [.row 0]),(1,.v false [.fv1 sA .bool a1]),(4,.v false [.row 1]),(5,.v false [jI q5]),(6,.v false [jI q6]),(12,.v false [.bool (y1==(-1:Int))])],[],[some ⟨57,sA,q7,.own⟩,some ⟨57,sA,[],.own⟩]⟩
def Akv:Code:=Ar Tryz.f212
def RV (a0:List tA) (a1:Int×Int×Int×Int) (q3:Int):Fr:=⟨19,[(0,.v false [.row 0]),(1,.v true (jA a1)),(3,.v false [.box 0 0]),(4,.v false [jI (0:Int)]),(7,.v false [jI (a0.length:Int)]),(8,.v false [jI q3])],[some ⟨true,(jA a1)⟩],[some ⟨57,sA,a0,.ro⟩]⟩
def Akw:Code:=Ar Tryz.f190
def RW (a0 a1:List Int) (q3:Int):Fr:=⟨30,[(0,.v false [.row 0]),(1,.v false [.row 1]),(4,.v false [jI (0:Int)]),(7,.v false [jI (a0.length:Int)]),(8,.v false [jI q3])],[],[some ⟨2,sI,a0,.ro⟩,some ⟨2,sI,a1,.ro⟩]⟩
def N4:Code:=Ar Tryz.f186
def N5 (a0:Int) (a1:Int×Int×Int) (a2:List tM) (q7:Int) (q8:List (tM×Bool)) (q22:Int) (y1:List tA) (y12:Int×Int×Int×Int) (q24:Int):Fr:=⟨84,[(0,.v false [jI a0]),(1,.v true (jL a1)),(2,.v false [.row 0]),(4,.v false [.box 0 0]),(6,.v false [.bool false]),(7,.v false [.row 1]),(8,.v false [.mp 1]),(12,.v false [.box 2 0]),(19,.v false [.row 0]),(20,.v false [jI (a2.length:Int)]),(21,.v false [jI q7]),(22,.v false [.bool (decide (q7<(a2.length:Int)))]),(61,.v false [.bool (!((B5 (A7 sM) q8 (y12,(0:Int),(0:Int))).getD false))]),(62,.v false [.row 0]),(63,.v false [jI (a2.length:Int)]),(64,.v false [jI q22]),(65,.v false [.bool (decide (q22<(a2.length:Int)))]),(68,.v false [.row 0]),(69,.v false [jI (a2.length:Int)]),(70,.v false [jI q24])],[some ⟨true,(jL a1)⟩,some ⟨true,[.mc sM .bool q8]⟩,some ⟨true,[jI (((a2.getD ((0:Int)+q22).toNat zM).1).1),jI ((((a2.getD ((0:Int)+q22).toNat zM).1).2).1),jI (((((a2.getD ((0:Int)+q22).toNat zM).1).2).2).1),jI (((((a2.getD ((0:Int)+q22).toNat zM).1).2).2).2),jI (((a2.getD ((0:Int)+q22).toNat zM).2).1),jI (((a2.getD ((0:Int)+q22).toNat zM).2).2)]⟩],[some ⟨59,sM,a2,.ro⟩,some ⟨57,sA,y1,.own⟩]⟩
def EH (a0:Int) (a1:Int×Int×Int) (a2:List tM) (q7:Int) (q8:List (tM×Bool)) (y1:List tA) (y12:Int×Int×Int×Int) (q22:Int):Fr:=⟨84,[(0,.v false [jI a0]),(1,.v true (jL a1)),(2,.v false [.row 0]),(4,.v false [.box 0 0]),(6,.v false [.bool false]),(7,.v false [.row 1]),(8,.v false [.mp 1]),(19,.v false [.row 0]),(20,.v false [jI (a2.length:Int)]),(21,.v false [jI q7]),(22,.v false [.bool (decide (q7<(a2.length:Int)))]),(61,.v false [.bool (!((B5 (A7 sM) q8 (y12,(0:Int),(0:Int))).getD false))]),(62,.v false [.row 0]),(63,.v false [jI (a2.length:Int)]),(64,.v false [jI q22])],[some ⟨true,(jL a1)⟩,some ⟨true,[.mc sM .bool q8]⟩],[some ⟨59,sM,a2,.ro⟩,some ⟨57,sA,y1,.own⟩]⟩
def LU (a0:Int) (a1:Int×Int×Int) (a2:List tM) (y1:List tA) (q7:Int) (q8:List (tM×Bool)):Fr:=⟨84,[(0,.v false [jI a0]),(1,.v true (jL a1)),(2,.v false [.row 0]),(4,.v false [.box 0 0]),(6,.v false [.bool false]),(7,.v false [.row 1]),(8,.v false [.mp 1]),(19,.v false [.row 0]),(20,.v false [jI (a2.length:Int)]),(21,.v false [jI q7])],[some ⟨true,(jL a1)⟩,some ⟨true,[.mc sM .bool q8]⟩],[some ⟨59,sM,a2,.ro⟩,some ⟨57,sA,y1,.own⟩]⟩
def Akx:Code:=Ar Tryz.f121
def RX (a0:Int) (a1:Int×Int×Int) (a2:List (List tM)) (y1 q5:Int):Fr:=⟨28,[(0,.v false [jI a0]),(1,.v true (jL a1)),(2,.v false [.row 0]),(4,.v false [.box 0 0]),(6,.v false [jI (0:Int)]),(7,.v false [jI y1]),(14,.v false [.bool (y1 != (0:Int))]),(16,.v false [.row 0]),(17,.v false [jI (a2.length:Int)]),(18,.v false [jI q5])],[some ⟨true,(jL a1)⟩],[some ⟨32,(.list 59 sM),a2,.ro⟩]⟩
def Aky:Code:=Ar Tryz.f168
def RY (a0:List (tV×Int)) (a1:((tV×Int)→Option Bool)) (q4:Int):Fr:=⟨19,[(0,.v false [.row 0]),(1,.v false [.fv1 (.cons sV sI) .bool a1]),(4,.v false [jI (0:Int)]),(7,.v false [jI (a0.length:Int)]),(8,.v false [jI q4])],[],[some ⟨84,(.cons sV sI),a0,.ro⟩]⟩
def Akz:Code:=Ar Tryz.f166
def RZ (a0:List Int) (a1:Int) (y1:Int×Int) (q4:Int) (q5:List Int):Fr:=⟨48,[(0,.v false [.row 0]),(1,.v false [jI a1]),(4,.v false [.row 1]),(5,.v false [.int .u64 y1.1]),(6,.v false [.int .u64 y1.2]),(7,.v false [.row 2]),(8,.v false [jI q4]),(10,.v false [.bool (decide (a1<(0:Int)))]),(26,.v false [.bool (bif (decide (y1.1>(0:Int))) then true else (decide (y1.2>(9223372036854775807:Int))))])],[],[some ⟨2,sI,a0,.ro⟩,some ⟨2,sI,[],.own⟩,some ⟨2,sI,q5,.own⟩]⟩
def Agf:Code:=Ar Tryz.f99
def WI (a0:Int×Int×Int) (q7 q10:Int) (q11:List tV):Fr:=⟨26,[(0,.v true (jL a0)),(1,.v false [.box 0 0]),(2,.v false [.row 0]),(3,.v false [.row 1]),(4,.v false [jI q7]),(8,.v false [jI a0.1]),(9,.v false [jI q7]),(10,.v false [.bool (decide (q7<a0.1))]),(13,.v false [jI a0.2.2]),(14,.v false [jI q10])],[some ⟨true,(jL a0)⟩],[some ⟨34,sV,[],.own⟩,some ⟨34,sV,q11,.own⟩]⟩
def Ig (a0:Int×Int×Int) (q7:Int) (q8:List tV):Fr:=⟨26,[(0,.v true (jL a0)),(1,.v false [.box 0 0]),(2,.v false [.row 0]),(3,.v false [.row 1]),(8,.v false [jI a0.1]),(9,.v false [jI q7])],[some ⟨true,(jL a0)⟩],[some ⟨34,sV,[],.own⟩,some ⟨34,sV,q8,.own⟩]⟩
def WJ:Code:=Ar Tryz.f128
def R0 (a0:List tV) (q8 q10 q11:Int) (q12:List tV):Fr:=⟨61,[(0,.v false [.row 0]),(2,.v false [.row 1]),(3,.v false [jI q10]),(4,.v false [.view 0 ((0:Int)+q8) ((0:Int)+(a0.length:Int))]),(5,.v false [jI q11]),(8,.v false [.bool (decide ((a0.length:Int)<(2:Int)))]),(13,.v false [.bool (decide (q8<(a0.length:Int)))]),(25,.v false [.bool (((a0.getD ((0:Int)+q8).toNat ((0:Int),(0:Int))).1==(a0.getD ((0:Int)+(w (q8-(1:Int)))).toNat ((0:Int),(0:Int))).1)&&((a0.getD ((0:Int)+q8).toNat ((0:Int),(0:Int))).2==(a0.getD ((0:Int)+(w (q8-(1:Int)))).toNat ((0:Int),(0:Int))).2))])],[],[some ⟨34,sV,q12,.own⟩,some ⟨34,sV,[],.own⟩]⟩
def Ih (a0:List tV) (q8:Int):Fr:=⟨61,[(0,.v false [.row 0]),(2,.v false [.row 1]),(3,.v false [jI q8]),(8,.v false [.bool (decide ((a0.length:Int)<(2:Int)))])],[],[some ⟨34,sV,a0,.own⟩,some ⟨34,sV,[],.own⟩]⟩
def Ans:Code:=Ar Tryz.f52
def WK (a0:Int×Int×Int) (a1:List tM) (a2:Int×Int) (q4:Int) (q5:List tV):Fr:=⟨29,[(0,.v true (jL a0)),(1,.v false [.row 0]),(2,.v true (jV a2)),(3,.v false [.box 0 0]),(5,.v false [.box 1 0]),(6,.v false [.row 1]),(7,.v false [.row 2]),(11,.v false [.row 0]),(12,.v false [jI (a1.length:Int)]),(13,.v false [jI q4])],[some ⟨true,(jL a0)⟩,some ⟨true,(jV a2)⟩],[some ⟨59,sM,a1,.ro⟩,some ⟨34,sV,[],.own⟩,some ⟨34,sV,q5,.own⟩]⟩
def Agg:Code:=Ar Tryz.f84
def R1 (a0:Int×Int×Int) (a1:List tM) (q17:Int) (q18:List (List tV)) (q19:List Int) (y3:List tV) (y20:Int) (y21:List tV) (q23:Int) (q24:List Int):Fr:=⟨57,[(0,.v true (jL a0)),(1,.v false [.row 0]),(2,.v false [.box 0 0]),(4,.v false [.row 1]),(5,.v false [.row 2]),(6,.v false [.row 3]),(7,.v false [.row 4]),(9,.v false [.box 1 0]),(10,.v false [.row 5]),(19,.v false [.row 6]),(20,.v false [jI (y3.length:Int)]),(21,.v false [jI q17]),(22,.v false [.bool (decide (q17<(y3.length:Int)))]),(31,.v false [.bool (decide ((q19.getD ((0:Int)+y20).toNat (0:Int))≥(0:Int)))]),(36,.v false [.row 5]),(37,.v false [jI (y21.length:Int)]),(38,.v false [jI q23])],[some ⟨true,(jL a0)⟩,some ⟨true,[jI ((y3.getD ((0:Int)+q17).toNat ((0:Int),(0:Int))).1),jI ((y3.getD ((0:Int)+q17).toNat ((0:Int),(0:Int))).2)]⟩],[some ⟨59,sM,a1,.ro⟩,some ⟨87,(.list 34 sV),[],.own⟩,some ⟨2,sI,[],.own⟩,some ⟨87,(.list 34 sV),q18,.own⟩,some ⟨2,sI,q24,.own⟩,some ⟨34,sV,y21,.own⟩,some ⟨34,sV,y3,.own⟩]⟩
def Ga (a0:Int×Int×Int) (a1:List tM) (y3:List tV) (q17:Int) (q18:List (List tV)) (q19:List Int):Fr:=⟨57,[(0,.v true (jL a0)),(1,.v false [.row 0]),(2,.v false [.box 0 0]),(4,.v false [.row 1]),(5,.v false [.row 2]),(6,.v false [.row 3]),(7,.v false [.row 4]),(19,.v false [.row 5]),(20,.v false [jI (y3.length:Int)]),(21,.v false [jI q17])],[some ⟨true,(jL a0)⟩],[some ⟨59,sM,a1,.ro⟩,some ⟨87,(.list 34 sV),[],.own⟩,some ⟨2,sI,[],.own⟩,some ⟨87,(.list 34 sV),q18,.own⟩,some ⟨2,sI,q19,.own⟩,some ⟨34,sV,y3,.own⟩]⟩
def Agh:Code:=Ar Tryz.f97
def R2 (a0:Int×Int×Int) (a1:List tM) (a2:List (tV×Int)) (q11:Int) (y1:(List (List tV))×List Int) (q13:Int):Fr:=⟨57,[(0,.v true (jL a0)),(1,.v false [.row 0]),(2,.v false [.row 1]),(3,.v false [.box 0 0]),(6,.v false [jI (0:Int)]),(7,.v false [jI (0:Int)]),(8,.v false [.bool false]),(10,.v false [.box 1 0]),(11,.v false [.fn 173 [1,0]]),(12,.v false [jI q11]),(13,.v false [.box 2 0]),(23,.v false [.row 1]),(24,.v false [jI (a2.length:Int)]),(25,.v false [jI q11]),(26,.v false [.bool (decide (q11<(a2.length:Int)))]),(32,.v false [.view 1 (0:Int) ((0:Int)+q11)]),(33,.v false [jI (((0:Int)+q11)-(0:Int))]),(34,.v false [jI q13])],[some ⟨true,(jL a0)⟩,some ⟨true,[.row 2]⟩,some ⟨true,[jI (((a2.getD ((0:Int)+q11).toNat (((0:Int),(0:Int)),(0:Int))).1).1),jI (((a2.getD ((0:Int)+q11).toNat (((0:Int),(0:Int)),(0:Int))).1).2),jI ((a2.getD ((0:Int)+q11).toNat (((0:Int),(0:Int)),(0:Int))).2)]⟩],[some ⟨59,sM,a1,.ro⟩,some ⟨84,(.cons sV sI),a2,.ro⟩,some ⟨2,sI,y1.2,.own⟩]⟩
def Gb (a0:Int×Int×Int) (a1:List tM) (a2:List (tV×Int)) (y1:(List (List tV))×List Int) (q11:Int):Fr:=⟨57,[(0,.v true (jL a0)),(1,.v false [.row 0]),(2,.v false [.row 1]),(3,.v false [.box 0 0]),(6,.v false [jI (0:Int)]),(7,.v false [jI (0:Int)]),(8,.v false [.bool false]),(10,.v false [.box 1 0]),(11,.v false [.fn 173 [1,0]]),(23,.v false [.row 1]),(24,.v false [jI (a2.length:Int)]),(25,.v false [jI q11])],[some ⟨true,(jL a0)⟩,some ⟨true,[.row 2]⟩],[some ⟨59,sM,a1,.ro⟩,some ⟨84,(.cons sV sI),a2,.ro⟩,some ⟨2,sI,y1.2,.own⟩]⟩
def Ant:Code:=Ar Tryz.f98
def WL (a0:Int) (a1:Int×Int×Int) (a2:List tV) (a3 q5:Int) (q6:List Int):Fr:=⟨33,[(0,.v false [jI a0]),(1,.v true (jL a1)),(2,.v false [.row 0]),(3,.v false [jI a3]),(5,.v false [.box 0 0]),(8,.v false [.box 1 0]),(9,.v false [.box 2 0]),(18,.v false [.row 0]),(19,.v false [jI (a2.length:Int)]),(20,.v false [jI q5])],[some ⟨true,(jL a1)⟩,some ⟨true,[jI (0:Int),jI (0:Int),jI (0:Int),jI (0:Int),.row 1]⟩,some ⟨true,[jI a0,jI a1.1,jI a1.2.1,jI a1.2.2,.row 2]⟩],[some ⟨34,sV,a2,.ro⟩,some ⟨2,sI,[],.own⟩,some ⟨2,sI,q6,.own⟩]⟩
def Agi:Code:=Ar Tryz.f34
def R3 (a0:Int) (a1:Int×Int×Int) (a2:List tM) (a3:List (tV×Int)) (a4 q16 y1:Int) (y2:Bool) (y3:Int×Int×Bool) (y5:Int×tL×List Int) (y19:List tV) (q21:Int) (q22:List Int):Fr:=⟨79,[(0,.v false [jI a0]),(1,.v true (jL a1)),(2,.v false [.row 0]),(3,.v false [.row 1]),(4,.v false [jI a4]),(6,.v false [.box 0 0]),(10,.v false [.box 1 0]),(11,.v false [jI (0:Int)]),(12,.v false [jI y1]),(15,.v false [.bool y3.2.2]),(16,.v false [.box 2 0]),(18,.v false [.box 3 0]),(27,.v false [.bool (y1 != (0:Int))]),(32,.v false [.bool (!y2)]),(42,.v false [.bool y3.2.2]),(50,.v false [.row 1]),(51,.v false [jI (a3.length:Int)]),(52,.v false [jI q16]),(53,.v false [.bool (decide (q16<(a3.length:Int)))]),(62,.v false [.row 2]),(63,.v false [jI (y19.length:Int)]),(64,.v false [jI q21])],[some ⟨true,(jL a1)⟩,some ⟨true,[jI (0:Int),jI (0:Int),jI (0:Int),jI (0:Int),.row 3]⟩,some ⟨true,[jI y5.1,jI y5.2.1.1,jI y5.2.1.2.1,jI y5.2.1.2.2,.row 4]⟩,some ⟨true,[jI (((a3.getD ((0:Int)+q16).toNat (((0:Int),(0:Int)),(0:Int))).1).1),jI (((a3.getD ((0:Int)+q16).toNat (((0:Int),(0:Int)),(0:Int))).1).2),jI ((a3.getD ((0:Int)+q16).toNat (((0:Int),(0:Int)),(0:Int))).2)]⟩],[some ⟨59,sM,a2,.ro⟩,some ⟨84,(.cons sV sI),a3,.ro⟩,some ⟨34,sV,y19,.own⟩,some ⟨2,sI,[],.own⟩,some ⟨2,sI,q22,.own⟩]⟩
def Gc (a0:Int) (a1:Int×Int×Int) (a2:List tM) (a3:List (tV×Int)) (a4 y1:Int) (y2:Bool) (y3:Int×Int×Bool) (y5:Int×tL×List Int) (q16:Int) (q17:List Int):Fr:=⟨79,[(0,.v false [jI a0]),(1,.v true (jL a1)),(2,.v false [.row 0]),(3,.v false [.row 1]),(4,.v false [jI a4]),(6,.v false [.box 0 0]),(10,.v false [.box 1 0]),(11,.v false [jI (0:Int)]),(12,.v false [jI y1]),(15,.v false [.bool y3.2.2]),(16,.v false [.box 2 0]),(27,.v false [.bool (y1 != (0:Int))]),(32,.v false [.bool (!y2)]),(42,.v false [.bool y3.2.2]),(50,.v false [.row 1]),(51,.v false [jI (a3.length:Int)]),(52,.v false [jI q16])],[some ⟨true,(jL a1)⟩,some ⟨true,[jI (0:Int),jI (0:Int),jI (0:Int),jI (0:Int),.row 2]⟩,some ⟨true,[jI y5.1,jI y5.2.1.1,jI y5.2.1.2.1,jI y5.2.1.2.2,.row 3]⟩],[some ⟨59,sM,a2,.ro⟩,some ⟨84,(.cons sV sI),a3,.ro⟩,some ⟨2,sI,[],.own⟩,some ⟨2,sI,q17,.own⟩]⟩
def Anu:Code:=Ar Tryz.f43
def WM (a0:List (tV×Int)) (q5:Int):Fr:=⟨29,[(0,.v false [.row 0]),(2,.v false [.bool false]),(3,.v false [jI q5])],[],[some ⟨84,(.cons sV sI),a0,.ro⟩]⟩
def WN:Code:=Ar Tryz.f103
def N6 (a0:Int×Int×Int) (a1:List Int) (a2:List (tV×Int)) (q10 q12:Int):Fr:=⟨62,[(0,.v true (jL a0)),(1,.v false [.row 0]),(2,.v false [.row 1]),(3,.v false [.box 0 0]),(6,.v false [jI (0:Int)]),(7,.v false [jI (0:Int)]),(8,.v false [.bool false]),(9,.v false [jI q10]),(10,.v false [jI q12]),(16,.v false [.bool (decide (q10<(a2.length:Int)))])],[some ⟨true,(jL a0)⟩],[some ⟨2,sI,a1,.ro⟩,some ⟨84,(.cons sV sI),a2,.ro⟩]⟩
def Ge (a0:Int×Int×Int) (a1:List Int) (a2:List (tV×Int)) (q10:Int):Fr:=⟨62,[(0,.v true (jL a0)),(1,.v false [.row 0]),(2,.v false [.row 1]),(3,.v false [.box 0 0]),(6,.v false [jI (0:Int)]),(7,.v false [jI (0:Int)]),(8,.v false [.bool false]),(9,.v false [jI q10])],[some ⟨true,(jL a0)⟩],[some ⟨2,sI,a1,.ro⟩,some ⟨84,(.cons sV sI),a2,.ro⟩]⟩
def R4:Code:=Ar Tryz.f35
def R5 (a0:Int) (a1:Int×Int×Int) (a2:List tM) (a3:List (tV×Int)) (a4 q13:Int) (q14:List Int) (y1:Int) (y2:Bool) (y3:List Int) (y4:Int×Int×Bool) (q16 q17:Int):Fr:=⟨94,[(0,.v false [jI a0]),(1,.v true (jL a1)),(2,.v false [.row 0]),(3,.v false [.row 1]),(4,.v false [jI a4]),(6,.v false [.box 0 0]),(10,.v false [.box 1 0]),(11,.v false [jI (0:Int)]),(12,.v false [jI (2:Int)]),(13,.v false [.row 2]),(16,.v false [.bool y4.2.2]),(17,.v false [.box 2 0]),(18,.v false [jI q13]),(19,.v false [jI q16]),(20,.v false [jI q17]),(32,.v false [.bool (bif (y1==(0:Int)) then (!y2) else false)]),(34,.v false [.bool ((2:Int) != (0:Int))]),(48,.v false [.bool y4.2.2]),(57,.v false [.bool (decide (q13<(y3.length:Int)))])],[some ⟨true,(jL a1)⟩,some ⟨true,[jI (0:Int),jI (0:Int),jI (0:Int),jI (0:Int),.row 3]⟩,some ⟨true,[jI a0,jI a1.1,jI a1.2.1,jI a1.2.2,.row 4]⟩],[some ⟨59,sM,a2,.ro⟩,some ⟨84,(.cons sV sI),a3,.ro⟩,some ⟨2,sI,y3,.own⟩,some ⟨2,sI,[],.own⟩,some ⟨2,sI,q14,.own⟩]⟩
def Gf (a0:Int) (a1:Int×Int×Int) (a2:List tM) (a3:List (tV×Int)) (a4 y1:Int) (y2:Bool) (y3:List Int) (y4:Int×Int×Bool) (q13:Int) (q14:List Int):Fr:=⟨94,[(0,.v false [jI a0]),(1,.v true (jL a1)),(2,.v false [.row 0]),(3,.v false [.row 1]),(4,.v false [jI a4]),(6,.v false [.box 0 0]),(10,.v false [.box 1 0]),(11,.v false [jI (0:Int)]),(12,.v false [jI (2:Int)]),(13,.v false [.row 2]),(16,.v false [.bool y4.2.2]),(17,.v false [.box 2 0]),(18,.v false [jI q13]),(32,.v false [.bool (bif (y1==(0:Int)) then (!y2) else false)]),(34,.v false [.bool ((2:Int) != (0:Int))]),(48,.v false [.bool y4.2.2])],[some ⟨true,(jL a1)⟩,some ⟨true,[jI (0:Int),jI (0:Int),jI (0:Int),jI (0:Int),.row 3]⟩,some ⟨true,[jI a0,jI a1.1,jI a1.2.1,jI a1.2.2,.row 4]⟩],[some ⟨59,sM,a2,.ro⟩,some ⟨84,(.cons sV sI),a3,.ro⟩,some ⟨2,sI,y3,.own⟩,some ⟨2,sI,[],.own⟩,some ⟨2,sI,q14,.own⟩]⟩
def R6 (a0:Int) (a1:Int×Int×Int) (a2:List tM) (a3:List (tV×Int)) (a4 q22:Int) (q23:List Int) (y1:Int) (y2:Bool) (y19:List Int) (y20:Int×Int×Bool) (q25 q26:Int):Fr:=⟨94,[(0,.v false [jI a0]),(1,.v true (jL a1)),(2,.v false [.row 0]),(3,.v false [.row 1]),(4,.v false [jI a4]),(6,.v false [.box 0 0]),(10,.v false [.box 1 0]),(11,.v false [jI (0:Int)]),(12,.v false [jI y1]),(13,.v false [.row 2]),(16,.v false [.bool y20.2.2]),(17,.v false [.box 2 0]),(18,.v false [jI q22]),(19,.v false [jI q25]),(20,.v false [jI q26]),(32,.v false [.bool (bif (y1==(0:Int)) then (!y2) else false)]),(34,.v false [.bool (y1 != (0:Int))]),(48,.v false [.bool y20.2.2]),(57,.v false [.bool (decide (q22<(y19.length:Int)))])],[some ⟨true,(jL a1)⟩,some ⟨true,[jI (0:Int),jI (0:Int),jI (0:Int),jI (0:Int),.row 3]⟩,some ⟨true,[jI a0,jI a1.1,jI a1.2.1,jI a1.2.2,.row 4]⟩],[some ⟨59,sM,a2,.ro⟩,some ⟨84,(.cons sV sI),a3,.ro⟩,some ⟨2,sI,y19,.own⟩,some ⟨2,sI,[],.own⟩,some ⟨2,sI,q23,.own⟩]⟩
def Gg (a0:Int) (a1:Int×Int×Int) (a2:List tM) (a3:List (tV×Int)) (a4 y1:Int) (y2:Bool) (y19:List Int) (y20:Int×Int×Bool) (q22:Int) (q23:List Int):Fr:=⟨94,[(0,.v false [jI a0]),(1,.v true (jL a1)),(2,.v false [.row 0]),(3,.v false [.row 1]),(4,.v false [jI a4]),(6,.v false [.box 0 0]),(10,.v false [.box 1 0]),(11,.v false [jI (0:Int)]),(12,.v false [jI y1]),(13,.v false [.row 2]),(16,.v false [.bool y20.2.2]),(17,.v false [.box 2 0]),(18,.v false [jI q22]),(32,.v false [.bool (bif (y1==(0:Int)) then (!y2) else false)]),(34,.v false [.bool (y1 != (0:Int))]),(48,.v false [.bool y20.2.2])],[some ⟨true,(jL a1)⟩,some ⟨true,[jI (0:Int),jI (0:Int),jI (0:Int),jI (0:Int),.row 3]⟩,some ⟨true,[jI a0,jI a1.1,jI a1.2.1,jI a1.2.2,.row 4]⟩],[some ⟨59,sM,a2,.ro⟩,some ⟨84,(.cons sV sI),a3,.ro⟩,some ⟨2,sI,y19,.own⟩,some ⟨2,sI,[],.own⟩,some ⟨2,sI,q23,.own⟩]⟩
def AkA:Code:=Ar Tryz.f169
def R7 (a0:List tV) (a1:Int×Int) (q3:Int):Fr:=⟨19,[(0,.v false [.row 0]),(1,.v true (jV a1)),(3,.v false [.box 0 0]),(4,.v false [jI (0:Int)]),(7,.v false [jI (a0.length:Int)]),(8,.v false [jI q3])],[some ⟨true,(jV a1)⟩],[some ⟨34,sV,a0,.ro⟩]⟩
def Anv:Code:=Ar Tryz.f80
def WO (a0:List tV) (a1:Int×Int) (q3:Int):Fr:=⟨18,[(0,.v false [.row 0]),(1,.v true (jV a1)),(3,.v false [.box 0 0]),(4,.v false [.bool false]),(5,.v false [jI q3])],[some ⟨true,(jV a1)⟩],[some ⟨34,sV,a0,.ro⟩]⟩
def Agj:Code:=Ar Tryz.f24
def R8 (a0:Int) (a1:Int×Int×Int) (a2:List tM) (a3:List (tV×Int)) (q13:Int) (q14:List (Option (List tV))) (q15:List (List tV)) (y1:Int) (q17:Bool) (q18:Int):Fr:=⟨65,[(0,.v false [jI a0]),(1,.v true (jL a1)),(2,.v false [.row 0]),(3,.v false [.row 1]),(5,.v false [.box 0 0]),(8,.v false [.row 2]),(9,.v false [jI (0:Int)]),(10,.v false [jI y1]),(11,.v false [.row 3]),(12,.v false [.row 4]),(13,.v false [jI q13]),(14,.v false [.bool q17]),(15,.v false [jI q18]),(22,.v false [.bool (y1 != (0:Int))]),(31,.v false [.bool (decide (q13<(q14.length:Int)))])],[some ⟨true,(jL a1)⟩],[some ⟨59,sM,a2,.ro⟩,some ⟨84,(.cons sV sI),a3,.ro⟩,some ⟨87,(.list 34 sV),[],.own⟩,some ⟨87,(.ol 34 sV),q14,.own⟩,some ⟨87,(.list 34 sV),q15,.own⟩]⟩
def Gh (a0:Int) (a1:Int×Int×Int) (a2:List tM) (a3:List (tV×Int)) (y1 q13:Int) (q14:List (Option (List tV))) (q15:List (List tV)):Fr:=⟨65,[(0,.v false [jI a0]),(1,.v true (jL a1)),(2,.v false [.row 0]),(3,.v false [.row 1]),(5,.v false [.box 0 0]),(8,.v false [.row 2]),(9,.v false [jI (0:Int)]),(10,.v false [jI y1]),(11,.v false [.row 3]),(12,.v false [.row 4]),(13,.v false [jI q13]),(22,.v false [.bool (y1 != (0:Int))])],[some ⟨true,(jL a1)⟩],[some ⟨59,sM,a2,.ro⟩,some ⟨84,(.cons sV sI),a3,.ro⟩,some ⟨87,(.list 34 sV),[],.own⟩,some ⟨87,(.ol 34 sV),q14,.own⟩,some ⟨87,(.list 34 sV),q15,.own⟩]⟩
def Hz:Code:=Ar Tryz.f175
def N7 (a0:(List Int)×Int×Int) (a1:Int) (a2:Int×Int×Int) (q9:Int) (q12:List tM) (q21 q22 q23:Int) (q24:List Int) (y1:Int) (y3:tV×Int) (y15:List tM) (y16:List Int) (y17:tV×Int) (q28:Int) (q29:List Int):Fr:=⟨88,[(0,.v false [.box 0 0]),(1,.v false [jI a1]),(2,.v true (jL a2)),(5,.v false [.box 1 0]),(6,.v false [.box 2 0]),(7,.v false [.box 3 0]),(8,.v false [.row 1]),(9,.v false [.row 2]),(10,.v false [jI q9]),(11,.v false [.row 3]),(12,.v false [.row 4]),(13,.v false [jI (w ((2:Int)+y17.2))]),(14,.v false [jI q21]),(15,.v false [jI q28]),(23,.v false [.bool (y1 != (0:Int))]),(29,.v false [.bool (decide (y3.2>(0:Int)))]),(35,.v false [.bool (decide (q9>(0:Int)))]),(60,.v false [.bool (decide (q21<(y16.length:Int)))])],[some ⟨true,[.row 0,jI q22,jI q23]⟩,some ⟨true,(jL a2)⟩,some ⟨true,[jI (0:Int),jI (0:Int),jI (0:Int),jI (0:Int),.row 5]⟩,some ⟨true,[jI a1,jI a2.1,jI a2.2.1,jI a2.2.2,.row 6]⟩],[some ⟨5,(.int .u8),a0.1,.ro⟩,some ⟨59,sM,y15,.own⟩,some ⟨59,sM,q12,.own⟩,some ⟨2,sI,y16,.own⟩,some ⟨2,sI,q24,.own⟩,some ⟨2,sI,[],.own⟩,some ⟨2,sI,q29,.own⟩]⟩
def Ju (a0:(List Int)×Int×Int) (a1:Int) (a2:Int×Int×Int) (q9:Int) (q12:List tM) (y1:Int) (y3:tV×Int) (y15:List tM) (y16:List Int) (y17:tV×Int) (q21 q22 q23:Int) (q24:List Int):Fr:=⟨88,[(0,.v false [.box 0 0]),(1,.v false [jI a1]),(2,.v true (jL a2)),(5,.v false [.box 1 0]),(6,.v false [.box 2 0]),(7,.v false [.box 3 0]),(8,.v false [.row 1]),(9,.v false [.row 2]),(10,.v false [jI q9]),(11,.v false [.row 3]),(12,.v false [.row 4]),(13,.v false [jI (w ((2:Int)+y17.2))]),(14,.v false [jI q21]),(23,.v false [.bool (y1 != (0:Int))]),(29,.v false [.bool (decide (y3.2>(0:Int)))]),(35,.v false [.bool (decide (q9>(0:Int)))])],[some ⟨true,[.row 0,jI q22,jI q23]⟩,some ⟨true,(jL a2)⟩,some ⟨true,[jI (0:Int),jI (0:Int),jI (0:Int),jI (0:Int),.row 5]⟩,some ⟨true,[jI a1,jI a2.1,jI a2.2.1,jI a2.2.2,.row 6]⟩],[some ⟨5,(.int .u8),a0.1,.ro⟩,some ⟨59,sM,y15,.own⟩,some ⟨59,sM,q12,.own⟩,some ⟨2,sI,y16,.own⟩,some ⟨2,sI,q24,.own⟩,some ⟨2,sI,[],.own⟩,some ⟨2,sI,[],.own⟩]⟩
def LV (a0:(List Int)×Int×Int) (a1:Int) (a2:Int×Int×Int) (y1:Int) (y2:tA×Int×Int) (y3:tV×Int) (q9 q10 q11:Int) (q12:List tM):Fr:=⟨88,[(0,.v false [.box 0 0]),(1,.v false [jI a1]),(2,.v true (jL a2)),(5,.v false [.box 1 0]),(6,.v false [.box 2 0]),(7,.v false [.box 3 0]),(8,.v false [.row 1]),(9,.v false [.row 2]),(10,.v false [jI q9]),(23,.v false [.bool (y1 != (0:Int))]),(29,.v false [.bool (decide (y3.2>(0:Int)))])],[some ⟨true,[.row 0,jI q10,jI q11]⟩,some ⟨true,(jL a2)⟩,some ⟨true,[jI (0:Int),jI (0:Int),jI (0:Int),jI (0:Int),.row 3]⟩,some ⟨true,[jI a1,jI a2.1,jI a2.2.1,jI a2.2.2,.row 4]⟩],[some ⟨5,(.int .u8),a0.1,.ro⟩,some ⟨59,sM,[y2],.own⟩,some ⟨59,sM,q12,.own⟩,some ⟨2,sI,[],.own⟩,some ⟨2,sI,[],.own⟩]⟩
def N8 (a0:(List Int)×Int×Int) (a1:Int) (a2:Int×Int×Int) (q39 q40 q41:Int) (q42 q43:List Int) (y1:Int) (y2:tA×Int×Int) (y3:tV×Int) (y30:List Int) (y31:tV×Int) (q47:Int) (q48:List Int):Fr:=⟨88,[(0,.v false [.box 0 0]),(1,.v false [jI a1]),(2,.v true (jL a2)),(5,.v false [.box 1 0]),(6,.v false [.box 2 0]),(7,.v false [.box 3 0]),(8,.v false [.row 1]),(11,.v false [.row 2]),(12,.v false [.row 3]),(13,.v false [jI (w ((2:Int)+y31.2))]),(14,.v false [jI q39]),(15,.v false [jI q47]),(23,.v false [.bool (y1 != (0:Int))]),(29,.v false [.bool (decide (y3.2>(0:Int)))]),(60,.v false [.bool (decide (q39<(y30.length:Int)))])],[some ⟨true,[.row 0,jI q40,jI q41]⟩,some ⟨true,(jL a2)⟩,some ⟨true,[jI (0:Int),jI (0:Int),jI (0:Int),jI (0:Int),.row 4]⟩,some ⟨true,[jI a1,jI a2.1,jI a2.2.1,jI a2.2.2,.row 5]⟩],[some ⟨5,(.int .u8),a0.1,.ro⟩,some ⟨59,sM,[y2],.own⟩,some ⟨2,sI,y30,.own⟩,some ⟨2,sI,q43,.own⟩,some ⟨2,sI,q42,.own⟩,some ⟨2,sI,q48,.own⟩]⟩
def Jv (a0:(List Int)×Int×Int) (a1:Int) (a2:Int×Int×Int) (y1:Int) (y2:tA×Int×Int) (y3:tV×Int) (y30:List Int) (y31:tV×Int) (q39 q40 q41:Int) (q42 q43:List Int):Fr:=⟨88,[(0,.v false [.box 0 0]),(1,.v false [jI a1]),(2,.v true (jL a2)),(5,.v false [.box 1 0]),(6,.v false [.box 2 0]),(7,.v false [.box 3 0]),(8,.v false [.row 1]),(11,.v false [.row 2]),(12,.v false [.row 3]),(13,.v false [jI (w ((2:Int)+y31.2))]),(14,.v false [jI q39]),(23,.v false [.bool (y1 != (0:Int))]),(29,.v false [.bool (decide (y3.2>(0:Int)))])],[some ⟨true,[.row 0,jI q40,jI q41]⟩,some ⟨true,(jL a2)⟩,some ⟨true,[jI (0:Int),jI (0:Int),jI (0:Int),jI (0:Int),.row 4]⟩,some ⟨true,[jI a1,jI a2.1,jI a2.2.1,jI a2.2.2,.row 5]⟩],[some ⟨5,(.int .u8),a0.1,.ro⟩,some ⟨59,sM,[y2],.own⟩,some ⟨2,sI,y30,.own⟩,some ⟨2,sI,q43,.own⟩,some ⟨2,sI,q42,.own⟩,some ⟨2,sI,[],.own⟩]⟩
def AkB:Code:=Ar Tryz.f253
def R9 (a0:List Int) (a1:(Int→Option Bool)) (q4:Int):Fr:=⟨19,[(0,.v false [.row 0]),(1,.v false [.fv1 sI .bool a1]),(4,.v false [jI (0:Int)]),(7,.v false [jI (a0.length:Int)]),(8,.v false [jI q4])],[],[some ⟨2,sI,a0,.ro⟩]⟩
def Anw:Code:=Ar Tryz.f40
def WP (a0:Int×tL×List Int) (a1:List (tV×Int)) (y1 y2:Bool) (q6:Int):Fr:=⟨34,[(0,.v true [jI a0.1,jI a0.2.1.1,jI a0.2.1.2.1,jI a0.2.1.2.2,.row 0]),(1,.v false [.row 1]),(2,.v false [.box 0 0]),(4,.v false [.bool false]),(5,.v false [jI (0:Int)]),(6,.v false [jI q6]),(7,.v false [.bool (!y1)]),(11,.v false [.bool (!y2)])],[some ⟨true,[jI a0.1,jI a0.2.1.1,jI a0.2.1.2.1,jI a0.2.1.2.2,.row 0]⟩],[some ⟨2,sI,a0.2.2,.ro⟩,some ⟨84,(.cons sV sI),a1,.ro⟩]⟩
def Anx:Code:=Ar Tryz.f72
def WQ (a0 a1:List Int) (q3:Int):Fr:=⟨26,[(0,.v false [.row 0]),(1,.v false [.row 1]),(4,.v false [.bool false]),(5,.v false [jI q3]),(10,.v false [.bool ((a0.length:Int) != (a1.length:Int))])],[],[some ⟨2,sI,a0,.ro⟩,some ⟨2,sI,a1,.ro⟩]⟩
def AkC:Code:=Ar Tryz.f110
def Sa (a0 a1:List tV) (q3:Int):Fr:=⟨26,[(0,.v false [.row 0]),(1,.v false [.row 1]),(4,.v false [.bool false]),(5,.v false [jI q3]),(10,.v false [.bool ((a0.length:Int) != (a1.length:Int))])],[],[some ⟨34,sV,a0,.ro⟩,some ⟨34,sV,a1,.ro⟩]⟩
def Anz:Code:=Ar Tryz.f41
def WR (a0 a1:List (List tV)) (q4:Int):Fr:=⟨27,[(0,.v false [.row 0]),(1,.v false [.row 1]),(4,.v false [.bool false]),(5,.v false [jI q4]),(10,.v false [.bool ((a0.length:Int) != (a1.length:Int))])],[],[some ⟨87,(.list 34 sV),a0,.ro⟩,some ⟨87,(.list 34 sV),a1,.ro⟩]⟩
def AkD:Code:=Ar Tryz.f178
def Sb (a0:Int×tL×List Int) (a1:tA×Int×Int) (y1:List tV) (q6:Int):Fr:=⟨28,[(0,.v true [jI a0.1,jI a0.2.1.1,jI a0.2.1.2.1,jI a0.2.1.2.2,.row 0]),(1,.v true (jM a1)),(2,.v false [.box 0 0]),(3,.v false [.box 1 0]),(4,.v false [.bool false]),(9,.v false [.row 1]),(10,.v false [jI (y1.length:Int)]),(11,.v false [jI q6])],[some ⟨true,[jI a0.1,jI a0.2.1.1,jI a0.2.1.2.1,jI a0.2.1.2.2,.row 0]⟩,some ⟨true,(jM a1)⟩],[some ⟨2,sI,a0.2.2,.ro⟩,some ⟨34,sV,y1,.own⟩]⟩
def AkE:Code:=Ar Tryz.f114
def Sc (a0:Int×tL×List Int) (a1:List tM) (q4:Int):Fr:=⟨18,[(0,.v true [jI a0.1,jI a0.2.1.1,jI a0.2.1.2.1,jI a0.2.1.2.2,.row 0]),(1,.v false [.row 1]),(2,.v false [.box 0 0]),(4,.v false [.bool false]),(7,.v false [.row 1]),(8,.v false [jI (a1.length:Int)]),(9,.v false [jI q4])],[some ⟨true,[jI a0.1,jI a0.2.1.1,jI a0.2.1.2.1,jI a0.2.1.2.2,.row 0]⟩],[some ⟨2,sI,a0.2.2,.ro⟩,some ⟨59,sM,a1,.ro⟩]⟩
def f6C:Code:=Ar Tryz.f6
def WS (a0:List Int) (y1:Bool) (y2:Int×tL×(List tM)×(List (tV×Int))×Int) (y3 y4:(Int×tL×List Int)×Int) (y5 y6:Int×Int×Int) (y7:(List (List tV))×Int) (y8:(List (List tV))×Int) (y9:(Int×tL×List Int)×List (tV×Int)) (y10 y11:Bool×Int) (y12 y13 y14 y15:Bool) (y16 y17:Bool×Int) (q21:Int):Fr:=⟨244,[(0,.v false [.row 0]),(2,.v false [.bool false]),(3,.v false [jI y2.1]),(4,.v false [.box 0 0]),(5,.v false [.row 1]),(6,.v false [.row 2]),(7,.v false [jI y2.2.2.2.2]),(8,.v false [.box 1 0]),(9,.v false [jI y3.2]),(10,.v false [.box 2 0]),(11,.v false [jI y4.2]),(12,.v false [jI y5.1]),(13,.v false [jI y5.2.1]),(14,.v false [jI y5.2.2]),(15,.v false [jI y6.1]),(16,.v false [jI y6.2.1]),(17,.v false [jI y6.2.2]),(18,.v false [.row 3]),(19,.v false [jI y7.2]),(20,.v false [.row 4]),(21,.v false [jI y8.2]),(22,.v false [.box 3 0]),(23,.v false [.row 5]),(24,.v false [.bool y10.1]),(25,.v false [jI y10.2]),(26,.v false [.bool y11.1]),(27,.v false [jI y11.2]),(28,.v false [.bool y16.1]),(29,.v false [jI y16.2]),(30,.v false [.bool y17.1]),(31,.v false [jI y17.2]),(32,.v false [jI q21]),(36,.v false [.bool y1]),(165,.v false [.bool (bif (bif (bif (bif (bif (bif (bif (bif (bif (y3.2 != y4.2) then true else (!y12)) then true else (y5.2.2 != y6.2.2)) then true else (y5.1 != y6.1)) then true else (y5.2.1 != y6.2.1)) then true else (y7.2 != y8.2)) then true else (!y13)) then true else (y10.2 != y11.2)) then true else (y10.1 != y11.1)) then true else (y14 != y15))]),(185,.v false [.bool (bif (y5.2.2==(0:Int)) then (bif ((y2.2.2.2.1.getD ((0:Int)+y5.1).toNat (((0:Int),(0:Int)),(0:Int))).2==(y2.2.2.2.1.getD ((0:Int)+y5.2.1).toNat (((0:Int),(0:Int)),(0:Int))).2) then true else (decide (y5.1≥y5.2.1))) else false)]),(187,.v false [.bool (y3.2==(5:Int))]),(191,.v false [.bool (y3.2 != (0:Int))])],[some ⟨true,(jL y2.2.1)⟩,some ⟨true,[jI y3.1.1,jI y3.1.2.1.1,jI y3.1.2.1.2.1,jI y3.1.2.1.2.2,.row 6]⟩,some ⟨true,[jI y4.1.1,jI y4.1.2.1.1,jI y4.1.2.1.2.1,jI y4.1.2.1.2.2,.row 7]⟩,some ⟨true,[jI y9.1.1,jI y9.1.2.1.1,jI y9.1.2.1.2.1,jI y9.1.2.1.2.2,.row 8]⟩],[some ⟨5,(.int .u8),a0,.ro⟩,some ⟨59,sM,y2.2.2.1,.own⟩,some ⟨84,(.cons sV sI),y2.2.2.2.1,.own⟩,some ⟨87,(.list 34 sV),y7.1,.own⟩,some ⟨87,(.list 34 sV),y8.1,.own⟩,some ⟨84,(.cons sV sI),y9.2,.own⟩,some ⟨2,sI,y3.1.2.2,.own⟩,some ⟨2,sI,y4.1.2.2,.own⟩,some ⟨2,sI,y9.1.2.2,.own⟩]⟩
variable (K:Nat)
include K
def Apj:Env:=eE K [] [0,2]
def AlJ (K:Nat) (a0:List Int):Option Bool :=
  some (decide ((a0.length:Int)>(4096:Int)))
def AnA:Mdl:=⟨[(.ro,(.list 5 (.int .u8)))],[.bool],fun x=>AlJ K x.1⟩
def AbI:Env:=eE K [] [0,2,3,4,15]
def LW (K:Nat) (a0:List Int) (L2:Int→Int→Option tV) (q3 q4:Int):Option tV :=
  (bif (bif (decide (q3<(a0.length:Int))) then (decide (q3<(64:Int))) else false) then (bif (decide (0≤q3)&&decide (q3<(a0.length:Int))) then L2 (w (q3+(1:Int))) ((w ((w (q4*(73:Int)))+(w (a0.getD ((0:Int)+q3).toNat (0:Int))))).tmod (2147483647:Int)) else none) else some ((0:Int),q4))
def UQ (a0:List Int) (n:Nat) (q3 q4:Int):Option tV :=
  AH (X:=Int×Int) (fun L x=>LW K a0 (fun v0 v1=>L (v0,v1)) x.1 x.2) n (q3,q4)
def AbJ (K:Nat) (a0:List Int) (I2:Int→Int→Option tV):Option tV :=
  I2 (0:Int) (93001:Int)
def Z1 (a0:List Int):Option tV :=
  AbJ K a0 (fun d0 d1=>UQ K a0 K d0 d1)
def AlK:PE:=⟨5,(.int .u8),sV,[],fun x=>Z1 K x.1⟩
def AlL (a0:List Int) (lr:LR tV):Ex→Fr→Option tV :=
  Aw (AbI K) 1 lr Anp [1,1,0,1,0] (AlI Tryz.f55 sV)
def AbK (a0:List Int) (lr:LR tV) (bq3 bq4:Int):Option tV :=
  lr (AF Anp [1,1,0,1,0,0]) (WB a0 bq3 bq4) (AlL K a0 lr)
def Apk:Env:=eE K [] [0,1,4,5,7,32,62]
def A8 (K:Nat) (a0:(List Int)×Int×Int) (a1:Int):Option (tV×Int) :=
  (bif (decide (a1≤(1:Int))) then some (a0.2,(0:Int)) else (bif (decide (a0.2.1<(a0.1.length:Int))) then (bif (decide (0≤a0.2.1)&&decide (a0.2.1<(a0.1.length:Int))) then (bif (bif (decide (a1≤(256:Int))) then (((w (a0.2.1+(1:Int))).tmod (2:Int))==(0:Int)) else false) then (bif (decide (0≤(w ((w (a0.2.1+(1:Int)))-(1:Int))))&&decide ((w ((w (a0.2.1+(1:Int)))-(1:Int)))<(a0.1.length:Int))) then (bif (a1 != 0) then some (((w (a0.2.1+(1:Int))),((w ((w (a0.2.2*(48271:Int)))+(67:Int))).tmod (2147483647:Int))),((w (a0.1.getD ((0:Int)+(w ((w (a0.2.1+(1:Int)))-(1:Int)))).toNat (0:Int))).tmod a1)) else none) else none) else (bif (a1 != 0) then some (((w (a0.2.1+(1:Int))),((w ((w (a0.2.2*(48271:Int)))+(67:Int))).tmod (2147483647:Int))),((w ((w (((w ((w (a0.2.2*(48271:Int)))+(67:Int))).tmod (2147483647:Int)).tdiv (37:Int)))+(w (a0.1.getD ((0:Int)+a0.2.1).toNat (0:Int))))).tmod a1)) else none)) else none) else (bif (a1 != 0) then some ((a0.2.1,((w ((w (a0.2.2*(48271:Int)))+(67:Int))).tmod (2147483647:Int))),((w (((w ((w (a0.2.2*(48271:Int)))+(67:Int))).tmod (2147483647:Int)).tdiv (37:Int))).tmod a1)) else none)))
def Ii:DY:=⟨5,(.int .u8),sV,[(.ro,sI)],[sI],fun x=>A8 K x.1 x.2.1⟩
def Apl:Env:=⟨[],tys,eqs,mts,K,[0,1,4],[(57,Ii K)],[],[],[],[],[],false⟩
def KB (a0:(List Int)×Int×Int) (a1:List Int):Option (tV×Int) :=
  (A8 K a0 (a1.length:Int)).bind fun y1=>(bif (decide (0≤y1.2)&&decide (y1.2<(a1.length:Int))) then some (y1.1,(a1.getD ((0:Int)+y1.2).toNat (0:Int))) else none)
def Z2:DY:=⟨5,(.int .u8),sV,[(.ro,(.list 2 sI))],[sI],fun x=>KB K x.1 x.2.1⟩
def AnB:Env:=⟨[],tys,eqs,mts,K,[0,2,5],[(57,Ii K),(59,Z2 K)],[],[],[],[],[],false⟩
def WT (a0:(List Int)×Int×Int):Option (tV×Int) :=
  (A8 K a0 (40:Int)).bind fun y1=>(bif (y1.2==(0:Int)) then (KB K (a0.1,y1.1) [(-1:Int),(2:Int)]).bind fun y2=>some y2 else (A8 K (a0.1,y1.1) (2:Int)).bind fun y3=>some y3)
def AkF:DY:=⟨5,(.int .u8),sV,[],[sI],fun x=>WT K x.1⟩
def AnC:Env:=⟨[],tys,eqs,mts,K,[0,2,3,17,18,24,35],[(57,Ii K),(59,Z2 K)],[],[],[],[],[],false⟩
def WU (a0:(List Int)×Int×Int):Option (tV×Int×Int×Int) :=
  (A8 K a0 (6:Int)).bind fun y1=>(A8 K (a0.1,y1.1) (6:Int)).bind fun y2=>(A8 K (a0.1,y2.1) (w ((1:Int)+y1.2))).bind fun y3=>(A8 K (a0.1,y3.1) (60:Int)).bind fun y4=>(bif (y4.2==(0:Int)) then (KB K (a0.1,y4.1) [(0:Int),(64:Int),(65:Int),(8:Int)]).bind fun y5=>some (y5.1,y5.2,y3.2,(w ((1:Int)+y2.2))) else (bif (y4.2==(1:Int)) then (KB K (a0.1,y4.1) [(-1:Int),(w ((1:Int)+y1.2)),(w ((w ((1:Int)+y1.2))-(1:Int)))]).bind fun y6=>some (y6.1,(w ((1:Int)+y1.2)),y6.2,(w ((1:Int)+y2.2))) else (bif (y4.2==(2:Int)) then (KB K (a0.1,y4.1) [(8:Int),(9:Int)]).bind fun y7=>some (y7.1,(8:Int),(3:Int),y7.2) else some (y4.1,(w ((1:Int)+y1.2)),y3.2,(w ((1:Int)+y2.2))))))
def AkG:DY:=⟨5,(.int .u8),sV,[],[sL],fun x=>WU K x.1⟩
def AnD:Env:=⟨[],tys,eqs,mts,K,[0,2,3,4,5,9,10,15,25,28],[(57,Ii K),(220,AkF K),(221,AkG K)],[],[],[],[],[],false⟩
def Sd (a0:(List Int)×Int×Int):Option (tV×Int×Int×Int×Int) :=
  (WT K a0).bind fun y1=>(A8 K (a0.1,y1.1) (5:Int)).bind fun y2=>(bif (y2.2==(0:Int)) then (WU K (a0.1,y2.1)).bind fun y3=>some (y3.1,y1.2,y3.2) else (bif (y2.2==(1:Int)) then (A8 K (a0.1,y2.1) (4:Int)).bind fun y4=>(A8 K (a0.1,y4.1) (4:Int)).bind fun y5=>some (y5.1,y1.2,(w ((1:Int)+y4.2)),(0:Int),(w ((1:Int)+y5.2))) else (bif (y2.2==(2:Int)) then (bif (y1.2==(0:Int)) then some (y2.1,y1.2,(2:Int),(1:Int),(1:Int)) else some (y2.1,y1.2,(3:Int),(1:Int),(1:Int))) else (A8 K (a0.1,y2.1) (4:Int)).bind fun y6=>some (y6.1,y1.2,(w ((1:Int)+y6.2)),(0:Int),(w ((1:Int)+y6.2))))))
def AbL:DY:=⟨5,(.int .u8),sV,[],[sI,sL],fun x=>Sd K x.1⟩
def AnE:Env:=eE K [] [0,2]
def Se (K:Nat) (a0:Int):Option Bool :=
  some (bif (a0==(0:Int)) then true else (a0==(1:Int)))
def AbM:Mdl:=⟨[(.ro,sI)],[.bool],fun x=>Se K x.1⟩
def AnF:Env:=eE K [] [0,1,2,6]
def Gi (K:Nat) (a0 a1 a2:Int):Option Bool :=
  some (bif (decide (a0≥a1)) then (decide (a0≤a2)) else false)
def N9:Mdl:=⟨[(.ro,sI),(.ro,sI),(.ro,sI)],[.bool],fun x=>Gi K x.1 x.2.1 x.2.2.1⟩
def AnG:Env:=eE K [(101,N9 K)] [0,1,2]
def WV (a0:Int×Int×Int):Option Bool :=
  (Gi K a0.1 (1:Int) (64:Int)).bind fun y1=>((bif y1 then Gi K a0.2.2 (1:Int) (64:Int) else some false)).bind fun y2=>((bif (bif y1 then y2 else false) then Gi K a0.2.1 (0:Int) (w (a0.1-(1:Int))) else some false)).bind fun y3=>some (bif (bif (bif y1 then y2 else false) then y3 else false) then (decide ((w (a0.1*a0.2.2))≤(64:Int))) else false)
def AkH:Mdl:=⟨[(.ro,sL)],[.bool],fun x=>WV K x.1⟩
def AnH:Env:=eE K [(200,AbM K),(201,AkH K)] [0,1,3,4,12]
def HA (a0:Int) (a1:Int×Int×Int):Option Int :=
  (Se K a0).bind fun y1=>((bif (!(!y1)) then WV K a1 else some false)).bind fun y2=>(bif (bif (!y1) then true else (!y2)) then some (1:Int) else some (0:Int))
def Ka:Mdl:=⟨[(.ro,sI),(.ro,sL)],[sI],fun x=>HA K x.1 x.2.1⟩
def AnI:Env:=eE K [] [0]
def Sf (K:Nat):Option tA :=
  some ((1:Int),(0:Int),(0:Int),(1:Int))
def AbN:Mdl:=⟨[],[sA],fun x=>Sf K ⟩
def AnJ:Env:=eE K [] [0,1,3,4,5,18]
def Oa (K:Nat) (a0:Int) (a1:Int×Int):Option Int :=
  (bif (a0==(1:Int)) then some (w ((w ((w (a1.1*a1.1))+(w (a1.2*a1.2))))+(w (a1.1*a1.2)))) else some (w ((w (a1.1*a1.1))+(w (a1.2*a1.2)))))
def AkI:Mdl:=⟨[(.ro,sI),(.ro,sV)],[sI],fun x=>Oa K x.1 x.2.1⟩
def AnK:Env:=eE K [] [0,1,2,3,4]
def LX (K:Nat) (a0 a1:Int×Int):Option tV :=
  some ((w (a0.1+a1.1)),(w (a0.2+a1.2)))
def WW:Mdl:=⟨[(.ro,sV),(.ro,sV)],[sV],fun x=>LX K x.1 x.2.1⟩
def AnL:Env:=eE K [(152,WW K),(271,AkI K)] [0,1,3,4,5,6]
def Si (a0:Int) (a1:Int×Int×Int×Int):Option Bool :=
  (Oa K a0 (a1.1,a1.2.2.1)).bind fun y1=>((bif (y1==(1:Int)) then Oa K a0 (a1.2.1,a1.2.2.2) else some (0:Int))).bind fun y2=>((bif (bif (y1==(1:Int)) then (y2==(1:Int)) else false) then LX K (a1.1,a1.2.2.1) (a1.2.1,a1.2.2.2) else some ((0:Int),(0:Int)))).bind fun y3=>((bif (bif (y1==(1:Int)) then (y2==(1:Int)) else false) then Oa K a0 y3 else some (0:Int))).bind fun y4=>some (bif (bif (y1==(1:Int)) then (y2==(1:Int)) else false) then (y4==(w ((2:Int)+a0))) else false)
def AbO:Mdl:=⟨[(.ro,sI),(.ro,sA)],[.bool],fun x=>Si K x.1 x.2.1⟩
def Ob:Env:=eE K [(249,AbO K)] [0,2,3,4,5,8,28]
def Agk (a0:Int) (L3:Int→(List tA)→Option (List tA)) (q4:Int) (q5:List tA):Option (List tA) :=
  (bif (decide (q4<(81:Int))) then (Si K a0 ((w ((w (q4.tdiv (27:Int)))-(1:Int))),(w (((w (q4.tdiv (9:Int))).tmod (3:Int))-(1:Int))),(w (((w (q4.tdiv (3:Int))).tmod (3:Int))-(1:Int))),(w ((q4.tmod (3:Int))-(1:Int))))).bind fun y6=>(bif y6 then (bif (Nat.ble (q5.length+[((w ((w (q4.tdiv (27:Int)))-(1:Int))),(w (((w (q4.tdiv (9:Int))).tmod (3:Int))-(1:Int))),(w (((w (q4.tdiv (3:Int))).tmod (3:Int))-(1:Int))),(w ((q4.tmod (3:Int))-(1:Int))))].length) (lim 32)) then L3 (w (q4+(1:Int))) (q5++[((w ((w (q4.tdiv (27:Int)))-(1:Int))),(w (((w (q4.tdiv (9:Int))).tmod (3:Int))-(1:Int))),(w (((w (q4.tdiv (3:Int))).tmod (3:Int))-(1:Int))),(w ((q4.tmod (3:Int))-(1:Int))))]) else none) else L3 (w (q4+(1:Int))) q5) else some q5)
def WX (a0:Int) (n:Nat) (q4:Int) (q5:List tA):Option (List tA) :=
  AH (X:=Int×List tA) (fun L x=>Agk K a0 (fun v0 v1=>L (v0,v1)) x.1 x.2) n (q4,q5)
def AbP (K:Nat) (a0:Int) (I3:Int→(List tA)→Option (List tA)):Option (List tA) :=
  I3 (0:Int) []
def Oc (a0:Int):Option (List tA) :=
  AbP K a0 (fun d0 d1=>WX K a0 K d0 d1)
def WY:Mdl:=⟨[(.ro,sI)],[(.list 57 sA)],fun x=>Oc K x.1⟩
def Agl (a0:Int) (lr:LR (List tA)):Ex→Fr→Option (List tA) :=
  Aw (Ob K) 0 lr Akh [1,1,0,1,0] (fM (Ob K) Tryz.f246 (WY K) (a0,()))
def WZ (a0:Int) (lr:LR (List tA)) (bq4:Int) (bq5:List tA):Option (List tA) :=
  lr (AF Akh [1,1,0,1,0,0]) (RF a0 bq4 bq5) (Agl K a0 lr)
def AnM:Env:=eE K [] [0,1,2]
def AbQ (K:Nat) (a0:Int×Int×Int):Option (List tV) :=
  some [(a0.1,(0:Int)),a0.2]
def AkJ:Mdl:=⟨[(.ro,sL)],[(.list 34 sV)],fun x=>AbQ K x.1⟩
def AnN:Env:=eE K [] [0,1,2,3,4]
def LY (K:Nat) (a0:Int×Int×Int×Int) (a1:Int×Int):Option tV :=
  some ((w ((w (a0.1*a1.1))+(w (a0.2.1*a1.2)))),(w ((w (a0.2.2.1*a1.1))+(w (a0.2.2.2*a1.2)))))
def W0:Mdl:=⟨[(.ro,sA),(.ro,sV)],[sV],fun x=>LY K x.1 x.2.1⟩
omit K
def AkK (K:Nat) (rec:Int→Int→Option Int):Env:=⟨[(272,⟨[(.ro,sI),(.ro,sI)],[sI],fun x=>rec x.1 x.2.1⟩)],tys,eqs,mts,K,[0,1,4,6],[],[],[],[],[],[],false⟩
def Jw (K:Nat) (rec:Int→Int→Option Int) (a0 a1:Int):Option Int :=
  (bif (a1==(0:Int)) then some (if (w (0-a0))>a0 then (w (0-a0)) else a0) else (bif (a1 != 0) then (rec a1 (a0.tmod a1)).bind fun y1=>some y1 else none))
def Kb (K:Nat):Nat→Int→Int→Option Int
  | 0=>fun _ _=>none
  | n+1=>fun a0 a1=>Jw K (Kb K n) a0 a1
def W1 (K:Nat) (a0 a1:Int):Option Int:=Kb K K a0 a1
def AkL (K:Nat):Mdl:=⟨[(.ro,sI),(.ro,sI)],[sI],fun x=>W1 K x.1 x.2.1⟩
include K
def AnO:Env:=eE K [] [0,1,4,9]
def HB (K:Nat) (a0 a1:Int):Option Int :=
  (bif (a1 != 0) then (bif (decide ((a0.tmod a1)<(0:Int))) then some (w ((a0.tmod a1)+a1)) else some (a0.tmod a1)) else none)
def AbR:Mdl:=⟨[(.ro,sI),(.ro,sI)],[sI],fun x=>HB K x.1 x.2.1⟩
def AnP:Env:=eE K [] [0,1,2,4]
def AbS (K:Nat) (a0:Int×Int) (a1:Int):Option tV :=
  some ((w (a1*a0.1)),(w (a1*a0.2)))
def AkM:Mdl:=⟨[(.ro,sV),(.ro,sI)],[sV],fun x=>AbS K x.1 x.2.1⟩
def Ij:Env:=eE K [(165,AbR K),(272,AkL K),(273,AkM K)] [0,2,3,4,5,6,7,8,13,22,50,58,62]
def LZ (a0:List tV) (q11 q12:Int) (L10 L15:Int→Int→Int→Int→Option tL) (q16 q17 q18 q19:Int):Option tL :=
  (bif (q19 != (0:Int)) then (bif (q19 != 0) then L15 q18 q19 (w (q16-(w ((w (q17.tdiv q19))*q18)))) (w (q17-(w ((w (q17.tdiv q19))*q19)))) else none) else (W1 K q11 q18).bind fun y20=>(bif (decide (y20>(0:Int))) then (HB K q16 y20).bind fun y21=>L10 y20 (w (q12+(1:Int))) y21 q17 else L10 y20 (w (q12+(1:Int))) q16 q17))
def EI (a0:List tV) (q11 q12:Int) (L10:Int→Int→Int→Int→Option tL) (n:Nat) (q16 q17 q18 q19:Int):Option tL :=
  AH (X:=Int×Int×Int×Int) (fun L x=>LZ K a0 q11 q12 L10 (fun v0 v1 v2 v3=>L (v0,v1,v2,v3)) x.1 x.2.1 x.2.2.1 x.2.2.2) n (q16,q17,q18,q19)
def Gk (a0:List tV) (I15:Int→Int→Int→Int→Int→Int→Option tL) (L10:Int→Int→Int→Int→Option tL) (q11 q12 q13 q14:Int):Option tL :=
  (bif (decide (q12<(a0.length:Int))) then (bif (decide (0≤q12)&&decide (q12<(a0.length:Int))) then I15 q11 q12 q13 q14 ((a0.getD ((0:Int)+q12).toNat ((0:Int),(0:Int))).1) ((a0.getD ((0:Int)+q12).toNat ((0:Int),(0:Int))).2) else none) else (bif (decide (q14<(0:Int))) then (AbS K (q13,q14) (-1:Int)).bind fun y22=>(bif (decide (q11>(0:Int))) then (HB K y22.1 q11).bind fun y23=>some (q11,y23,y22.2) else some (q11,y22)) else (bif (decide (q11>(0:Int))) then (HB K q13 q11).bind fun y24=>some (q11,y24,q14) else some (q11,q13,q14))))
def L0 (a0:List tV) (n:Nat) (q11 q12 q13 q14:Int):Option tL :=
  AH (X:=Int×Int×Int×Int) (fun L x=>(fun L10=>Gk K a0 (fun c0 c1 d0 d1 d2 d3=>EI K a0 c0 c1 L10 K d0 d1 d2 d3) L10 x.1 x.2.1 x.2.2.1 x.2.2.2) (fun v0 v1 v2 v3=>L (v0,v1,v2,v3))) n (q11,q12,q13,q14)
def UR (K:Nat) (a0:List tV) (I10:Int→Int→Int→Int→Option tL):Option tL :=
  I10 (0:Int) (0:Int) (0:Int) (0:Int)
def Od (a0:List tV):Option tL :=
  UR K a0 (fun d0 d1 d2 d3=>L0 K a0 K d0 d1 d2 d3)
def W3:Mdl:=⟨[(.ro,(.list 34 sV))],[sL],fun x=>Od K x.1⟩
def Sj (a0:List tV) (lr:LR tL):Ex→Fr→Option tL :=
  Aw (Ij K) 1 lr WC [1,1,0,1,0] (fM (Ij K) Tryz.f251 (W3 K) (a0,()))
def Sk (a0:List tV) (lr:LR tL) (bq11 bq12 bq13 bq14:Int):Option tL :=
  lr (AF WC [1,1,0,1,0,0]) (EF a0 bq11 bq12 bq13 bq14) (Sj K a0 lr)
def AbT (a0:List tV) (F10:Fr→Option tL) (bq11 bq12 bq13 bq14:Int) (lr:LR tL):Ex→Fr→Option tL :=
  Aw (Ij K) 1 lr (AF WC [1,1,0,1,0,0]) [1,0,0,1,0,0] (Da 1 (EF a0 bq11 bq12 bq13 bq14) F10 (Sj K a0 lr))
def Sl (a0:List tV) (F10:Fr→Option tL) (bq11 bq12 bq13 bq14:Int) (lr:LR tL) (q11 q12 bq16 bq17 bq18 bq19:Int):Option tL :=
  lr (AF WC [1,1,0,1,0,0,1,0,0,1,0,0,0]) (N1 a0 q11 q12 bq16 bq17 bq18 bq19) (AbT K a0 F10 bq11 bq12 bq13 bq14 lr)
def AnQ:Env:=eE K [(153,W0 K),(250,AkJ K),(251,W3 K)] [0,1,2,3,4,5]
def Sn (a0:Int×Int×Int×Int) (a1:Int×Int×Int):Option tL :=
  (AbQ K a1).bind fun y1=>(bif (decide (0≤(0:Int))&&decide ((0:Int)<(y1.length:Int))) then (LY K a0 (y1.getD ((0:Int)+(0:Int)).toNat ((0:Int),(0:Int)))).bind fun y2=>(bif (decide (0≤(1:Int))&&decide ((1:Int)<(y1.length:Int))) then (LY K a0 (y1.getD ((0:Int)+(1:Int)).toNat ((0:Int),(0:Int)))).bind fun y3=>(Od K [y2,y3]).bind fun y4=>some y4 else none) else none)
def AbU:Mdl:=⟨[(.ro,sA),(.ro,sL)],[sL],fun x=>Sn K x.1 x.2.1⟩
def Oe:Env:=eE K [(206,AbU K),(246,WY K)] [0,1,3,4,5,6,7,14,24]
def KO (a0:Int) (a1:Int×Int×Int) (y1:List tA) (L4:Int→(List tA)→Option (List tA)) (q5:Int) (q6:List tA):Option (List tA) :=
  (bif (decide (q5<(y1.length:Int))) then (bif (decide (0≤q5)&&decide (q5<(y1.length:Int))) then (Sn K ((y1.getD ((0:Int)+q5).toNat zA).1,((y1.getD ((0:Int)+q5).toNat zA).2).1,(((y1.getD ((0:Int)+q5).toNat zA).2).2)) a1).bind fun y7=>(bif ((y7.1==a1.1)&&((y7.2.1==a1.2.1)&&(y7.2.2==a1.2.2))) then (bif (decide (0≤q5)&&decide (q5<(y1.length:Int))) then (bif (Nat.ble (q6.length+[((y1.getD ((0:Int)+q5).toNat zA).1,((y1.getD ((0:Int)+q5).toNat zA).2).1,(((y1.getD ((0:Int)+q5).toNat zA).2).2))].length) (lim 32)) then L4 (w (q5+(1:Int))) (q6++[((y1.getD ((0:Int)+q5).toNat zA).1,((y1.getD ((0:Int)+q5).toNat zA).2).1,(((y1.getD ((0:Int)+q5).toNat zA).2).2))]) else none) else none) else L4 (w (q5+(1:Int))) q6) else none) else some q6)
def PX (a0:Int) (a1:Int×Int×Int) (y1:List tA) (n:Nat) (q5:Int) (q6:List tA):Option (List tA) :=
  AH (X:=Int×List tA) (fun L x=>KO K a0 a1 y1 (fun v0 v1=>L (v0,v1)) x.1 x.2) n (q5,q6)
def US (a0:Int) (a1:Int×Int×Int) (I4:(List tA)→Int→(List tA)→Option (List tA)):Option (List tA) :=
  (Oc K a0).bind fun y1=>I4 y1 (0:Int) []
def So (a0:Int) (a1:Int×Int×Int):Option (List tA) :=
  US K a0 a1 (fun c0 d0 d1=>PX K a0 a1 c0 K d0 d1)
def W4:Mdl:=⟨[(.ro,sI),(.ro,sL)],[(.list 57 sA)],fun x=>So K x.1 x.2.1⟩
def Agm (a0:Int) (a1:Int×Int×Int) (lr:LR (List tA)):Ex→Fr→Option (List tA) :=
  Aw (Oe K) 0 lr Aki [1,1,1,0,1,0] (fM (Oe K) Tryz.f202 (W4 K) (a0,a1,()))
def W5 (a0:Int) (a1:Int×Int×Int) (lr:LR (List tA)) (y1:List tA) (bq5:Int) (bq6:List tA):Option (List tA) :=
  lr (AF Aki [1,1,1,0,1,0,0]) (RG a0 a1 y1 bq5 bq6) (Agm K a0 a1 lr)
def AnR:Env:=⟨[(138,Ka K),(141,AbN K),(202,W4 K)],tys,eqs,mts,K,[0,1,2,5,6,7,8,13],[(57,Ii K)],[],[],[],[],[],false⟩
def Sp (a0:(List Int)×Int×Int) (a1:Int) (a2:Int×Int×Int):Option (tV×tA×Int×Int) :=
  (Sf K).bind fun y1=>(HA K a1 a2).bind fun y2=>(bif (y2==(0:Int)) then (So K a1 a2).bind fun y3=>(A8 K a0 (y3.length:Int)).bind fun y4=>(bif (decide (0≤y4.2)&&decide (y4.2<(y3.length:Int))) then (A8 K (a0.1,y4.1) (9:Int)).bind fun y5=>(A8 K (a0.1,y5.1) (9:Int)).bind fun y6=>some (y6.1,((y3.getD ((0:Int)+y4.2).toNat zA).1,((y3.getD ((0:Int)+y4.2).toNat zA).2).1,(((y3.getD ((0:Int)+y4.2).toNat zA).2).2)),(w (y5.2-(4:Int))),(w (y6.2-(4:Int)))) else none) else (A8 K a0 (9:Int)).bind fun y7=>(A8 K (a0.1,y7.1) (9:Int)).bind fun y8=>some (y8.1,y1,(w (y7.2-(4:Int))),(w (y8.2-(4:Int)))))
def AbV:DY:=⟨5,(.int .u8),sV,[(.ro,sI),(.ro,sL)],[sM],fun x=>Sp K x.1 x.2.1 x.2.2.1⟩
def Apm:Env:=eE K [(165,AbR K)] [0,1,2,3,4,5,6]
def Sq (a0:Int×Int×Int) (a1:Int×Int):Option tV :=
  (HB K a1.2 a0.2.2).bind fun y1=>(bif (a0.2.2 != 0) then (HB K (w (a1.1-(w ((w ((w (a1.2-y1)).tdiv a0.2.2))*a0.2.1)))) a0.1).bind fun y2=>some (y2,y1) else none)
def AbW:Mdl:=⟨[(.ro,sL),(.ro,sV)],[sV],fun x=>Sq K x.1 x.2.1⟩
def AnS:Env:=eE K [(81,AbW K)] [0,1,2,3,4]
def Kc (a0:Int×Int×Int) (a1:tA×Int×Int):Option tM :=
  (Sq K a0 a1.2).bind fun y1=>some (a1.1,y1)
def Sr:Mdl:=⟨[(.ro,sL),(.ro,sM)],[sM],fun x=>Kc K x.1 x.2.1⟩
def Apn:Env:=eE K [(141,AbN K)] [0]
def Ss:Option tM :=
  (Sf K).bind fun y1=>some (y1,(0:Int),(0:Int))
def Agn:Mdl:=⟨[],[sM],fun x=>Ss K ⟩
def AnT:Env:=eE K [] [0,1,2,3,4]
def AbX (K:Nat) (a0 a1:Int×Int×Int×Int):Option tA :=
  some ((w ((w (a0.1*a1.1))+(w (a0.2.1*a1.2.2.1)))),(w ((w (a0.1*a1.2.1))+(w (a0.2.1*a1.2.2.2)))),(w ((w (a0.2.2.1*a1.1))+(w (a0.2.2.2*a1.2.2.1)))),(w ((w (a0.2.2.1*a1.2.1))+(w (a0.2.2.2*a1.2.2.2)))))
def AkN:Mdl:=⟨[(.ro,sA),(.ro,sA)],[sA],fun x=>AbX K x.1 x.2.1⟩
def AnU:Env:=eE K [(152,WW K),(153,W0 K),(209,AkN K)] [0,1,2,3,4]
def St (a0 a1:tA×Int×Int):Option tM :=
  (AbX K a0.1 a1.1).bind fun y1=>(LY K a0.1 a1.2).bind fun y2=>(LX K y2 a0.2).bind fun y3=>some (y1,y3)
def AbY:Mdl:=⟨[(.ro,sM),(.ro,sM)],[sM],fun x=>St K x.1 x.2.1⟩
def AnV:Env:=eE K [] [0,1,2]
def W6 (K:Nat) (a0:Int×Int×Int×Int):Option (List Int) :=
  some [a0.1,a0.2.1,a0.2.2.1,a0.2.2.2]
def AkO:Mdl:=⟨[(.ro,sA)],[(.list 2 sI)],fun x=>W6 K x.1⟩
def Z3:Env:=eE K [] [0,1,4,5,15,26]
def UT (K:Nat) (a0 a1:List Int) (L2:Int→Option Bool) (q3:Int):Option Bool :=
  (bif (bif (decide (q3<(a0.length:Int))) then (decide (q3<(a1.length:Int))) else false) then (bif (decide (0≤q3)&&decide (q3<(a0.length:Int))) then (bif (decide (0≤q3)&&decide (q3<(a1.length:Int))) then (bif ((a0.getD ((0:Int)+q3).toNat (0:Int)) != (a1.getD ((0:Int)+q3).toNat (0:Int))) then (bif (decide (0≤q3)&&decide (q3<(a0.length:Int))) then (bif (decide (0≤q3)&&decide (q3<(a1.length:Int))) then some (decide ((a0.getD ((0:Int)+q3).toNat (0:Int))<(a1.getD ((0:Int)+q3).toNat (0:Int)))) else none) else none) else L2 (w (q3+(1:Int)))) else none) else none) else some (decide ((a0.length:Int)<(a1.length:Int))))
def L1 (a0 a1:List Int) (n:Nat) (q3:Int):Option Bool :=
  AH (X:=Int) (fun L x=>UT K a0 a1 (fun v0=>L v0) x) n q3
def AbZ (K:Nat) (a0 a1:List Int) (I2:Int→Option Bool):Option Bool :=
  I2 (0:Int)
def Ago (a0 a1:List Int):Option Bool :=
  AbZ K a0 a1 (fun d0=>L1 K a0 a1 K d0)
def Agp:Mdl:=⟨[(.ro,(.list 2 sI)),(.ro,(.list 2 sI))],[.bool],fun x=>Ago K x.1 x.2.1⟩
def AlM (a0 a1:List Int) (lr:LR Bool):Ex→Fr→Option Bool :=
  Aw (Z3 K) 2 lr Anq [1,0,1,0] (fM (Z3 K) Tryz.f71 (Agp K) (a0,a1,()))
def Ab0 (a0 a1:List Int) (lr:LR Bool) (bq3:Int):Option Bool :=
  lr (AF Anq [1,0,1,0,0]) (WD a0 a1 bq3) (AlM K a0 a1 lr)
def AnW:Env:=eE K [(71,Agp K),(252,AkO K)] [0,1,2,3,4]
def Ab1 (a0 a1:Int×Int×Int×Int):Option Bool :=
  (W6 K a0).bind fun y1=>(W6 K a1).bind fun y2=>(Ago K y1 y2).bind fun y3=>some y3
def AkP:Mdl:=⟨[(.ro,sA),(.ro,sA)],[.bool],fun x=>Ab1 K x.1 x.2.1⟩
def AnX:Env:=eE K [] [0,1,2,3,4]
def Su (K:Nat) (a0 a1:Int×Int):Option Bool :=
  some (bif (decide (a0.1<a1.1)) then true else (bif (a0.1==a1.1) then (decide (a0.2<a1.2)) else false))
def Ab2:Mdl:=⟨[(.ro,sV),(.ro,sV)],[.bool],fun x=>Su K x.1 x.2.1⟩
def AnY:Env:=eE K [(207,AkP K),(208,Ab2 K)] [0,1,2,3,4,9]
def Sw (a0 a1:tA×Int×Int):Option Bool :=
  (bif (!((a0.1.1==a1.1.1)&&((a0.1.2.1==a1.1.2.1)&&((a0.1.2.2.1==a1.1.2.2.1)&&(a0.1.2.2.2==a1.1.2.2.2))))) then (Ab1 K a0.1 a1.1).bind fun y1=>some y1 else (Su K a0.2 a1.2).bind fun y2=>some y2)
def Ab3:Mdl:=⟨[(.ro,sM),(.ro,sM)],[.bool],fun x=>Sw K x.1 x.2.1⟩
def Of:Env:=eE K [(149,Ab3 K)] [0,1,3,4,5,6,7,12,22]
def PY (a0:List tM) (a1:tA×Int×Int) (L6:Int→Int→Option Int) (q7 q8:Int):Option Int :=
  (bif (decide (q7<q8)) then (bif (decide (0≤(w ((w (q7+q8)).tdiv (2:Int))))&&decide ((w ((w (q7+q8)).tdiv (2:Int)))<(a0.length:Int))) then (Sw K ((((a0.getD ((0:Int)+(w ((w (q7+q8)).tdiv (2:Int)))).toNat zM).1).1,(((a0.getD ((0:Int)+(w ((w (q7+q8)).tdiv (2:Int)))).toNat zM).1).2).1,((((a0.getD ((0:Int)+(w ((w (q7+q8)).tdiv (2:Int)))).toNat zM).1).2).2)),((a0.getD ((0:Int)+(w ((w (q7+q8)).tdiv (2:Int)))).toNat zM).2)) a1).bind fun y9=>(bif y9 then L6 (w ((w ((w (q7+q8)).tdiv (2:Int)))+(1:Int))) q8 else L6 q7 (w ((w (q7+q8)).tdiv (2:Int)))) else none) else some q7)
def G3 (a0:List tM) (a1:tA×Int×Int) (n:Nat) (q7 q8:Int):Option Int :=
  AH (X:=Int×Int) (fun L x=>PY K a0 a1 (fun v0 v1=>L (v0,v1)) x.1 x.2) n (q7,q8)
def PZ (K:Nat) (a0:List tM) (a1:tA×Int×Int) (I6:Int→Int→Option Int):Option Int :=
  I6 (0:Int) (a0.length:Int)
def Og (a0:List tM) (a1:tA×Int×Int):Option Int :=
  PZ K a0 a1 (fun d0 d1=>G3 K a0 a1 K d0 d1)
def Sx:Mdl:=⟨[(.ro,(.list 59 sM)),(.ro,sM)],[sI],fun x=>Og K x.1 x.2.1⟩
def Agq (a0:List tM) (a1:tA×Int×Int) (lr:LR Int):Ex→Fr→Option Int :=
  Aw (Of K) 1 lr Akj [1,1,0,0] (fM (Of K) Tryz.f181 (Sx K) (a0,a1,()))
def W7 (a0:List tM) (a1:tA×Int×Int) (lr:LR Int) (bq7 bq8:Int):Option Int :=
  lr (AF Akj [1,1,0,0,0]) (RH a0 a1 bq7 bq8) (Agq K a0 a1 lr)
def AnZ:Env:=eE K [(181,Sx K)] [0,1,3,4,5]
def Oh (a0:List tM) (a1:tA×Int×Int):Option Bool :=
  (Og K a0 a1).bind fun y1=>(bif ((decide (0≤y1)&&decide (y1<(a0.length:Int)))||(!(decide (y1<(a0.length:Int))))) then some (bif (decide (y1<(a0.length:Int))) then ((((a0.getD ((0:Int)+y1).toNat zM).1).1==a1.1.1)&&(((((a0.getD ((0:Int)+y1).toNat zM).1).2).1==a1.1.2.1)&&((((((a0.getD ((0:Int)+y1).toNat zM).1).2).2).1==a1.1.2.2.1)&&((((((a0.getD ((0:Int)+y1).toNat zM).1).2).2).2==a1.1.2.2.2)&&((((a0.getD ((0:Int)+y1).toNat zM).2).1==a1.2.1)&&(((a0.getD ((0:Int)+y1).toNat zM).2).2==a1.2.2)))))) else false) else none)
def Ab4:Mdl:=⟨[(.ro,(.list 59 sM)),(.ro,sM)],[.bool],fun x=>Oh K x.1 x.2.1⟩
def An0:Env:=eE K [(181,Sx K)] [0,1,3,4,5,20]
def W8 (a0:List tM) (a1:tA×Int×Int):Option (List tM) :=
  (Og K a0 a1).bind fun y1=>(bif ((decide (0≤y1)&&decide (y1<(a0.length:Int)))||(!(decide (y1<(a0.length:Int))))) then (bif (bif (decide (y1<(a0.length:Int))) then ((((a0.getD ((0:Int)+y1).toNat zM).1).1==a1.1.1)&&(((((a0.getD ((0:Int)+y1).toNat zM).1).2).1==a1.1.2.1)&&((((((a0.getD ((0:Int)+y1).toNat zM).1).2).2).1==a1.1.2.2.1)&&((((((a0.getD ((0:Int)+y1).toNat zM).1).2).2).2==a1.1.2.2.2)&&((((a0.getD ((0:Int)+y1).toNat zM).2).1==a1.2.1)&&(((a0.getD ((0:Int)+y1).toNat zM).2).2==a1.2.2)))))) else false) then some a0 else (bif (decide (0≤(0:Int))&&decide ((0:Int)≤y1)&&decide (y1≤(a0.length:Int))) then (bif (Nat.ble (0+((a0.take ((0:Int)+y1).toNat).drop 0).length) (lim 48)) then (bif (Nat.ble (([]++((a0.take ((0:Int)+y1).toNat).drop 0)).length+[a1].length) (lim 48)) then (bif (decide (0≤y1)&&decide (y1≤(a0.length:Int))&&decide ((a0.length:Int)≤(a0.length:Int))) then (bif (Nat.ble ((([]++((a0.take ((0:Int)+y1).toNat).drop 0))++[a1]).length+((a0.take ((0:Int)+(a0.length:Int)).toNat).drop ((0:Int)+y1).toNat).length) (lim 48)) then some ((([]++((a0.take ((0:Int)+y1).toNat).drop 0))++[a1])++((a0.take ((0:Int)+(a0.length:Int)).toNat).drop ((0:Int)+y1).toNat)) else none) else none) else none) else none) else none)) else none)
def AkQ:Mdl:=⟨[(.mv,(.list 59 sM)),(.ro,sM)],[(.list 59 sM)],fun x=>W8 K x.1 x.2.1⟩
def Ik:Env:=eE K [(58,Agn K),(148,Sr K),(150,Ab4 K),(151,AbY K),(182,AkQ K)] [0,1,2,4,5,6,7,8,9,17,23,40]
def Gl (a0:Int×Int×Int) (a1:List tM) (q18:Int) (q20:List tM) (L17 L21:Int→(List tM)→(List tM)→Option (List tM)) (q22:Int) (q23 q24:List tM):Option (List tM) :=
  (bif (decide (q22<(a1.length:Int))) then (bif (decide (0≤q22)&&decide (q22<(a1.length:Int))) then (bif (decide (0≤q18)&&decide (q18<(q24.length:Int))) then (St K ((((a1.getD ((0:Int)+q22).toNat zM).1).1,(((a1.getD ((0:Int)+q22).toNat zM).1).2).1,((((a1.getD ((0:Int)+q22).toNat zM).1).2).2)),((a1.getD ((0:Int)+q22).toNat zM).2)) ((((q24.getD ((0:Int)+q18).toNat zM).1).1,(((q24.getD ((0:Int)+q18).toNat zM).1).2).1,((((q24.getD ((0:Int)+q18).toNat zM).1).2).2)),((q24.getD ((0:Int)+q18).toNat zM).2))).bind fun y25=>(Kc K a0 y25).bind fun y26=>(Oh K q23 y26).bind fun y27=>(bif (!y27) then (W8 K q23 y26).bind fun y28=>(bif (Nat.ble (q24.length+[y26].length) (lim 48)) then L21 (w (q22+(1:Int))) y28 (q24++[y26]) else none) else L21 (w (q22+(1:Int))) q23 q24) else none) else none) else L17 (w (q18+(1:Int))) q23 q24)
def Dm (a0:Int×Int×Int) (a1:List tM) (q18:Int) (q20:List tM) (L17:Int→(List tM)→(List tM)→Option (List tM)) (n:Nat) (q22:Int) (q23 q24:List tM):Option (List tM) :=
  AH (X:=Int×List tM×List tM) (fun L x=>Gl K a0 a1 q18 q20 L17 (fun v0 v1 v2=>L (v0,v1,v2)) x.1 x.2.1 x.2.2) n (q22,q23,q24)
def EJ (K:Nat) (a0:Int×Int×Int) (a1:List tM) (I21:Int→(List tM)→Int→(List tM)→(List tM)→Option (List tM)) (L17:Int→(List tM)→(List tM)→Option (List tM)) (q18:Int) (q19 q20:List tM):Option (List tM) :=
  (bif (decide (q18<(q20.length:Int))) then I21 q18 q20 (0:Int) q19 q20 else some q19)
def B0 (a0:Int×Int×Int) (a1:List tM) (n:Nat) (q18:Int) (q19 q20:List tM):Option (List tM) :=
  AH (X:=Int×List tM×List tM) (fun L x=>(fun L17=>EJ K a0 a1 (fun c0 c1 d0 d1 d2=>Dm K a0 a1 c0 c1 L17 K d0 d1 d2) L17 x.1 x.2.1 x.2.2) (fun v0 v1 v2=>L (v0,v1,v2))) n (q18,q19,q20)
def UU (a0:Int×Int×Int) (a1:List tM) (I17:Int→(List tM)→(List tM)→Option (List tM)):Option (List tM) :=
  (Ss K).bind fun y1=>(Ss K).bind fun y2=>I17 (0:Int) [y1] [y2]
def Gm (a0:Int×Int×Int) (a1:List tM):Option (List tM) :=
  UU K a0 a1 (fun d0 d1 d2=>B0 K a0 a1 K d0 d1 d2)
def Sy:Mdl:=⟨[(.ro,sL),(.ro,(.list 59 sM))],[(.list 59 sM)],fun x=>Gm K x.1 x.2.1⟩
def Sz (a0:Int×Int×Int) (a1:List tM) (lr:LR (List tM)):Ex→Fr→Option (List tM) :=
  Aw (Ik K) 1 lr WE [1,1,1,0,1,0] (fM (Ik K) Tryz.f199 (Sy K) (a0,a1,()))
def SA (a0:Int×Int×Int) (a1:List tM) (lr:LR (List tM)) (bq18:Int) (bq19 bq20:List tM):Option (List tM) :=
  lr (AF WE [1,1,1,0,1,0,0]) (EG a0 a1 bq18 bq19 bq20) (Sz K a0 a1 lr)
def Ab5 (a0:Int×Int×Int) (a1:List tM) (F17:Fr→Option (List tM)) (bq18:Int) (bq19 bq20:List tM) (lr:LR (List tM)):Ex→Fr→Option (List tM) :=
  Aw (Ik K) 1 lr (AF WE [1,1,1,0,1,0,0]) [1,0,0,1,0] (Da 1 (EG a0 a1 bq18 bq19 bq20) F17 (Sz K a0 a1 lr))
def SB (a0:Int×Int×Int) (a1:List tM) (F17:Fr→Option (List tM)) (bq18:Int) (bq19 bq20:List tM) (lr:LR (List tM)) (q18:Int) (q20:List tM) (bq22:Int) (bq23 bq24:List tM):Option (List tM) :=
  lr (AF WE [1,1,1,0,1,0,0,1,0,0,1,0,0]) (N2 a0 a1 q18 q20 bq22 bq23 bq24) (Ab5 K a0 a1 F17 bq18 bq19 bq20 lr)
def Oi:Env:=⟨[(138,Ka K),(148,Sr K),(199,Sy K)],tys,eqs,mts,K,[0,2,3,4,5,6,7,8,9,19,23,40,53,59,60,72,81],[(57,Ii K),(174,AbL K),(198,AbV K)],[],[],[],[],[],false⟩
def P0 (a0:(List Int)×Int×Int) (y1:tV×Int×Int×Int×Int) (y2:Int) (L7:Int→Int→Int→(List tM)→Option (tV×Int×tL×List tM)) (q8 q9 q10:Int) (q11:List tM):Option (tV×Int×tL×List tM) :=
  (bif (decide (q8>(0:Int))) then (Sp K (a0.1,q9,q10) y1.2.1 y1.2.2).bind fun y12=>(Kc K y1.2.2 y12.2).bind fun y13=>(bif (Nat.ble (q11.length+[y13].length) (lim 48)) then L7 (w (q8-(1:Int))) y12.1.1 y12.1.2 (q11++[y13]) else none) else (Gm K y1.2.2 q11).bind fun y14=>(bif (decide ((y14.length:Int)>(24:Int))) then (A8 K (a0.1,q9,q10) (y14.length:Int)).bind fun y15=>(bif (decide (0≤y15.2)&&decide (y15.2<(y14.length:Int))) then (Gm K y1.2.2 [((((y14.getD ((0:Int)+y15.2).toNat zM).1).1,(((y14.getD ((0:Int)+y15.2).toNat zM).1).2).1,((((y14.getD ((0:Int)+y15.2).toNat zM).1).2).2)),((y14.getD ((0:Int)+y15.2).toNat zM).2))]).bind fun y16=>(bif (decide ((y16.length:Int)>(0:Int))) then (A8 K (a0.1,y15.1) (y16.length:Int)).bind fun y17=>(A8 K (a0.1,y17.1) (30:Int)).bind fun y18=>(bif (y18.2==(0:Int)) then (bif (decide (0≤(0:Int))&&decide ((0:Int)≤y17.2)&&decide (y17.2≤(y16.length:Int))) then (bif (Nat.ble (0+((y16.take ((0:Int)+y17.2).toNat).drop 0).length) (lim 48)) then (bif (decide (0≤(w (y17.2+(1:Int))))&&decide ((w (y17.2+(1:Int)))≤(y16.length:Int))&&decide ((y16.length:Int)≤(y16.length:Int))) then (bif (Nat.ble (([]++((y16.take ((0:Int)+y17.2).toNat).drop 0)).length+((y16.take ((0:Int)+(y16.length:Int)).toNat).drop ((0:Int)+(w (y17.2+(1:Int)))).toNat).length) (lim 48)) then some (y18.1,y1.2.1,y1.2.2,(([]++((y16.take ((0:Int)+y17.2).toNat).drop 0))++((y16.take ((0:Int)+(y16.length:Int)).toNat).drop ((0:Int)+(w (y17.2+(1:Int)))).toNat))) else none) else none) else none) else none) else (bif (y18.2==(1:Int)) then (bif (decide (0≤y17.2)&&decide (y17.2<(y16.length:Int))) then (bif (Nat.ble (y16.length+[((((y16.getD ((0:Int)+y17.2).toNat zM).1).1,(((y16.getD ((0:Int)+y17.2).toNat zM).1).2).1,((((y16.getD ((0:Int)+y17.2).toNat zM).1).2).2)),((y16.getD ((0:Int)+y17.2).toNat zM).2))].length) (lim 48)) then some (y18.1,y1.2.1,y1.2.2,(y16++[((((y16.getD ((0:Int)+y17.2).toNat zM).1).1,(((y16.getD ((0:Int)+y17.2).toNat zM).1).2).1,((((y16.getD ((0:Int)+y17.2).toNat zM).1).2).2)),((y16.getD ((0:Int)+y17.2).toNat zM).2))])) else none) else none) else (bif (y18.2==(2:Int)) then (bif (decide (0≤y17.2)&&decide (y17.2<(y16.length:Int))) then (bif (decide (0≤y17.2)&&decide (y17.2<(y16.length:Int))) then some (y18.1,y1.2.1,y1.2.2,(y16.set ((0:Int)+y17.2).toNat ((y16.getD ((0:Int)+y17.2).toNat zM).1,(w (((y16.getD ((0:Int)+y17.2).toNat zM).2).1+(1:Int))),((y16.getD ((0:Int)+y17.2).toNat zM).2).2))) else none) else none) else some (y18.1,y1.2.1,y1.2.2,y16)))) else some (y15.1,y1.2.1,y1.2.2,y16)) else none) else (bif (decide ((y14.length:Int)>(0:Int))) then (A8 K (a0.1,q9,q10) (y14.length:Int)).bind fun y19=>(A8 K (a0.1,y19.1) (30:Int)).bind fun y20=>(bif (y20.2==(0:Int)) then (bif (decide (0≤(0:Int))&&decide ((0:Int)≤y19.2)&&decide (y19.2≤(y14.length:Int))) then (bif (Nat.ble (0+((y14.take ((0:Int)+y19.2).toNat).drop 0).length) (lim 48)) then (bif (decide (0≤(w (y19.2+(1:Int))))&&decide ((w (y19.2+(1:Int)))≤(y14.length:Int))&&decide ((y14.length:Int)≤(y14.length:Int))) then (bif (Nat.ble (([]++((y14.take ((0:Int)+y19.2).toNat).drop 0)).length+((y14.take ((0:Int)+(y14.length:Int)).toNat).drop ((0:Int)+(w (y19.2+(1:Int)))).toNat).length) (lim 48)) then some (y20.1,y1.2.1,y1.2.2,(([]++((y14.take ((0:Int)+y19.2).toNat).drop 0))++((y14.take ((0:Int)+(y14.length:Int)).toNat).drop ((0:Int)+(w (y19.2+(1:Int)))).toNat))) else none) else none) else none) else none) else (bif (y20.2==(1:Int)) then (bif (decide (0≤y19.2)&&decide (y19.2<(y14.length:Int))) then (bif (Nat.ble (y14.length+[((((y14.getD ((0:Int)+y19.2).toNat zM).1).1,(((y14.getD ((0:Int)+y19.2).toNat zM).1).2).1,((((y14.getD ((0:Int)+y19.2).toNat zM).1).2).2)),((y14.getD ((0:Int)+y19.2).toNat zM).2))].length) (lim 48)) then some (y20.1,y1.2.1,y1.2.2,(y14++[((((y14.getD ((0:Int)+y19.2).toNat zM).1).1,(((y14.getD ((0:Int)+y19.2).toNat zM).1).2).1,((((y14.getD ((0:Int)+y19.2).toNat zM).1).2).2)),((y14.getD ((0:Int)+y19.2).toNat zM).2))])) else none) else none) else (bif (y20.2==(2:Int)) then (bif (decide (0≤y19.2)&&decide (y19.2<(y14.length:Int))) then (bif (decide (0≤y19.2)&&decide (y19.2<(y14.length:Int))) then some (y20.1,y1.2.1,y1.2.2,(y14.set ((0:Int)+y19.2).toNat ((y14.getD ((0:Int)+y19.2).toNat zM).1,(w (((y14.getD ((0:Int)+y19.2).toNat zM).2).1+(1:Int))),((y14.getD ((0:Int)+y19.2).toNat zM).2).2))) else none) else none) else some (y20.1,y1.2.1,y1.2.2,y14)))) else some ((q9,q10),y1.2.1,y1.2.2,y14))))
def KP (a0:(List Int)×Int×Int) (y1:tV×Int×Int×Int×Int) (y2:Int) (n:Nat) (q8 q9 q10:Int) (q11:List tM):Option (tV×Int×tL×List tM) :=
  AH (X:=Int×Int×Int×List tM) (fun L x=>P0 K a0 y1 y2 (fun v0 v1 v2 v3=>L (v0,v1,v2,v3)) x.1 x.2.1 x.2.2.1 x.2.2.2) n (q8,q9,q10,q11)
def UV (a0:(List Int)×Int×Int) (I7:(tV×Int×Int×Int×Int)→Int→Int→Int→Int→(List tM)→Option (tV×Int×tL×List tM)):Option (tV×Int×tL×List tM) :=
  (Sd K a0).bind fun y1=>(HA K y1.2.1 y1.2.2).bind fun y2=>(bif (y2==(0:Int)) then (A8 K (a0.1,y1.1) (3:Int)).bind fun y3=>I7 y1 y2 y3.2 y3.1.1 y3.1.2 [] else (bif (decide ((([]:List tM).length:Int)>(24:Int))) then (A8 K (a0.1,y1.1) (([]:List tM).length:Int)).bind fun y21=>(bif (decide (0≤y21.2)&&decide (y21.2<(([]:List tM).length:Int))) then (Gm K y1.2.2 [((((([]:List tM).getD ((0:Int)+y21.2).toNat zM).1).1,(((([]:List tM).getD ((0:Int)+y21.2).toNat zM).1).2).1,((((([]:List tM).getD ((0:Int)+y21.2).toNat zM).1).2).2)),((([]:List tM).getD ((0:Int)+y21.2).toNat zM).2))]).bind fun y22=>(bif (decide ((y22.length:Int)>(0:Int))) then (A8 K (a0.1,y21.1) (y22.length:Int)).bind fun y23=>(A8 K (a0.1,y23.1) (30:Int)).bind fun y24=>(bif (y24.2==(0:Int)) then (bif (decide (0≤(0:Int))&&decide ((0:Int)≤y23.2)&&decide (y23.2≤(y22.length:Int))) then (bif (Nat.ble (0+((y22.take ((0:Int)+y23.2).toNat).drop 0).length) (lim 48)) then (bif (decide (0≤(w (y23.2+(1:Int))))&&decide ((w (y23.2+(1:Int)))≤(y22.length:Int))&&decide ((y22.length:Int)≤(y22.length:Int))) then (bif (Nat.ble (([]++((y22.take ((0:Int)+y23.2).toNat).drop 0)).length+((y22.take ((0:Int)+(y22.length:Int)).toNat).drop ((0:Int)+(w (y23.2+(1:Int)))).toNat).length) (lim 48)) then some (y24.1,y1.2.1,y1.2.2,(([]++((y22.take ((0:Int)+y23.2).toNat).drop 0))++((y22.take ((0:Int)+(y22.length:Int)).toNat).drop ((0:Int)+(w (y23.2+(1:Int)))).toNat))) else none) else none) else none) else none) else (bif (y24.2==(1:Int)) then (bif (decide (0≤y23.2)&&decide (y23.2<(y22.length:Int))) then (bif (Nat.ble (y22.length+[((((y22.getD ((0:Int)+y23.2).toNat zM).1).1,(((y22.getD ((0:Int)+y23.2).toNat zM).1).2).1,((((y22.getD ((0:Int)+y23.2).toNat zM).1).2).2)),((y22.getD ((0:Int)+y23.2).toNat zM).2))].length) (lim 48)) then some (y24.1,y1.2.1,y1.2.2,(y22++[((((y22.getD ((0:Int)+y23.2).toNat zM).1).1,(((y22.getD ((0:Int)+y23.2).toNat zM).1).2).1,((((y22.getD ((0:Int)+y23.2).toNat zM).1).2).2)),((y22.getD ((0:Int)+y23.2).toNat zM).2))])) else none) else none) else (bif (y24.2==(2:Int)) then (bif (decide (0≤y23.2)&&decide (y23.2<(y22.length:Int))) then (bif (decide (0≤y23.2)&&decide (y23.2<(y22.length:Int))) then some (y24.1,y1.2.1,y1.2.2,(y22.set ((0:Int)+y23.2).toNat ((y22.getD ((0:Int)+y23.2).toNat zM).1,(w (((y22.getD ((0:Int)+y23.2).toNat zM).2).1+(1:Int))),((y22.getD ((0:Int)+y23.2).toNat zM).2).2))) else none) else none) else some (y24.1,y1.2.1,y1.2.2,y22)))) else some (y21.1,y1.2.1,y1.2.2,y22)) else none) else (bif (decide ((([]:List tM).length:Int)>(0:Int))) then (A8 K (a0.1,y1.1) (([]:List tM).length:Int)).bind fun y25=>(A8 K (a0.1,y25.1) (30:Int)).bind fun y26=>(bif (y26.2==(0:Int)) then (bif (decide (0≤(0:Int))&&decide ((0:Int)≤y25.2)&&decide (y25.2≤(([]:List tM).length:Int))) then (bif (Nat.ble (0+((([]:List tM).take ((0:Int)+y25.2).toNat).drop 0).length) (lim 48)) then (bif (decide (0≤(w (y25.2+(1:Int))))&&decide ((w (y25.2+(1:Int)))≤(([]:List tM).length:Int))&&decide ((([]:List tM).length:Int)≤(([]:List tM).length:Int))) then (bif (Nat.ble (([]++((([]:List tM).take ((0:Int)+y25.2).toNat).drop 0)).length+((([]:List tM).take ((0:Int)+(([]:List tM).length:Int)).toNat).drop ((0:Int)+(w (y25.2+(1:Int)))).toNat).length) (lim 48)) then some (y26.1,y1.2.1,y1.2.2,(([]++((([]:List tM).take ((0:Int)+y25.2).toNat).drop 0))++((([]:List tM).take ((0:Int)+(([]:List tM).length:Int)).toNat).drop ((0:Int)+(w (y25.2+(1:Int)))).toNat))) else none) else none) else none) else none) else (bif (y26.2==(1:Int)) then (bif (decide (0≤y25.2)&&decide (y25.2<(([]:List tM).length:Int))) then (bif (Nat.ble (0+[((((([]:List tM).getD ((0:Int)+y25.2).toNat zM).1).1,(((([]:List tM).getD ((0:Int)+y25.2).toNat zM).1).2).1,((((([]:List tM).getD ((0:Int)+y25.2).toNat zM).1).2).2)),((([]:List tM).getD ((0:Int)+y25.2).toNat zM).2))].length) (lim 48)) then some (y26.1,y1.2.1,y1.2.2,([]++[((((([]:List tM).getD ((0:Int)+y25.2).toNat zM).1).1,(((([]:List tM).getD ((0:Int)+y25.2).toNat zM).1).2).1,((((([]:List tM).getD ((0:Int)+y25.2).toNat zM).1).2).2)),((([]:List tM).getD ((0:Int)+y25.2).toNat zM).2))])) else none) else none) else (bif (y26.2==(2:Int)) then (bif (decide (0≤y25.2)&&decide (y25.2<(([]:List tM).length:Int))) then (bif (decide (0≤y25.2)&&decide (y25.2<(([]:List tM).length:Int))) then some (y26.1,y1.2.1,y1.2.2,(([]:List tM).set ((0:Int)+y25.2).toNat ((([]:List tM).getD ((0:Int)+y25.2).toNat zM).1,(w (((([]:List tM).getD ((0:Int)+y25.2).toNat zM).2).1+(1:Int))),((([]:List tM).getD ((0:Int)+y25.2).toNat zM).2).2))) else none) else none) else some (y26.1,y1.2.1,y1.2.2,[])))) else some (y1.1,y1.2.1,y1.2.2,[]))))
def SC (a0:(List Int)×Int×Int):Option (tV×Int×tL×List tM) :=
  UV K a0 (fun c0 c1 d0 d1 d2 d3=>KP K a0 c0 c1 K d0 d1 d2 d3)
def AkR:DY:=⟨5,(.int .u8),sV,[],[sI,sL,(.list 59 sM)],fun x=>SC K x.1⟩
def Agr (a0:(List Int)×Int×Int) (lr:LR (tV×Int×tL×List tM)):Ex→Fr→Option (tV×Int×tL×List tM) :=
  Aw (Oi K) 1 lr Akk [1,1,1,0,1,0,0,1,0] (LS (Oi K) Tryz.f137 sV [sI,sL,(.list 59 sM)])
def W9 (a0:(List Int)×Int×Int) (lr:LR (tV×Int×tL×List tM)) (y1:tV×Int×Int×Int×Int) (y2 bq8 bq9 bq10:Int) (bq11:List tM):Option (tV×Int×tL×List tM) :=
  lr (AF Akk [1,1,1,0,1,0,0,1,0,0]) (RI a0 y1 y2 bq8 bq9 bq10 bq11) (Agr K a0 lr)
def An1:Env:=eE K [(101,N9 K)] [0,1,2]
def Mb (a0:Int×Int):Option Bool :=
  (Gi K a0.1 (-1000:Int) (1000:Int)).bind fun y1=>((bif y1 then Gi K a0.2 (-1000:Int) (1000:Int) else some false)).bind fun y2=>some (bif y1 then y2 else false)
def Xa:Mdl:=⟨[(.ro,sV)],[.bool],fun x=>Mb K x.1⟩
def An2:Env:=eE K [(112,Xa K)] [0,1,2]
def Ab6 (a0:Int×Int×Int×Int):Option Bool :=
  (Mb K (a0.1,a0.2.1)).bind fun y1=>((bif y1 then Mb K a0.2.2 else some false)).bind fun y2=>some (bif y1 then y2 else false)
def AkS:Mdl:=⟨[(.ro,sA)],[.bool],fun x=>Ab6 K x.1⟩
def An3:Env:=eE K [] [0,1,2]
def Xb (K:Nat) (a0:Int×Int×Int×Int):Option Int :=
  some (w ((w (a0.1*a0.2.2.2))-(w (a0.2.1*a0.2.2.1))))
def AkT:Mdl:=⟨[(.ro,sA)],[sI],fun x=>Xb K x.1⟩
def An4:Env:=eE K [(269,AkS K),(270,AkT K)] [0,1,2]
def Xc (a0:Int×Int×Int×Int):Option Bool :=
  (Ab6 K a0).bind fun y1=>((bif y1 then Xb K a0 else some (0:Int))).bind fun y2=>((bif (y1&&(!(y2==(1:Int)))) then Xb K a0 else some (0:Int))).bind fun y3=>some (bif y1 then (bif (y2==(1:Int)) then true else (y3==(-1:Int))) else false)
def AkU:Mdl:=⟨[(.ro,sA)],[.bool],fun x=>Xc K x.1⟩
def An5:Env:=eE K [(200,AbM K),(248,AkU K),(249,AbO K)] [0,1,3,4]
def Xd (a0:Int) (a1:Int×Int×Int×Int):Option Bool :=
  (Se K a0).bind fun y1=>((bif y1 then Xc K a1 else some false)).bind fun y2=>((bif (bif y1 then y2 else false) then Si K a0 a1 else some false)).bind fun y3=>some (bif (bif y1 then y2 else false) then y3 else false)
def AkV:Mdl:=⟨[(.ro,sI),(.ro,sA)],[.bool],fun x=>Xd K x.1 x.2.1⟩
def An6:Env:=eE K [(112,Xa K),(138,Ka K),(205,AkV K),(206,AbU K)] [0,1,2,4,5,6]
def Xe (a0:Int) (a1:Int×Int×Int) (a2:tA×Int×Int):Option Bool :=
  (HA K a0 a1).bind fun y1=>((bif (y1==(0:Int)) then Xd K a0 a2.1 else some false)).bind fun y2=>((bif (bif (y1==(0:Int)) then y2 else false) then Sn K a2.1 a1 else some ((0:Int),((0:Int),(0:Int))))).bind fun y3=>((bif (bif (bif (y1==(0:Int)) then y2 else false) then ((y3.1==a1.1)&&((y3.2.1==a1.2.1)&&(y3.2.2==a1.2.2))) else false) then Mb K a2.2 else some false)).bind fun y4=>some (bif (bif (bif (y1==(0:Int)) then y2 else false) then ((y3.1==a1.1)&&((y3.2.1==a1.2.1)&&(y3.2.2==a1.2.2))) else false) then y4 else false)
def AkW:Mdl:=⟨[(.ro,sI),(.ro,sL),(.ro,sM)],[.bool],fun x=>Xe K x.1 x.2.1 x.2.2.1⟩
def Jx:Env:=eE K [(58,Agn K),(138,Ka K),(147,AkW K),(148,Sr K),(149,Ab3 K),(150,Ab4 K),(151,AbY K)] [0,1,2,4,6,7,8,9,18,22,62,66,70,76,92]
def KQ (a0:Int) (a1:Int×Int×Int) (a2:List tM) (q7 q24 y1:Int) (y12:Bool) (L23 L25:Int→Option Bool) (q26:Int):Option Bool :=
  (bif (decide (q26<(a2.length:Int))) then (bif (decide (0≤q24)&&decide (q24<(a2.length:Int))) then (bif (decide (0≤q26)&&decide (q26<(a2.length:Int))) then (St K ((((a2.getD ((0:Int)+q24).toNat zM).1).1,(((a2.getD ((0:Int)+q24).toNat zM).1).2).1,((((a2.getD ((0:Int)+q24).toNat zM).1).2).2)),((a2.getD ((0:Int)+q24).toNat zM).2)) ((((a2.getD ((0:Int)+q26).toNat zM).1).1,(((a2.getD ((0:Int)+q26).toNat zM).1).2).1,((((a2.getD ((0:Int)+q26).toNat zM).1).2).2)),((a2.getD ((0:Int)+q26).toNat zM).2))).bind fun y27=>(Kc K a1 y27).bind fun y28=>(Oh K a2 y28).bind fun y29=>(bif (!y29) then some false else L25 (w (q26+(1:Int)))) else none) else none) else L23 (w (q24+(1:Int))))
def Il (a0:Int) (a1:Int×Int×Int) (a2:List tM) (q7 q24 y1:Int) (y12:Bool) (L23:Int→Option Bool) (n:Nat) (q26:Int):Option Bool :=
  AH (X:=Int) (fun L x=>KQ K a0 a1 a2 q7 q24 y1 y12 L23 (fun v0=>L v0) x) n q26
def Im (K:Nat) (a0:Int) (a1:Int×Int×Int) (a2:List tM) (q7 y1:Int) (y12:Bool) (I25:Int→Int→Option Bool) (L23:Int→Option Bool) (q24:Int):Option Bool :=
  (bif (decide (q24<(a2.length:Int))) then I25 q24 (0:Int) else some true)
def G4 (a0:Int) (a1:Int×Int×Int) (a2:List tM) (q7 y1:Int) (y12:Bool) (n:Nat) (q24:Int):Option Bool :=
  AH (X:=Int) (fun L x=>(fun L23=>Im K a0 a1 a2 q7 y1 y12 (fun c0 d0=>Il K a0 a1 a2 q7 c0 y1 y12 L23 K d0) L23 x) (fun v0=>L v0)) n q24
def E7 (a0:Int) (a1:Int×Int×Int) (a2:List tM) (y1:Int) (I23:Int→Int→Bool→Int→Option Bool) (L6:Int→Option Bool) (q7:Int):Option Bool :=
  (bif (decide (q7<(a2.length:Int))) then (bif (decide (0≤q7)&&decide (q7<(a2.length:Int))) then (Xe K a0 a1 ((((a2.getD ((0:Int)+q7).toNat zM).1).1,(((a2.getD ((0:Int)+q7).toNat zM).1).2).1,((((a2.getD ((0:Int)+q7).toNat zM).1).2).2)),((a2.getD ((0:Int)+q7).toNat zM).2))).bind fun y8=>(bif ((decide (0≤q7)&&decide (q7<(a2.length:Int)))||(!(!(!y8)))) then ((bif (!(!y8)) then Kc K a1 ((((a2.getD ((0:Int)+q7).toNat zM).1).1,(((a2.getD ((0:Int)+q7).toNat zM).1).2).1,((((a2.getD ((0:Int)+q7).toNat zM).1).2).2)),((a2.getD ((0:Int)+q7).toNat zM).2)) else some zM)).bind fun y9=>(bif ((decide (0≤q7)&&decide (q7<(a2.length:Int)))||(!(!(!y8)))) then (bif ((decide (0≤(w (q7-(1:Int))))&&decide ((w (q7-(1:Int)))<(a2.length:Int)))||(!((!(bif (!y8) then true else (!((y9.1.1==((a2.getD ((0:Int)+q7).toNat zM).1).1)&&((y9.1.2.1==(((a2.getD ((0:Int)+q7).toNat zM).1).2).1)&&((y9.1.2.2.1==((((a2.getD ((0:Int)+q7).toNat zM).1).2).2).1)&&((y9.1.2.2.2==((((a2.getD ((0:Int)+q7).toNat zM).1).2).2).2)&&((y9.2.1==((a2.getD ((0:Int)+q7).toNat zM).2).1)&&(y9.2.2==((a2.getD ((0:Int)+q7).toNat zM).2).2)))))))))&&(decide (q7>(0:Int)))))) then (bif ((decide (0≤q7)&&decide (q7<(a2.length:Int)))||(!((!(bif (!y8) then true else (!((y9.1.1==((a2.getD ((0:Int)+q7).toNat zM).1).1)&&((y9.1.2.1==(((a2.getD ((0:Int)+q7).toNat zM).1).2).1)&&((y9.1.2.2.1==((((a2.getD ((0:Int)+q7).toNat zM).1).2).2).1)&&((y9.1.2.2.2==((((a2.getD ((0:Int)+q7).toNat zM).1).2).2).2)&&((y9.2.1==((a2.getD ((0:Int)+q7).toNat zM).2).1)&&(y9.2.2==((a2.getD ((0:Int)+q7).toNat zM).2).2)))))))))&&(decide (q7>(0:Int)))))) then ((bif ((!(bif (!y8) then true else (!((y9.1.1==((a2.getD ((0:Int)+q7).toNat zM).1).1)&&((y9.1.2.1==(((a2.getD ((0:Int)+q7).toNat zM).1).2).1)&&((y9.1.2.2.1==((((a2.getD ((0:Int)+q7).toNat zM).1).2).2).1)&&((y9.1.2.2.2==((((a2.getD ((0:Int)+q7).toNat zM).1).2).2).2)&&((y9.2.1==((a2.getD ((0:Int)+q7).toNat zM).2).1)&&(y9.2.2==((a2.getD ((0:Int)+q7).toNat zM).2).2)))))))))&&(decide (q7>(0:Int)))) then Sw K ((((a2.getD ((0:Int)+(w (q7-(1:Int)))).toNat zM).1).1,(((a2.getD ((0:Int)+(w (q7-(1:Int)))).toNat zM).1).2).1,((((a2.getD ((0:Int)+(w (q7-(1:Int)))).toNat zM).1).2).2)),((a2.getD ((0:Int)+(w (q7-(1:Int)))).toNat zM).2)) ((((a2.getD ((0:Int)+q7).toNat zM).1).1,(((a2.getD ((0:Int)+q7).toNat zM).1).2).1,((((a2.getD ((0:Int)+q7).toNat zM).1).2).2)),((a2.getD ((0:Int)+q7).toNat zM).2)) else some false)).bind fun y10=>(bif (bif (bif (!y8) then true else (!((y9.1.1==((a2.getD ((0:Int)+q7).toNat zM).1).1)&&((y9.1.2.1==(((a2.getD ((0:Int)+q7).toNat zM).1).2).1)&&((y9.1.2.2.1==((((a2.getD ((0:Int)+q7).toNat zM).1).2).2).1)&&((y9.1.2.2.2==((((a2.getD ((0:Int)+q7).toNat zM).1).2).2).2)&&((y9.2.1==((a2.getD ((0:Int)+q7).toNat zM).2).1)&&(y9.2.2==((a2.getD ((0:Int)+q7).toNat zM).2).2)))))))) then true else (bif (decide (q7>(0:Int))) then (!y10) else false)) then some false else L6 (w (q7+(1:Int)))) else none) else none) else none) else none) else none) else (Ss K).bind fun y11=>(Oh K a2 y11).bind fun y12=>(bif (!y12) then some false else I23 q7 y1 y12 (0:Int)))
def P1 (a0:Int) (a1:Int×Int×Int) (a2:List tM) (y1:Int) (n:Nat) (q7:Int):Option Bool :=
  AH (X:=Int) (fun L x=>E7 K a0 a1 a2 y1 (fun c0 c1 c2 d0=>G4 K a0 a1 a2 c0 c1 c2 K d0) (fun v0=>L v0) x) n q7
def Ab7 (a0:Int) (a1:Int×Int×Int) (a2:List tM) (I6:Int→Int→Option Bool):Option Bool :=
  (HA K a0 a1).bind fun y1=>(bif (bif (y1 != (0:Int)) then true else (decide ((a2.length:Int)>(768:Int)))) then some false else I6 y1 (0:Int))
def Z4 (a0:Int) (a1:Int×Int×Int) (a2:List tM):Option Bool :=
  Ab7 K a0 a1 a2 (fun c0 d0=>P1 K a0 a1 a2 c0 K d0)
def Z5:Mdl:=⟨[(.ro,sI),(.ro,sL),(.ro,(.list 59 sM))],[.bool],fun x=>Z4 K x.1 x.2.1 x.2.2.1⟩
def AlN (a0:Int) (a1:Int×Int×Int) (a2:List tM) (lr:LR Bool):Ex→Fr→Option Bool :=
  Aw (Jx K) 1 lr Z0 [1,1,0,1,0] (fM (Jx K) Tryz.f66 (Z5 K) (a0,a1,a2,()))
def Ab8 (a0:Int) (a1:Int×Int×Int) (a2:List tM) (lr:LR Bool) (y1 bq7:Int):Option Bool :=
  lr (AF Z0 [1,1,0,1,0,0]) (PW a0 a1 a2 y1 bq7) (AlN K a0 a1 a2 lr)
def Xf (a0:Int) (a1:Int×Int×Int) (a2:List tM) (lr:LR Bool):Ex→Fr→Option Bool :=
  Aw (Jx K) 1 lr Z0 [1,1,1,1,0,1,0] (fM (Jx K) Tryz.f66 (Z5 K) (a0,a1,a2,()))
def Xg (a0:Int) (a1:Int×Int×Int) (a2:List tM) (lr:LR Bool) (q7 y1:Int) (y12:Bool) (bq24:Int):Option Bool :=
  lr (AF Z0 [1,1,1,1,0,1,0,0]) (F5 a0 a1 a2 q7 y1 y12 bq24) (Xf K a0 a1 a2 lr)
def Ags (a0:Int) (a1:Int×Int×Int) (a2:List tM) (q7 y1:Int) (y12:Bool) (F23:Fr→Option Bool) (bq24:Int) (lr:LR Bool):Ex→Fr→Option Bool :=
  Aw (Jx K) 1 lr (AF Z0 [1,1,1,1,0,1,0,0]) [1,0,0,1,0] (Da 1 (F5 a0 a1 a2 q7 y1 y12 bq24) F23 (Xf K a0 a1 a2 lr))
def Xh (a0:Int) (a1:Int×Int×Int) (a2:List tM) (q7 y1:Int) (y12:Bool) (F23:Fr→Option Bool) (bq24:Int) (lr:LR Bool) (q24 bq26:Int):Option Bool :=
  lr (AF Z0 [1,1,1,1,0,1,0,0,1,0,0,1,0,0]) (RJ a0 a1 a2 q7 q24 y1 y12 bq26) (Ags K a0 a1 a2 q7 y1 y12 F23 bq24 lr)
def P2:Env:=eE K [] [0,1,2,3,4,5,10,16]
def P3 (K:Nat) (a0:Int×Int×Int) (q7:Int) (L6 L9:Int→(List tV)→Option (List tV)) (q10:Int) (q11:List tV):Option (List tV) :=
  (bif (decide (q10<a0.2.2)) then (bif (Nat.ble (q11.length+[(q7,q10)].length) (lim 16)) then L9 (w (q10+(1:Int))) (q11++[(q7,q10)]) else none) else L6 (w (q7+(1:Int))) q11)
def Mc (a0:Int×Int×Int) (q7:Int) (L6:Int→(List tV)→Option (List tV)) (n:Nat) (q10:Int) (q11:List tV):Option (List tV) :=
  AH (X:=Int×List tV) (fun L x=>P3 K a0 q7 L6 (fun v0 v1=>L (v0,v1)) x.1 x.2) n (q10,q11)
def Me (K:Nat) (a0:Int×Int×Int) (I9:Int→Int→(List tV)→Option (List tV)) (L6:Int→(List tV)→Option (List tV)) (q7:Int) (q8:List tV):Option (List tV) :=
  (bif (decide (q7<a0.1)) then I9 q7 (0:Int) q8 else some q8)
def UW (a0:Int×Int×Int) (n:Nat) (q7:Int) (q8:List tV):Option (List tV) :=
  AH (X:=Int×List tV) (fun L x=>(fun L6=>Me K a0 (fun c0 d0 d1=>Mc K a0 c0 L6 K d0 d1) L6 x.1 x.2) (fun v0 v1=>L (v0,v1))) n (q7,q8)
def Ab9 (K:Nat) (a0:Int×Int×Int) (I6:Int→(List tV)→Option (List tV)):Option (List tV) :=
  I6 (0:Int) []
def Aca (a0:Int×Int×Int):Option (List tV) :=
  Ab9 K a0 (fun d0 d1=>UW K a0 K d0 d1)
def Agt:Mdl:=⟨[(.ro,sL)],[(.list 34 sV)],fun x=>Aca K x.1⟩
def Acb (a0:Int×Int×Int) (lr:LR (List tV)):Ex→Fr→Option (List tV) :=
  Aw (P2 K) 0 lr Age [1,1,0,1,0] (fM (P2 K) Tryz.f67 (Agt K) (a0,()))
def Acc (a0:Int×Int×Int) (lr:LR (List tV)) (bq7:Int) (bq8:List tV):Option (List tV) :=
  lr (AF Age [1,1,0,1,0,0]) (Ie a0 bq7 bq8) (Acb K a0 lr)
def AlO (a0:Int×Int×Int) (F6:Fr→Option (List tV)) (bq7:Int) (bq8:List tV) (lr:LR (List tV)):Ex→Fr→Option (List tV) :=
  Aw (P2 K) 0 lr (AF Age [1,1,0,1,0,0]) [1,0,0,1,0] (Da 0 (Ie a0 bq7 bq8) F6 (Acb K a0 lr))
def Acd (a0:Int×Int×Int) (F6:Fr→Option (List tV)) (bq7:Int) (bq8:List tV) (lr:LR (List tV)) (q7 bq10:Int) (bq11:List tV):Option (List tV) :=
  lr (AF Age [1,1,0,1,0,0,1,0,0,1,0,0]) (WF a0 q7 bq10 bq11) (AlO K a0 F6 bq7 bq8 lr)
def Apo:Env:=eE K [(152,WW K),(153,W0 K)] [0,1,2,3,4]
def Agu (a0:tA×Int×Int) (a1:Int×Int):Option tV :=
  (LY K a0.1 a1).bind fun y1=>(LX K y1 a0.2).bind fun y2=>some y2
def An7:Mdl:=⟨[(.ro,sM),(.ro,sV)],[sV],fun x=>Agu K x.1 x.2.1⟩
def An8:Env:=eE K [(69,An7 K),(81,AbW K)] [0,1,2,3,4,5,6]
def Xi (a0:Int×Int×Int) (a1:tA×Int×Int) (a2:Int×Int):Option tV :=
  (Agu K a1 a2).bind fun y1=>(Sq K a0 y1).bind fun y2=>some y2
def AkX:Mdl:=⟨[(.ro,sL),(.ro,sM),(.ro,sV)],[sV],fun x=>Xi K x.1 x.2.1 x.2.2.1⟩
def Oj:Env:=eE K [(208,Ab2 K)] [0,1,3,4,5,17,31]
def P4 (a0:List tV) (a1:Int×Int) (L3:Int→Option (List tV)) (q4:Int):Option (List tV) :=
  (bif ((decide (0≤q4)&&decide (q4<(a0.length:Int)))||(!(decide (q4<(a0.length:Int))))) then ((bif (decide (q4<(a0.length:Int))) then Su K (a0.getD ((0:Int)+q4).toNat ((0:Int),(0:Int))) a1 else some false)).bind fun y5=>(bif (bif (decide (q4<(a0.length:Int))) then y5 else false) then L3 (w (q4+(1:Int))) else (bif ((decide (0≤q4)&&decide (q4<(a0.length:Int)))||(!(decide (q4<(a0.length:Int))))) then (bif (bif (decide (q4<(a0.length:Int))) then (((a0.getD ((0:Int)+q4).toNat ((0:Int),(0:Int))).1==a1.1)&&((a0.getD ((0:Int)+q4).toNat ((0:Int),(0:Int))).2==a1.2)) else false) then some a0 else (bif (decide (0≤(0:Int))&&decide ((0:Int)≤q4)&&decide (q4≤(a0.length:Int))) then (bif (Nat.ble (0+((a0.take ((0:Int)+q4).toNat).drop 0).length) (lim 16)) then (bif (Nat.ble (([]++((a0.take ((0:Int)+q4).toNat).drop 0)).length+[a1].length) (lim 16)) then (bif (decide (0≤q4)&&decide (q4≤(a0.length:Int))&&decide ((a0.length:Int)≤(a0.length:Int))) then (bif (Nat.ble ((([]++((a0.take ((0:Int)+q4).toNat).drop 0))++[a1]).length+((a0.take ((0:Int)+(a0.length:Int)).toNat).drop ((0:Int)+q4).toNat).length) (lim 16)) then some ((([]++((a0.take ((0:Int)+q4).toNat).drop 0))++[a1])++((a0.take ((0:Int)+(a0.length:Int)).toNat).drop ((0:Int)+q4).toNat)) else none) else none) else none) else none) else none)) else none)) else none)
def KR (a0:List tV) (a1:Int×Int) (n:Nat) (q4:Int):Option (List tV) :=
  AH (X:=Int) (fun L x=>P4 K a0 a1 (fun v0=>L v0) x) n q4
def UX (K:Nat) (a0:List tV) (a1:Int×Int) (I3:Int→Option (List tV)):Option (List tV) :=
  I3 (0:Int)
def SD (a0:List tV) (a1:Int×Int):Option (List tV) :=
  UX K a0 a1 (fun d0=>KR K a0 a1 K d0)
def Xj:Mdl:=⟨[(.mv,(.list 34 sV)),(.ro,sV)],[(.list 34 sV)],fun x=>SD K x.1 x.2.1⟩
def Agv (a0:List tV) (a1:Int×Int) (lr:LR (List tV)):Ex→Fr→Option (List tV) :=
  Aw (Oj K) 1 lr Akl [1,1,0,0] (fM (Oj K) Tryz.f183 (Xj K) (a0,a1,()))
def Xk (a0:List tV) (a1:Int×Int) (lr:LR (List tV)) (bq4:Int):Option (List tV) :=
  lr (AF Akl [1,1,0,0,0]) (RK a0 a1 bq4) (Agv K a0 a1 lr)
def Ok:Env:=eE K [(183,Xj K),(184,AkX K)] [0,1,2,3,5,6,7,8,13]
def G5 (a0:Int×Int×Int) (a1:List tM) (a2:Int×Int) (L4:Int→(List tV)→Option (List tV)) (q5:Int) (q6:List tV):Option (List tV) :=
  (bif (decide (q5<(a1.length:Int))) then (bif (decide (0≤q5)&&decide (q5<(a1.length:Int))) then (Xi K a0 ((((a1.getD ((0:Int)+q5).toNat zM).1).1,(((a1.getD ((0:Int)+q5).toNat zM).1).2).1,((((a1.getD ((0:Int)+q5).toNat zM).1).2).2)),((a1.getD ((0:Int)+q5).toNat zM).2)) a2).bind fun y7=>(SD K q6 y7).bind fun y8=>L4 (w (q5+(1:Int))) y8 else none) else some q6)
def P5 (a0:Int×Int×Int) (a1:List tM) (a2:Int×Int) (n:Nat) (q5:Int) (q6:List tV):Option (List tV) :=
  AH (X:=Int×List tV) (fun L x=>G5 K a0 a1 a2 (fun v0 v1=>L (v0,v1)) x.1 x.2) n (q5,q6)
def UY (K:Nat) (a0:Int×Int×Int) (a1:List tM) (a2:Int×Int) (I4:Int→(List tV)→Option (List tV)):Option (List tV) :=
  I4 (0:Int) []
def SE (a0:Int×Int×Int) (a1:List tM) (a2:Int×Int):Option (List tV) :=
  UY K a0 a1 a2 (fun d0 d1=>P5 K a0 a1 a2 K d0 d1)
def Xl:Mdl:=⟨[(.ro,sL),(.ro,(.list 59 sM)),(.ro,sV)],[(.list 34 sV)],fun x=>SE K x.1 x.2.1 x.2.2.1⟩
def Agw (a0:Int×Int×Int) (a1:List tM) (a2:Int×Int) (lr:LR (List tV)):Ex→Fr→Option (List tV) :=
  Aw (Ok K) 1 lr Akm [1,1,0,1,0] (fM (Ok K) Tryz.f119 (Xl K) (a0,a1,a2,()))
def Xm (a0:Int×Int×Int) (a1:List tM) (a2:Int×Int) (lr:LR (List tV)) (bq5:Int) (bq6:List tV):Option (List tV) :=
  lr (AF Akm [1,1,0,1,0,0]) (RL a0 a1 a2 bq5 bq6) (Agw K a0 a1 a2 lr)
def Z6:Env:=eE K [(67,Agt K),(119,Xl K)] [0,1,2,4,5,6,7,8,15,32]
def Jy (a0:Int×Int×Int) (a1:List tM) (y1:List tV) (L4:Int→(List (List tV))→Option (List (List tV))) (q5:Int) (q6:List (List tV)):Option (List (List tV)) :=
  (bif (decide (q5<(y1.length:Int))) then (bif (decide (0≤q5)&&decide (q5<(y1.length:Int))) then (SE K a0 a1 (y1.getD ((0:Int)+q5).toNat ((0:Int),(0:Int)))).bind fun y7=>(bif (decide (0≤(0:Int))&&decide ((0:Int)<(y7.length:Int))) then (bif (decide (0≤q5)&&decide (q5<(y1.length:Int))) then (bif (((y7.getD ((0:Int)+(0:Int)).toNat ((0:Int),(0:Int))).1==(y1.getD ((0:Int)+q5).toNat ((0:Int),(0:Int))).1)&&((y7.getD ((0:Int)+(0:Int)).toNat ((0:Int),(0:Int))).2==(y1.getD ((0:Int)+q5).toNat ((0:Int),(0:Int))).2)) then (bif (Nat.ble (q6.length+[y7].length) (lim 24)) then L4 (w (q5+(1:Int))) (q6++[y7]) else none) else L4 (w (q5+(1:Int))) q6) else none) else none) else none) else some q6)
def UZ (a0:Int×Int×Int) (a1:List tM) (y1:List tV) (n:Nat) (q5:Int) (q6:List (List tV)):Option (List (List tV)) :=
  AH (X:=Int×List (List tV)) (fun L x=>Jy K a0 a1 y1 (fun v0 v1=>L (v0,v1)) x.1 x.2) n (q5,q6)
def Ace (a0:Int×Int×Int) (a1:List tM) (I4:(List tV)→Int→(List (List tV))→Option (List (List tV))):Option (List (List tV)) :=
  (Aca K a0).bind fun y1=>I4 y1 (0:Int) []
def U0 (a0:Int×Int×Int) (a1:List tM):Option (List (List tV)) :=
  Ace K a0 a1 (fun c0 d0 d1=>UZ K a0 a1 c0 K d0 d1)
def Z7:Mdl:=⟨[(.ro,sL),(.ro,(.list 59 sM))],[(.list 87 (.list 34 sV))],fun x=>U0 K x.1 x.2.1⟩
def AlP (a0:Int×Int×Int) (a1:List tM) (lr:LR (List (List tV))):Ex→Fr→Option (List (List tV)) :=
  Aw (Z6 K) 1 lr Anr [1,1,1,0,1,0] (fM (Z6 K) Tryz.f79 (Z7 K) (a0,a1,()))
def Acf (a0:Int×Int×Int) (a1:List tM) (lr:LR (List (List tV))) (y1:List tV) (bq5:Int) (bq6:List (List tV)):Option (List (List tV)) :=
  lr (AF Anr [1,1,1,0,1,0,0]) (WG a0 a1 y1 bq5 bq6) (AlP K a0 a1 lr)
def App:Env:=eE K [(81,AbW K)] [0,1,2,3,4]
def KC (a0:Int×Int×Int) (a1:Int×Int):Option Int :=
  (Sq K a0 a1).bind fun y1=>some (w ((w (y1.1*a0.2.2))+y1.2))
def Acg:Mdl:=⟨[(.ro,sL),(.ro,sV)],[sI],fun x=>KC K x.1 x.2.1⟩
def Io:Env:=eE K [(68,Acg K),(79,Z7 K)] [0,1,2,4,5,6,7,8,21,30]
def EK (a0:Int×Int×Int) (a1:List tM) (q10:Int) (y1:List (List tV)) (L9 L12:Int→(List Int)→Option (List Int)) (q13:Int) (q14:List Int):Option (List Int) :=
  (bif (decide (0≤q10)&&decide (q10<(y1.length:Int))) then (bif (decide (q13<((y1.getD ((0:Int)+q10).toNat []).length:Int))) then (bif (decide (0≤q10)&&decide (q10<(y1.length:Int))) then (bif (decide (0≤q13)&&decide (q13<((y1.getD ((0:Int)+q10).toNat []).length:Int))) then (KC K a0 ((y1.getD ((0:Int)+q10).toNat []).getD ((0:Int)+q13).toNat ((0:Int),(0:Int)))).bind fun y15=>(bif (decide (0≤y15)&&decide (y15<(q14.length:Int))) then L12 (w (q13+(1:Int))) (q14.set ((0:Int)+y15).toNat q10) else none) else none) else none) else L9 (w (q10+(1:Int))) q14) else none)
def Ip (a0:Int×Int×Int) (a1:List tM) (q10:Int) (y1:List (List tV)) (L9:Int→(List Int)→Option (List Int)) (n:Nat) (q13:Int) (q14:List Int):Option (List Int) :=
  AH (X:=Int×List Int) (fun L x=>EK K a0 a1 q10 y1 L9 (fun v0 v1=>L (v0,v1)) x.1 x.2) n (q13,q14)
def E8 (K:Nat) (a0:Int×Int×Int) (a1:List tM) (y1:List (List tV)) (I12:Int→Int→(List Int)→Option (List Int)) (L9:Int→(List Int)→Option (List Int)) (q10:Int) (q11:List Int):Option (List Int) :=
  (bif (decide (q10<(y1.length:Int))) then I12 q10 (0:Int) q11 else some q11)
def Xn (a0:Int×Int×Int) (a1:List tM) (y1:List (List tV)) (n:Nat) (q10:Int) (q11:List Int):Option (List Int) :=
  AH (X:=Int×List Int) (fun L x=>(fun L9=>E8 K a0 a1 y1 (fun c0 d0 d1=>Ip K a0 a1 c0 y1 L9 K d0 d1) L9 x.1 x.2) (fun v0 v1=>L (v0,v1))) n (q10,q11)
def U1 (a0:Int×Int×Int) (a1:List tM) (I9:(List (List tV))→Int→(List Int)→Option (List Int)):Option (List Int) :=
  (bif (decide (0≤(w (a0.1*a0.2.2)))&&Nat.ble (w (a0.1*a0.2.2)).toNat (lim 8)&&((w (a0.1*a0.2.2))==(w (a0.1*a0.2.2)))) then (U0 K a0 a1).bind fun y1=>I9 y1 (0:Int) (List.replicate (w (a0.1*a0.2.2)).toNat (0:Int)) else none)
def HC (a0:Int×Int×Int) (a1:List tM):Option (List Int) :=
  U1 K a0 a1 (fun c0 d0 d1=>Xn K a0 a1 c0 K d0 d1)
def Mf:Mdl:=⟨[(.ro,sL),(.ro,(.list 59 sM))],[(.list 2 sI)],fun x=>HC K x.1 x.2.1⟩
def Xo (a0:Int×Int×Int) (a1:List tM) (lr:LR (List Int)):Ex→Fr→Option (List Int) :=
  Aw (Io K) 1 lr WH [1,1,1,0,1,0] (fM (Io K) Tryz.f102 (Mf K) (a0,a1,()))
def Xp (a0:Int×Int×Int) (a1:List tM) (lr:LR (List Int)) (y1:List (List tV)) (bq10:Int) (bq11:List Int):Option (List Int) :=
  lr (AF WH [1,1,1,0,1,0,0]) (F8 a0 a1 y1 bq10 bq11) (Xo K a0 a1 lr)
def Ach (a0:Int×Int×Int) (a1:List tM) (y1:List (List tV)) (F9:Fr→Option (List Int)) (bq10:Int) (bq11:List Int) (lr:LR (List Int)):Ex→Fr→Option (List Int) :=
  Aw (Io K) 1 lr (AF WH [1,1,1,0,1,0,0]) [1,0,0,1,0] (Da 1 (F8 a0 a1 y1 bq10 bq11) F9 (Xo K a0 a1 lr))
def SG (a0:Int×Int×Int) (a1:List tM) (y1:List (List tV)) (F9:Fr→Option (List Int)) (bq10:Int) (bq11:List Int) (lr:LR (List Int)) (q10 bq13:Int) (bq14:List Int):Option (List Int) :=
  lr (AF WH [1,1,1,0,1,0,0,1,0,0,1,0,0]) (N3 a0 a1 q10 y1 bq13 bq14) (Ach K a0 a1 y1 F9 bq10 bq11 lr)
def Ol:Env:=eE K [(102,Mf K)] [0,1,2,3,5,8,9,10,11,22]
def G6 (K:Nat) (a0:Int) (a1:Int×Int×Int) (a2:List tM) (a3 y1:List Int) (L3:Int→(List Int)→Option (Int×tL×List Int)) (q4:Int) (q5:List Int):Option (Int×tL×List Int) :=
  (bif (decide (q4<(y1.length:Int))) then (bif (decide (0≤q4)&&decide (q4<(y1.length:Int))) then (bif (decide (0≤(y1.getD ((0:Int)+q4).toNat (0:Int)))&&decide ((y1.getD ((0:Int)+q4).toNat (0:Int))<(a3.length:Int))) then (bif (Nat.ble (q5.length+[(a3.getD ((0:Int)+(y1.getD ((0:Int)+q4).toNat (0:Int))).toNat (0:Int))].length) (lim 8)) then L3 (w (q4+(1:Int))) (q5++[(a3.getD ((0:Int)+(y1.getD ((0:Int)+q4).toNat (0:Int))).toNat (0:Int))]) else none) else none) else none) else some (a0,a1,q5))
def Xq (a0:Int) (a1:Int×Int×Int) (a2:List tM) (a3 y1:List Int) (n:Nat) (q4:Int) (q5:List Int):Option (Int×tL×List Int) :=
  AH (X:=Int×List Int) (fun L x=>G6 K a0 a1 a2 a3 y1 (fun v0 v1=>L (v0,v1)) x.1 x.2) n (q4,q5)
def U2 (a0:Int) (a1:Int×Int×Int) (a2:List tM) (a3:List Int) (I3:(List Int)→Int→(List Int)→Option (Int×tL×List Int)):Option (Int×tL×List Int) :=
  (HC K a1 a2).bind fun y1=>I3 y1 (0:Int) []
def SH (a0:Int) (a1:Int×Int×Int) (a2:List tM) (a3:List Int):Option (Int×tL×List Int) :=
  U2 K a0 a1 a2 a3 (fun c0 d0 d1=>Xq K a0 a1 a2 a3 c0 K d0 d1)
def Xr:Mdl:=⟨[(.ro,sI),(.ro,sL),(.ro,(.list 59 sM)),(.ro,(.list 2 sI))],[(.cons sI (.cons sL (.list 2 sI)))],fun x=>SH K x.1 x.2.1 x.2.2.1 x.2.2.2.1⟩
def Agx (a0:Int) (a1:Int×Int×Int) (a2:List tM) (a3:List Int) (lr:LR (Int×tL×List Int)):Ex→Fr→Option (Int×tL×List Int) :=
  Aw (Ol K) 2 lr Akn [1,1,1,0,1,0] (fM (Ol K) Tryz.f219 (Xr K) (a0,a1,a2,a3,()))
def Xs (a0:Int) (a1:Int×Int×Int) (a2:List tM) (a3:List Int) (lr:LR (Int×tL×List Int)) (y1:List Int) (bq4:Int) (bq5:List Int):Option (Int×tL×List Int) :=
  lr (AF Akn [1,1,1,0,1,0,0]) (RM a0 a1 a2 a3 y1 bq4 bq5) (Agx K a0 a1 a2 a3 lr)
def Om:Env:=⟨[(66,Z5 K),(79,Z7 K),(219,Xr K)],tys,eqs,mts,K,[0,2,3,4,5,6,7,8,9,10,25,34,49],[(57,Ii K),(137,AkR K)],[],[],[],[],[],false⟩
def P6 (a0:(List Int)×Int×Int) (y1:tV×Int×tL×List tM) (y2:Bool) (L6:Int→Int→Int→(List Int)→Option (tV×(Int×tL×List Int)×List tM)) (q7 q8 q9:Int) (q10:List Int):Option (tV×(Int×tL×List Int)×List tM) :=
  (bif (decide (q7>(0:Int))) then (A8 K (a0.1,q8,q9) (3:Int)).bind fun y11=>(bif (Nat.ble (q10.length+[y11.2].length) (lim 8)) then L6 (w (q7-(1:Int))) y11.1.1 y11.1.2 (q10++[y11.2]) else none) else (SH K y1.2.1 y1.2.2.1 y1.2.2.2 q10).bind fun y12=>(A8 K (a0.1,q8,q9) (4:Int)).bind fun y13=>(bif (y13.2==(0:Int)) then (A8 K (a0.1,y13.1) (y12.2.2.length:Int)).bind fun y14=>(bif (decide (0≤y14.2)&&decide (y14.2<(y12.2.2.length:Int))) then some (y14.1,(y12.1,y12.2.1,(y12.2.2.set ((0:Int)+y14.2).toNat (3:Int))),y1.2.2.2) else none) else some (y13.1,y12,y1.2.2.2)))
def KS (a0:(List Int)×Int×Int) (y1:tV×Int×tL×List tM) (y2:Bool) (n:Nat) (q7 q8 q9:Int) (q10:List Int):Option (tV×(Int×tL×List Int)×List tM) :=
  AH (X:=Int×Int×Int×List Int) (fun L x=>P6 K a0 y1 y2 (fun v0 v1 v2 v3=>L (v0,v1,v2,v3)) x.1 x.2.1 x.2.2.1 x.2.2.2) n (q7,q8,q9,q10)
def U3 (a0:(List Int)×Int×Int) (I6:(tV×Int×tL×List tM)→Bool→Int→Int→Int→(List Int)→Option (tV×(Int×tL×List Int)×List tM)):Option (tV×(Int×tL×List Int)×List tM) :=
  (SC K a0).bind fun y1=>(Z4 K y1.2.1 y1.2.2.1 y1.2.2.2).bind fun y2=>(bif (!y2) then some (y1.1,(y1.2.1,y1.2.2.1,[]),y1.2.2.2) else (U0 K y1.2.2.1 y1.2.2.2).bind fun y3=>I6 y1 y2 (y3.length:Int) y1.1.1 y1.1.2 [])
def SJ (a0:(List Int)×Int×Int):Option (tV×(Int×tL×List Int)×List tM) :=
  U3 K a0 (fun c0 c1 d0 d1 d2 d3=>KS K a0 c0 c1 K d0 d1 d2 d3)
def AkY:DY:=⟨5,(.int .u8),sV,[],[(.cons sI (.cons sL (.list 2 sI))),(.list 59 sM)],fun x=>SJ K x.1⟩
def Agy (a0:(List Int)×Int×Int) (lr:LR (tV×(Int×tL×List Int)×List tM)):Ex→Fr→Option (tV×(Int×tL×List Int)×List tM) :=
  Aw (Om K) 1 lr Ako [1,1,1,1,1,0,1,0] (LS (Om K) Tryz.f171 sV [(.cons sI (.cons sL (.list 2 sI))),(.list 59 sM)])
def Xt (a0:(List Int)×Int×Int) (lr:LR (tV×(Int×tL×List Int)×List tM)) (y1:tV×Int×tL×List tM) (y2:Bool) (bq7 bq8 bq9:Int) (bq10:List Int):Option (tV×(Int×tL×List Int)×List tM) :=
  lr (AF Ako [1,1,1,1,1,0,1,0,0]) (RN a0 y1 y2 bq7 bq8 bq9 bq10) (Agy K a0 lr)
def On:Env:=eE K [(101,N9 K)] [0,1,2,3,8,9,13,23]
def KT (a0:List Int) (a1 a2 a3:Int) (L3:Int→Option Bool) (q4:Int):Option Bool :=
  (bif (decide (q4<(a0.length:Int))) then (bif (decide (0≤q4)&&decide (q4<(a0.length:Int))) then (Gi K (a0.getD ((0:Int)+q4).toNat (0:Int)) a2 a3).bind fun y5=>(bif (!y5) then some false else L3 (w (q4+(1:Int)))) else none) else some (decide ((a0.length:Int)≤a1)))
def P7 (a0:List Int) (a1 a2 a3:Int) (n:Nat) (q4:Int):Option Bool :=
  AH (X:=Int) (fun L x=>KT K a0 a1 a2 a3 (fun v0=>L v0) x) n q4
def U4 (K:Nat) (a0:List Int) (a1 a2 a3:Int) (I3:Int→Option Bool):Option Bool :=
  I3 (0:Int)
def SK (a0:List Int) (a1 a2 a3:Int):Option Bool :=
  U4 K a0 a1 a2 a3 (fun d0=>P7 K a0 a1 a2 a3 K d0)
def Xu:Mdl:=⟨[(.ro,(.list 2 sI)),(.ro,sI),(.ro,sI),(.ro,sI)],[.bool],fun x=>SK K x.1 x.2.1 x.2.2.1 x.2.2.2.1⟩
def Agz (a0:List Int) (a1 a2 a3:Int) (lr:LR Bool):Ex→Fr→Option Bool :=
  Aw (On K) 1 lr Akp [1,0,1,0] (fM (On K) Tryz.f177 (Xu K) (a0,a1,a2,a3,()))
def Xv (a0:List Int) (a1 a2 a3:Int) (lr:LR Bool) (bq4:Int):Option Bool :=
  lr (AF Akp [1,0,1,0,0]) (RO a0 a1 a2 a3 bq4) (Agz K a0 a1 a2 a3 lr)
def An9:Env:=eE K [(138,Ka K),(177,Xu K)] [0,1,2]
def SL (a0:Int×tL×List Int):Option Bool :=
  (HA K a0.1 a0.2.1).bind fun y1=>((bif (bif (y1==(0:Int)) then ((a0.2.2.length:Int)==(w (a0.2.1.1*a0.2.1.2.2))) else false) then SK K a0.2.2 (64:Int) (0:Int) (9:Int) else some false)).bind fun y2=>some (bif (bif (y1==(0:Int)) then ((a0.2.2.length:Int)==(w (a0.2.1.1*a0.2.1.2.2))) else false) then y2 else false)
def Aci:Mdl:=⟨[(.ro,(.cons sI (.cons sL (.list 2 sI))))],[.bool],fun x=>SL K x.1⟩
def Aoa:Env:=⟨[],tys,eqs,mts,K,[0,2,3,6],[(57,Ii K),(59,Z2 K)],[],[],[],[],[],false⟩
def Xw (a0:(List Int)×Int×Int):Option (tV×Int×Int) :=
  (A8 K a0 (40:Int)).bind fun y1=>(bif (y1.2==(0:Int)) then (KB K (a0.1,y1.1) [(-1000:Int),(1000:Int),(1001:Int),(0:Int)]).bind fun y2=>(KB K (a0.1,y2.1) [(-1001:Int),(1000:Int),(0:Int)]).bind fun y3=>some (y3.1,y2.2,y3.2) else (KB K (a0.1,y1.1) [(4:Int),(9:Int),(30:Int)]).bind fun y4=>(A8 K (a0.1,y4.1) (w ((w ((2:Int)*y4.2))+(1:Int)))).bind fun y5=>(A8 K (a0.1,y5.1) (w ((w ((2:Int)*y4.2))+(1:Int)))).bind fun y6=>some (y6.1,(w (y5.2-y4.2)),(w (y6.2-y4.2))))
def AkZ:DY:=⟨5,(.int .u8),sV,[],[sV],fun x=>Xw K x.1⟩
def Oo:Env:=⟨[],tys,eqs,mts,K,[0,2,3,4,9,26,27,38],[(57,Ii K),(59,Z2 K),(222,AkZ K)],[],[],[],[],[],false⟩
def P8 (a0:(List Int)×Int×Int) (L6:Int→Int→Int→(List (tV×Int))→Option (tV×List (tV×Int))) (q7 q8 q9:Int) (q10:List (tV×Int)):Option (tV×List (tV×Int)) :=
  (bif (decide (q7>(0:Int))) then (A8 K (a0.1,q8,q9) (9:Int)).bind fun y11=>(A8 K (a0.1,y11.1) (9:Int)).bind fun y12=>(A8 K (a0.1,y12.1) (3:Int)).bind fun y13=>(bif (Nat.ble (q10.length+[(((w (y11.2-(3:Int))),(w (y12.2-(3:Int)))),y13.2)].length) (lim 24)) then L6 (w (q7-(1:Int))) y13.1.1 y13.1.2 (q10++[(((w (y11.2-(3:Int))),(w (y12.2-(3:Int)))),y13.2)]) else none) else (A8 K (a0.1,q8,q9) (40:Int)).bind fun y14=>(bif (y14.2==(0:Int)) then (Xw K (a0.1,y14.1)).bind fun y15=>(KB K (a0.1,y15.1) [(-1:Int),(9:Int),(10:Int)]).bind fun y16=>(bif (Nat.ble (q10.length+[(y15.2,y16.2)].length) (lim 24)) then some (y16.1,(q10++[(y15.2,y16.2)])) else none) else (bif (y14.2==(1:Int)) then (A8 K (a0.1,y14.1) (2:Int)).bind fun y17=>(bif (decide (0≤(w ((40:Int)+y17.2)))&&Nat.ble (w ((40:Int)+y17.2)).toNat (lim 24)&&((w ((40:Int)+y17.2))==(w ((40:Int)+y17.2)))) then some (y17.1,(List.replicate (w ((40:Int)+y17.2)).toNat (((0:Int),(0:Int)),(0:Int)))) else none) else some (y14.1,q10))))
def KU (a0:(List Int)×Int×Int) (n:Nat) (q7 q8 q9:Int) (q10:List (tV×Int)):Option (tV×List (tV×Int)) :=
  AH (X:=Int×Int×Int×List (tV×Int)) (fun L x=>P8 K a0 (fun v0 v1 v2 v3=>L (v0,v1,v2,v3)) x.1 x.2.1 x.2.2.1 x.2.2.2) n (q7,q8,q9,q10)
def U5 (a0:(List Int)×Int×Int) (I6:Int→Int→Int→(List (tV×Int))→Option (tV×List (tV×Int))):Option (tV×List (tV×Int)) :=
  (A8 K a0 (7:Int)).bind fun y1=>I6 y1.2 y1.1.1 y1.1.2 []
def SN (a0:(List Int)×Int×Int):Option (tV×List (tV×Int)) :=
  U5 K a0 (fun d0 d1 d2 d3=>KU K a0 K d0 d1 d2 d3)
def Ak0:DY:=⟨5,(.int .u8),sV,[],[(.list 84 (.cons sV sI))],fun x=>SN K x.1⟩
def AgA (a0:(List Int)×Int×Int) (lr:LR (tV×List (tV×Int))):Ex→Fr→Option (tV×List (tV×Int)) :=
  Aw (Oo K) 1 lr Akq [1,1,0,1,0] (LS (Oo K) Tryz.f176 sV [(.list 84 (.cons sV sI))])
def Xx (a0:(List Int)×Int×Int) (lr:LR (tV×List (tV×Int))) (bq7 bq8 bq9:Int) (bq10:List (tV×Int)):Option (tV×List (tV×Int)) :=
  lr (AF Akq [1,1,0,1,0,0]) (RP a0 bq7 bq8 bq9 bq10) (AgA K a0 lr)
def Aob:Env:=eE K [(68,Acg K)] [0,1,2,3,4]
def SO (a0:Int×tL×List Int) (a1:Int×Int):Option Int :=
  (KC K a0.2.1 a1).bind fun y1=>(bif (decide (0≤y1)&&decide (y1<(a0.2.2.length:Int))) then some (a0.2.2.getD ((0:Int)+y1).toNat (0:Int)) else none)
def Acj:Mdl:=⟨[(.ro,(.cons sI (.cons sL (.list 2 sI)))),(.ro,sV)],[sI],fun x=>SO K x.1 x.2.1⟩
def Oq:Env:=⟨[(108,Aci K),(109,Acj K)],tys,eqs,mts,K,[0,1,3,4,5,6,7,15,22,47],[(57,Ii K),(176,Ak0 K)],[],[],[],[],[],false⟩
def P9 (a0:(List Int)×Int×Int) (a1:Int×tL×List Int) (y1:Bool) (y2:tV×Int) (L9:Int→Int→Int→(List (tV×Int))→Option (tV×List (tV×Int))) (q10 q11 q12:Int) (q13:List (tV×Int)):Option (tV×List (tV×Int)) :=
  (bif (decide (q10>(0:Int))) then (A8 K (a0.1,q11,q12) (13:Int)).bind fun y14=>(A8 K (a0.1,y14.1) (13:Int)).bind fun y15=>(SO K a1 ((w (y14.2-(5:Int))),(w (y15.2-(5:Int))))).bind fun y16=>(bif (Nat.ble (q13.length+[(((w (y14.2-(5:Int))),(w (y15.2-(5:Int)))),y16)].length) (lim 24)) then L9 (w (q10-(1:Int))) y15.1.1 y15.1.2 (q13++[(((w (y14.2-(5:Int))),(w (y15.2-(5:Int)))),y16)]) else none) else ((bif (decide ((q13.length:Int)>(0:Int))) then A8 K (a0.1,q11,q12) (4:Int) else some ((q11,q12),(0:Int)))).bind fun y17=>(bif (bif (decide ((q13.length:Int)>(0:Int))) then (y17.2==(0:Int)) else false) then (A8 K (a0.1,y17.1) (q13.length:Int)).bind fun y18=>(A8 K (a0.1,y18.1) (3:Int)).bind fun y19=>(bif (decide (0≤y18.2)&&decide (y18.2<(q13.length:Int))) then some (y19.1,(q13.set ((0:Int)+y18.2).toNat ((q13.getD ((0:Int)+y18.2).toNat (((0:Int),(0:Int)),(0:Int))).1,y19.2))) else none) else some (y17.1,q13)))
def KW (a0:(List Int)×Int×Int) (a1:Int×tL×List Int) (y1:Bool) (y2:tV×Int) (n:Nat) (q10 q11 q12:Int) (q13:List (tV×Int)):Option (tV×List (tV×Int)) :=
  AH (X:=Int×Int×Int×List (tV×Int)) (fun L x=>P9 K a0 a1 y1 y2 (fun v0 v1 v2 v3=>L (v0,v1,v2,v3)) x.1 x.2.1 x.2.2.1 x.2.2.2) n (q10,q11,q12,q13)
def U6 (a0:(List Int)×Int×Int) (a1:Int×tL×List Int) (I9:Bool→(tV×Int)→Int→Int→Int→(List (tV×Int))→Option (tV×List (tV×Int))):Option (tV×List (tV×Int)) :=
  (SL K a1).bind fun y1=>((bif (!(!y1)) then A8 K a0 (5:Int) else some (a0.2,(0:Int)))).bind fun y2=>(bif (bif (!y1) then true else (y2.2==(0:Int))) then (SN K (a0.1,y2.1)).bind fun y3=>some y3 else (A8 K (a0.1,y2.1) (9:Int)).bind fun y4=>I9 y1 y2 y4.2 y4.1.1 y4.1.2 [])
def Ot (a0:(List Int)×Int×Int) (a1:Int×tL×List Int):Option (tV×List (tV×Int)) :=
  U6 K a0 a1 (fun c0 c1 d0 d1 d2 d3=>KW K a0 a1 c0 c1 K d0 d1 d2 d3)
def Ack:DY:=⟨5,(.int .u8),sV,[(.ro,(.cons sI (.cons sL (.list 2 sI))))],[(.list 84 (.cons sV sI))],fun x=>Ot K x.1 x.2.1⟩
def AgB (a0:(List Int)×Int×Int) (a1:Int×tL×List Int) (lr:LR (tV×List (tV×Int))):Ex→Fr→Option (tV×List (tV×Int)) :=
  Aw (Oq K) 2 lr Akr [1,1,1,0,1,0] (LS (Oq K) Tryz.f105 sV [(.list 84 (.cons sV sI))])
def Xy (a0:(List Int)×Int×Int) (a1:Int×tL×List Int) (lr:LR (tV×List (tV×Int))) (y1:Bool) (y2:tV×Int) (bq10 bq11 bq12:Int) (bq13:List (tV×Int)):Option (tV×List (tV×Int)) :=
  lr (AF Akr [1,1,1,0,1,0,0]) (RQ a0 a1 y1 y2 bq10 bq11 bq12 bq13) (AgB K a0 a1 lr)
def Apq:Env:=⟨[],tys,eqs,mts,K,[0,2,3,4,5,6,7],[(105,Ack K),(171,AkY K)],[],[],[],[],[],false⟩
def AgC (a0:(List Int)×Int×Int):Option (tV×Int×tL×(List tM)×List (tV×Int)) :=
  (SJ K a0).bind fun y1=>(Ot K (a0.1,y1.1) y1.2.1).bind fun y2=>some (y2.1,y1.2.1.1,y1.2.1.2.1,y1.2.2,y2.2)
def Aoc:DY:=⟨5,(.int .u8),sV,[],[sI,sL,(.list 59 sM),(.list 84 (.cons sV sI))],fun x=>AgC K x.1⟩
def Apr:Env:=⟨[],tys,eqs,mts,K,[0,2,3,4,5,6,7,8,9,10,11],[(57,Ii K),(95,Aoc K)],[(55,AlK K)],[],[],[],[],false⟩
def AgD (a0:List Int):Option (Int×tL×(List tM)×(List (tV×Int))×Int) :=
  (Z1 K a0).bind fun y1=>(AgC K (a0,y1)).bind fun y2=>(A8 K (a0,y2.1) (11:Int)).bind fun y3=>(A8 K (a0,y3.1) (20:Int)).bind fun y4=>some (y2.2.1,y2.2.2.1,y2.2.2.2.1,y2.2.2.2.2,(w (y3.2-(w (y4.2.tdiv (19:Int))))))
def Aod:Mdl:=⟨[(.ro,(.list 5 (.int .u8)))],[sI,sL,(.list 59 sM),(.list 84 (.cons sV sI)),sI],fun x=>AgD K x.1⟩
def Aoe:Env:=eE K [] [0,1,2,6]
def HD (K:Nat) (a0 a1 a2:Int):Option Bool :=
  some (bif (decide (a0≥a1)) then (decide (a0≤a2)) else false)
def Ou:Mdl:=⟨[(.ro,sI),(.ro,sI),(.ro,sI)],[.bool],fun x=>HD K x.1 x.2.1 x.2.2.1⟩
def Aof:Env:=eE K [(172,Ou K)] [0,2]
def SP (a0:Int):Option Bool :=
  (HD K a0 (0:Int) (1:Int)).bind fun y1=>some y1
def Acl:Mdl:=⟨[(.ro,sI)],[.bool],fun x=>SP K x.1⟩
def Aps:Env:=eE K [] [0,1,2]
def Qa (K:Nat) (a0:Int×Int×Int):Option Int :=
  some (w (a0.1*a0.2.2))
def Acm:Mdl:=⟨[(.ro,sL)],[sI],fun x=>Qa K x.1⟩
def Aog:Env:=eE K [(62,Acm K),(172,Ou K)] [0,1,2]
def SQ (a0:Int×Int×Int):Option Bool :=
  (HD K a0.1 (1:Int) (64:Int)).bind fun y1=>((bif y1 then HD K a0.2.2 (1:Int) (64:Int) else some false)).bind fun y2=>((bif (bif y1 then y2 else false) then HD K a0.2.1 (0:Int) (w (a0.1-(1:Int))) else some false)).bind fun y3=>((bif (bif (bif y1 then y2 else false) then y3 else false) then Qa K a0 else some (0:Int))).bind fun y4=>some (bif (bif (bif y1 then y2 else false) then y3 else false) then (decide (y4≤(64:Int))) else false)
def Acn:Mdl:=⟨[(.ro,sL)],[.bool],fun x=>SQ K x.1⟩
def Aoh:Env:=eE K [(154,Acl K),(155,Acn K)] [0,1,3,4,12]
def Xz (a0:Int) (a1:Int×Int×Int):Option Int :=
  (SP K a0).bind fun y1=>((bif (!(!y1)) then SQ K a1 else some false)).bind fun y2=>(bif (bif (!y1) then true else (!y2)) then some (1:Int) else some (0:Int))
def Ak1:Mdl:=⟨[(.ro,sI),(.ro,sL)],[sI],fun x=>Xz K x.1 x.2.1⟩
def Aoi:Env:=eE K [] [0,1,2,3]
def Aco (K:Nat) (a0:Int×Int×Int):Option (tV×Int×Int) :=
  some ((a0.1,(0:Int)),a0.2)
def Ak2:Mdl:=⟨[(.ro,sL)],[sV,sV],fun x=>Aco K x.1⟩
def Aoj:Env:=eE K [] [0,1,2,3,4]
def HE (K:Nat) (a0:Int×Int×Int×Int) (a1:Int×Int):Option tV :=
  some ((w ((w (a0.1*a1.1))+(w (a0.2.1*a1.2)))),(w ((w (a0.2.2.1*a1.1))+(w (a0.2.2.2*a1.2)))))
def SR:Mdl:=⟨[(.ro,sA),(.ro,sV)],[sV],fun x=>HE K x.1 x.2.1⟩
def Aok:Env:=eE K [] [0,1,3,4]
def XA (K:Nat) (a0:Int) (a1:Int×Int):Option Int :=
  some (w ((w ((w (a1.1*a1.1))+(w ((w (a0*a1.1))*a1.2))))+(w (a1.2*a1.2))))
def Ak3:Mdl:=⟨[(.ro,sI),(.ro,sV)],[sI],fun x=>XA K x.1 x.2.1⟩
def Ov:Env:=eE K [(162,SR K),(213,Ak3 K)] [0,2,3,4,5,6,7,8,10,11,54]
def AgE (a0:Int) (L8:Int→(List tA)→Option (List tA)) (q9:Int) (q10:List tA):Option (List tA) :=
  (bif (decide (q9<(81:Int))) then (HE K ((w ((w (q9.tdiv (27:Int)))-(1:Int))),(w (((w (q9.tdiv (9:Int))).tmod (3:Int))-(1:Int))),(w (((w (q9.tdiv (3:Int))).tmod (3:Int))-(1:Int))),(w ((q9.tmod (3:Int))-(1:Int)))) ((1:Int),(0:Int))).bind fun y11=>(HE K ((w ((w (q9.tdiv (27:Int)))-(1:Int))),(w (((w (q9.tdiv (9:Int))).tmod (3:Int))-(1:Int))),(w (((w (q9.tdiv (3:Int))).tmod (3:Int))-(1:Int))),(w ((q9.tmod (3:Int))-(1:Int)))) ((0:Int),(1:Int))).bind fun y12=>(HE K ((w ((w (q9.tdiv (27:Int)))-(1:Int))),(w (((w (q9.tdiv (9:Int))).tmod (3:Int))-(1:Int))),(w (((w (q9.tdiv (3:Int))).tmod (3:Int))-(1:Int))),(w ((q9.tmod (3:Int))-(1:Int)))) ((1:Int),(1:Int))).bind fun y13=>(XA K a0 y11).bind fun y14=>((bif (y14==(1:Int)) then XA K a0 y12 else some (0:Int))).bind fun y15=>((bif (bif (y14==(1:Int)) then (y15==(1:Int)) else false) then XA K a0 y13 else some (0:Int))).bind fun y16=>(bif (bif (bif (y14==(1:Int)) then (y15==(1:Int)) else false) then (y16==(w ((2:Int)+a0))) else false) then (bif (Nat.ble (q10.length+[((w ((w (q9.tdiv (27:Int)))-(1:Int))),(w (((w (q9.tdiv (9:Int))).tmod (3:Int))-(1:Int))),(w (((w (q9.tdiv (3:Int))).tmod (3:Int))-(1:Int))),(w ((q9.tmod (3:Int))-(1:Int))))].length) (lim 32)) then L8 (w (q9+(1:Int))) (q10++[((w ((w (q9.tdiv (27:Int)))-(1:Int))),(w (((w (q9.tdiv (9:Int))).tmod (3:Int))-(1:Int))),(w (((w (q9.tdiv (3:Int))).tmod (3:Int))-(1:Int))),(w ((q9.tmod (3:Int))-(1:Int))))]) else none) else L8 (w (q9+(1:Int))) q10) else some q10)
def XB (a0:Int) (n:Nat) (q9:Int) (q10:List tA):Option (List tA) :=
  AH (X:=Int×List tA) (fun L x=>AgE K a0 (fun v0 v1=>L (v0,v1)) x.1 x.2) n (q9,q10)
def Acp (K:Nat) (a0:Int) (I8:Int→(List tA)→Option (List tA)):Option (List tA) :=
  I8 (0:Int) []
def Ow (a0:Int):Option (List tA) :=
  Acp K a0 (fun d0 d1=>XB K a0 K d0 d1)
def XC:Mdl:=⟨[(.ro,sI)],[(.list 57 sA)],fun x=>Ow K x.1⟩
def AgF (a0:Int) (lr:LR (List tA)):Ex→Fr→Option (List tA) :=
  Aw (Ov K) 0 lr Aks [1,1,0,1,0] (fM (Ov K) Tryz.f158 (XC K) (a0,()))
def XD (a0:Int) (lr:LR (List tA)) (bq9:Int) (bq10:List tA):Option (List tA) :=
  lr (AF Aks [1,1,0,1,0,0]) (RR a0 bq9 bq10) (AgF K a0 lr)
def Aol:Env:=eE K [] [0,1,4]
def SS (K:Nat) (a0 a1:Int):Option Int :=
  (bif (a1 != 0) then (bif (a1 != 0) then some ((w ((a0.tmod a1)+a1)).tmod a1) else none) else none)
def Ak4:Mdl:=⟨[(.ro,sI),(.ro,sI)],[sI],fun x=>SS K x.1 x.2.1⟩
def Apt:Env:=eE K [(170,Ak4 K)] [0,1,2,3,4,5]
def Jz (a0:Int×Int×Int) (a1:Int×Int):Option tV :=
  (SS K a1.2 a0.2.2).bind fun y1=>(bif (a0.2.2 != 0) then (SS K (w (a1.1-(w ((w ((w (a1.2-y1)).tdiv a0.2.2))*a0.2.1)))) a0.1).bind fun y2=>some (y2,y1) else none)
def Qb:Mdl:=⟨[(.ro,sL),(.ro,sV)],[sV],fun x=>Jz K x.1 x.2.1⟩
def Aom:Env:=eE K [(90,Qb K)] [0,1,2,3,4]
def ST (a0:Int×Int×Int) (a1:Int×Int):Option Bool :=
  (Jz K a0 a1).bind fun y1=>some ((y1.1==(0:Int))&&(y1.2==(0:Int)))
def Ak5:Mdl:=⟨[(.ro,sL),(.ro,sV)],[.bool],fun x=>ST K x.1 x.2.1⟩
def Aon:Env:=eE K [(162,SR K),(259,Ak5 K)] [0,1,2,3,4,5]
def XE (a0:Int×Int×Int×Int) (a1:Int×Int×Int) (a2 a3:Int×Int):Option Bool :=
  (HE K a0 a2).bind fun y1=>(ST K a1 y1).bind fun y2=>((bif (!(!y2)) then HE K a0 a3 else some ((0:Int),(0:Int)))).bind fun y3=>((bif (!(!y2)) then ST K a1 y3 else some false)).bind fun y4=>some (bif (!y2) then true else (!y4))
def Acq:Mdl:=⟨[(.ro,sA),(.cap,sL),(.cap,sV),(.cap,sV)],[.bool],fun x=>XE K x.1 x.2.1 x.2.2.1 x.2.2.2.1⟩
def Ox:Env:=eE K [] [0,1,4,5,7,8,9,16]
def KX (K:Nat) (a0:List tA) (a1:(tA→Option Bool)) (L3:Int→Option Int) (q4:Int):Option Int :=
  (bif (decide (q4<(a0.length:Int))) then (bif (decide (0≤q4)&&decide (q4<(a0.length:Int))) then (a1 ((a0.getD ((0:Int)+q4).toNat zA).1,((a0.getD ((0:Int)+q4).toNat zA).2).1,(((a0.getD ((0:Int)+q4).toNat zA).2).2))).bind fun y5=>(bif y5 then some q4 else L3 (w (q4+(1:Int)))) else none) else some (-1:Int))
def Qc (a0:List tA) (a1:(tA→Option Bool)) (n:Nat) (q4:Int):Option Int :=
  AH (X:=Int) (fun L x=>KX K a0 a1 (fun v0=>L v0) x) n q4
def U7 (K:Nat) (a0:List tA) (a1:(tA→Option Bool)) (I3:Int→Option Int):Option Int :=
  I3 (0:Int)
def SU (a0:List tA) (a1:(tA→Option Bool)):Option Int :=
  U7 K a0 a1 (fun d0=>Qc K a0 a1 K d0)
def XF:Mdl:=⟨[(.ro,(.list 57 sA)),(.ro,(.fn1 sA .bool))],[sI],fun x=>SU K x.1 x.2.1⟩
def AgG (a0:List tA) (a1:(tA→Option Bool)) (lr:LR Int):Ex→Fr→Option Int :=
  Aw (Ox K) 1 lr Akt [1,0,1,0] (fM (Ox K) Tryz.f274 (XF K) (a0,a1,()))
def XG (a0:List tA) (a1:(tA→Option Bool)) (lr:LR Int) (bq4:Int):Option Int :=
  lr (AF Akt [1,0,1,0,0]) (RS a0 a1 bq4) (AgG K a0 a1 lr)
def Oy:Env:=eE K [(274,XF K)] [0,1,4,5,6,7,12,19,29]
def KY (K:Nat) (a1:(tA→Option Bool)) (y1:Int) (L4:Int→Int→(List tA)→Option (List tA)) (q5 q6:Int) (q7:List tA):Option (List tA) :=
  (bif (decide (q6<(q7.length:Int))) then (bif (decide (0≤q6)&&decide (q6<(q7.length:Int))) then (a1 ((q7.getD ((0:Int)+q6).toNat zA).1,((q7.getD ((0:Int)+q6).toNat zA).2).1,(((q7.getD ((0:Int)+q6).toNat zA).2).2))).bind fun y8=>(bif (!y8) then (bif (decide (0≤q5)&&decide (q5<(q7.length:Int))) then L4 (w (q5+(1:Int))) (w (q6+(1:Int))) (q7.set ((0:Int)+q5).toNat ((q7.getD ((0:Int)+q6).toNat zA).1,((q7.getD ((0:Int)+q6).toNat zA).2).1,(((q7.getD ((0:Int)+q6).toNat zA).2).2))) else none) else L4 q5 (w (q6+(1:Int))) q7) else none) else (bif (decide (0≤q5)&&decide (q5≤(q7.length:Int))&&decide ((q7.length:Int)≤(q7.length:Int))) then (bif (decide (0≤(0:Int))&&decide ((0:Int)≤q5)&&decide (q5≤((clr q7 ((0:Int)+q5).toNat (((0:Int)+q5)+(((0:Int)+(q7.length:Int))-((0:Int)+q5))).toNat zA).length:Int))) then some ((clr q7 ((0:Int)+q5).toNat (((0:Int)+q5)+(((0:Int)+(q7.length:Int))-((0:Int)+q5))).toNat zA).take ((0:Int)+q5).toNat) else none) else none))
def Qd (a1:(tA→Option Bool)) (y1:Int) (n:Nat) (q5 q6:Int) (q7:List tA):Option (List tA) :=
  AH (X:=Int×Int×List tA) (fun L x=>KY K a1 y1 (fun v0 v1 v2=>L (v0,v1,v2)) x.1 x.2.1 x.2.2) n (q5,q6,q7)
def U8 (a0:List tA) (a1:(tA→Option Bool)) (I4:Int→Int→Int→(List tA)→Option (List tA)):Option (List tA) :=
  (SU K a0 a1).bind fun y1=>(bif (y1==(-1:Int)) then some a0 else I4 y1 y1 (w (y1+(1:Int))) a0)
def SV (a0:List tA) (a1:(tA→Option Bool)):Option (List tA) :=
  U8 K a0 a1 (fun c0 d0 d1 d2=>Qd K a1 c0 K d0 d1 d2)
def XH:Mdl:=⟨[(.mv,(.list 57 sA)),(.ro,(.fn1 sA .bool))],[(.list 57 sA)],fun x=>SV K x.1 x.2.1⟩
def AgH (a0:List tA) (a1:(tA→Option Bool)) (lr:LR (List tA)):Ex→Fr→Option (List tA) :=
  Aw (Oy K) 1 lr Aku [1,1,1,0,1,0] (fM (Oy K) Tryz.f257 (XH K) (a0,a1,()))
def XI (a0:List tA) (a1:(tA→Option Bool)) (lr:LR (List tA)) (y1 bq5 bq6:Int) (bq7:List tA):Option (List tA) :=
  lr (AF Aku [1,1,1,0,1,0,0]) (RU a1 y1 bq5 bq6 bq7) (AgH K a0 a1 lr)
def Aoo:Env:=⟨[(158,XC K),(160,Ak2 K),(257,XH K),(258,Acq K)],tys,eqs,mts,K,[0,1,3,4,5,6],[],[],[],[],[(258,Acq K)],[],false⟩
def XJ (a0:Int) (a1:Int×Int×Int):Option (List tA) :=
  (Aco K a1).bind fun y1=>(Ow K a0).bind fun y2=>(SV K y2 (fun z3=>XE K z3 a1 y1.1 y1.2)).bind fun y4=>some y4
def Ak6:Mdl:=⟨[(.ro,sI),(.ro,sL)],[(.list 57 sA)],fun x=>XJ K x.1 x.2.1⟩
def Oz:Env:=eE K [] [0,1,3,4,5,7,8,9,16]
def KZ (K:Nat) (a0:List tA) (a1:Int×Int×Int×Int) (L2:Int→Option Int) (q3:Int):Option Int :=
  (bif (decide (q3<(a0.length:Int))) then (bif (decide (0≤q3)&&decide (q3<(a0.length:Int))) then (bif ((a1.1==(a0.getD ((0:Int)+q3).toNat zA).1)&&((a1.2.1==((a0.getD ((0:Int)+q3).toNat zA).2).1)&&((a1.2.2.1==(((a0.getD ((0:Int)+q3).toNat zA).2).2).1)&&(a1.2.2.2==(((a0.getD ((0:Int)+q3).toNat zA).2).2).2)))) then some q3 else L2 (w (q3+(1:Int)))) else none) else some (-1:Int))
def Qe (a0:List tA) (a1:Int×Int×Int×Int) (n:Nat) (q3:Int):Option Int :=
  AH (X:=Int) (fun L x=>KZ K a0 a1 (fun v0=>L v0) x) n q3
def U9 (K:Nat) (a0:List tA) (a1:Int×Int×Int×Int) (I2:Int→Option Int):Option Int :=
  I2 (0:Int)
def SX (a0:List tA) (a1:Int×Int×Int×Int):Option Int :=
  U9 K a0 a1 (fun d0=>Qe K a0 a1 K d0)
def XK:Mdl:=⟨[(.ro,(.list 57 sA)),(.ro,sA)],[sI],fun x=>SX K x.1 x.2.1⟩
def AgI (a0:List tA) (a1:Int×Int×Int×Int) (lr:LR Int):Ex→Fr→Option Int :=
  Aw (Oz K) 1 lr Akv [1,0,1,0] (fM (Oz K) Tryz.f212 (XK K) (a0,a1,()))
def XL (a0:List tA) (a1:Int×Int×Int×Int) (lr:LR Int) (bq3:Int):Option Int :=
  lr (AF Akv [1,0,1,0,0]) (RV a0 a1 bq3) (AgI K a0 a1 lr)
def Aop:Env:=eE K [(212,XK K)] [0,1,3,4]
def XM (a0:List tA) (a1:Int×Int×Int×Int):Option Bool :=
  (SX K a0 a1).bind fun y1=>some (decide (y1≥(0:Int)))
def Ak7:Mdl:=⟨[(.ro,(.list 57 sA)),(.ro,sA)],[.bool],fun x=>XM K x.1 x.2.1⟩
def OA:Env:=eE K [] [0,1,4,5,7,8,9,19,28]
def Qf (K:Nat) (a0 a1:List Int) (L2:Int→Option Int) (q3:Int):Option Int :=
  (bif (decide (q3<(a0.length:Int))) then (bif (decide (0≤q3)&&decide (q3<(a0.length:Int))) then (bif (decide (0≤q3)&&decide (q3<(a1.length:Int))) then (bif ((a0.getD ((0:Int)+q3).toNat (0:Int)) != (a1.getD ((0:Int)+q3).toNat (0:Int))) then (bif (decide (0≤q3)&&decide (q3<(a0.length:Int))) then (bif (decide (0≤q3)&&decide (q3<(a1.length:Int))) then (bif (decide ((a0.getD ((0:Int)+q3).toNat (0:Int))<(a1.getD ((0:Int)+q3).toNat (0:Int)))) then some (-1:Int) else some (1:Int)) else none) else none) else L2 (w (q3+(1:Int)))) else none) else none) else some (0:Int))
def K0 (a0 a1:List Int) (n:Nat) (q3:Int):Option Int :=
  AH (X:=Int) (fun L x=>Qf K a0 a1 (fun v0=>L v0) x) n q3
def Va (K:Nat) (a0 a1:List Int) (I2:Int→Option Int):Option Int :=
  I2 (0:Int)
def OB (a0 a1:List Int):Option Int :=
  Va K a0 a1 (fun d0=>K0 K a0 a1 K d0)
def SY:Mdl:=⟨[(.ro,(.list 2 sI)),(.ro,(.list 2 sI))],[sI],fun x=>OB K x.1 x.2.1⟩
def AgJ (a0 a1:List Int) (lr:LR Int):Ex→Fr→Option Int :=
  Aw (OA K) 2 lr Akw [1,0,1,0] (fM (OA K) Tryz.f190 (SY K) (a0,a1,()))
def XN (a0 a1:List Int) (lr:LR Int) (bq3:Int):Option Int :=
  lr (AF Akw [1,0,1,0,0]) (RW a0 a1 bq3) (AgJ K a0 a1 lr)
def Aoq:Env:=eE K [(190,SY K)] [0,1,2,3,4]
def Acr (a0 a1:Int×Int×Int×Int):Option Int :=
  (OB K [a0.1,a0.2.1,a0.2.2.1,a0.2.2.2] [a1.1,a1.2.1,a1.2.2.1,a1.2.2.2]).bind fun y1=>some y1
def Ak8:Mdl:=⟨[(.ro,sA),(.ro,sA)],[sI],fun x=>Acr K x.1 x.2.1⟩
def Aor:Env:=eE K [(190,SY K)] [0,1,2,3,4]
def Ke (a0 a1:Int×Int):Option Int :=
  (OB K [a0.1,a0.2] [a1.1,a1.2]).bind fun y1=>some y1
def XO:Mdl:=⟨[(.ro,sV),(.ro,sV)],[sI],fun x=>Ke K x.1 x.2.1⟩
def Aos:Env:=eE K [(127,XO K),(245,Ak8 K)] [0,1,2,3,4,5,12]
def XP (a0 a1:tA×Int×Int):Option Int :=
  (Acr K a0.1 a1.1).bind fun y1=>(bif (y1 != (0:Int)) then some y1 else (Ke K a0.2 a1.2).bind fun y2=>some y2)
def Ak9:Mdl:=⟨[(.ro,sM),(.ro,sM)],[sI],fun x=>XP K x.1 x.2.1⟩
def Aot:Env:=eE K [] [0]
def Acs (K:Nat):Option tA :=
  some ((1:Int),(0:Int),(0:Int),(1:Int))
def Ala:Mdl:=⟨[],[sA],fun x=>Acs K ⟩
def Aou:Env:=eE K [] [0,1,2,3,4]
def Acu (K:Nat) (a0 a1:Int×Int×Int×Int):Option tA :=
  some ((w ((w (a0.1*a1.1))+(w (a0.2.1*a1.2.2.1)))),(w ((w (a0.1*a1.2.1))+(w (a0.2.1*a1.2.2.2)))),(w ((w (a0.2.2.1*a1.1))+(w (a0.2.2.2*a1.2.2.1)))),(w ((w (a0.2.2.1*a1.2.1))+(w (a0.2.2.2*a1.2.2.2)))))
def Alb:Mdl:=⟨[(.ro,sA),(.ro,sA)],[sA],fun x=>Acu K x.1 x.2.1⟩
def Aov:Env:=eE K [] [0,1,2,3,4]
def SZ (K:Nat) (a0 a1:Int×Int):Option tV :=
  some ((w (a0.1+a1.1)),(w (a0.2+a1.2)))
def Acv:Mdl:=⟨[(.ro,sV),(.ro,sV)],[sV],fun x=>SZ K x.1 x.2.1⟩
def Aow:Env:=eE K [(162,SR K),(214,Acv K),(236,Alb K)] [0,1,2,3,4]
def XQ (a0 a1:tA×Int×Int):Option tM :=
  (Acu K a0.1 a1.1).bind fun y1=>(HE K a0.1 a1.2).bind fun y2=>(SZ K y2 a0.2).bind fun y3=>some (y1,y3)
def Alc:Mdl:=⟨[(.ro,sM),(.ro,sM)],[sM],fun x=>XQ K x.1 x.2.1⟩
def Aox:Env:=eE K [(90,Qb K)] [0,1,2,3,4]
def XR (a0:Int×Int×Int) (a1:tA×Int×Int):Option tM :=
  (Jz K a0 a1.2).bind fun y1=>some (a1.1,y1)
def Ald:Mdl:=⟨[(.ro,sL),(.ro,sM)],[sM],fun x=>XR K x.1 x.2.1⟩
def EL:Env:=eE K [(90,Qb K),(157,Ak7 K),(192,Ald K),(193,Alc K),(197,Ak9 K),(223,Ak6 K),(224,Ala K)] [0,1,2,4,6,7,8,9,10,12,14,19,20,21,22,53,61,62,63,64,65,68,69,70,71,81]
def Iq (a0:Int) (a1:Int×Int×Int) (a2:List tM) (q7:Int) (q8:List (tM×Bool)) (q22:Int) (y1:List tA) (y12:Int×Int×Int×Int) (L21 L23:Int→Option Bool) (q24:Int):Option Bool :=
  (bif (decide (q24<(a2.length:Int))) then (bif (decide (0≤q24)&&decide (q24<(a2.length:Int))) then (XQ K ((((a2.getD ((0:Int)+q22).toNat zM).1).1,(((a2.getD ((0:Int)+q22).toNat zM).1).2).1,((((a2.getD ((0:Int)+q22).toNat zM).1).2).2)),((a2.getD ((0:Int)+q22).toNat zM).2)) ((((a2.getD ((0:Int)+q24).toNat zM).1).1,(((a2.getD ((0:Int)+q24).toNat zM).1).2).1,((((a2.getD ((0:Int)+q24).toNat zM).1).2).2)),((a2.getD ((0:Int)+q24).toNat zM).2))).bind fun y25=>(XR K a1 y25).bind fun y26=>(bif (!((B5 (A7 sM) q8 y26).getD false)) then some false else L23 (w (q24+(1:Int)))) else none) else L21 (w (q22+(1:Int))))
def Gp (a0:Int) (a1:Int×Int×Int) (a2:List tM) (q7:Int) (q8:List (tM×Bool)) (q22:Int) (y1:List tA) (y12:Int×Int×Int×Int) (L21:Int→Option Bool) (n:Nat) (q24:Int):Option Bool :=
  AH (X:=Int) (fun L x=>Iq K a0 a1 a2 q7 q8 q22 y1 y12 L21 (fun v0=>L v0) x) n q24
def Gq (K:Nat) (a0:Int) (a1:Int×Int×Int) (a2:List tM) (q7:Int) (q8:List (tM×Bool)) (y1:List tA) (y12:Int×Int×Int×Int) (I23:Int→Int→Option Bool) (L21:Int→Option Bool) (q22:Int):Option Bool :=
  (bif (decide (q22<(a2.length:Int))) then (bif (decide (0≤q22)&&decide (q22<(a2.length:Int))) then I23 q22 (0:Int) else none) else some true)
def Gr (a0:Int) (a1:Int×Int×Int) (a2:List tM) (q7:Int) (q8:List (tM×Bool)) (y1:List tA) (y12:Int×Int×Int×Int) (n:Nat) (q22:Int):Option Bool :=
  AH (X:=Int) (fun L x=>(fun L21=>Gq K a0 a1 a2 q7 q8 y1 y12 (fun c0 d0=>Gp K a0 a1 a2 q7 q8 c0 y1 y12 L21 K d0) L21 x) (fun v0=>L v0)) n q22
def Ek (a0:Int) (a1:Int×Int×Int) (a2:List tM) (y1:List tA) (I21:Int→(List (tM×Bool))→(List tA)→tA→Int→Option Bool) (L6:Int→(List (tM×Bool))→Option Bool) (q7:Int) (q8:List (tM×Bool)):Option Bool :=
  (bif (decide (q7<(a2.length:Int))) then (bif (decide (0≤q7)&&decide (q7<(a2.length:Int))) then (XM K y1 (((a2.getD ((0:Int)+q7).toNat zM).1).1,(((a2.getD ((0:Int)+q7).toNat zM).1).2).1,((((a2.getD ((0:Int)+q7).toNat zM).1).2).2))).bind fun y9=>((bif (!(!y9)) then Jz K a1 ((a2.getD ((0:Int)+q7).toNat zM).2) else some ((0:Int),(0:Int)))).bind fun y10=>(bif ((decide (0≤(w (q7-(1:Int))))&&decide ((w (q7-(1:Int)))<(a2.length:Int)))||(!((!(bif (!y9) then true else (!((y10.1==((a2.getD ((0:Int)+q7).toNat zM).2).1)&&(y10.2==((a2.getD ((0:Int)+q7).toNat zM).2).2)))))&&(decide (q7>(0:Int)))))) then ((bif ((!(bif (!y9) then true else (!((y10.1==((a2.getD ((0:Int)+q7).toNat zM).2).1)&&(y10.2==((a2.getD ((0:Int)+q7).toNat zM).2).2)))))&&(decide (q7>(0:Int)))) then XP K ((((a2.getD ((0:Int)+(w (q7-(1:Int)))).toNat zM).1).1,(((a2.getD ((0:Int)+(w (q7-(1:Int)))).toNat zM).1).2).1,((((a2.getD ((0:Int)+(w (q7-(1:Int)))).toNat zM).1).2).2)),((a2.getD ((0:Int)+(w (q7-(1:Int)))).toNat zM).2)) ((((a2.getD ((0:Int)+q7).toNat zM).1).1,(((a2.getD ((0:Int)+q7).toNat zM).1).2).1,((((a2.getD ((0:Int)+q7).toNat zM).1).2).2)),((a2.getD ((0:Int)+q7).toNat zM).2)) else some (0:Int))).bind fun y11=>(bif (bif (bif (!y9) then true else (!((y10.1==((a2.getD ((0:Int)+q7).toNat zM).2).1)&&(y10.2==((a2.getD ((0:Int)+q7).toNat zM).2).2)))) then true else (bif (decide (q7>(0:Int))) then (decide (y11≥(0:Int))) else false)) then some false else L6 (w (q7+(1:Int))) (FM (A7 sM) q8 ((((a2.getD ((0:Int)+q7).toNat zM).1).1,(((a2.getD ((0:Int)+q7).toNat zM).1).2).1,((((a2.getD ((0:Int)+q7).toNat zM).1).2).2)),((a2.getD ((0:Int)+q7).toNat zM).2)) true)) else none) else none) else (Acs K).bind fun y12=>(bif (!((B5 (A7 sM) q8 (y12,(0:Int),(0:Int))).getD false)) then some false else I21 q7 q8 y1 y12 (0:Int)))
def Qg (a0:Int) (a1:Int×Int×Int) (a2:List tM) (y1:List tA) (n:Nat) (q7:Int) (q8:List (tM×Bool)):Option Bool :=
  AH (X:=Int×List (tM×Bool)) (fun L x=>Ek K a0 a1 a2 y1 (fun c0 c1 c2 c3 d0=>Gr K a0 a1 a2 c0 c1 c2 c3 K d0) (fun v0 v1=>L (v0,v1)) x.1 x.2) n (q7,q8)
def Vb (a0:Int) (a1:Int×Int×Int) (a2:List tM) (I6:(List tA)→Int→(List (tM×Bool))→Option Bool):Option Bool :=
  (XJ K a0 a1).bind fun y1=>I6 y1 (0:Int) []
def S0 (a0:Int) (a1:Int×Int×Int) (a2:List tM):Option Bool :=
  Vb K a0 a1 a2 (fun c0 d0 d1=>Qg K a0 a1 a2 c0 K d0 d1)
def S1:Mdl:=⟨[(.ro,sI),(.ro,sL),(.ro,(.list 59 sM))],[.bool],fun x=>S0 K x.1 x.2.1 x.2.2.1⟩
def AgK (a0:Int) (a1:Int×Int×Int) (a2:List tM) (lr:LR Bool):Ex→Fr→Option Bool :=
  Aw (EL K) 1 lr N4 [1,1,0,1,0] (fM (EL K) Tryz.f186 (S1 K) (a0,a1,a2,()))
def XS (a0:Int) (a1:Int×Int×Int) (a2:List tM) (lr:LR Bool) (y1:List tA) (bq7:Int) (bq8:List (tM×Bool)):Option Bool :=
  lr (AF N4 [1,1,0,1,0,0]) (LU a0 a1 a2 y1 bq7 bq8) (AgK K a0 a1 a2 lr)
def S2 (a0:Int) (a1:Int×Int×Int) (a2:List tM) (lr:LR Bool):Ex→Fr→Option Bool :=
  Aw (EL K) 1 lr N4 [1,1,1,1,0,1,0] (fM (EL K) Tryz.f186 (S1 K) (a0,a1,a2,()))
def S3 (a0:Int) (a1:Int×Int×Int) (a2:List tM) (lr:LR Bool) (q7:Int) (q8:List (tM×Bool)) (y1:List tA) (y12:Int×Int×Int×Int) (bq22:Int):Option Bool :=
  lr (AF N4 [1,1,1,1,0,1,0,0]) (EH a0 a1 a2 q7 q8 y1 y12 bq22) (S2 K a0 a1 a2 lr)
def Acw (a0:Int) (a1:Int×Int×Int) (a2:List tM) (q7:Int) (q8:List (tM×Bool)) (y1:List tA) (y12:Int×Int×Int×Int) (F21:Fr→Option Bool) (bq22:Int) (lr:LR Bool):Ex→Fr→Option Bool :=
  Aw (EL K) 1 lr (AF N4 [1,1,1,1,0,1,0,0]) [1,1,0,0,1,1,0] (Da 1 (EH a0 a1 a2 q7 q8 y1 y12 bq22) F21 (S2 K a0 a1 a2 lr))
def S4 (a0:Int) (a1:Int×Int×Int) (a2:List tM) (q7:Int) (q8:List (tM×Bool)) (y1:List tA) (y12:Int×Int×Int×Int) (F21:Fr→Option Bool) (bq22:Int) (lr:LR Bool) (q22 bq24:Int):Option Bool :=
  lr (AF N4 [1,1,1,1,0,1,0,0,1,1,0,0,1,1,0,0]) (N5 a0 a1 a2 q7 q8 q22 y1 y12 bq24) (Acw K a0 a1 a2 q7 q8 y1 y12 F21 bq22 lr)
def OD:Env:=eE K [(185,Ak1 K),(186,S1 K)] [0,1,2,4,6,7,9,14,16,17,18,19,26]
def Qh (a0:Int) (a1:Int×Int×Int) (a2:List (List tM)) (y1:Int) (L4:Int→Option Int) (q5:Int):Option Int :=
  (bif (decide (q5<(a2.length:Int))) then (bif (decide (0≤q5)&&decide (q5<(a2.length:Int))) then (S0 K a0 a1 (a2.getD ((0:Int)+q5).toNat [])).bind fun y6=>(bif (!y6) then some (2:Int) else L4 (w (q5+(1:Int)))) else none) else some (0:Int))
def Qi (a0:Int) (a1:Int×Int×Int) (a2:List (List tM)) (y1:Int) (n:Nat) (q5:Int):Option Int :=
  AH (X:=Int) (fun L x=>Qh K a0 a1 a2 y1 (fun v0=>L v0) x) n q5
def Vd (a0:Int) (a1:Int×Int×Int) (a2:List (List tM)) (I4:Int→Int→Option Int):Option Int :=
  (Xz K a0 a1).bind fun y1=>(bif (y1 != (0:Int)) then some y1 else I4 y1 (0:Int))
def Mg (a0:Int) (a1:Int×Int×Int) (a2:List (List tM)):Option Int :=
  Vd K a0 a1 a2 (fun c0 d0=>Qi K a0 a1 a2 c0 K d0)
def S5:Mdl:=⟨[(.ro,sI),(.ro,sL),(.ro,(.list 32 (.list 59 sM)))],[sI],fun x=>Mg K x.1 x.2.1 x.2.2.1⟩
def AgL (a0:Int) (a1:Int×Int×Int) (a2:List (List tM)) (lr:LR Int):Ex→Fr→Option Int :=
  Aw (OD K) 1 lr Akx [1,1,0,1,0] (fM (OD K) Tryz.f121 (S5 K) (a0,a1,a2,()))
def XT (a0:Int) (a1:Int×Int×Int) (a2:List (List tM)) (lr:LR Int) (y1 bq5:Int):Option Int :=
  lr (AF Akx [1,1,0,1,0,0]) (RX a0 a1 a2 y1 bq5) (AgL K a0 a1 a2 lr)
def Aoy:Env:=eE K [(172,Ou K)] [0,2]
def XU (a0:Int):Option Bool :=
  (HD K a0 (-1000:Int) (1000:Int)).bind fun y1=>some y1
def Ale:Mdl:=⟨[(.ro,sI)],[.bool],fun x=>XU K x.1⟩
def Apu:Env:=eE K [(159,Ale K)] [0,1,2]
def Acx (a0:Int×Int):Option Bool :=
  (XU K a0.1).bind fun y1=>((bif y1 then XU K a0.2 else some false)).bind fun y2=>some (bif y1 then y2 else false)
def AlQ:Mdl:=⟨[(.ro,sV)],[.bool],fun x=>Acx K x.1⟩
def Apv:Env:=eE K [(172,Ou K)] [0,2]
def Acy (a0:Int):Option Bool :=
  (HD K a0 (0:Int) (9:Int)).bind fun y1=>some y1
def AlR:Mdl:=⟨[(.ro,sI)],[.bool],fun x=>Acy K x.1⟩
def Aoz:Env:=eE K [(76,AlQ K),(96,AlR K)] [0,1,2]
def S6 (a0:tV×Int):Option Bool :=
  (Acx K a0.1).bind fun y1=>((bif (!(!y1)) then Acy K a0.2 else some false)).bind fun y2=>some (bif (!y1) then true else (!y2))
def Acz:Mdl:=⟨[(.ro,(.cons sV sI))],[.bool],fun x=>S6 K x.1⟩
def OE:Env:=eE K [] [0,1,4,5,7,8,9,16]
def K1 (K:Nat) (a0:List (tV×Int)) (a1:((tV×Int)→Option Bool)) (L3:Int→Option Int) (q4:Int):Option Int :=
  (bif (decide (q4<(a0.length:Int))) then (bif (decide (0≤q4)&&decide (q4<(a0.length:Int))) then (a1 (((a0.getD ((0:Int)+q4).toNat (((0:Int),(0:Int)),(0:Int))).1),(a0.getD ((0:Int)+q4).toNat (((0:Int),(0:Int)),(0:Int))).2)).bind fun y5=>(bif y5 then some q4 else L3 (w (q4+(1:Int)))) else none) else some (-1:Int))
def Qj (a0:List (tV×Int)) (a1:((tV×Int)→Option Bool)) (n:Nat) (q4:Int):Option Int :=
  AH (X:=Int) (fun L x=>K1 K a0 a1 (fun v0=>L v0) x) n q4
def Ve (K:Nat) (a0:List (tV×Int)) (a1:((tV×Int)→Option Bool)) (I3:Int→Option Int):Option Int :=
  I3 (0:Int)
def XV (a0:List (tV×Int)) (a1:((tV×Int)→Option Bool)):Option Int :=
  Ve K a0 a1 (fun d0=>Qj K a0 a1 K d0)
def XW:Mdl:=⟨[(.ro,(.list 84 (.cons sV sI))),(.ro,(.fn1 (.cons sV sI) .bool))],[sI],fun x=>XV K x.1 x.2.1⟩
def AgM (a0:List (tV×Int)) (a1:((tV×Int)→Option Bool)) (lr:LR Int):Ex→Fr→Option Int :=
  Aw (OE K) 1 lr Aky [1,0,1,0] (fM (OE K) Tryz.f168 (XW K) (a0,a1,()))
def XX (a0:List (tV×Int)) (a1:((tV×Int)→Option Bool)) (lr:LR Int) (bq4:Int):Option Int :=
  lr (AF Aky [1,0,1,0,0]) (RY a0 a1 bq4) (AgM K a0 a1 lr)
def Apw:Env:=eE K [(168,XW K)] [0,1,4]
def Z8 (a0:List (tV×Int)) (a1:((tV×Int)→Option Bool)):Option Bool :=
  (XV K a0 a1).bind fun y1=>some (decide (y1≥(0:Int)))
def AgN:Mdl:=⟨[(.ro,(.list 84 (.cons sV sI))),(.ro,(.fn1 (.cons sV sI) .bool))],[.bool],fun x=>Z8 K x.1 x.2.1⟩
def Apx:Env:=⟨[(87,AgN K),(111,Acz K)],tys,eqs,mts,K,[0,2],[],[],[],[],[(111,Acz K)],[],false⟩
def Z9 (a0:List (tV×Int)):Option Bool :=
  ((bif (decide ((a0.length:Int)≤(40:Int))) then Z8 K a0 (fun z1=>S6 K z1) else some false)).bind fun y2=>some (bif (decide ((a0.length:Int)≤(40:Int))) then (!y2) else false)
def AgO:Mdl:=⟨[(.ro,(.list 84 (.cons sV sI)))],[.bool],fun x=>Z9 K x.1⟩
def Apy:Env:=eE K [(42,AgO K),(121,S5 K)] [0,1,2,3,5,8,9,16,20]
def Aaa (a0:Int) (a1:Int×Int×Int) (a2:List tM) (a3:List (tV×Int)):Option Int :=
  (Mg K a0 a1 [a2]).bind fun y1=>(bif (y1 != (0:Int)) then some y1 else (Z9 K a3).bind fun y2=>(bif (!y2) then some (2:Int) else some (0:Int)))
def AgP:Mdl:=⟨[(.ro,sI),(.ro,sL),(.ro,(.list 59 sM)),(.ro,(.list 84 (.cons sV sI)))],[sI],fun x=>Aaa K x.1 x.2.1 x.2.2.1 x.2.2.2.1⟩
omit K
def AcA (K:Nat) (a0 a1:Int):Option tV:=AfH a0 a1
def Alf (K:Nat):Mdl:=⟨[(.ro,(.int .u64)),(.ro,(.int .u64))],[(.int .u64),(.int .u64)],fun x=>AcA K x.1 x.2.1⟩
include K
def OG:Env:=eE K [(218,Alf K)] [0,1,4,5,6,7,8,10,26,37]
def Qk (K:Nat) (a0:List Int) (a1:Int) (y1:Int×Int) (L3:Int→(List Int)→Option (List Int)) (q4:Int) (q5:List Int):Option (List Int) :=
  (bif (decide (q4<(q5.length:Int))) then (bif (decide (0≤q4)&&decide (q4≤(q5.length:Int))&&decide ((q5.length:Int)≤(q5.length:Int))) then (bif (decide (0≤(0:Int))&&decide ((0:Int)≤q4)&&decide (q4≤(q5.length:Int))) then L3 (w (q4+(bif decide ((((0:Int)+(q5.length:Int))-((0:Int)+q4))≤(((0:Int)+q4)-(0:Int))) then (((0:Int)+(q5.length:Int))-((0:Int)+q4)) else (((0:Int)+q4)-(0:Int))))) (q5.take ((0:Int)+q4).toNat++((q5.take ((0:Int)+(((0:Int)+q4)-(0:Int))).toNat).drop 0).take (bif decide ((((0:Int)+(q5.length:Int))-((0:Int)+q4))≤(((0:Int)+q4)-(0:Int))) then (((0:Int)+(q5.length:Int))-((0:Int)+q4)) else (((0:Int)+q4)-(0:Int))).toNat++q5.drop (((0:Int)+q4).toNat+(bif decide ((((0:Int)+(q5.length:Int))-((0:Int)+q4))≤(((0:Int)+q4)-(0:Int))) then (((0:Int)+(q5.length:Int))-((0:Int)+q4)) else (((0:Int)+q4)-(0:Int))).toNat)) else none) else none) else some q5)
def K2 (a0:List Int) (a1:Int) (y1:Int×Int) (n:Nat) (q4:Int) (q5:List Int):Option (List Int) :=
  AH (X:=Int×List Int) (fun L x=>Qk K a0 a1 y1 (fun v0 v1=>L (v0,v1)) x.1 x.2) n (q4,q5)
def Vf (a0:List Int) (a1:Int) (I3:tV→Int→(List Int)→Option (List Int)):Option (List Int) :=
  (bif (decide (a1<(0:Int))) then none else (AcA K (IntKind.u64.wrap (a0.length:Int)) (IntKind.u64.wrap a1)).bind fun y1=>(bif (bif (decide (y1.1>(0:Int))) then true else (decide (y1.2>(9223372036854775807:Int)))) then none else (bif (decide (0≤(w y1.2))&&Nat.ble (w y1.2).toNat (lim 8)&&((w y1.2)==(w y1.2))) then I3 y1 (bif decide (((List.replicate (w y1.2).toNat (0:Int)).length:Int)≤(a0.length:Int)) then ((List.replicate (w y1.2).toNat (0:Int)).length:Int) else (a0.length:Int)) ((List.replicate (w y1.2).toNat (0:Int)).take 0++((a0.take ((0:Int)+(a0.length:Int)).toNat).drop 0).take (bif decide (((List.replicate (w y1.2).toNat (0:Int)).length:Int)≤(a0.length:Int)) then ((List.replicate (w y1.2).toNat (0:Int)).length:Int) else (a0.length:Int)).toNat++(List.replicate (w y1.2).toNat (0:Int)).drop (0+(bif decide (((List.replicate (w y1.2).toNat (0:Int)).length:Int)≤(a0.length:Int)) then ((List.replicate (w y1.2).toNat (0:Int)).length:Int) else (a0.length:Int)).toNat)) else none)))
def S7 (a0:List Int) (a1:Int):Option (List Int) :=
  Vf K a0 a1 (fun c0 d0 d1=>K2 K a0 a1 c0 K d0 d1)
def XY:Mdl:=⟨[(.ro,(.list 2 sI)),(.ro,sI)],[(.list 2 sI)],fun x=>S7 K x.1 x.2.1⟩
def AgQ (a0:List Int) (a1:Int) (lr:LR (List Int)):Ex→Fr→Option (List Int) :=
  Aw (OG K) 1 lr Akz [1,1,1,1,1,1,0,0] (fM (OG K) Tryz.f166 (XY K) (a0,a1,()))
def XZ (a0:List Int) (a1:Int) (lr:LR (List Int)) (y1:Int×Int) (bq4:Int) (bq5:List Int):Option (List Int) :=
  lr (AF Akz [1,1,1,1,1,1,0,0,0]) (RZ a0 a1 y1 bq4 bq5) (AgQ K a0 a1 lr)
def Ql:Env:=eE K [] [0,1,2,3,4,5,8,9,10,13,14,15]
def Qm (K:Nat) (a0:Int×Int×Int) (q7:Int) (L6 L9:Int→(List tV)→Option (List tV)) (q10:Int) (q11:List tV):Option (List tV) :=
  (bif (decide (q10<a0.2.2)) then (bif (Nat.ble (q11.length+[(q7,q10)].length) (lim 16)) then L9 (w (q10+(1:Int))) (q11++[(q7,q10)]) else none) else L6 (w (q7+(1:Int))) q11)
def Mh (a0:Int×Int×Int) (q7:Int) (L6:Int→(List tV)→Option (List tV)) (n:Nat) (q10:Int) (q11:List tV):Option (List tV) :=
  AH (X:=Int×List tV) (fun L x=>Qm K a0 q7 L6 (fun v0 v1=>L (v0,v1)) x.1 x.2) n (q10,q11)
def Mi (K:Nat) (a0:Int×Int×Int) (I9:Int→Int→(List tV)→Option (List tV)) (L6:Int→(List tV)→Option (List tV)) (q7:Int) (q8:List tV):Option (List tV) :=
  (bif (decide (q7<a0.1)) then I9 q7 (0:Int) q8 else some q8)
def Vg (a0:Int×Int×Int) (n:Nat) (q7:Int) (q8:List tV):Option (List tV) :=
  AH (X:=Int×List tV) (fun L x=>(fun L6=>Mi K a0 (fun c0 d0 d1=>Mh K a0 c0 L6 K d0 d1) L6 x.1 x.2) (fun v0 v1=>L (v0,v1))) n (q7,q8)
def AcB (K:Nat) (a0:Int×Int×Int) (I6:Int→(List tV)→Option (List tV)):Option (List tV) :=
  I6 (0:Int) []
def Vh (a0:Int×Int×Int):Option (List tV) :=
  AcB K a0 (fun d0 d1=>Vg K a0 K d0 d1)
def Aab:Mdl:=⟨[(.ro,sL)],[(.list 34 sV)],fun x=>Vh K x.1⟩
def AcC (a0:Int×Int×Int) (lr:LR (List tV)):Ex→Fr→Option (List tV) :=
  Aw (Ql K) 0 lr Agf [1,1,0,1,0] (fM (Ql K) Tryz.f99 (Aab K) (a0,()))
def AcD (a0:Int×Int×Int) (lr:LR (List tV)) (bq7:Int) (bq8:List tV):Option (List tV) :=
  lr (AF Agf [1,1,0,1,0,0]) (Ig a0 bq7 bq8) (AcC K a0 lr)
def AlS (a0:Int×Int×Int) (F6:Fr→Option (List tV)) (bq7:Int) (bq8:List tV) (lr:LR (List tV)):Ex→Fr→Option (List tV) :=
  Aw (Ql K) 0 lr (AF Agf [1,1,0,1,0,0]) [1,1,0,0,1,1,0] (Da 0 (Ig a0 bq7 bq8) F6 (AcC K a0 lr))
def AcE (a0:Int×Int×Int) (F6:Fr→Option (List tV)) (bq7:Int) (bq8:List tV) (lr:LR (List tV)) (q7 bq10:Int) (bq11:List tV):Option (List tV) :=
  lr (AF Agf [1,1,0,1,0,0,1,1,0,0,1,1,0,0]) (WI a0 q7 bq10 bq11) (AlS K a0 F6 bq7 bq8 lr)
def AoA:Env:=eE K [] [0,1,2,3,4]
def HF (K:Nat) (a0:Int×Int×Int) (a1:Int×Int):Option Int :=
  some (w ((w (a1.1*a0.2.2))+a1.2))
def OH:Mdl:=⟨[(.ro,sL),(.ro,sV)],[sI],fun x=>HF K x.1 x.2.1⟩
def AoB:Env:=eE K [(162,SR K),(214,Acv K)] [0,1,2,3,4]
def S8 (a0:tA×Int×Int) (a1:Int×Int):Option tV :=
  (HE K a0.1 a1).bind fun y1=>(SZ K y1 a0.2).bind fun y2=>some y2
def AcF:Mdl:=⟨[(.ro,sM),(.ro,sV)],[sV],fun x=>S8 K x.1 x.2.1⟩
def AoC:Env:=eE K [(90,Qb K),(164,AcF K)] [0,1,2,3,4,5,6]
def X0 (a0:Int×Int×Int) (a1:tA×Int×Int) (a2:Int×Int):Option tV :=
  (S8 K a1 a2).bind fun y1=>(Jz K a0 y1).bind fun y2=>some y2
def Alg:Mdl:=⟨[(.ro,sL),(.ro,sM),(.ro,sV)],[sV],fun x=>X0 K x.1 x.2.1 x.2.2.1⟩
omit K
def X1 (K:Nat) (a0:List tV) (a1:tV→tV→Option Int):Option (List tV):=Uf sV a0 a1
def Alh (K:Nat):Mdl:=⟨[(.io,(.list 34 sV)),(.ro,(.fn2 sV sV sI))],[],fun x=>X1 K x.1 x.2.1⟩
include K
def Ir:Env:=eE K [] [0,2,3,4,5,8,13,25,32,44]
def Qn (K:Nat) (a0:List tV) (q8:Int) (L9:Int→Int→(List tV)→Option (List tV)) (q10 q11:Int) (q12:List tV):Option (List tV) :=
  (bif (decide (q11<(((0:Int)+(a0.length:Int))-((0:Int)+q8)))) then (bif (decide (0≤q11)&&decide (q11<(((0:Int)+(a0.length:Int))-((0:Int)+q8)))) then (bif (decide (0≤(w (q11-(1:Int))))&&decide ((w (q11-(1:Int)))<(((0:Int)+(a0.length:Int))-((0:Int)+q8)))) then (bif (!(((q12.getD (((0:Int)+q8)+q11).toNat ((0:Int),(0:Int))).1==(q12.getD (((0:Int)+q8)+(w (q11-(1:Int)))).toNat ((0:Int),(0:Int))).1)&&((q12.getD (((0:Int)+q8)+q11).toNat ((0:Int),(0:Int))).2==(q12.getD (((0:Int)+q8)+(w (q11-(1:Int)))).toNat ((0:Int),(0:Int))).2))) then (bif (decide (0≤q11)&&decide (q11<(((0:Int)+(a0.length:Int))-((0:Int)+q8)))) then (bif (decide (0≤q10)&&decide (q10<(q12.length:Int))) then L9 (w (q10+(1:Int))) (w (q11+(1:Int))) (q12.set ((0:Int)+q10).toNat (q12.getD (((0:Int)+q8)+q11).toNat ((0:Int),(0:Int)))) else none) else none) else L9 q10 (w (q11+(1:Int))) q12) else none) else none) else (bif (decide (0≤q10)&&decide (q10≤(q12.length:Int))&&decide ((q12.length:Int)≤(q12.length:Int))) then (bif (decide (0≤(0:Int))&&decide ((0:Int)≤q10)&&decide (q10≤((clr q12 ((0:Int)+q10).toNat (((0:Int)+q10)+(((0:Int)+(q12.length:Int))-((0:Int)+q10))).toNat ((0:Int),(0:Int))).length:Int))) then some ((clr q12 ((0:Int)+q10).toNat (((0:Int)+q10)+(((0:Int)+(q12.length:Int))-((0:Int)+q10))).toNat ((0:Int),(0:Int))).take ((0:Int)+q10).toNat) else none) else none))
def Is (a0:List tV) (q8:Int) (n:Nat) (q10 q11:Int) (q12:List tV):Option (List tV) :=
  AH (X:=Int×Int×List tV) (fun L x=>Qn K a0 q8 (fun v0 v1 v2=>L (v0,v1,v2)) x.1 x.2.1 x.2.2) n (q10,q11,q12)
def K3 (K:Nat) (a0:List tV) (I9:Int→Int→Int→(List tV)→Option (List tV)) (L7:Int→Option (List tV)) (q8:Int):Option (List tV) :=
  (bif (decide (q8<(a0.length:Int))) then (bif (decide (0≤q8)&&decide (q8<(a0.length:Int))) then (bif (decide (0≤(w (q8-(1:Int))))&&decide ((w (q8-(1:Int)))<(a0.length:Int))) then (bif (((a0.getD ((0:Int)+q8).toNat ((0:Int),(0:Int))).1==(a0.getD ((0:Int)+(w (q8-(1:Int)))).toNat ((0:Int),(0:Int))).1)&&((a0.getD ((0:Int)+q8).toNat ((0:Int),(0:Int))).2==(a0.getD ((0:Int)+(w (q8-(1:Int)))).toNat ((0:Int),(0:Int))).2)) then (bif (decide (0≤q8)&&decide (q8≤(a0.length:Int))&&decide ((a0.length:Int)≤(a0.length:Int))) then I9 q8 q8 (1:Int) a0 else none) else L7 (w (q8+(1:Int)))) else none) else none) else some a0)
def K4 (a0:List tV) (n:Nat) (q8:Int):Option (List tV) :=
  AH (X:=Int) (fun L x=>K3 K a0 (fun c0 d0 d1 d2=>Is K a0 c0 K d0 d1 d2) (fun v0=>L v0) x) n q8
def Vi (K:Nat) (a0:List tV) (I7:Int→Option (List tV)):Option (List tV) :=
  (bif (decide ((a0.length:Int)<(2:Int))) then some a0 else I7 (1:Int))
def S9 (a0:List tV):Option (List tV) :=
  Vi K a0 (fun d0=>K4 K a0 K d0)
def X2:Mdl:=⟨[(.mv,(.list 34 sV))],[(.list 34 sV)],fun x=>S9 K x.1⟩
def X3 (a0:List tV) (lr:LR (List tV)):Ex→Fr→Option (List tV) :=
  Aw (Ir K) 1 lr WJ [1,1,0,1,0] (fM (Ir K) Tryz.f128 (X2 K) (a0,()))
def X4 (a0:List tV) (lr:LR (List tV)) (bq8:Int):Option (List tV) :=
  lr (AF WJ [1,1,0,1,0,0]) (Ih a0 bq8) (X3 K a0 lr)
def AgR (a0:List tV) (F7:Fr→Option (List tV)) (bq8:Int) (lr:LR (List tV)):Ex→Fr→Option (List tV) :=
  Aw (Ir K) 1 lr (AF WJ [1,1,0,1,0,0]) [1,0,0,1,0,1,0,1,0] (Da 1 (Ih a0 bq8) F7 (X3 K a0 lr))
def X5 (a0:List tV) (F7:Fr→Option (List tV)) (bq8:Int) (lr:LR (List tV)) (q8 bq10 bq11:Int) (bq12:List tV):Option (List tV) :=
  lr (AF WJ [1,1,0,1,0,0,1,0,0,1,0,1,0,1,0,0]) (R0 a0 q8 bq10 bq11 bq12) (AgR K a0 F7 bq8 lr)
def Aac:Env:=⟨[(125,Alg K),(126,Alh K),(127,XO K),(128,X2 K)],tys,eqs,mts,K,[0,1,2,3,5,6,7,9,11,12,13,14],[],[],[],[],[(127,XO K)],[],false⟩
def JA (a0:Int×Int×Int) (a1:List tM) (a2:Int×Int) (L3:Int→(List tV)→Option (List tV)) (q4:Int) (q5:List tV):Option (List tV) :=
  (bif (decide (q4<(a1.length:Int))) then (bif (decide (0≤q4)&&decide (q4<(a1.length:Int))) then (X0 K a0 ((((a1.getD ((0:Int)+q4).toNat zM).1).1,(((a1.getD ((0:Int)+q4).toNat zM).1).2).1,((((a1.getD ((0:Int)+q4).toNat zM).1).2).2)),((a1.getD ((0:Int)+q4).toNat zM).2)) a2).bind fun y6=>(bif (Nat.ble (q5.length+[y6].length) (lim 16)) then L3 (w (q4+(1:Int))) (q5++[y6]) else none) else none) else (X1 K q5 (fun z7 z8=>Ke K z7 z8)).bind fun y9=>(S9 K y9).bind fun y10=>some y10)
def Vj (a0:Int×Int×Int) (a1:List tM) (a2:Int×Int) (n:Nat) (q4:Int) (q5:List tV):Option (List tV) :=
  AH (X:=Int×List tV) (fun L x=>JA K a0 a1 a2 (fun v0 v1=>L (v0,v1)) x.1 x.2) n (q4,q5)
def AcG (K:Nat) (a0:Int×Int×Int) (a1:List tM) (a2:Int×Int) (I3:Int→(List tV)→Option (List tV)):Option (List tV) :=
  I3 (0:Int) []
def Aad (a0:Int×Int×Int) (a1:List tM) (a2:Int×Int):Option (List tV) :=
  AcG K a0 a1 a2 (fun d0 d1=>Vj K a0 a1 a2 K d0 d1)
def AcH:Mdl:=⟨[(.ro,sL),(.ro,(.list 59 sM)),(.ro,sV)],[(.list 34 sV)],fun x=>Aad K x.1 x.2.1 x.2.2.1⟩
def AlT (a0:Int×Int×Int) (a1:List tM) (a2:Int×Int) (lr:LR (List tV)):Ex→Fr→Option (List tV) :=
  Aw (Aac K) 1 lr Ans [1,1,0,1,0] (fM (Aac K) Tryz.f52 (AcH K) (a0,a1,a2,()))
def AcI (a0:Int×Int×Int) (a1:List tM) (a2:Int×Int) (lr:LR (List tV)) (bq4:Int) (bq5:List tV):Option (List tV) :=
  lr (AF Ans [1,1,0,1,0,0]) (WK a0 a1 a2 bq4 bq5) (AlT K a0 a1 a2 lr)
def Qo:Env:=eE K [(52,AcH K),(62,Acm K),(99,Aab K),(100,OH K),(166,XY K)] [0,1,2,4,5,6,7,9,10,12,19,20,21,22,31,36,37,38,39]
def G7 (a0:Int×Int×Int) (a1:List tM) (q17:Int) (q18:List (List tV)) (q19:List Int) (y3:List tV) (y20:Int) (y21:List tV) (L16:Int→(List (List tV))→(List Int)→Option ((List (List tV))×List Int)) (L22:Int→(List Int)→Option ((List (List tV))×List Int)) (q23:Int) (q24:List Int):Option ((List (List tV))×List Int) :=
  (bif (decide (q23<(y21.length:Int))) then (bif (decide (0≤q23)&&decide (q23<(y21.length:Int))) then (HF K a0 (y21.getD ((0:Int)+q23).toNat ((0:Int),(0:Int)))).bind fun y25=>(bif (decide (0≤y25)&&decide (y25<(q24.length:Int))) then L22 (w (q23+(1:Int))) (q24.set ((0:Int)+y25).toNat (q18.length:Int)) else none) else none) else (bif (Nat.ble (q18.length+[y21].length) (lim 24)) then L16 (w (q17+(1:Int))) (q18++[y21]) q24 else none))
def It (a0:Int×Int×Int) (a1:List tM) (q17:Int) (q18:List (List tV)) (q19:List Int) (y3:List tV) (y20:Int) (y21:List tV) (L16:Int→(List (List tV))→(List Int)→Option ((List (List tV))×List Int)) (n:Nat) (q23:Int) (q24:List Int):Option ((List (List tV))×List Int) :=
  AH (X:=Int×List Int) (fun L x=>G7 K a0 a1 q17 q18 q19 y3 y20 y21 L16 (fun v0 v1=>L (v0,v1)) x.1 x.2) n (q23,q24)
def DN (a0:Int×Int×Int) (a1:List tM) (y3:List tV) (I22:Int→(List (List tV))→(List Int)→Int→(List tV)→Int→(List Int)→Option ((List (List tV))×List Int)) (L16:Int→(List (List tV))→(List Int)→Option ((List (List tV))×List Int)) (q17:Int) (q18:List (List tV)) (q19:List Int):Option ((List (List tV))×List Int) :=
  (bif (decide (q17<(y3.length:Int))) then (bif (decide (0≤q17)&&decide (q17<(y3.length:Int))) then (HF K a0 (y3.getD ((0:Int)+q17).toNat ((0:Int),(0:Int)))).bind fun y20=>(bif (decide (0≤y20)&&decide (y20<(q19.length:Int))) then (bif (decide ((q19.getD ((0:Int)+y20).toNat (0:Int))≥(0:Int))) then L16 (w (q17+(1:Int))) q18 q19 else (Aad K a0 a1 (y3.getD ((0:Int)+q17).toNat ((0:Int),(0:Int)))).bind fun y21=>I22 q17 q18 q19 y20 y21 (0:Int) q19) else none) else none) else some (q18,q19))
def X6 (a0:Int×Int×Int) (a1:List tM) (y3:List tV) (n:Nat) (q17:Int) (q18:List (List tV)) (q19:List Int):Option ((List (List tV))×List Int) :=
  AH (X:=Int×List (List tV)×List Int) (fun L x=>(fun L16=>DN K a0 a1 y3 (fun c0 c1 c2 c3 c4 d0 d1=>It K a0 a1 c0 c1 c2 y3 c3 c4 L16 K d0 d1) L16 x.1 x.2.1 x.2.2) (fun v0 v1 v2=>L (v0,v1,v2))) n (q17,q18,q19)
def AcJ (a0:Int×Int×Int) (a1:List tM) (I16:(List tV)→Int→(List (List tV))→(List Int)→Option ((List (List tV))×List Int)):Option ((List (List tV))×List Int) :=
  (Qa K a0).bind fun y1=>(S7 K [(-1:Int)] y1).bind fun y2=>(Vh K a0).bind fun y3=>I16 y3 (0:Int) [] y2
def Aae (a0:Int×Int×Int) (a1:List tM):Option ((List (List tV))×List Int) :=
  AcJ K a0 a1 (fun c0 d0 d1 d2=>X6 K a0 a1 c0 K d0 d1 d2)
def AcK:Mdl:=⟨[(.ro,sL),(.ro,(.list 59 sM))],[(.list 87 (.list 34 sV)),(.list 2 sI)],fun x=>Aae K x.1 x.2.1⟩
def X7 (a0:Int×Int×Int) (a1:List tM) (lr:LR ((List (List tV))×List Int)):Ex→Fr→Option ((List (List tV))×List Int) :=
  Aw (Qo K) 1 lr Agg [1,1,0,1,0] (fM (Qo K) Tryz.f84 (AcK K) (a0,a1,()))
def X8 (a0:Int×Int×Int) (a1:List tM) (lr:LR ((List (List tV))×List Int)) (y3:List tV) (bq17:Int) (bq18:List (List tV)) (bq19:List Int):Option ((List (List tV))×List Int) :=
  lr (AF Agg [1,1,0,1,0,0]) (Ga a0 a1 y3 bq17 bq18 bq19) (X7 K a0 a1 lr)
def AgS (a0:Int×Int×Int) (a1:List tM) (y3:List tV) (F16:Fr→Option ((List (List tV))×List Int)) (bq17:Int) (bq18:List (List tV)) (bq19:List Int) (lr:LR ((List (List tV))×List Int)):Ex→Fr→Option ((List (List tV))×List Int) :=
  Aw (Qo K) 1 lr (AF Agg [1,1,0,1,0,0]) [1,1,0,0,1,1,1,0,1,0] (Da 1 (Ga a0 a1 y3 bq17 bq18 bq19) F16 (X7 K a0 a1 lr))
def X9 (a0:Int×Int×Int) (a1:List tM) (y3:List tV) (F16:Fr→Option ((List (List tV))×List Int)) (bq17:Int) (bq18:List (List tV)) (bq19:List Int) (lr:LR ((List (List tV))×List Int)) (q17:Int) (q18:List (List tV)) (q19:List Int) (y20:Int) (y21:List tV) (bq23:Int) (bq24:List Int):Option ((List (List tV))×List Int) :=
  lr (AF Agg [1,1,0,1,0,0,1,1,0,0,1,1,1,0,1,0,0]) (R1 a0 a1 q17 q18 q19 y3 y20 y21 bq23 bq24) (AgS K a0 a1 y3 F16 bq17 bq18 bq19 lr)
def AoD:Env:=eE K [(90,Qb K),(100,OH K)] [0,1,2,3,4]
def Mj (a0:tV×Int) (a1:List Int) (a2:Int×Int×Int):Option Int :=
  (Jz K a2 a0.1).bind fun y1=>(HF K a2 y1).bind fun y2=>(bif (decide (0≤y2)&&decide (y2<(a1.length:Int))) then some (a1.getD ((0:Int)+y2).toNat (0:Int)) else none)
def Ali:Mdl:=⟨[(.ro,(.cons sV sI)),(.cap,(.list 2 sI)),(.cap,sL)],[sI],fun x=>Mj K x.1 x.2.1 x.2.2.1⟩
def Qp:Env:=eE K [(84,AcK K),(173,Ali K)] [0,1,2,3,6,7,8,10,11,12,13,14,15,23,24,25,26,32,33,34,35,52]
def K5 (a0:Int×Int×Int) (a1:List tM) (a2:List (tV×Int)) (q11:Int) (y1:(List (List tV))×List Int) (L10 L12:Int→Option (Int×Int×Bool)) (q13:Int):Option (Int×Int×Bool) :=
  (bif (decide (q13<(((0:Int)+q11)-(0:Int)))) then (bif (decide (0≤q13)&&decide (q13<(((0:Int)+q11)-(0:Int)))) then ((bif ((a2.getD ((0:Int)+q13).toNat (((0:Int),(0:Int)),(0:Int))).2 != (a2.getD ((0:Int)+q11).toNat (((0:Int),(0:Int)),(0:Int))).2) then Mj K (((a2.getD ((0:Int)+q13).toNat (((0:Int),(0:Int)),(0:Int))).1),(a2.getD ((0:Int)+q13).toNat (((0:Int),(0:Int)),(0:Int))).2) y1.2 a0 else some (0:Int))).bind fun y14=>((bif ((a2.getD ((0:Int)+q13).toNat (((0:Int),(0:Int)),(0:Int))).2 != (a2.getD ((0:Int)+q11).toNat (((0:Int),(0:Int)),(0:Int))).2) then Mj K (((a2.getD ((0:Int)+q11).toNat (((0:Int),(0:Int)),(0:Int))).1),(a2.getD ((0:Int)+q11).toNat (((0:Int),(0:Int)),(0:Int))).2) y1.2 a0 else some (0:Int))).bind fun y15=>(bif (bif ((a2.getD ((0:Int)+q13).toNat (((0:Int),(0:Int)),(0:Int))).2 != (a2.getD ((0:Int)+q11).toNat (((0:Int),(0:Int)),(0:Int))).2) then (y14==y15) else false) then some (q13,q11,true) else L12 (w (q13+(1:Int)))) else none) else L10 (w (q11+(1:Int))))
def K6 (a0:Int×Int×Int) (a1:List tM) (a2:List (tV×Int)) (q11:Int) (y1:(List (List tV))×List Int) (L10:Int→Option (Int×Int×Bool)) (n:Nat) (q13:Int):Option (Int×Int×Bool) :=
  AH (X:=Int) (fun L x=>K5 K a0 a1 a2 q11 y1 L10 (fun v0=>L v0) x) n q13
def K7 (K:Nat) (a0:Int×Int×Int) (a1:List tM) (a2:List (tV×Int)) (y1:(List (List tV))×List Int) (I12:Int→Int→Option (Int×Int×Bool)) (L10:Int→Option (Int×Int×Bool)) (q11:Int):Option (Int×Int×Bool) :=
  (bif (decide (q11<(a2.length:Int))) then (bif (decide (0≤q11)&&decide (q11<(a2.length:Int))) then (bif (decide (0≤(0:Int))&&decide ((0:Int)≤q11)&&decide (q11≤(a2.length:Int))) then I12 q11 (0:Int) else none) else none) else some ((0:Int),(0:Int),false))
def Iu (a0:Int×Int×Int) (a1:List tM) (a2:List (tV×Int)) (y1:(List (List tV))×List Int) (n:Nat) (q11:Int):Option (Int×Int×Bool) :=
  AH (X:=Int) (fun L x=>(fun L10=>K7 K a0 a1 a2 y1 (fun c0 d0=>K6 K a0 a1 a2 c0 y1 L10 K d0) L10 x) (fun v0=>L v0)) n q11
def AcL (a0:Int×Int×Int) (a1:List tM) (a2:List (tV×Int)) (I10:((List (List tV))×List Int)→Int→Option (Int×Int×Bool)):Option (Int×Int×Bool) :=
  (Aae K a0 a1).bind fun y1=>I10 y1 (0:Int)
def Aaf (a0:Int×Int×Int) (a1:List tM) (a2:List (tV×Int)):Option (Int×Int×Bool) :=
  AcL K a0 a1 a2 (fun c0 d0=>Iu K a0 a1 a2 c0 K d0)
def AcM:Mdl:=⟨[(.ro,sL),(.ro,(.list 59 sM)),(.ro,(.list 84 (.cons sV sI)))],[sI,sI,.bool],fun x=>Aaf K x.1 x.2.1 x.2.2.1⟩
def Ya (a0:Int×Int×Int) (a1:List tM) (a2:List (tV×Int)) (lr:LR (Int×Int×Bool)):Ex→Fr→Option (Int×Int×Bool) :=
  Aw (Qp K) 2 lr Agh [1,1,1,0,1,0] (fM (Qp K) Tryz.f97 (AcM K) (a0,a1,a2,()))
def Yb (a0:Int×Int×Int) (a1:List tM) (a2:List (tV×Int)) (lr:LR (Int×Int×Bool)) (y1:(List (List tV))×List Int) (bq11:Int):Option (Int×Int×Bool) :=
  lr (AF Agh [1,1,1,0,1,0,0]) (Gb a0 a1 a2 y1 bq11) (Ya K a0 a1 a2 lr)
def AgT (a0:Int×Int×Int) (a1:List tM) (a2:List (tV×Int)) (y1:(List (List tV))×List Int) (F10:Fr→Option (Int×Int×Bool)) (bq11:Int) (lr:LR (Int×Int×Bool)):Ex→Fr→Option (Int×Int×Bool) :=
  Aw (Qp K) 2 lr (AF Agh [1,1,1,0,1,0,0]) [1,1,0,0,1,1,0] (Da 2 (Gb a0 a1 a2 y1 bq11) F10 (Ya K a0 a1 a2 lr))
def Yc (a0:Int×Int×Int) (a1:List tM) (a2:List (tV×Int)) (y1:(List (List tV))×List Int) (F10:Fr→Option (Int×Int×Bool)) (bq11:Int) (lr:LR (Int×Int×Bool)) (q11 bq13:Int):Option (Int×Int×Bool) :=
  lr (AF Agh [1,1,1,0,1,0,0,1,1,0,0,1,1,0,0]) (R2 a0 a1 a2 q11 y1 bq13) (AgT K a0 a1 a2 y1 F10 bq11 lr)
end
end Go.Proofs.YteheolldcpjkcaaGreat.X
