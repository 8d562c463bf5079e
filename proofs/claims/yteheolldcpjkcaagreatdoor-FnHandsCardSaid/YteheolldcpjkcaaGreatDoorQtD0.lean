/- Functions of the program as plain Lean functions, and that the program does what they say. Printed by gen.py. -/
import Derived.Test.YteheolldcpjkcaaGreatDoorQzXLoop
import Derived.Test.YteheolldcpjkcaaGreatDoorQzXStr
import Derived.Test.YteheolldcpjkcaaGreatDoorProg
namespace Go.Proofs.YteheolldcpjkcaaGreatDoor.X
open Go
set_option maxRecDepth 100000
attribute [local instance] cwD
set_option linter.unusedVariables false
abbrev tM:Type:=((Int×Int×Int×Int)×Int×Int)
abbrev tA:Type:=(Int×Int×Int×Int)
abbrev tL:Type:=(Int×Int×Int)
abbrev tV:Type:=(Int×Int)
abbrev sM:Sh:=(.cons (.cons (.int .i64) (.cons (.int .i64) (.cons (.int .i64) (.int .i64)))) (.cons (.int .i64) (.int .i64)))
abbrev sA:Sh:=(.cons (.int .i64) (.cons (.int .i64) (.cons (.int .i64) (.int .i64))))
abbrev sL:Sh:=(.cons (.int .i64) (.cons (.int .i64) (.int .i64)))
abbrev sV:Sh:=(.cons (.int .i64) (.int .i64))
abbrev sI:Sh:=(.int .i64)
abbrev zM:tM:=(((0:Int),((0:Int),((0:Int),(0:Int)))),((0:Int),(0:Int)))
abbrev zA:tA:=((0:Int),((0:Int),((0:Int),(0:Int))))
noncomputable section
def tys:List (Nat×Ty):=[(2,.sc sI),(3,.sc sI),(4,.sc .bool),(5,.sc (.int .u8)),(9,.sc .str),(22,.sl 5 (.int .u8) 1),(25,.st sL [(0,1),(1,1),(2,1)]),(26,.sl 2 sI 8),(28,.st (.cons sI (.cons sL (.list 2 sI))) [(0,1),(1,3),(4,1)]),(33,.st sV [(0,1),(1,1)]),(37,.sl 33 sV 16),(46,.sl 64 sM 48),(62,.st sA [(0,1),(1,1),(2,1),(3,1)]),(64,.st sM [(0,4),(4,2)]),(99,.st (.cons sI (.cons sI (.cons sI (.cons sI .bool)))) [(0,1),(1,1),(2,1),(3,1),(4,1)]),(112,.st (.cons (.list 5 (.int .u8)) sV) [(0,1),(1,1),(2,1)]),(129,.sl 62 sA 32),(152,.sl 9 .str 16),(205,.ar (.cons .str (.cons .str .str)) 9 3),(232,.sl 37 (.list 33 sV) 24)]
def eqs:List (Nat×List Sh):=[(25,[sI,sI,sI]),(33,[sI,sI]),(62,[sI,sI,sI,sI]),(64,[sI,sI,sI,sI,sI,sI]),(99,[sI,sI,sI,sI,.bool])]
def mts:List (Nat×MTy):=[]
theorem TI:AeV Tryz.prog tys eqs mts=true:=by kernel_rfl
theorem K6:Tryz.prog.follows .mixedOrders=true:=by kernel_rfl
def eE (K:Nat) (l:List (Nat×Mdl)) (k:List Nat):Env:=⟨l,tys,eqs,mts,K,k,[],[],[],[],[],[],false⟩
abbrev rM (E:Env) (f:Func) (m:Mdl) (x:AT m.ps):=Q4 E f m.ps m.rs x
abbrev fM (E:Env) (f:Func) (m:Mdl) (x:AT m.ps):=Aph E f m.ps m.rs x
theorem Aj {X R:Type} {E:Env} {n0:Nat} {S:Code} {fr0:Fr} {k:Ex→Fr→Option R} (frame:X→Fr) {body:(X→Option R)→X→Option R} (h:∀ (L:Fr→Option R) x,DA E n0 (Ae E n0) S (frame x) (ET n0 fr0 L k)=body (fun x=>L (frame x)) x) (n:Nat) (x:X):FQ (DE E n0 S) n0 fr0 n (frame x) k=AJ body n x :=
  MA (fun L x=>(Fg E n0 S _ _).trans (h L x)) n x
def jI (n:Int):Lf:=.int .i64 n
def jV (v:Int×Int):List Lf:=[jI v.1,jI v.2]
def jL (l:Int×Int×Int):List Lf:=[jI l.1,jI l.2.1,jI l.2.2]
def jA (m:Int×Int×Int×Int):List Lf:=[jI m.1,jI m.2.1,jI m.2.2.1,jI m.2.2.2]
def jM (m:tA×Int×Int):List Lf:=[jI m.1.1,jI m.1.2.1,jI m.1.2.2.1,jI m.1.2.2.2,jI m.2.1,jI m.2.2]
def Am3:Code:=Al Tryz.f31
def Vv (a0:List Int) (q3 q4:Int):Fr:=⟨34,[(0,.v false [.row 0]),(2,.v false [.und]),(3,.v false [.box 0 0]),(4,.v false [jI q3])],[some ⟨true,[.row 0,jI (0:Int),jI q4]⟩],[some ⟨5,(.int .u8),a0,.ro⟩]⟩
def Ajh:Code:=Al Tryz.f181
def Q5 (a0 q4:Int) (q5:List tA):Fr:=⟨34,[(0,.v false [jI a0]),(2,.v false [.row 0]),(3,.v false [.row 1]),(4,.v false [jI q4])],[],[some ⟨62,sA,[],.own⟩,some ⟨62,sA,q5,.own⟩]⟩
def Vw:Code:=Al Tryz.f173
def Nm (a0:List tV) (q11 q12 q16 q17 q18 q19:Int):Fr:=⟨74,[(0,.v false [.row 0]),(2,.v false [.box 0 0]),(3,.v false [.box 1 0]),(4,.v false [jI q11]),(5,.v false [jI q12]),(6,.v false [.box 2 0]),(13,.v false [.bool (decide (q12<(a0.length:Int)))])],[some ⟨true,[jI (0:Int),jI (0:Int),jI (0:Int)]⟩,some ⟨true,[jI q16,jI q17]⟩,some ⟨true,[jI q18,jI q19]⟩],[some ⟨33,sV,a0,.ro⟩]⟩
def Ey (a0:List tV) (q11 q12 q13 q14:Int):Fr:=⟨74,[(0,.v false [.row 0]),(2,.v false [.box 0 0]),(3,.v false [.box 1 0]),(4,.v false [jI q11]),(5,.v false [jI q12])],[some ⟨true,[jI (0:Int),jI (0:Int),jI (0:Int)]⟩,some ⟨true,[jI q13,jI q14]⟩],[some ⟨33,sV,a0,.ro⟩]⟩
def Am4:Code:=Al Tryz.f99
def Vx (a0:Int) (a1:Int×Int×Int) (y1:List tA) (q5:Int) (q6:List tA):Fr:=⟨33,[(0,.v false [jI a0]),(1,.v true (jL a1)),(3,.v false [.box 0 0]),(4,.v false [.row 0]),(5,.v false [.row 1]),(6,.v false [.row 2]),(7,.v false [jI q5])],[some ⟨true,(jL a1)⟩],[some ⟨62,sA,[],.own⟩,some ⟨62,sA,y1,.own⟩,some ⟨62,sA,q6,.own⟩]⟩
def Aji:Code:=Al Tryz.f287
def Q6 (a0 a1:List Int) (q3:Int):Fr:=⟨41,[(0,.v false [.row 0]),(1,.v false [.row 1]),(4,.v false [.bool false]),(5,.v false [jI q3])],[],[some ⟨2,sI,a0,.ro⟩,some ⟨2,sI,a1,.ro⟩]⟩
def Ajj:Code:=Al Tryz.f229
def Q7 (a0:List tM) (a1:tA×Int×Int) (q7 q8:Int):Fr:=⟨27,[(0,.v false [.row 0]),(1,.v true (jM a1)),(3,.v false [.box 0 0]),(4,.v false [jI (0:Int)]),(5,.v false [jI q7]),(6,.v false [jI q8])],[some ⟨true,(jM a1)⟩],[some ⟨64,sM,a0,.ro⟩]⟩
def Vy:Code:=Al Tryz.f161
def Nn (a0:Int×Int×Int) (a1:List tM) (q18:Int) (q20:List tM) (q22:Int) (q23 q24:List tM):Fr:=⟨49,[(0,.v true (jL a0)),(1,.v false [.row 0]),(2,.v false [.box 0 0]),(4,.v false [.row 1]),(5,.v false [.row 2]),(6,.v false [.row 3]),(7,.v false [jI q18]),(8,.v false [jI q22]),(17,.v false [.bool (decide (q18<(q20.length:Int)))])],[some ⟨true,(jL a0)⟩],[some ⟨64,sM,a1,.ro⟩,some ⟨64,sM,[],.own⟩,some ⟨64,sM,q23,.own⟩,some ⟨64,sM,q24,.own⟩]⟩
def Ez (a0:Int×Int×Int) (a1:List tM) (q18:Int) (q19 q20:List tM):Fr:=⟨49,[(0,.v true (jL a0)),(1,.v false [.row 0]),(2,.v false [.box 0 0]),(4,.v false [.row 1]),(5,.v false [.row 2]),(6,.v false [.row 3]),(7,.v false [jI q18])],[some ⟨true,(jL a0)⟩],[some ⟨64,sM,a1,.ro⟩,some ⟨64,sM,[],.own⟩,some ⟨64,sM,q19,.own⟩,some ⟨64,sM,q20,.own⟩]⟩
def Ae1:Code:=Al Tryz.f42
def Vz (a0:Int×Int×Int) (q7 q10:Int) (q11:List tV):Fr:=⟨26,[(0,.v true (jL a0)),(1,.v false [.box 0 0]),(2,.v false [.row 0]),(3,.v false [.row 1]),(4,.v false [jI q7]),(5,.v false [jI q10]),(10,.v false [.bool (decide (q7<a0.1))])],[some ⟨true,(jL a0)⟩],[some ⟨33,sV,[],.own⟩,some ⟨33,sV,q11,.own⟩]⟩
def HX (a0:Int×Int×Int) (q7:Int) (q8:List tV):Fr:=⟨26,[(0,.v true (jL a0)),(1,.v false [.box 0 0]),(2,.v false [.row 0]),(3,.v false [.row 1]),(4,.v false [jI q7])],[some ⟨true,(jL a0)⟩],[some ⟨33,sV,[],.own⟩,some ⟨33,sV,q8,.own⟩]⟩
def Ajk:Code:=Al Tryz.f117
def Q8 (a0:List tV) (a1:Int×Int) (q4:Int):Fr:=⟨45,[(0,.v false [.row 0]),(1,.v true (jV a1)),(3,.v false [.box 0 0]),(4,.v false [.row 1]),(5,.v false [jI q4])],[some ⟨true,(jV a1)⟩],[some ⟨33,sV,a0,.own⟩,some ⟨33,sV,[],.own⟩]⟩
def Am5:Code:=Al Tryz.f61
def VA (a0:Int×Int×Int) (a1:List tM) (a2:Int×Int) (q5:Int) (q6:List tV):Fr:=⟨26,[(0,.v true (jL a0)),(1,.v false [.row 0]),(2,.v true (jV a2)),(3,.v false [.box 0 0]),(5,.v false [.box 1 0]),(6,.v false [.row 1]),(7,.v false [.row 2]),(8,.v false [jI q5])],[some ⟨true,(jL a0)⟩,some ⟨true,(jV a2)⟩],[some ⟨64,sM,a1,.ro⟩,some ⟨33,sV,[],.own⟩,some ⟨33,sV,q6,.own⟩]⟩
def Ajl:Code:=Al Tryz.f234
def Q9 (a0:Int×Int×Int) (a1:List tM) (y1:List tV) (q5:Int) (q6:List (List tV)):Fr:=⟨38,[(0,.v true (jL a0)),(1,.v false [.row 0]),(2,.v false [.box 0 0]),(4,.v false [.row 1]),(5,.v false [.row 2]),(6,.v false [.row 3]),(7,.v false [jI q5])],[some ⟨true,(jL a0)⟩],[some ⟨64,sM,a1,.ro⟩,some ⟨37,(.list 33 sV),[],.own⟩,some ⟨33,sV,y1,.own⟩,some ⟨37,(.list 33 sV),q6,.own⟩]⟩
def VB:Code:=Al Tryz.f162
def Np (a0:Int×Int×Int) (a1:List tM) (q10:Int) (y1:List (List tV)) (q13:Int) (q14:List Int):Fr:=⟨46,[(0,.v true (jL a0)),(1,.v false [.row 0]),(2,.v false [.box 0 0]),(4,.v false [.row 1]),(5,.v false [.row 2]),(6,.v false [.row 3]),(7,.v false [jI q10]),(8,.v false [jI q13]),(21,.v false [.bool (decide (q10<(y1.length:Int)))])],[some ⟨true,(jL a0)⟩],[some ⟨64,sM,a1,.ro⟩,some ⟨2,sI,[],.own⟩,some ⟨2,sI,q14,.own⟩,some ⟨37,(.list 33 sV),y1,.own⟩]⟩
def FR (a0:Int×Int×Int) (a1:List tM) (y1:List (List tV)) (q10:Int) (q11:List Int):Fr:=⟨46,[(0,.v true (jL a0)),(1,.v false [.row 0]),(2,.v false [.box 0 0]),(4,.v false [.row 1]),(5,.v false [.row 2]),(6,.v false [.row 3]),(7,.v false [jI q10])],[some ⟨true,(jL a0)⟩],[some ⟨64,sM,a1,.ro⟩,some ⟨2,sI,[],.own⟩,some ⟨2,sI,q11,.own⟩,some ⟨37,(.list 33 sV),y1,.own⟩]⟩
def MZ:Code:=Al Tryz.f77
def Ra (a0:(List Int)×Int×Int) (a1:Int) (a2:Int×Int×Int) (q9:Int) (q12:List tM) (q21 q22 q23:Int) (q24:List Int) (y1:Int) (y3:tV×Int) (y15:List tM) (y16:List Int) (y17:tV×Int) (q28:Int) (q29:List Int):Fr:=⟨88,[(0,.v false [.box 0 0]),(1,.v false [jI a1]),(2,.v true (jL a2)),(5,.v false [.box 1 0]),(6,.v false [.box 2 0]),(7,.v false [.box 3 0]),(8,.v false [.row 1]),(9,.v false [.row 2]),(10,.v false [jI q9]),(11,.v false [.row 3]),(12,.v false [.row 4]),(13,.v false [jI (w ((2:Int)+y17.2))]),(14,.v false [jI q21]),(15,.v false [jI q28]),(23,.v false [.bool (y1 != (0:Int))]),(29,.v false [.bool (decide (y3.2>(0:Int)))]),(35,.v false [.bool (decide (q9>(0:Int)))]),(60,.v false [.bool (decide (q21<(y16.length:Int)))])],[some ⟨true,[.row 0,jI q22,jI q23]⟩,some ⟨true,(jL a2)⟩,some ⟨true,[jI (0:Int),jI (0:Int),jI (0:Int),jI (0:Int),.row 5]⟩,some ⟨true,[jI a1,jI a2.1,jI a2.2.1,jI a2.2.2,.row 6]⟩],[some ⟨5,(.int .u8),a0.1,.ro⟩,some ⟨64,sM,y15,.own⟩,some ⟨64,sM,q12,.own⟩,some ⟨2,sI,y16,.own⟩,some ⟨2,sI,q24,.own⟩,some ⟨2,sI,[],.own⟩,some ⟨2,sI,q29,.own⟩]⟩
def K7 (a0:(List Int)×Int×Int) (a1:Int) (a2:Int×Int×Int) (q9:Int) (q12:List tM) (y1:Int) (y3:tV×Int) (y15:List tM) (y16:List Int) (y17:tV×Int) (q21 q22 q23:Int) (q24:List Int):Fr:=⟨88,[(0,.v false [.box 0 0]),(1,.v false [jI a1]),(2,.v true (jL a2)),(5,.v false [.box 1 0]),(6,.v false [.box 2 0]),(7,.v false [.box 3 0]),(8,.v false [.row 1]),(9,.v false [.row 2]),(10,.v false [jI q9]),(11,.v false [.row 3]),(12,.v false [.row 4]),(13,.v false [jI (w ((2:Int)+y17.2))]),(14,.v false [jI q21]),(23,.v false [.bool (y1 != (0:Int))]),(29,.v false [.bool (decide (y3.2>(0:Int)))]),(35,.v false [.bool (decide (q9>(0:Int)))])],[some ⟨true,[.row 0,jI q22,jI q23]⟩,some ⟨true,(jL a2)⟩,some ⟨true,[jI (0:Int),jI (0:Int),jI (0:Int),jI (0:Int),.row 5]⟩,some ⟨true,[jI a1,jI a2.1,jI a2.2.1,jI a2.2.2,.row 6]⟩],[some ⟨5,(.int .u8),a0.1,.ro⟩,some ⟨64,sM,y15,.own⟩,some ⟨64,sM,q12,.own⟩,some ⟨2,sI,y16,.own⟩,some ⟨2,sI,q24,.own⟩,some ⟨2,sI,[],.own⟩,some ⟨2,sI,[],.own⟩]⟩
def O5 (a0:(List Int)×Int×Int) (a1:Int) (a2:Int×Int×Int) (y1:Int) (y2:tA×Int×Int) (y3:tV×Int) (q9 q10 q11:Int) (q12:List tM):Fr:=⟨88,[(0,.v false [.box 0 0]),(1,.v false [jI a1]),(2,.v true (jL a2)),(5,.v false [.box 1 0]),(6,.v false [.box 2 0]),(7,.v false [.box 3 0]),(8,.v false [.row 1]),(9,.v false [.row 2]),(10,.v false [jI q9]),(23,.v false [.bool (y1 != (0:Int))]),(29,.v false [.bool (decide (y3.2>(0:Int)))])],[some ⟨true,[.row 0,jI q10,jI q11]⟩,some ⟨true,(jL a2)⟩,some ⟨true,[jI (0:Int),jI (0:Int),jI (0:Int),jI (0:Int),.row 3]⟩,some ⟨true,[jI a1,jI a2.1,jI a2.2.1,jI a2.2.2,.row 4]⟩],[some ⟨5,(.int .u8),a0.1,.ro⟩,some ⟨64,sM,[y2],.own⟩,some ⟨64,sM,q12,.own⟩,some ⟨2,sI,[],.own⟩,some ⟨2,sI,[],.own⟩]⟩
def Rb (a0:(List Int)×Int×Int) (a1:Int) (a2:Int×Int×Int) (q39 q40 q41:Int) (q42 q43:List Int) (y1:Int) (y2:tA×Int×Int) (y3:tV×Int) (y30:List Int) (y31:tV×Int) (q47:Int) (q48:List Int):Fr:=⟨88,[(0,.v false [.box 0 0]),(1,.v false [jI a1]),(2,.v true (jL a2)),(5,.v false [.box 1 0]),(6,.v false [.box 2 0]),(7,.v false [.box 3 0]),(8,.v false [.row 1]),(11,.v false [.row 2]),(12,.v false [.row 3]),(13,.v false [jI (w ((2:Int)+y31.2))]),(14,.v false [jI q39]),(15,.v false [jI q47]),(23,.v false [.bool (y1 != (0:Int))]),(29,.v false [.bool (decide (y3.2>(0:Int)))]),(60,.v false [.bool (decide (q39<(y30.length:Int)))])],[some ⟨true,[.row 0,jI q40,jI q41]⟩,some ⟨true,(jL a2)⟩,some ⟨true,[jI (0:Int),jI (0:Int),jI (0:Int),jI (0:Int),.row 4]⟩,some ⟨true,[jI a1,jI a2.1,jI a2.2.1,jI a2.2.2,.row 5]⟩],[some ⟨5,(.int .u8),a0.1,.ro⟩,some ⟨64,sM,[y2],.own⟩,some ⟨2,sI,y30,.own⟩,some ⟨2,sI,q43,.own⟩,some ⟨2,sI,q42,.own⟩,some ⟨2,sI,q48,.own⟩]⟩
def K8 (a0:(List Int)×Int×Int) (a1:Int) (a2:Int×Int×Int) (y1:Int) (y2:tA×Int×Int) (y3:tV×Int) (y30:List Int) (y31:tV×Int) (q39 q40 q41:Int) (q42 q43:List Int):Fr:=⟨88,[(0,.v false [.box 0 0]),(1,.v false [jI a1]),(2,.v true (jL a2)),(5,.v false [.box 1 0]),(6,.v false [.box 2 0]),(7,.v false [.box 3 0]),(8,.v false [.row 1]),(11,.v false [.row 2]),(12,.v false [.row 3]),(13,.v false [jI (w ((2:Int)+y31.2))]),(14,.v false [jI q39]),(23,.v false [.bool (y1 != (0:Int))]),(29,.v false [.bool (decide (y3.2>(0:Int)))])],[some ⟨true,[.row 0,jI q40,jI q41]⟩,some ⟨true,(jL a2)⟩,some ⟨true,[jI (0:Int),jI (0:Int),jI (0:Int),jI (0:Int),.row 4]⟩,some ⟨true,[jI a1,jI a2.1,jI a2.2.1,jI a2.2.2,.row 5]⟩],[some ⟨5,(.int .u8),a0.1,.ro⟩,some ⟨64,sM,[y2],.own⟩,some ⟨2,sI,y30,.own⟩,some ⟨2,sI,q43,.own⟩,some ⟨2,sI,q42,.own⟩,some ⟨2,sI,[],.own⟩]⟩
def Ajm:Code:=Al Tryz.f235
def Rc (a0:List Int) (a1:(Int→Option Bool)) (q4:Int):Fr:=⟨19,[(0,.v false [.row 0]),(1,.v false [.fv1 sI .bool a1]),(4,.v false [jI (0:Int)]),(7,.v false [jI (a0.length:Int)]),(8,.v false [jI q4])],[],[some ⟨2,sI,a0,.ro⟩]⟩
def Ae2:Code:=Al Tryz.f39
def VC (a0:Int×Int×Int) (q7 q10:Int) (q11:List tV):Fr:=⟨26,[(0,.v true (jL a0)),(1,.v false [.box 0 0]),(2,.v false [.row 0]),(3,.v false [.row 1]),(4,.v false [jI q7]),(8,.v false [jI a0.1]),(9,.v false [jI q7]),(10,.v false [.bool (decide (q7<a0.1))]),(13,.v false [jI a0.2.2]),(14,.v false [jI q10])],[some ⟨true,(jL a0)⟩],[some ⟨33,sV,[],.own⟩,some ⟨33,sV,q11,.own⟩]⟩
def HY (a0:Int×Int×Int) (q7:Int) (q8:List tV):Fr:=⟨26,[(0,.v true (jL a0)),(1,.v false [.box 0 0]),(2,.v false [.row 0]),(3,.v false [.row 1]),(8,.v false [jI a0.1]),(9,.v false [jI q7])],[some ⟨true,(jL a0)⟩],[some ⟨33,sV,[],.own⟩,some ⟨33,sV,q8,.own⟩]⟩
def Am6:Code:=Al Tryz.f97
def VD (a0:Int×tL×List Int) (a1:tA×Int×Int) (y1:List tV) (q6:Int):Fr:=⟨28,[(0,.v true [jI a0.1,jI a0.2.1.1,jI a0.2.1.2.1,jI a0.2.1.2.2,.row 0]),(1,.v true (jM a1)),(2,.v false [.box 0 0]),(3,.v false [.box 1 0]),(4,.v false [.bool false]),(9,.v false [.row 1]),(10,.v false [jI (y1.length:Int)]),(11,.v false [jI q6])],[some ⟨true,[jI a0.1,jI a0.2.1.1,jI a0.2.1.2.1,jI a0.2.1.2.2,.row 0]⟩,some ⟨true,(jM a1)⟩],[some ⟨2,sI,a0.2.2,.ro⟩,some ⟨33,sV,y1,.own⟩]⟩
def Ajn:Code:=Al Tryz.f166
def Re (q3 q4:Int):Fr:=⟨15,[(0,.v false [jI q3]),(1,.v false [jI q4]),(4,.v false [jI (0:Int)])],[],[]⟩
def Ae3:Code:=Al Tryz.f85
def Rg (a0:List tV) (q14 q15 q19 q20 q21 q22:Int):Fr:=⟨48,[(0,.v false [.row 0]),(2,.v false [.box 0 0]),(3,.v false [jI q14]),(4,.v false [.box 1 0]),(6,.v false [.box 2 0]),(9,.v false [.row 0]),(10,.v false [jI (a0.length:Int)]),(11,.v false [jI q15]),(12,.v false [.bool (decide (q15<(a0.length:Int)))])],[some ⟨true,[jI (0:Int),jI (0:Int),jI (0:Int)]⟩,some ⟨true,[jI q19,jI q20]⟩,some ⟨true,[jI q21,jI q22]⟩],[some ⟨33,sV,a0,.ro⟩]⟩
def FS (a0:List tV) (q14 q15 q16 q17:Int):Fr:=⟨48,[(0,.v false [.row 0]),(2,.v false [.box 0 0]),(3,.v false [jI q14]),(4,.v false [.box 1 0]),(9,.v false [.row 0]),(10,.v false [jI (a0.length:Int)]),(11,.v false [jI q15])],[some ⟨true,[jI (0:Int),jI (0:Int),jI (0:Int)]⟩,some ⟨true,[jI q16,jI q17]⟩],[some ⟨33,sV,a0,.ro⟩]⟩
def Am7:Code:=Al Tryz.f83
def VE (a0:Int×tL×List Int) (y1:tV×Int×Int) (y2:List tV) (q7:Int) (q8:List tV):Fr:=⟨37,[(0,.v true [jI a0.1,jI a0.2.1.1,jI a0.2.1.2.1,jI a0.2.1.2.2,.row 0]),(1,.v false [.box 0 0]),(2,.v false [.box 1 0]),(3,.v false [.box 2 0]),(4,.v false [.box 3 0]),(5,.v false [.row 1]),(19,.v false [.row 2]),(20,.v false [jI (y2.length:Int)]),(21,.v false [jI q7])],[some ⟨true,[jI a0.1,jI a0.2.1.1,jI a0.2.1.2.1,jI a0.2.1.2.2,.row 0]⟩,some ⟨true,[jI (0:Int),jI (0:Int),jI (0:Int)]⟩,some ⟨true,(jV y1.1)⟩,some ⟨true,(jV y1.2)⟩],[some ⟨2,sI,a0.2.2,.ro⟩,some ⟨33,sV,q8,.own⟩,some ⟨33,sV,y2,.own⟩]⟩
def Am8:Code:=Al Tryz.f82
def VF (a0:Int×tL×List Int) (a1:Int×Int×Int) (y1:List tV) (q5:Int) (q6:List Int):Fr:=⟨29,[(0,.v true [jI a0.1,jI a0.2.1.1,jI a0.2.1.2.1,jI a0.2.1.2.2,.row 0]),(1,.v true (jL a1)),(2,.v false [.box 0 0]),(3,.v false [.box 1 0]),(4,.v false [.box 2 0]),(5,.v false [.box 3 0]),(13,.v false [.row 1]),(14,.v false [jI (y1.length:Int)]),(15,.v false [jI q5])],[some ⟨true,[jI a0.1,jI a0.2.1.1,jI a0.2.1.2.1,jI a0.2.1.2.2,.row 0]⟩,some ⟨true,(jL a1)⟩,some ⟨true,[jI (0:Int),jI (0:Int),jI (0:Int),jI (0:Int),.row 2]⟩,some ⟨true,[jI a0.1,jI a1.1,jI a1.2.1,jI a1.2.2,.row 3]⟩],[some ⟨2,sI,a0.2.2,.ro⟩,some ⟨33,sV,y1,.own⟩,some ⟨2,sI,[],.own⟩,some ⟨2,sI,q6,.own⟩]⟩
def Am9:Code:=Al Tryz.f34
def Rh (a0:Int×tL×List Int) (a1:tA×Int×Int) (y1:tV×Int×Int) (y4:Int×Int×Int) (y5:tA×Int×Int) (y6:List tV) (q11:Int) (q12:List Int):Fr:=⟨52,[(0,.v true [jI a0.1,jI a0.2.1.1,jI a0.2.1.2.1,jI a0.2.1.2.2,.row 0]),(1,.v true (jM a1)),(2,.v false [.box 0 0]),(3,.v false [.box 1 0]),(4,.v false [.box 2 0]),(5,.v false [.box 3 0]),(6,.v false [.box 4 0]),(7,.v false [.box 5 0]),(8,.v false [.box 6 0]),(34,.v false [.row 1]),(35,.v false [jI (y6.length:Int)]),(36,.v false [jI q11])],[some ⟨true,[jI a0.1,jI a0.2.1.1,jI a0.2.1.2.1,jI a0.2.1.2.2,.row 0]⟩,some ⟨true,(jM a1)⟩,some ⟨true,[jI (0:Int),jI (0:Int),jI (0:Int),jI (0:Int),.row 2]⟩,some ⟨true,(jV y1.1)⟩,some ⟨true,(jV y1.2)⟩,some ⟨true,[jI a0.1,jI y4.1,jI y4.2.1,jI y4.2.2,.row 3]⟩,some ⟨true,(jM y5)⟩],[some ⟨2,sI,a0.2.2,.ro⟩,some ⟨33,sV,y6,.own⟩,some ⟨2,sI,[],.own⟩,some ⟨2,sI,q12,.own⟩]⟩
def Ana:Code:=Al Tryz.f91
def VG (a0:List Int) (a1 a2 a3 q4:Int):Fr:=⟨28,[(0,.v false [.row 0]),(1,.v false [jI a1]),(2,.v false [jI a2]),(3,.v false [jI a3]),(8,.v false [.bool false]),(9,.v false [jI q4])],[],[some ⟨2,sI,a0,.ro⟩]⟩
def Ajo:Code:=Al Tryz.f100
def Ri (a0:Int×tL×List Int) (a1:tA×Int×Int) (y1:List tV) (q7:Int):Fr:=⟨31,[(0,.v true [jI a0.1,jI a0.2.1.1,jI a0.2.1.2.1,jI a0.2.1.2.2,.row 0]),(1,.v true (jM a1)),(2,.v false [.box 0 0]),(3,.v false [.box 1 0]),(4,.v false [.bool false]),(5,.v false [.row 1]),(6,.v false [jI q7])],[some ⟨true,[jI a0.1,jI a0.2.1.1,jI a0.2.1.2.1,jI a0.2.1.2.2,.row 0]⟩,some ⟨true,(jM a1)⟩],[some ⟨2,sI,a0.2.2,.ro⟩,some ⟨33,sV,y1,.own⟩]⟩
def Anb:Code:=Al Tryz.f95
def VH (a0:Int×tL×List Int) (y1:List tV) (q7:Int) (q8:List tV):Fr:=⟨35,[(0,.v true [jI a0.1,jI a0.2.1.1,jI a0.2.1.2.1,jI a0.2.1.2.2,.row 0]),(1,.v false [.box 0 0]),(2,.v false [.box 1 0]),(3,.v false [.row 1]),(4,.v false [.row 2]),(5,.v false [jI q7])],[some ⟨true,[jI a0.1,jI a0.2.1.1,jI a0.2.1.2.1,jI a0.2.1.2.2,.row 0]⟩,some ⟨true,[jI (0:Int),jI (0:Int),jI (0:Int)]⟩],[some ⟨2,sI,a0.2.2,.ro⟩,some ⟨33,sV,y1,.own⟩,some ⟨33,sV,q8,.own⟩]⟩
def Anc:Code:=Al Tryz.f94
def VI (a0:Int×tL×List Int) (a1:Int×Int×Int) (y1:List tV) (q5:Int) (q6:List Int):Fr:=⟨33,[(0,.v true [jI a0.1,jI a0.2.1.1,jI a0.2.1.2.1,jI a0.2.1.2.2,.row 0]),(1,.v true (jL a1)),(2,.v false [.box 0 0]),(3,.v false [.box 1 0]),(4,.v false [.box 2 0]),(5,.v false [.row 1]),(6,.v false [.box 3 0]),(7,.v false [jI q5])],[some ⟨true,[jI a0.1,jI a0.2.1.1,jI a0.2.1.2.1,jI a0.2.1.2.2,.row 0]⟩,some ⟨true,(jL a1)⟩,some ⟨true,[jI (0:Int),jI (0:Int),jI (0:Int),jI (0:Int),.row 2]⟩,some ⟨true,[jI a0.1,jI a1.1,jI a1.2.1,jI a1.2.2,.row 3]⟩],[some ⟨2,sI,a0.2.2,.ro⟩,some ⟨33,sV,y1,.own⟩,some ⟨2,sI,[],.own⟩,some ⟨2,sI,q6,.own⟩]⟩
def And:Code:=Al Tryz.f36
def VJ (a0:Int×tL×List Int) (a1:tA×Int×Int) (y1:Int×Int×Int) (y2:List tV) (q7:Int) (q8:List Int):Fr:=⟨47,[(0,.v true [jI a0.1,jI a0.2.1.1,jI a0.2.1.2.1,jI a0.2.1.2.2,.row 0]),(1,.v true (jM a1)),(2,.v false [.box 0 0]),(3,.v false [.box 1 0]),(4,.v false [.box 2 0]),(5,.v false [.box 3 0]),(6,.v false [.row 1]),(7,.v false [.box 4 0]),(8,.v false [jI q7])],[some ⟨true,[jI a0.1,jI a0.2.1.1,jI a0.2.1.2.1,jI a0.2.1.2.2,.row 0]⟩,some ⟨true,(jM a1)⟩,some ⟨true,[jI (0:Int),jI (0:Int),jI (0:Int),jI (0:Int),.row 2]⟩,some ⟨true,(jL y1)⟩,some ⟨true,[jI a0.1,jI y1.1,jI y1.2.1,jI y1.2.2,.row 3]⟩],[some ⟨2,sI,a0.2.2,.ro⟩,some ⟨33,sV,y2,.own⟩,some ⟨2,sI,[],.own⟩,some ⟨2,sI,q8,.own⟩]⟩
def Ajp:Code:=Al Tryz.f178
def Rj (a0 q9:Int) (q10:List tA):Fr:=⟨61,[(0,.v false [jI a0]),(2,.v false [.row 0]),(3,.v false [.row 1]),(10,.v false [jI q9])],[],[some ⟨62,sA,[],.own⟩,some ⟨62,sA,q10,.own⟩]⟩
def Ajq:Code:=Al Tryz.f236
def Rk (a0:List tA) (a1:(tA→Option Bool)) (q4:Int):Fr:=⟨19,[(0,.v false [.row 0]),(1,.v false [.fv1 sA .bool a1]),(4,.v false [jI (0:Int)]),(7,.v false [jI (a0.length:Int)]),(8,.v false [jI q4])],[],[some ⟨62,sA,a0,.ro⟩]⟩
def Ajr:Code:=Al Tryz.f177
def Rm (a1:(tA→Option Bool)) (y1 q5 q6:Int) (q7:List tA):Fr:=⟨42,[(0,.v false [.row 0]),(1,.v false [.fv1 sA .bool a1]),(4,.v false [.row 1]),(5,.v false [jI q5]),(6,.v false [jI q6]),(12,.v false [.bool (y1==(-1:Int))])],[],[some ⟨62,sA,q7,.own⟩,some ⟨62,sA,[],.own⟩]⟩
def Ae4:Code:=Al Tryz.f38
def Rn (a0:Int×tL×List Int) (q11:Int) (y1:List tA) (y13:List tV) (q15:Int) (q16:List tM):Fr:=⟨41,[(0,.v true [jI a0.1,jI a0.2.1.1,jI a0.2.1.2.1,jI a0.2.1.2.2,.row 0]),(1,.v false [.box 0 0]),(2,.v false [.row 1]),(3,.v false [.row 2]),(5,.v false [.box 1 0]),(13,.v false [.row 3]),(14,.v false [jI (y1.length:Int)]),(15,.v false [jI q11]),(16,.v false [.bool (decide (q11<(y1.length:Int)))]),(21,.v false [.row 4]),(22,.v false [jI (y13.length:Int)]),(23,.v false [jI q15])],[some ⟨true,[jI a0.1,jI a0.2.1.1,jI a0.2.1.2.1,jI a0.2.1.2.2,.row 0]⟩,some ⟨true,[jI ((y1.getD ((0:Int)+q11).toNat zA).1),jI (((y1.getD ((0:Int)+q11).toNat zA).2).1),jI ((((y1.getD ((0:Int)+q11).toNat zA).2).2).1),jI ((((y1.getD ((0:Int)+q11).toNat zA).2).2).2)]⟩],[some ⟨2,sI,a0.2.2,.ro⟩,some ⟨64,sM,[],.own⟩,some ⟨64,sM,q16,.own⟩,some ⟨62,sA,y1,.own⟩,some ⟨33,sV,y13,.own⟩]⟩
def FT (a0:Int×tL×List Int) (y1:List tA) (q11:Int) (q12:List tM):Fr:=⟨41,[(0,.v true [jI a0.1,jI a0.2.1.1,jI a0.2.1.2.1,jI a0.2.1.2.2,.row 0]),(1,.v false [.box 0 0]),(2,.v false [.row 1]),(3,.v false [.row 2]),(13,.v false [.row 3]),(14,.v false [jI (y1.length:Int)]),(15,.v false [jI q11])],[some ⟨true,[jI a0.1,jI a0.2.1.1,jI a0.2.1.2.1,jI a0.2.1.2.2,.row 0]⟩],[some ⟨2,sI,a0.2.2,.ro⟩,some ⟨64,sM,[],.own⟩,some ⟨64,sM,q12,.own⟩,some ⟨62,sA,y1,.own⟩]⟩
def Ane:Code:=Al Tryz.f40
def VK (a0:Int×Int×Int) (a1:List tM) (a2:Int×Int) (q4:Int) (q5:List tM):Fr:=⟨29,[(0,.v true (jL a0)),(1,.v false [.row 0]),(2,.v true (jV a2)),(3,.v false [.box 0 0]),(5,.v false [.box 1 0]),(6,.v false [.row 1]),(7,.v false [.row 2]),(11,.v false [.row 0]),(12,.v false [jI (a1.length:Int)]),(13,.v false [jI q4])],[some ⟨true,(jL a0)⟩,some ⟨true,(jV a2)⟩],[some ⟨64,sM,a1,.ro⟩,some ⟨64,sM,[],.own⟩,some ⟨64,sM,q5,.own⟩]⟩
def f9C:Code:=Al Tryz.f9
def Aay (a0:Int×tL×List Int) (y1:Bool) (y2:Int×tL×List Int) (y3:List tM) (y4:List tV) (q8 q9 q10 q11:Int):Fr:=⟨43,[(0,.v true [jI a0.1,jI a0.2.1.1,jI a0.2.1.2.1,jI a0.2.1.2.2,.row 0]),(1,.v false [.box 0 0]),(2,.v false [.box 1 0]),(3,.v false [jI (0:Int)]),(4,.v false [jI (0:Int)]),(5,.v false [.box 2 0]),(6,.v false [.box 3 0]),(7,.v false [jI q8]),(8,.v false [.row 1]),(14,.v false [.bool (!y1)]),(23,.v false [.row 2]),(24,.v false [jI (y4.length:Int)]),(25,.v false [jI q9])],[some ⟨true,[jI a0.1,jI a0.2.1.1,jI a0.2.1.2.1,jI a0.2.1.2.2,.row 0]⟩,some ⟨true,[jI (0:Int),jI (0:Int)]⟩,some ⟨true,[jI y2.1,jI y2.2.1.1,jI y2.2.1.2.1,jI y2.2.1.2.2,.row 3]⟩,some ⟨true,[jI q10,jI q11]⟩],[some ⟨2,sI,a0.2.2,.ro⟩,some ⟨64,sM,y3,.own⟩,some ⟨33,sV,y4,.own⟩,some ⟨2,sI,y2.2.2,.own⟩]⟩
def Ae5:Code:=Al Tryz.f41
def Ro (a0:Int×tL×List Int) (q11:Int) (y1:List tA) (y2:List tV) (q14:Int) (q15:List tM):Fr:=⟨47,[(0,.v true [jI a0.1,jI a0.2.1.1,jI a0.2.1.2.1,jI a0.2.1.2.2,.row 0]),(1,.v false [.box 0 0]),(2,.v false [.row 1]),(3,.v false [.row 2]),(4,.v false [.row 3]),(5,.v false [.row 4]),(6,.v false [jI q11]),(7,.v false [jI q14]),(21,.v false [.bool (decide (q11<(y1.length:Int)))])],[some ⟨true,[jI a0.1,jI a0.2.1.1,jI a0.2.1.2.1,jI a0.2.1.2.2,.row 0]⟩],[some ⟨2,sI,a0.2.2,.ro⟩,some ⟨64,sM,[],.own⟩,some ⟨62,sA,y1,.own⟩,some ⟨33,sV,y2,.own⟩,some ⟨64,sM,q15,.own⟩]⟩
def FU (a0:Int×tL×List Int) (y1:List tA) (y2:List tV) (q11:Int) (q12:List tM):Fr:=⟨47,[(0,.v true [jI a0.1,jI a0.2.1.1,jI a0.2.1.2.1,jI a0.2.1.2.2,.row 0]),(1,.v false [.box 0 0]),(2,.v false [.row 1]),(3,.v false [.row 2]),(4,.v false [.row 3]),(5,.v false [.row 4]),(6,.v false [jI q11])],[some ⟨true,[jI a0.1,jI a0.2.1.1,jI a0.2.1.2.1,jI a0.2.1.2.2,.row 0]⟩],[some ⟨2,sI,a0.2.2,.ro⟩,some ⟨64,sM,[],.own⟩,some ⟨62,sA,y1,.own⟩,some ⟨33,sV,y2,.own⟩,some ⟨64,sM,q12,.own⟩]⟩
def Anf:Code:=Al Tryz.f43
def VL (a0:Int×Int×Int) (a1:List tM) (a2:Int×Int) (q4 q5:Int):Fr:=⟨27,[(0,.v true (jL a0)),(1,.v false [.row 0]),(2,.v true (jV a2)),(3,.v false [.box 0 0]),(5,.v false [.box 1 0]),(6,.v false [jI (0:Int)]),(7,.v false [jI q4]),(8,.v false [jI q5])],[some ⟨true,(jL a0)⟩,some ⟨true,(jV a2)⟩],[some ⟨64,sM,a1,.ro⟩]⟩
def Ang:Code:=Al Tryz.f10
def VM (a0:Int×tL×List Int) (y1:Bool) (y2:Int×tL×List Int) (y3:List tM) (y4:List tV) (q8 q9 q10 q11:Int):Fr:=⟨48,[(0,.v true [jI a0.1,jI a0.2.1.1,jI a0.2.1.2.1,jI a0.2.1.2.2,.row 0]),(1,.v false [.box 0 0]),(2,.v false [.box 1 0]),(3,.v false [jI (0:Int)]),(4,.v false [jI (0:Int)]),(5,.v false [.box 2 0]),(6,.v false [.row 1]),(7,.v false [.row 2]),(8,.v false [.box 3 0]),(9,.v false [jI q8]),(10,.v false [jI q9]),(14,.v false [.bool (!y1)])],[some ⟨true,[jI a0.1,jI a0.2.1.1,jI a0.2.1.2.1,jI a0.2.1.2.2,.row 0]⟩,some ⟨true,[jI (0:Int),jI (0:Int)]⟩,some ⟨true,[jI y2.1,jI y2.2.1.1,jI y2.2.1.2.1,jI y2.2.1.2.2,.row 3]⟩,some ⟨true,[jI q10,jI q11]⟩],[some ⟨2,sI,a0.2.2,.ro⟩,some ⟨64,sM,y3,.own⟩,some ⟨33,sV,y4,.own⟩,some ⟨2,sI,y2.2.2,.own⟩]⟩
def Ae6:Code:=Al Tryz.f12
def Rp (a0:Int×tL×List Int) (a1 q11:Int) (q12:List tV) (y1:Bool) (y2:Int×tL×List Int) (y3:List tM) (y4:List tV) (y13:List tM) (q18:Int):Fr:=⟨71,[(0,.v true [jI a0.1,jI a0.2.1.1,jI a0.2.1.2.1,jI a0.2.1.2.2,.row 0]),(1,.v false [jI a1]),(2,.v false [.box 0 0]),(4,.v false [.row 1]),(5,.v false [jI (0:Int)]),(6,.v false [.box 1 0]),(7,.v false [.row 2]),(8,.v false [.row 3]),(10,.v false [.box 2 0]),(15,.v false [.bool (!y1)]),(29,.v false [.bool (bif (bif (bif (a1 != (2:Int)) then (a1 != (3:Int)) else false) then (a1 != (4:Int)) else false) then (a1 != (6:Int)) else false)]),(37,.v false [.row 4]),(38,.v false [jI (y4.length:Int)]),(39,.v false [jI q11]),(40,.v false [.bool (decide (q11<(y4.length:Int)))]),(47,.v false [.row 5]),(48,.v false [jI (y13.length:Int)]),(49,.v false [jI q18])],[some ⟨true,[jI a0.1,jI a0.2.1.1,jI a0.2.1.2.1,jI a0.2.1.2.2,.row 0]⟩,some ⟨true,[jI y2.1,jI y2.2.1.1,jI y2.2.1.2.1,jI y2.2.1.2.2,.row 6]⟩,some ⟨true,[jI ((y4.getD ((0:Int)+q11).toNat ((0:Int),(0:Int))).1),jI ((y4.getD ((0:Int)+q11).toNat ((0:Int),(0:Int))).2)]⟩],[some ⟨2,sI,a0.2.2,.ro⟩,some ⟨33,sV,[],.own⟩,some ⟨33,sV,q12,.own⟩,some ⟨64,sM,y3,.own⟩,some ⟨33,sV,y4,.own⟩,some ⟨64,sM,y13,.own⟩,some ⟨2,sI,y2.2.2,.own⟩]⟩
def FV (a0:Int×tL×List Int) (a1:Int) (y1:Bool) (y2:Int×tL×List Int) (y3:List tM) (y4:List tV) (q11:Int) (q12:List tV):Fr:=⟨71,[(0,.v true [jI a0.1,jI a0.2.1.1,jI a0.2.1.2.1,jI a0.2.1.2.2,.row 0]),(1,.v false [jI a1]),(2,.v false [.box 0 0]),(4,.v false [.row 1]),(5,.v false [jI (0:Int)]),(6,.v false [.box 1 0]),(7,.v false [.row 2]),(8,.v false [.row 3]),(15,.v false [.bool (!y1)]),(29,.v false [.bool (bif (bif (bif (a1 != (2:Int)) then (a1 != (3:Int)) else false) then (a1 != (4:Int)) else false) then (a1 != (6:Int)) else false)]),(37,.v false [.row 4]),(38,.v false [jI (y4.length:Int)]),(39,.v false [jI q11])],[some ⟨true,[jI a0.1,jI a0.2.1.1,jI a0.2.1.2.1,jI a0.2.1.2.2,.row 0]⟩,some ⟨true,[jI y2.1,jI y2.2.1.1,jI y2.2.1.2.1,jI y2.2.1.2.2,.row 5]⟩],[some ⟨2,sI,a0.2.2,.ro⟩,some ⟨33,sV,[],.own⟩,some ⟨33,sV,q12,.own⟩,some ⟨64,sM,y3,.own⟩,some ⟨33,sV,y4,.own⟩,some ⟨2,sI,y2.2.2,.own⟩]⟩
def Anh:Code:=Al Tryz.f48
def VN (a0:List Int) (a1 q3:Int):Fr:=⟨18,[(0,.v false [.row 0]),(1,.v false [jI a1]),(4,.v false [.bool false]),(5,.v false [jI q3])],[],[some ⟨2,sI,a0,.ro⟩]⟩
def Ajs:Code:=Al Tryz.f104
def Rq (a0:Int×Int×Int×Int) (q7 q8 q9 q10 q11:Int):Fr:=⟨20,[(0,.v true (jA a0)),(1,.v false [.box 0 0]),(2,.v false [jI (0:Int)]),(3,.v false [.box 1 0]),(4,.v false [jI q7])],[some ⟨true,(jA a0)⟩,some ⟨true,[jI q8,jI q9,jI q10,jI q11]⟩],[]⟩
def Ae7:Code:=Al Tryz.f13
def Rr (a0:Int×tL×List Int) (a1 q9:Int) (q10:List tM) (y1 y2:Bool) (y3:Int×tL×List Int) (y4:List tM) (y5:List tV) (q15:Int) (q16:List tV):Fr:=⟨75,[(0,.v true [jI a0.1,jI a0.2.1.1,jI a0.2.1.2.1,jI a0.2.1.2.2,.row 0]),(1,.v false [jI a1]),(2,.v false [.box 0 0]),(4,.v false [.row 1]),(5,.v false [jI (0:Int)]),(6,.v false [.box 1 0]),(7,.v false [.row 2]),(8,.v false [.row 3]),(9,.v false [.row 4]),(10,.v false [jI q9]),(11,.v false [.row 5]),(12,.v false [jI q15]),(13,.v false [.bool (!y1)]),(17,.v false [.bool (!y2)]),(33,.v false [.bool (decide (q9<(y4.length:Int)))])],[some ⟨true,[jI a0.1,jI a0.2.1.1,jI a0.2.1.2.1,jI a0.2.1.2.2,.row 0]⟩,some ⟨true,[jI y3.1,jI y3.2.1.1,jI y3.2.1.2.1,jI y3.2.1.2.2,.row 6]⟩],[some ⟨2,sI,a0.2.2,.ro⟩,some ⟨33,sV,[],.own⟩,some ⟨64,sM,y4,.own⟩,some ⟨33,sV,y5,.own⟩,some ⟨64,sM,q10,.own⟩,some ⟨33,sV,q16,.own⟩,some ⟨2,sI,y3.2.2,.own⟩]⟩
def O6 (a0:Int×tL×List Int) (a1:Int) (y1 y2:Bool) (y3:Int×tL×List Int) (y4:List tM) (y5:List tV) (q9:Int) (q10:List tM):Fr:=⟨75,[(0,.v true [jI a0.1,jI a0.2.1.1,jI a0.2.1.2.1,jI a0.2.1.2.2,.row 0]),(1,.v false [jI a1]),(2,.v false [.box 0 0]),(4,.v false [.row 1]),(5,.v false [jI (0:Int)]),(6,.v false [.box 1 0]),(7,.v false [.row 2]),(8,.v false [.row 3]),(9,.v false [.row 4]),(10,.v false [jI q9]),(13,.v false [.bool (!y1)]),(17,.v false [.bool (!y2)])],[some ⟨true,[jI a0.1,jI a0.2.1.1,jI a0.2.1.2.1,jI a0.2.1.2.2,.row 0]⟩,some ⟨true,[jI y3.1,jI y3.2.1.1,jI y3.2.1.2.1,jI y3.2.1.2.2,.row 5]⟩],[some ⟨2,sI,a0.2.2,.ro⟩,some ⟨33,sV,[],.own⟩,some ⟨64,sM,y4,.own⟩,some ⟨33,sV,y5,.own⟩,some ⟨64,sM,q10,.own⟩,some ⟨2,sI,y3.2.2,.own⟩]⟩
def Ani:Code:=Al Tryz.f50
def VO (a0 a1:List Int) (q3:Int):Fr:=⟨26,[(0,.v false [.row 0]),(1,.v false [.row 1]),(4,.v false [.bool false]),(5,.v false [jI q3]),(10,.v false [.bool ((a0.length:Int) != (a1.length:Int))])],[],[some ⟨2,sI,a0,.ro⟩,some ⟨2,sI,a1,.ro⟩]⟩
def Anj:Code:=Al Tryz.f15
def VP (a0 a1:List tV) (q3:Int):Fr:=⟨26,[(0,.v false [.row 0]),(1,.v false [.row 1]),(4,.v false [.bool false]),(5,.v false [jI q3]),(10,.v false [.bool ((a0.length:Int) != (a1.length:Int))])],[],[some ⟨33,sV,a0,.ro⟩,some ⟨33,sV,a1,.ro⟩]⟩
def Ajt:Code:=Al Tryz.f105
def Rs (a0 a1:List Int) (q3:Int):Fr:=⟨26,[(0,.v false [.row 0]),(1,.v false [.row 1]),(4,.v false [.bool false]),(10,.v false [.bool ((a0.length:Int) != (a1.length:Int))]),(12,.v false [jI (a0.length:Int)]),(13,.v false [jI q3])],[],[some ⟨2,sI,a0,.ro⟩,some ⟨2,sI,a1,.ro⟩]⟩
def Aju:Code:=Al Tryz.f123
def Rt (a0:List tM) (q5 q6:Int):Fr:=⟨23,[(0,.v false [.row 0]),(2,.v false [jI (0:Int)]),(3,.v false [jI q5]),(6,.v false [.row 0]),(7,.v false [jI (a0.length:Int)]),(8,.v false [jI q6])],[],[some ⟨64,sM,a0,.ro⟩]⟩
def Ajv:Code:=Al Tryz.f196
def Ru (a0 a1:List Int) (q3:Int):Fr:=⟨30,[(0,.v false [.row 0]),(1,.v false [.row 1]),(4,.v false [jI (0:Int)]),(7,.v false [jI (a0.length:Int)]),(8,.v false [jI q3])],[],[some ⟨2,sI,a0,.ro⟩,some ⟨2,sI,a1,.ro⟩]⟩
def Ajw:Code:=Al Tryz.f124
def Rv (a0:Int×Int×Int) (a1:Int×Int) (q5 q6:Int):Fr:=⟨15,[(0,.v true (jL a0)),(1,.v true (jV a1)),(2,.v false [.box 0 0]),(3,.v false [.box 1 0]),(4,.v false [.box 2 0]),(5,.v false [.box 3 0])],[some ⟨true,(jL a0)⟩,some ⟨true,(jV a1)⟩,some ⟨true,[jI (0:Int),jI (0:Int)]⟩,some ⟨true,[jI q5,jI q6]⟩],[]⟩
def VQ:Code:=Al Tryz.f203
def Rw (a0 q7 q10:Int) (q11:List tV):Fr:=⟨28,[(0,.v false [jI a0]),(2,.v false [.row 0]),(3,.v false [.row 1]),(4,.v false [jI q7]),(5,.v false [jI q10]),(11,.v false [.bool (decide (q7≤a0))])],[],[some ⟨33,sV,[],.own⟩,some ⟨33,sV,q11,.own⟩]⟩
def FW (a0 q7:Int) (q8:List tV):Fr:=⟨28,[(0,.v false [jI a0]),(2,.v false [.row 0]),(3,.v false [.row 1]),(4,.v false [jI q7])],[],[some ⟨33,sV,[],.own⟩,some ⟨33,sV,q8,.own⟩]⟩
def Ajx:Code:=Al Tryz.f126
def Rx (a0:Int) (a1:Int×Int×Int) (y1:List tV) (q10 q11:Int) (q12:List tV):Fr:=⟨47,[(0,.v false [jI a0]),(1,.v true (jL a1)),(3,.v false [.box 0 0]),(4,.v false [.row 0]),(5,.v false [.row 1]),(6,.v false [jI q11]),(11,.v false [.row 2]),(12,.v false [jI (y1.length:Int)]),(13,.v false [jI q10])],[some ⟨true,(jL a1)⟩],[some ⟨33,sV,[],.own⟩,some ⟨33,sV,q12,.own⟩,some ⟨33,sV,y1,.own⟩]⟩
def Ajy:Code:=Al Tryz.f205
def Ry (a0:List tV) (a1:Int×Int) (q3:Int):Fr:=⟨19,[(0,.v false [.row 0]),(1,.v true (jV a1)),(3,.v false [.box 0 0]),(4,.v false [jI (0:Int)]),(7,.v false [jI (a0.length:Int)]),(8,.v false [jI q3])],[some ⟨true,(jV a1)⟩],[some ⟨33,sV,a0,.ro⟩]⟩
def Ank:Code:=Al Tryz.f65
def Rz (a0:Int) (a1:Int×Int×Int) (a2:List tM) (y1 q16 q17 q18 q19:Int) (q20:Bool):Fr:=⟨67,[(0,.v false [jI a0]),(1,.v true (jL a1)),(2,.v false [.row 0]),(4,.v false [.box 0 0]),(6,.v false [.box 1 0]),(7,.v false [.box 2 0]),(15,.v false [.row 0]),(16,.v false [jI (a2.length:Int)]),(17,.v false [jI q16])],[some ⟨true,(jL a1)⟩,some ⟨true,[jI (0:Int),jI (0:Int),jI (0:Int),jI (0:Int),.bool false]⟩,some ⟨true,[jI y1,jI q17,jI q18,jI q19,.bool q20]⟩],[some ⟨64,sM,a2,.ro⟩]⟩
def Ajz:Code:=Al Tryz.f201
def RA (a0:List ByteArray) (a1:ByteArray) (q3:Int):Fr:=⟨19,[(0,.v false [.row 0]),(1,.v false [.str a1]),(4,.v false [jI (0:Int)]),(7,.v false [jI (a0.length:Int)]),(8,.v false [jI q3])],[],[some ⟨9,.str,a0,.ro⟩]⟩
variable (K:Nat)
include K
def f5E:Env:=eE K [] [0,2]
def f5G (K:Nat) (a0:List Int):Option Bool :=
  some (decide ((a0.length:Int)>(4096:Int)))
def f5M:Mdl:=⟨[(.ro,(.list 5 (.int .u8)))],[.bool],fun x=>f5G K x.1⟩
def Aaz:Env:=eE K [] [0,2,3,4,15]
def K9 (K:Nat) (a0:List Int) (L2:Int→Int→Option tV) (q3 q4:Int):Option tV :=
  (bif (bif (decide (q3<(a0.length:Int))) then (decide (q3<(64:Int))) else false) then (bif (decide (0≤q3)&&decide (q3<(a0.length:Int))) then L2 (w (q3+(1:Int))) ((w ((w (q4*(73:Int)))+(w (a0.getD ((0:Int)+q3).toNat (0:Int))))).tmod (2147483647:Int)) else none) else some ((0:Int),q4))
def TJ (a0:List Int) (n:Nat) (q3 q4:Int):Option tV :=
  AJ (X:=Int×Int) (fun L x=>K9 K a0 (fun v0 v1=>L (v0,v1)) x.1 x.2) n (q3,q4)
def AaA (K:Nat) (a0:List Int) (I2:Int→Int→Option tV):Option tV :=
  I2 (0:Int) (93001:Int)
def YJ (a0:List Int):Option tV :=
  AaA K a0 (fun d0 d1=>TJ K a0 K d0 d1)
def AkV:OO:=⟨5,(.int .u8),sV,[],fun x=>YJ K x.1⟩
def AkW (a0:List Int) (lr:LR tV):Ex→Fr→Option tV :=
  Au (Aaz K) 1 lr Am3 [1,1,0,1,0] (AkU Tryz.f31 sV)
def AaB (a0:List Int) (lr:LR tV) (bq3 bq4:Int):Option tV :=
  lr (AH Am3 [1,1,0,1,0,0]) (Vv a0 bq3 bq4) (AkW K a0 lr)
def Apn:Env:=eE K [] [0,1,4,5,7,32,62]
def CV (K:Nat) (a0:(List Int)×Int×Int) (a1:Int):Option (tV×Int) :=
  (bif (decide (a1≤(1:Int))) then some (a0.2,(0:Int)) else (bif (decide (a0.2.1<(a0.1.length:Int))) then (bif (decide (0≤a0.2.1)&&decide (a0.2.1<(a0.1.length:Int))) then (bif (bif (decide (a1≤(256:Int))) then (((w (a0.2.1+(1:Int))).tmod (2:Int))==(0:Int)) else false) then (bif (decide (0≤(w ((w (a0.2.1+(1:Int)))-(1:Int))))&&decide ((w ((w (a0.2.1+(1:Int)))-(1:Int)))<(a0.1.length:Int))) then (bif (a1 != 0) then some (((w (a0.2.1+(1:Int))),((w ((w (a0.2.2*(48271:Int)))+(67:Int))).tmod (2147483647:Int))),((w (a0.1.getD ((0:Int)+(w ((w (a0.2.1+(1:Int)))-(1:Int)))).toNat (0:Int))).tmod a1)) else none) else none) else (bif (a1 != 0) then some (((w (a0.2.1+(1:Int))),((w ((w (a0.2.2*(48271:Int)))+(67:Int))).tmod (2147483647:Int))),((w ((w (((w ((w (a0.2.2*(48271:Int)))+(67:Int))).tmod (2147483647:Int)).tdiv (37:Int)))+(w (a0.1.getD ((0:Int)+a0.2.1).toNat (0:Int))))).tmod a1)) else none)) else none) else (bif (a1 != 0) then some ((a0.2.1,((w ((w (a0.2.2*(48271:Int)))+(67:Int))).tmod (2147483647:Int))),((w (((w ((w (a0.2.2*(48271:Int)))+(67:Int))).tmod (2147483647:Int)).tdiv (37:Int))).tmod a1)) else none)))
def O7:FB:=⟨5,(.int .u8),sV,[(.ro,sI)],[sI],fun x=>CV K x.1 x.2.1⟩
def Apo:Env:=⟨[],tys,eqs,mts,K,[0,1,4],[(45,O7 K)],[],[],[],[],[],false⟩
def O8 (a0:(List Int)×Int×Int) (a1:List Int):Option (tV×Int) :=
  (CV K a0 (a1.length:Int)).bind fun y1=>(bif (decide (0≤y1.2)&&decide (y1.2<(a1.length:Int))) then some (y1.1,(a1.getD ((0:Int)+y1.2).toNat (0:Int))) else none)
def AaC:FB:=⟨5,(.int .u8),sV,[(.ro,(.list 2 sI))],[sI],fun x=>O8 K x.1 x.2.1⟩
def Anl:Env:=⟨[],tys,eqs,mts,K,[0,2,5],[(44,AaC K),(45,O7 K)],[],[],[],[],[],false⟩
def VS (a0:(List Int)×Int×Int):Option (tV×Int) :=
  (CV K a0 (40:Int)).bind fun y1=>(bif (y1.2==(0:Int)) then (O8 K (a0.1,y1.1) [(-1:Int),(2:Int)]).bind fun y2=>some y2 else (CV K (a0.1,y1.1) (2:Int)).bind fun y3=>some y3)
def AjA:FB:=⟨5,(.int .u8),sV,[],[sI],fun x=>VS K x.1⟩
def Anm:Env:=⟨[],tys,eqs,mts,K,[0,2,3,17,18,24,35],[(44,AaC K),(45,O7 K)],[],[],[],[],[],false⟩
def VT (a0:(List Int)×Int×Int):Option (tV×Int×Int×Int) :=
  (CV K a0 (6:Int)).bind fun y1=>(CV K (a0.1,y1.1) (6:Int)).bind fun y2=>(CV K (a0.1,y2.1) (w ((1:Int)+y1.2))).bind fun y3=>(CV K (a0.1,y3.1) (60:Int)).bind fun y4=>(bif (y4.2==(0:Int)) then (O8 K (a0.1,y4.1) [(0:Int),(64:Int),(65:Int),(8:Int)]).bind fun y5=>some (y5.1,y5.2,y3.2,(w ((1:Int)+y2.2))) else (bif (y4.2==(1:Int)) then (O8 K (a0.1,y4.1) [(-1:Int),(w ((1:Int)+y1.2)),(w ((w ((1:Int)+y1.2))-(1:Int)))]).bind fun y6=>some (y6.1,(w ((1:Int)+y1.2)),y6.2,(w ((1:Int)+y2.2))) else (bif (y4.2==(2:Int)) then (O8 K (a0.1,y4.1) [(8:Int),(9:Int)]).bind fun y7=>some (y7.1,(8:Int),(3:Int),y7.2) else some (y4.1,(w ((1:Int)+y1.2)),y3.2,(w ((1:Int)+y2.2))))))
def AjB:FB:=⟨5,(.int .u8),sV,[],[sL],fun x=>VT K x.1⟩
def App:Env:=⟨[],tys,eqs,mts,K,[0,2,3,4,5,9,10,15,25,28],[(45,O7 K),(156,AjA K),(157,AjB K)],[],[],[],[],[],false⟩
def Ae8 (a0:(List Int)×Int×Int):Option (tV×Int×Int×Int×Int) :=
  (VS K a0).bind fun y1=>(CV K (a0.1,y1.1) (5:Int)).bind fun y2=>(bif (y2.2==(0:Int)) then (VT K (a0.1,y2.1)).bind fun y3=>some (y3.1,y1.2,y3.2) else (bif (y2.2==(1:Int)) then (CV K (a0.1,y2.1) (4:Int)).bind fun y4=>(CV K (a0.1,y4.1) (4:Int)).bind fun y5=>some (y5.1,y1.2,(w ((1:Int)+y4.2)),(0:Int),(w ((1:Int)+y5.2))) else (bif (y2.2==(2:Int)) then (bif (y1.2==(0:Int)) then some (y2.1,y1.2,(2:Int),(1:Int),(1:Int)) else some (y2.1,y1.2,(3:Int),(1:Int),(1:Int))) else (CV K (a0.1,y2.1) (4:Int)).bind fun y6=>some (y6.1,y1.2,(w ((1:Int)+y6.2)),(0:Int),(w ((1:Int)+y6.2))))))
def Ann:FB:=⟨5,(.int .u8),sV,[],[sI,sL],fun x=>Ae8 K x.1⟩
def Ano:Env:=eE K [] [0,2]
def VU (K:Nat) (a0:Int):Option Bool :=
  some (bif (a0==(0:Int)) then true else (a0==(1:Int)))
def AjC:Mdl:=⟨[(.ro,sI)],[.bool],fun x=>VU K x.1⟩
def Anp:Env:=eE K [] [0,1,2,6]
def HZ (K:Nat) (a0 a1 a2:Int):Option Bool :=
  some (bif (decide (a0≥a1)) then (decide (a0≤a2)) else false)
def VV:Mdl:=⟨[(.ro,sI),(.ro,sI),(.ro,sI)],[.bool],fun x=>HZ K x.1 x.2.1 x.2.2.1⟩
def Anq:Env:=eE K [(149,VV K)] [0,1,2]
def VW (a0:Int×Int×Int):Option Bool :=
  (HZ K a0.1 (1:Int) (64:Int)).bind fun y1=>((bif y1 then HZ K a0.2.2 (1:Int) (64:Int) else some false)).bind fun y2=>((bif (bif y1 then y2 else false) then HZ K a0.2.1 (0:Int) (w (a0.1-(1:Int))) else some false)).bind fun y3=>some (bif (bif (bif y1 then y2 else false) then y3 else false) then (decide ((w (a0.1*a0.2.2))≤(64:Int))) else false)
def AjD:Mdl:=⟨[(.ro,sL)],[.bool],fun x=>VW K x.1⟩
def Apq:Env:=eE K [(170,AjC K),(171,AjD K)] [0,1,3,4,12]
def YK (a0:Int) (a1:Int×Int×Int):Option Int :=
  (VU K a0).bind fun y1=>((bif (!(!y1)) then VW K a1 else some false)).bind fun y2=>(bif (bif (!y1) then true else (!y2)) then some (1:Int) else some (0:Int))
def Ae9:Mdl:=⟨[(.ro,sI),(.ro,sL)],[sI],fun x=>YK K x.1 x.2.1⟩
def Anr:Env:=eE K [] [0]
def JP (K:Nat):Option tA :=
  some ((1:Int),(0:Int),(0:Int),(1:Int))
def RB:Mdl:=⟨[],[sA],fun x=>JP K ⟩
def Ans:Env:=eE K [(131,RB K)] [0]
def Nq:Option tM :=
  (JP K).bind fun y1=>some (y1,(0:Int),(0:Int))
def AaD:Mdl:=⟨[],[sM],fun x=>Nq K ⟩
def Ant:Env:=eE K [] [0,1,3,4,5,18]
def VX (K:Nat) (a0:Int) (a1:Int×Int):Option Int :=
  (bif (a0==(1:Int)) then some (w ((w ((w (a1.1*a1.1))+(w (a1.2*a1.2))))+(w (a1.1*a1.2)))) else some (w ((w (a1.1*a1.1))+(w (a1.2*a1.2)))))
def AjE:Mdl:=⟨[(.ro,sI),(.ro,sV)],[sI],fun x=>VX K x.1 x.2.1⟩
def Anu:Env:=eE K [] [0,1,2,3,4]
def Nr (K:Nat) (a0 a1:Int×Int):Option tV :=
  some ((w (a0.1+a1.1)),(w (a0.2+a1.2)))
def VY:Mdl:=⟨[(.ro,sV),(.ro,sV)],[sV],fun x=>Nr K x.1 x.2.1⟩
def Anv:Env:=eE K [(134,AjE K),(175,VY K)] [0,1,3,4,5,6]
def AjF (a0:Int) (a1:Int×Int×Int×Int):Option Bool :=
  (VX K a0 (a1.1,a1.2.2.1)).bind fun y1=>((bif (y1==(1:Int)) then VX K a0 (a1.2.1,a1.2.2.2) else some (0:Int))).bind fun y2=>((bif (bif (y1==(1:Int)) then (y2==(1:Int)) else false) then Nr K (a1.1,a1.2.2.1) (a1.2.1,a1.2.2.2) else some ((0:Int),(0:Int)))).bind fun y3=>((bif (bif (y1==(1:Int)) then (y2==(1:Int)) else false) then VX K a0 y3 else some (0:Int))).bind fun y4=>some (bif (bif (y1==(1:Int)) then (y2==(1:Int)) else false) then (y4==(w ((2:Int)+a0))) else false)
def AjG:Mdl:=⟨[(.ro,sI),(.ro,sA)],[.bool],fun x=>AjF K x.1 x.2.1⟩
def Ns:Env:=eE K [(237,AjG K)] [0,2,3,4,5,8,28]
def Afa (a0:Int) (L3:Int→(List tA)→Option (List tA)) (q4:Int) (q5:List tA):Option (List tA) :=
  (bif (decide (q4<(81:Int))) then (AjF K a0 ((w ((w (q4.tdiv (27:Int)))-(1:Int))),(w (((w (q4.tdiv (9:Int))).tmod (3:Int))-(1:Int))),(w (((w (q4.tdiv (3:Int))).tmod (3:Int))-(1:Int))),(w ((q4.tmod (3:Int))-(1:Int))))).bind fun y6=>(bif y6 then (bif (Nat.ble (q5.length+[((w ((w (q4.tdiv (27:Int)))-(1:Int))),(w (((w (q4.tdiv (9:Int))).tmod (3:Int))-(1:Int))),(w (((w (q4.tdiv (3:Int))).tmod (3:Int))-(1:Int))),(w ((q4.tmod (3:Int))-(1:Int))))].length) (lim 32)) then L3 (w (q4+(1:Int))) (q5++[((w ((w (q4.tdiv (27:Int)))-(1:Int))),(w (((w (q4.tdiv (9:Int))).tmod (3:Int))-(1:Int))),(w (((w (q4.tdiv (3:Int))).tmod (3:Int))-(1:Int))),(w ((q4.tmod (3:Int))-(1:Int))))]) else none) else L3 (w (q4+(1:Int))) q5) else some q5)
def VZ (a0:Int) (n:Nat) (q4:Int) (q5:List tA):Option (List tA) :=
  AJ (X:=Int×List tA) (fun L x=>Afa K a0 (fun v0 v1=>L (v0,v1)) x.1 x.2) n (q4,q5)
def AaE (K:Nat) (a0:Int) (I3:Int→(List tA)→Option (List tA)):Option (List tA) :=
  I3 (0:Int) []
def Nt (a0:Int):Option (List tA) :=
  AaE K a0 (fun d0 d1=>VZ K a0 K d0 d1)
def V0:Mdl:=⟨[(.ro,sI)],[(.list 62 sA)],fun x=>Nt K x.1⟩
def Afb (a0:Int) (lr:LR (List tA)):Ex→Fr→Option (List tA) :=
  Au (Ns K) 0 lr Ajh [1,1,0,1,0] (fM (Ns K) Tryz.f181 (V0 K) (a0,()))
def V1 (a0:Int) (lr:LR (List tA)) (bq4:Int) (bq5:List tA):Option (List tA) :=
  lr (AH Ajh [1,1,0,1,0,0]) (Q5 a0 bq4 bq5) (Afb K a0 lr)
def Anw:Env:=eE K [] [0,1,2]
def RD (K:Nat) (a0:Int×Int×Int):Option (List tV) :=
  some [(a0.1,(0:Int)),a0.2]
def AaF:Mdl:=⟨[(.ro,sL)],[(.list 33 sV)],fun x=>RD K x.1⟩
def Anx:Env:=eE K [] [0,1,2,3,4]
def La (K:Nat) (a0:Int×Int×Int×Int) (a1:Int×Int):Option tV :=
  some ((w ((w (a0.1*a1.1))+(w (a0.2.1*a1.2)))),(w ((w (a0.2.2.1*a1.1))+(w (a0.2.2.2*a1.2)))))
def V2:Mdl:=⟨[(.ro,sA),(.ro,sV)],[sV],fun x=>La K x.1 x.2.1⟩
omit K
def AjH (K:Nat) (rec:Int→Int→Option Int):Env:=⟨[(215,⟨[(.ro,sI),(.ro,sI)],[sI],fun x=>rec x.1 x.2.1⟩)],tys,eqs,mts,K,[0,1,4,6],[],[],[],[],[],[],false⟩
def Jj (K:Nat) (rec:Int→Int→Option Int) (a0 a1:Int):Option Int :=
  (bif (a1==(0:Int)) then some (if (w (0-a0))>a0 then (w (0-a0)) else a0) else (bif (a1 != 0) then (rec a1 (a0.tmod a1)).bind fun y1=>some y1 else none))
def JQ (K:Nat):Nat→Int→Int→Option Int
  | 0=>fun _ _=>none
  | n+1=>fun a0 a1=>Jj K (JQ K n) a0 a1
def V3 (K:Nat) (a0 a1:Int):Option Int:=JQ K K a0 a1
def AjI (K:Nat):Mdl:=⟨[(.ro,sI),(.ro,sI)],[sI],fun x=>V3 K x.1 x.2.1⟩
include K
def Anz:Env:=eE K [] [0,1,4,9]
def He (K:Nat) (a0 a1:Int):Option Int :=
  (bif (a1 != 0) then (bif (decide ((a0.tmod a1)<(0:Int))) then some (w ((a0.tmod a1)+a1)) else some (a0.tmod a1)) else none)
def AaG:Mdl:=⟨[(.ro,sI),(.ro,sI)],[sI],fun x=>He K x.1 x.2.1⟩
def AnA:Env:=eE K [] [0,1,2,4]
def AaH (K:Nat) (a0:Int×Int) (a1:Int):Option tV :=
  some ((w (a1*a0.1)),(w (a1*a0.2)))
def AjJ:Mdl:=⟨[(.ro,sV),(.ro,sI)],[sV],fun x=>AaH K x.1 x.2.1⟩
def H2:Env:=eE K [(199,AaG K),(213,AjJ K),(215,AjI K)] [0,2,3,4,5,6,7,8,13,22,50,58,62]
def Lb (a0:List tV) (q11 q12:Int) (L10 L15:Int→Int→Int→Int→Option tL) (q16 q17 q18 q19:Int):Option tL :=
  (bif (q19 != (0:Int)) then (bif (q19 != 0) then L15 q18 q19 (w (q16-(w ((w (q17.tdiv q19))*q18)))) (w (q17-(w ((w (q17.tdiv q19))*q19)))) else none) else (V3 K q11 q18).bind fun y20=>(bif (decide (y20>(0:Int))) then (He K q16 y20).bind fun y21=>L10 y20 (w (q12+(1:Int))) y21 q17 else L10 y20 (w (q12+(1:Int))) q16 q17))
def EA (a0:List tV) (q11 q12:Int) (L10:Int→Int→Int→Int→Option tL) (n:Nat) (q16 q17 q18 q19:Int):Option tL :=
  AJ (X:=Int×Int×Int×Int) (fun L x=>Lb K a0 q11 q12 L10 (fun v0 v1 v2 v3=>L (v0,v1,v2,v3)) x.1 x.2.1 x.2.2.1 x.2.2.2) n (q16,q17,q18,q19)
def FX (a0:List tV) (I15:Int→Int→Int→Int→Int→Int→Option tL) (L10:Int→Int→Int→Int→Option tL) (q11 q12 q13 q14:Int):Option tL :=
  (bif (decide (q12<(a0.length:Int))) then (bif (decide (0≤q12)&&decide (q12<(a0.length:Int))) then I15 q11 q12 q13 q14 ((a0.getD ((0:Int)+q12).toNat ((0:Int),(0:Int))).1) ((a0.getD ((0:Int)+q12).toNat ((0:Int),(0:Int))).2) else none) else (bif (decide (q14<(0:Int))) then (AaH K (q13,q14) (-1:Int)).bind fun y22=>(bif (decide (q11>(0:Int))) then (He K y22.1 q11).bind fun y23=>some (q11,y23,y22.2) else some (q11,y22)) else (bif (decide (q11>(0:Int))) then (He K q13 q11).bind fun y24=>some (q11,y24,q14) else some (q11,q13,q14))))
def Lc (a0:List tV) (n:Nat) (q11 q12 q13 q14:Int):Option tL :=
  AJ (X:=Int×Int×Int×Int) (fun L x=>(fun L10=>FX K a0 (fun c0 c1 d0 d1 d2 d3=>EA K a0 c0 c1 L10 K d0 d1 d2 d3) L10 x.1 x.2.1 x.2.2.1 x.2.2.2) (fun v0 v1 v2 v3=>L (v0,v1,v2,v3))) n (q11,q12,q13,q14)
def TK (K:Nat) (a0:List tV) (I10:Int→Int→Int→Int→Option tL):Option tL :=
  I10 (0:Int) (0:Int) (0:Int) (0:Int)
def Hf (a0:List tV):Option tL :=
  TK K a0 (fun d0 d1 d2 d3=>Lc K a0 K d0 d1 d2 d3)
def RE:Mdl:=⟨[(.ro,(.list 33 sV))],[sL],fun x=>Hf K x.1⟩
def RF (a0:List tV) (lr:LR tL):Ex→Fr→Option tL :=
  Au (H2 K) 1 lr Vw [1,1,0,1,0] (fM (H2 K) Tryz.f173 (RE K) (a0,()))
def RG (a0:List tV) (lr:LR tL) (bq11 bq12 bq13 bq14:Int):Option tL :=
  lr (AH Vw [1,1,0,1,0,0]) (Ey a0 bq11 bq12 bq13 bq14) (RF K a0 lr)
def AaI (a0:List tV) (F10:Fr→Option tL) (bq11 bq12 bq13 bq14:Int) (lr:LR tL):Ex→Fr→Option tL :=
  Au (H2 K) 1 lr (AH Vw [1,1,0,1,0,0]) [1,0,0,1,0,0] (ET 1 (Ey a0 bq11 bq12 bq13 bq14) F10 (RF K a0 lr))
def RH (a0:List tV) (F10:Fr→Option tL) (bq11 bq12 bq13 bq14:Int) (lr:LR tL) (q11 q12 bq16 bq17 bq18 bq19:Int):Option tL :=
  lr (AH Vw [1,1,0,1,0,0,1,0,0,1,0,0,0]) (Nm a0 q11 q12 bq16 bq17 bq18 bq19) (AaI K a0 F10 bq11 bq12 bq13 bq14 lr)
def Apr:Env:=eE K [(172,AaF K),(173,RE K),(174,V2 K)] [0,1,2,3,4,5]
def YL (a0:Int×Int×Int×Int) (a1:Int×Int×Int):Option tL :=
  (RD K a1).bind fun y1=>(bif (decide (0≤(0:Int))&&decide ((0:Int)<(y1.length:Int))) then (La K a0 (y1.getD ((0:Int)+(0:Int)).toNat ((0:Int),(0:Int)))).bind fun y2=>(bif (decide (0≤(1:Int))&&decide ((1:Int)<(y1.length:Int))) then (La K a0 (y1.getD ((0:Int)+(1:Int)).toNat ((0:Int),(0:Int)))).bind fun y3=>(Hf K [y2,y3]).bind fun y4=>some y4 else none) else none)
def AkX:Mdl:=⟨[(.ro,sA),(.ro,sL)],[sL],fun x=>YL K x.1 x.2.1⟩
def YM:Env:=eE K [(92,AkX K),(181,V0 K)] [0,1,3,4,5,6,7,14,24]
def O9 (a0:Int) (a1:Int×Int×Int) (y1:List tA) (L4:Int→(List tA)→Option (List tA)) (q5:Int) (q6:List tA):Option (List tA) :=
  (bif (decide (q5<(y1.length:Int))) then (bif (decide (0≤q5)&&decide (q5<(y1.length:Int))) then (YL K ((y1.getD ((0:Int)+q5).toNat zA).1,((y1.getD ((0:Int)+q5).toNat zA).2).1,(((y1.getD ((0:Int)+q5).toNat zA).2).2)) a1).bind fun y7=>(bif ((y7.1==a1.1)&&((y7.2.1==a1.2.1)&&(y7.2.2==a1.2.2))) then (bif (decide (0≤q5)&&decide (q5<(y1.length:Int))) then (bif (Nat.ble (q6.length+[((y1.getD ((0:Int)+q5).toNat zA).1,((y1.getD ((0:Int)+q5).toNat zA).2).1,(((y1.getD ((0:Int)+q5).toNat zA).2).2))].length) (lim 32)) then L4 (w (q5+(1:Int))) (q6++[((y1.getD ((0:Int)+q5).toNat zA).1,((y1.getD ((0:Int)+q5).toNat zA).2).1,(((y1.getD ((0:Int)+q5).toNat zA).2).2))]) else none) else none) else L4 (w (q5+(1:Int))) q6) else none) else some q6)
def TL (a0:Int) (a1:Int×Int×Int) (y1:List tA) (n:Nat) (q5:Int) (q6:List tA):Option (List tA) :=
  AJ (X:=Int×List tA) (fun L x=>O9 K a0 a1 y1 (fun v0 v1=>L (v0,v1)) x.1 x.2) n (q5,q6)
def AaJ (a0:Int) (a1:Int×Int×Int) (I4:(List tA)→Int→(List tA)→Option (List tA)):Option (List tA) :=
  (Nt K a0).bind fun y1=>I4 y1 (0:Int) []
def YN (a0:Int) (a1:Int×Int×Int):Option (List tA) :=
  AaJ K a0 a1 (fun c0 d0 d1=>TL K a0 a1 c0 K d0 d1)
def AaK:Mdl:=⟨[(.ro,sI),(.ro,sL)],[(.list 62 sA)],fun x=>YN K x.1 x.2.1⟩
def AkY (a0:Int) (a1:Int×Int×Int) (lr:LR (List tA)):Ex→Fr→Option (List tA) :=
  Au (YM K) 0 lr Am4 [1,1,1,0,1,0] (fM (YM K) Tryz.f99 (AaK K) (a0,a1,()))
def AaL (a0:Int) (a1:Int×Int×Int) (lr:LR (List tA)) (y1:List tA) (bq5:Int) (bq6:List tA):Option (List tA) :=
  lr (AH Am4 [1,1,1,0,1,0,0]) (Vx a0 a1 y1 bq5 bq6) (AkY K a0 a1 lr)
def AnB:Env:=⟨[(90,Ae9 K),(99,AaK K),(131,RB K)],tys,eqs,mts,K,[0,1,2,5,6,7,8,13],[(45,O7 K)],[],[],[],[],[],false⟩
def V4 (a0:(List Int)×Int×Int) (a1:Int) (a2:Int×Int×Int):Option (tV×tA×Int×Int) :=
  (JP K).bind fun y1=>(YK K a1 a2).bind fun y2=>(bif (y2==(0:Int)) then (YN K a1 a2).bind fun y3=>(CV K a0 (y3.length:Int)).bind fun y4=>(bif (decide (0≤y4.2)&&decide (y4.2<(y3.length:Int))) then (CV K (a0.1,y4.1) (9:Int)).bind fun y5=>(CV K (a0.1,y5.1) (9:Int)).bind fun y6=>some (y6.1,((y3.getD ((0:Int)+y4.2).toNat zA).1,((y3.getD ((0:Int)+y4.2).toNat zA).2).1,(((y3.getD ((0:Int)+y4.2).toNat zA).2).2)),(w (y5.2-(4:Int))),(w (y6.2-(4:Int)))) else none) else (CV K a0 (9:Int)).bind fun y7=>(CV K (a0.1,y7.1) (9:Int)).bind fun y8=>some (y8.1,y1,(w (y7.2-(4:Int))),(w (y8.2-(4:Int)))))
def AjK:FB:=⟨5,(.int .u8),sV,[(.ro,sI),(.ro,sL)],[sM],fun x=>V4 K x.1 x.2.1 x.2.2.1⟩
def AnC:Env:=eE K [(199,AaG K)] [0,1,2,3,4,5,6]
def Nu (a0:Int×Int×Int) (a1:Int×Int):Option tV :=
  (He K a1.2 a0.2.2).bind fun y1=>(bif (a0.2.2 != 0) then (He K (w (a1.1-(w ((w ((w (a1.2-y1)).tdiv a0.2.2))*a0.2.1)))) a0.1).bind fun y2=>some (y2,y1) else none)
def V5:Mdl:=⟨[(.ro,sL),(.ro,sV)],[sV],fun x=>Nu K x.1 x.2.1⟩
def AnD:Env:=eE K [(118,V5 K)] [0,1,2,3,4]
def RI (a0:Int×Int×Int) (a1:tA×Int×Int):Option tM :=
  (Nu K a0 a1.2).bind fun y1=>some (a1.1,y1)
def AaM:Mdl:=⟨[(.ro,sL),(.ro,sM)],[sM],fun x=>RI K x.1 x.2.1⟩
def AnE:Env:=eE K [] [0,1,2,3,4]
def V6 (K:Nat) (a0 a1:Int×Int×Int×Int):Option tA :=
  some ((w ((w (a0.1*a1.1))+(w (a0.2.1*a1.2.2.1)))),(w ((w (a0.1*a1.2.1))+(w (a0.2.1*a1.2.2.2)))),(w ((w (a0.2.2.1*a1.1))+(w (a0.2.2.2*a1.2.2.1)))),(w ((w (a0.2.2.1*a1.2.1))+(w (a0.2.2.2*a1.2.2.2)))))
def AaN:Mdl:=⟨[(.ro,sA),(.ro,sA)],[sA],fun x=>V6 K x.1 x.2.1⟩
def AnF:Env:=eE K [(174,V2 K),(175,VY K),(182,AaN K)] [0,1,2,3,4]
def V7 (a0 a1:tA×Int×Int):Option tM :=
  (V6 K a0.1 a1.1).bind fun y1=>(La K a0.1 a1.2).bind fun y2=>(Nr K y2 a0.2).bind fun y3=>some (y1,y3)
def AjL:Mdl:=⟨[(.ro,sM),(.ro,sM)],[sM],fun x=>V7 K x.1 x.2.1⟩
def AnG:Env:=eE K [] [0,1,2]
def V8 (K:Nat) (a0:Int×Int×Int×Int):Option (List Int) :=
  some [a0.1,a0.2.1,a0.2.2.1,a0.2.2.2]
def AjM:Mdl:=⟨[(.ro,sA)],[(.list 2 sI)],fun x=>V8 K x.1⟩
def Nv:Env:=eE K [] [0,1,4,5,15,26]
def Pa (K:Nat) (a0 a1:List Int) (L2:Int→Option Bool) (q3:Int):Option Bool :=
  (bif (bif (decide (q3<(a0.length:Int))) then (decide (q3<(a1.length:Int))) else false) then (bif (decide (0≤q3)&&decide (q3<(a0.length:Int))) then (bif (decide (0≤q3)&&decide (q3<(a1.length:Int))) then (bif ((a0.getD ((0:Int)+q3).toNat (0:Int)) != (a1.getD ((0:Int)+q3).toNat (0:Int))) then (bif (decide (0≤q3)&&decide (q3<(a0.length:Int))) then (bif (decide (0≤q3)&&decide (q3<(a1.length:Int))) then some (decide ((a0.getD ((0:Int)+q3).toNat (0:Int))<(a1.getD ((0:Int)+q3).toNat (0:Int)))) else none) else none) else L2 (w (q3+(1:Int)))) else none) else none) else some (decide ((a0.length:Int)<(a1.length:Int))))
def H3 (a0 a1:List Int) (n:Nat) (q3:Int):Option Bool :=
  AJ (X:=Int) (fun L x=>Pa K a0 a1 (fun v0=>L v0) x) n q3
def TM (K:Nat) (a0 a1:List Int) (I2:Int→Option Bool):Option Bool :=
  I2 (0:Int)
def V9 (a0 a1:List Int):Option Bool :=
  TM K a0 a1 (fun d0=>H3 K a0 a1 K d0)
def Wa:Mdl:=⟨[(.ro,(.list 2 sI)),(.ro,(.list 2 sI))],[.bool],fun x=>V9 K x.1 x.2.1⟩
def Afc (a0 a1:List Int) (lr:LR Bool):Ex→Fr→Option Bool :=
  Au (Nv K) 2 lr Aji [1,0,1,0] (fM (Nv K) Tryz.f287 (Wa K) (a0,a1,()))
def Wb (a0 a1:List Int) (lr:LR Bool) (bq3:Int):Option Bool :=
  lr (AH Aji [1,0,1,0,0]) (Q6 a0 a1 bq3) (Afc K a0 a1 lr)
def AnH:Env:=eE K [(287,Wa K),(288,AjM K)] [0,1,2,3,4]
def AaO (a0 a1:Int×Int×Int×Int):Option Bool :=
  (V8 K a0).bind fun y1=>(V8 K a1).bind fun y2=>(V9 K y1 y2).bind fun y3=>some y3
def AjN:Mdl:=⟨[(.ro,sA),(.ro,sA)],[.bool],fun x=>AaO K x.1 x.2.1⟩
def AnI:Env:=eE K [] [0,1,2,3,4]
def RJ (K:Nat) (a0 a1:Int×Int):Option Bool :=
  some (bif (decide (a0.1<a1.1)) then true else (bif (a0.1==a1.1) then (decide (a0.2<a1.2)) else false))
def AaP:Mdl:=⟨[(.ro,sV),(.ro,sV)],[.bool],fun x=>RJ K x.1 x.2.1⟩
def AnJ:Env:=eE K [(198,AaP K),(269,AjN K)] [0,1,2,3,4,9]
def Wc (a0 a1:tA×Int×Int):Option Bool :=
  (bif (!((a0.1.1==a1.1.1)&&((a0.1.2.1==a1.1.2.1)&&((a0.1.2.2.1==a1.1.2.2.1)&&(a0.1.2.2.2==a1.1.2.2.2))))) then (AaO K a0.1 a1.1).bind fun y1=>some y1 else (RJ K a0.2 a1.2).bind fun y2=>some y2)
def AjO:Mdl:=⟨[(.ro,sM),(.ro,sM)],[.bool],fun x=>Wc K x.1 x.2.1⟩
def Nw:Env:=eE K [(224,AjO K)] [0,1,3,4,5,6,7,12,22]
def Pb (a0:List tM) (a1:tA×Int×Int) (L6:Int→Int→Option Int) (q7 q8:Int):Option Int :=
  (bif (decide (q7<q8)) then (bif (decide (0≤(w ((w (q7+q8)).tdiv (2:Int))))&&decide ((w ((w (q7+q8)).tdiv (2:Int)))<(a0.length:Int))) then (Wc K ((((a0.getD ((0:Int)+(w ((w (q7+q8)).tdiv (2:Int)))).toNat zM).1).1,(((a0.getD ((0:Int)+(w ((w (q7+q8)).tdiv (2:Int)))).toNat zM).1).2).1,((((a0.getD ((0:Int)+(w ((w (q7+q8)).tdiv (2:Int)))).toNat zM).1).2).2)),((a0.getD ((0:Int)+(w ((w (q7+q8)).tdiv (2:Int)))).toNat zM).2)) a1).bind fun y9=>(bif y9 then L6 (w ((w ((w (q7+q8)).tdiv (2:Int)))+(1:Int))) q8 else L6 q7 (w ((w (q7+q8)).tdiv (2:Int)))) else none) else some q7)
def GK (a0:List tM) (a1:tA×Int×Int) (n:Nat) (q7 q8:Int):Option Int :=
  AJ (X:=Int×Int) (fun L x=>Pb K a0 a1 (fun v0 v1=>L (v0,v1)) x.1 x.2) n (q7,q8)
def Pc (K:Nat) (a0:List tM) (a1:tA×Int×Int) (I6:Int→Int→Option Int):Option Int :=
  I6 (0:Int) (a0.length:Int)
def Nx (a0:List tM) (a1:tA×Int×Int):Option Int :=
  Pc K a0 a1 (fun d0 d1=>GK K a0 a1 K d0 d1)
def RK:Mdl:=⟨[(.ro,(.list 64 sM)),(.ro,sM)],[sI],fun x=>Nx K x.1 x.2.1⟩
def Afd (a0:List tM) (a1:tA×Int×Int) (lr:LR Int):Ex→Fr→Option Int :=
  Au (Nw K) 1 lr Ajj [1,1,0,0] (fM (Nw K) Tryz.f229 (RK K) (a0,a1,()))
def Wd (a0:List tM) (a1:tA×Int×Int) (lr:LR Int) (bq7 bq8:Int):Option Int :=
  lr (AH Ajj [1,1,0,0,0]) (Q7 a0 a1 bq7 bq8) (Afd K a0 a1 lr)
def AnK:Env:=eE K [(229,RK K)] [0,1,3,4,5]
def We (a0:List tM) (a1:tA×Int×Int):Option Bool :=
  (Nx K a0 a1).bind fun y1=>(bif ((decide (0≤y1)&&decide (y1<(a0.length:Int)))||(!(decide (y1<(a0.length:Int))))) then some (bif (decide (y1<(a0.length:Int))) then ((((a0.getD ((0:Int)+y1).toNat zM).1).1==a1.1.1)&&(((((a0.getD ((0:Int)+y1).toNat zM).1).2).1==a1.1.2.1)&&((((((a0.getD ((0:Int)+y1).toNat zM).1).2).2).1==a1.1.2.2.1)&&((((((a0.getD ((0:Int)+y1).toNat zM).1).2).2).2==a1.1.2.2.2)&&((((a0.getD ((0:Int)+y1).toNat zM).2).1==a1.2.1)&&(((a0.getD ((0:Int)+y1).toNat zM).2).2==a1.2.2)))))) else false) else none)
def AjP:Mdl:=⟨[(.ro,(.list 64 sM)),(.ro,sM)],[.bool],fun x=>We K x.1 x.2.1⟩
def AnL:Env:=eE K [(229,RK K)] [0,1,3,4,5,20]
def Wg (a0:List tM) (a1:tA×Int×Int):Option (List tM) :=
  (Nx K a0 a1).bind fun y1=>(bif ((decide (0≤y1)&&decide (y1<(a0.length:Int)))||(!(decide (y1<(a0.length:Int))))) then (bif (bif (decide (y1<(a0.length:Int))) then ((((a0.getD ((0:Int)+y1).toNat zM).1).1==a1.1.1)&&(((((a0.getD ((0:Int)+y1).toNat zM).1).2).1==a1.1.2.1)&&((((((a0.getD ((0:Int)+y1).toNat zM).1).2).2).1==a1.1.2.2.1)&&((((((a0.getD ((0:Int)+y1).toNat zM).1).2).2).2==a1.1.2.2.2)&&((((a0.getD ((0:Int)+y1).toNat zM).2).1==a1.2.1)&&(((a0.getD ((0:Int)+y1).toNat zM).2).2==a1.2.2)))))) else false) then some a0 else (bif (decide (0≤(0:Int))&&decide ((0:Int)≤y1)&&decide (y1≤(a0.length:Int))) then (bif (Nat.ble (0+((a0.take ((0:Int)+y1).toNat).drop 0).length) (lim 48)) then (bif (Nat.ble (([]++((a0.take ((0:Int)+y1).toNat).drop 0)).length+[a1].length) (lim 48)) then (bif (decide (0≤y1)&&decide (y1≤(a0.length:Int))&&decide ((a0.length:Int)≤(a0.length:Int))) then (bif (Nat.ble ((([]++((a0.take ((0:Int)+y1).toNat).drop 0))++[a1]).length+((a0.take ((0:Int)+(a0.length:Int)).toNat).drop ((0:Int)+y1).toNat).length) (lim 48)) then some ((([]++((a0.take ((0:Int)+y1).toNat).drop 0))++[a1])++((a0.take ((0:Int)+(a0.length:Int)).toNat).drop ((0:Int)+y1).toNat)) else none) else none) else none) else none) else none)) else none)
def AjQ:Mdl:=⟨[(.mv,(.list 64 sM)),(.ro,sM)],[(.list 64 sM)],fun x=>Wg K x.1 x.2.1⟩
def H4:Env:=eE K [(158,AaD K),(159,AaM K),(225,AjP K),(226,AjL K),(230,AjQ K)] [0,1,2,4,5,6,7,8,9,17,23,40]
def Ld (a0:Int×Int×Int) (a1:List tM) (q18:Int) (q20:List tM) (L17 L21:Int→(List tM)→(List tM)→Option (List tM)) (q22:Int) (q23 q24:List tM):Option (List tM) :=
  (bif (decide (q22<(a1.length:Int))) then (bif (decide (0≤q22)&&decide (q22<(a1.length:Int))) then (bif (decide (0≤q18)&&decide (q18<(q24.length:Int))) then (V7 K ((((a1.getD ((0:Int)+q22).toNat zM).1).1,(((a1.getD ((0:Int)+q22).toNat zM).1).2).1,((((a1.getD ((0:Int)+q22).toNat zM).1).2).2)),((a1.getD ((0:Int)+q22).toNat zM).2)) ((((q24.getD ((0:Int)+q18).toNat zM).1).1,(((q24.getD ((0:Int)+q18).toNat zM).1).2).1,((((q24.getD ((0:Int)+q18).toNat zM).1).2).2)),((q24.getD ((0:Int)+q18).toNat zM).2))).bind fun y25=>(RI K a0 y25).bind fun y26=>(We K q23 y26).bind fun y27=>(bif (!y27) then (Wg K q23 y26).bind fun y28=>(bif (Nat.ble (q24.length+[y26].length) (lim 48)) then L21 (w (q22+(1:Int))) y28 (q24++[y26]) else none) else L21 (w (q22+(1:Int))) q23 q24) else none) else none) else L17 (w (q18+(1:Int))) q23 q24)
def FY (a0:Int×Int×Int) (a1:List tM) (q18:Int) (q20:List tM) (L17:Int→(List tM)→(List tM)→Option (List tM)) (n:Nat) (q22:Int) (q23 q24:List tM):Option (List tM) :=
  AJ (X:=Int×List tM×List tM) (fun L x=>Ld K a0 a1 q18 q20 L17 (fun v0 v1 v2=>L (v0,v1,v2)) x.1 x.2.1 x.2.2) n (q22,q23,q24)
def H5 (K:Nat) (a0:Int×Int×Int) (a1:List tM) (I21:Int→(List tM)→Int→(List tM)→(List tM)→Option (List tM)) (L17:Int→(List tM)→(List tM)→Option (List tM)) (q18:Int) (q19 q20:List tM):Option (List tM) :=
  (bif (decide (q18<(q20.length:Int))) then I21 q18 q20 (0:Int) q19 q20 else some q19)
def Dt (a0:Int×Int×Int) (a1:List tM) (n:Nat) (q18:Int) (q19 q20:List tM):Option (List tM) :=
  AJ (X:=Int×List tM×List tM) (fun L x=>(fun L17=>H5 K a0 a1 (fun c0 c1 d0 d1 d2=>FY K a0 a1 c0 c1 L17 K d0 d1 d2) L17 x.1 x.2.1 x.2.2) (fun v0 v1 v2=>L (v0,v1,v2))) n (q18,q19,q20)
def TN (a0:Int×Int×Int) (a1:List tM) (I17:Int→(List tM)→(List tM)→Option (List tM)):Option (List tM) :=
  (Nq K).bind fun y1=>(Nq K).bind fun y2=>I17 (0:Int) [y1] [y2]
def Ny (a0:Int×Int×Int) (a1:List tM):Option (List tM) :=
  TN K a0 a1 (fun d0 d1 d2=>Dt K a0 a1 K d0 d1 d2)
def Wh:Mdl:=⟨[(.ro,sL),(.ro,(.list 64 sM))],[(.list 64 sM)],fun x=>Ny K x.1 x.2.1⟩
def RL (a0:Int×Int×Int) (a1:List tM) (lr:LR (List tM)):Ex→Fr→Option (List tM) :=
  Au (H4 K) 1 lr Vy [1,1,1,0,1,0] (fM (H4 K) Tryz.f161 (Wh K) (a0,a1,()))
def RM (a0:Int×Int×Int) (a1:List tM) (lr:LR (List tM)) (bq18:Int) (bq19 bq20:List tM):Option (List tM) :=
  lr (AH Vy [1,1,1,0,1,0,0]) (Ez a0 a1 bq18 bq19 bq20) (RL K a0 a1 lr)
def AaQ (a0:Int×Int×Int) (a1:List tM) (F17:Fr→Option (List tM)) (bq18:Int) (bq19 bq20:List tM) (lr:LR (List tM)):Ex→Fr→Option (List tM) :=
  Au (H4 K) 1 lr (AH Vy [1,1,1,0,1,0,0]) [1,0,0,1,0] (ET 1 (Ez a0 a1 bq18 bq19 bq20) F17 (RL K a0 a1 lr))
def RN (a0:Int×Int×Int) (a1:List tM) (F17:Fr→Option (List tM)) (bq18:Int) (bq19 bq20:List tM) (lr:LR (List tM)) (q18:Int) (q20:List tM) (bq22:Int) (bq23 bq24:List tM):Option (List tM) :=
  lr (AH Vy [1,1,1,0,1,0,0,1,0,0,1,0,0]) (Nn a0 a1 q18 q20 bq22 bq23 bq24) (AaQ K a0 a1 F17 bq18 bq19 bq20 lr)
def Pd:Env:=eE K [] [0,1,2,3,4,5,10,16]
def Pe (K:Nat) (a0:Int×Int×Int) (q7:Int) (L6 L9:Int→(List tV)→Option (List tV)) (q10:Int) (q11:List tV):Option (List tV) :=
  (bif (decide (q10<a0.2.2)) then (bif (Nat.ble (q11.length+[(q7,q10)].length) (lim 16)) then L9 (w (q10+(1:Int))) (q11++[(q7,q10)]) else none) else L6 (w (q7+(1:Int))) q11)
def Lg (a0:Int×Int×Int) (q7:Int) (L6:Int→(List tV)→Option (List tV)) (n:Nat) (q10:Int) (q11:List tV):Option (List tV) :=
  AJ (X:=Int×List tV) (fun L x=>Pe K a0 q7 L6 (fun v0 v1=>L (v0,v1)) x.1 x.2) n (q10,q11)
def Lh (K:Nat) (a0:Int×Int×Int) (I9:Int→Int→(List tV)→Option (List tV)) (L6:Int→(List tV)→Option (List tV)) (q7:Int) (q8:List tV):Option (List tV) :=
  (bif (decide (q7<a0.1)) then I9 q7 (0:Int) q8 else some q8)
def TO (a0:Int×Int×Int) (n:Nat) (q7:Int) (q8:List tV):Option (List tV) :=
  AJ (X:=Int×List tV) (fun L x=>(fun L6=>Lh K a0 (fun c0 d0 d1=>Lg K a0 c0 L6 K d0 d1) L6 x.1 x.2) (fun v0 v1=>L (v0,v1))) n (q7,q8)
def AaR (K:Nat) (a0:Int×Int×Int) (I6:Int→(List tV)→Option (List tV)):Option (List tV) :=
  I6 (0:Int) []
def Kb (a0:Int×Int×Int):Option (List tV) :=
  AaR K a0 (fun d0 d1=>TO K a0 K d0 d1)
def Li:Mdl:=⟨[(.ro,sL)],[(.list 33 sV)],fun x=>Kb K x.1⟩
def AaS (a0:Int×Int×Int) (lr:LR (List tV)):Ex→Fr→Option (List tV) :=
  Au (Pd K) 0 lr Ae1 [1,1,0,1,0] (fM (Pd K) Tryz.f42 (Li K) (a0,()))
def AaT (a0:Int×Int×Int) (lr:LR (List tV)) (bq7:Int) (bq8:List tV):Option (List tV) :=
  lr (AH Ae1 [1,1,0,1,0,0]) (HX a0 bq7 bq8) (AaS K a0 lr)
def AkZ (a0:Int×Int×Int) (F6:Fr→Option (List tV)) (bq7:Int) (bq8:List tV) (lr:LR (List tV)):Ex→Fr→Option (List tV) :=
  Au (Pd K) 0 lr (AH Ae1 [1,1,0,1,0,0]) [1,0,0,1,0] (ET 0 (HX a0 bq7 bq8) F6 (AaS K a0 lr))
def AaU (a0:Int×Int×Int) (F6:Fr→Option (List tV)) (bq7:Int) (bq8:List tV) (lr:LR (List tV)) (q7 bq10:Int) (bq11:List tV):Option (List tV) :=
  lr (AH Ae1 [1,1,0,1,0,0,1,0,0,1,0,0]) (Vz a0 q7 bq10 bq11) (AkZ K a0 F6 bq7 bq8 lr)
def Aps:Env:=eE K [(174,V2 K),(175,VY K)] [0,1,2,3,4]
def YO (a0:tA×Int×Int) (a1:Int×Int):Option tV :=
  (La K a0.1 a1).bind fun y1=>(Nr K y1 a0.2).bind fun y2=>some y2
def Afe:Mdl:=⟨[(.ro,sM),(.ro,sV)],[sV],fun x=>YO K x.1 x.2.1⟩
def AnM:Env:=eE K [(93,Afe K),(118,V5 K)] [0,1,2,3,4,5,6]
def JR (a0:Int×Int×Int) (a1:tA×Int×Int) (a2:Int×Int):Option tV :=
  (YO K a1 a2).bind fun y1=>(Nu K a0 y1).bind fun y2=>some y2
def AaV:Mdl:=⟨[(.ro,sL),(.ro,sM),(.ro,sV)],[sV],fun x=>JR K x.1 x.2.1 x.2.2.1⟩
def Nz:Env:=eE K [(198,AaP K)] [0,1,3,4,5,17,31]
def Pf (a0:List tV) (a1:Int×Int) (L3:Int→Option (List tV)) (q4:Int):Option (List tV) :=
  (bif ((decide (0≤q4)&&decide (q4<(a0.length:Int)))||(!(decide (q4<(a0.length:Int))))) then ((bif (decide (q4<(a0.length:Int))) then RJ K (a0.getD ((0:Int)+q4).toNat ((0:Int),(0:Int))) a1 else some false)).bind fun y5=>(bif (bif (decide (q4<(a0.length:Int))) then y5 else false) then L3 (w (q4+(1:Int))) else (bif ((decide (0≤q4)&&decide (q4<(a0.length:Int)))||(!(decide (q4<(a0.length:Int))))) then (bif (bif (decide (q4<(a0.length:Int))) then (((a0.getD ((0:Int)+q4).toNat ((0:Int),(0:Int))).1==a1.1)&&((a0.getD ((0:Int)+q4).toNat ((0:Int),(0:Int))).2==a1.2)) else false) then some a0 else (bif (decide (0≤(0:Int))&&decide ((0:Int)≤q4)&&decide (q4≤(a0.length:Int))) then (bif (Nat.ble (0+((a0.take ((0:Int)+q4).toNat).drop 0).length) (lim 16)) then (bif (Nat.ble (([]++((a0.take ((0:Int)+q4).toNat).drop 0)).length+[a1].length) (lim 16)) then (bif (decide (0≤q4)&&decide (q4≤(a0.length:Int))&&decide ((a0.length:Int)≤(a0.length:Int))) then (bif (Nat.ble ((([]++((a0.take ((0:Int)+q4).toNat).drop 0))++[a1]).length+((a0.take ((0:Int)+(a0.length:Int)).toNat).drop ((0:Int)+q4).toNat).length) (lim 16)) then some ((([]++((a0.take ((0:Int)+q4).toNat).drop 0))++[a1])++((a0.take ((0:Int)+(a0.length:Int)).toNat).drop ((0:Int)+q4).toNat)) else none) else none) else none) else none) else none)) else none)) else none)
def Km (a0:List tV) (a1:Int×Int) (n:Nat) (q4:Int):Option (List tV) :=
  AJ (X:=Int) (fun L x=>Pf K a0 a1 (fun v0=>L v0) x) n q4
def TP (K:Nat) (a0:List tV) (a1:Int×Int) (I3:Int→Option (List tV)):Option (List tV) :=
  I3 (0:Int)
def RO (a0:List tV) (a1:Int×Int):Option (List tV) :=
  TP K a0 a1 (fun d0=>Km K a0 a1 K d0)
def Wi:Mdl:=⟨[(.mv,(.list 33 sV)),(.ro,sV)],[(.list 33 sV)],fun x=>RO K x.1 x.2.1⟩
def Aff (a0:List tV) (a1:Int×Int) (lr:LR (List tV)):Ex→Fr→Option (List tV) :=
  Au (Nz K) 1 lr Ajk [1,1,0,0] (fM (Nz K) Tryz.f117 (Wi K) (a0,a1,()))
def Wj (a0:List tV) (a1:Int×Int) (lr:LR (List tV)) (bq4:Int):Option (List tV) :=
  lr (AH Ajk [1,1,0,0,0]) (Q8 a0 a1 bq4) (Aff K a0 a1 lr)
def YP:Env:=eE K [(101,AaV K),(117,Wi K)] [0,1,2,3,5,6,7,8,13]
def Jk (a0:Int×Int×Int) (a1:List tM) (a2:Int×Int) (L4:Int→(List tV)→Option (List tV)) (q5:Int) (q6:List tV):Option (List tV) :=
  (bif (decide (q5<(a1.length:Int))) then (bif (decide (0≤q5)&&decide (q5<(a1.length:Int))) then (JR K a0 ((((a1.getD ((0:Int)+q5).toNat zM).1).1,(((a1.getD ((0:Int)+q5).toNat zM).1).2).1,((((a1.getD ((0:Int)+q5).toNat zM).1).2).2)),((a1.getD ((0:Int)+q5).toNat zM).2)) a2).bind fun y7=>(RO K q6 y7).bind fun y8=>L4 (w (q5+(1:Int))) y8 else none) else some q6)
def TQ (a0:Int×Int×Int) (a1:List tM) (a2:Int×Int) (n:Nat) (q5:Int) (q6:List tV):Option (List tV) :=
  AJ (X:=Int×List tV) (fun L x=>Jk K a0 a1 a2 (fun v0 v1=>L (v0,v1)) x.1 x.2) n (q5,q6)
def AaW (K:Nat) (a0:Int×Int×Int) (a1:List tM) (a2:Int×Int) (I4:Int→(List tV)→Option (List tV)):Option (List tV) :=
  I4 (0:Int) []
def AaX (a0:Int×Int×Int) (a1:List tM) (a2:Int×Int):Option (List tV) :=
  AaW K a0 a1 a2 (fun d0 d1=>TQ K a0 a1 a2 K d0 d1)
def Afg:Mdl:=⟨[(.ro,sL),(.ro,(.list 64 sM)),(.ro,sV)],[(.list 33 sV)],fun x=>AaX K x.1 x.2.1 x.2.2.1⟩
def Ak0 (a0:Int×Int×Int) (a1:List tM) (a2:Int×Int) (lr:LR (List tV)):Ex→Fr→Option (List tV) :=
  Au (YP K) 1 lr Am5 [1,1,0,1,0] (fM (YP K) Tryz.f61 (Afg K) (a0,a1,a2,()))
def AaY (a0:Int×Int×Int) (a1:List tM) (a2:Int×Int) (lr:LR (List tV)) (bq5:Int) (bq6:List tV):Option (List tV) :=
  lr (AH Am5 [1,1,0,1,0,0]) (VA a0 a1 a2 bq5 bq6) (Ak0 K a0 a1 a2 lr)
def NA:Env:=eE K [(42,Li K),(61,Afg K)] [0,1,2,4,5,6,7,8,15,32]
def GL (a0:Int×Int×Int) (a1:List tM) (y1:List tV) (L4:Int→(List (List tV))→Option (List (List tV))) (q5:Int) (q6:List (List tV)):Option (List (List tV)) :=
  (bif (decide (q5<(y1.length:Int))) then (bif (decide (0≤q5)&&decide (q5<(y1.length:Int))) then (AaX K a0 a1 (y1.getD ((0:Int)+q5).toNat ((0:Int),(0:Int)))).bind fun y7=>(bif (decide (0≤(0:Int))&&decide ((0:Int)<(y7.length:Int))) then (bif (decide (0≤q5)&&decide (q5<(y1.length:Int))) then (bif (((y7.getD ((0:Int)+(0:Int)).toNat ((0:Int),(0:Int))).1==(y1.getD ((0:Int)+q5).toNat ((0:Int),(0:Int))).1)&&((y7.getD ((0:Int)+(0:Int)).toNat ((0:Int),(0:Int))).2==(y1.getD ((0:Int)+q5).toNat ((0:Int),(0:Int))).2)) then (bif (Nat.ble (q6.length+[y7].length) (lim 24)) then L4 (w (q5+(1:Int))) (q6++[y7]) else none) else L4 (w (q5+(1:Int))) q6) else none) else none) else none) else some q6)
def Pg (a0:Int×Int×Int) (a1:List tM) (y1:List tV) (n:Nat) (q5:Int) (q6:List (List tV)):Option (List (List tV)) :=
  AJ (X:=Int×List (List tV)) (fun L x=>GL K a0 a1 y1 (fun v0 v1=>L (v0,v1)) x.1 x.2) n (q5,q6)
def TR (a0:Int×Int×Int) (a1:List tM) (I4:(List tV)→Int→(List (List tV))→Option (List (List tV))):Option (List (List tV)) :=
  (Kb K a0).bind fun y1=>I4 y1 (0:Int) []
def RP (a0:Int×Int×Int) (a1:List tM):Option (List (List tV)) :=
  TR K a0 a1 (fun c0 d0 d1=>Pg K a0 a1 c0 K d0 d1)
def Wk:Mdl:=⟨[(.ro,sL),(.ro,(.list 64 sM))],[(.list 37 (.list 33 sV))],fun x=>RP K x.1 x.2.1⟩
def Afh (a0:Int×Int×Int) (a1:List tM) (lr:LR (List (List tV))):Ex→Fr→Option (List (List tV)) :=
  Au (NA K) 1 lr Ajl [1,1,1,0,1,0] (fM (NA K) Tryz.f234 (Wk K) (a0,a1,()))
def Wl (a0:Int×Int×Int) (a1:List tM) (lr:LR (List (List tV))) (y1:List tV) (bq5:Int) (bq6:List (List tV)):Option (List (List tV)) :=
  lr (AH Ajl [1,1,1,0,1,0,0]) (Q9 a0 a1 y1 bq5 bq6) (Afh K a0 a1 lr)
def Apt:Env:=eE K [(118,V5 K)] [0,1,2,3,4]
def Ph (a0:Int×Int×Int) (a1:Int×Int):Option Int :=
  (Nu K a0 a1).bind fun y1=>some (w ((w (y1.1*a0.2.2))+y1.2))
def Afi:Mdl:=⟨[(.ro,sL),(.ro,sV)],[sI],fun x=>Ph K x.1 x.2.1⟩
def H6:Env:=eE K [(62,Afi K),(234,Wk K)] [0,1,2,4,5,6,7,8,21,30]
def EB (a0:Int×Int×Int) (a1:List tM) (q10:Int) (y1:List (List tV)) (L9 L12:Int→(List Int)→Option (List Int)) (q13:Int) (q14:List Int):Option (List Int) :=
  (bif (decide (0≤q10)&&decide (q10<(y1.length:Int))) then (bif (decide (q13<((y1.getD ((0:Int)+q10).toNat []).length:Int))) then (bif (decide (0≤q10)&&decide (q10<(y1.length:Int))) then (bif (decide (0≤q13)&&decide (q13<((y1.getD ((0:Int)+q10).toNat []).length:Int))) then (Ph K a0 ((y1.getD ((0:Int)+q10).toNat []).getD ((0:Int)+q13).toNat ((0:Int),(0:Int)))).bind fun y15=>(bif (decide (0≤y15)&&decide (y15<(q14.length:Int))) then L12 (w (q13+(1:Int))) (q14.set ((0:Int)+y15).toNat q10) else none) else none) else none) else L9 (w (q10+(1:Int))) q14) else none)
def H7 (a0:Int×Int×Int) (a1:List tM) (q10:Int) (y1:List (List tV)) (L9:Int→(List Int)→Option (List Int)) (n:Nat) (q13:Int) (q14:List Int):Option (List Int) :=
  AJ (X:=Int×List Int) (fun L x=>EB K a0 a1 q10 y1 L9 (fun v0 v1=>L (v0,v1)) x.1 x.2) n (q13,q14)
def E0 (K:Nat) (a0:Int×Int×Int) (a1:List tM) (y1:List (List tV)) (I12:Int→Int→(List Int)→Option (List Int)) (L9:Int→(List Int)→Option (List Int)) (q10:Int) (q11:List Int):Option (List Int) :=
  (bif (decide (q10<(y1.length:Int))) then I12 q10 (0:Int) q11 else some q11)
def Wm (a0:Int×Int×Int) (a1:List tM) (y1:List (List tV)) (n:Nat) (q10:Int) (q11:List Int):Option (List Int) :=
  AJ (X:=Int×List Int) (fun L x=>(fun L9=>E0 K a0 a1 y1 (fun c0 d0 d1=>H7 K a0 a1 c0 y1 L9 K d0 d1) L9 x.1 x.2) (fun v0 v1=>L (v0,v1))) n (q10,q11)
def TS (a0:Int×Int×Int) (a1:List tM) (I9:(List (List tV))→Int→(List Int)→Option (List Int)):Option (List Int) :=
  (bif (decide (0≤(w (a0.1*a0.2.2)))&&Nat.ble (w (a0.1*a0.2.2)).toNat (lim 8)&&((w (a0.1*a0.2.2))==(w (a0.1*a0.2.2)))) then (RP K a0 a1).bind fun y1=>I9 y1 (0:Int) (List.replicate (w (a0.1*a0.2.2)).toNat (0:Int)) else none)
def NB (a0:Int×Int×Int) (a1:List tM):Option (List Int) :=
  TS K a0 a1 (fun c0 d0 d1=>Wm K a0 a1 c0 K d0 d1)
def Wn:Mdl:=⟨[(.ro,sL),(.ro,(.list 64 sM))],[(.list 2 sI)],fun x=>NB K x.1 x.2.1⟩
def Wo (a0:Int×Int×Int) (a1:List tM) (lr:LR (List Int)):Ex→Fr→Option (List Int) :=
  Au (H6 K) 1 lr VB [1,1,1,0,1,0] (fM (H6 K) Tryz.f162 (Wn K) (a0,a1,()))
def Wp (a0:Int×Int×Int) (a1:List tM) (lr:LR (List Int)) (y1:List (List tV)) (bq10:Int) (bq11:List Int):Option (List Int) :=
  lr (AH VB [1,1,1,0,1,0,0]) (FR a0 a1 y1 bq10 bq11) (Wo K a0 a1 lr)
def AaZ (a0:Int×Int×Int) (a1:List tM) (y1:List (List tV)) (F9:Fr→Option (List Int)) (bq10:Int) (bq11:List Int) (lr:LR (List Int)):Ex→Fr→Option (List Int) :=
  Au (H6 K) 1 lr (AH VB [1,1,1,0,1,0,0]) [1,0,0,1,0] (ET 1 (FR a0 a1 y1 bq10 bq11) F9 (Wo K a0 a1 lr))
def RQ (a0:Int×Int×Int) (a1:List tM) (y1:List (List tV)) (F9:Fr→Option (List Int)) (bq10:Int) (bq11:List Int) (lr:LR (List Int)) (q10 bq13:Int) (bq14:List Int):Option (List Int) :=
  lr (AH VB [1,1,1,0,1,0,0,1,0,0,1,0,0]) (Np a0 a1 q10 y1 bq13 bq14) (AaZ K a0 a1 y1 F9 bq10 bq11 lr)
def D7:Env:=⟨[(90,Ae9 K),(158,AaD K),(159,AaM K),(161,Wh K),(162,Wn K)],tys,eqs,mts,K,[0,1,2,5,6,7,8,9,10,11,12,13,14,15,23,29,35,60,72],[(45,O7 K),(160,AjK K)],[],[],[],[],[],false⟩
def Pi (K:Nat) (a0:(List Int)×Int×Int) (a1:Int) (a2:Int×Int×Int) (q9:Int) (q12:List tM) (q21 q22 q23:Int) (q24:List Int) (y1:Int) (y3:tV×Int) (y15:List tM) (y16:List Int) (y17:tV×Int) (L27:Int→(List Int)→Option (tV×Int×tL×List Int)) (q28:Int) (q29:List Int):Option (tV×Int×tL×List Int) :=
  (bif (decide (q28<(y16.length:Int))) then (bif (decide (0≤q28)&&decide (q28<(y16.length:Int))) then (bif (decide (0≤(y16.getD ((0:Int)+q28).toNat (0:Int)))&&decide ((y16.getD ((0:Int)+q28).toNat (0:Int))<(q24.length:Int))) then (bif (Nat.ble (q29.length+[(q24.getD ((0:Int)+(y16.getD ((0:Int)+q28).toNat (0:Int))).toNat (0:Int))].length) (lim 8)) then L27 (w (q28+(1:Int))) (q29++[(q24.getD ((0:Int)+(y16.getD ((0:Int)+q28).toNat (0:Int))).toNat (0:Int))]) else none) else none) else none) else some ((q22,q23),a1,a2,q29))
def H8 (a0:(List Int)×Int×Int) (a1:Int) (a2:Int×Int×Int) (q9:Int) (q12:List tM) (q21 q22 q23:Int) (q24:List Int) (y1:Int) (y3:tV×Int) (y15:List tM) (y16:List Int) (y17:tV×Int) (n:Nat) (q28:Int) (q29:List Int):Option (tV×Int×tL×List Int) :=
  AJ (X:=Int×List Int) (fun L x=>Pi K a0 a1 a2 q9 q12 q21 q22 q23 q24 y1 y3 y15 y16 y17 (fun v0 v1=>L (v0,v1)) x.1 x.2) n (q28,q29)
def Kn (a0:(List Int)×Int×Int) (a1:Int) (a2:Int×Int×Int) (q9:Int) (q12:List tM) (y1:Int) (y3:tV×Int) (y15:List tM) (y16:List Int) (y17:tV×Int) (I27:Int→(List tM)→Int→Int→Int→(List Int)→Int→(tV×Int)→(List tM)→(List Int)→(tV×Int)→Int→(List Int)→Option (tV×Int×tL×List Int)) (L20:Int→Int→Int→(List Int)→Option (tV×Int×tL×List Int)) (q21 q22 q23:Int) (q24:List Int):Option (tV×Int×tL×List Int) :=
  (bif (decide (q21<(y16.length:Int))) then (CV K (a0.1,q22,q23) (w ((2:Int)+y17.2))).bind fun y25=>(bif (Nat.ble (q24.length+[y25.2].length) (lim 8)) then L20 (w (q21+(1:Int))) y25.1.1 y25.1.2 (q24++[y25.2]) else none) else I27 q9 q12 q21 q22 q23 q24 y1 y3 y15 y16 y17 (0:Int) [])
def H9 (a0:(List Int)×Int×Int) (a1:Int) (a2:Int×Int×Int) (q9:Int) (q12:List tM) (y1:Int) (y3:tV×Int) (y15:List tM) (y16:List Int) (y17:tV×Int) (n:Nat) (q21 q22 q23:Int) (q24:List Int):Option (tV×Int×tL×List Int) :=
  AJ (X:=Int×Int×Int×List Int) (fun L x=>Kn K a0 a1 a2 q9 q12 y1 y3 y15 y16 y17 (fun c0 c1 c2 c3 c4 c5 c6 c7 c8 c9 c10 d0 d1=>H8 K a0 a1 a2 c0 c1 c2 c3 c4 c5 c6 c7 c8 c9 c10 K d0 d1) (fun v0 v1 v2 v3=>L (v0,v1,v2,v3)) x.1 x.2.1 x.2.2.1 x.2.2.2) n (q21,q22,q23,q24)
def Pj (a0:(List Int)×Int×Int) (a1:Int) (a2:Int×Int×Int) (y1:Int) (y2:tA×Int×Int) (y3:tV×Int) (I20:Int→(List tM)→Int→(tV×Int)→(List tM)→(List Int)→(tV×Int)→Int→Int→Int→(List Int)→Option (tV×Int×tL×List Int)) (L8:Int→Int→Int→(List tM)→Option (tV×Int×tL×List Int)) (q9 q10 q11:Int) (q12:List tM):Option (tV×Int×tL×List Int) :=
  (bif (decide (q9>(0:Int))) then (V4 K (a0.1,q10,q11) a1 a2).bind fun y13=>(RI K a2 y13.2).bind fun y14=>(bif (Nat.ble (q12.length+[y14].length) (lim 48)) then L8 (w (q9-(1:Int))) y13.1.1 y13.1.2 (q12++[y14]) else none) else (Ny K a2 q12).bind fun y15=>(NB K a2 y15).bind fun y16=>(CV K (a0.1,q10,q11) (3:Int)).bind fun y17=>I20 q9 q12 y1 y3 y15 y16 y17 (0:Int) y17.1.1 y17.1.2 [])
def Pk (a0:(List Int)×Int×Int) (a1:Int) (a2:Int×Int×Int) (y1:Int) (y2:tA×Int×Int) (y3:tV×Int) (n:Nat) (q9 q10 q11:Int) (q12:List tM):Option (tV×Int×tL×List Int) :=
  AJ (X:=Int×Int×Int×List tM) (fun L x=>Pj K a0 a1 a2 y1 y2 y3 (fun c0 c1 c2 c3 c4 c5 c6 d0 d1 d2 d3=>H9 K a0 a1 a2 c0 c1 c2 c3 c4 c5 c6 K d0 d1 d2 d3) (fun v0 v1 v2 v3=>L (v0,v1,v2,v3)) x.1 x.2.1 x.2.2.1 x.2.2.2) n (q9,q10,q11,q12)
def Pl (K:Nat) (a0:(List Int)×Int×Int) (a1:Int) (a2:Int×Int×Int) (q39 q40 q41:Int) (q42 q43:List Int) (y1:Int) (y2:tA×Int×Int) (y3:tV×Int) (y30:List Int) (y31:tV×Int) (L46:Int→(List Int)→Option (tV×Int×tL×List Int)) (q47:Int) (q48:List Int):Option (tV×Int×tL×List Int) :=
  (bif (decide (q47<(y30.length:Int))) then (bif (decide (0≤q47)&&decide (q47<(y30.length:Int))) then (bif (decide (0≤(y30.getD ((0:Int)+q47).toNat (0:Int)))&&decide ((y30.getD ((0:Int)+q47).toNat (0:Int))<(q43.length:Int))) then (bif (Nat.ble (q48.length+[(q43.getD ((0:Int)+(y30.getD ((0:Int)+q47).toNat (0:Int))).toNat (0:Int))].length) (lim 8)) then L46 (w (q47+(1:Int))) (q48++[(q43.getD ((0:Int)+(y30.getD ((0:Int)+q47).toNat (0:Int))).toNat (0:Int))]) else none) else none) else none) else some ((q40,q41),a1,a2,q48))
def Ia (a0:(List Int)×Int×Int) (a1:Int) (a2:Int×Int×Int) (q39 q40 q41:Int) (q42 q43:List Int) (y1:Int) (y2:tA×Int×Int) (y3:tV×Int) (y30:List Int) (y31:tV×Int) (n:Nat) (q47:Int) (q48:List Int):Option (tV×Int×tL×List Int) :=
  AJ (X:=Int×List Int) (fun L x=>Pl K a0 a1 a2 q39 q40 q41 q42 q43 y1 y2 y3 y30 y31 (fun v0 v1=>L (v0,v1)) x.1 x.2) n (q47,q48)
def Ko (a0:(List Int)×Int×Int) (a1:Int) (a2:Int×Int×Int) (y1:Int) (y2:tA×Int×Int) (y3:tV×Int) (y30:List Int) (y31:tV×Int) (I46:Int→Int→Int→(List Int)→(List Int)→Int→tM→(tV×Int)→(List Int)→(tV×Int)→Int→(List Int)→Option (tV×Int×tL×List Int)) (L38:Int→Int→Int→(List Int)→(List Int)→Option (tV×Int×tL×List Int)) (q39 q40 q41:Int) (q42 q43:List Int):Option (tV×Int×tL×List Int) :=
  (bif (decide (q39<(y30.length:Int))) then (CV K (a0.1,q40,q41) (w ((2:Int)+y31.2))).bind fun y44=>(bif (Nat.ble (q43.length+[y44.2].length) (lim 8)) then L38 (w (q39+(1:Int))) y44.1.1 y44.1.2 q42 (q43++[y44.2]) else none) else I46 q39 q40 q41 q42 q43 y1 y2 y3 y30 y31 (0:Int) [])
def Kp (a0:(List Int)×Int×Int) (a1:Int) (a2:Int×Int×Int) (y1:Int) (y2:tA×Int×Int) (y3:tV×Int) (y30:List Int) (y31:tV×Int) (n:Nat) (q39 q40 q41:Int) (q42 q43:List Int):Option (tV×Int×tL×List Int) :=
  AJ (X:=Int×Int×Int×List Int×List Int) (fun L x=>Ko K a0 a1 a2 y1 y2 y3 y30 y31 (fun c0 c1 c2 c3 c4 c5 c6 c7 c8 c9 d0 d1=>Ia K a0 a1 a2 c0 c1 c2 c3 c4 c5 c6 c7 c8 c9 K d0 d1) (fun v0 v1 v2 v3 v4=>L (v0,v1,v2,v3,v4)) x.1 x.2.1 x.2.2.1 x.2.2.2.1 x.2.2.2.2) n (q39,q40,q41,q42,q43)
def Aa0 (a0:(List Int)×Int×Int) (a1:Int) (a2:Int×Int×Int) (I8:Int→tM→(tV×Int)→Int→Int→Int→(List tM)→Option (tV×Int×tL×List Int)) (I38:Int→tM→(tV×Int)→(List Int)→(tV×Int)→Int→Int→Int→(List Int)→(List Int)→Option (tV×Int×tL×List Int)):Option (tV×Int×tL×List Int) :=
  (YK K a1 a2).bind fun y1=>(bif (y1 != (0:Int)) then some (a0.2,a1,a2,[]) else (Nq K).bind fun y2=>(CV K a0 (4:Int)).bind fun y3=>(bif (decide (y3.2>(0:Int))) then (CV K (a0.1,y3.1) (2:Int)).bind fun y4=>I8 y1 y2 y3 (w ((1:Int)+y4.2)) y4.1.1 y4.1.2 [] else (NB K a2 [y2]).bind fun y30=>(CV K (a0.1,y3.1) (3:Int)).bind fun y31=>I38 y1 y2 y3 y30 y31 (0:Int) y31.1.1 y31.1.2 [] []))
def Aa1 (a0:(List Int)×Int×Int) (a1:Int) (a2:Int×Int×Int):Option (tV×Int×tL×List Int) :=
  Aa0 K a0 a1 a2 (fun c0 c1 c2 d0 d1 d2 d3=>Pk K a0 a1 a2 c0 c1 c2 K d0 d1 d2 d3) (fun c0 c1 c2 c3 c4 d0 d1 d2 d3 d4=>Kp K a0 a1 a2 c0 c1 c2 c3 c4 K d0 d1 d2 d3 d4)
def AnN:FB:=⟨5,(.int .u8),sV,[(.ro,sI),(.ro,sL)],[(.cons sI (.cons sL (.list 2 sI)))],fun x=>Aa1 K x.1 x.2.1 x.2.2.1⟩
def Afj (a0:(List Int)×Int×Int) (a1:Int) (a2:Int×Int×Int) (lr:LR (tV×Int×tL×List Int)):Ex→Fr→Option (tV×Int×tL×List Int) :=
  Au (D7 K) 1 lr MZ [1,1,1,1,1,1,1,1,0,1,0] (TH (D7 K) Tryz.f77 sV [(.cons sI (.cons sL (.list 2 sI)))])
def Wq (a0:(List Int)×Int×Int) (a1:Int) (a2:Int×Int×Int) (lr:LR (tV×Int×tL×List Int)) (q9:Int) (q12:List tM) (y1:Int) (y3:tV×Int) (y15:List tM) (y16:List Int) (y17:tV×Int) (bq21 bq22 bq23:Int) (bq24:List Int):Option (tV×Int×tL×List Int) :=
  lr (AH MZ [1,1,1,1,1,1,1,1,0,1,0,0]) (K7 a0 a1 a2 q9 q12 y1 y3 y15 y16 y17 bq21 bq22 bq23 bq24) (Afj K a0 a1 a2 lr)
def Ak1 (a0:(List Int)×Int×Int) (a1:Int) (a2:Int×Int×Int) (lr:LR (tV×Int×tL×List Int)):Ex→Fr→Option (tV×Int×tL×List Int) :=
  Au (D7 K) 1 lr MZ [1,1,1,1,0,1,0,1,0,1,0] (TH (D7 K) Tryz.f77 sV [(.cons sI (.cons sL (.list 2 sI)))])
def Aa2 (a0:(List Int)×Int×Int) (a1:Int) (a2:Int×Int×Int) (lr:LR (tV×Int×tL×List Int)) (y1:Int) (y2:tA×Int×Int) (y3:tV×Int) (bq9 bq10 bq11:Int) (bq12:List tM):Option (tV×Int×tL×List Int) :=
  lr (AH MZ [1,1,1,1,0,1,0,1,0,1,0,0]) (O5 a0 a1 a2 y1 y2 y3 bq9 bq10 bq11 bq12) (Ak1 K a0 a1 a2 lr)
def Afk (a0:(List Int)×Int×Int) (a1:Int) (a2:Int×Int×Int) (lr:LR (tV×Int×tL×List Int)):Ex→Fr→Option (tV×Int×tL×List Int) :=
  Au (D7 K) 1 lr MZ [1,1,1,1,1,1,1,1,0,1,0] (TH (D7 K) Tryz.f77 sV [(.cons sI (.cons sL (.list 2 sI)))])
def Wr (a0:(List Int)×Int×Int) (a1:Int) (a2:Int×Int×Int) (lr:LR (tV×Int×tL×List Int)) (y1:Int) (y2:tA×Int×Int) (y3:tV×Int) (y30:List Int) (y31:tV×Int) (bq39 bq40 bq41:Int) (bq42 bq43:List Int):Option (tV×Int×tL×List Int) :=
  lr (AH MZ [1,1,1,1,1,1,1,1,0,1,0,0]) (K8 a0 a1 a2 y1 y2 y3 y30 y31 bq39 bq40 bq41 bq42 bq43) (Afk K a0 a1 a2 lr)
def Afl (a0:(List Int)×Int×Int) (a1:Int) (a2:Int×Int×Int) (lr:LR (tV×Int×tL×List Int)):Ex→Fr→Option (tV×Int×tL×List Int) :=
  Au (D7 K) 1 lr MZ [1,1,1,1,1,1,1,1,1,0,1,0] (TH (D7 K) Tryz.f77 sV [(.cons sI (.cons sL (.list 2 sI)))])
def Ws (a0:(List Int)×Int×Int) (a1:Int) (a2:Int×Int×Int) (lr:LR (tV×Int×tL×List Int)) (q9:Int) (q12:List tM) (q21 q22 q23:Int) (q24:List Int) (y1:Int) (y3:tV×Int) (y15:List tM) (y16:List Int) (y17:tV×Int) (bq28:Int) (bq29:List Int):Option (tV×Int×tL×List Int) :=
  lr (AH MZ [1,1,1,1,1,1,1,1,1,0,1,0,0]) (Ra a0 a1 a2 q9 q12 q21 q22 q23 q24 y1 y3 y15 y16 y17 bq28 bq29) (Afl K a0 a1 a2 lr)
def Afm (a0:(List Int)×Int×Int) (a1:Int) (a2:Int×Int×Int) (lr:LR (tV×Int×tL×List Int)):Ex→Fr→Option (tV×Int×tL×List Int) :=
  Au (D7 K) 1 lr MZ [1,1,1,1,1,1,1,1,1,0,1,0] (TH (D7 K) Tryz.f77 sV [(.cons sI (.cons sL (.list 2 sI)))])
def Wt (a0:(List Int)×Int×Int) (a1:Int) (a2:Int×Int×Int) (lr:LR (tV×Int×tL×List Int)) (q39 q40 q41:Int) (q42 q43:List Int) (y1:Int) (y2:tA×Int×Int) (y3:tV×Int) (y30:List Int) (y31:tV×Int) (bq47:Int) (bq48:List Int):Option (tV×Int×tL×List Int) :=
  lr (AH MZ [1,1,1,1,1,1,1,1,1,0,1,0,0]) (Rb a0 a1 a2 q39 q40 q41 q42 q43 y1 y2 y3 y30 y31 bq47 bq48) (Afm K a0 a1 a2 lr)
def Apu:Env:=⟨[],tys,eqs,mts,K,[0,2,3,4,5,16,17,24,29],[(44,AaC K),(45,O7 K),(76,Ann K),(77,AnN K)],[],[],[],[],[],false⟩
def Aa3 (a0:(List Int)×Int×Int):Option (tV×Int×tL×List Int) :=
  (Ae8 K a0).bind fun y1=>(Aa1 K (a0.1,y1.1) y1.2.1 y1.2.2).bind fun y2=>(CV K (a0.1,y2.1) (60:Int)).bind fun y3=>(bif (y3.2==(0:Int)) then (bif (Nat.ble (y2.2.2.2.length+[(0:Int)].length) (lim 8)) then some (y3.1,y2.2.1,y2.2.2.1,(y2.2.2.2++[(0:Int)])) else none) else (bif (y3.2==(1:Int)) then (bif (decide ((y2.2.2.2.length:Int)>(0:Int))) then (O8 K (a0.1,y3.1) [(-1:Int),(9:Int),(10:Int)]).bind fun y4=>(bif (decide (0≤(0:Int))&&decide ((0:Int)<(y2.2.2.2.length:Int))) then some (y4.1,y2.2.1,y2.2.2.1,(y2.2.2.2.set ((0:Int)+(0:Int)).toNat y4.2)) else none) else some (y3.1,y2.2)) else some (y3.1,y2.2)))
def Ak2:FB:=⟨5,(.int .u8),sV,[],[(.cons sI (.cons sL (.list 2 sI)))],fun x=>Aa3 K x.1⟩
def f6E:Env:=⟨[],tys,eqs,mts,K,[0,2],[(30,Ak2 K)],[(31,AkV K)],[],[],[],[],false⟩
def f6G (a0:List Int):Option (Int×tL×List Int) :=
  (YJ K a0).bind fun y1=>(Aa3 K (a0,y1)).bind fun y2=>some y2.2
def f6M:Mdl:=⟨[(.ro,(.list 5 (.int .u8)))],[(.cons sI (.cons sL (.list 2 sI)))],fun x=>f6G K x.1⟩
def AnO:Env:=eE K [] [0,1,2,6]
def EC (K:Nat) (a0 a1 a2:Int):Option Bool :=
  some (bif (decide (a0≥a1)) then (decide (a0≤a2)) else false)
def Lj:Mdl:=⟨[(.ro,sI),(.ro,sI),(.ro,sI)],[.bool],fun x=>EC K x.1 x.2.1 x.2.2.1⟩
def Apv:Env:=eE K [(106,Lj K)] [0,2]
def Afn (a0:Int):Option Bool :=
  (EC K a0 (0:Int) (1:Int)).bind fun y1=>some y1
def AnP:Mdl:=⟨[(.ro,sI)],[.bool],fun x=>Afn K x.1⟩
def Apw:Env:=eE K [] [0,1,2]
def RR (K:Nat) (a0:Int×Int×Int):Option Int :=
  some (w (a0.1*a0.2.2))
def Afo:Mdl:=⟨[(.ro,sL)],[sI],fun x=>RR K x.1⟩
def Apx:Env:=eE K [(80,Afo K),(106,Lj K)] [0,1,2]
def Afp (a0:Int×Int×Int):Option Bool :=
  (EC K a0.1 (1:Int) (64:Int)).bind fun y1=>((bif y1 then EC K a0.2.2 (1:Int) (64:Int) else some false)).bind fun y2=>((bif (bif y1 then y2 else false) then EC K a0.2.1 (0:Int) (w (a0.1-(1:Int))) else some false)).bind fun y3=>((bif (bif (bif y1 then y2 else false) then y3 else false) then RR K a0 else some (0:Int))).bind fun y4=>some (bif (bif (bif y1 then y2 else false) then y3 else false) then (decide (y4≤(64:Int))) else false)
def AnQ:Mdl:=⟨[(.ro,sL)],[.bool],fun x=>Afp K x.1⟩
def AnR:Env:=eE K [(106,Lj K)] [0,1,2,4]
def Wu (a0 a1 a2:Int):Option Bool :=
  (EC K a0 a1 a2).bind fun y1=>some (!y1)
def Aa4:Mdl:=⟨[(.ro,sI),(.cap,sI),(.cap,sI)],[.bool],fun x=>Wu K x.1 x.2.1 x.2.2.1⟩
def NC:Env:=eE K [] [0,1,4,5,7,8,9,16]
def Kq (K:Nat) (a0:List Int) (a1:(Int→Option Bool)) (L3:Int→Option Int) (q4:Int):Option Int :=
  (bif (decide (q4<(a0.length:Int))) then (bif (decide (0≤q4)&&decide (q4<(a0.length:Int))) then (a1 (a0.getD ((0:Int)+q4).toNat (0:Int))).bind fun y5=>(bif y5 then some q4 else L3 (w (q4+(1:Int)))) else none) else some (-1:Int))
def Pm (a0:List Int) (a1:(Int→Option Bool)) (n:Nat) (q4:Int):Option Int :=
  AJ (X:=Int) (fun L x=>Kq K a0 a1 (fun v0=>L v0) x) n q4
def TT (K:Nat) (a0:List Int) (a1:(Int→Option Bool)) (I3:Int→Option Int):Option Int :=
  I3 (0:Int)
def Wv (a0:List Int) (a1:(Int→Option Bool)):Option Int :=
  TT K a0 a1 (fun d0=>Pm K a0 a1 K d0)
def Ww:Mdl:=⟨[(.ro,(.list 2 sI)),(.ro,(.fn1 sI .bool))],[sI],fun x=>Wv K x.1 x.2.1⟩
def Afq (a0:List Int) (a1:(Int→Option Bool)) (lr:LR Int):Ex→Fr→Option Int :=
  Au (NC K) 1 lr Ajm [1,0,1,0] (fM (NC K) Tryz.f235 (Ww K) (a0,a1,()))
def Wx (a0:List Int) (a1:(Int→Option Bool)) (lr:LR Int) (bq4:Int):Option Int :=
  lr (AH Ajm [1,0,1,0,0]) (Rc a0 a1 bq4) (Afq K a0 a1 lr)
def AnS:Env:=eE K [(235,Ww K)] [0,1,4]
def Aa5 (a0:List Int) (a1:(Int→Option Bool)):Option Bool :=
  (Wv K a0 a1).bind fun y1=>some (decide (y1≥(0:Int)))
def AjR:Mdl:=⟨[(.ro,(.list 2 sI)),(.ro,(.fn1 sI .bool))],[.bool],fun x=>Aa5 K x.1 x.2.1⟩
def Apy:Env:=⟨[(163,AjR K),(164,Aa4 K)],tys,eqs,mts,K,[0,1,2,4,5,6],[],[],[],[],[(164,Aa4 K)],[],false⟩
def Afr (a0:List Int) (a1 a2:Int):Option Bool :=
  (Aa5 K a0 (fun z1=>Wu K z1 a1 a2)).bind fun y2=>some (!y2)
def AnT:Mdl:=⟨[(.ro,(.list 2 sI)),(.ro,sI),(.ro,sI)],[.bool],fun x=>Afr K x.1 x.2.1 x.2.2.1⟩
def Apz:Env:=eE K [(78,AnP K),(79,AnQ K),(80,Afo K),(81,AnT K)] [0,1,2]
def M0 (a0:Int×tL×List Int):Option Bool :=
  (Afn K a0.1).bind fun y1=>((bif y1 then Afp K a0.2.1 else some false)).bind fun y2=>((bif (bif y1 then y2 else false) then RR K a0.2.1 else some (0:Int))).bind fun y3=>((bif (bif (bif y1 then y2 else false) then ((a0.2.2.length:Int)==y3) else false) then Afr K a0.2.2 (0:Int) (9:Int) else some false)).bind fun y4=>some (bif (bif (bif y1 then y2 else false) then ((a0.2.2.length:Int)==y3) else false) then y4 else false)
def TU:Mdl:=⟨[(.ro,(.cons sI (.cons sL (.list 2 sI))))],[.bool],fun x=>M0 K x.1⟩
def ApA:Env:=eE K [] [0,1,2,3]
def Pn (K:Nat) (a0:Int×Int×Int):Option (tV×Int×Int) :=
  some ((a0.1,(0:Int)),a0.2)
def Aa6:Mdl:=⟨[(.ro,sL)],[sV,sV],fun x=>Pn K x.1⟩
def Po:Env:=eE K [] [0,1,2,3,4,5,8,9,10,13,14,15]
def Pq (K:Nat) (a0:Int×Int×Int) (q7:Int) (L6 L9:Int→(List tV)→Option (List tV)) (q10:Int) (q11:List tV):Option (List tV) :=
  (bif (decide (q10<a0.2.2)) then (bif (Nat.ble (q11.length+[(q7,q10)].length) (lim 16)) then L9 (w (q10+(1:Int))) (q11++[(q7,q10)]) else none) else L6 (w (q7+(1:Int))) q11)
def Lk (a0:Int×Int×Int) (q7:Int) (L6:Int→(List tV)→Option (List tV)) (n:Nat) (q10:Int) (q11:List tV):Option (List tV) :=
  AJ (X:=Int×List tV) (fun L x=>Pq K a0 q7 L6 (fun v0 v1=>L (v0,v1)) x.1 x.2) n (q10,q11)
def Ll (K:Nat) (a0:Int×Int×Int) (I9:Int→Int→(List tV)→Option (List tV)) (L6:Int→(List tV)→Option (List tV)) (q7:Int) (q8:List tV):Option (List tV) :=
  (bif (decide (q7<a0.1)) then I9 q7 (0:Int) q8 else some q8)
def TV (a0:Int×Int×Int) (n:Nat) (q7:Int) (q8:List tV):Option (List tV) :=
  AJ (X:=Int×List tV) (fun L x=>(fun L6=>Ll K a0 (fun c0 d0 d1=>Lk K a0 c0 L6 K d0 d1) L6 x.1 x.2) (fun v0 v1=>L (v0,v1))) n (q7,q8)
def Aa7 (K:Nat) (a0:Int×Int×Int) (I6:Int→(List tV)→Option (List tV)):Option (List tV) :=
  I6 (0:Int) []
def Lm (a0:Int×Int×Int):Option (List tV) :=
  Aa7 K a0 (fun d0 d1=>TV K a0 K d0 d1)
def M1:Mdl:=⟨[(.ro,sL)],[(.list 33 sV)],fun x=>Lm K x.1⟩
def Aa8 (a0:Int×Int×Int) (lr:LR (List tV)):Ex→Fr→Option (List tV) :=
  Au (Po K) 0 lr Ae2 [1,1,0,1,0] (fM (Po K) Tryz.f39 (M1 K) (a0,()))
def Aa9 (a0:Int×Int×Int) (lr:LR (List tV)) (bq7:Int) (bq8:List tV):Option (List tV) :=
  lr (AH Ae2 [1,1,0,1,0,0]) (HY a0 bq7 bq8) (Aa8 K a0 lr)
def Ak3 (a0:Int×Int×Int) (F6:Fr→Option (List tV)) (bq7:Int) (bq8:List tV) (lr:LR (List tV)):Ex→Fr→Option (List tV) :=
  Au (Po K) 0 lr (AH Ae2 [1,1,0,1,0,0]) [1,1,0,0,1,1,0] (ET 0 (HY a0 bq7 bq8) F6 (Aa8 K a0 lr))
def Aba (a0:Int×Int×Int) (F6:Fr→Option (List tV)) (bq7:Int) (bq8:List tV) (lr:LR (List tV)) (q7 bq10:Int) (bq11:List tV):Option (List tV) :=
  lr (AH Ae2 [1,1,0,1,0,0,1,1,0,0,1,1,0,0]) (VC a0 q7 bq10 bq11) (Ak3 K a0 F6 bq7 bq8 lr)
def AnU:Env:=eE K [] [0]
def Wy (K:Nat):Option tA :=
  some ((1:Int),(0:Int),(0:Int),(1:Int))
def Abb:Mdl:=⟨[],[sA],fun x=>Wy K ⟩
def ApB:Env:=eE K [] [0,1,2,3,4]
def Jl (K:Nat) (a0:Int×Int×Int×Int) (a1:Int×Int):Option tV :=
  some ((w ((w (a0.1*a1.1))+(w (a0.2.1*a1.2)))),(w ((w (a0.2.2.1*a1.1))+(w (a0.2.2.2*a1.2)))))
def TW:Mdl:=⟨[(.ro,sA),(.ro,sV)],[sV],fun x=>Jl K x.1 x.2.1⟩
def AnV:Env:=eE K [] [0,1,2,3,4]
def Hg (K:Nat) (a0 a1:Int×Int):Option tV :=
  some ((w (a0.1+a1.1)),(w (a0.2+a1.2)))
def RS:Mdl:=⟨[(.ro,sV),(.ro,sV)],[sV],fun x=>Hg K x.1 x.2.1⟩
def ApC:Env:=eE K [(86,TW K),(165,RS K)] [0,1,2,3,4]
def YQ (a0:tA×Int×Int) (a1:Int×Int):Option tV :=
  (Jl K a0.1 a1).bind fun y1=>(Hg K y1 a0.2).bind fun y2=>some y2
def Afs:Mdl:=⟨[(.ro,sM),(.ro,sV)],[sV],fun x=>YQ K x.1 x.2.1⟩
def AnW:Env:=eE K [] [0,1,4]
def Ln (K:Nat) (a0 a1:Int):Option Int :=
  (bif (a1 != 0) then (bif (a1 != 0) then some ((w ((a0.tmod a1)+a1)).tmod a1) else none) else none)
def Abc:Mdl:=⟨[(.ro,sI),(.ro,sI)],[sI],fun x=>Ln K x.1 x.2.1⟩
def AnX:Env:=eE K [(167,Abc K)] [0,1,2,3,4,5]
def ND (a0:Int×Int×Int) (a1:Int×Int):Option tV :=
  (Ln K a1.2 a0.2.2).bind fun y1=>(bif (a0.2.2 != 0) then (Ln K (w (a1.1-(w ((w ((w (a1.2-y1)).tdiv a0.2.2))*a0.2.1)))) a0.1).bind fun y2=>some (y2,y1) else none)
def Wz:Mdl:=⟨[(.ro,sL),(.ro,sV)],[sV],fun x=>ND K x.1 x.2.1⟩
def ApD:Env:=eE K [] [0,1,2,3,4]
def Ak4 (K:Nat) (a0:Int×Int×Int) (a1:Int×Int):Option Int :=
  some (w ((w (a1.1*a0.2.2))+a1.2))
def AnY:Mdl:=⟨[(.ro,sL),(.ro,sV)],[sI],fun x=>Ak4 K x.1 x.2.1⟩
def ApE:Env:=eE K [(58,AnY K),(169,Wz K)] [0,1,2,3,4]
def YR (a0:Int×tL×List Int) (a1:Int×Int):Option Int :=
  (ND K a0.2.1 a1).bind fun y1=>(Ak4 K a0.2.1 y1).bind fun y2=>(bif (decide (0≤y2)&&decide (y2<(a0.2.2.length:Int))) then some (a0.2.2.getD ((0:Int)+y2).toNat (0:Int)) else none)
def Aft:Mdl:=⟨[(.ro,(.cons sI (.cons sL (.list 2 sI)))),(.ro,sV)],[sI],fun x=>YR K x.1 x.2.1⟩
def YS:Env:=eE K [(39,M1 K),(88,Aft K),(89,Afs K)] [0,1,2,3,4,5,6,9,10,11,12,26]
def Pr (a0:Int×tL×List Int) (a1:tA×Int×Int) (y1:List tV) (L5:Int→Option Bool) (q6:Int):Option Bool :=
  (bif (decide (q6<(y1.length:Int))) then (bif (decide (0≤q6)&&decide (q6<(y1.length:Int))) then (YQ K a1 (y1.getD ((0:Int)+q6).toNat ((0:Int),(0:Int)))).bind fun y7=>(YR K a0 y7).bind fun y8=>(bif (decide (0≤q6)&&decide (q6<(a0.2.2.length:Int))) then (bif (y8 != (a0.2.2.getD ((0:Int)+q6).toNat (0:Int))) then some false else L5 (w (q6+(1:Int)))) else none) else none) else some true)
def TX (a0:Int×tL×List Int) (a1:tA×Int×Int) (y1:List tV) (n:Nat) (q6:Int):Option Bool :=
  AJ (X:=Int) (fun L x=>Pr K a0 a1 y1 (fun v0=>L v0) x) n q6
def Abd (a0:Int×tL×List Int) (a1:tA×Int×Int) (I5:(List tV)→Int→Option Bool):Option Bool :=
  (Lm K a0.2.1).bind fun y1=>I5 y1 (0:Int)
def YT (a0:Int×tL×List Int) (a1:tA×Int×Int):Option Bool :=
  Abd K a0 a1 (fun c0 d0=>TX K a0 a1 c0 K d0)
def Abe:Mdl:=⟨[(.ro,(.cons sI (.cons sL (.list 2 sI)))),(.ro,sM)],[.bool],fun x=>YT K x.1 x.2.1⟩
def Ak5 (a0:Int×tL×List Int) (a1:tA×Int×Int) (lr:LR Bool):Ex→Fr→Option Bool :=
  Au (YS K) 1 lr Am6 [1,0,1,0] (fM (YS K) Tryz.f97 (Abe K) (a0,a1,()))
def Abf (a0:Int×tL×List Int) (a1:tA×Int×Int) (lr:LR Bool) (y1:List tV) (bq6:Int):Option Bool :=
  lr (AH Am6 [1,0,1,0,0]) (VD a0 a1 y1 bq6) (Ak5 K a0 a1 lr)
def AnZ:Env:=eE K [] [0,1,2,4]
def Fo (K:Nat) (a0:Int×Int) (a1:Int):Option tV :=
  some ((w (a1*a0.1)),(w (a1*a0.2)))
def RU:Mdl:=⟨[(.ro,sV),(.ro,sI)],[sV],fun x=>Fo K x.1 x.2.1⟩
def NE:Env:=eE K [] [0,1,4,6]
def Ib (K:Nat) (L2:Int→Int→Option Int) (q3 q4:Int):Option Int :=
  (bif (q4 != (0:Int)) then (bif (q4 != 0) then L2 q4 (q3.tmod q4) else none) else some (if (w (0-q3))>q3 then (w (0-q3)) else q3))
def GM (n:Nat) (q3 q4:Int):Option Int :=
  AJ (X:=Int×Int) (fun L x=>Ib K (fun v0 v1=>L (v0,v1)) x.1 x.2) n (q3,q4)
def Abg (K:Nat) (a0 a1:Int) (I2:Int→Int→Option Int):Option Int :=
  I2 a0 a1
def Ic (a0 a1:Int):Option Int :=
  Abg K a0 a1 (fun d0 d1=>GM K K d0 d1)
def NF:Mdl:=⟨[(.ro,sI),(.ro,sI)],[sI],fun x=>Ic K x.1 x.2.1⟩
def Afu (a0 a1:Int) (lr:LR Int):Ex→Fr→Option Int :=
  Au (NE K) 0 lr Ajn [1,0,0] (fM (NE K) Tryz.f166 (NF K) (a0,a1,()))
def WA (a0 a1:Int) (lr:LR Int) (bq3 bq4:Int):Option Int :=
  lr (AH Ajn [1,0,0,0]) (Re bq3 bq4) (Afu K a0 a1 lr)
def Ps:Env:=eE K [(128,RU K),(165,RS K),(166,NF K),(167,Abc K)] [0,2,3,4,6,7,9,10,11,12,17,37]
def Pu (a0:List tV) (q14 q15:Int) (L13 L18:Int→Int→Int→Int→Option tL) (q19 q20 q21 q22:Int):Option tL :=
  (bif (q22 != (0:Int)) then (bif (q22 != 0) then (Fo K (q21,q22) (w (0-(w (q20.tdiv q22))))).bind fun y23=>(Hg K (q19,q20) y23).bind fun y24=>L18 q21 q22 y24.1 y24.2 else none) else (Ic K q14 q21).bind fun y25=>L13 y25 (w (q15+(1:Int))) q19 q20)
def GN (a0:List tV) (q14 q15:Int) (L13:Int→Int→Int→Int→Option tL) (n:Nat) (q19 q20 q21 q22:Int):Option tL :=
  AJ (X:=Int×Int×Int×Int) (fun L x=>Pu K a0 q14 q15 L13 (fun v0 v1 v2 v3=>L (v0,v1,v2,v3)) x.1 x.2.1 x.2.2.1 x.2.2.2) n (q19,q20,q21,q22)
def Id (a0:List tV) (I18:Int→Int→Int→Int→Int→Int→Option tL) (L13:Int→Int→Int→Int→Option tL) (q14 q15 q16 q17:Int):Option tL :=
  (bif (decide (q15<(a0.length:Int))) then (bif (decide (0≤q15)&&decide (q15<(a0.length:Int))) then I18 q14 q15 q16 q17 ((a0.getD ((0:Int)+q15).toNat ((0:Int),(0:Int))).1) ((a0.getD ((0:Int)+q15).toNat ((0:Int),(0:Int))).2) else none) else (bif (decide (q17<(0:Int))) then (Fo K (q16,q17) (-1:Int)).bind fun y26=>(Ln K y26.1 q14).bind fun y27=>some (q14,y27,y26.2) else (Ln K q16 q14).bind fun y28=>some (q14,y28,q17)))
def Pv (a0:List tV) (n:Nat) (q14 q15 q16 q17:Int):Option tL :=
  AJ (X:=Int×Int×Int×Int) (fun L x=>(fun L13=>Id K a0 (fun c0 c1 d0 d1 d2 d3=>GN K a0 c0 c1 L13 K d0 d1 d2 d3) L13 x.1 x.2.1 x.2.2.1 x.2.2.2) (fun v0 v1 v2 v3=>L (v0,v1,v2,v3))) n (q14,q15,q16,q17)
def Abh (K:Nat) (a0:List tV) (I13:Int→Int→Int→Int→Option tL):Option tL :=
  I13 (0:Int) (0:Int) (0:Int) (0:Int)
def Lo (a0:List tV):Option tL :=
  Abh K a0 (fun d0 d1 d2 d3=>Pv K a0 K d0 d1 d2 d3)
def Abi:Mdl:=⟨[(.ro,(.list 33 sV))],[sL],fun x=>Lo K x.1⟩
def WB (a0:List tV) (lr:LR tL):Ex→Fr→Option tL :=
  Au (Ps K) 1 lr Ae3 [1,1,0,1,0] (fM (Ps K) Tryz.f85 (Abi K) (a0,()))
def WC (a0:List tV) (lr:LR tL) (bq14 bq15 bq16 bq17:Int):Option tL :=
  lr (AH Ae3 [1,1,0,1,0,0]) (FS a0 bq14 bq15 bq16 bq17) (WB K a0 lr)
def Afv (a0:List tV) (F13:Fr→Option tL) (bq14 bq15 bq16 bq17:Int) (lr:LR tL):Ex→Fr→Option tL :=
  Au (Ps K) 1 lr (AH Ae3 [1,1,0,1,0,0]) [1,1,0,0,1,0,0] (ET 1 (FS a0 bq14 bq15 bq16 bq17) F13 (WB K a0 lr))
def WD (a0:List tV) (F13:Fr→Option tL) (bq14 bq15 bq16 bq17:Int) (lr:LR tL) (q14 q15 bq19 bq20 bq21 bq22:Int):Option tL :=
  lr (AH Ae3 [1,1,0,1,0,0,1,1,0,0,1,0,0,0]) (Rg a0 q14 q15 bq19 bq20 bq21 bq22) (Afv K a0 F13 bq14 bq15 bq16 bq17 lr)
def YU:Env:=eE K [(39,M1 K),(84,Aa6 K),(85,Abi K),(97,Abe K),(102,Abb K)] [0,1,2,3,4,5,7,19,20,21,22,29]
def Pw (a0:Int×tL×List Int) (y1:tV×Int×Int) (y2:List tV) (L6:Int→(List tV)→Option tL) (q7:Int) (q8:List tV):Option tL :=
  (bif (decide (q7<(y2.length:Int))) then (bif (decide (0≤q7)&&decide (q7<(y2.length:Int))) then (Wy K).bind fun y9=>(YT K a0 (y9,(y2.getD ((0:Int)+q7).toNat ((0:Int),(0:Int))))).bind fun y10=>(bif y10 then (bif (Nat.ble (q8.length+[(y2.getD ((0:Int)+q7).toNat ((0:Int),(0:Int)))].length) (lim 16)) then L6 (w (q7+(1:Int))) (q8++[(y2.getD ((0:Int)+q7).toNat ((0:Int),(0:Int)))]) else none) else L6 (w (q7+(1:Int))) q8) else none) else (Lo K q8).bind fun y11=>some y11)
def TY (a0:Int×tL×List Int) (y1:tV×Int×Int) (y2:List tV) (n:Nat) (q7:Int) (q8:List tV):Option tL :=
  AJ (X:=Int×List tV) (fun L x=>Pw K a0 y1 y2 (fun v0 v1=>L (v0,v1)) x.1 x.2) n (q7,q8)
def Abj (a0:Int×tL×List Int) (I6:(tV×Int×Int)→(List tV)→Int→(List tV)→Option tL):Option tL :=
  (Pn K a0.2.1).bind fun y1=>(Lm K a0.2.1).bind fun y2=>I6 y1 y2 (0:Int) [y1.1,y1.2]
def Abk (a0:Int×tL×List Int):Option tL :=
  Abj K a0 (fun c0 c1 d0 d1=>TY K a0 c0 c1 K d0 d1)
def Afw:Mdl:=⟨[(.ro,(.cons sI (.cons sL (.list 2 sI))))],[sL],fun x=>Abk K x.1⟩
def Ak6 (a0:Int×tL×List Int) (lr:LR tL):Ex→Fr→Option tL :=
  Au (YU K) 1 lr Am7 [1,1,1,0,1,0] (fM (YU K) Tryz.f83 (Afw K) (a0,()))
def Abl (a0:Int×tL×List Int) (lr:LR tL) (y1:tV×Int×Int) (y2:List tV) (bq7:Int) (bq8:List tV):Option tL :=
  lr (AH Am7 [1,1,1,0,1,0,0]) (VE a0 y1 y2 bq7 bq8) (Ak6 K a0 lr)
def YV:Env:=eE K [(39,M1 K),(88,Aft K)] [0,1,2,3,4,5,7,13,14,15,16]
def Px (a0:Int×tL×List Int) (a1:Int×Int×Int) (y1:List tV) (L4:Int→(List Int)→Option (Int×tL×List Int)) (q5:Int) (q6:List Int):Option (Int×tL×List Int) :=
  (bif (decide (q5<(y1.length:Int))) then (bif (decide (0≤q5)&&decide (q5<(y1.length:Int))) then (YR K a0 (y1.getD ((0:Int)+q5).toNat ((0:Int),(0:Int)))).bind fun y7=>(bif (Nat.ble (q6.length+[y7].length) (lim 8)) then L4 (w (q5+(1:Int))) (q6++[y7]) else none) else none) else some (a0.1,a1,q6))
def TZ (a0:Int×tL×List Int) (a1:Int×Int×Int) (y1:List tV) (n:Nat) (q5:Int) (q6:List Int):Option (Int×tL×List Int) :=
  AJ (X:=Int×List Int) (fun L x=>Px K a0 a1 y1 (fun v0 v1=>L (v0,v1)) x.1 x.2) n (q5,q6)
def Abm (a0:Int×tL×List Int) (a1:Int×Int×Int) (I4:(List tV)→Int→(List Int)→Option (Int×tL×List Int)):Option (Int×tL×List Int) :=
  (Lm K a1).bind fun y1=>I4 y1 (0:Int) []
def Abn (a0:Int×tL×List Int) (a1:Int×Int×Int):Option (Int×tL×List Int) :=
  Abm K a0 a1 (fun c0 d0 d1=>TZ K a0 a1 c0 K d0 d1)
def Afx:Mdl:=⟨[(.ro,(.cons sI (.cons sL (.list 2 sI)))),(.ro,sL)],[(.cons sI (.cons sL (.list 2 sI)))],fun x=>Abn K x.1 x.2.1⟩
def Ak7 (a0:Int×tL×List Int) (a1:Int×Int×Int) (lr:LR (Int×tL×List Int)):Ex→Fr→Option (Int×tL×List Int) :=
  Au (YV K) 1 lr Am8 [1,1,0,1,0] (fM (YV K) Tryz.f82 (Afx K) (a0,a1,()))
def Abo (a0:Int×tL×List Int) (a1:Int×Int×Int) (lr:LR (Int×tL×List Int)) (y1:List tV) (bq5:Int) (bq6:List Int):Option (Int×tL×List Int) :=
  lr (AH Am8 [1,1,0,1,0,0]) (VF a0 a1 y1 bq5 bq6) (Ak7 K a0 a1 lr)
def ApF:Env:=eE K [(82,Afx K),(83,Afw K)] [0,1,2]
def M2 (a0:Int×tL×List Int):Option (Int×tL×List Int) :=
  (Abk K a0).bind fun y1=>(Abn K a0 y1).bind fun y2=>some y2
def T0:Mdl:=⟨[(.ro,(.cons sI (.cons sL (.list 2 sI))))],[(.cons sI (.cons sL (.list 2 sI)))],fun x=>M2 K x.1⟩
def ApG:Env:=eE K [] [0,1,2]
def ED (K:Nat) (a0:Int×Int×Int×Int):Option Int :=
  some (w ((w (a0.1*a0.2.2.2))-(w (a0.2.1*a0.2.2.1))))
def RV:Mdl:=⟨[(.ro,sA)],[sI],fun x=>ED K x.1⟩
def An0:Env:=eE K [(46,RV K)] [0,1,2,3]
def Abp (a0:Int×Int×Int×Int):Option tA :=
  (ED K a0).bind fun y1=>some ((w (y1*a0.2.2.2)),(w ((w (0-y1))*a0.2.1)),(w ((w (0-y1))*a0.2.2.1)),(w (y1*a0.1)))
def AjS:Mdl:=⟨[(.ro,sA)],[sA],fun x=>Abp K x.1⟩
def ApH:Env:=eE K [(86,TW K),(128,RU K),(168,AjS K)] [0,1,2,3]
def Afy (a0:tA×Int×Int):Option tM :=
  (Abp K a0.1).bind fun y1=>(Jl K y1 a0.2).bind fun y2=>(Fo K y2 (-1:Int)).bind fun y3=>some (y1,y3)
def An1:Mdl:=⟨[(.ro,sM)],[sM],fun x=>Afy K x.1⟩
def YW:Env:=eE K [(39,M1 K),(84,Aa6 K),(85,Abi K),(86,TW K),(87,An1 K),(88,Aft K),(89,Afs K)] [0,1,2,3,4,5,6,7,8,10,34,35,36,37]
def Kr (a0:Int×tL×List Int) (a1:tA×Int×Int) (y1:tV×Int×Int) (y4:Int×Int×Int) (y5:tA×Int×Int) (y6:List tV) (L10:Int→(List Int)→Option (Int×tL×List Int)) (q11:Int) (q12:List Int):Option (Int×tL×List Int) :=
  (bif (decide (q11<(y6.length:Int))) then (bif (decide (0≤q11)&&decide (q11<(y6.length:Int))) then (YQ K y5 (y6.getD ((0:Int)+q11).toNat ((0:Int),(0:Int)))).bind fun y13=>(YR K a0 y13).bind fun y14=>(bif (Nat.ble (q12.length+[y14].length) (lim 8)) then L10 (w (q11+(1:Int))) (q12++[y14]) else none) else none) else some (a0.1,y4,q12))
def Py (a0:Int×tL×List Int) (a1:tA×Int×Int) (y1:tV×Int×Int) (y4:Int×Int×Int) (y5:tA×Int×Int) (y6:List tV) (n:Nat) (q11:Int) (q12:List Int):Option (Int×tL×List Int) :=
  AJ (X:=Int×List Int) (fun L x=>Kr K a0 a1 y1 y4 y5 y6 (fun v0 v1=>L (v0,v1)) x.1 x.2) n (q11,q12)
def Abq (a0:Int×tL×List Int) (a1:tA×Int×Int) (I10:(tV×Int×Int)→tL→tM→(List tV)→Int→(List Int)→Option (Int×tL×List Int)):Option (Int×tL×List Int) :=
  (Pn K a0.2.1).bind fun y1=>(Jl K a1.1 y1.1).bind fun y2=>(Jl K a1.1 y1.2).bind fun y3=>(Lo K [y2,y3]).bind fun y4=>(Afy K a1).bind fun y5=>(Lm K y4).bind fun y6=>I10 y1 y4 y5 y6 (0:Int) []
def Abr (a0:Int×tL×List Int) (a1:tA×Int×Int):Option (Int×tL×List Int) :=
  Abq K a0 a1 (fun c0 c1 c2 c3 d0 d1=>Py K a0 a1 c0 c1 c2 c3 K d0 d1)
def Afz:Mdl:=⟨[(.ro,(.cons sI (.cons sL (.list 2 sI)))),(.ro,sM)],[(.cons sI (.cons sL (.list 2 sI)))],fun x=>Abr K x.1 x.2.1⟩
def AfA (a0:Int×tL×List Int) (a1:tA×Int×Int) (lr:LR (Int×tL×List Int)):Ex→Fr→Option (Int×tL×List Int) :=
  Au (YW K) 1 lr Am9 [1,1,1,0,1,0] (fM (YW K) Tryz.f34 (Afz K) (a0,a1,()))
def WE (a0:Int×tL×List Int) (a1:tA×Int×Int) (lr:LR (Int×tL×List Int)) (y1:tV×Int×Int) (y4:Int×Int×Int) (y5:tA×Int×Int) (y6:List tV) (bq11:Int) (bq12:List Int):Option (Int×tL×List Int) :=
  lr (AH Am9 [1,1,1,0,1,0,0]) (Rh a0 a1 y1 y4 y5 y6 bq11 bq12) (AfA K a0 a1 lr)
def f7E:Env:=eE K [(32,TU K),(33,T0 K),(34,Afz K)] [0,1,2,3,6]
def f7G (a0:Int×tL×List Int):Option ((Int×tL×List Int)×Int) :=
  (M0 K a0).bind fun y1=>(bif (!y1) then some (((0:Int),((0:Int),(0:Int),(0:Int)),[]),(1:Int)) else (M2 K a0).bind fun y2=>(Abr K y2 (((0:Int),(1:Int),(1:Int),(0:Int)),(0:Int),(0:Int))).bind fun y3=>some (y3,(0:Int)))
def f7M:Mdl:=⟨[(.ro,(.cons sI (.cons sL (.list 2 sI))))],[(.cons sI (.cons sL (.list 2 sI))),sI],fun x=>f7G K x.1⟩
def YX:Env:=eE K [(149,VV K)] [0,1,2,3,8,9,13,23]
def Pz (a0:List Int) (a1 a2 a3:Int) (L3:Int→Option Bool) (q4:Int):Option Bool :=
  (bif (decide (q4<(a0.length:Int))) then (bif (decide (0≤q4)&&decide (q4<(a0.length:Int))) then (HZ K (a0.getD ((0:Int)+q4).toNat (0:Int)) a2 a3).bind fun y5=>(bif (!y5) then some false else L3 (w (q4+(1:Int)))) else none) else some (decide ((a0.length:Int)≤a1)))
def T1 (a0:List Int) (a1 a2 a3:Int) (n:Nat) (q4:Int):Option Bool :=
  AJ (X:=Int) (fun L x=>Pz K a0 a1 a2 a3 (fun v0=>L v0) x) n q4
def Abs (K:Nat) (a0:List Int) (a1 a2 a3:Int) (I3:Int→Option Bool):Option Bool :=
  I3 (0:Int)
def Abt (a0:List Int) (a1 a2 a3:Int):Option Bool :=
  Abs K a0 a1 a2 a3 (fun d0=>T1 K a0 a1 a2 a3 K d0)
def AfB:Mdl:=⟨[(.ro,(.list 2 sI)),(.ro,sI),(.ro,sI),(.ro,sI)],[.bool],fun x=>Abt K x.1 x.2.1 x.2.2.1 x.2.2.2.1⟩
def Ak8 (a0:List Int) (a1 a2 a3:Int) (lr:LR Bool):Ex→Fr→Option Bool :=
  Au (YX K) 1 lr Ana [1,0,1,0] (fM (YX K) Tryz.f91 (AfB K) (a0,a1,a2,a3,()))
def Abu (a0:List Int) (a1 a2 a3:Int) (lr:LR Bool) (bq4:Int):Option Bool :=
  lr (AH Ana [1,0,1,0,0]) (VG a0 a1 a2 a3 bq4) (Ak8 K a0 a1 a2 a3 lr)
def ApI:Env:=eE K [(90,Ae9 K),(91,AfB K)] [0,1,2]
def YY (a0:Int×tL×List Int):Option Bool :=
  (YK K a0.1 a0.2.1).bind fun y1=>((bif (bif (y1==(0:Int)) then ((a0.2.2.length:Int)==(w (a0.2.1.1*a0.2.1.2.2))) else false) then Abt K a0.2.2 (64:Int) (0:Int) (9:Int) else some false)).bind fun y2=>some (bif (bif (y1==(0:Int)) then ((a0.2.2.length:Int)==(w (a0.2.1.1*a0.2.1.2.2))) else false) then y2 else false)
def AfC:Mdl:=⟨[(.ro,(.cons sI (.cons sL (.list 2 sI))))],[.bool],fun x=>YY K x.1⟩
def An2:Env:=eE K [(62,Afi K)] [0,1,2,3,4]
def NG (a0:Int×tL×List Int) (a1:Int×Int):Option Int :=
  (Ph K a0.2.1 a1).bind fun y1=>(bif (decide (0≤y1)&&decide (y1<(a0.2.2.length:Int))) then some (a0.2.2.getD ((0:Int)+y1).toNat (0:Int)) else none)
def Abv:Mdl:=⟨[(.ro,(.cons sI (.cons sL (.list 2 sI)))),(.ro,sV)],[sI],fun x=>NG K x.1 x.2.1⟩
def NH:Env:=eE K [(42,Li K),(93,Afe K),(176,Abv K)] [0,1,2,3,4,5,6,13,30]
def Ks (a0:Int×tL×List Int) (a1:tA×Int×Int) (y1:List tV) (L6:Int→Option Bool) (q7:Int):Option Bool :=
  (bif (decide (q7<(y1.length:Int))) then (bif (decide (0≤q7)&&decide (q7<(y1.length:Int))) then (YO K a1 (y1.getD ((0:Int)+q7).toNat ((0:Int),(0:Int)))).bind fun y8=>(NG K a0 y8).bind fun y9=>(bif (decide (0≤q7)&&decide (q7<(y1.length:Int))) then (NG K a0 (y1.getD ((0:Int)+q7).toNat ((0:Int),(0:Int)))).bind fun y10=>(bif (y9 != y10) then some false else L6 (w (q7+(1:Int)))) else none) else none) else some true)
def PA (a0:Int×tL×List Int) (a1:tA×Int×Int) (y1:List tV) (n:Nat) (q7:Int):Option Bool :=
  AJ (X:=Int) (fun L x=>Ks K a0 a1 y1 (fun v0=>L v0) x) n q7
def T2 (a0:Int×tL×List Int) (a1:tA×Int×Int) (I6:(List tV)→Int→Option Bool):Option Bool :=
  (Kb K a0.2.1).bind fun y1=>I6 y1 (0:Int)
def NI (a0:Int×tL×List Int) (a1:tA×Int×Int):Option Bool :=
  T2 K a0 a1 (fun c0 d0=>PA K a0 a1 c0 K d0)
def RW:Mdl:=⟨[(.ro,(.cons sI (.cons sL (.list 2 sI)))),(.ro,sM)],[.bool],fun x=>NI K x.1 x.2.1⟩
def AfD (a0:Int×tL×List Int) (a1:tA×Int×Int) (lr:LR Bool):Ex→Fr→Option Bool :=
  Au (NH K) 1 lr Ajo [1,1,0,1,0] (fM (NH K) Tryz.f100 (RW K) (a0,a1,()))
def WF (a0:Int×tL×List Int) (a1:tA×Int×Int) (lr:LR Bool) (y1:List tV) (bq7:Int):Option Bool :=
  lr (AH Ajo [1,1,0,1,0,0]) (Ri a0 a1 y1 bq7) (AfD K a0 a1 lr)
def YZ:Env:=eE K [(42,Li K),(100,RW K),(131,RB K),(172,AaF K),(173,RE K)] [0,1,2,3,4,5,15,25]
def PB (a0:Int×tL×List Int) (y1:List tV) (L6:Int→(List tV)→Option tL) (q7:Int) (q8:List tV):Option tL :=
  (bif (decide (q7<(y1.length:Int))) then (JP K).bind fun y9=>(bif (decide (0≤q7)&&decide (q7<(y1.length:Int))) then (NI K a0 (y9,(y1.getD ((0:Int)+q7).toNat ((0:Int),(0:Int))))).bind fun y10=>(bif y10 then (bif (decide (0≤q7)&&decide (q7<(y1.length:Int))) then (bif (Nat.ble (q8.length+[(y1.getD ((0:Int)+q7).toNat ((0:Int),(0:Int)))].length) (lim 16)) then L6 (w (q7+(1:Int))) (q8++[(y1.getD ((0:Int)+q7).toNat ((0:Int),(0:Int)))]) else none) else none) else L6 (w (q7+(1:Int))) q8) else none) else (Hf K q8).bind fun y11=>some y11)
def T3 (a0:Int×tL×List Int) (y1:List tV) (n:Nat) (q7:Int) (q8:List tV):Option tL :=
  AJ (X:=Int×List tV) (fun L x=>PB K a0 y1 (fun v0 v1=>L (v0,v1)) x.1 x.2) n (q7,q8)
def Abw (a0:Int×tL×List Int) (I6:(List tV)→Int→(List tV)→Option tL):Option tL :=
  (Kb K a0.2.1).bind fun y1=>(RD K a0.2.1).bind fun y2=>I6 y1 (0:Int) y2
def Abx (a0:Int×tL×List Int):Option tL :=
  Abw K a0 (fun c0 d0 d1=>T3 K a0 c0 K d0 d1)
def AfE:Mdl:=⟨[(.ro,(.cons sI (.cons sL (.list 2 sI))))],[sL],fun x=>Abx K x.1⟩
def Ak9 (a0:Int×tL×List Int) (lr:LR tL):Ex→Fr→Option tL :=
  Au (YZ K) 1 lr Anb [1,1,1,0,1,0] (fM (YZ K) Tryz.f95 (AfE K) (a0,()))
def Aby (a0:Int×tL×List Int) (lr:LR tL) (y1:List tV) (bq7:Int) (bq8:List tV):Option tL :=
  lr (AH Anb [1,1,1,0,1,0,0]) (VH a0 y1 bq7 bq8) (Ak9 K a0 lr)
def Y0:Env:=eE K [(42,Li K),(176,Abv K)] [0,1,2,3,4,5,6,7,18]
def PC (a0:Int×tL×List Int) (a1:Int×Int×Int) (y1:List tV) (L4:Int→(List Int)→Option (Int×tL×List Int)) (q5:Int) (q6:List Int):Option (Int×tL×List Int) :=
  (bif (decide (q5<(y1.length:Int))) then (bif (decide (0≤q5)&&decide (q5<(y1.length:Int))) then (NG K a0 (y1.getD ((0:Int)+q5).toNat ((0:Int),(0:Int)))).bind fun y7=>(bif (Nat.ble (q6.length+[y7].length) (lim 8)) then L4 (w (q5+(1:Int))) (q6++[y7]) else none) else none) else some (a0.1,a1,q6))
def T4 (a0:Int×tL×List Int) (a1:Int×Int×Int) (y1:List tV) (n:Nat) (q5:Int) (q6:List Int):Option (Int×tL×List Int) :=
  AJ (X:=Int×List Int) (fun L x=>PC K a0 a1 y1 (fun v0 v1=>L (v0,v1)) x.1 x.2) n (q5,q6)
def Abz (a0:Int×tL×List Int) (a1:Int×Int×Int) (I4:(List tV)→Int→(List Int)→Option (Int×tL×List Int)):Option (Int×tL×List Int) :=
  (Kb K a1).bind fun y1=>I4 y1 (0:Int) []
def AbA (a0:Int×tL×List Int) (a1:Int×Int×Int):Option (Int×tL×List Int) :=
  Abz K a0 a1 (fun c0 d0 d1=>T4 K a0 a1 c0 K d0 d1)
def AfF:Mdl:=⟨[(.ro,(.cons sI (.cons sL (.list 2 sI)))),(.ro,sL)],[(.cons sI (.cons sL (.list 2 sI)))],fun x=>AbA K x.1 x.2.1⟩
def Ala (a0:Int×tL×List Int) (a1:Int×Int×Int) (lr:LR (Int×tL×List Int)):Ex→Fr→Option (Int×tL×List Int) :=
  Au (Y0 K) 1 lr Anc [1,1,1,0,1,0] (fM (Y0 K) Tryz.f94 (AfF K) (a0,a1,()))
def AbB (a0:Int×tL×List Int) (a1:Int×Int×Int) (lr:LR (Int×tL×List Int)) (y1:List tV) (bq5:Int) (bq6:List Int):Option (Int×tL×List Int) :=
  lr (AH Anc [1,1,1,0,1,0,0]) (VI a0 a1 y1 bq5 bq6) (Ala K a0 a1 lr)
def ApJ:Env:=eE K [(94,AfF K),(95,AfE K)] [0,1,2]
def Y1 (a0:Int×tL×List Int):Option (Int×tL×List Int) :=
  (Abx K a0).bind fun y1=>(AbA K a0 y1).bind fun y2=>some y2
def AfG:Mdl:=⟨[(.ro,(.cons sI (.cons sL (.list 2 sI))))],[(.cons sI (.cons sL (.list 2 sI)))],fun x=>Y1 K x.1⟩
def Y2:Env:=eE K [(42,Li K),(62,Afi K),(92,AkX K),(93,Afe K)] [0,1,2,3,4,5,6,7,8,27]
def PD (a0:Int×tL×List Int) (a1:tA×Int×Int) (y1:Int×Int×Int) (y2:List tV) (L6:Int→(List Int)→Option (Int×tL×List Int)) (q7:Int) (q8:List Int):Option (Int×tL×List Int) :=
  (bif (decide (q7<(y2.length:Int))) then (bif (decide (0≤q7)&&decide (q7<(y2.length:Int))) then (YO K a1 (y2.getD ((0:Int)+q7).toNat ((0:Int),(0:Int)))).bind fun y9=>(Ph K y1 y9).bind fun y10=>(bif (decide (0≤q7)&&decide (q7<(a0.2.2.length:Int))) then (bif (decide (0≤y10)&&decide (y10<(q8.length:Int))) then L6 (w (q7+(1:Int))) (q8.set ((0:Int)+y10).toNat (a0.2.2.getD ((0:Int)+q7).toNat (0:Int))) else none) else none) else none) else some (a0.1,y1,q8))
def T5 (a0:Int×tL×List Int) (a1:tA×Int×Int) (y1:Int×Int×Int) (y2:List tV) (n:Nat) (q7:Int) (q8:List Int):Option (Int×tL×List Int) :=
  AJ (X:=Int×List Int) (fun L x=>PD K a0 a1 y1 y2 (fun v0 v1=>L (v0,v1)) x.1 x.2) n (q7,q8)
def AbC (a0:Int×tL×List Int) (a1:tA×Int×Int) (I6:tL→(List tV)→Int→(List Int)→Option (Int×tL×List Int)):Option (Int×tL×List Int) :=
  (YL K a1.1 a0.2.1).bind fun y1=>(Kb K a0.2.1).bind fun y2=>(bif (decide (0≤(y2.length:Int))&&Nat.ble (y2.length:Int).toNat (lim 8)&&((y2.length:Int)==(y2.length:Int))) then I6 y1 y2 (0:Int) (List.replicate (y2.length:Int).toNat (0:Int)) else none)
def AbD (a0:Int×tL×List Int) (a1:tA×Int×Int):Option (Int×tL×List Int) :=
  AbC K a0 a1 (fun c0 c1 d0 d1=>T5 K a0 a1 c0 c1 K d0 d1)
def AfH:Mdl:=⟨[(.ro,(.cons sI (.cons sL (.list 2 sI)))),(.ro,sM)],[(.cons sI (.cons sL (.list 2 sI)))],fun x=>AbD K x.1 x.2.1⟩
def Alb (a0:Int×tL×List Int) (a1:tA×Int×Int) (lr:LR (Int×tL×List Int)):Ex→Fr→Option (Int×tL×List Int) :=
  Au (Y2 K) 1 lr And [1,1,1,1,0,1,0] (fM (Y2 K) Tryz.f36 (AfH K) (a0,a1,()))
def AbE (a0:Int×tL×List Int) (a1:tA×Int×Int) (lr:LR (Int×tL×List Int)) (y1:Int×Int×Int) (y2:List tV) (bq7:Int) (bq8:List Int):Option (Int×tL×List Int) :=
  lr (AH And [1,1,1,1,0,1,0,0]) (VJ a0 a1 y1 y2 bq7 bq8) (Alb K a0 a1 lr)
def f8E:Env:=eE K [(35,AfC K),(36,AfH K),(37,AfG K)] [0,1,2,3,6]
def f8G (a0:Int×tL×List Int):Option ((Int×tL×List Int)×Int) :=
  (YY K a0).bind fun y1=>(bif (!y1) then some (((0:Int),((0:Int),(0:Int),(0:Int)),[]),(1:Int)) else (Y1 K a0).bind fun y2=>(AbD K y2 (((0:Int),(1:Int),(1:Int),(0:Int)),(0:Int),(0:Int))).bind fun y3=>some (y3,(0:Int)))
def f8M:Mdl:=⟨[(.ro,(.cons sI (.cons sL (.list 2 sI))))],[(.cons sI (.cons sL (.list 2 sI))),sI],fun x=>f8G K x.1⟩
def An3:Env:=eE K [] [0,1,3,4]
def JS (K:Nat) (a0:Int) (a1:Int×Int):Option Int :=
  some (w ((w ((w (a1.1*a1.1))+(w ((w (a0*a1.1))*a1.2))))+(w (a1.2*a1.2))))
def AbF:Mdl:=⟨[(.ro,sI),(.ro,sV)],[sI],fun x=>JS K x.1 x.2.1⟩
def NJ:Env:=eE K [(86,TW K),(204,AbF K)] [0,2,3,4,5,6,7,8,10,11,54]
def AfI (a0:Int) (L8:Int→(List tA)→Option (List tA)) (q9:Int) (q10:List tA):Option (List tA) :=
  (bif (decide (q9<(81:Int))) then (Jl K ((w ((w (q9.tdiv (27:Int)))-(1:Int))),(w (((w (q9.tdiv (9:Int))).tmod (3:Int))-(1:Int))),(w (((w (q9.tdiv (3:Int))).tmod (3:Int))-(1:Int))),(w ((q9.tmod (3:Int))-(1:Int)))) ((1:Int),(0:Int))).bind fun y11=>(Jl K ((w ((w (q9.tdiv (27:Int)))-(1:Int))),(w (((w (q9.tdiv (9:Int))).tmod (3:Int))-(1:Int))),(w (((w (q9.tdiv (3:Int))).tmod (3:Int))-(1:Int))),(w ((q9.tmod (3:Int))-(1:Int)))) ((0:Int),(1:Int))).bind fun y12=>(Jl K ((w ((w (q9.tdiv (27:Int)))-(1:Int))),(w (((w (q9.tdiv (9:Int))).tmod (3:Int))-(1:Int))),(w (((w (q9.tdiv (3:Int))).tmod (3:Int))-(1:Int))),(w ((q9.tmod (3:Int))-(1:Int)))) ((1:Int),(1:Int))).bind fun y13=>(JS K a0 y11).bind fun y14=>((bif (y14==(1:Int)) then JS K a0 y12 else some (0:Int))).bind fun y15=>((bif (bif (y14==(1:Int)) then (y15==(1:Int)) else false) then JS K a0 y13 else some (0:Int))).bind fun y16=>(bif (bif (bif (y14==(1:Int)) then (y15==(1:Int)) else false) then (y16==(w ((2:Int)+a0))) else false) then (bif (Nat.ble (q10.length+[((w ((w (q9.tdiv (27:Int)))-(1:Int))),(w (((w (q9.tdiv (9:Int))).tmod (3:Int))-(1:Int))),(w (((w (q9.tdiv (3:Int))).tmod (3:Int))-(1:Int))),(w ((q9.tmod (3:Int))-(1:Int))))].length) (lim 32)) then L8 (w (q9+(1:Int))) (q10++[((w ((w (q9.tdiv (27:Int)))-(1:Int))),(w (((w (q9.tdiv (9:Int))).tmod (3:Int))-(1:Int))),(w (((w (q9.tdiv (3:Int))).tmod (3:Int))-(1:Int))),(w ((q9.tmod (3:Int))-(1:Int))))]) else none) else L8 (w (q9+(1:Int))) q10) else some q10)
def WG (a0:Int) (n:Nat) (q9:Int) (q10:List tA):Option (List tA) :=
  AJ (X:=Int×List tA) (fun L x=>AfI K a0 (fun v0 v1=>L (v0,v1)) x.1 x.2) n (q9,q10)
def AbG (K:Nat) (a0:Int) (I8:Int→(List tA)→Option (List tA)):Option (List tA) :=
  I8 (0:Int) []
def NK (a0:Int):Option (List tA) :=
  AbG K a0 (fun d0 d1=>WG K a0 K d0 d1)
def WH:Mdl:=⟨[(.ro,sI)],[(.list 62 sA)],fun x=>NK K x.1⟩
def AfJ (a0:Int) (lr:LR (List tA)):Ex→Fr→Option (List tA) :=
  Au (NJ K) 0 lr Ajp [1,1,0,1,0] (fM (NJ K) Tryz.f178 (WH K) (a0,()))
def WI (a0:Int) (lr:LR (List tA)) (bq9:Int) (bq10:List tA):Option (List tA) :=
  lr (AH Ajp [1,1,0,1,0,0]) (Rj a0 bq9 bq10) (AfJ K a0 lr)
def An4:Env:=eE K [(169,Wz K)] [0,1,2,3,4]
def Lp (a0:Int×Int×Int) (a1:Int×Int):Option Bool :=
  (ND K a0 a1).bind fun y1=>some ((y1.1==(0:Int))&&(y1.2==(0:Int)))
def WJ:Mdl:=⟨[(.ro,sL),(.ro,sV)],[.bool],fun x=>Lp K x.1 x.2.1⟩
def An5:Env:=eE K [(86,TW K),(180,WJ K)] [0,1,2,3,4,5]
def WK (a0:Int×Int×Int×Int) (a1:Int×Int×Int) (a2 a3:Int×Int):Option Bool :=
  (Jl K a0 a2).bind fun y1=>(Lp K a1 y1).bind fun y2=>((bif (!(!y2)) then Jl K a0 a3 else some ((0:Int),(0:Int)))).bind fun y3=>((bif (!(!y2)) then Lp K a1 y3 else some false)).bind fun y4=>some (bif (!y2) then true else (!y4))
def AbH:Mdl:=⟨[(.ro,sA),(.cap,sL),(.cap,sV),(.cap,sV)],[.bool],fun x=>WK K x.1 x.2.1 x.2.2.1 x.2.2.2.1⟩
def NL:Env:=eE K [] [0,1,4,5,7,8,9,16]
def Kt (K:Nat) (a0:List tA) (a1:(tA→Option Bool)) (L3:Int→Option Int) (q4:Int):Option Int :=
  (bif (decide (q4<(a0.length:Int))) then (bif (decide (0≤q4)&&decide (q4<(a0.length:Int))) then (a1 ((a0.getD ((0:Int)+q4).toNat zA).1,((a0.getD ((0:Int)+q4).toNat zA).2).1,(((a0.getD ((0:Int)+q4).toNat zA).2).2))).bind fun y5=>(bif y5 then some q4 else L3 (w (q4+(1:Int)))) else none) else some (-1:Int))
def PE (a0:List tA) (a1:(tA→Option Bool)) (n:Nat) (q4:Int):Option Int :=
  AJ (X:=Int) (fun L x=>Kt K a0 a1 (fun v0=>L v0) x) n q4
def T6 (K:Nat) (a0:List tA) (a1:(tA→Option Bool)) (I3:Int→Option Int):Option Int :=
  I3 (0:Int)
def RX (a0:List tA) (a1:(tA→Option Bool)):Option Int :=
  T6 K a0 a1 (fun d0=>PE K a0 a1 K d0)
def WL:Mdl:=⟨[(.ro,(.list 62 sA)),(.ro,(.fn1 sA .bool))],[sI],fun x=>RX K x.1 x.2.1⟩
def AfK (a0:List tA) (a1:(tA→Option Bool)) (lr:LR Int):Ex→Fr→Option Int :=
  Au (NL K) 1 lr Ajq [1,0,1,0] (fM (NL K) Tryz.f236 (WL K) (a0,a1,()))
def WM (a0:List tA) (a1:(tA→Option Bool)) (lr:LR Int) (bq4:Int):Option Int :=
  lr (AH Ajq [1,0,1,0,0]) (Rk a0 a1 bq4) (AfK K a0 a1 lr)
def NM:Env:=eE K [(236,WL K)] [0,1,4,5,6,7,12,19,29]
def Ku (K:Nat) (a1:(tA→Option Bool)) (y1:Int) (L4:Int→Int→(List tA)→Option (List tA)) (q5 q6:Int) (q7:List tA):Option (List tA) :=
  (bif (decide (q6<(q7.length:Int))) then (bif (decide (0≤q6)&&decide (q6<(q7.length:Int))) then (a1 ((q7.getD ((0:Int)+q6).toNat zA).1,((q7.getD ((0:Int)+q6).toNat zA).2).1,(((q7.getD ((0:Int)+q6).toNat zA).2).2))).bind fun y8=>(bif (!y8) then (bif (decide (0≤q5)&&decide (q5<(q7.length:Int))) then L4 (w (q5+(1:Int))) (w (q6+(1:Int))) (q7.set ((0:Int)+q5).toNat ((q7.getD ((0:Int)+q6).toNat zA).1,((q7.getD ((0:Int)+q6).toNat zA).2).1,(((q7.getD ((0:Int)+q6).toNat zA).2).2))) else none) else L4 q5 (w (q6+(1:Int))) q7) else none) else (bif (decide (0≤q5)&&decide (q5≤(q7.length:Int))&&decide ((q7.length:Int)≤(q7.length:Int))) then (bif (decide (0≤(0:Int))&&decide ((0:Int)≤q5)&&decide (q5≤((clr q7 ((0:Int)+q5).toNat (((0:Int)+q5)+(((0:Int)+(q7.length:Int))-((0:Int)+q5))).toNat zA).length:Int))) then some ((clr q7 ((0:Int)+q5).toNat (((0:Int)+q5)+(((0:Int)+(q7.length:Int))-((0:Int)+q5))).toNat zA).take ((0:Int)+q5).toNat) else none) else none))
def PF (a1:(tA→Option Bool)) (y1:Int) (n:Nat) (q5 q6:Int) (q7:List tA):Option (List tA) :=
  AJ (X:=Int×Int×List tA) (fun L x=>Ku K a1 y1 (fun v0 v1 v2=>L (v0,v1,v2)) x.1 x.2.1 x.2.2) n (q5,q6,q7)
def T7 (a0:List tA) (a1:(tA→Option Bool)) (I4:Int→Int→Int→(List tA)→Option (List tA)):Option (List tA) :=
  (RX K a0 a1).bind fun y1=>(bif (y1==(-1:Int)) then some a0 else I4 y1 y1 (w (y1+(1:Int))) a0)
def RY (a0:List tA) (a1:(tA→Option Bool)):Option (List tA) :=
  T7 K a0 a1 (fun c0 d0 d1 d2=>PF K a1 c0 K d0 d1 d2)
def WN:Mdl:=⟨[(.mv,(.list 62 sA)),(.ro,(.fn1 sA .bool))],[(.list 62 sA)],fun x=>RY K x.1 x.2.1⟩
def AfL (a0:List tA) (a1:(tA→Option Bool)) (lr:LR (List tA)):Ex→Fr→Option (List tA) :=
  Au (NM K) 1 lr Ajr [1,1,1,0,1,0] (fM (NM K) Tryz.f177 (WN K) (a0,a1,()))
def WO (a0:List tA) (a1:(tA→Option Bool)) (lr:LR (List tA)) (y1 bq5 bq6:Int) (bq7:List tA):Option (List tA) :=
  lr (AH Ajr [1,1,1,0,1,0,0]) (Rm a1 y1 bq5 bq6 bq7) (AfL K a0 a1 lr)
def ApK:Env:=⟨[(84,Aa6 K),(177,WN K),(178,WH K),(179,AbH K)],tys,eqs,mts,K,[0,1,3,4,5,6],[],[],[],[],[(179,AbH K)],[],false⟩
def AfM (a0:Int) (a1:Int×Int×Int):Option (List tA) :=
  (Pn K a1).bind fun y1=>(NK K a0).bind fun y2=>(RY K y2 (fun z3=>WK K z3 a1 y1.1 y1.2)).bind fun y4=>some y4
def An6:Mdl:=⟨[(.ro,sI),(.ro,sL)],[(.list 62 sA)],fun x=>AfM K x.1 x.2.1⟩
def PG:Env:=eE K [(39,M1 K),(96,An6 K),(97,Abe K)] [0,1,2,3,5,7,13,14,15,16,21,22,23,24,31]
def Kw (a0:Int×tL×List Int) (q11:Int) (y1:List tA) (y13:List tV) (L10 L14:Int→(List tM)→Option (List tM)) (q15:Int) (q16:List tM):Option (List tM) :=
  (bif (decide (q15<(y13.length:Int))) then (bif (decide (0≤q15)&&decide (q15<(y13.length:Int))) then (YT K a0 (((y1.getD ((0:Int)+q11).toNat zA).1,((y1.getD ((0:Int)+q11).toNat zA).2).1,(((y1.getD ((0:Int)+q11).toNat zA).2).2)),(y13.getD ((0:Int)+q15).toNat ((0:Int),(0:Int))))).bind fun y17=>(bif y17 then (bif (Nat.ble (q16.length+[(((y1.getD ((0:Int)+q11).toNat zA).1,((y1.getD ((0:Int)+q11).toNat zA).2).1,(((y1.getD ((0:Int)+q11).toNat zA).2).2)),(y13.getD ((0:Int)+q15).toNat ((0:Int),(0:Int))))].length) (lim 48)) then L14 (w (q15+(1:Int))) (q16++[(((y1.getD ((0:Int)+q11).toNat zA).1,((y1.getD ((0:Int)+q11).toNat zA).2).1,(((y1.getD ((0:Int)+q11).toNat zA).2).2)),(y13.getD ((0:Int)+q15).toNat ((0:Int),(0:Int))))]) else none) else L14 (w (q15+(1:Int))) q16) else none) else L10 (w (q11+(1:Int))) q16)
def Ie (a0:Int×tL×List Int) (q11:Int) (y1:List tA) (y13:List tV) (L10:Int→(List tM)→Option (List tM)) (n:Nat) (q15:Int) (q16:List tM):Option (List tM) :=
  AJ (X:=Int×List tM) (fun L x=>Kw K a0 q11 y1 y13 L10 (fun v0 v1=>L (v0,v1)) x.1 x.2) n (q15,q16)
def Ig (a0:Int×tL×List Int) (y1:List tA) (I14:Int→(List tV)→Int→(List tM)→Option (List tM)) (L10:Int→(List tM)→Option (List tM)) (q11:Int) (q12:List tM):Option (List tM) :=
  (bif (decide (q11<(y1.length:Int))) then (bif (decide (0≤q11)&&decide (q11<(y1.length:Int))) then (Lm K a0.2.1).bind fun y13=>I14 q11 y13 (0:Int) q12 else none) else some q12)
def PH (a0:Int×tL×List Int) (y1:List tA) (n:Nat) (q11:Int) (q12:List tM):Option (List tM) :=
  AJ (X:=Int×List tM) (fun L x=>(fun L10=>Ig K a0 y1 (fun c0 c1 d0 d1=>Ie K a0 c0 y1 c1 L10 K d0 d1) L10 x.1 x.2) (fun v0 v1=>L (v0,v1))) n (q11,q12)
def AbI (a0:Int×tL×List Int) (I10:(List tA)→Int→(List tM)→Option (List tM)):Option (List tM) :=
  (AfM K a0.1 a0.2.1).bind fun y1=>I10 y1 (0:Int) []
def RZ (a0:Int×tL×List Int):Option (List tM) :=
  AbI K a0 (fun c0 d0 d1=>PH K a0 c0 K d0 d1)
def T8:Mdl:=⟨[(.ro,(.cons sI (.cons sL (.list 2 sI))))],[(.list 64 sM)],fun x=>RZ K x.1⟩
def WP (a0:Int×tL×List Int) (lr:LR (List tM)):Ex→Fr→Option (List tM) :=
  Au (PG K) 1 lr Ae4 [1,1,0,1,0] (fM (PG K) Tryz.f38 (T8 K) (a0,()))
def WQ (a0:Int×tL×List Int) (lr:LR (List tM)) (y1:List tA) (bq11:Int) (bq12:List tM):Option (List tM) :=
  lr (AH Ae4 [1,1,0,1,0,0]) (FT a0 y1 bq11 bq12) (WP K a0 lr)
def AfN (a0:Int×tL×List Int) (y1:List tA) (F10:Fr→Option (List tM)) (bq11:Int) (bq12:List tM) (lr:LR (List tM)):Ex→Fr→Option (List tM) :=
  Au (PG K) 1 lr (AH Ae4 [1,1,0,1,0,0]) [1,1,0,0,1,1,0] (ET 1 (FT a0 y1 bq11 bq12) F10 (WP K a0 lr))
def WR (a0:Int×tL×List Int) (y1:List tA) (F10:Fr→Option (List tM)) (bq11:Int) (bq12:List tM) (lr:LR (List tM)) (q11:Int) (y13:List tV) (bq15:Int) (bq16:List tM):Option (List tM) :=
  lr (AH Ae4 [1,1,0,1,0,0,1,1,0,0,1,1,0,0]) (Rn a0 q11 y1 y13 bq15 bq16) (AfN K a0 y1 F10 bq11 bq12 lr)
def ApL:Env:=eE K [(89,Afs K),(169,Wz K)] [0,1,2,3,4,5,6]
def AbJ (a0:Int×Int×Int) (a1:tA×Int×Int) (a2:Int×Int):Option tV :=
  (YQ K a1 a2).bind fun y1=>(ND K a0 y1).bind fun y2=>some y2
def An7:Mdl:=⟨[(.ro,sL),(.ro,sM),(.ro,sV)],[sV],fun x=>AbJ K x.1 x.2.1 x.2.2.1⟩
def Y3:Env:=eE K [(98,An7 K)] [0,1,2,3,5,6,7,9,11,12,13,14,22]
def PI (a0:Int×Int×Int) (a1:List tM) (a2:Int×Int) (L3:Int→(List tM)→Option (List tM)) (q4:Int) (q5:List tM):Option (List tM) :=
  (bif (decide (q4<(a1.length:Int))) then (bif (decide (0≤q4)&&decide (q4<(a1.length:Int))) then (AbJ K a0 ((((a1.getD ((0:Int)+q4).toNat zM).1).1,(((a1.getD ((0:Int)+q4).toNat zM).1).2).1,((((a1.getD ((0:Int)+q4).toNat zM).1).2).2)),((a1.getD ((0:Int)+q4).toNat zM).2)) a2).bind fun y6=>(bif ((y6.1==a2.1)&&(y6.2==a2.2)) then (bif (Nat.ble (q5.length+[((((a1.getD ((0:Int)+q4).toNat zM).1).1,(((a1.getD ((0:Int)+q4).toNat zM).1).2).1,((((a1.getD ((0:Int)+q4).toNat zM).1).2).2)),((a1.getD ((0:Int)+q4).toNat zM).2))].length) (lim 48)) then L3 (w (q4+(1:Int))) (q5++[((((a1.getD ((0:Int)+q4).toNat zM).1).1,(((a1.getD ((0:Int)+q4).toNat zM).1).2).1,((((a1.getD ((0:Int)+q4).toNat zM).1).2).2)),((a1.getD ((0:Int)+q4).toNat zM).2))]) else none) else L3 (w (q4+(1:Int))) q5) else none) else some q5)
def T9 (a0:Int×Int×Int) (a1:List tM) (a2:Int×Int) (n:Nat) (q4:Int) (q5:List tM):Option (List tM) :=
  AJ (X:=Int×List tM) (fun L x=>PI K a0 a1 a2 (fun v0 v1=>L (v0,v1)) x.1 x.2) n (q4,q5)
def AbK (K:Nat) (a0:Int×Int×Int) (a1:List tM) (a2:Int×Int) (I3:Int→(List tM)→Option (List tM)):Option (List tM) :=
  I3 (0:Int) []
def Ua (a0:Int×Int×Int) (a1:List tM) (a2:Int×Int):Option (List tM) :=
  AbK K a0 a1 a2 (fun d0 d1=>T9 K a0 a1 a2 K d0 d1)
def Y4:Mdl:=⟨[(.ro,sL),(.ro,(.list 64 sM)),(.ro,sV)],[(.list 64 sM)],fun x=>Ua K x.1 x.2.1 x.2.2.1⟩
def Alc (a0:Int×Int×Int) (a1:List tM) (a2:Int×Int) (lr:LR (List tM)):Ex→Fr→Option (List tM) :=
  Au (Y3 K) 1 lr Ane [1,1,0,1,0] (fM (Y3 K) Tryz.f40 (Y4 K) (a0,a1,a2,()))
def AbL (a0:Int×Int×Int) (a1:List tM) (a2:Int×Int) (lr:LR (List tM)) (bq4:Int) (bq5:List tM):Option (List tM) :=
  lr (AH Ane [1,1,0,1,0,0]) (VK a0 a1 a2 bq4 bq5) (Alc K a0 a1 a2 lr)
def f9E:Env:=eE K [(32,TU K),(33,T0 K),(38,T8 K),(39,M1 K),(40,Y4 K)] [0,1,2,3,4,5,6,7,8,10,11,14,23,24,25,26,37]
def WS (a0:Int×tL×List Int) (y1:Bool) (y2:Int×tL×List Int) (y3:List tM) (y4:List tV) (L7:Int→Int→Int→Int→Option (tV×Int×Int)) (q8 q9 q10 q11:Int):Option (tV×Int×Int) :=
  (bif (decide (q9<(y4.length:Int))) then (bif (decide (0≤q9)&&decide (q9<(y4.length:Int))) then (Ua K y2.2.1 y3 (y4.getD ((0:Int)+q9).toNat ((0:Int),(0:Int)))).bind fun y12=>(bif (decide ((y12.length:Int)>q8)) then L7 (y12.length:Int) (w (q9+(1:Int))) ((y4.getD ((0:Int)+q9).toNat ((0:Int),(0:Int))).1) ((y4.getD ((0:Int)+q9).toNat ((0:Int),(0:Int))).2) else L7 q8 (w (q9+(1:Int))) q10 q11) else none) else some ((q10,q11),q8,(0:Int)))
def AbM (a0:Int×tL×List Int) (y1:Bool) (y2:Int×tL×List Int) (y3:List tM) (y4:List tV) (n:Nat) (q8 q9 q10 q11:Int):Option (tV×Int×Int) :=
  AJ (X:=Int×Int×Int×Int) (fun L x=>WS K a0 y1 y2 y3 y4 (fun v0 v1 v2 v3=>L (v0,v1,v2,v3)) x.1 x.2.1 x.2.2.1 x.2.2.2) n (q8,q9,q10,q11)
def Ald (a0:Int×tL×List Int) (I7:Bool→(Int×tL×List Int)→(List tM)→(List tV)→Int→Int→Int→Int→Option (tV×Int×Int)):Option (tV×Int×Int) :=
  (M0 K a0).bind fun y1=>(bif (!y1) then some (((0:Int),(0:Int)),(0:Int),(1:Int)) else (M2 K a0).bind fun y2=>(RZ K y2).bind fun y3=>(Lm K y2.2.1).bind fun y4=>I7 y1 y2 y3 y4 (0:Int) (0:Int) (0:Int) (0:Int))
def f9G (a0:Int×tL×List Int):Option (tV×Int×Int) :=
  Ald K a0 (fun c0 c1 c2 c3 d0 d1 d2 d3=>AbM K a0 c0 c1 c2 c3 K d0 d1 d2 d3)
def f9M:Mdl:=⟨[(.ro,(.cons sI (.cons sL (.list 2 sI))))],[sV,sI,sI],fun x=>f9G K x.1⟩
def An8 (a0:Int×tL×List Int) (lr:LR (tV×Int×Int)):Ex→Fr→Option (tV×Int×Int) :=
  Au (f9E K) 1 lr f9C [1,1,1,1,0,1,0] (fM (f9E K) Tryz.f9 (f9M K) (a0,()))
def AjT (a0:Int×tL×List Int) (lr:LR (tV×Int×Int)) (y1:Bool) (y2:Int×tL×List Int) (y3:List tM) (y4:List tV) (bq8 bq9 bq10 bq11:Int):Option (tV×Int×Int) :=
  lr (AH f9C [1,1,1,1,0,1,0,0]) (Aay a0 y1 y2 y3 y4 bq8 bq9 bq10 bq11) (An8 K a0 lr)
def PJ:Env:=eE K [(42,Li K),(99,AaK K),(100,RW K)] [0,1,2,3,4,5,6,7,8,21,27,41]
def Kx (a0:Int×tL×List Int) (q11:Int) (y1:List tA) (y2:List tV) (L10 L13:Int→(List tM)→Option (List tM)) (q14:Int) (q15:List tM):Option (List tM) :=
  (bif (decide (q14<(y2.length:Int))) then (bif (decide (0≤q11)&&decide (q11<(y1.length:Int))) then (bif (decide (0≤q14)&&decide (q14<(y2.length:Int))) then (NI K a0 (((y1.getD ((0:Int)+q11).toNat zA).1,((y1.getD ((0:Int)+q11).toNat zA).2).1,(((y1.getD ((0:Int)+q11).toNat zA).2).2)),(y2.getD ((0:Int)+q14).toNat ((0:Int),(0:Int))))).bind fun y16=>(bif y16 then (bif (Nat.ble (q15.length+[(((y1.getD ((0:Int)+q11).toNat zA).1,((y1.getD ((0:Int)+q11).toNat zA).2).1,(((y1.getD ((0:Int)+q11).toNat zA).2).2)),(y2.getD ((0:Int)+q14).toNat ((0:Int),(0:Int))))].length) (lim 48)) then L13 (w (q14+(1:Int))) (q15++[(((y1.getD ((0:Int)+q11).toNat zA).1,((y1.getD ((0:Int)+q11).toNat zA).2).1,(((y1.getD ((0:Int)+q11).toNat zA).2).2)),(y2.getD ((0:Int)+q14).toNat ((0:Int),(0:Int))))]) else none) else L13 (w (q14+(1:Int))) q15) else none) else none) else L10 (w (q11+(1:Int))) q15)
def Ih (a0:Int×tL×List Int) (q11:Int) (y1:List tA) (y2:List tV) (L10:Int→(List tM)→Option (List tM)) (n:Nat) (q14:Int) (q15:List tM):Option (List tM) :=
  AJ (X:=Int×List tM) (fun L x=>Kx K a0 q11 y1 y2 L10 (fun v0 v1=>L (v0,v1)) x.1 x.2) n (q14,q15)
def Ii (K:Nat) (a0:Int×tL×List Int) (y1:List tA) (y2:List tV) (I13:Int→Int→(List tM)→Option (List tM)) (L10:Int→(List tM)→Option (List tM)) (q11:Int) (q12:List tM):Option (List tM) :=
  (bif (decide (q11<(y1.length:Int))) then I13 q11 (0:Int) q12 else some q12)
def PK (a0:Int×tL×List Int) (y1:List tA) (y2:List tV) (n:Nat) (q11:Int) (q12:List tM):Option (List tM) :=
  AJ (X:=Int×List tM) (fun L x=>(fun L10=>Ii K a0 y1 y2 (fun c0 d0 d1=>Ih K a0 c0 y1 y2 L10 K d0 d1) L10 x.1 x.2) (fun v0 v1=>L (v0,v1))) n (q11,q12)
def AbN (a0:Int×tL×List Int) (I10:(List tA)→(List tV)→Int→(List tM)→Option (List tM)):Option (List tM) :=
  (YN K a0.1 a0.2.1).bind fun y1=>(Kb K a0.2.1).bind fun y2=>I10 y1 y2 (0:Int) []
def Y5 (a0:Int×tL×List Int):Option (List tM) :=
  AbN K a0 (fun c0 c1 d0 d1=>PK K a0 c0 c1 K d0 d1)
def AbO:Mdl:=⟨[(.ro,(.cons sI (.cons sL (.list 2 sI))))],[(.list 64 sM)],fun x=>Y5 K x.1⟩
def WT (a0:Int×tL×List Int) (lr:LR (List tM)):Ex→Fr→Option (List tM) :=
  Au (PJ K) 1 lr Ae5 [1,1,1,0,1,0] (fM (PJ K) Tryz.f41 (AbO K) (a0,()))
def WU (a0:Int×tL×List Int) (lr:LR (List tM)) (y1:List tA) (y2:List tV) (bq11:Int) (bq12:List tM):Option (List tM) :=
  lr (AH Ae5 [1,1,1,0,1,0,0]) (FU a0 y1 y2 bq11 bq12) (WT K a0 lr)
def AfO (a0:Int×tL×List Int) (y1:List tA) (y2:List tV) (F10:Fr→Option (List tM)) (bq11:Int) (bq12:List tM) (lr:LR (List tM)):Ex→Fr→Option (List tM) :=
  Au (PJ K) 1 lr (AH Ae5 [1,1,1,0,1,0,0]) [1,0,0,1,0] (ET 1 (FU a0 y1 y2 bq11 bq12) F10 (WT K a0 lr))
def WV (a0:Int×tL×List Int) (y1:List tA) (y2:List tV) (F10:Fr→Option (List tM)) (bq11:Int) (bq12:List tM) (lr:LR (List tM)) (q11 bq14:Int) (bq15:List tM):Option (List tM) :=
  lr (AH Ae5 [1,1,1,0,1,0,0,1,0,0,1,0,0]) (Ro a0 q11 y1 y2 bq14 bq15) (AfO K a0 y1 y2 F10 bq11 bq12 lr)
def Y6:Env:=eE K [(101,AaV K)] [0,1,2,3,5,6,7,8,12,23]
def PL (a0:Int×Int×Int) (a1:List tM) (a2:Int×Int) (L3:Int→Int→Option Int) (q4 q5:Int):Option Int :=
  (bif (decide (q5<(a1.length:Int))) then (bif (decide (0≤q5)&&decide (q5<(a1.length:Int))) then (JR K a0 ((((a1.getD ((0:Int)+q5).toNat zM).1).1,(((a1.getD ((0:Int)+q5).toNat zM).1).2).1,((((a1.getD ((0:Int)+q5).toNat zM).1).2).2)),((a1.getD ((0:Int)+q5).toNat zM).2)) a2).bind fun y6=>(bif ((y6.1==a2.1)&&(y6.2==a2.2)) then L3 (w (q4+(1:Int))) (w (q5+(1:Int))) else L3 q4 (w (q5+(1:Int)))) else none) else some q4)
def Ub (a0:Int×Int×Int) (a1:List tM) (a2:Int×Int) (n:Nat) (q4 q5:Int):Option Int :=
  AJ (X:=Int×Int) (fun L x=>PL K a0 a1 a2 (fun v0 v1=>L (v0,v1)) x.1 x.2) n (q4,q5)
def AbP (K:Nat) (a0:Int×Int×Int) (a1:List tM) (a2:Int×Int) (I3:Int→Int→Option Int):Option Int :=
  I3 (0:Int) (0:Int)
def Uc (a0:Int×Int×Int) (a1:List tM) (a2:Int×Int):Option Int :=
  AbP K a0 a1 a2 (fun d0 d1=>Ub K a0 a1 a2 K d0 d1)
def AbQ:Mdl:=⟨[(.ro,sL),(.ro,(.list 64 sM)),(.ro,sV)],[sI],fun x=>Uc K x.1 x.2.1 x.2.2.1⟩
def Ale (a0:Int×Int×Int) (a1:List tM) (a2:Int×Int) (lr:LR Int):Ex→Fr→Option Int :=
  Au (Y6 K) 1 lr Anf [1,1,0,1,0] (fM (Y6 K) Tryz.f43 (AbQ K) (a0,a1,a2,()))
def AbR (a0:Int×Int×Int) (a1:List tM) (a2:Int×Int) (lr:LR Int) (bq4 bq5:Int):Option Int :=
  lr (AH Anf [1,1,0,1,0,0]) (VL a0 a1 a2 bq4 bq5) (Ale K a0 a1 a2 lr)
def Y7:Env:=eE K [(35,AfC K),(37,AfG K),(41,AbO K),(42,Li K),(43,AbQ K)] [0,1,2,3,4,5,6,7,8,9,10,11,14,27,40]
def PN (a0:Int×tL×List Int) (y1:Bool) (y2:Int×tL×List Int) (y3:List tM) (y4:List tV) (L7:Int→Int→Int→Int→Option (tV×Int×Int)) (q8 q9 q10 q11:Int):Option (tV×Int×Int) :=
  (bif (decide (q9<(y4.length:Int))) then (bif (decide (0≤q9)&&decide (q9<(y4.length:Int))) then (Uc K y2.2.1 y3 (y4.getD ((0:Int)+q9).toNat ((0:Int),(0:Int)))).bind fun y12=>(bif (decide (y12>q8)) then (bif (decide (0≤q9)&&decide (q9<(y4.length:Int))) then L7 y12 (w (q9+(1:Int))) ((y4.getD ((0:Int)+q9).toNat ((0:Int),(0:Int))).1) ((y4.getD ((0:Int)+q9).toNat ((0:Int),(0:Int))).2) else none) else L7 q8 (w (q9+(1:Int))) q10 q11) else none) else some ((q10,q11),q8,(0:Int)))
def Ud (a0:Int×tL×List Int) (y1:Bool) (y2:Int×tL×List Int) (y3:List tM) (y4:List tV) (n:Nat) (q8 q9 q10 q11:Int):Option (tV×Int×Int) :=
  AJ (X:=Int×Int×Int×Int) (fun L x=>PN K a0 y1 y2 y3 y4 (fun v0 v1 v2 v3=>L (v0,v1,v2,v3)) x.1 x.2.1 x.2.2.1 x.2.2.2) n (q8,q9,q10,q11)
def AbS (a0:Int×tL×List Int) (I7:Bool→(Int×tL×List Int)→(List tM)→(List tV)→Int→Int→Int→Int→Option (tV×Int×Int)):Option (tV×Int×Int) :=
  (YY K a0).bind fun y1=>(bif (!y1) then some (((0:Int),(0:Int)),(0:Int),(1:Int)) else (Y1 K a0).bind fun y2=>(Y5 K y2).bind fun y3=>(Kb K y2.2.1).bind fun y4=>I7 y1 y2 y3 y4 (0:Int) (0:Int) (0:Int) (0:Int))
def AbT (a0:Int×tL×List Int):Option (tV×Int×Int) :=
  AbS K a0 (fun c0 c1 c2 c3 d0 d1 d2 d3=>Ud K a0 c0 c1 c2 c3 K d0 d1 d2 d3)
def AfP:Mdl:=⟨[(.ro,(.cons sI (.cons sL (.list 2 sI))))],[sV,sI,sI],fun x=>AbT K x.1⟩
def Alf (a0:Int×tL×List Int) (lr:LR (tV×Int×Int)):Ex→Fr→Option (tV×Int×Int) :=
  Au (Y7 K) 1 lr Ang [1,1,1,1,1,0,1,0] (fM (Y7 K) Tryz.f10 (AfP K) (a0,()))
def AbU (a0:Int×tL×List Int) (lr:LR (tV×Int×Int)) (y1:Bool) (y2:Int×tL×List Int) (y3:List tM) (y4:List tV) (bq8 bq9 bq10 bq11:Int):Option (tV×Int×Int) :=
  lr (AH Ang [1,1,1,1,1,0,1,0,0]) (VM a0 y1 y2 y3 y4 bq8 bq9 bq10 bq11) (Alf K a0 lr)
def ApM:Env:=⟨[],tys,eqs,mts,K,[0,2,3,4],[(30,Ak2 K),(44,AaC K),(45,O7 K)],[(31,AkV K)],[],[],[],[],false⟩
def AfQ (a0:List Int):Option ((Int×tL×List Int)×Int) :=
  (YJ K a0).bind fun y1=>(Aa3 K (a0,y1)).bind fun y2=>(CV K (a0,y2.1) (8:Int)).bind fun y3=>(O8 K (a0,y3.1) [(2:Int),(2:Int),(3:Int),(4:Int),(6:Int),y3.2]).bind fun y4=>some (y2.2,y4.2)
def An9:Mdl:=⟨[(.ro,(.list 5 (.int .u8)))],[(.cons sI (.cons sL (.list 2 sI))),sI],fun x=>AfQ K x.1⟩
def ApN:Env:=eE K [(46,RV K),(102,Abb K)] [0,1,2,3,9,13,24,32,40]
def PO (a0:Int×Int×Int×Int):Option Int :=
  (Wy K).bind fun y1=>(bif ((a0.1==y1.1)&&((a0.2.1==y1.2.1)&&((a0.2.2.1==y1.2.2.1)&&(a0.2.2.2==y1.2.2.2)))) then some (1:Int) else (ED K a0).bind fun y2=>(bif (bif (y2==(-1:Int)) then ((w (a0.1+a0.2.2.2))==(0:Int)) else false) then (bif (bif (y2==(-1:Int)) then ((w (a0.1+a0.2.2.2))==(0:Int)) else false) then some (2:Int) else (ED K a0).bind fun y3=>(bif (bif (y3==(1:Int)) then ((w (a0.1+a0.2.2.2))==(-1:Int)) else false) then some (3:Int) else (ED K a0).bind fun y4=>(bif (bif (y4==(1:Int)) then ((w (a0.1+a0.2.2.2))==(0:Int)) else false) then some (4:Int) else (ED K a0).bind fun y5=>(bif (bif (y5==(1:Int)) then ((w (a0.1+a0.2.2.2))==(1:Int)) else false) then some (6:Int) else some (0:Int))))) else (bif ((a0.1==(-1:Int))&&((a0.2.1==(0:Int))&&((a0.2.2.1==(0:Int))&&(a0.2.2.2==(-1:Int))))) then some (2:Int) else (ED K a0).bind fun y6=>(bif (bif (y6==(1:Int)) then ((w (a0.1+a0.2.2.2))==(-1:Int)) else false) then some (3:Int) else (ED K a0).bind fun y7=>(bif (bif (y7==(1:Int)) then ((w (a0.1+a0.2.2.2))==(0:Int)) else false) then some (4:Int) else (ED K a0).bind fun y8=>(bif (bif (y8==(1:Int)) then ((w (a0.1+a0.2.2.2))==(1:Int)) else false) then some (6:Int) else some (0:Int)))))))
def AfR:Mdl:=⟨[(.ro,sA)],[sI],fun x=>PO K x.1⟩
def PP:Env:=eE K [(32,TU K),(33,T0 K),(38,T8 K),(39,M1 K),(40,Y4 K),(46,RV K),(47,AfR K)] [0,1,2,4,5,6,7,8,10,12,15,29,37,38,39,40,47,48,49,50,63]
def Ky (a0:Int×tL×List Int) (a1 q11:Int) (q12:List tV) (y1:Bool) (y2:Int×tL×List Int) (y3:List tM) (y4:List tV) (y13:List tM) (L10:Int→(List tV)→Option ((List tV)×Int)) (L17:Int→Option ((List tV)×Int)) (q18:Int):Option ((List tV)×Int) :=
  (bif (decide (q18<(y13.length:Int))) then (bif (decide (0≤q18)&&decide (q18<(y13.length:Int))) then (ED K (((y13.getD ((0:Int)+q18).toNat zM).1).1,(((y13.getD ((0:Int)+q18).toNat zM).1).2).1,((((y13.getD ((0:Int)+q18).toNat zM).1).2).2))).bind fun y19=>((bif (y19==(1:Int)) then PO K (((y13.getD ((0:Int)+q18).toNat zM).1).1,(((y13.getD ((0:Int)+q18).toNat zM).1).2).1,((((y13.getD ((0:Int)+q18).toNat zM).1).2).2)) else some (0:Int))).bind fun y20=>(bif (bif (y19==(1:Int)) then (y20==a1) else false) then (bif (Nat.ble (q12.length+[(y4.getD ((0:Int)+q11).toNat ((0:Int),(0:Int)))].length) (lim 16)) then L10 (w (q11+(1:Int))) (q12++[(y4.getD ((0:Int)+q11).toNat ((0:Int),(0:Int)))]) else none) else L17 (w (q18+(1:Int)))) else none) else L10 (w (q11+(1:Int))) q12)
def Ij (a0:Int×tL×List Int) (a1 q11:Int) (q12:List tV) (y1:Bool) (y2:Int×tL×List Int) (y3:List tM) (y4:List tV) (y13:List tM) (L10:Int→(List tV)→Option ((List tV)×Int)) (n:Nat) (q18:Int):Option ((List tV)×Int) :=
  AJ (X:=Int) (fun L x=>Ky K a0 a1 q11 q12 y1 y2 y3 y4 y13 L10 (fun v0=>L v0) x) n q18
def Ik (a0:Int×tL×List Int) (a1:Int) (y1:Bool) (y2:Int×tL×List Int) (y3:List tM) (y4:List tV) (I17:Int→(List tV)→(List tM)→Int→Option ((List tV)×Int)) (L10:Int→(List tV)→Option ((List tV)×Int)) (q11:Int) (q12:List tV):Option ((List tV)×Int) :=
  (bif (decide (q11<(y4.length:Int))) then (bif (decide (0≤q11)&&decide (q11<(y4.length:Int))) then (Ua K y2.2.1 y3 (y4.getD ((0:Int)+q11).toNat ((0:Int),(0:Int)))).bind fun y13=>I17 q11 q12 y13 (0:Int) else none) else some (q12,(0:Int)))
def PQ (a0:Int×tL×List Int) (a1:Int) (y1:Bool) (y2:Int×tL×List Int) (y3:List tM) (y4:List tV) (n:Nat) (q11:Int) (q12:List tV):Option ((List tV)×Int) :=
  AJ (X:=Int×List tV) (fun L x=>(fun L10=>Ik K a0 a1 y1 y2 y3 y4 (fun c0 c1 c2 d0=>Ij K a0 a1 c0 c1 y1 y2 y3 y4 c2 L10 K d0) L10 x.1 x.2) (fun v0 v1=>L (v0,v1))) n (q11,q12)
def AbV (a0:Int×tL×List Int) (a1:Int) (I10:Bool→(Int×tL×List Int)→(List tM)→(List tV)→Int→(List tV)→Option ((List tV)×Int)):Option ((List tV)×Int) :=
  (M0 K a0).bind fun y1=>(bif (!y1) then some ([],(1:Int)) else (bif (bif (bif (bif (a1 != (2:Int)) then (a1 != (3:Int)) else false) then (a1 != (4:Int)) else false) then (a1 != (6:Int)) else false) then some ([],(2:Int)) else (M2 K a0).bind fun y2=>(RZ K y2).bind fun y3=>(Lm K y2.2.1).bind fun y4=>I10 y1 y2 y3 y4 (0:Int) []))
def AbW (a0:Int×tL×List Int) (a1:Int):Option ((List tV)×Int) :=
  AbV K a0 a1 (fun c0 c1 c2 c3 d0 d1=>PQ K a0 a1 c0 c1 c2 c3 K d0 d1)
def AfS:Mdl:=⟨[(.ro,(.cons sI (.cons sL (.list 2 sI)))),(.ro,sI)],[(.list 33 sV),sI],fun x=>AbW K x.1 x.2.1⟩
def WW (a0:Int×tL×List Int) (a1:Int) (lr:LR ((List tV)×Int)):Ex→Fr→Option ((List tV)×Int) :=
  Au (PP K) 1 lr Ae6 [1,1,1,1,1,0,1,0] (fM (PP K) Tryz.f12 (AfS K) (a0,a1,()))
def WX (a0:Int×tL×List Int) (a1:Int) (lr:LR ((List tV)×Int)) (y1:Bool) (y2:Int×tL×List Int) (y3:List tM) (y4:List tV) (bq11:Int) (bq12:List tV):Option ((List tV)×Int) :=
  lr (AH Ae6 [1,1,1,1,1,0,1,0,0]) (FV a0 a1 y1 y2 y3 y4 bq11 bq12) (WW K a0 a1 lr)
def AfT (a0:Int×tL×List Int) (a1:Int) (y1:Bool) (y2:Int×tL×List Int) (y3:List tM) (y4:List tV) (F10:Fr→Option ((List tV)×Int)) (bq11:Int) (bq12:List tV) (lr:LR ((List tV)×Int)):Ex→Fr→Option ((List tV)×Int) :=
  Au (PP K) 1 lr (AH Ae6 [1,1,1,1,1,0,1,0,0]) [1,1,0,0,1,1,0] (ET 1 (FV a0 a1 y1 y2 y3 y4 bq11 bq12) F10 (WW K a0 a1 lr))
def WY (a0:Int×tL×List Int) (a1:Int) (y1:Bool) (y2:Int×tL×List Int) (y3:List tM) (y4:List tV) (F10:Fr→Option ((List tV)×Int)) (bq11:Int) (bq12:List tV) (lr:LR ((List tV)×Int)) (q11:Int) (q12:List tV) (y13:List tM) (bq18:Int):Option ((List tV)×Int) :=
  lr (AH Ae6 [1,1,1,1,1,0,1,0,0,1,1,0,0,1,1,0,0]) (Rp a0 a1 q11 q12 y1 y2 y3 y4 y13 bq18) (AfT K a0 a1 y1 y2 y3 y4 F10 bq11 bq12 lr)
def Y8:Env:=eE K [] [0,1,4,5,9,17]
def PR (K:Nat) (a0:List Int) (a1:Int) (L2:Int→Option Bool) (q3:Int):Option Bool :=
  (bif (decide (q3<(a0.length:Int))) then (bif (decide (0≤q3)&&decide (q3<(a0.length:Int))) then (bif ((a0.getD ((0:Int)+q3).toNat (0:Int))==a1) then some true else L2 (w (q3+(1:Int)))) else none) else some false)
def Ue (a0:List Int) (a1:Int) (n:Nat) (q3:Int):Option Bool :=
  AJ (X:=Int) (fun L x=>PR K a0 a1 (fun v0=>L v0) x) n q3
def AbX (K:Nat) (a0:List Int) (a1:Int) (I2:Int→Option Bool):Option Bool :=
  I2 (0:Int)
def AbY (a0:List Int) (a1:Int):Option Bool :=
  AbX K a0 a1 (fun d0=>Ue K a0 a1 K d0)
def AfU:Mdl:=⟨[(.ro,(.list 2 sI)),(.ro,sI)],[.bool],fun x=>AbY K x.1 x.2.1⟩
def Alg (a0:List Int) (a1:Int) (lr:LR Bool):Ex→Fr→Option Bool :=
  Au (Y8 K) 1 lr Anh [1,0,1,0] (fM (Y8 K) Tryz.f48 (AfU K) (a0,a1,()))
def AbZ (a0:List Int) (a1:Int) (lr:LR Bool) (bq3:Int):Option Bool :=
  lr (AH Anh [1,0,1,0,0]) (VN a0 a1 bq3) (Alg K a0 a1 lr)
def Aoa:Env:=eE K [] [0,1,2]
def WZ (K:Nat) (a0:Int×Int×Int×Int):Option Int :=
  some (w ((w (a0.1*a0.2.2.2))-(w (a0.2.1*a0.2.2.1))))
def AjU:Mdl:=⟨[(.ro,sA)],[sI],fun x=>WZ K x.1⟩
def Aob:Env:=eE K [(149,VV K)] [0,1,2]
def Ab0 (a0:Int×Int):Option Bool :=
  (HZ K a0.1 (-1000:Int) (1000:Int)).bind fun y1=>((bif y1 then HZ K a0.2 (-1000:Int) (1000:Int) else some false)).bind fun y2=>some (bif y1 then y2 else false)
def AjV:Mdl:=⟨[(.ro,sV)],[.bool],fun x=>Ab0 K x.1⟩
def Aoc:Env:=eE K [(238,AjV K)] [0,1,2]
def AjW (a0:Int×Int×Int×Int):Option Bool :=
  (Ab0 K (a0.1,a0.2.1)).bind fun y1=>((bif y1 then Ab0 K a0.2.2 else some false)).bind fun y2=>some (bif y1 then y2 else false)
def AjX:Mdl:=⟨[(.ro,sA)],[.bool],fun x=>AjW K x.1⟩
def NN:Env:=eE K [(131,RB K),(182,AaN K),(183,AjX K)] [0,1,2,3,4,7,15,18]
def AfV (a0:Int×Int×Int×Int) (L6:Int→Int→Int→Int→Int→Option Int) (q7 q8 q9 q10 q11:Int):Option Int :=
  (bif (decide (q7≤(6:Int))) then (V6 K a0 (q8,q9,q10,q11)).bind fun y12=>(AjW K y12).bind fun y13=>(bif (!y13) then some (0:Int) else (JP K).bind fun y14=>(bif ((y12.1==y14.1)&&((y12.2.1==y14.2.1)&&((y12.2.2.1==y14.2.2.1)&&(y12.2.2.2==y14.2.2.2)))) then some q7 else L6 (w (q7+(1:Int))) y12.1 y12.2.1 y12.2.2.1 y12.2.2.2)) else some (0:Int))
def W0 (a0:Int×Int×Int×Int) (n:Nat) (q7 q8 q9 q10 q11:Int):Option Int :=
  AJ (X:=Int×Int×Int×Int×Int) (fun L x=>AfV K a0 (fun v0 v1 v2 v3 v4=>L (v0,v1,v2,v3,v4)) x.1 x.2.1 x.2.2.1 x.2.2.2.1 x.2.2.2.2) n (q7,q8,q9,q10,q11)
def Ab1 (a0:Int×Int×Int×Int) (I6:Int→Int→Int→Int→Int→Option Int):Option Int :=
  (JP K).bind fun y1=>I6 (1:Int) y1.1 y1.2.1 y1.2.2.1 y1.2.2.2
def W1 (a0:Int×Int×Int×Int):Option Int :=
  Ab1 K a0 (fun d0 d1 d2 d3 d4=>W0 K a0 K d0 d1 d2 d3 d4)
def W2:Mdl:=⟨[(.ro,sA)],[sI],fun x=>W1 K x.1⟩
def AfW (a0:Int×Int×Int×Int) (lr:LR Int):Ex→Fr→Option Int :=
  Au (NN K) 0 lr Ajs [1,1,0,1,0] (fM (NN K) Tryz.f104 (W2 K) (a0,()))
def W3 (a0:Int×Int×Int×Int) (lr:LR Int) (bq7 bq8 bq9 bq10 bq11:Int):Option Int :=
  lr (AH Ajs [1,1,0,1,0,0]) (Rq a0 bq7 bq8 bq9 bq10 bq11) (AfW K a0 lr)
def ApO:Env:=eE K [(103,AjU K),(104,W2 K)] [0,1,2,3,9]
def Y9 (a0:Int×Int×Int×Int):Option Int :=
  (WZ K a0).bind fun y1=>(bif (y1==(1:Int)) then (W1 K a0).bind fun y2=>some y2 else (W1 K a0).bind fun y3=>(bif (y3==(2:Int)) then some (-2:Int) else some (0:Int)))
def Aod:Mdl:=⟨[(.ro,sA)],[sI],fun x=>Y9 K x.1⟩
def M3:Env:=eE K [(35,AfC K),(37,AfG K),(41,AbO K),(42,Li K),(43,AbQ K),(48,AfU K),(49,Aod K)] [0,1,2,4,5,6,7,8,9,10,11,12,13,17,33,43,55,66]
def Kz (a0:Int×tL×List Int) (a1 q9:Int) (q10:List tM) (y1 y2:Bool) (y3:Int×tL×List Int) (y4:List tM) (y5:List tV) (L14:Int→(List tV)→Option ((List tV)×Int)) (q15:Int) (q16:List tV):Option ((List tV)×Int) :=
  (bif (decide (q15<(y5.length:Int))) then (bif (decide (0≤q15)&&decide (q15<(y5.length:Int))) then (Uc K y3.2.1 q10 (y5.getD ((0:Int)+q15).toNat ((0:Int),(0:Int)))).bind fun y17=>(bif (decide (y17>(0:Int))) then (bif (decide (0≤q15)&&decide (q15<(y5.length:Int))) then (bif (Nat.ble (q16.length+[(y5.getD ((0:Int)+q15).toNat ((0:Int),(0:Int)))].length) (lim 16)) then L14 (w (q15+(1:Int))) (q16++[(y5.getD ((0:Int)+q15).toNat ((0:Int),(0:Int)))]) else none) else none) else L14 (w (q15+(1:Int))) q16) else none) else some (q16,(0:Int)))
def GO (a0:Int×tL×List Int) (a1 q9:Int) (q10:List tM) (y1 y2:Bool) (y3:Int×tL×List Int) (y4:List tM) (y5:List tV) (n:Nat) (q15:Int) (q16:List tV):Option ((List tV)×Int) :=
  AJ (X:=Int×List tV) (fun L x=>Kz K a0 a1 q9 q10 y1 y2 y3 y4 y5 (fun v0 v1=>L (v0,v1)) x.1 x.2) n (q15,q16)
def Lq (a0:Int×tL×List Int) (a1:Int) (y1 y2:Bool) (y3:Int×tL×List Int) (y4:List tM) (y5:List tV) (I14:Int→(List tM)→Bool→Bool→(Int×tL×List Int)→(List tM)→(List tV)→Int→(List tV)→Option ((List tV)×Int)) (L8:Int→(List tM)→Option ((List tV)×Int)) (q9:Int) (q10:List tM):Option ((List tV)×Int) :=
  (bif (decide (q9<(y4.length:Int))) then (bif (decide (0≤q9)&&decide (q9<(y4.length:Int))) then (Y9 K (((y4.getD ((0:Int)+q9).toNat zM).1).1,(((y4.getD ((0:Int)+q9).toNat zM).1).2).1,((((y4.getD ((0:Int)+q9).toNat zM).1).2).2))).bind fun y11=>(bif (y11==a1) then (bif (decide (0≤q9)&&decide (q9<(y4.length:Int))) then (bif (Nat.ble (q10.length+[((((y4.getD ((0:Int)+q9).toNat zM).1).1,(((y4.getD ((0:Int)+q9).toNat zM).1).2).1,((((y4.getD ((0:Int)+q9).toNat zM).1).2).2)),((y4.getD ((0:Int)+q9).toNat zM).2))].length) (lim 48)) then L8 (w (q9+(1:Int))) (q10++[((((y4.getD ((0:Int)+q9).toNat zM).1).1,(((y4.getD ((0:Int)+q9).toNat zM).1).2).1,((((y4.getD ((0:Int)+q9).toNat zM).1).2).2)),((y4.getD ((0:Int)+q9).toNat zM).2))]) else none) else none) else L8 (w (q9+(1:Int))) q10) else none) else I14 q9 q10 y1 y2 y3 y4 y5 (0:Int) [])
def Uf (a0:Int×tL×List Int) (a1:Int) (y1 y2:Bool) (y3:Int×tL×List Int) (y4:List tM) (y5:List tV) (n:Nat) (q9:Int) (q10:List tM):Option ((List tV)×Int) :=
  AJ (X:=Int×List tM) (fun L x=>Lq K a0 a1 y1 y2 y3 y4 y5 (fun c0 c1 c2 c3 c4 c5 c6 d0 d1=>GO K a0 a1 c0 c1 c2 c3 c4 c5 c6 K d0 d1) (fun v0 v1=>L (v0,v1)) x.1 x.2) n (q9,q10)
def Ab2 (a0:Int×tL×List Int) (a1:Int) (I8:Bool→Bool→(Int×tL×List Int)→(List tM)→(List tV)→Int→(List tM)→Option ((List tV)×Int)):Option ((List tV)×Int) :=
  (YY K a0).bind fun y1=>(bif (!y1) then some ([],(1:Int)) else (AbY K [(2:Int),(3:Int),(4:Int),(6:Int)] a1).bind fun y2=>(bif (!y2) then some ([],(2:Int)) else (Y1 K a0).bind fun y3=>(Y5 K y3).bind fun y4=>(Kb K y3.2.1).bind fun y5=>I8 y1 y2 y3 y4 y5 (0:Int) []))
def Ab3 (a0:Int×tL×List Int) (a1:Int):Option ((List tV)×Int) :=
  Ab2 K a0 a1 (fun c0 c1 c2 c3 c4 d0 d1=>Uf K a0 a1 c0 c1 c2 c3 c4 K d0 d1)
def Ab4:Mdl:=⟨[(.ro,(.cons sI (.cons sL (.list 2 sI)))),(.ro,sI)],[(.list 33 sV),sI],fun x=>Ab3 K x.1 x.2.1⟩
def Alh (a0:Int×tL×List Int) (a1:Int) (lr:LR ((List tV)×Int)):Ex→Fr→Option ((List tV)×Int) :=
  Au (M3 K) 1 lr Ae7 [1,1,1,1,1,0,1,0] (fM (M3 K) Tryz.f13 (Ab4 K) (a0,a1,()))
def Ab5 (a0:Int×tL×List Int) (a1:Int) (lr:LR ((List tV)×Int)) (y1 y2:Bool) (y3:Int×tL×List Int) (y4:List tM) (y5:List tV) (bq9:Int) (bq10:List tM):Option ((List tV)×Int) :=
  lr (AH Ae7 [1,1,1,1,1,0,1,0,0]) (O6 a0 a1 y1 y2 y3 y4 y5 bq9 bq10) (Alh K a0 a1 lr)
def AfX (a0:Int×tL×List Int) (a1:Int) (lr:LR ((List tV)×Int)):Ex→Fr→Option ((List tV)×Int) :=
  Au (M3 K) 1 lr Ae7 [1,1,1,1,1,1,1,0,1,0] (fM (M3 K) Tryz.f13 (Ab4 K) (a0,a1,()))
def W4 (a0:Int×tL×List Int) (a1:Int) (lr:LR ((List tV)×Int)) (q9:Int) (q10:List tM) (y1 y2:Bool) (y3:Int×tL×List Int) (y4:List tM) (y5:List tV) (bq15:Int) (bq16:List tV):Option ((List tV)×Int) :=
  lr (AH Ae7 [1,1,1,1,1,1,1,0,1,0,0]) (Rr a0 a1 q9 q10 y1 y2 y3 y4 y5 bq15 bq16) (AfX K a0 a1 lr)
def Za:Env:=eE K [] [0,1,4,5,10,14,25]
def PS (K:Nat) (a0 a1:List Int) (L2:Int→Option Bool) (q3:Int):Option Bool :=
  (bif (decide (q3<(a0.length:Int))) then (bif (decide (0≤q3)&&decide (q3<(a0.length:Int))) then (bif (decide (0≤q3)&&decide (q3<(a1.length:Int))) then (bif ((a0.getD ((0:Int)+q3).toNat (0:Int)) != (a1.getD ((0:Int)+q3).toNat (0:Int))) then some false else L2 (w (q3+(1:Int)))) else none) else none) else some true)
def Ug (a0 a1:List Int) (n:Nat) (q3:Int):Option Bool :=
  AJ (X:=Int) (fun L x=>PS K a0 a1 (fun v0=>L v0) x) n q3
def Ab6 (K:Nat) (a0 a1:List Int) (I2:Int→Option Bool):Option Bool :=
  (bif ((a0.length:Int) != (a1.length:Int)) then some false else I2 (0:Int))
def Ab7 (a0 a1:List Int):Option Bool :=
  Ab6 K a0 a1 (fun d0=>Ug K a0 a1 K d0)
def AfY:Mdl:=⟨[(.ro,(.list 2 sI)),(.ro,(.list 2 sI))],[.bool],fun x=>Ab7 K x.1 x.2.1⟩
def Ali (a0 a1:List Int) (lr:LR Bool):Ex→Fr→Option Bool :=
  Au (Za K) 2 lr Ani [1,1,0,1,0] (fM (Za K) Tryz.f50 (AfY K) (a0,a1,()))
def Ab8 (a0 a1:List Int) (lr:LR Bool) (bq3:Int):Option Bool :=
  lr (AH Ani [1,1,0,1,0,0]) (VO a0 a1 bq3) (Ali K a0 a1 lr)
def ApP:Env:=eE K [(50,AfY K)] [0,1,2,3,4]
def AfZ (a0 a1:Int×tL×List Int):Option Bool :=
  ((bif (bif (a0.1==a1.1) then ((a0.2.1.1==a1.2.1.1)&&((a0.2.1.2.1==a1.2.1.2.1)&&(a0.2.1.2.2==a1.2.1.2.2))) else false) then Ab7 K a0.2.2 a1.2.2 else some false)).bind fun y1=>some (bif (bif (a0.1==a1.1) then ((a0.2.1.1==a1.2.1.1)&&((a0.2.1.2.1==a1.2.1.2.1)&&(a0.2.1.2.2==a1.2.1.2.2))) else false) then y1 else false)
def Aoe:Mdl:=⟨[(.ro,(.cons sI (.cons sL (.list 2 sI)))),(.ro,(.cons sI (.cons sL (.list 2 sI))))],[.bool],fun x=>AfZ K x.1 x.2.1⟩
def Zb:Env:=eE K [] [0,1,4,5,10,14,25]
def PT (K:Nat) (a0 a1:List tV) (L2:Int→Option Bool) (q3:Int):Option Bool :=
  (bif (decide (q3<(a0.length:Int))) then (bif (decide (0≤q3)&&decide (q3<(a0.length:Int))) then (bif (decide (0≤q3)&&decide (q3<(a1.length:Int))) then (bif (!(((a0.getD ((0:Int)+q3).toNat ((0:Int),(0:Int))).1==(a1.getD ((0:Int)+q3).toNat ((0:Int),(0:Int))).1)&&((a0.getD ((0:Int)+q3).toNat ((0:Int),(0:Int))).2==(a1.getD ((0:Int)+q3).toNat ((0:Int),(0:Int))).2))) then some false else L2 (w (q3+(1:Int)))) else none) else none) else some true)
def Uh (a0 a1:List tV) (n:Nat) (q3:Int):Option Bool :=
  AJ (X:=Int) (fun L x=>PT K a0 a1 (fun v0=>L v0) x) n q3
def Ab9 (K:Nat) (a0 a1:List tV) (I2:Int→Option Bool):Option Bool :=
  (bif ((a0.length:Int) != (a1.length:Int)) then some false else I2 (0:Int))
def Aca (a0 a1:List tV):Option Bool :=
  Ab9 K a0 a1 (fun d0=>Uh K a0 a1 K d0)
def Af0:Mdl:=⟨[(.ro,(.list 33 sV)),(.ro,(.list 33 sV))],[.bool],fun x=>Aca K x.1 x.2.1⟩
def Alj (a0 a1:List tV) (lr:LR Bool):Ex→Fr→Option Bool :=
  Au (Zb K) 2 lr Anj [1,1,0,1,0] (fM (Zb K) Tryz.f15 (Af0 K) (a0,a1,()))
def Acb (a0 a1:List tV) (lr:LR Bool) (bq3:Int):Option Bool :=
  lr (AH Anj [1,1,0,1,0,0]) (VP a0 a1 bq3) (Alj K a0 a1 lr)
def NO:Env:=eE K [] [0,1,4,5,10,12,13,14,24]
def KA (K:Nat) (a0 a1:List Int) (L2:Int→Option Bool) (q3:Int):Option Bool :=
  (bif (decide (q3<(a0.length:Int))) then (bif (decide (0≤q3)&&decide (q3<(a0.length:Int))) then (bif (decide (0≤q3)&&decide (q3<(a1.length:Int))) then (bif ((a0.getD ((0:Int)+q3).toNat (0:Int)) != (a1.getD ((0:Int)+q3).toNat (0:Int))) then some false else L2 (w (q3+(1:Int)))) else none) else none) else some true)
def PU (a0 a1:List Int) (n:Nat) (q3:Int):Option Bool :=
  AJ (X:=Int) (fun L x=>KA K a0 a1 (fun v0=>L v0) x) n q3
def Ui (K:Nat) (a0 a1:List Int) (I2:Int→Option Bool):Option Bool :=
  (bif ((a0.length:Int) != (a1.length:Int)) then some false else I2 (0:Int))
def R0 (a0 a1:List Int):Option Bool :=
  Ui K a0 a1 (fun d0=>PU K a0 a1 K d0)
def W5:Mdl:=⟨[(.ro,(.list 2 sI)),(.ro,(.list 2 sI))],[.bool],fun x=>R0 K x.1 x.2.1⟩
def Af1 (a0 a1:List Int) (lr:LR Bool):Ex→Fr→Option Bool :=
  Au (NO K) 2 lr Ajt [1,1,0,1,0] (fM (NO K) Tryz.f105 (W5 K) (a0,a1,()))
def W6 (a0 a1:List Int) (lr:LR Bool) (bq3:Int):Option Bool :=
  lr (AH Ajt [1,1,0,1,0,0]) (Rs a0 a1 bq3) (Af1 K a0 a1 lr)
def ApQ:Env:=eE K [(105,W5 K)] [0,1,2,3,4]
def Af2 (a0 a1:Int×tL×List Int):Option Bool :=
  ((bif (bif (a0.1==a1.1) then ((a0.2.1.1==a1.2.1.1)&&((a0.2.1.2.1==a1.2.1.2.1)&&(a0.2.1.2.2==a1.2.1.2.2))) else false) then R0 K a0.2.2 a1.2.2 else some false)).bind fun y1=>some (bif (bif (a0.1==a1.1) then ((a0.2.1.1==a1.2.1.1)&&((a0.2.1.2.1==a1.2.1.2.1)&&(a0.2.1.2.2==a1.2.1.2.2))) else false) then y1 else false)
def Aof:Mdl:=⟨[(.ro,(.cons sI (.cons sL (.list 2 sI)))),(.ro,(.cons sI (.cons sL (.list 2 sI))))],[.bool],fun x=>Af2 K x.1 x.2.1⟩
def ApR:Env:=eE K [(32,TU K),(33,T0 K),(51,Aof K)] [0,1,2,3,4,5,13]
def Af3 (a0 a1:Int×tL×List Int):Option (Bool×Int) :=
  (M0 K a0).bind fun y1=>((bif (!(!y1)) then M0 K a1 else some false)).bind fun y2=>(bif (bif (!y1) then true else (!y2)) then some (false,(1:Int)) else (M2 K a0).bind fun y3=>(M2 K a1).bind fun y4=>(Af2 K y3 y4).bind fun y5=>some (y5,(0:Int)))
def Aog:Mdl:=⟨[(.ro,(.cons sI (.cons sL (.list 2 sI)))),(.ro,(.cons sI (.cons sL (.list 2 sI))))],[.bool,sI],fun x=>Af3 K x.1 x.2.1⟩
def NP:Env:=eE K [(46,RV K),(47,AfR K)] [0,2,3,5,6,7,8,9,15]
def KB (a0:List tM) (L4:Int→Int→Option Int) (q5 q6:Int):Option Int :=
  (bif (decide (q6<(a0.length:Int))) then (bif (decide (0≤q6)&&decide (q6<(a0.length:Int))) then (ED K (((a0.getD ((0:Int)+q6).toNat zM).1).1,(((a0.getD ((0:Int)+q6).toNat zM).1).2).1,((((a0.getD ((0:Int)+q6).toNat zM).1).2).2))).bind fun y7=>(bif (y7==(1:Int)) then (PO K (((a0.getD ((0:Int)+q6).toNat zM).1).1,(((a0.getD ((0:Int)+q6).toNat zM).1).2).1,((((a0.getD ((0:Int)+q6).toNat zM).1).2).2))).bind fun y8=>L4 (if y8>q5 then y8 else q5) (w (q6+(1:Int))) else L4 q5 (w (q6+(1:Int)))) else none) else some q5)
def PV (a0:List tM) (n:Nat) (q5 q6:Int):Option Int :=
  AJ (X:=Int×Int) (fun L x=>KB K a0 (fun v0 v1=>L (v0,v1)) x.1 x.2) n (q5,q6)
def Uj (K:Nat) (a0:List tM) (I4:Int→Int→Option Int):Option Int :=
  I4 (1:Int) (0:Int)
def R1 (a0:List tM):Option Int :=
  Uj K a0 (fun d0 d1=>PV K a0 K d0 d1)
def W7:Mdl:=⟨[(.ro,(.list 64 sM))],[sI],fun x=>R1 K x.1⟩
def Af4 (a0:List tM) (lr:LR Int):Ex→Fr→Option Int :=
  Au (NP K) 1 lr Aju [1,1,0,1,0] (fM (NP K) Tryz.f123 (W7 K) (a0,()))
def W8 (a0:List tM) (lr:LR Int) (bq5 bq6:Int):Option Int :=
  lr (AH Aju [1,1,0,1,0,0]) (Rt a0 bq5 bq6) (Af4 K a0 lr)
def Aoh:Env:=eE K [(106,Lj K)] [0,2]
def Lr (a0:Int):Option Bool :=
  (EC K a0 (-1000:Int) (1000:Int)).bind fun y1=>some y1
def Acc:Mdl:=⟨[(.ro,sI)],[.bool],fun x=>Lr K x.1⟩
def Aoi:Env:=eE K [(231,Acc K)] [0,1,2]
def AjY (a0:Int×Int×Int×Int):Option Bool :=
  (Lr K a0.1).bind fun y1=>((bif y1 then Lr K a0.2.1 else some false)).bind fun y2=>((bif (bif y1 then y2 else false) then Lr K a0.2.2.1 else some false)).bind fun y3=>((bif (bif (bif y1 then y2 else false) then y3 else false) then Lr K a0.2.2.2 else some false)).bind fun y4=>some (bif (bif (bif y1 then y2 else false) then y3 else false) then y4 else false)
def AjZ:Mdl:=⟨[(.ro,sA)],[.bool],fun x=>AjY K x.1⟩
def Aoj:Env:=eE K [(46,RV K),(281,AjZ K)] [0,1,2]
def Aj0 (a0:Int×Int×Int×Int):Option Bool :=
  (AjY K a0).bind fun y1=>((bif y1 then ED K a0 else some (0:Int))).bind fun y2=>((bif (y1&&(!(y2==(1:Int)))) then ED K a0 else some (0:Int))).bind fun y3=>some (bif y1 then (bif (y2==(1:Int)) then true else (y3==(-1:Int))) else false)
def Aj1:Mdl:=⟨[(.ro,sA)],[.bool],fun x=>Aj0 K x.1⟩
def Aok:Env:=eE K [(46,RV K),(47,AfR K)] [0,1,2]
def R2 (a0:Int×Int×Int×Int):Option Bool :=
  (ED K a0).bind fun y1=>((bif (y1==(-1:Int)) then PO K a0 else some (0:Int))).bind fun y2=>some (bif (y1==(-1:Int)) then (y2==(2:Int)) else false)
def Acd:Mdl:=⟨[(.ro,sA)],[.bool],fun x=>R2 K x.1⟩
def NQ:Env:=eE K [] [0,1,4,5,7,8,9,19,28]
def Af5 (K:Nat) (a0 a1:List Int) (L2:Int→Option Int) (q3:Int):Option Int :=
  (bif (decide (q3<(a0.length:Int))) then (bif (decide (0≤q3)&&decide (q3<(a0.length:Int))) then (bif (decide (0≤q3)&&decide (q3<(a1.length:Int))) then (bif ((a0.getD ((0:Int)+q3).toNat (0:Int)) != (a1.getD ((0:Int)+q3).toNat (0:Int))) then (bif (decide (0≤q3)&&decide (q3<(a0.length:Int))) then (bif (decide (0≤q3)&&decide (q3<(a1.length:Int))) then (bif (decide ((a0.getD ((0:Int)+q3).toNat (0:Int))<(a1.getD ((0:Int)+q3).toNat (0:Int)))) then some (-1:Int) else some (1:Int)) else none) else none) else L2 (w (q3+(1:Int)))) else none) else none) else some (0:Int))
def W9 (a0 a1:List Int) (n:Nat) (q3:Int):Option Int :=
  AJ (X:=Int) (fun L x=>Af5 K a0 a1 (fun v0=>L v0) x) n q3
def Ace (K:Nat) (a0 a1:List Int) (I2:Int→Option Int):Option Int :=
  I2 (0:Int)
def Acf (a0 a1:List Int):Option Int :=
  Ace K a0 a1 (fun d0=>W9 K a0 a1 K d0)
def Xa:Mdl:=⟨[(.ro,(.list 2 sI)),(.ro,(.list 2 sI))],[sI],fun x=>Acf K x.1 x.2.1⟩
def Af6 (a0 a1:List Int) (lr:LR Int):Ex→Fr→Option Int :=
  Au (NQ K) 2 lr Ajv [1,0,1,0] (fM (NQ K) Tryz.f196 (Xa K) (a0,a1,()))
def Xb (a0 a1:List Int) (lr:LR Int) (bq3:Int):Option Int :=
  lr (AH Ajv [1,0,1,0,0]) (Ru a0 a1 bq3) (Af6 K a0 a1 lr)
def Aol:Env:=eE K [(196,Xa K)] [0,1,2,3,4]
def Acg (a0 a1:Int×Int):Option Int :=
  (Acf K [a0.1,a0.2] [a1.1,a1.2]).bind fun y1=>some y1
def Aj2:Mdl:=⟨[(.ro,sV),(.ro,sV)],[sI],fun x=>Acg K x.1 x.2.1⟩
def Aom:Env:=eE K [(231,Acc K)] [0,1,2]
def Aj3 (a0:Int×Int):Option Bool :=
  (Lr K a0.1).bind fun y1=>((bif y1 then Lr K a0.2 else some false)).bind fun y2=>some (bif y1 then y2 else false)
def Aj4:Mdl:=⟨[(.ro,sV)],[.bool],fun x=>Aj3 K x.1⟩
def Aon:Env:=eE K [(153,Aj4 K)] [0,1,2,3,6]
def R3 (a0:Int×Int):Option (tV×Int) :=
  (Aj3 K a0).bind fun y1=>(bif (!y1) then some (((0:Int),(0:Int)),(3:Int)) else some (a0,(0:Int)))
def Aj5:Mdl:=⟨[(.ro,sV)],[sV,sI],fun x=>R3 K x.1⟩
def Aoo:Env:=eE K [(113,Aj2 K),(128,RU K),(166,NF K),(206,Acd K),(257,Aj1 K),(258,Aj5 K)] [0,1,2,3,4,5,8,12,22,46]
def Aj6 (a0:Int×Int×Int×Int):Option (tV×Int) :=
  (Aj0 K a0).bind fun y1=>(bif (!y1) then some (((0:Int),(0:Int)),(1:Int)) else (R2 K a0).bind fun y2=>(bif (!y2) then some (((0:Int),(0:Int)),(5:Int)) else (bif ((a0.2.1==(0:Int))&&((w ((1:Int)-a0.1))==(0:Int))) then (Ic K (w ((1:Int)-a0.2.2.2)) a0.2.2.1).bind fun y3=>(bif (y3 != 0) then (bif (y3 != 0) then (Acg K ((w ((w ((1:Int)-a0.2.2.2)).tdiv y3)),(w (a0.2.2.1.tdiv y3))) ((0:Int),(0:Int))).bind fun y4=>(bif (decide (y4<(0:Int))) then (Fo K ((w ((w ((1:Int)-a0.2.2.2)).tdiv y3)),(w (a0.2.2.1.tdiv y3))) (-1:Int)).bind fun y5=>(R3 K y5).bind fun y6=>some y6 else (R3 K ((w ((w ((1:Int)-a0.2.2.2)).tdiv y3)),(w (a0.2.2.1.tdiv y3)))).bind fun y7=>some y7) else none) else none) else (Ic K a0.2.1 (w ((1:Int)-a0.1))).bind fun y8=>(bif (y8 != 0) then (bif (y8 != 0) then (Acg K ((w (a0.2.1.tdiv y8)),(w ((w ((1:Int)-a0.1)).tdiv y8))) ((0:Int),(0:Int))).bind fun y9=>(bif (decide (y9<(0:Int))) then (Fo K ((w (a0.2.1.tdiv y8)),(w ((w ((1:Int)-a0.1)).tdiv y8))) (-1:Int)).bind fun y10=>(R3 K y10).bind fun y11=>some y11 else (R3 K ((w (a0.2.1.tdiv y8)),(w ((w ((1:Int)-a0.1)).tdiv y8)))).bind fun y12=>some y12) else none) else none))))
def Aj7:Mdl:=⟨[(.ro,sA)],[sV,sI],fun x=>Aj6 K x.1⟩
def Aop:Env:=eE K [(202,Aj7 K)] [0,1,2,3]
def FZ (a0:Int×Int×Int×Int):Option tV :=
  (Aj6 K a0).bind fun y1=>some y1.1
def Xc:Mdl:=⟨[(.ro,sA)],[sV],fun x=>FZ K x.1⟩
end
end Go.Proofs.YteheolldcpjkcaaGreatDoor.X
