/- Functions of the program as plain Lean functions, and that the program does what they say. Printed by gen.py. -/
import Derived.Test.YtkemdhpdfaejgaaGreatDoorQzXLoop
import Derived.Test.YtkemdhpdfaejgaaGreatDoorQzXLib
import Derived.Test.YtkemdhpdfaejgaaGreatDoorQzXStr
import Derived.Test.YtkemdhpdfaejgaaGreatDoorProg
namespace Go.Proofs.YtkemdhpdfaejgaaGreatDoor.X
open Go
set_option maxRecDepth 100000
attribute [local instance] cwD
set_option linter.unusedVariables false
abbrev tM:Type:=((Int×Int×Int×Int)×Int×Int)
abbrev tA:Type:=(Int×Int×Int×Int)
abbrev tL:Type:=(Int×Int×Int)
abbrev tV:Type:=(Int×Int)
abbrev sM:Sh:=(.cons (.cons (.int .i64) (.cons (.int .i64) (.cons (.int .i64) (.int .i64)))) (.cons (.int .i64) (.int .i64)))
abbrev sA:Sh:=(.cons (.int .i64) (.cons (.int .i64) (.cons (.int .i64) (.int .i64))))
abbrev sL:Sh:=(.cons (.int .i64) (.cons (.int .i64) (.int .i64)))
abbrev sV:Sh:=(.cons (.int .i64) (.int .i64))
abbrev sI:Sh:=(.int .i64)
abbrev zM:tM:=(((0:Int),((0:Int),((0:Int),(0:Int)))),((0:Int),(0:Int)))
abbrev zA:tA:=((0:Int),((0:Int),((0:Int),(0:Int))))
noncomputable section
def tys:List (Nat×Ty):=[(2,.sc sI),(3,.sc sI),(4,.sc .bool),(5,.sc (.int .u8)),(9,.sc .str),(22,.sl 5 (.int .u8) 1),(26,.st sL [(0,1),(1,1),(2,1)]),(27,.sl 2 sI 8),(29,.st (.cons sI (.cons sL (.list 2 sI))) [(0,1),(1,3),(4,1)]),(32,.sl 78 sM 48),(50,.sl 61 (.cons sV sI) 24),(52,.st (.cons sI (.cons sL (.cons sI (.cons (.list 78 sM) (.list 61 (.cons sV sI)))))) [(0,1),(1,3),(4,1),(5,1),(6,1)]),(59,.st sV [(0,1),(1,1)]),(61,.st (.cons sV sI) [(0,2),(2,1)]),(64,.st (.cons sI (.cons sI (.cons sL (.cons (.list 78 sM) (.list 61 (.cons sV sI)))))) [(0,1),(1,1),(2,3),(5,1),(6,1)]),(69,.sl 59 sV 16),(76,.st sA [(0,1),(1,1),(2,1),(3,1)]),(78,.st sM [(0,4),(4,2)]),(84,.sl 9 .str 16),(87,.st (.cons (.list 5 (.int .u8)) sV) [(0,1),(1,1),(2,1)]),(99,.sl 69 (.list 59 sV) 24),(129,.sl 76 sA 32),(167,.sl 32 (.list 78 sM) 24),(200,.sc (.int .u64))]
def eqs:List (Nat×List Sh):=[(26,[sI,sI,sI]),(59,[sI,sI]),(76,[sI,sI,sI,sI]),(78,[sI,sI,sI,sI,sI,sI])]
def mts:List (Nat×MTy):=[(155,⟨78,4,sM,.bool⟩)]
theorem SU:And Tryz.prog tys eqs mts=true:=by kernel_rfl
theorem JE:Tryz.prog.follows .mixedOrders=true:=by kernel_rfl
def eE (K:Nat) (l:List (Nat×Mdl)) (k:List Nat):Env:=⟨l,tys,eqs,mts,K,k,[],[],[],[],[],[],false⟩
abbrev rM (E:Env) (f:Func) (m:Mdl) (x:AT m.ps):=ST E f m.ps m.rs x
abbrev fM (E:Env) (f:Func) (m:Mdl) (x:AT m.ps):=Azv E f m.ps m.rs x
theorem Ae {X R:Type} {E:Env} {n0:Nat} {S:Code} {fr0:Fr} {k:Ex→Fr→Option R} (frame:X→Fr) {body:(X→Option R)→X→Option R} (h:∀ (L:Fr→Option R) x,D4 E n0 (Ac E n0) S (frame x) (D3 n0 fr0 L k)=body (fun x=>L (frame x)) x) (n:Nat) (x:X):Hj (D9 E n0 S) n0 fr0 n (frame x) k=Ax body n x :=
  PO (fun L x=>(EQ E n0 S _ _).trans (h L x)) n x
def jI (n:Int):Lf:=.int .i64 n
def jV (v:Int×Int):List Lf:=[jI v.1,jI v.2]
def jL (l:Int×Int×Int):List Lf:=[jI l.1,jI l.2.1,jI l.2.2]
def jA (m:Int×Int×Int×Int):List Lf:=[jI m.1,jI m.2.1,jI m.2.2.1,jI m.2.2.2]
def jM (m:tA×Int×Int):List Lf:=[jI m.1.1,jI m.1.2.1,jI m.1.2.2.1,jI m.1.2.2.2,jI m.2.1,jI m.2.2]
def Aw2:Code:=Aj Tryz.f19
def Aa8 (a0:List Int) (q3 q4:Int):Fr:=⟨34,[(0,.v false [.row 0]),(2,.v false [.und]),(3,.v false [.box 0 0]),(4,.v false [jI q3])],[some ⟨true,[.row 0,jI (0:Int),jI q4]⟩],[some ⟨5,(.int .u8),a0,.ro⟩]⟩
def Asp:Code:=Aj Tryz.f138
def Vi (a0 q4:Int) (q5:List tA):Fr:=⟨34,[(0,.v false [jI a0]),(2,.v false [.row 0]),(3,.v false [.row 1]),(4,.v false [jI q4])],[],[some ⟨76,sA,[],.own⟩,some ⟨76,sA,q5,.own⟩]⟩
def Aa9:Code:=Aj Tryz.f134
def QB (a0:List tV) (q11 q12 q16 q17 q18 q19:Int):Fr:=⟨74,[(0,.v false [.row 0]),(2,.v false [.box 0 0]),(3,.v false [.box 1 0]),(4,.v false [jI q11]),(5,.v false [jI q12]),(6,.v false [.box 2 0]),(13,.v false [.bool (decide (q12<(a0.length:Int)))])],[some ⟨true,[jI (0:Int),jI (0:Int),jI (0:Int)]⟩,some ⟨true,[jI q16,jI q17]⟩,some ⟨true,[jI q18,jI q19]⟩],[some ⟨59,sV,a0,.ro⟩]⟩
def FB (a0:List tV) (q11 q12 q13 q14:Int):Fr:=⟨74,[(0,.v false [.row 0]),(2,.v false [.box 0 0]),(3,.v false [.box 1 0]),(4,.v false [jI q11]),(5,.v false [jI q12])],[some ⟨true,[jI (0:Int),jI (0:Int),jI (0:Int)]⟩,some ⟨true,[jI q13,jI q14]⟩],[some ⟨59,sV,a0,.ro⟩]⟩
def Aw3:Code:=Aj Tryz.f84
def Aba (a0:Int) (a1:Int×Int×Int) (y1:List tA) (q5:Int) (q6:List tA):Fr:=⟨33,[(0,.v false [jI a0]),(1,.v true (jL a1)),(3,.v false [.box 0 0]),(4,.v false [.row 0]),(5,.v false [.row 1]),(6,.v false [.row 2]),(7,.v false [jI q5])],[some ⟨true,(jL a1)⟩],[some ⟨76,sA,[],.own⟩,some ⟨76,sA,y1,.own⟩,some ⟨76,sA,q6,.own⟩]⟩
def Asq:Code:=Aj Tryz.f243
def Vj (a0 a1:List Int) (q3:Int):Fr:=⟨41,[(0,.v false [.row 0]),(1,.v false [.row 1]),(4,.v false [.bool false]),(5,.v false [jI q3])],[],[some ⟨2,sI,a0,.ro⟩,some ⟨2,sI,a1,.ro⟩]⟩
def Asr:Code:=Aj Tryz.f108
def Vk (a0:List tM) (a1:tA×Int×Int) (q7 q8:Int):Fr:=⟨27,[(0,.v false [.row 0]),(1,.v true (jM a1)),(3,.v false [.box 0 0]),(4,.v false [jI (0:Int)]),(5,.v false [jI q7]),(6,.v false [jI q8])],[some ⟨true,(jM a1)⟩],[some ⟨78,sM,a0,.ro⟩]⟩
def Anj:Code:=Aj Tryz.f23
def Vl (a0:Int×Int×Int) (a1:List tM) (q18:Int) (q20:List tM) (q22:Int) (q23 q24:List tM):Fr:=⟨49,[(0,.v true (jL a0)),(1,.v false [.row 0]),(2,.v false [.box 0 0]),(4,.v false [.row 1]),(5,.v false [.row 2]),(6,.v false [.row 3]),(7,.v false [jI q18]),(8,.v false [jI q22]),(17,.v false [.bool (decide (q18<(q20.length:Int)))])],[some ⟨true,(jL a0)⟩],[some ⟨78,sM,a1,.ro⟩,some ⟨78,sM,[],.own⟩,some ⟨78,sM,q23,.own⟩,some ⟨78,sM,q24,.own⟩]⟩
def Hk (a0:Int×Int×Int) (a1:List tM) (q18:Int) (q19 q20:List tM):Fr:=⟨49,[(0,.v true (jL a0)),(1,.v false [.row 0]),(2,.v false [.box 0 0]),(4,.v false [.row 1]),(5,.v false [.row 2]),(6,.v false [.row 3]),(7,.v false [jI q18])],[some ⟨true,(jL a0)⟩],[some ⟨78,sM,a1,.ro⟩,some ⟨78,sM,[],.own⟩,some ⟨78,sM,q19,.own⟩,some ⟨78,sM,q20,.own⟩]⟩
def Ank:Code:=Aj Tryz.f33
def Abb (a0:Int×Int×Int) (q7 q10:Int) (q11:List tV):Fr:=⟨26,[(0,.v true (jL a0)),(1,.v false [.box 0 0]),(2,.v false [.row 0]),(3,.v false [.row 1]),(4,.v false [jI q7]),(5,.v false [jI q10]),(10,.v false [.bool (decide (q7<a0.1))])],[some ⟨true,(jL a0)⟩],[some ⟨59,sV,[],.own⟩,some ⟨59,sV,q11,.own⟩]⟩
def JF (a0:Int×Int×Int) (q7:Int) (q8:List tV):Fr:=⟨26,[(0,.v true (jL a0)),(1,.v false [.box 0 0]),(2,.v false [.row 0]),(3,.v false [.row 1]),(4,.v false [jI q7])],[some ⟨true,(jL a0)⟩],[some ⟨59,sV,[],.own⟩,some ⟨59,sV,q8,.own⟩]⟩
def Ass:Code:=Aj Tryz.f159
def Vm (a0:List tV) (a1:Int×Int) (q4:Int):Fr:=⟨45,[(0,.v false [.row 0]),(1,.v true (jV a1)),(3,.v false [.box 0 0]),(4,.v false [.row 1]),(5,.v false [jI q4])],[some ⟨true,(jV a1)⟩],[some ⟨59,sV,a0,.own⟩,some ⟨59,sV,[],.own⟩]⟩
def Ast:Code:=Aj Tryz.f104
def Vn (a0:Int×Int×Int) (a1:List tM) (a2:Int×Int) (q5:Int) (q6:List tV):Fr:=⟨26,[(0,.v true (jL a0)),(1,.v false [.row 0]),(2,.v true (jV a2)),(3,.v false [.box 0 0]),(5,.v false [.box 1 0]),(6,.v false [.row 1]),(7,.v false [.row 2]),(8,.v false [jI q5])],[some ⟨true,(jL a0)⟩,some ⟨true,(jV a2)⟩],[some ⟨78,sM,a1,.ro⟩,some ⟨59,sV,[],.own⟩,some ⟨59,sV,q6,.own⟩]⟩
def Aw4:Code:=Aj Tryz.f51
def Abc (a0:Int×Int×Int) (a1:List tM) (y1:List tV) (q5:Int) (q6:List (List tV)):Fr:=⟨38,[(0,.v true (jL a0)),(1,.v false [.row 0]),(2,.v false [.box 0 0]),(4,.v false [.row 1]),(5,.v false [.row 2]),(6,.v false [.row 3]),(7,.v false [jI q5])],[some ⟨true,(jL a0)⟩],[some ⟨78,sM,a1,.ro⟩,some ⟨69,(.list 59 sV),[],.own⟩,some ⟨59,sV,y1,.own⟩,some ⟨69,(.list 59 sV),q6,.own⟩]⟩
def Anl:Code:=Aj Tryz.f22
def Vo (a0:Int×Int×Int) (a1:List tM) (q10:Int) (y1:List (List tV)) (q13:Int) (q14:List Int):Fr:=⟨46,[(0,.v true (jL a0)),(1,.v false [.row 0]),(2,.v false [.box 0 0]),(4,.v false [.row 1]),(5,.v false [.row 2]),(6,.v false [.row 3]),(7,.v false [jI q10]),(8,.v false [jI q13]),(21,.v false [.bool (decide (q10<(y1.length:Int)))])],[some ⟨true,(jL a0)⟩],[some ⟨78,sM,a1,.ro⟩,some ⟨2,sI,[],.own⟩,some ⟨2,sI,q14,.own⟩,some ⟨69,(.list 59 sV),y1,.own⟩]⟩
def JG (a0:Int×Int×Int) (a1:List tM) (y1:List (List tV)) (q10:Int) (q11:List Int):Fr:=⟨46,[(0,.v true (jL a0)),(1,.v false [.row 0]),(2,.v false [.box 0 0]),(4,.v false [.row 1]),(5,.v false [.row 2]),(6,.v false [.row 3]),(7,.v false [jI q10])],[some ⟨true,(jL a0)⟩],[some ⟨78,sM,a1,.ro⟩,some ⟨2,sI,[],.own⟩,some ⟨2,sI,q11,.own⟩,some ⟨69,(.list 59 sV),y1,.own⟩]⟩
def Qc:Code:=Aj Tryz.f60
def Vp (a0:(List Int)×Int×Int) (a1:Int) (a2:Int×Int×Int) (q9:Int) (q12:List tM) (q21 q22 q23:Int) (q24:List Int) (y1:Int) (y3:tV×Int) (y15:List tM) (y16:List Int) (y17:tV×Int) (q28:Int) (q29:List Int):Fr:=⟨88,[(0,.v false [.box 0 0]),(1,.v false [jI a1]),(2,.v true (jL a2)),(5,.v false [.box 1 0]),(6,.v false [.box 2 0]),(7,.v false [.box 3 0]),(8,.v false [.row 1]),(9,.v false [.row 2]),(10,.v false [jI q9]),(11,.v false [.row 3]),(12,.v false [.row 4]),(13,.v false [jI (w ((2:Int)+y17.2))]),(14,.v false [jI q21]),(15,.v false [jI q28]),(23,.v false [.bool (y1 != (0:Int))]),(29,.v false [.bool (decide (y3.2>(0:Int)))]),(35,.v false [.bool (decide (q9>(0:Int)))]),(60,.v false [.bool (decide (q21<(y16.length:Int)))])],[some ⟨true,[.row 0,jI q22,jI q23]⟩,some ⟨true,(jL a2)⟩,some ⟨true,[jI (0:Int),jI (0:Int),jI (0:Int),jI (0:Int),.row 5]⟩,some ⟨true,[jI a1,jI a2.1,jI a2.2.1,jI a2.2.2,.row 6]⟩],[some ⟨5,(.int .u8),a0.1,.ro⟩,some ⟨78,sM,y15,.own⟩,some ⟨78,sM,q12,.own⟩,some ⟨2,sI,y16,.own⟩,some ⟨2,sI,q24,.own⟩,some ⟨2,sI,[],.own⟩,some ⟨2,sI,q29,.own⟩]⟩
def NQ (a0:(List Int)×Int×Int) (a1:Int) (a2:Int×Int×Int) (q9:Int) (q12:List tM) (y1:Int) (y3:tV×Int) (y15:List tM) (y16:List Int) (y17:tV×Int) (q21 q22 q23:Int) (q24:List Int):Fr:=⟨88,[(0,.v false [.box 0 0]),(1,.v false [jI a1]),(2,.v true (jL a2)),(5,.v false [.box 1 0]),(6,.v false [.box 2 0]),(7,.v false [.box 3 0]),(8,.v false [.row 1]),(9,.v false [.row 2]),(10,.v false [jI q9]),(11,.v false [.row 3]),(12,.v false [.row 4]),(13,.v false [jI (w ((2:Int)+y17.2))]),(14,.v false [jI q21]),(23,.v false [.bool (y1 != (0:Int))]),(29,.v false [.bool (decide (y3.2>(0:Int)))]),(35,.v false [.bool (decide (q9>(0:Int)))])],[some ⟨true,[.row 0,jI q22,jI q23]⟩,some ⟨true,(jL a2)⟩,some ⟨true,[jI (0:Int),jI (0:Int),jI (0:Int),jI (0:Int),.row 5]⟩,some ⟨true,[jI a1,jI a2.1,jI a2.2.1,jI a2.2.2,.row 6]⟩],[some ⟨5,(.int .u8),a0.1,.ro⟩,some ⟨78,sM,y15,.own⟩,some ⟨78,sM,q12,.own⟩,some ⟨2,sI,y16,.own⟩,some ⟨2,sI,q24,.own⟩,some ⟨2,sI,[],.own⟩,some ⟨2,sI,[],.own⟩]⟩
def SV (a0:(List Int)×Int×Int) (a1:Int) (a2:Int×Int×Int) (y1:Int) (y2:tA×Int×Int) (y3:tV×Int) (q9 q10 q11:Int) (q12:List tM):Fr:=⟨88,[(0,.v false [.box 0 0]),(1,.v false [jI a1]),(2,.v true (jL a2)),(5,.v false [.box 1 0]),(6,.v false [.box 2 0]),(7,.v false [.box 3 0]),(8,.v false [.row 1]),(9,.v false [.row 2]),(10,.v false [jI q9]),(23,.v false [.bool (y1 != (0:Int))]),(29,.v false [.bool (decide (y3.2>(0:Int)))])],[some ⟨true,[.row 0,jI q10,jI q11]⟩,some ⟨true,(jL a2)⟩,some ⟨true,[jI (0:Int),jI (0:Int),jI (0:Int),jI (0:Int),.row 3]⟩,some ⟨true,[jI a1,jI a2.1,jI a2.2.1,jI a2.2.2,.row 4]⟩],[some ⟨5,(.int .u8),a0.1,.ro⟩,some ⟨78,sM,[y2],.own⟩,some ⟨78,sM,q12,.own⟩,some ⟨2,sI,[],.own⟩,some ⟨2,sI,[],.own⟩]⟩
def Vq (a0:(List Int)×Int×Int) (a1:Int) (a2:Int×Int×Int) (q39 q40 q41:Int) (q42 q43:List Int) (y1:Int) (y2:tA×Int×Int) (y3:tV×Int) (y30:List Int) (y31:tV×Int) (q47:Int) (q48:List Int):Fr:=⟨88,[(0,.v false [.box 0 0]),(1,.v false [jI a1]),(2,.v true (jL a2)),(5,.v false [.box 1 0]),(6,.v false [.box 2 0]),(7,.v false [.box 3 0]),(8,.v false [.row 1]),(11,.v false [.row 2]),(12,.v false [.row 3]),(13,.v false [jI (w ((2:Int)+y31.2))]),(14,.v false [jI q39]),(15,.v false [jI q47]),(23,.v false [.bool (y1 != (0:Int))]),(29,.v false [.bool (decide (y3.2>(0:Int)))]),(60,.v false [.bool (decide (q39<(y30.length:Int)))])],[some ⟨true,[.row 0,jI q40,jI q41]⟩,some ⟨true,(jL a2)⟩,some ⟨true,[jI (0:Int),jI (0:Int),jI (0:Int),jI (0:Int),.row 4]⟩,some ⟨true,[jI a1,jI a2.1,jI a2.2.1,jI a2.2.2,.row 5]⟩],[some ⟨5,(.int .u8),a0.1,.ro⟩,some ⟨78,sM,[y2],.own⟩,some ⟨2,sI,y30,.own⟩,some ⟨2,sI,q43,.own⟩,some ⟨2,sI,q42,.own⟩,some ⟨2,sI,q48,.own⟩]⟩
def NR (a0:(List Int)×Int×Int) (a1:Int) (a2:Int×Int×Int) (y1:Int) (y2:tA×Int×Int) (y3:tV×Int) (y30:List Int) (y31:tV×Int) (q39 q40 q41:Int) (q42 q43:List Int):Fr:=⟨88,[(0,.v false [.box 0 0]),(1,.v false [jI a1]),(2,.v true (jL a2)),(5,.v false [.box 1 0]),(6,.v false [.box 2 0]),(7,.v false [.box 3 0]),(8,.v false [.row 1]),(11,.v false [.row 2]),(12,.v false [.row 3]),(13,.v false [jI (w ((2:Int)+y31.2))]),(14,.v false [jI q39]),(23,.v false [.bool (y1 != (0:Int))]),(29,.v false [.bool (decide (y3.2>(0:Int)))])],[some ⟨true,[.row 0,jI q40,jI q41]⟩,some ⟨true,(jL a2)⟩,some ⟨true,[jI (0:Int),jI (0:Int),jI (0:Int),jI (0:Int),.row 4]⟩,some ⟨true,[jI a1,jI a2.1,jI a2.2.1,jI a2.2.2,.row 5]⟩],[some ⟨5,(.int .u8),a0.1,.ro⟩,some ⟨78,sM,[y2],.own⟩,some ⟨2,sI,y30,.own⟩,some ⟨2,sI,q43,.own⟩,some ⟨2,sI,q42,.own⟩,some ⟨2,sI,[],.own⟩]⟩
def Aw5:Code:=Aj Tryz.f71
def Abd (a0:List Int) (a1 a2 a3 q4:Int):Fr:=⟨28,[(0,.v false [.row 0]),(1,.v false [jI a1]),(2,.v false [jI a2]),(3,.v false [jI a3]),(8,.v false [.bool false]),(9,.v false [jI q4])],[],[some ⟨2,sI,a0,.ro⟩]⟩
def Asu:Code:=Aj Tryz.f132
def Vr (a0:Int×tL×List Int) (a1:tA×Int×Int) (y1:List tV) (q7:Int):Fr:=⟨31,[(0,.v true [jI a0.1,jI a0.2.1.1,jI a0.2.1.2.1,jI a0.2.1.2.2,.row 0]),(1,.v true (jM a1)),(2,.v false [.box 0 0]),(3,.v false [.box 1 0]),(4,.v false [.bool false]),(5,.v false [.row 1]),(6,.v false [jI q7])],[some ⟨true,[jI a0.1,jI a0.2.1.1,jI a0.2.1.2.1,jI a0.2.1.2.2,.row 0]⟩,some ⟨true,(jM a1)⟩],[some ⟨2,sI,a0.2.2,.ro⟩,some ⟨59,sV,y1,.own⟩]⟩
def Aw6:Code:=Aj Tryz.f80
def Abe (a0:Int×tL×List Int) (y1:List tV) (q7:Int) (q8:List tV):Fr:=⟨35,[(0,.v true [jI a0.1,jI a0.2.1.1,jI a0.2.1.2.1,jI a0.2.1.2.2,.row 0]),(1,.v false [.box 0 0]),(2,.v false [.box 1 0]),(3,.v false [.row 1]),(4,.v false [.row 2]),(5,.v false [jI q7])],[some ⟨true,[jI a0.1,jI a0.2.1.1,jI a0.2.1.2.1,jI a0.2.1.2.2,.row 0]⟩,some ⟨true,[jI (0:Int),jI (0:Int),jI (0:Int)]⟩],[some ⟨2,sI,a0.2.2,.ro⟩,some ⟨59,sV,y1,.own⟩,some ⟨59,sV,q8,.own⟩]⟩
def Aw7:Code:=Aj Tryz.f79
def Abf (a0:Int×tL×List Int) (a1:Int×Int×Int) (y1:List tV) (q5:Int) (q6:List Int):Fr:=⟨33,[(0,.v true [jI a0.1,jI a0.2.1.1,jI a0.2.1.2.1,jI a0.2.1.2.2,.row 0]),(1,.v true (jL a1)),(2,.v false [.box 0 0]),(3,.v false [.box 1 0]),(4,.v false [.box 2 0]),(5,.v false [.row 1]),(6,.v false [.box 3 0]),(7,.v false [jI q5])],[some ⟨true,[jI a0.1,jI a0.2.1.1,jI a0.2.1.2.1,jI a0.2.1.2.2,.row 0]⟩,some ⟨true,(jL a1)⟩,some ⟨true,[jI (0:Int),jI (0:Int),jI (0:Int),jI (0:Int),.row 2]⟩,some ⟨true,[jI a0.1,jI a1.1,jI a1.2.1,jI a1.2.2,.row 3]⟩],[some ⟨2,sI,a0.2.2,.ro⟩,some ⟨59,sV,y1,.own⟩,some ⟨2,sI,[],.own⟩,some ⟨2,sI,q6,.own⟩]⟩
def Anm:Code:=Aj Tryz.f77
def Vs (a0:Int×tL×List Int) (q11:Int) (y1:List tA) (y2:List tV) (q14:Int) (q15:List tM):Fr:=⟨47,[(0,.v true [jI a0.1,jI a0.2.1.1,jI a0.2.1.2.1,jI a0.2.1.2.2,.row 0]),(1,.v false [.box 0 0]),(2,.v false [.row 1]),(3,.v false [.row 2]),(4,.v false [.row 3]),(5,.v false [.row 4]),(6,.v false [jI q11]),(7,.v false [jI q14]),(21,.v false [.bool (decide (q11<(y1.length:Int)))])],[some ⟨true,[jI a0.1,jI a0.2.1.1,jI a0.2.1.2.1,jI a0.2.1.2.2,.row 0]⟩],[some ⟨2,sI,a0.2.2,.ro⟩,some ⟨78,sM,[],.own⟩,some ⟨76,sA,y1,.own⟩,some ⟨59,sV,y2,.own⟩,some ⟨78,sM,q15,.own⟩]⟩
def Hl (a0:Int×tL×List Int) (y1:List tA) (y2:List tV) (q11:Int) (q12:List tM):Fr:=⟨47,[(0,.v true [jI a0.1,jI a0.2.1.1,jI a0.2.1.2.1,jI a0.2.1.2.2,.row 0]),(1,.v false [.box 0 0]),(2,.v false [.row 1]),(3,.v false [.row 2]),(4,.v false [.row 3]),(5,.v false [.row 4]),(6,.v false [jI q11])],[some ⟨true,[jI a0.1,jI a0.2.1.1,jI a0.2.1.2.1,jI a0.2.1.2.2,.row 0]⟩],[some ⟨2,sI,a0.2.2,.ro⟩,some ⟨78,sM,[],.own⟩,some ⟨76,sA,y1,.own⟩,some ⟨59,sV,y2,.own⟩,some ⟨78,sM,q12,.own⟩]⟩
def Asv:Code:=Aj Tryz.f126
def Vt (a0:List Int) (a1 q4:ByteArray) (q5:Int):Fr:=⟨26,[(0,.v false [.row 0]),(1,.v false [.str a1]),(4,.v false [.str ByteArray.empty]),(5,.v false [.str q4]),(6,.v false [jI q5])],[],[some ⟨2,sI,a0,.ro⟩]⟩
def Asw:Code:=Aj Tryz.f179
def Vu (a0:Int×Int×Int×Int) (q7 q8 q9 q10 q11:Int):Fr:=⟨20,[(0,.v true (jA a0)),(1,.v false [.box 0 0]),(2,.v false [jI (0:Int)]),(3,.v false [.box 1 0]),(4,.v false [jI q7])],[some ⟨true,(jA a0)⟩,some ⟨true,[jI q8,jI q9,jI q10,jI q11]⟩],[]⟩
def Ann:Code:=Aj Tryz.f39
def Vv (a0:Int×tL×List Int) (q12:Int) (q13 q14:List tM) (y1:Bool) (y2:Int×tL×List Int) (y3:List tM) (y18:List (List tV)) (q23:ByteArray) (q24 q25:Int):Fr:=⟨99,[(0,.v true [jI a0.1,jI a0.2.1.1,jI a0.2.1.2.1,jI a0.2.1.2.2,.row 0]),(1,.v false [.box 0 0]),(2,.v false [.str ByteArray.empty]),(3,.v false [jI (0:Int)]),(4,.v false [.box 1 0]),(5,.v false [.row 1]),(6,.v false [.str q23]),(7,.v false [.row 2]),(8,.v false [.row 3]),(9,.v false [jI q12]),(10,.v false [.row 4]),(11,.v false [jI q24]),(12,.v false [jI q25]),(16,.v false [.bool (!y1)]),(29,.v false [.bool (decide (q12<(y3.length:Int)))])],[some ⟨true,[jI a0.1,jI a0.2.1.1,jI a0.2.1.2.1,jI a0.2.1.2.2,.row 0]⟩,some ⟨true,[jI y2.1,jI y2.2.1.1,jI y2.2.1.2.1,jI y2.2.1.2.2,.row 5]⟩],[some ⟨2,sI,a0.2.2,.ro⟩,some ⟨78,sM,y3,.own⟩,some ⟨78,sM,q13,.own⟩,some ⟨78,sM,q14,.own⟩,some ⟨69,(.list 59 sV),y18,.own⟩,some ⟨2,sI,y2.2.2,.own⟩]⟩
def NS (a0:Int×tL×List Int) (y1:Bool) (y2:Int×tL×List Int) (y3:List tM) (q11:ByteArray) (q12:Int) (q13 q14:List tM):Fr:=⟨99,[(0,.v true [jI a0.1,jI a0.2.1.1,jI a0.2.1.2.1,jI a0.2.1.2.2,.row 0]),(1,.v false [.box 0 0]),(2,.v false [.str ByteArray.empty]),(3,.v false [jI (0:Int)]),(4,.v false [.box 1 0]),(5,.v false [.row 1]),(6,.v false [.str q11]),(7,.v false [.row 2]),(8,.v false [.row 3]),(9,.v false [jI q12]),(16,.v false [.bool (!y1)])],[some ⟨true,[jI a0.1,jI a0.2.1.1,jI a0.2.1.2.1,jI a0.2.1.2.2,.row 0]⟩,some ⟨true,[jI y2.1,jI y2.2.1.1,jI y2.2.1.2.1,jI y2.2.1.2.2,.row 4]⟩],[some ⟨2,sI,a0.2.2,.ro⟩,some ⟨78,sM,y3,.own⟩,some ⟨78,sM,q13,.own⟩,some ⟨78,sM,q14,.own⟩,some ⟨2,sI,y2.2.2,.own⟩]⟩
def Aw8:Code:=Aj Tryz.f14
def Abg (a0:Int×tL×List Int) (y1:Bool) (y2:List tV) (q7:ByteArray) (q8 q9:Int):Fr:=⟨45,[(0,.v true [jI a0.1,jI a0.2.1.1,jI a0.2.1.2.1,jI a0.2.1.2.2,.row 0]),(1,.v false [.box 0 0]),(2,.v false [.str ByteArray.empty]),(3,.v false [jI (0:Int)]),(4,.v false [.row 1]),(5,.v false [.str q7]),(6,.v false [jI q8]),(7,.v false [jI q9]),(10,.v false [.bool (!y1)])],[some ⟨true,[jI a0.1,jI a0.2.1.1,jI a0.2.1.2.1,jI a0.2.1.2.2,.row 0]⟩],[some ⟨2,sI,a0.2.2,.ro⟩,some ⟨59,sV,y2,.own⟩]⟩
def IH:Code:=Aj Tryz.f18
def Vw (a0:(List Int)×Int×Int) (q15 q28:Int) (y1:tV×Int×tL×List Int) (y2:ByteArray×Int) (y3 y5:tV×Int) (y6:Bool) (y7:Int×tL×List Int) (y35:tV×Int) (q39:ByteArray) (q40:Int):Fr:=⟨112,[(0,.v false [.box 0 0]),(2,.v false [.str ByteArray.empty]),(3,.v false [.box 1 0]),(4,.v false [.str q39]),(5,.v false [jI y2.2]),(6,.v false [.box 2 0]),(7,.v false [jI q15]),(8,.v false [jI q28]),(9,.v false [jI q40]),(23,.v false [.bool (bif (y2.2 != (0:Int)) then true else (y3.2==(0:Int)))]),(35,.v false [.bool (bif (y5.2==(0:Int)) then y6 else false)]),(43,.v false [.bool (decide (q15>(0:Int)))]),(60,.v false [.bool (decide (q28>(0:Int)))]),(76,.v false [jI y35.2]),(77,.v false [.bool (y35.2==(0:Int))]),(86,.v false [.bool (y35.2==(1:Int))])],[some ⟨true,[.row 0,jI y35.1.1,jI y35.1.2]⟩,some ⟨true,[jI y1.2.1,jI y1.2.2.1.1,jI y1.2.2.1.2.1,jI y1.2.2.1.2.2,.row 1]⟩,some ⟨true,[jI y7.1,jI y7.2.1.1,jI y7.2.1.2.1,jI y7.2.1.2.2,.row 2]⟩],[some ⟨5,(.int .u8),a0.1,.ro⟩,some ⟨2,sI,y1.2.2.2,.own⟩,some ⟨2,sI,y7.2.2,.own⟩]⟩
def NT (a0:(List Int)×Int×Int) (q15:Int) (y1:tV×Int×tL×List Int) (y2:ByteArray×Int) (y3 y5:tV×Int) (y6:Bool) (y7:Int×tL×List Int) (q27:ByteArray) (q28 q29 q30:Int):Fr:=⟨112,[(0,.v false [.box 0 0]),(2,.v false [.str ByteArray.empty]),(3,.v false [.box 1 0]),(4,.v false [.str q27]),(5,.v false [jI y2.2]),(6,.v false [.box 2 0]),(7,.v false [jI q15]),(8,.v false [jI q28]),(23,.v false [.bool (bif (y2.2 != (0:Int)) then true else (y3.2==(0:Int)))]),(35,.v false [.bool (bif (y5.2==(0:Int)) then y6 else false)]),(43,.v false [.bool (decide (q15>(0:Int)))])],[some ⟨true,[.row 0,jI q29,jI q30]⟩,some ⟨true,[jI y1.2.1,jI y1.2.2.1.1,jI y1.2.2.1.2.1,jI y1.2.2.1.2.2,.row 1]⟩,some ⟨true,[jI y7.1,jI y7.2.1.1,jI y7.2.1.2.1,jI y7.2.1.2.2,.row 2]⟩],[some ⟨5,(.int .u8),a0.1,.ro⟩,some ⟨2,sI,y1.2.2.2,.own⟩,some ⟨2,sI,y7.2.2,.own⟩]⟩
def NU (a0:(List Int)×Int×Int) (y1:tV×Int×tL×List Int) (y2:ByteArray×Int) (y3 y5:tV×Int) (y6:Bool) (y7:Int×tL×List Int) (q14:ByteArray) (q15 q16 q17:Int):Fr:=⟨112,[(0,.v false [.box 0 0]),(2,.v false [.str ByteArray.empty]),(3,.v false [.box 1 0]),(4,.v false [.str q14]),(5,.v false [jI y2.2]),(6,.v false [.box 2 0]),(7,.v false [jI q15]),(23,.v false [.bool (bif (y2.2 != (0:Int)) then true else (y3.2==(0:Int)))]),(35,.v false [.bool (bif (y5.2==(0:Int)) then y6 else false)])],[some ⟨true,[.row 0,jI q16,jI q17]⟩,some ⟨true,[jI y1.2.1,jI y1.2.2.1.1,jI y1.2.2.1.2.1,jI y1.2.2.1.2.2,.row 1]⟩,some ⟨true,[jI y7.1,jI y7.2.1.1,jI y7.2.1.2.1,jI y7.2.1.2.2,.row 2]⟩],[some ⟨5,(.int .u8),a0.1,.ro⟩,some ⟨2,sI,y1.2.2.2,.own⟩,some ⟨2,sI,y7.2.2,.own⟩]⟩
def Vx (a0:(List Int)×Int×Int) (y1:tV×Int×tL×List Int) (y2:ByteArray×Int) (y3 y5:tV×Int) (y6:Bool) (y48:tV×Int) (q51:ByteArray) (q52:Int):Fr:=⟨112,[(0,.v false [.box 0 0]),(2,.v false [.str ByteArray.empty]),(3,.v false [.box 1 0]),(4,.v false [.str q51]),(5,.v false [jI y2.2]),(9,.v false [jI q52]),(23,.v false [.bool (bif (y2.2 != (0:Int)) then true else (y3.2==(0:Int)))]),(35,.v false [.bool (bif (y5.2==(0:Int)) then y6 else false)]),(76,.v false [jI y48.2]),(77,.v false [.bool (y48.2==(0:Int))]),(86,.v false [.bool (y48.2==(1:Int))])],[some ⟨true,[.row 0,jI y48.1.1,jI y48.1.2]⟩,some ⟨true,[jI y1.2.1,jI y1.2.2.1.1,jI y1.2.2.1.2.1,jI y1.2.2.1.2.2,.row 1]⟩],[some ⟨5,(.int .u8),a0.1,.ro⟩,some ⟨2,sI,y1.2.2.2,.own⟩]⟩
def Vy (a0:(List Int)×Int×Int) (q67 q75:Int) (y1:tV×Int×tL×List Int) (y2:ByteArray×Int) (y3 y60:tV×Int) (y61:Bool) (y62:Int×tL×List Int) (y82:tV×Int) (q85:ByteArray) (q86:Int):Fr:=⟨112,[(0,.v false [.box 0 0]),(2,.v false [.str ByteArray.empty]),(3,.v false [.box 1 0]),(4,.v false [.str q85]),(5,.v false [jI y2.2]),(6,.v false [.box 2 0]),(7,.v false [jI q67]),(8,.v false [jI q75]),(9,.v false [jI q86]),(23,.v false [.bool (bif (y2.2 != (0:Int)) then true else (y3.2==(0:Int)))]),(35,.v false [.bool (bif (y60.2==(0:Int)) then y61 else false)]),(43,.v false [.bool (decide (q67>(0:Int)))]),(60,.v false [.bool (decide (q75>(0:Int)))]),(76,.v false [jI y82.2]),(77,.v false [.bool (y82.2==(0:Int))]),(86,.v false [.bool (y82.2==(1:Int))])],[some ⟨true,[.row 0,jI y82.1.1,jI y82.1.2]⟩,some ⟨true,[jI y1.2.1,jI y1.2.2.1.1,jI y1.2.2.1.2.1,jI y1.2.2.1.2.2,.row 1]⟩,some ⟨true,[jI y62.1,jI y62.2.1.1,jI y62.2.1.2.1,jI y62.2.1.2.2,.row 2]⟩],[some ⟨5,(.int .u8),a0.1,.ro⟩,some ⟨2,sI,y1.2.2.2,.own⟩,some ⟨2,sI,y62.2.2,.own⟩]⟩
def NV (a0:(List Int)×Int×Int) (q67:Int) (y1:tV×Int×tL×List Int) (y2:ByteArray×Int) (y3 y60:tV×Int) (y61:Bool) (y62:Int×tL×List Int) (q74:ByteArray) (q75 q76 q77:Int):Fr:=⟨112,[(0,.v false [.box 0 0]),(2,.v false [.str ByteArray.empty]),(3,.v false [.box 1 0]),(4,.v false [.str q74]),(5,.v false [jI y2.2]),(6,.v false [.box 2 0]),(7,.v false [jI q67]),(8,.v false [jI q75]),(23,.v false [.bool (bif (y2.2 != (0:Int)) then true else (y3.2==(0:Int)))]),(35,.v false [.bool (bif (y60.2==(0:Int)) then y61 else false)]),(43,.v false [.bool (decide (q67>(0:Int)))])],[some ⟨true,[.row 0,jI q76,jI q77]⟩,some ⟨true,[jI y1.2.1,jI y1.2.2.1.1,jI y1.2.2.1.2.1,jI y1.2.2.1.2.2,.row 1]⟩,some ⟨true,[jI y62.1,jI y62.2.1.1,jI y62.2.1.2.1,jI y62.2.1.2.2,.row 2]⟩],[some ⟨5,(.int .u8),a0.1,.ro⟩,some ⟨2,sI,y1.2.2.2,.own⟩,some ⟨2,sI,y62.2.2,.own⟩]⟩
def NW (a0:(List Int)×Int×Int) (y1:tV×Int×tL×List Int) (y2:ByteArray×Int) (y3 y60:tV×Int) (y61:Bool) (y62:Int×tL×List Int) (q66:ByteArray) (q67 q68 q69:Int):Fr:=⟨112,[(0,.v false [.box 0 0]),(2,.v false [.str ByteArray.empty]),(3,.v false [.box 1 0]),(4,.v false [.str q66]),(5,.v false [jI y2.2]),(6,.v false [.box 2 0]),(7,.v false [jI q67]),(23,.v false [.bool (bif (y2.2 != (0:Int)) then true else (y3.2==(0:Int)))]),(35,.v false [.bool (bif (y60.2==(0:Int)) then y61 else false)])],[some ⟨true,[.row 0,jI q68,jI q69]⟩,some ⟨true,[jI y1.2.1,jI y1.2.2.1.1,jI y1.2.2.1.2.1,jI y1.2.2.1.2.2,.row 1]⟩,some ⟨true,[jI y62.1,jI y62.2.1.1,jI y62.2.1.2.1,jI y62.2.1.2.2,.row 2]⟩],[some ⟨5,(.int .u8),a0.1,.ro⟩,some ⟨2,sI,y1.2.2.2,.own⟩,some ⟨2,sI,y62.2.2,.own⟩]⟩
def Vz (a0:(List Int)×Int×Int) (y1:tV×Int×tL×List Int) (y2:ByteArray×Int) (y3 y60:tV×Int) (y61:Bool) (y94:tV×Int) (q97:ByteArray) (q98:Int):Fr:=⟨112,[(0,.v false [.box 0 0]),(2,.v false [.str ByteArray.empty]),(3,.v false [.box 1 0]),(4,.v false [.str q97]),(5,.v false [jI y2.2]),(9,.v false [jI q98]),(23,.v false [.bool (bif (y2.2 != (0:Int)) then true else (y3.2==(0:Int)))]),(35,.v false [.bool (bif (y60.2==(0:Int)) then y61 else false)]),(76,.v false [jI y94.2]),(77,.v false [.bool (y94.2==(0:Int))]),(86,.v false [.bool (y94.2==(1:Int))])],[some ⟨true,[.row 0,jI y94.1.1,jI y94.1.2]⟩,some ⟨true,[jI y1.2.1,jI y1.2.2.1.1,jI y1.2.2.1.2.1,jI y1.2.2.1.2.2,.row 1]⟩],[some ⟨5,(.int .u8),a0.1,.ro⟩,some ⟨2,sI,y1.2.2.2,.own⟩]⟩
def Asx:Code:=Aj Tryz.f145
def VA (a0 a1:ByteArray) (a2:Int) (y1:List ByteArray) (q5:Int) (q6:List Int):Fr:=⟨41,[(0,.v false [.str a0]),(1,.v false [.str a1]),(2,.v false [jI a2]),(6,.v false [.row 0]),(7,.v false [.bool false]),(8,.v false [.row 1]),(9,.v false [.row 2]),(20,.v false [.bool ((y1.length:Int) != a2)]),(22,.v false [.row 1]),(23,.v false [jI (y1.length:Int)]),(24,.v false [jI q5])],[],[some ⟨2,sI,[],.own⟩,some ⟨9,.str,y1,.own⟩,some ⟨2,sI,q6,.own⟩]⟩
def Asy:Code:=Aj Tryz.f185
def VB (a0:ByteArray) (q3:Int) (q4:List Int):Fr:=⟨32,[(0,.v false [.str a0]),(2,.v false [.row 0]),(3,.v false [.bool false]),(4,.v false [.row 1]),(8,.v false [jI (a0.size:Int)]),(9,.v false [jI q3])],[],[some ⟨2,sI,[],.own⟩,some ⟨2,sI,q4,.own⟩]⟩
def Asz:Code:=Aj Tryz.f221
def VC (a0 q9:Int) (q10:List tA):Fr:=⟨61,[(0,.v false [jI a0]),(2,.v false [.row 0]),(3,.v false [.row 1]),(10,.v false [jI q9])],[],[some ⟨76,sA,[],.own⟩,some ⟨76,sA,q10,.own⟩]⟩
def AsA:Code:=Aj Tryz.f255
def VD (a0:List tA) (a1:(tA→Option Bool)) (q4:Int):Fr:=⟨19,[(0,.v false [.row 0]),(1,.v false [.fv1 sA .bool a1]),(4,.v false [jI (0:Int)]),(7,.v false [jI (a0.length:Int)]),(8,.v false [jI q4])],[],[some ⟨76,sA,a0,.ro⟩]⟩
def AsB:Code:=Aj Tryz.f220
def VE (a1:(tA→Option Bool)) (y1 q5 q6:Int) (q7:List tA):Fr:=⟨42,[(0,.v false [.row 0]),(1,.v false [.fv1 sA .bool a1]),(4,.v false [.row 1]),(5,.v false [jI q5]),(6,.v false [jI q6]),(12,.v false [.bool (y1==(-1:Int))])],[],[some ⟨76,sA,q7,.own⟩,some ⟨76,sA,[],.own⟩]⟩
def AsC:Code:=Aj Tryz.f224
def VF (a0:List tA) (a1:Int×Int×Int×Int) (q3:Int):Fr:=⟨19,[(0,.v false [.row 0]),(1,.v true (jA a1)),(3,.v false [.box 0 0]),(4,.v false [jI (0:Int)]),(7,.v false [jI (a0.length:Int)]),(8,.v false [jI q3])],[some ⟨true,(jA a1)⟩],[some ⟨76,sA,a0,.ro⟩]⟩
def AsD:Code:=Aj Tryz.f198
def VG (a0 a1:List Int) (q3:Int):Fr:=⟨30,[(0,.v false [.row 0]),(1,.v false [.row 1]),(4,.v false [jI (0:Int)]),(7,.v false [jI (a0.length:Int)]),(8,.v false [jI q3])],[],[some ⟨2,sI,a0,.ro⟩,some ⟨2,sI,a1,.ro⟩]⟩
def Ano:Code:=Aj Tryz.f58
def VH (a0:Int×Int×Int) (a1:List tM) (q13:Int) (q15:List tM) (q17:Int) (q18:List (tM×Bool)) (q19:List tM):Fr:=⟨53,[(0,.v true (jL a0)),(1,.v false [.row 0]),(2,.v false [.box 0 0]),(4,.v false [.row 1]),(5,.v false [.row 2]),(6,.v false [.mp 1]),(7,.v false [jI q13]),(22,.v false [.bool (decide (q13<(q15.length:Int)))]),(25,.v false [.row 0]),(26,.v false [jI (a1.length:Int)]),(27,.v false [jI q17])],[some ⟨true,(jL a0)⟩,some ⟨true,[.mc sM .bool q18]⟩],[some ⟨78,sM,a1,.ro⟩,some ⟨78,sM,[],.own⟩,some ⟨78,sM,q19,.own⟩]⟩
def Hm (a0:Int×Int×Int) (a1:List tM) (q13:Int) (q14:List (tM×Bool)) (q15:List tM):Fr:=⟨53,[(0,.v true (jL a0)),(1,.v false [.row 0]),(2,.v false [.box 0 0]),(4,.v false [.row 1]),(5,.v false [.row 2]),(6,.v false [.mp 1]),(7,.v false [jI q13])],[some ⟨true,(jL a0)⟩,some ⟨true,[.mc sM .bool q14]⟩],[some ⟨78,sM,a1,.ro⟩,some ⟨78,sM,[],.own⟩,some ⟨78,sM,q15,.own⟩]⟩
def QC:Code:=Aj Tryz.f130
def QD (a0:Int) (a1:Int×Int×Int) (a2:List tM) (q7:Int) (q8:List (tM×Bool)) (q22:Int) (y1:List tA) (y12:Int×Int×Int×Int) (q24:Int):Fr:=⟨84,[(0,.v false [jI a0]),(1,.v true (jL a1)),(2,.v false [.row 0]),(4,.v false [.box 0 0]),(6,.v false [.bool false]),(7,.v false [.row 1]),(8,.v false [.mp 1]),(12,.v false [.box 2 0]),(19,.v false [.row 0]),(20,.v false [jI (a2.length:Int)]),(21,.v false [jI q7]),(22,.v false [.bool (decide (q7<(a2.length:Int)))]),(61,.v false [.bool (!((B2 (A7 sM) q8 (y12,(0:Int),(0:Int))).getD false))]),(62,.v false [.row 0]),(63,.v false [jI (a2.length:Int)]),(64,.v false [jI q22]),(65,.v false [.bool (decide (q22<(a2.length:Int)))]),(68,.v false [.row 0]),(69,.v false [jI (a2.length:Int)]),(70,.v false [jI q24])],[some ⟨true,(jL a1)⟩,some ⟨true,[.mc sM .bool q8]⟩,some ⟨true,[jI (((a2.getD ((0:Int)+q22).toNat zM).1).1),jI ((((a2.getD ((0:Int)+q22).toNat zM).1).2).1),jI (((((a2.getD ((0:Int)+q22).toNat zM).1).2).2).1),jI (((((a2.getD ((0:Int)+q22).toNat zM).1).2).2).2),jI (((a2.getD ((0:Int)+q22).toNat zM).2).1),jI (((a2.getD ((0:Int)+q22).toNat zM).2).2)]⟩],[some ⟨78,sM,a2,.ro⟩,some ⟨76,sA,y1,.own⟩]⟩
def FC (a0:Int) (a1:Int×Int×Int) (a2:List tM) (q7:Int) (q8:List (tM×Bool)) (y1:List tA) (y12:Int×Int×Int×Int) (q22:Int):Fr:=⟨84,[(0,.v false [jI a0]),(1,.v true (jL a1)),(2,.v false [.row 0]),(4,.v false [.box 0 0]),(6,.v false [.bool false]),(7,.v false [.row 1]),(8,.v false [.mp 1]),(19,.v false [.row 0]),(20,.v false [jI (a2.length:Int)]),(21,.v false [jI q7]),(22,.v false [.bool (decide (q7<(a2.length:Int)))]),(61,.v false [.bool (!((B2 (A7 sM) q8 (y12,(0:Int),(0:Int))).getD false))]),(62,.v false [.row 0]),(63,.v false [jI (a2.length:Int)]),(64,.v false [jI q22])],[some ⟨true,(jL a1)⟩,some ⟨true,[.mc sM .bool q8]⟩],[some ⟨78,sM,a2,.ro⟩,some ⟨76,sA,y1,.own⟩]⟩
def NX (a0:Int) (a1:Int×Int×Int) (a2:List tM) (y1:List tA) (q7:Int) (q8:List (tM×Bool)):Fr:=⟨84,[(0,.v false [jI a0]),(1,.v true (jL a1)),(2,.v false [.row 0]),(4,.v false [.box 0 0]),(6,.v false [.bool false]),(7,.v false [.row 1]),(8,.v false [.mp 1]),(19,.v false [.row 0]),(20,.v false [jI (a2.length:Int)]),(21,.v false [jI q7])],[some ⟨true,(jL a1)⟩,some ⟨true,[.mc sM .bool q8]⟩],[some ⟨78,sM,a2,.ro⟩,some ⟨76,sA,y1,.own⟩]⟩
def Aw9:Code:=Aj Tryz.f75
def Abh (a0:Int) (a1:Int×Int×Int) (a2:List (List tM)) (y1 q5:Int):Fr:=⟨28,[(0,.v false [jI a0]),(1,.v true (jL a1)),(2,.v false [.row 0]),(4,.v false [.box 0 0]),(6,.v false [jI (0:Int)]),(7,.v false [jI y1]),(14,.v false [.bool (y1 != (0:Int))]),(16,.v false [.row 0]),(17,.v false [jI (a2.length:Int)]),(18,.v false [jI q5])],[some ⟨true,(jL a1)⟩],[some ⟨32,(.list 78 sM),a2,.ro⟩]⟩
def AsE:Code:=Aj Tryz.f233
def VI (a0:List (tV×Int)) (a1:((tV×Int)→Option Bool)) (q4:Int):Fr:=⟨19,[(0,.v false [.row 0]),(1,.v false [.fv1 (.cons sV sI) .bool a1]),(4,.v false [jI (0:Int)]),(7,.v false [jI (a0.length:Int)]),(8,.v false [jI q4])],[],[some ⟨61,(.cons sV sI),a0,.ro⟩]⟩
def AsF:Code:=Aj Tryz.f196
def VJ (a0:List Int) (a1:Int) (y1:Int×Int) (q4:Int) (q5:List Int):Fr:=⟨48,[(0,.v false [.row 0]),(1,.v false [jI a1]),(4,.v false [.row 1]),(5,.v false [.int .u64 y1.1]),(6,.v false [.int .u64 y1.2]),(7,.v false [.row 2]),(8,.v false [jI q4]),(10,.v false [.bool (decide (a1<(0:Int)))]),(26,.v false [.bool (bif (decide (y1.1>(0:Int))) then true else (decide (y1.2>(9223372036854775807:Int))))])],[],[some ⟨2,sI,a0,.ro⟩,some ⟨2,sI,[],.own⟩,some ⟨2,sI,q5,.own⟩]⟩
def Anp:Code:=Aj Tryz.f30
def Abi (a0:Int×Int×Int) (q7 q10:Int) (q11:List tV):Fr:=⟨26,[(0,.v true (jL a0)),(1,.v false [.box 0 0]),(2,.v false [.row 0]),(3,.v false [.row 1]),(4,.v false [jI q7]),(8,.v false [jI a0.1]),(9,.v false [jI q7]),(10,.v false [.bool (decide (q7<a0.1))]),(13,.v false [jI a0.2.2]),(14,.v false [jI q10])],[some ⟨true,(jL a0)⟩],[some ⟨59,sV,[],.own⟩,some ⟨59,sV,q11,.own⟩]⟩
def JH (a0:Int×Int×Int) (q7:Int) (q8:List tV):Fr:=⟨26,[(0,.v true (jL a0)),(1,.v false [.box 0 0]),(2,.v false [.row 0]),(3,.v false [.row 1]),(8,.v false [jI a0.1]),(9,.v false [jI q7])],[some ⟨true,(jL a0)⟩],[some ⟨59,sV,[],.own⟩,some ⟨59,sV,q8,.own⟩]⟩
def Abj:Code:=Aj Tryz.f154
def VK (a0:List tV) (q8 q10 q11:Int) (q12:List tV):Fr:=⟨61,[(0,.v false [.row 0]),(2,.v false [.row 1]),(3,.v false [jI q10]),(4,.v false [.view 0 ((0:Int)+q8) ((0:Int)+(a0.length:Int))]),(5,.v false [jI q11]),(8,.v false [.bool (decide ((a0.length:Int)<(2:Int)))]),(13,.v false [.bool (decide (q8<(a0.length:Int)))]),(25,.v false [.bool (((a0.getD ((0:Int)+q8).toNat ((0:Int),(0:Int))).1==(a0.getD ((0:Int)+(w (q8-(1:Int)))).toNat ((0:Int),(0:Int))).1)&&((a0.getD ((0:Int)+q8).toNat ((0:Int),(0:Int))).2==(a0.getD ((0:Int)+(w (q8-(1:Int)))).toNat ((0:Int),(0:Int))).2))])],[],[some ⟨59,sV,q12,.own⟩,some ⟨59,sV,[],.own⟩]⟩
def JI (a0:List tV) (q8:Int):Fr:=⟨61,[(0,.v false [.row 0]),(2,.v false [.row 1]),(3,.v false [jI q8]),(8,.v false [.bool (decide ((a0.length:Int)<(2:Int)))])],[],[some ⟨59,sV,a0,.own⟩,some ⟨59,sV,[],.own⟩]⟩
def Axa:Code:=Aj Tryz.f96
def Abk (a0:Int×Int×Int) (a1:List tM) (a2:Int×Int) (q4:Int) (q5:List tV):Fr:=⟨29,[(0,.v true (jL a0)),(1,.v false [.row 0]),(2,.v true (jV a2)),(3,.v false [.box 0 0]),(5,.v false [.box 1 0]),(6,.v false [.row 1]),(7,.v false [.row 2]),(11,.v false [.row 0]),(12,.v false [jI (a1.length:Int)]),(13,.v false [jI q4])],[some ⟨true,(jL a0)⟩,some ⟨true,(jV a2)⟩],[some ⟨78,sM,a1,.ro⟩,some ⟨59,sV,[],.own⟩,some ⟨59,sV,q5,.own⟩]⟩
def Abl:Code:=Aj Tryz.f149
def QE (a0:Int×Int×Int) (a1:List tM) (q17:Int) (q18:List (List tV)) (q19:List Int) (y3:List tV) (y20:Int) (y21:List tV) (q23:Int) (q24:List Int):Fr:=⟨57,[(0,.v true (jL a0)),(1,.v false [.row 0]),(2,.v false [.box 0 0]),(4,.v false [.row 1]),(5,.v false [.row 2]),(6,.v false [.row 3]),(7,.v false [.row 4]),(9,.v false [.box 1 0]),(10,.v false [.row 5]),(19,.v false [.row 6]),(20,.v false [jI (y3.length:Int)]),(21,.v false [jI q17]),(22,.v false [.bool (decide (q17<(y3.length:Int)))]),(31,.v false [.bool (decide ((q19.getD ((0:Int)+y20).toNat (0:Int))≥(0:Int)))]),(36,.v false [.row 5]),(37,.v false [jI (y21.length:Int)]),(38,.v false [jI q23])],[some ⟨true,(jL a0)⟩,some ⟨true,[jI ((y3.getD ((0:Int)+q17).toNat ((0:Int),(0:Int))).1),jI ((y3.getD ((0:Int)+q17).toNat ((0:Int),(0:Int))).2)]⟩],[some ⟨78,sM,a1,.ro⟩,some ⟨69,(.list 59 sV),[],.own⟩,some ⟨2,sI,[],.own⟩,some ⟨69,(.list 59 sV),q18,.own⟩,some ⟨2,sI,q24,.own⟩,some ⟨59,sV,y21,.own⟩,some ⟨59,sV,y3,.own⟩]⟩
def FD (a0:Int×Int×Int) (a1:List tM) (y3:List tV) (q17:Int) (q18:List (List tV)) (q19:List Int):Fr:=⟨57,[(0,.v true (jL a0)),(1,.v false [.row 0]),(2,.v false [.box 0 0]),(4,.v false [.row 1]),(5,.v false [.row 2]),(6,.v false [.row 3]),(7,.v false [.row 4]),(19,.v false [.row 5]),(20,.v false [jI (y3.length:Int)]),(21,.v false [jI q17])],[some ⟨true,(jL a0)⟩],[some ⟨78,sM,a1,.ro⟩,some ⟨69,(.list 59 sV),[],.own⟩,some ⟨2,sI,[],.own⟩,some ⟨69,(.list 59 sV),q18,.own⟩,some ⟨2,sI,q19,.own⟩,some ⟨59,sV,y3,.own⟩]⟩
def Anq:Code:=Aj Tryz.f94
def VL (a0:Int×Int×Int) (a1:List tM) (a2:List (tV×Int)) (q11:Int) (y1:(List (List tV))×List Int) (q13:Int):Fr:=⟨57,[(0,.v true (jL a0)),(1,.v false [.row 0]),(2,.v false [.row 1]),(3,.v false [.box 0 0]),(6,.v false [jI (0:Int)]),(7,.v false [jI (0:Int)]),(8,.v false [.bool false]),(10,.v false [.box 1 0]),(11,.v false [.fn 150 [1,0]]),(12,.v false [jI q11]),(13,.v false [.box 2 0]),(23,.v false [.row 1]),(24,.v false [jI (a2.length:Int)]),(25,.v false [jI q11]),(26,.v false [.bool (decide (q11<(a2.length:Int)))]),(32,.v false [.view 1 (0:Int) ((0:Int)+q11)]),(33,.v false [jI (((0:Int)+q11)-(0:Int))]),(34,.v false [jI q13])],[some ⟨true,(jL a0)⟩,some ⟨true,[.row 2]⟩,some ⟨true,[jI (((a2.getD ((0:Int)+q11).toNat (((0:Int),(0:Int)),(0:Int))).1).1),jI (((a2.getD ((0:Int)+q11).toNat (((0:Int),(0:Int)),(0:Int))).1).2),jI ((a2.getD ((0:Int)+q11).toNat (((0:Int),(0:Int)),(0:Int))).2)]⟩],[some ⟨78,sM,a1,.ro⟩,some ⟨61,(.cons sV sI),a2,.ro⟩,some ⟨2,sI,y1.2,.own⟩]⟩
def Hn (a0:Int×Int×Int) (a1:List tM) (a2:List (tV×Int)) (y1:(List (List tV))×List Int) (q11:Int):Fr:=⟨57,[(0,.v true (jL a0)),(1,.v false [.row 0]),(2,.v false [.row 1]),(3,.v false [.box 0 0]),(6,.v false [jI (0:Int)]),(7,.v false [jI (0:Int)]),(8,.v false [.bool false]),(10,.v false [.box 1 0]),(11,.v false [.fn 150 [1,0]]),(23,.v false [.row 1]),(24,.v false [jI (a2.length:Int)]),(25,.v false [jI q11])],[some ⟨true,(jL a0)⟩,some ⟨true,[.row 2]⟩],[some ⟨78,sM,a1,.ro⟩,some ⟨61,(.cons sV sI),a2,.ro⟩,some ⟨2,sI,y1.2,.own⟩]⟩
def Axb:Code:=Aj Tryz.f95
def Abm (a0:Int) (a1:Int×Int×Int) (a2:List tV) (a3 q5:Int) (q6:List Int):Fr:=⟨33,[(0,.v false [jI a0]),(1,.v true (jL a1)),(2,.v false [.row 0]),(3,.v false [jI a3]),(5,.v false [.box 0 0]),(8,.v false [.box 1 0]),(9,.v false [.box 2 0]),(18,.v false [.row 0]),(19,.v false [jI (a2.length:Int)]),(20,.v false [jI q5])],[some ⟨true,(jL a1)⟩,some ⟨true,[jI (0:Int),jI (0:Int),jI (0:Int),jI (0:Int),.row 1]⟩,some ⟨true,[jI a0,jI a1.1,jI a1.2.1,jI a1.2.2,.row 2]⟩],[some ⟨59,sV,a2,.ro⟩,some ⟨2,sI,[],.own⟩,some ⟨2,sI,q6,.own⟩]⟩
def Anr:Code:=Aj Tryz.f47
def VM (a0:Int) (a1:Int×Int×Int) (a2:List tM) (a3:List (tV×Int)) (a4 q16 y1:Int) (y2:Bool) (y3:Int×Int×Bool) (y5:Int×tL×List Int) (y19:List tV) (q21:Int) (q22:List Int):Fr:=⟨79,[(0,.v false [jI a0]),(1,.v true (jL a1)),(2,.v false [.row 0]),(3,.v false [.row 1]),(4,.v false [jI a4]),(6,.v false [.box 0 0]),(10,.v false [.box 1 0]),(11,.v false [jI (0:Int)]),(12,.v false [jI y1]),(15,.v false [.bool y3.2.2]),(16,.v false [.box 2 0]),(18,.v false [.box 3 0]),(27,.v false [.bool (y1 != (0:Int))]),(32,.v false [.bool (!y2)]),(42,.v false [.bool y3.2.2]),(50,.v false [.row 1]),(51,.v false [jI (a3.length:Int)]),(52,.v false [jI q16]),(53,.v false [.bool (decide (q16<(a3.length:Int)))]),(62,.v false [.row 2]),(63,.v false [jI (y19.length:Int)]),(64,.v false [jI q21])],[some ⟨true,(jL a1)⟩,some ⟨true,[jI (0:Int),jI (0:Int),jI (0:Int),jI (0:Int),.row 3]⟩,some ⟨true,[jI y5.1,jI y5.2.1.1,jI y5.2.1.2.1,jI y5.2.1.2.2,.row 4]⟩,some ⟨true,[jI (((a3.getD ((0:Int)+q16).toNat (((0:Int),(0:Int)),(0:Int))).1).1),jI (((a3.getD ((0:Int)+q16).toNat (((0:Int),(0:Int)),(0:Int))).1).2),jI ((a3.getD ((0:Int)+q16).toNat (((0:Int),(0:Int)),(0:Int))).2)]⟩],[some ⟨78,sM,a2,.ro⟩,some ⟨61,(.cons sV sI),a3,.ro⟩,some ⟨59,sV,y19,.own⟩,some ⟨2,sI,[],.own⟩,some ⟨2,sI,q22,.own⟩]⟩
def Ho (a0:Int) (a1:Int×Int×Int) (a2:List tM) (a3:List (tV×Int)) (a4 y1:Int) (y2:Bool) (y3:Int×Int×Bool) (y5:Int×tL×List Int) (q16:Int) (q17:List Int):Fr:=⟨79,[(0,.v false [jI a0]),(1,.v true (jL a1)),(2,.v false [.row 0]),(3,.v false [.row 1]),(4,.v false [jI a4]),(6,.v false [.box 0 0]),(10,.v false [.box 1 0]),(11,.v false [jI (0:Int)]),(12,.v false [jI y1]),(15,.v false [.bool y3.2.2]),(16,.v false [.box 2 0]),(27,.v false [.bool (y1 != (0:Int))]),(32,.v false [.bool (!y2)]),(42,.v false [.bool y3.2.2]),(50,.v false [.row 1]),(51,.v false [jI (a3.length:Int)]),(52,.v false [jI q16])],[some ⟨true,(jL a1)⟩,some ⟨true,[jI (0:Int),jI (0:Int),jI (0:Int),jI (0:Int),.row 2]⟩,some ⟨true,[jI y5.1,jI y5.2.1.1,jI y5.2.1.2.1,jI y5.2.1.2.2,.row 3]⟩],[some ⟨78,sM,a2,.ro⟩,some ⟨61,(.cons sV sI),a3,.ro⟩,some ⟨2,sI,[],.own⟩,some ⟨2,sI,q17,.own⟩]⟩
def Axc:Code:=Aj Tryz.f20
def Abn (a0:ByteArray) (y1:ByteArray×Bool) (y2:List ByteArray) (q6 q7 q8 q9 q10 q11:Int) (q12:List tM) (q13:List (tV×Int)):Fr:=⟨82,[(0,.v false [.str a0]),(2,.v false [.und]),(3,.v false [.box 0 0]),(4,.v false [jI (0:Int)]),(5,.v false [jI (0:Int)]),(6,.v false [.str y1.1]),(7,.v false [.bool y1.2]),(8,.v false [.box 1 0]),(16,.v false [.bool (decide ((a0.size:Int)>(3000:Int)))]),(28,.v false [.bool (bif (a0 != ByteArray.empty) then (!y1.2) else false)]),(33,.v false [.bool (a0 != ByteArray.empty)]),(35,.v false [.row 0]),(36,.v false [jI (y2.length:Int)]),(37,.v false [jI q6])],[some ⟨true,[jI (0:Int),jI (0:Int),jI (0:Int),jI (0:Int),.row 1]⟩,some ⟨true,[jI q7,jI q8,jI q9,jI q10,jI q11,.row 2,.row 3]⟩],[some ⟨9,.str,y2,.own⟩,some ⟨2,sI,[],.own⟩,some ⟨78,sM,q12,.own⟩,some ⟨61,(.cons sV sI),q13,.own⟩]⟩
def Axd:Code:=Aj Tryz.f48
def Abo (a0:ByteArray) (a1 q3 q4:Int) (q5:List ByteArray):Fr:=⟨36,[(0,.v false [.str a0]),(1,.v false [.int .u8 a1]),(4,.v false [.row 0]),(5,.v false [.row 1]),(6,.v false [jI q3]),(7,.v false [jI q4])],[],[some ⟨9,.str,[],.own⟩,some ⟨9,.str,q5,.own⟩]⟩
def AsG:Code:=Aj Tryz.f103
def VN (a0:ByteArray) (q3 q4:Int):Fr:=⟨43,[(0,.v false [.str a0]),(2,.v false [jI (0:Int)]),(3,.v false [.bool false]),(4,.v false [jI q3]),(5,.v false [jI q4]),(13,.v false [.bool (bif (decide ((a0.size:Int)<(1:Int))) then true else (decide ((a0.size:Int)>(10:Int))))])],[],[]⟩
def AsH:Code:=Aj Tryz.f156
def VO (a0:List ByteArray) (q4:Int) (q5:List Int):Fr:=⟨30,[(0,.v false [.row 0]),(2,.v false [.row 1]),(3,.v false [.bool false]),(4,.v false [.row 2]),(5,.v false [jI q4])],[],[some ⟨9,.str,a0,.ro⟩,some ⟨2,sI,[],.own⟩,some ⟨2,sI,q5,.own⟩]⟩
def Ans:Code:=Aj Tryz.f50
def VP (a0:Int×Int×Int) (a1:List Int) (a2:List (tV×Int)) (q10 q12:Int):Fr:=⟨62,[(0,.v true (jL a0)),(1,.v false [.row 0]),(2,.v false [.row 1]),(3,.v false [.box 0 0]),(6,.v false [jI (0:Int)]),(7,.v false [jI (0:Int)]),(8,.v false [.bool false]),(9,.v false [jI q10]),(10,.v false [jI q12]),(16,.v false [.bool (decide (q10<(a2.length:Int)))])],[some ⟨true,(jL a0)⟩],[some ⟨2,sI,a1,.ro⟩,some ⟨61,(.cons sV sI),a2,.ro⟩]⟩
def JJ (a0:Int×Int×Int) (a1:List Int) (a2:List (tV×Int)) (q10:Int):Fr:=⟨62,[(0,.v true (jL a0)),(1,.v false [.row 0]),(2,.v false [.row 1]),(3,.v false [.box 0 0]),(6,.v false [jI (0:Int)]),(7,.v false [jI (0:Int)]),(8,.v false [.bool false]),(9,.v false [jI q10])],[some ⟨true,(jL a0)⟩],[some ⟨2,sI,a1,.ro⟩,some ⟨61,(.cons sV sI),a2,.ro⟩]⟩
def Axe:Code:=Aj Tryz.f21
def Abp (a0:ByteArray) (y1:List ByteArray) (q5 q6 q7 q8 q9 q10:Int) (q11:List tM) (q12:List (tV×Int)):Fr:=⟨75,[(0,.v false [.str a0]),(2,.v false [.box 0 0]),(3,.v false [jI (0:Int)]),(4,.v false [jI (0:Int)]),(5,.v false [.box 1 0]),(6,.v false [.row 0]),(7,.v false [jI q5]),(16,.v false [.bool (decide ((a0.size:Int)>(3000:Int)))]),(26,.v false [.bool ((y1.getD ((0:Int)+(w ((y1.length:Int)-(1:Int)))).toNat ByteArray.empty) != ByteArray.empty)])],[some ⟨true,[jI (0:Int),jI (0:Int),jI (0:Int),jI (0:Int),jI (0:Int),.row 1,.row 2]⟩,some ⟨true,[jI q6,jI q7,jI q8,jI q9,jI q10,.row 3,.row 4]⟩],[some ⟨9,.str,y1,.own⟩,some ⟨78,sM,[],.own⟩,some ⟨61,(.cons sV sI),[],.own⟩,some ⟨78,sM,q11,.own⟩,some ⟨61,(.cons sV sI),q12,.own⟩]⟩
def f7C:Code:=Aj Tryz.f7
def Abq (a0:ByteArray) (q13:Int) (y1:Option (Int×tL×Int×(List tM)×List (tV×Int))×Int×Int) (y4:List Int) (z2:Int×tL×Int×(List tM)×List (tV×Int)) (q16:Int) (q17:List Int):Fr:=⟨80,[(0,.v false [.str a0]),(2,.v false [.box 0 0]),(3,.v false [jI (0:Int)]),(4,.v false [jI (0:Int)]),(5,.v false [.box 1 0]),(6,.v false [jI y1.2.1]),(7,.v false [jI y1.2.2]),(8,.v false [.row 0]),(9,.v false [.box 2 0]),(10,.v false [jI q13]),(11,.v false [jI q16]),(19,.v false [.bool (y1.2.2 != (0:Int))]),(43,.v false [.bool (decide (q13<(z2.2.2.2.2.length:Int)))])],[some ⟨true,[jI (0:Int),jI (0:Int),jI (0:Int),jI (0:Int),.row 1]⟩,some ⟨true,[jI z2.1,jI z2.2.1.1,jI z2.2.1.2.1,jI z2.2.1.2.2,jI z2.2.2.1,.row 2,.row 3]⟩,some ⟨true,[jI z2.1,jI z2.2.1.1,jI z2.2.1.2.1,jI z2.2.1.2.2,.row 4]⟩],[some ⟨2,sI,y4,.own⟩,some ⟨2,sI,[],.own⟩,some ⟨78,sM,z2.2.2.2.1,.own⟩,some ⟨61,(.cons sV sI),z2.2.2.2.2,.own⟩,some ⟨2,sI,q17,.own⟩]⟩
def JK (a0:ByteArray) (y1:Option (Int×tL×Int×(List tM)×List (tV×Int))×Int×Int) (y4:List Int) (z2:Int×tL×Int×(List tM)×List (tV×Int)) (q13:Int) (q14:List Int):Fr:=⟨80,[(0,.v false [.str a0]),(2,.v false [.box 0 0]),(3,.v false [jI (0:Int)]),(4,.v false [jI (0:Int)]),(5,.v false [.box 1 0]),(6,.v false [jI y1.2.1]),(7,.v false [jI y1.2.2]),(8,.v false [.row 0]),(9,.v false [.box 2 0]),(10,.v false [jI q13]),(19,.v false [.bool (y1.2.2 != (0:Int))])],[some ⟨true,[jI (0:Int),jI (0:Int),jI (0:Int),jI (0:Int),.row 1]⟩,some ⟨true,[jI z2.1,jI z2.2.1.1,jI z2.2.1.2.1,jI z2.2.1.2.2,jI z2.2.2.1,.row 2,.row 3]⟩,some ⟨true,[jI z2.1,jI z2.2.1.1,jI z2.2.1.2.1,jI z2.2.1.2.2,.row 4]⟩],[some ⟨2,sI,y4,.own⟩,some ⟨2,sI,[],.own⟩,some ⟨78,sM,z2.2.2.2.1,.own⟩,some ⟨61,(.cons sV sI),z2.2.2.2.2,.own⟩,some ⟨2,sI,q14,.own⟩]⟩
def Axf:Code:=Aj Tryz.f12
def Abr (a0:List Int) (y2:tV×Int) (q6 q7 q8:Int) (q9:List Int):Fr:=⟨33,[(0,.v false [.row 0]),(2,.v false [.box 0 0]),(3,.v false [.box 1 0]),(4,.v false [.box 2 0]),(5,.v false [.box 3 0]),(6,.v false [jI q6]),(11,.v false [.bool (y2.2==(0:Int))])],[some ⟨true,[jI (0:Int),jI (0:Int),jI (0:Int),jI (0:Int),.row 1]⟩,some ⟨true,[.row 0,jI q7,jI q8]⟩,some ⟨true,[jI (7:Int),jI (0:Int),jI (6:Int)]⟩,some ⟨true,[jI (0:Int),jI (7:Int),jI (0:Int),jI (6:Int),.row 2]⟩],[some ⟨5,(.int .u8),a0,.ro⟩,some ⟨2,sI,[],.own⟩,some ⟨2,sI,q9,.own⟩]⟩
def AsI:Code:=Aj Tryz.f168
def VQ (a0:List Int) (a1:(Int→Option Bool)) (q4:Int):Fr:=⟨19,[(0,.v false [.row 0]),(1,.v false [.fv1 sI .bool a1]),(4,.v false [jI (0:Int)]),(7,.v false [jI (a0.length:Int)]),(8,.v false [jI q4])],[],[some ⟨2,sI,a0,.ro⟩]⟩
def AsJ:Code:=Aj Tryz.f121
def VS (a0:ByteArray) (a1:List Int) (q4:Int) (q5:List ByteArray):Fr:=⟨24,[(0,.v false [.str a0]),(1,.v false [.row 0]),(4,.v false [.str ByteArray.empty]),(5,.v false [.row 1]),(9,.v false [.row 0]),(10,.v false [jI (a1.length:Int)]),(11,.v false [jI q4])],[],[some ⟨2,sI,a1,.ro⟩,some ⟨9,.str,q5,.own⟩]⟩
def Axg:Code:=Aj Tryz.f29
def Abs (a0:Int×tL×List Int) (a1:List tV) (q6:ByteArray) (q7 q8:Int):Fr:=⟨38,[(0,.v true [jI a0.1,jI a0.2.1.1,jI a0.2.1.2.1,jI a0.2.1.2.2,.row 0]),(1,.v false [.row 1]),(2,.v false [.box 0 0]),(4,.v false [.str ByteArray.empty]),(5,.v false [jI (0:Int)]),(6,.v false [.str q6]),(7,.v false [jI q7]),(11,.v false [.row 1]),(12,.v false [jI (a1.length:Int)]),(13,.v false [jI q8])],[some ⟨true,[jI a0.1,jI a0.2.1.1,jI a0.2.1.2.1,jI a0.2.1.2.2,.row 0]⟩],[some ⟨2,sI,a0.2.2,.ro⟩,some ⟨59,sV,a1,.ro⟩]⟩
def Axh:Code:=Aj Tryz.f36
def Abt (a0 a1:List Int) (q3:Int):Fr:=⟨26,[(0,.v false [.row 0]),(1,.v false [.row 1]),(4,.v false [.bool false]),(5,.v false [jI q3]),(10,.v false [.bool ((a0.length:Int) != (a1.length:Int))])],[],[some ⟨2,sI,a0,.ro⟩,some ⟨2,sI,a1,.ro⟩]⟩
def Axi:Code:=Aj Tryz.f16
def Abu (a0 a1:List tM) (q3:Int):Fr:=⟨26,[(0,.v false [.row 0]),(1,.v false [.row 1]),(4,.v false [.bool false]),(5,.v false [jI q3]),(10,.v false [.bool ((a0.length:Int) != (a1.length:Int))])],[],[some ⟨78,sM,a0,.ro⟩,some ⟨78,sM,a1,.ro⟩]⟩
def Axj:Code:=Aj Tryz.f76
def Abv (a0:Int×tL×List Int) (a1:tA×Int×Int) (y1:List tV) (q6:Int):Fr:=⟨28,[(0,.v true [jI a0.1,jI a0.2.1.1,jI a0.2.1.2.1,jI a0.2.1.2.2,.row 0]),(1,.v true (jM a1)),(2,.v false [.box 0 0]),(3,.v false [.box 1 0]),(4,.v false [.bool false]),(9,.v false [.row 1]),(10,.v false [jI (y1.length:Int)]),(11,.v false [jI q6])],[some ⟨true,[jI a0.1,jI a0.2.1.1,jI a0.2.1.2.1,jI a0.2.1.2.2,.row 0]⟩,some ⟨true,(jM a1)⟩],[some ⟨2,sI,a0.2.2,.ro⟩,some ⟨59,sV,y1,.own⟩]⟩
def Axk:Code:=Aj Tryz.f38
def Abw (a0:Int×tL×List Int) (a1:List tM) (q4:Int):Fr:=⟨18,[(0,.v true [jI a0.1,jI a0.2.1.1,jI a0.2.1.2.1,jI a0.2.1.2.2,.row 0]),(1,.v false [.row 1]),(2,.v false [.box 0 0]),(4,.v false [.bool false]),(7,.v false [.row 1]),(8,.v false [jI (a1.length:Int)]),(9,.v false [jI q4])],[some ⟨true,[jI a0.1,jI a0.2.1.1,jI a0.2.1.2.1,jI a0.2.1.2.2,.row 0]⟩],[some ⟨2,sI,a0.2.2,.ro⟩,some ⟨78,sM,a1,.ro⟩]⟩
variable (K:Nat)
include K
def f4E:Env:=eE K [] [0,2]
def f4G (K:Nat) (a0:List Int):Option Bool :=
  some (decide ((a0.length:Int)>(4096:Int)))
def f4M:Mdl:=⟨[(.ro,(.list 5 (.int .u8)))],[.bool],fun x=>f4G K x.1⟩
def Aho:Env:=eE K [] [0,2,3,4,15]
def NY (K:Nat) (a0:List Int) (L2:Int→Int→Option tV) (q3 q4:Int):Option tV :=
  (bif (bif (decide (q3<(a0.length:Int))) then (decide (q3<(64:Int))) else false) then (bif (decide (0≤q3)&&decide (q3<(a0.length:Int))) then L2 (w (q3+(1:Int))) ((w ((w (q4*(73:Int)))+(w (a0.getD ((0:Int)+q3).toNat (0:Int))))).tmod (2147483647:Int)) else none) else some ((0:Int),q4))
def YJ (a0:List Int) (n:Nat) (q3 q4:Int):Option tV :=
  Ax (X:=Int×Int) (fun L x=>NY K a0 (fun v0 v1=>L (v0,v1)) x.1 x.2) n (q3,q4)
def Ahp (K:Nat) (a0:List Int) (I2:Int→Int→Option tV):Option tV :=
  I2 (0:Int) (93001:Int)
def Ae8 (a0:List Int):Option tV :=
  Ahp K a0 (fun d0 d1=>YJ K a0 K d0 d1)
def Auc:P9:=⟨5,(.int .u8),sV,[],fun x=>Ae8 K x.1⟩
def Aud (a0:List Int) (lr:LR tV):Ex→Fr→Option tV :=
  Ak (Aho K) 1 lr Aw2 [1,1,0,1,0] (Aua Tryz.f19 sV)
def Ahq (a0:List Int) (lr:LR tV) (bq3 bq4:Int):Option tV :=
  lr (AB Aw2 [1,1,0,1,0,0]) (Aa8 a0 bq3 bq4) (Aud K a0 lr)
def AzA:Env:=eE K [] [0,1,4,5,7,32,62]
def AL (K:Nat) (a0:(List Int)×Int×Int) (a1:Int):Option (tV×Int) :=
  (bif (decide (a1≤(1:Int))) then some (a0.2,(0:Int)) else (bif (decide (a0.2.1<(a0.1.length:Int))) then (bif (decide (0≤a0.2.1)&&decide (a0.2.1<(a0.1.length:Int))) then (bif (bif (decide (a1≤(256:Int))) then (((w (a0.2.1+(1:Int))).tmod (2:Int))==(0:Int)) else false) then (bif (decide (0≤(w ((w (a0.2.1+(1:Int)))-(1:Int))))&&decide ((w ((w (a0.2.1+(1:Int)))-(1:Int)))<(a0.1.length:Int))) then (bif (a1 != 0) then some (((w (a0.2.1+(1:Int))),((w ((w (a0.2.2*(48271:Int)))+(67:Int))).tmod (2147483647:Int))),((w (a0.1.getD ((0:Int)+(w ((w (a0.2.1+(1:Int)))-(1:Int)))).toNat (0:Int))).tmod a1)) else none) else none) else (bif (a1 != 0) then some (((w (a0.2.1+(1:Int))),((w ((w (a0.2.2*(48271:Int)))+(67:Int))).tmod (2147483647:Int))),((w ((w (((w ((w (a0.2.2*(48271:Int)))+(67:Int))).tmod (2147483647:Int)).tdiv (37:Int)))+(w (a0.1.getD ((0:Int)+a0.2.1).toNat (0:Int))))).tmod a1)) else none)) else none) else (bif (a1 != 0) then some ((a0.2.1,((w ((w (a0.2.2*(48271:Int)))+(67:Int))).tmod (2147483647:Int))),((w (((w ((w (a0.2.2*(48271:Int)))+(67:Int))).tmod (2147483647:Int)).tdiv (37:Int))).tmod a1)) else none)))
def NZ:Fx:=⟨5,(.int .u8),sV,[(.ro,sI)],[sI],fun x=>AL K x.1 x.2.1⟩
def AzB:Env:=⟨[],tys,eqs,mts,K,[0,1,4],[(26,NZ K)],[],[],[],[],[],false⟩
def VT (a0:(List Int)×Int×Int) (a1:List Int):Option (tV×Int) :=
  (AL K a0 (a1.length:Int)).bind fun y1=>(bif (decide (0≤y1.2)&&decide (y1.2<(a1.length:Int))) then some (y1.1,(a1.getD ((0:Int)+y1.2).toNat (0:Int))) else none)
def Ant:Fx:=⟨5,(.int .u8),sV,[(.ro,(.list 2 sI))],[sI],fun x=>VT K x.1 x.2.1⟩
def Axl:Env:=⟨[],tys,eqs,mts,K,[0,2,5],[(26,NZ K),(61,Ant K)],[],[],[],[],[],false⟩
def Abx (a0:(List Int)×Int×Int):Option (tV×Int) :=
  (AL K a0 (40:Int)).bind fun y1=>(bif (y1.2==(0:Int)) then (VT K (a0.1,y1.1) [(-1:Int),(2:Int)]).bind fun y2=>some y2 else (AL K (a0.1,y1.1) (2:Int)).bind fun y3=>some y3)
def AsK:Fx:=⟨5,(.int .u8),sV,[],[sI],fun x=>Abx K x.1⟩
def Axm:Env:=⟨[],tys,eqs,mts,K,[0,2,3,17,18,24,35],[(26,NZ K),(61,Ant K)],[],[],[],[],[],false⟩
def Aby (a0:(List Int)×Int×Int):Option (tV×Int×Int×Int) :=
  (AL K a0 (6:Int)).bind fun y1=>(AL K (a0.1,y1.1) (6:Int)).bind fun y2=>(AL K (a0.1,y2.1) (w ((1:Int)+y1.2))).bind fun y3=>(AL K (a0.1,y3.1) (60:Int)).bind fun y4=>(bif (y4.2==(0:Int)) then (VT K (a0.1,y4.1) [(0:Int),(64:Int),(65:Int),(8:Int)]).bind fun y5=>some (y5.1,y5.2,y3.2,(w ((1:Int)+y2.2))) else (bif (y4.2==(1:Int)) then (VT K (a0.1,y4.1) [(-1:Int),(w ((1:Int)+y1.2)),(w ((w ((1:Int)+y1.2))-(1:Int)))]).bind fun y6=>some (y6.1,(w ((1:Int)+y1.2)),y6.2,(w ((1:Int)+y2.2))) else (bif (y4.2==(2:Int)) then (VT K (a0.1,y4.1) [(8:Int),(9:Int)]).bind fun y7=>some (y7.1,(8:Int),(3:Int),y7.2) else some (y4.1,(w ((1:Int)+y1.2)),y3.2,(w ((1:Int)+y2.2))))))
def AsL:Fx:=⟨5,(.int .u8),sV,[],[sL],fun x=>Aby K x.1⟩
def AzC:Env:=⟨[],tys,eqs,mts,K,[0,2,3,4,5,9,10,15,25,28],[(26,NZ K),(115,AsK K),(116,AsL K)],[],[],[],[],[],false⟩
def Anu (a0:(List Int)×Int×Int):Option (tV×Int×Int×Int×Int) :=
  (Abx K a0).bind fun y1=>(AL K (a0.1,y1.1) (5:Int)).bind fun y2=>(bif (y2.2==(0:Int)) then (Aby K (a0.1,y2.1)).bind fun y3=>some (y3.1,y1.2,y3.2) else (bif (y2.2==(1:Int)) then (AL K (a0.1,y2.1) (4:Int)).bind fun y4=>(AL K (a0.1,y4.1) (4:Int)).bind fun y5=>some (y5.1,y1.2,(w ((1:Int)+y4.2)),(0:Int),(w ((1:Int)+y5.2))) else (bif (y2.2==(2:Int)) then (bif (y1.2==(0:Int)) then some (y2.1,y1.2,(2:Int),(1:Int),(1:Int)) else some (y2.1,y1.2,(3:Int),(1:Int),(1:Int))) else (AL K (a0.1,y2.1) (4:Int)).bind fun y6=>some (y6.1,y1.2,(w ((1:Int)+y6.2)),(0:Int),(w ((1:Int)+y6.2))))))
def Axn:Fx:=⟨5,(.int .u8),sV,[],[sI,sL],fun x=>Anu K x.1⟩
def Axo:Env:=eE K [] [0,2]
def VU (K:Nat) (a0:Int):Option Bool :=
  some (bif (a0==(0:Int)) then true else (a0==(1:Int)))
def Ahr:Mdl:=⟨[(.ro,sI)],[.bool],fun x=>VU K x.1⟩
def Axp:Env:=eE K [] [0,1,2,6]
def JL (K:Nat) (a0 a1 a2:Int):Option Bool :=
  some (bif (decide (a0≥a1)) then (decide (a0≤a2)) else false)
def Abz:Mdl:=⟨[(.ro,sI),(.ro,sI),(.ro,sI)],[.bool],fun x=>JL K x.1 x.2.1 x.2.2.1⟩
def Axq:Env:=eE K [(125,Abz K)] [0,1,2]
def QF (a0:Int×Int×Int):Option Bool :=
  (JL K a0.1 (1:Int) (64:Int)).bind fun y1=>((bif y1 then JL K a0.2.2 (1:Int) (64:Int) else some false)).bind fun y2=>((bif (bif y1 then y2 else false) then JL K a0.2.1 (0:Int) (w (a0.1-(1:Int))) else some false)).bind fun y3=>some (bif (bif (bif y1 then y2 else false) then y3 else false) then (decide ((w (a0.1*a0.2.2))≤(64:Int))) else false)
def AbA:Mdl:=⟨[(.ro,sL)],[.bool],fun x=>QF K x.1⟩
def AzD:Env:=eE K [(123,Ahr K),(124,AbA K)] [0,1,3,4,12]
def YK (a0:Int) (a1:Int×Int×Int):Option Int :=
  (VU K a0).bind fun y1=>((bif (!(!y1)) then QF K a1 else some false)).bind fun y2=>(bif (bif (!y1) then true else (!y2)) then some (1:Int) else some (0:Int))
def Ahs:Mdl:=⟨[(.ro,sI),(.ro,sL)],[sI],fun x=>YK K x.1 x.2.1⟩
def AzE:Env:=eE K [] [0]
def Qd (K:Nat):Option tA :=
  some ((1:Int),(0:Int),(0:Int),(1:Int))
def Aht:Mdl:=⟨[],[sA],fun x=>Qd K ⟩
def AzF:Env:=eE K [(83,Aht K)] [0]
def VV:Option tM :=
  (Qd K).bind fun y1=>some (y1,(0:Int),(0:Int))
def Anv:Mdl:=⟨[],[sM],fun x=>VV K ⟩
def Axr:Env:=eE K [] [0,1,3,4,5,18]
def QG (K:Nat) (a0:Int) (a1:Int×Int):Option Int :=
  (bif (a0==(1:Int)) then some (w ((w ((w (a1.1*a1.1))+(w (a1.2*a1.2))))+(w (a1.1*a1.2)))) else some (w ((w (a1.1*a1.1))+(w (a1.2*a1.2)))))
def AsM:Mdl:=⟨[(.ro,sI),(.ro,sV)],[sI],fun x=>QG K x.1 x.2.1⟩
def Axs:Env:=eE K [] [0,1,2,3,4]
def N0 (K:Nat) (a0 a1:Int×Int):Option tV :=
  some ((w (a0.1+a1.1)),(w (a0.2+a1.2)))
def AbB:Mdl:=⟨[(.ro,sV),(.ro,sV)],[sV],fun x=>N0 K x.1 x.2.1⟩
def Axt:Env:=eE K [(106,AbB K),(225,AsM K)] [0,1,3,4,5,6]
def VW (a0:Int) (a1:Int×Int×Int×Int):Option Bool :=
  (QG K a0 (a1.1,a1.2.2.1)).bind fun y1=>((bif (y1==(1:Int)) then QG K a0 (a1.2.1,a1.2.2.2) else some (0:Int))).bind fun y2=>((bif (bif (y1==(1:Int)) then (y2==(1:Int)) else false) then N0 K (a1.1,a1.2.2.1) (a1.2.1,a1.2.2.2) else some ((0:Int),(0:Int)))).bind fun y3=>((bif (bif (y1==(1:Int)) then (y2==(1:Int)) else false) then QG K a0 y3 else some (0:Int))).bind fun y4=>some (bif (bif (y1==(1:Int)) then (y2==(1:Int)) else false) then (y4==(w ((2:Int)+a0))) else false)
def Ahu:Mdl:=⟨[(.ro,sI),(.ro,sA)],[.bool],fun x=>VW K x.1 x.2.1⟩
def QH:Env:=eE K [(180,Ahu K)] [0,2,3,4,5,8,28]
def Anw (a0:Int) (L3:Int→(List tA)→Option (List tA)) (q4:Int) (q5:List tA):Option (List tA) :=
  (bif (decide (q4<(81:Int))) then (VW K a0 ((w ((w (q4.tdiv (27:Int)))-(1:Int))),(w (((w (q4.tdiv (9:Int))).tmod (3:Int))-(1:Int))),(w (((w (q4.tdiv (3:Int))).tmod (3:Int))-(1:Int))),(w ((q4.tmod (3:Int))-(1:Int))))).bind fun y6=>(bif y6 then (bif (Nat.ble (q5.length+[((w ((w (q4.tdiv (27:Int)))-(1:Int))),(w (((w (q4.tdiv (9:Int))).tmod (3:Int))-(1:Int))),(w (((w (q4.tdiv (3:Int))).tmod (3:Int))-(1:Int))),(w ((q4.tmod (3:Int))-(1:Int))))].length) (lim 32)) then L3 (w (q4+(1:Int))) (q5++[((w ((w (q4.tdiv (27:Int)))-(1:Int))),(w (((w (q4.tdiv (9:Int))).tmod (3:Int))-(1:Int))),(w (((w (q4.tdiv (3:Int))).tmod (3:Int))-(1:Int))),(w ((q4.tmod (3:Int))-(1:Int))))]) else none) else L3 (w (q4+(1:Int))) q5) else some q5)
def AbC (a0:Int) (n:Nat) (q4:Int) (q5:List tA):Option (List tA) :=
  Ax (X:=Int×List tA) (fun L x=>Anw K a0 (fun v0 v1=>L (v0,v1)) x.1 x.2) n (q4,q5)
def Ahv (K:Nat) (a0:Int) (I3:Int→(List tA)→Option (List tA)):Option (List tA) :=
  I3 (0:Int) []
def QI (a0:Int):Option (List tA) :=
  Ahv K a0 (fun d0 d1=>AbC K a0 K d0 d1)
def AbD:Mdl:=⟨[(.ro,sI)],[(.list 76 sA)],fun x=>QI K x.1⟩
def Anx (a0:Int) (lr:LR (List tA)):Ex→Fr→Option (List tA) :=
  Ak (QH K) 0 lr Asp [1,1,0,1,0] (fM (QH K) Tryz.f138 (AbD K) (a0,()))
def AbE (a0:Int) (lr:LR (List tA)) (bq4:Int) (bq5:List tA):Option (List tA) :=
  lr (AB Asp [1,1,0,1,0,0]) (Vi a0 bq4 bq5) (Anx K a0 lr)
def Axu:Env:=eE K [] [0,1,2]
def VX (K:Nat) (a0:Int×Int×Int):Option (List tV) :=
  some [(a0.1,(0:Int)),a0.2]
def Ahw:Mdl:=⟨[(.ro,sL)],[(.list 59 sV)],fun x=>VX K x.1⟩
def Axv:Env:=eE K [] [0,1,2,3,4]
def N1 (K:Nat) (a0:Int×Int×Int×Int) (a1:Int×Int):Option tV :=
  some ((w ((w (a0.1*a1.1))+(w (a0.2.1*a1.2)))),(w ((w (a0.2.2.1*a1.1))+(w (a0.2.2.2*a1.2)))))
def AbF:Mdl:=⟨[(.ro,sA),(.ro,sV)],[sV],fun x=>N1 K x.1 x.2.1⟩
omit K
def AsN (K:Nat) (rec:Int→Int→Option Int):Env:=⟨[(175,⟨[(.ro,sI),(.ro,sI)],[sI],fun x=>rec x.1 x.2.1⟩)],tys,eqs,mts,K,[0,1,4,6],[],[],[],[],[],[],false⟩
def K1 (K:Nat) (rec:Int→Int→Option Int) (a0 a1:Int):Option Int :=
  (bif (a1==(0:Int)) then some (if (w (0-a0))>a0 then (w (0-a0)) else a0) else (bif (a1 != 0) then (rec a1 (a0.tmod a1)).bind fun y1=>some y1 else none))
def LT (K:Nat):Nat→Int→Int→Option Int
  | 0=>fun _ _=>none
  | n+1=>fun a0 a1=>K1 K (LT K n) a0 a1
def AbG (K:Nat) (a0 a1:Int):Option Int:=LT K K a0 a1
def AsO (K:Nat):Mdl:=⟨[(.ro,sI),(.ro,sI)],[sI],fun x=>AbG K x.1 x.2.1⟩
include K
def Axw:Env:=eE K [] [0,1,4,9]
def IP (K:Nat) (a0 a1:Int):Option Int :=
  (bif (a1 != 0) then (bif (decide ((a0.tmod a1)<(0:Int))) then some (w ((a0.tmod a1)+a1)) else some (a0.tmod a1)) else none)
def Ahx:Mdl:=⟨[(.ro,sI),(.ro,sI)],[sI],fun x=>IP K x.1 x.2.1⟩
def Axx:Env:=eE K [] [0,1,2,4]
def Ahy (K:Nat) (a0:Int×Int) (a1:Int):Option tV :=
  some ((w (a1*a0.1)),(w (a1*a0.2)))
def AsP:Mdl:=⟨[(.ro,sV),(.ro,sI)],[sV],fun x=>Ahy K x.1 x.2.1⟩
def JM:Env:=eE K [(109,Ahx K),(175,AsO K),(176,AsP K)] [0,2,3,4,5,6,7,8,13,22,50,58,62]
def N2 (a0:List tV) (q11 q12:Int) (L10 L15:Int→Int→Int→Int→Option tL) (q16 q17 q18 q19:Int):Option tL :=
  (bif (q19 != (0:Int)) then (bif (q19 != 0) then L15 q18 q19 (w (q16-(w ((w (q17.tdiv q19))*q18)))) (w (q17-(w ((w (q17.tdiv q19))*q19)))) else none) else (AbG K q11 q18).bind fun y20=>(bif (decide (y20>(0:Int))) then (IP K q16 y20).bind fun y21=>L10 y20 (w (q12+(1:Int))) y21 q17 else L10 y20 (w (q12+(1:Int))) q16 q17))
def FE (a0:List tV) (q11 q12:Int) (L10:Int→Int→Int→Int→Option tL) (n:Nat) (q16 q17 q18 q19:Int):Option tL :=
  Ax (X:=Int×Int×Int×Int) (fun L x=>N2 K a0 q11 q12 L10 (fun v0 v1 v2 v3=>L (v0,v1,v2,v3)) x.1 x.2.1 x.2.2.1 x.2.2.2) n (q16,q17,q18,q19)
def Hp (a0:List tV) (I15:Int→Int→Int→Int→Int→Int→Option tL) (L10:Int→Int→Int→Int→Option tL) (q11 q12 q13 q14:Int):Option tL :=
  (bif (decide (q12<(a0.length:Int))) then (bif (decide (0≤q12)&&decide (q12<(a0.length:Int))) then I15 q11 q12 q13 q14 ((a0.getD ((0:Int)+q12).toNat ((0:Int),(0:Int))).1) ((a0.getD ((0:Int)+q12).toNat ((0:Int),(0:Int))).2) else none) else (bif (decide (q14<(0:Int))) then (Ahy K (q13,q14) (-1:Int)).bind fun y22=>(bif (decide (q11>(0:Int))) then (IP K y22.1 q11).bind fun y23=>some (q11,y23,y22.2) else some (q11,y22)) else (bif (decide (q11>(0:Int))) then (IP K q13 q11).bind fun y24=>some (q11,y24,q14) else some (q11,q13,q14))))
def N3 (a0:List tV) (n:Nat) (q11 q12 q13 q14:Int):Option tL :=
  Ax (X:=Int×Int×Int×Int) (fun L x=>(fun L10=>Hp K a0 (fun c0 c1 d0 d1 d2 d3=>FE K a0 c0 c1 L10 K d0 d1 d2 d3) L10 x.1 x.2.1 x.2.2.1 x.2.2.2) (fun v0 v1 v2 v3=>L (v0,v1,v2,v3))) n (q11,q12,q13,q14)
def YL (K:Nat) (a0:List tV) (I10:Int→Int→Int→Int→Option tL):Option tL :=
  I10 (0:Int) (0:Int) (0:Int) (0:Int)
def IQ (a0:List tV):Option tL :=
  YL K a0 (fun d0 d1 d2 d3=>N3 K a0 K d0 d1 d2 d3)
def VY:Mdl:=⟨[(.ro,(.list 59 sV))],[sL],fun x=>IQ K x.1⟩
def VZ (a0:List tV) (lr:LR tL):Ex→Fr→Option tL :=
  Ak (JM K) 1 lr Aa9 [1,1,0,1,0] (fM (JM K) Tryz.f134 (VY K) (a0,()))
def V0 (a0:List tV) (lr:LR tL) (bq11 bq12 bq13 bq14:Int):Option tL :=
  lr (AB Aa9 [1,1,0,1,0,0]) (FB a0 bq11 bq12 bq13 bq14) (VZ K a0 lr)
def Ahz (a0:List tV) (F10:Fr→Option tL) (bq11 bq12 bq13 bq14:Int) (lr:LR tL):Ex→Fr→Option tL :=
  Ak (JM K) 1 lr (AB Aa9 [1,1,0,1,0,0]) [1,0,0,1,0,0] (D3 1 (FB a0 bq11 bq12 bq13 bq14) F10 (VZ K a0 lr))
def V1 (a0:List tV) (F10:Fr→Option tL) (bq11 bq12 bq13 bq14:Int) (lr:LR tL) (q11 q12 bq16 bq17 bq18 bq19:Int):Option tL :=
  lr (AB Aa9 [1,1,0,1,0,0,1,0,0,1,0,0,0]) (QB a0 q11 q12 bq16 bq17 bq18 bq19) (Ahz K a0 F10 bq11 bq12 bq13 bq14 lr)
def Axy:Env:=eE K [(107,AbF K),(133,Ahw K),(134,VY K)] [0,1,2,3,4,5]
def V2 (a0:Int×Int×Int×Int) (a1:Int×Int×Int):Option tL :=
  (VX K a1).bind fun y1=>(bif (decide (0≤(0:Int))&&decide ((0:Int)<(y1.length:Int))) then (N1 K a0 (y1.getD ((0:Int)+(0:Int)).toNat ((0:Int),(0:Int)))).bind fun y2=>(bif (decide (0≤(1:Int))&&decide ((1:Int)<(y1.length:Int))) then (N1 K a0 (y1.getD ((0:Int)+(1:Int)).toNat ((0:Int),(0:Int)))).bind fun y3=>(IQ K [y2,y3]).bind fun y4=>some y4 else none) else none)
def AhA:Mdl:=⟨[(.ro,sA),(.ro,sL)],[sL],fun x=>V2 K x.1 x.2.1⟩
def Ae9:Env:=eE K [(138,AbD K),(139,AhA K)] [0,1,3,4,5,6,7,14,24]
def SW (a0:Int) (a1:Int×Int×Int) (y1:List tA) (L4:Int→(List tA)→Option (List tA)) (q5:Int) (q6:List tA):Option (List tA) :=
  (bif (decide (q5<(y1.length:Int))) then (bif (decide (0≤q5)&&decide (q5<(y1.length:Int))) then (V2 K ((y1.getD ((0:Int)+q5).toNat zA).1,((y1.getD ((0:Int)+q5).toNat zA).2).1,(((y1.getD ((0:Int)+q5).toNat zA).2).2)) a1).bind fun y7=>(bif ((y7.1==a1.1)&&((y7.2.1==a1.2.1)&&(y7.2.2==a1.2.2))) then (bif (decide (0≤q5)&&decide (q5<(y1.length:Int))) then (bif (Nat.ble (q6.length+[((y1.getD ((0:Int)+q5).toNat zA).1,((y1.getD ((0:Int)+q5).toNat zA).2).1,(((y1.getD ((0:Int)+q5).toNat zA).2).2))].length) (lim 32)) then L4 (w (q5+(1:Int))) (q6++[((y1.getD ((0:Int)+q5).toNat zA).1,((y1.getD ((0:Int)+q5).toNat zA).2).1,(((y1.getD ((0:Int)+q5).toNat zA).2).2))]) else none) else none) else L4 (w (q5+(1:Int))) q6) else none) else some q6)
def YM (a0:Int) (a1:Int×Int×Int) (y1:List tA) (n:Nat) (q5:Int) (q6:List tA):Option (List tA) :=
  Ax (X:=Int×List tA) (fun L x=>SW K a0 a1 y1 (fun v0 v1=>L (v0,v1)) x.1 x.2) n (q5,q6)
def AhB (a0:Int) (a1:Int×Int×Int) (I4:(List tA)→Int→(List tA)→Option (List tA)):Option (List tA) :=
  (QI K a0).bind fun y1=>I4 y1 (0:Int) []
def Afa (a0:Int) (a1:Int×Int×Int):Option (List tA) :=
  AhB K a0 a1 (fun c0 d0 d1=>YM K a0 a1 c0 K d0 d1)
def AhC:Mdl:=⟨[(.ro,sI),(.ro,sL)],[(.list 76 sA)],fun x=>Afa K x.1 x.2.1⟩
def Aue (a0:Int) (a1:Int×Int×Int) (lr:LR (List tA)):Ex→Fr→Option (List tA) :=
  Ak (Ae9 K) 0 lr Aw3 [1,1,1,0,1,0] (fM (Ae9 K) Tryz.f84 (AhC K) (a0,a1,()))
def AhD (a0:Int) (a1:Int×Int×Int) (lr:LR (List tA)) (y1:List tA) (bq5:Int) (bq6:List tA):Option (List tA) :=
  lr (AB Aw3 [1,1,1,0,1,0,0]) (Aba a0 a1 y1 bq5 bq6) (Aue K a0 a1 lr)
def AzG:Env:=⟨[(70,Ahs K),(83,Aht K),(84,AhC K)],tys,eqs,mts,K,[0,1,2,5,6,7,8,13],[(26,NZ K)],[],[],[],[],[],false⟩
def Qe (a0:(List Int)×Int×Int) (a1:Int) (a2:Int×Int×Int):Option (tV×tA×Int×Int) :=
  (Qd K).bind fun y1=>(YK K a1 a2).bind fun y2=>(bif (y2==(0:Int)) then (Afa K a1 a2).bind fun y3=>(AL K a0 (y3.length:Int)).bind fun y4=>(bif (decide (0≤y4.2)&&decide (y4.2<(y3.length:Int))) then (AL K (a0.1,y4.1) (9:Int)).bind fun y5=>(AL K (a0.1,y5.1) (9:Int)).bind fun y6=>some (y6.1,((y3.getD ((0:Int)+y4.2).toNat zA).1,((y3.getD ((0:Int)+y4.2).toNat zA).2).1,(((y3.getD ((0:Int)+y4.2).toNat zA).2).2)),(w (y5.2-(4:Int))),(w (y6.2-(4:Int)))) else none) else (AL K a0 (9:Int)).bind fun y7=>(AL K (a0.1,y7.1) (9:Int)).bind fun y8=>some (y8.1,y1,(w (y7.2-(4:Int))),(w (y8.2-(4:Int)))))
def Auf:Fx:=⟨5,(.int .u8),sV,[(.ro,sI),(.ro,sL)],[sM],fun x=>Qe K x.1 x.2.1 x.2.2.1⟩
def AzH:Env:=eE K [(109,Ahx K)] [0,1,2,3,4,5,6]
def Afb (a0:Int×Int×Int) (a1:Int×Int):Option tV :=
  (IP K a1.2 a0.2.2).bind fun y1=>(bif (a0.2.2 != 0) then (IP K (w (a1.1-(w ((w ((w (a1.2-y1)).tdiv a0.2.2))*a0.2.1)))) a0.1).bind fun y2=>some (y2,y1) else none)
def Anz:Mdl:=⟨[(.ro,sL),(.ro,sV)],[sV],fun x=>Afb K x.1 x.2.1⟩
def AzI:Env:=eE K [(57,Anz K)] [0,1,2,3,4]
def Afc (a0:Int×Int×Int) (a1:tA×Int×Int):Option tM :=
  (Afb K a0 a1.2).bind fun y1=>some (a1.1,y1)
def AnA:Mdl:=⟨[(.ro,sL),(.ro,sM)],[sM],fun x=>Afc K x.1 x.2.1⟩
def Axz:Env:=eE K [] [0,1,2,3,4]
def QJ (K:Nat) (a0 a1:Int×Int×Int×Int):Option tA :=
  some ((w ((w (a0.1*a1.1))+(w (a0.2.1*a1.2.2.1)))),(w ((w (a0.1*a1.2.1))+(w (a0.2.1*a1.2.2.2)))),(w ((w (a0.2.2.1*a1.1))+(w (a0.2.2.2*a1.2.2.1)))),(w ((w (a0.2.2.1*a1.2.1))+(w (a0.2.2.2*a1.2.2.2)))))
def AhE:Mdl:=⟨[(.ro,sA),(.ro,sA)],[sA],fun x=>QJ K x.1 x.2.1⟩
def AzJ:Env:=eE K [(105,AhE K),(106,AbB K),(107,AbF K)] [0,1,2,3,4]
def AnB (a0 a1:tA×Int×Int):Option tM :=
  (QJ K a0.1 a1.1).bind fun y1=>(N1 K a0.1 a1.2).bind fun y2=>(N0 K y2 a0.2).bind fun y3=>some (y1,y3)
def AxA:Mdl:=⟨[(.ro,sM),(.ro,sM)],[sM],fun x=>AnB K x.1 x.2.1⟩
def AxB:Env:=eE K [] [0,1,2]
def QK (K:Nat) (a0:Int×Int×Int×Int):Option (List Int) :=
  some [a0.1,a0.2.1,a0.2.2.1,a0.2.2.2]
def AhF:Mdl:=⟨[(.ro,sA)],[(.list 2 sI)],fun x=>QK K x.1⟩
def QL:Env:=eE K [] [0,1,4,5,15,26]
def SX (K:Nat) (a0 a1:List Int) (L2:Int→Option Bool) (q3:Int):Option Bool :=
  (bif (bif (decide (q3<(a0.length:Int))) then (decide (q3<(a1.length:Int))) else false) then (bif (decide (0≤q3)&&decide (q3<(a0.length:Int))) then (bif (decide (0≤q3)&&decide (q3<(a1.length:Int))) then (bif ((a0.getD ((0:Int)+q3).toNat (0:Int)) != (a1.getD ((0:Int)+q3).toNat (0:Int))) then (bif (decide (0≤q3)&&decide (q3<(a0.length:Int))) then (bif (decide (0≤q3)&&decide (q3<(a1.length:Int))) then some (decide ((a0.getD ((0:Int)+q3).toNat (0:Int))<(a1.getD ((0:Int)+q3).toNat (0:Int)))) else none) else none) else L2 (w (q3+(1:Int)))) else none) else none) else some (decide ((a0.length:Int)<(a1.length:Int))))
def JN (a0 a1:List Int) (n:Nat) (q3:Int):Option Bool :=
  Ax (X:=Int) (fun L x=>SX K a0 a1 (fun v0=>L v0) x) n q3
def YN (K:Nat) (a0 a1:List Int) (I2:Int→Option Bool):Option Bool :=
  I2 (0:Int)
def AbH (a0 a1:List Int):Option Bool :=
  YN K a0 a1 (fun d0=>JN K a0 a1 K d0)
def AbI:Mdl:=⟨[(.ro,(.list 2 sI)),(.ro,(.list 2 sI))],[.bool],fun x=>AbH K x.1 x.2.1⟩
def AnC (a0 a1:List Int) (lr:LR Bool):Ex→Fr→Option Bool :=
  Ak (QL K) 2 lr Asq [1,0,1,0] (fM (QL K) Tryz.f243 (AbI K) (a0,a1,()))
def AbJ (a0 a1:List Int) (lr:LR Bool) (bq3:Int):Option Bool :=
  lr (AB Asq [1,0,1,0,0]) (Vj a0 a1 bq3) (AnC K a0 a1 lr)
def AxC:Env:=eE K [(137,AhF K),(243,AbI K)] [0,1,2,3,4]
def AhG (a0 a1:Int×Int×Int×Int):Option Bool :=
  (QK K a0).bind fun y1=>(QK K a1).bind fun y2=>(AbH K y1 y2).bind fun y3=>some y3
def AsQ:Mdl:=⟨[(.ro,sA),(.ro,sA)],[.bool],fun x=>AhG K x.1 x.2.1⟩
def AxD:Env:=eE K [] [0,1,2,3,4]
def V3 (K:Nat) (a0 a1:Int×Int):Option Bool :=
  some (bif (decide (a0.1<a1.1)) then true else (bif (a0.1==a1.1) then (decide (a0.2<a1.2)) else false))
def AhH:Mdl:=⟨[(.ro,sV),(.ro,sV)],[.bool],fun x=>V3 K x.1 x.2.1⟩
def AxE:Env:=eE K [(200,AhH K),(201,AsQ K)] [0,1,2,3,4,9]
def AbK (a0 a1:tA×Int×Int):Option Bool :=
  (bif (!((a0.1.1==a1.1.1)&&((a0.1.2.1==a1.1.2.1)&&((a0.1.2.2.1==a1.1.2.2.1)&&(a0.1.2.2.2==a1.1.2.2.2))))) then (AhG K a0.1 a1.1).bind fun y1=>some y1 else (V3 K a0.2 a1.2).bind fun y2=>some y2)
def AsR:Mdl:=⟨[(.ro,sM),(.ro,sM)],[.bool],fun x=>AbK K x.1 x.2.1⟩
def QM:Env:=eE K [(161,AsR K)] [0,1,3,4,5,6,7,12,22]
def SY (a0:List tM) (a1:tA×Int×Int) (L6:Int→Int→Option Int) (q7 q8:Int):Option Int :=
  (bif (decide (q7<q8)) then (bif (decide (0≤(w ((w (q7+q8)).tdiv (2:Int))))&&decide ((w ((w (q7+q8)).tdiv (2:Int)))<(a0.length:Int))) then (AbK K ((((a0.getD ((0:Int)+(w ((w (q7+q8)).tdiv (2:Int)))).toNat zM).1).1,(((a0.getD ((0:Int)+(w ((w (q7+q8)).tdiv (2:Int)))).toNat zM).1).2).1,((((a0.getD ((0:Int)+(w ((w (q7+q8)).tdiv (2:Int)))).toNat zM).1).2).2)),((a0.getD ((0:Int)+(w ((w (q7+q8)).tdiv (2:Int)))).toNat zM).2)) a1).bind fun y9=>(bif y9 then L6 (w ((w ((w (q7+q8)).tdiv (2:Int)))+(1:Int))) q8 else L6 q7 (w ((w (q7+q8)).tdiv (2:Int)))) else none) else some q7)
def H8 (a0:List tM) (a1:tA×Int×Int) (n:Nat) (q7 q8:Int):Option Int :=
  Ax (X:=Int×Int) (fun L x=>SY K a0 a1 (fun v0 v1=>L (v0,v1)) x.1 x.2) n (q7,q8)
def SZ (K:Nat) (a0:List tM) (a1:tA×Int×Int) (I6:Int→Int→Option Int):Option Int :=
  I6 (0:Int) (a0.length:Int)
def QN (a0:List tM) (a1:tA×Int×Int):Option Int :=
  SZ K a0 a1 (fun d0 d1=>H8 K a0 a1 K d0 d1)
def V4:Mdl:=⟨[(.ro,(.list 78 sM)),(.ro,sM)],[sI],fun x=>QN K x.1 x.2.1⟩
def AnD (a0:List tM) (a1:tA×Int×Int) (lr:LR Int):Ex→Fr→Option Int :=
  Ak (QM K) 1 lr Asr [1,1,0,0] (fM (QM K) Tryz.f108 (V4 K) (a0,a1,()))
def AbL (a0:List tM) (a1:tA×Int×Int) (lr:LR Int) (bq7 bq8:Int):Option Int :=
  lr (AB Asr [1,1,0,0,0]) (Vk a0 a1 bq7 bq8) (AnD K a0 a1 lr)
def AzK:Env:=eE K [(108,V4 K)] [0,1,3,4,5]
def AhI (a0:List tM) (a1:tA×Int×Int):Option Bool :=
  (QN K a0 a1).bind fun y1=>(bif ((decide (0≤y1)&&decide (y1<(a0.length:Int)))||(!(decide (y1<(a0.length:Int))))) then some (bif (decide (y1<(a0.length:Int))) then ((((a0.getD ((0:Int)+y1).toNat zM).1).1==a1.1.1)&&(((((a0.getD ((0:Int)+y1).toNat zM).1).2).1==a1.1.2.1)&&((((((a0.getD ((0:Int)+y1).toNat zM).1).2).2).1==a1.1.2.2.1)&&((((((a0.getD ((0:Int)+y1).toNat zM).1).2).2).2==a1.1.2.2.2)&&((((a0.getD ((0:Int)+y1).toNat zM).2).1==a1.2.1)&&(((a0.getD ((0:Int)+y1).toNat zM).2).2==a1.2.2)))))) else false) else none)
def Aug:Mdl:=⟨[(.ro,(.list 78 sM)),(.ro,sM)],[.bool],fun x=>AhI K x.1 x.2.1⟩
def AzL:Env:=eE K [(108,V4 K)] [0,1,3,4,5,20]
def AnE (a0:List tM) (a1:tA×Int×Int):Option (List tM) :=
  (QN K a0 a1).bind fun y1=>(bif ((decide (0≤y1)&&decide (y1<(a0.length:Int)))||(!(decide (y1<(a0.length:Int))))) then (bif (bif (decide (y1<(a0.length:Int))) then ((((a0.getD ((0:Int)+y1).toNat zM).1).1==a1.1.1)&&(((((a0.getD ((0:Int)+y1).toNat zM).1).2).1==a1.1.2.1)&&((((((a0.getD ((0:Int)+y1).toNat zM).1).2).2).1==a1.1.2.2.1)&&((((((a0.getD ((0:Int)+y1).toNat zM).1).2).2).2==a1.1.2.2.2)&&((((a0.getD ((0:Int)+y1).toNat zM).2).1==a1.2.1)&&(((a0.getD ((0:Int)+y1).toNat zM).2).2==a1.2.2)))))) else false) then some a0 else (bif (decide (0≤(0:Int))&&decide ((0:Int)≤y1)&&decide (y1≤(a0.length:Int))) then (bif (Nat.ble (0+((a0.take ((0:Int)+y1).toNat).drop 0).length) (lim 48)) then (bif (Nat.ble (([]++((a0.take ((0:Int)+y1).toNat).drop 0)).length+[a1].length) (lim 48)) then (bif (decide (0≤y1)&&decide (y1≤(a0.length:Int))&&decide ((a0.length:Int)≤(a0.length:Int))) then (bif (Nat.ble ((([]++((a0.take ((0:Int)+y1).toNat).drop 0))++[a1]).length+((a0.take ((0:Int)+(a0.length:Int)).toNat).drop ((0:Int)+y1).toNat).length) (lim 48)) then some ((([]++((a0.take ((0:Int)+y1).toNat).drop 0))++[a1])++((a0.take ((0:Int)+(a0.length:Int)).toNat).drop ((0:Int)+y1).toNat)) else none) else none) else none) else none) else none)) else none)
def AxF:Mdl:=⟨[(.mv,(.list 78 sM)),(.ro,sM)],[(.list 78 sM)],fun x=>AnE K x.1 x.2.1⟩
def S0:Env:=eE K [(52,Anv K),(53,AnA K),(54,AxA K),(55,Aug K),(56,AxF K)] [0,1,2,4,5,6,7,8,9,17,23,40]
def Gh (a0:Int×Int×Int) (a1:List tM) (q18:Int) (q20:List tM) (L17 L21:Int→(List tM)→(List tM)→Option (List tM)) (q22:Int) (q23 q24:List tM):Option (List tM) :=
  (bif (decide (q22<(a1.length:Int))) then (bif (decide (0≤q22)&&decide (q22<(a1.length:Int))) then (bif (decide (0≤q18)&&decide (q18<(q24.length:Int))) then (AnB K ((((a1.getD ((0:Int)+q22).toNat zM).1).1,(((a1.getD ((0:Int)+q22).toNat zM).1).2).1,((((a1.getD ((0:Int)+q22).toNat zM).1).2).2)),((a1.getD ((0:Int)+q22).toNat zM).2)) ((((q24.getD ((0:Int)+q18).toNat zM).1).1,(((q24.getD ((0:Int)+q18).toNat zM).1).2).1,((((q24.getD ((0:Int)+q18).toNat zM).1).2).2)),((q24.getD ((0:Int)+q18).toNat zM).2))).bind fun y25=>(Afc K a0 y25).bind fun y26=>(AhI K q23 y26).bind fun y27=>(bif (!y27) then (AnE K q23 y26).bind fun y28=>(bif (Nat.ble (q24.length+[y26].length) (lim 48)) then L21 (w (q22+(1:Int))) y28 (q24++[y26]) else none) else L21 (w (q22+(1:Int))) q23 q24) else none) else none) else L17 (w (q18+(1:Int))) q23 q24)
def De (a0:Int×Int×Int) (a1:List tM) (q18:Int) (q20:List tM) (L17:Int→(List tM)→(List tM)→Option (List tM)) (n:Nat) (q22:Int) (q23 q24:List tM):Option (List tM) :=
  Ax (X:=Int×List tM×List tM) (fun L x=>Gh K a0 a1 q18 q20 L17 (fun v0 v1 v2=>L (v0,v1,v2)) x.1 x.2.1 x.2.2) n (q22,q23,q24)
def E1 (K:Nat) (a0:Int×Int×Int) (a1:List tM) (I21:Int→(List tM)→Int→(List tM)→(List tM)→Option (List tM)) (L17:Int→(List tM)→(List tM)→Option (List tM)) (q18:Int) (q19 q20:List tM):Option (List tM) :=
  (bif (decide (q18<(q20.length:Int))) then I21 q18 q20 (0:Int) q19 q20 else some q19)
def BL (a0:Int×Int×Int) (a1:List tM) (n:Nat) (q18:Int) (q19 q20:List tM):Option (List tM) :=
  Ax (X:=Int×List tM×List tM) (fun L x=>(fun L17=>E1 K a0 a1 (fun c0 c1 d0 d1 d2=>De K a0 a1 c0 c1 L17 K d0 d1 d2) L17 x.1 x.2.1 x.2.2) (fun v0 v1 v2=>L (v0,v1,v2))) n (q18,q19,q20)
def AhJ (a0:Int×Int×Int) (a1:List tM) (I17:Int→(List tM)→(List tM)→Option (List tM)):Option (List tM) :=
  (VV K).bind fun y1=>(VV K).bind fun y2=>I17 (0:Int) [y1] [y2]
def FG (a0:Int×Int×Int) (a1:List tM):Option (List tM) :=
  AhJ K a0 a1 (fun d0 d1 d2=>BL K a0 a1 K d0 d1 d2)
def V5:Mdl:=⟨[(.ro,sL),(.ro,(.list 78 sM))],[(.list 78 sM)],fun x=>FG K x.1 x.2.1⟩
def AbM (a0:Int×Int×Int) (a1:List tM) (lr:LR (List tM)):Ex→Fr→Option (List tM) :=
  Ak (S0 K) 1 lr Anj [1,1,1,0,1,0] (fM (S0 K) Tryz.f23 (V5 K) (a0,a1,()))
def AbN (a0:Int×Int×Int) (a1:List tM) (lr:LR (List tM)) (bq18:Int) (bq19 bq20:List tM):Option (List tM) :=
  lr (AB Anj [1,1,1,0,1,0,0]) (Hk a0 a1 bq18 bq19 bq20) (AbM K a0 a1 lr)
def AnF (a0:Int×Int×Int) (a1:List tM) (F17:Fr→Option (List tM)) (bq18:Int) (bq19 bq20:List tM) (lr:LR (List tM)):Ex→Fr→Option (List tM) :=
  Ak (S0 K) 1 lr (AB Anj [1,1,1,0,1,0,0]) [1,0,0,1,0] (D3 1 (Hk a0 a1 bq18 bq19 bq20) F17 (AbM K a0 a1 lr))
def AbO (a0:Int×Int×Int) (a1:List tM) (F17:Fr→Option (List tM)) (bq18:Int) (bq19 bq20:List tM) (lr:LR (List tM)) (q18:Int) (q20:List tM) (bq22:Int) (bq23 bq24:List tM):Option (List tM) :=
  lr (AB Anj [1,1,1,0,1,0,0,1,0,0,1,0,0]) (Vl a0 a1 q18 q20 bq22 bq23 bq24) (AnF K a0 a1 F17 bq18 bq19 bq20 lr)
def S1:Env:=eE K [] [0,1,2,3,4,5,10,16]
def S2 (K:Nat) (a0:Int×Int×Int) (q7:Int) (L6 L9:Int→(List tV)→Option (List tV)) (q10:Int) (q11:List tV):Option (List tV) :=
  (bif (decide (q10<a0.2.2)) then (bif (Nat.ble (q11.length+[(q7,q10)].length) (lim 16)) then L9 (w (q10+(1:Int))) (q11++[(q7,q10)]) else none) else L6 (w (q7+(1:Int))) q11)
def N4 (a0:Int×Int×Int) (q7:Int) (L6:Int→(List tV)→Option (List tV)) (n:Nat) (q10:Int) (q11:List tV):Option (List tV) :=
  Ax (X:=Int×List tV) (fun L x=>S2 K a0 q7 L6 (fun v0 v1=>L (v0,v1)) x.1 x.2) n (q10,q11)
def N5 (K:Nat) (a0:Int×Int×Int) (I9:Int→Int→(List tV)→Option (List tV)) (L6:Int→(List tV)→Option (List tV)) (q7:Int) (q8:List tV):Option (List tV) :=
  (bif (decide (q7<a0.1)) then I9 q7 (0:Int) q8 else some q8)
def YO (a0:Int×Int×Int) (n:Nat) (q7:Int) (q8:List tV):Option (List tV) :=
  Ax (X:=Int×List tV) (fun L x=>(fun L6=>N5 K a0 (fun c0 d0 d1=>N4 K a0 c0 L6 K d0 d1) L6 x.1 x.2) (fun v0 v1=>L (v0,v1))) n (q7,q8)
def AhK (K:Nat) (a0:Int×Int×Int) (I6:Int→(List tV)→Option (List tV)):Option (List tV) :=
  I6 (0:Int) []
def Qf (a0:Int×Int×Int):Option (List tV) :=
  AhK K a0 (fun d0 d1=>YO K a0 K d0 d1)
def S3:Mdl:=⟨[(.ro,sL)],[(.list 59 sV)],fun x=>Qf K x.1⟩
def AhL (a0:Int×Int×Int) (lr:LR (List tV)):Ex→Fr→Option (List tV) :=
  Ak (S1 K) 0 lr Ank [1,1,0,1,0] (fM (S1 K) Tryz.f33 (S3 K) (a0,()))
def AhM (a0:Int×Int×Int) (lr:LR (List tV)) (bq7:Int) (bq8:List tV):Option (List tV) :=
  lr (AB Ank [1,1,0,1,0,0]) (JF a0 bq7 bq8) (AhL K a0 lr)
def Auh (a0:Int×Int×Int) (F6:Fr→Option (List tV)) (bq7:Int) (bq8:List tV) (lr:LR (List tV)):Ex→Fr→Option (List tV) :=
  Ak (S1 K) 0 lr (AB Ank [1,1,0,1,0,0]) [1,0,0,1,0] (D3 0 (JF a0 bq7 bq8) F6 (AhL K a0 lr))
def AhN (a0:Int×Int×Int) (F6:Fr→Option (List tV)) (bq7:Int) (bq8:List tV) (lr:LR (List tV)) (q7 bq10:Int) (bq11:List tV):Option (List tV) :=
  lr (AB Ank [1,1,0,1,0,0,1,0,0,1,0,0]) (Abb a0 q7 bq10 bq11) (Auh K a0 F6 bq7 bq8 lr)
def AxG:Env:=eE K [(106,AbB K),(107,AbF K)] [0,1,2,3,4]
def V6 (a0:tA×Int×Int) (a1:Int×Int):Option tV :=
  (N1 K a0.1 a1).bind fun y1=>(N0 K y1 a0.2).bind fun y2=>some y2
def AhO:Mdl:=⟨[(.ro,sM),(.ro,sV)],[sV],fun x=>V6 K x.1 x.2.1⟩
def AxH:Env:=eE K [(57,Anz K),(174,AhO K)] [0,1,2,3,4,5,6]
def AbP (a0:Int×Int×Int) (a1:tA×Int×Int) (a2:Int×Int):Option tV :=
  (V6 K a1 a2).bind fun y1=>(Afb K a0 y1).bind fun y2=>some y2
def AsS:Mdl:=⟨[(.ro,sL),(.ro,sM),(.ro,sV)],[sV],fun x=>AbP K x.1 x.2.1 x.2.2.1⟩
def QO:Env:=eE K [(200,AhH K)] [0,1,3,4,5,17,31]
def S4 (a0:List tV) (a1:Int×Int) (L3:Int→Option (List tV)) (q4:Int):Option (List tV) :=
  (bif ((decide (0≤q4)&&decide (q4<(a0.length:Int)))||(!(decide (q4<(a0.length:Int))))) then ((bif (decide (q4<(a0.length:Int))) then V3 K (a0.getD ((0:Int)+q4).toNat ((0:Int),(0:Int))) a1 else some false)).bind fun y5=>(bif (bif (decide (q4<(a0.length:Int))) then y5 else false) then L3 (w (q4+(1:Int))) else (bif ((decide (0≤q4)&&decide (q4<(a0.length:Int)))||(!(decide (q4<(a0.length:Int))))) then (bif (bif (decide (q4<(a0.length:Int))) then (((a0.getD ((0:Int)+q4).toNat ((0:Int),(0:Int))).1==a1.1)&&((a0.getD ((0:Int)+q4).toNat ((0:Int),(0:Int))).2==a1.2)) else false) then some a0 else (bif (decide (0≤(0:Int))&&decide ((0:Int)≤q4)&&decide (q4≤(a0.length:Int))) then (bif (Nat.ble (0+((a0.take ((0:Int)+q4).toNat).drop 0).length) (lim 16)) then (bif (Nat.ble (([]++((a0.take ((0:Int)+q4).toNat).drop 0)).length+[a1].length) (lim 16)) then (bif (decide (0≤q4)&&decide (q4≤(a0.length:Int))&&decide ((a0.length:Int)≤(a0.length:Int))) then (bif (Nat.ble ((([]++((a0.take ((0:Int)+q4).toNat).drop 0))++[a1]).length+((a0.take ((0:Int)+(a0.length:Int)).toNat).drop ((0:Int)+q4).toNat).length) (lim 16)) then some ((([]++((a0.take ((0:Int)+q4).toNat).drop 0))++[a1])++((a0.take ((0:Int)+(a0.length:Int)).toNat).drop ((0:Int)+q4).toNat)) else none) else none) else none) else none) else none)) else none)) else none)
def MF (a0:List tV) (a1:Int×Int) (n:Nat) (q4:Int):Option (List tV) :=
  Ax (X:=Int) (fun L x=>S4 K a0 a1 (fun v0=>L v0) x) n q4
def YP (K:Nat) (a0:List tV) (a1:Int×Int) (I3:Int→Option (List tV)):Option (List tV) :=
  I3 (0:Int)
def V7 (a0:List tV) (a1:Int×Int):Option (List tV) :=
  YP K a0 a1 (fun d0=>MF K a0 a1 K d0)
def AbQ:Mdl:=⟨[(.mv,(.list 59 sV)),(.ro,sV)],[(.list 59 sV)],fun x=>V7 K x.1 x.2.1⟩
def AnG (a0:List tV) (a1:Int×Int) (lr:LR (List tV)):Ex→Fr→Option (List tV) :=
  Ak (QO K) 1 lr Ass [1,1,0,0] (fM (QO K) Tryz.f159 (AbQ K) (a0,a1,()))
def AbR (a0:List tV) (a1:Int×Int) (lr:LR (List tV)) (bq4:Int):Option (List tV) :=
  lr (AB Ass [1,1,0,0,0]) (Vm a0 a1 bq4) (AnG K a0 a1 lr)
def QP:Env:=eE K [(159,AbQ K),(160,AsS K)] [0,1,2,3,5,6,7,8,13]
def H9 (a0:Int×Int×Int) (a1:List tM) (a2:Int×Int) (L4:Int→(List tV)→Option (List tV)) (q5:Int) (q6:List tV):Option (List tV) :=
  (bif (decide (q5<(a1.length:Int))) then (bif (decide (0≤q5)&&decide (q5<(a1.length:Int))) then (AbP K a0 ((((a1.getD ((0:Int)+q5).toNat zM).1).1,(((a1.getD ((0:Int)+q5).toNat zM).1).2).1,((((a1.getD ((0:Int)+q5).toNat zM).1).2).2)),((a1.getD ((0:Int)+q5).toNat zM).2)) a2).bind fun y7=>(V7 K q6 y7).bind fun y8=>L4 (w (q5+(1:Int))) y8 else none) else some q6)
def S5 (a0:Int×Int×Int) (a1:List tM) (a2:Int×Int) (n:Nat) (q5:Int) (q6:List tV):Option (List tV) :=
  Ax (X:=Int×List tV) (fun L x=>H9 K a0 a1 a2 (fun v0 v1=>L (v0,v1)) x.1 x.2) n (q5,q6)
def YQ (K:Nat) (a0:Int×Int×Int) (a1:List tM) (a2:Int×Int) (I4:Int→(List tV)→Option (List tV)):Option (List tV) :=
  I4 (0:Int) []
def V8 (a0:Int×Int×Int) (a1:List tM) (a2:Int×Int):Option (List tV) :=
  YQ K a0 a1 a2 (fun d0 d1=>S5 K a0 a1 a2 K d0 d1)
def AbS:Mdl:=⟨[(.ro,sL),(.ro,(.list 78 sM)),(.ro,sV)],[(.list 59 sV)],fun x=>V8 K x.1 x.2.1 x.2.2.1⟩
def AnH (a0:Int×Int×Int) (a1:List tM) (a2:Int×Int) (lr:LR (List tV)):Ex→Fr→Option (List tV) :=
  Ak (QP K) 1 lr Ast [1,1,0,1,0] (fM (QP K) Tryz.f104 (AbS K) (a0,a1,a2,()))
def AbT (a0:Int×Int×Int) (a1:List tM) (a2:Int×Int) (lr:LR (List tV)) (bq5:Int) (bq6:List tV):Option (List tV) :=
  lr (AB Ast [1,1,0,1,0,0]) (Vn a0 a1 a2 bq5 bq6) (AnH K a0 a1 a2 lr)
def Afd:Env:=eE K [(33,S3 K),(104,AbS K)] [0,1,2,4,5,6,7,8,15,32]
def K2 (a0:Int×Int×Int) (a1:List tM) (y1:List tV) (L4:Int→(List (List tV))→Option (List (List tV))) (q5:Int) (q6:List (List tV)):Option (List (List tV)) :=
  (bif (decide (q5<(y1.length:Int))) then (bif (decide (0≤q5)&&decide (q5<(y1.length:Int))) then (V8 K a0 a1 (y1.getD ((0:Int)+q5).toNat ((0:Int),(0:Int)))).bind fun y7=>(bif (decide (0≤(0:Int))&&decide ((0:Int)<(y7.length:Int))) then (bif (decide (0≤q5)&&decide (q5<(y1.length:Int))) then (bif (((y7.getD ((0:Int)+(0:Int)).toNat ((0:Int),(0:Int))).1==(y1.getD ((0:Int)+q5).toNat ((0:Int),(0:Int))).1)&&((y7.getD ((0:Int)+(0:Int)).toNat ((0:Int),(0:Int))).2==(y1.getD ((0:Int)+q5).toNat ((0:Int),(0:Int))).2)) then (bif (Nat.ble (q6.length+[y7].length) (lim 24)) then L4 (w (q5+(1:Int))) (q6++[y7]) else none) else L4 (w (q5+(1:Int))) q6) else none) else none) else none) else some q6)
def YR (a0:Int×Int×Int) (a1:List tM) (y1:List tV) (n:Nat) (q5:Int) (q6:List (List tV)):Option (List (List tV)) :=
  Ax (X:=Int×List (List tV)) (fun L x=>K2 K a0 a1 y1 (fun v0 v1=>L (v0,v1)) x.1 x.2) n (q5,q6)
def AhP (a0:Int×Int×Int) (a1:List tM) (I4:(List tV)→Int→(List (List tV))→Option (List (List tV))):Option (List (List tV)) :=
  (Qf K a0).bind fun y1=>I4 y1 (0:Int) []
def Afe (a0:Int×Int×Int) (a1:List tM):Option (List (List tV)) :=
  AhP K a0 a1 (fun c0 d0 d1=>YR K a0 a1 c0 K d0 d1)
def AhQ:Mdl:=⟨[(.ro,sL),(.ro,(.list 78 sM))],[(.list 69 (.list 59 sV))],fun x=>Afe K x.1 x.2.1⟩
def Aui (a0:Int×Int×Int) (a1:List tM) (lr:LR (List (List tV))):Ex→Fr→Option (List (List tV)) :=
  Ak (Afd K) 1 lr Aw4 [1,1,1,0,1,0] (fM (Afd K) Tryz.f51 (AhQ K) (a0,a1,()))
def AhR (a0:Int×Int×Int) (a1:List tM) (lr:LR (List (List tV))) (y1:List tV) (bq5:Int) (bq6:List (List tV)):Option (List (List tV)) :=
  lr (AB Aw4 [1,1,1,0,1,0,0]) (Abc a0 a1 y1 bq5 bq6) (Aui K a0 a1 lr)
def AzM:Env:=eE K [(57,Anz K)] [0,1,2,3,4]
def N6 (a0:Int×Int×Int) (a1:Int×Int):Option Int :=
  (Afb K a0 a1).bind fun y1=>some (w ((w (y1.1*a0.2.2))+y1.2))
def AhS:Mdl:=⟨[(.ro,sL),(.ro,sV)],[sI],fun x=>N6 K x.1 x.2.1⟩
def S6:Env:=eE K [(24,AhS K),(51,AhQ K)] [0,1,2,4,5,6,7,8,21,30]
def Ia (a0:Int×Int×Int) (a1:List tM) (q10:Int) (y1:List (List tV)) (L9 L12:Int→(List Int)→Option (List Int)) (q13:Int) (q14:List Int):Option (List Int) :=
  (bif (decide (0≤q10)&&decide (q10<(y1.length:Int))) then (bif (decide (q13<((y1.getD ((0:Int)+q10).toNat []).length:Int))) then (bif (decide (0≤q10)&&decide (q10<(y1.length:Int))) then (bif (decide (0≤q13)&&decide (q13<((y1.getD ((0:Int)+q10).toNat []).length:Int))) then (N6 K a0 ((y1.getD ((0:Int)+q10).toNat []).getD ((0:Int)+q13).toNat ((0:Int),(0:Int)))).bind fun y15=>(bif (decide (0≤y15)&&decide (y15<(q14.length:Int))) then L12 (w (q13+(1:Int))) (q14.set ((0:Int)+y15).toNat q10) else none) else none) else none) else L9 (w (q10+(1:Int))) q14) else none)
def MG (a0:Int×Int×Int) (a1:List tM) (q10:Int) (y1:List (List tV)) (L9:Int→(List Int)→Option (List Int)) (n:Nat) (q13:Int) (q14:List Int):Option (List Int) :=
  Ax (X:=Int×List Int) (fun L x=>Ia K a0 a1 q10 y1 L9 (fun v0 v1=>L (v0,v1)) x.1 x.2) n (q13,q14)
def Je (K:Nat) (a0:Int×Int×Int) (a1:List tM) (y1:List (List tV)) (I12:Int→Int→(List Int)→Option (List Int)) (L9:Int→(List Int)→Option (List Int)) (q10:Int) (q11:List Int):Option (List Int) :=
  (bif (decide (q10<(y1.length:Int))) then I12 q10 (0:Int) q11 else some q11)
def AhT (a0:Int×Int×Int) (a1:List tM) (y1:List (List tV)) (n:Nat) (q10:Int) (q11:List Int):Option (List Int) :=
  Ax (X:=Int×List Int) (fun L x=>(fun L9=>Je K a0 a1 y1 (fun c0 d0 d1=>MG K a0 a1 c0 y1 L9 K d0 d1) L9 x.1 x.2) (fun v0 v1=>L (v0,v1))) n (q10,q11)
def AhU (a0:Int×Int×Int) (a1:List tM) (I9:(List (List tV))→Int→(List Int)→Option (List Int)):Option (List Int) :=
  (bif (decide (0≤(w (a0.1*a0.2.2)))&&Nat.ble (w (a0.1*a0.2.2)).toNat (lim 8)&&((w (a0.1*a0.2.2))==(w (a0.1*a0.2.2)))) then (Afe K a0 a1).bind fun y1=>I9 y1 (0:Int) (List.replicate (w (a0.1*a0.2.2)).toNat (0:Int)) else none)
def Qg (a0:Int×Int×Int) (a1:List tM):Option (List Int) :=
  AhU K a0 a1 (fun c0 d0 d1=>AhT K a0 a1 c0 K d0 d1)
def Aff:Mdl:=⟨[(.ro,sL),(.ro,(.list 78 sM))],[(.list 2 sI)],fun x=>Qg K x.1 x.2.1⟩
def AhV (a0:Int×Int×Int) (a1:List tM) (lr:LR (List Int)):Ex→Fr→Option (List Int) :=
  Ak (S6 K) 1 lr Anl [1,1,1,0,1,0] (fM (S6 K) Tryz.f22 (Aff K) (a0,a1,()))
def AhW (a0:Int×Int×Int) (a1:List tM) (lr:LR (List Int)) (y1:List (List tV)) (bq10:Int) (bq11:List Int):Option (List Int) :=
  lr (AB Anl [1,1,1,0,1,0,0]) (JG a0 a1 y1 bq10 bq11) (AhV K a0 a1 lr)
def AnI (a0:Int×Int×Int) (a1:List tM) (y1:List (List tV)) (F9:Fr→Option (List Int)) (bq10:Int) (bq11:List Int) (lr:LR (List Int)):Ex→Fr→Option (List Int) :=
  Ak (S6 K) 1 lr (AB Anl [1,1,1,0,1,0,0]) [1,0,0,1,0] (D3 1 (JG a0 a1 y1 bq10 bq11) F9 (AhV K a0 a1 lr))
def AbU (a0:Int×Int×Int) (a1:List tM) (y1:List (List tV)) (F9:Fr→Option (List Int)) (bq10:Int) (bq11:List Int) (lr:LR (List Int)) (q10 bq13:Int) (bq14:List Int):Option (List Int) :=
  lr (AB Anl [1,1,1,0,1,0,0,1,0,0,1,0,0]) (Vo a0 a1 q10 y1 bq13 bq14) (AnI K a0 a1 y1 F9 bq10 bq11 lr)
def EW:Env:=⟨[(22,Aff K),(23,V5 K),(52,Anv K),(53,AnA K),(70,Ahs K)],tys,eqs,mts,K,[0,1,2,5,6,7,8,9,10,11,12,13,14,15,23,29,35,60,72],[(26,NZ K),(42,Auf K)],[],[],[],[],[],false⟩
def S7 (K:Nat) (a0:(List Int)×Int×Int) (a1:Int) (a2:Int×Int×Int) (q9:Int) (q12:List tM) (q21 q22 q23:Int) (q24:List Int) (y1:Int) (y3:tV×Int) (y15:List tM) (y16:List Int) (y17:tV×Int) (L27:Int→(List Int)→Option (tV×Int×tL×List Int)) (q28:Int) (q29:List Int):Option (tV×Int×tL×List Int) :=
  (bif (decide (q28<(y16.length:Int))) then (bif (decide (0≤q28)&&decide (q28<(y16.length:Int))) then (bif (decide (0≤(y16.getD ((0:Int)+q28).toNat (0:Int)))&&decide ((y16.getD ((0:Int)+q28).toNat (0:Int))<(q24.length:Int))) then (bif (Nat.ble (q29.length+[(q24.getD ((0:Int)+(y16.getD ((0:Int)+q28).toNat (0:Int))).toNat (0:Int))].length) (lim 8)) then L27 (w (q28+(1:Int))) (q29++[(q24.getD ((0:Int)+(y16.getD ((0:Int)+q28).toNat (0:Int))).toNat (0:Int))]) else none) else none) else none) else some ((q22,q23),a1,a2,q29))
def JO (a0:(List Int)×Int×Int) (a1:Int) (a2:Int×Int×Int) (q9:Int) (q12:List tM) (q21 q22 q23:Int) (q24:List Int) (y1:Int) (y3:tV×Int) (y15:List tM) (y16:List Int) (y17:tV×Int) (n:Nat) (q28:Int) (q29:List Int):Option (tV×Int×tL×List Int) :=
  Ax (X:=Int×List Int) (fun L x=>S7 K a0 a1 a2 q9 q12 q21 q22 q23 q24 y1 y3 y15 y16 y17 (fun v0 v1=>L (v0,v1)) x.1 x.2) n (q28,q29)
def MH (a0:(List Int)×Int×Int) (a1:Int) (a2:Int×Int×Int) (q9:Int) (q12:List tM) (y1:Int) (y3:tV×Int) (y15:List tM) (y16:List Int) (y17:tV×Int) (I27:Int→(List tM)→Int→Int→Int→(List Int)→Int→(tV×Int)→(List tM)→(List Int)→(tV×Int)→Int→(List Int)→Option (tV×Int×tL×List Int)) (L20:Int→Int→Int→(List Int)→Option (tV×Int×tL×List Int)) (q21 q22 q23:Int) (q24:List Int):Option (tV×Int×tL×List Int) :=
  (bif (decide (q21<(y16.length:Int))) then (AL K (a0.1,q22,q23) (w ((2:Int)+y17.2))).bind fun y25=>(bif (Nat.ble (q24.length+[y25.2].length) (lim 8)) then L20 (w (q21+(1:Int))) y25.1.1 y25.1.2 (q24++[y25.2]) else none) else I27 q9 q12 q21 q22 q23 q24 y1 y3 y15 y16 y17 (0:Int) [])
def JP (a0:(List Int)×Int×Int) (a1:Int) (a2:Int×Int×Int) (q9:Int) (q12:List tM) (y1:Int) (y3:tV×Int) (y15:List tM) (y16:List Int) (y17:tV×Int) (n:Nat) (q21 q22 q23:Int) (q24:List Int):Option (tV×Int×tL×List Int) :=
  Ax (X:=Int×Int×Int×List Int) (fun L x=>MH K a0 a1 a2 q9 q12 y1 y3 y15 y16 y17 (fun c0 c1 c2 c3 c4 c5 c6 c7 c8 c9 c10 d0 d1=>JO K a0 a1 a2 c0 c1 c2 c3 c4 c5 c6 c7 c8 c9 c10 K d0 d1) (fun v0 v1 v2 v3=>L (v0,v1,v2,v3)) x.1 x.2.1 x.2.2.1 x.2.2.2) n (q21,q22,q23,q24)
def S8 (a0:(List Int)×Int×Int) (a1:Int) (a2:Int×Int×Int) (y1:Int) (y2:tA×Int×Int) (y3:tV×Int) (I20:Int→(List tM)→Int→(tV×Int)→(List tM)→(List Int)→(tV×Int)→Int→Int→Int→(List Int)→Option (tV×Int×tL×List Int)) (L8:Int→Int→Int→(List tM)→Option (tV×Int×tL×List Int)) (q9 q10 q11:Int) (q12:List tM):Option (tV×Int×tL×List Int) :=
  (bif (decide (q9>(0:Int))) then (Qe K (a0.1,q10,q11) a1 a2).bind fun y13=>(Afc K a2 y13.2).bind fun y14=>(bif (Nat.ble (q12.length+[y14].length) (lim 48)) then L8 (w (q9-(1:Int))) y13.1.1 y13.1.2 (q12++[y14]) else none) else (FG K a2 q12).bind fun y15=>(Qg K a2 y15).bind fun y16=>(AL K (a0.1,q10,q11) (3:Int)).bind fun y17=>I20 q9 q12 y1 y3 y15 y16 y17 (0:Int) y17.1.1 y17.1.2 [])
def S9 (a0:(List Int)×Int×Int) (a1:Int) (a2:Int×Int×Int) (y1:Int) (y2:tA×Int×Int) (y3:tV×Int) (n:Nat) (q9 q10 q11:Int) (q12:List tM):Option (tV×Int×tL×List Int) :=
  Ax (X:=Int×Int×Int×List tM) (fun L x=>S8 K a0 a1 a2 y1 y2 y3 (fun c0 c1 c2 c3 c4 c5 c6 d0 d1 d2 d3=>JP K a0 a1 a2 c0 c1 c2 c3 c4 c5 c6 K d0 d1 d2 d3) (fun v0 v1 v2 v3=>L (v0,v1,v2,v3)) x.1 x.2.1 x.2.2.1 x.2.2.2) n (q9,q10,q11,q12)
def Ta (K:Nat) (a0:(List Int)×Int×Int) (a1:Int) (a2:Int×Int×Int) (q39 q40 q41:Int) (q42 q43:List Int) (y1:Int) (y2:tA×Int×Int) (y3:tV×Int) (y30:List Int) (y31:tV×Int) (L46:Int→(List Int)→Option (tV×Int×tL×List Int)) (q47:Int) (q48:List Int):Option (tV×Int×tL×List Int) :=
  (bif (decide (q47<(y30.length:Int))) then (bif (decide (0≤q47)&&decide (q47<(y30.length:Int))) then (bif (decide (0≤(y30.getD ((0:Int)+q47).toNat (0:Int)))&&decide ((y30.getD ((0:Int)+q47).toNat (0:Int))<(q43.length:Int))) then (bif (Nat.ble (q48.length+[(q43.getD ((0:Int)+(y30.getD ((0:Int)+q47).toNat (0:Int))).toNat (0:Int))].length) (lim 8)) then L46 (w (q47+(1:Int))) (q48++[(q43.getD ((0:Int)+(y30.getD ((0:Int)+q47).toNat (0:Int))).toNat (0:Int))]) else none) else none) else none) else some ((q40,q41),a1,a2,q48))
def JQ (a0:(List Int)×Int×Int) (a1:Int) (a2:Int×Int×Int) (q39 q40 q41:Int) (q42 q43:List Int) (y1:Int) (y2:tA×Int×Int) (y3:tV×Int) (y30:List Int) (y31:tV×Int) (n:Nat) (q47:Int) (q48:List Int):Option (tV×Int×tL×List Int) :=
  Ax (X:=Int×List Int) (fun L x=>Ta K a0 a1 a2 q39 q40 q41 q42 q43 y1 y2 y3 y30 y31 (fun v0 v1=>L (v0,v1)) x.1 x.2) n (q47,q48)
def MI (a0:(List Int)×Int×Int) (a1:Int) (a2:Int×Int×Int) (y1:Int) (y2:tA×Int×Int) (y3:tV×Int) (y30:List Int) (y31:tV×Int) (I46:Int→Int→Int→(List Int)→(List Int)→Int→tM→(tV×Int)→(List Int)→(tV×Int)→Int→(List Int)→Option (tV×Int×tL×List Int)) (L38:Int→Int→Int→(List Int)→(List Int)→Option (tV×Int×tL×List Int)) (q39 q40 q41:Int) (q42 q43:List Int):Option (tV×Int×tL×List Int) :=
  (bif (decide (q39<(y30.length:Int))) then (AL K (a0.1,q40,q41) (w ((2:Int)+y31.2))).bind fun y44=>(bif (Nat.ble (q43.length+[y44.2].length) (lim 8)) then L38 (w (q39+(1:Int))) y44.1.1 y44.1.2 q42 (q43++[y44.2]) else none) else I46 q39 q40 q41 q42 q43 y1 y2 y3 y30 y31 (0:Int) [])
def MJ (a0:(List Int)×Int×Int) (a1:Int) (a2:Int×Int×Int) (y1:Int) (y2:tA×Int×Int) (y3:tV×Int) (y30:List Int) (y31:tV×Int) (n:Nat) (q39 q40 q41:Int) (q42 q43:List Int):Option (tV×Int×tL×List Int) :=
  Ax (X:=Int×Int×Int×List Int×List Int) (fun L x=>MI K a0 a1 a2 y1 y2 y3 y30 y31 (fun c0 c1 c2 c3 c4 c5 c6 c7 c8 c9 d0 d1=>JQ K a0 a1 a2 c0 c1 c2 c3 c4 c5 c6 c7 c8 c9 K d0 d1) (fun v0 v1 v2 v3 v4=>L (v0,v1,v2,v3,v4)) x.1 x.2.1 x.2.2.1 x.2.2.2.1 x.2.2.2.2) n (q39,q40,q41,q42,q43)
def AhX (a0:(List Int)×Int×Int) (a1:Int) (a2:Int×Int×Int) (I8:Int→tM→(tV×Int)→Int→Int→Int→(List tM)→Option (tV×Int×tL×List Int)) (I38:Int→tM→(tV×Int)→(List Int)→(tV×Int)→Int→Int→Int→(List Int)→(List Int)→Option (tV×Int×tL×List Int)):Option (tV×Int×tL×List Int) :=
  (YK K a1 a2).bind fun y1=>(bif (y1 != (0:Int)) then some (a0.2,a1,a2,[]) else (VV K).bind fun y2=>(AL K a0 (4:Int)).bind fun y3=>(bif (decide (y3.2>(0:Int))) then (AL K (a0.1,y3.1) (2:Int)).bind fun y4=>I8 y1 y2 y3 (w ((1:Int)+y4.2)) y4.1.1 y4.1.2 [] else (Qg K a2 [y2]).bind fun y30=>(AL K (a0.1,y3.1) (3:Int)).bind fun y31=>I38 y1 y2 y3 y30 y31 (0:Int) y31.1.1 y31.1.2 [] []))
def AhY (a0:(List Int)×Int×Int) (a1:Int) (a2:Int×Int×Int):Option (tV×Int×tL×List Int) :=
  AhX K a0 a1 a2 (fun c0 c1 c2 d0 d1 d2 d3=>S9 K a0 a1 a2 c0 c1 c2 K d0 d1 d2 d3) (fun c0 c1 c2 c3 c4 d0 d1 d2 d3 d4=>MJ K a0 a1 a2 c0 c1 c2 c3 c4 K d0 d1 d2 d3 d4)
def AxI:Fx:=⟨5,(.int .u8),sV,[(.ro,sI),(.ro,sL)],[(.cons sI (.cons sL (.list 2 sI)))],fun x=>AhY K x.1 x.2.1 x.2.2.1⟩
def AnJ (a0:(List Int)×Int×Int) (a1:Int) (a2:Int×Int×Int) (lr:LR (tV×Int×tL×List Int)):Ex→Fr→Option (tV×Int×tL×List Int) :=
  Ak (EW K) 1 lr Qc [1,1,1,1,1,1,1,1,0,1,0] (Jd (EW K) Tryz.f60 sV [(.cons sI (.cons sL (.list 2 sI)))])
def AbV (a0:(List Int)×Int×Int) (a1:Int) (a2:Int×Int×Int) (lr:LR (tV×Int×tL×List Int)) (q9:Int) (q12:List tM) (y1:Int) (y3:tV×Int) (y15:List tM) (y16:List Int) (y17:tV×Int) (bq21 bq22 bq23:Int) (bq24:List Int):Option (tV×Int×tL×List Int) :=
  lr (AB Qc [1,1,1,1,1,1,1,1,0,1,0,0]) (NQ a0 a1 a2 q9 q12 y1 y3 y15 y16 y17 bq21 bq22 bq23 bq24) (AnJ K a0 a1 a2 lr)
def Auj (a0:(List Int)×Int×Int) (a1:Int) (a2:Int×Int×Int) (lr:LR (tV×Int×tL×List Int)):Ex→Fr→Option (tV×Int×tL×List Int) :=
  Ak (EW K) 1 lr Qc [1,1,1,1,0,1,0,1,0,1,0] (Jd (EW K) Tryz.f60 sV [(.cons sI (.cons sL (.list 2 sI)))])
def AhZ (a0:(List Int)×Int×Int) (a1:Int) (a2:Int×Int×Int) (lr:LR (tV×Int×tL×List Int)) (y1:Int) (y2:tA×Int×Int) (y3:tV×Int) (bq9 bq10 bq11:Int) (bq12:List tM):Option (tV×Int×tL×List Int) :=
  lr (AB Qc [1,1,1,1,0,1,0,1,0,1,0,0]) (SV a0 a1 a2 y1 y2 y3 bq9 bq10 bq11 bq12) (Auj K a0 a1 a2 lr)
def AnK (a0:(List Int)×Int×Int) (a1:Int) (a2:Int×Int×Int) (lr:LR (tV×Int×tL×List Int)):Ex→Fr→Option (tV×Int×tL×List Int) :=
  Ak (EW K) 1 lr Qc [1,1,1,1,1,1,1,1,0,1,0] (Jd (EW K) Tryz.f60 sV [(.cons sI (.cons sL (.list 2 sI)))])
def AbW (a0:(List Int)×Int×Int) (a1:Int) (a2:Int×Int×Int) (lr:LR (tV×Int×tL×List Int)) (y1:Int) (y2:tA×Int×Int) (y3:tV×Int) (y30:List Int) (y31:tV×Int) (bq39 bq40 bq41:Int) (bq42 bq43:List Int):Option (tV×Int×tL×List Int) :=
  lr (AB Qc [1,1,1,1,1,1,1,1,0,1,0,0]) (NR a0 a1 a2 y1 y2 y3 y30 y31 bq39 bq40 bq41 bq42 bq43) (AnK K a0 a1 a2 lr)
def AnL (a0:(List Int)×Int×Int) (a1:Int) (a2:Int×Int×Int) (lr:LR (tV×Int×tL×List Int)):Ex→Fr→Option (tV×Int×tL×List Int) :=
  Ak (EW K) 1 lr Qc [1,1,1,1,1,1,1,1,1,0,1,0] (Jd (EW K) Tryz.f60 sV [(.cons sI (.cons sL (.list 2 sI)))])
def AbX (a0:(List Int)×Int×Int) (a1:Int) (a2:Int×Int×Int) (lr:LR (tV×Int×tL×List Int)) (q9:Int) (q12:List tM) (q21 q22 q23:Int) (q24:List Int) (y1:Int) (y3:tV×Int) (y15:List tM) (y16:List Int) (y17:tV×Int) (bq28:Int) (bq29:List Int):Option (tV×Int×tL×List Int) :=
  lr (AB Qc [1,1,1,1,1,1,1,1,1,0,1,0,0]) (Vp a0 a1 a2 q9 q12 q21 q22 q23 q24 y1 y3 y15 y16 y17 bq28 bq29) (AnL K a0 a1 a2 lr)
def AnM (a0:(List Int)×Int×Int) (a1:Int) (a2:Int×Int×Int) (lr:LR (tV×Int×tL×List Int)):Ex→Fr→Option (tV×Int×tL×List Int) :=
  Ak (EW K) 1 lr Qc [1,1,1,1,1,1,1,1,1,0,1,0] (Jd (EW K) Tryz.f60 sV [(.cons sI (.cons sL (.list 2 sI)))])
def AbY (a0:(List Int)×Int×Int) (a1:Int) (a2:Int×Int×Int) (lr:LR (tV×Int×tL×List Int)) (q39 q40 q41:Int) (q42 q43:List Int) (y1:Int) (y2:tA×Int×Int) (y3:tV×Int) (y30:List Int) (y31:tV×Int) (bq47:Int) (bq48:List Int):Option (tV×Int×tL×List Int) :=
  lr (AB Qc [1,1,1,1,1,1,1,1,1,0,1,0,0]) (Vq a0 a1 a2 q39 q40 q41 q42 q43 y1 y2 y3 y30 y31 bq47 bq48) (AnM K a0 a1 a2 lr)
def AzN:Env:=⟨[],tys,eqs,mts,K,[0,2,3,4,5,16,17,24,29],[(26,NZ K),(59,Axn K),(60,AxI K),(61,Ant K)],[],[],[],[],[],false⟩
def Ah0 (a0:(List Int)×Int×Int):Option (tV×Int×tL×List Int) :=
  (Anu K a0).bind fun y1=>(AhY K (a0.1,y1.1) y1.2.1 y1.2.2).bind fun y2=>(AL K (a0.1,y2.1) (60:Int)).bind fun y3=>(bif (y3.2==(0:Int)) then (bif (Nat.ble (y2.2.2.2.length+[(0:Int)].length) (lim 8)) then some (y3.1,y2.2.1,y2.2.2.1,(y2.2.2.2++[(0:Int)])) else none) else (bif (y3.2==(1:Int)) then (bif (decide ((y2.2.2.2.length:Int)>(0:Int))) then (VT K (a0.1,y3.1) [(-1:Int),(9:Int),(10:Int)]).bind fun y4=>(bif (decide (0≤(0:Int))&&decide ((0:Int)<(y2.2.2.2.length:Int))) then some (y4.1,y2.2.1,y2.2.2.1,(y2.2.2.2.set ((0:Int)+(0:Int)).toNat y4.2)) else none) else some (y3.1,y2.2)) else some (y3.1,y2.2)))
def Auk:Fx:=⟨5,(.int .u8),sV,[],[(.cons sI (.cons sL (.list 2 sI)))],fun x=>Ah0 K x.1⟩
def Afg:Env:=eE K [(125,Abz K)] [0,1,2,3,8,9,13,23]
def Tb (a0:List Int) (a1 a2 a3:Int) (L3:Int→Option Bool) (q4:Int):Option Bool :=
  (bif (decide (q4<(a0.length:Int))) then (bif (decide (0≤q4)&&decide (q4<(a0.length:Int))) then (JL K (a0.getD ((0:Int)+q4).toNat (0:Int)) a2 a3).bind fun y5=>(bif (!y5) then some false else L3 (w (q4+(1:Int)))) else none) else some (decide ((a0.length:Int)≤a1)))
def YS (a0:List Int) (a1 a2 a3:Int) (n:Nat) (q4:Int):Option Bool :=
  Ax (X:=Int) (fun L x=>Tb K a0 a1 a2 a3 (fun v0=>L v0) x) n q4
def Ah1 (K:Nat) (a0:List Int) (a1 a2 a3:Int) (I3:Int→Option Bool):Option Bool :=
  I3 (0:Int)
def Ah2 (a0:List Int) (a1 a2 a3:Int):Option Bool :=
  Ah1 K a0 a1 a2 a3 (fun d0=>YS K a0 a1 a2 a3 K d0)
def AnN:Mdl:=⟨[(.ro,(.list 2 sI)),(.ro,sI),(.ro,sI),(.ro,sI)],[.bool],fun x=>Ah2 K x.1 x.2.1 x.2.2.1 x.2.2.2.1⟩
def Aul (a0:List Int) (a1 a2 a3:Int) (lr:LR Bool):Ex→Fr→Option Bool :=
  Ak (Afg K) 1 lr Aw5 [1,0,1,0] (fM (Afg K) Tryz.f71 (AnN K) (a0,a1,a2,a3,()))
def Ah3 (a0:List Int) (a1 a2 a3:Int) (lr:LR Bool) (bq4:Int):Option Bool :=
  lr (AB Aw5 [1,0,1,0,0]) (Abd a0 a1 a2 a3 bq4) (Aul K a0 a1 a2 a3 lr)
def AzO:Env:=eE K [(70,Ahs K),(71,AnN K)] [0,1,2]
def V9 (a0:Int×tL×List Int):Option Bool :=
  (YK K a0.1 a0.2.1).bind fun y1=>((bif (bif (y1==(0:Int)) then ((a0.2.2.length:Int)==(w (a0.2.1.1*a0.2.1.2.2))) else false) then Ah2 K a0.2.2 (64:Int) (0:Int) (9:Int) else some false)).bind fun y2=>some (bif (bif (y1==(0:Int)) then ((a0.2.2.length:Int)==(w (a0.2.1.1*a0.2.1.2.2))) else false) then y2 else false)
def AnO:Mdl:=⟨[(.ro,(.cons sI (.cons sL (.list 2 sI))))],[.bool],fun x=>V9 K x.1⟩
def AzP:Env:=eE K [(24,AhS K)] [0,1,2,3,4]
def YT (a0:Int×tL×List Int) (a1:Int×Int):Option Int :=
  (N6 K a0.2.1 a1).bind fun y1=>(bif (decide (0≤y1)&&decide (y1<(a0.2.2.length:Int))) then some (a0.2.2.getD ((0:Int)+y1).toNat (0:Int)) else none)
def AnP:Mdl:=⟨[(.ro,(.cons sI (.cons sL (.list 2 sI)))),(.ro,sV)],[sI],fun x=>YT K x.1 x.2.1⟩
def QQ:Env:=eE K [(33,S3 K),(78,AnP K),(174,AhO K)] [0,1,2,3,4,5,6,13,30]
def MK (a0:Int×tL×List Int) (a1:tA×Int×Int) (y1:List tV) (L6:Int→Option Bool) (q7:Int):Option Bool :=
  (bif (decide (q7<(y1.length:Int))) then (bif (decide (0≤q7)&&decide (q7<(y1.length:Int))) then (V6 K a1 (y1.getD ((0:Int)+q7).toNat ((0:Int),(0:Int)))).bind fun y8=>(YT K a0 y8).bind fun y9=>(bif (decide (0≤q7)&&decide (q7<(y1.length:Int))) then (YT K a0 (y1.getD ((0:Int)+q7).toNat ((0:Int),(0:Int)))).bind fun y10=>(bif (y9 != y10) then some false else L6 (w (q7+(1:Int)))) else none) else none) else some true)
def Tc (a0:Int×tL×List Int) (a1:tA×Int×Int) (y1:List tV) (n:Nat) (q7:Int):Option Bool :=
  Ax (X:=Int) (fun L x=>MK K a0 a1 y1 (fun v0=>L v0) x) n q7
def YU (a0:Int×tL×List Int) (a1:tA×Int×Int) (I6:(List tV)→Int→Option Bool):Option Bool :=
  (Qf K a0.2.1).bind fun y1=>I6 y1 (0:Int)
def QR (a0:Int×tL×List Int) (a1:tA×Int×Int):Option Bool :=
  YU K a0 a1 (fun c0 d0=>Tc K a0 a1 c0 K d0)
def Wa:Mdl:=⟨[(.ro,(.cons sI (.cons sL (.list 2 sI)))),(.ro,sM)],[.bool],fun x=>QR K x.1 x.2.1⟩
def AnQ (a0:Int×tL×List Int) (a1:tA×Int×Int) (lr:LR Bool):Ex→Fr→Option Bool :=
  Ak (QQ K) 1 lr Asu [1,1,0,1,0] (fM (QQ K) Tryz.f132 (Wa K) (a0,a1,()))
def AbZ (a0:Int×tL×List Int) (a1:tA×Int×Int) (lr:LR Bool) (y1:List tV) (bq7:Int):Option Bool :=
  lr (AB Asu [1,1,0,1,0,0]) (Vr a0 a1 y1 bq7) (AnQ K a0 a1 lr)
def Afh:Env:=eE K [(33,S3 K),(83,Aht K),(132,Wa K),(133,Ahw K),(134,VY K)] [0,1,2,3,4,5,15,25]
def Td (a0:Int×tL×List Int) (y1:List tV) (L6:Int→(List tV)→Option tL) (q7:Int) (q8:List tV):Option tL :=
  (bif (decide (q7<(y1.length:Int))) then (Qd K).bind fun y9=>(bif (decide (0≤q7)&&decide (q7<(y1.length:Int))) then (QR K a0 (y9,(y1.getD ((0:Int)+q7).toNat ((0:Int),(0:Int))))).bind fun y10=>(bif y10 then (bif (decide (0≤q7)&&decide (q7<(y1.length:Int))) then (bif (Nat.ble (q8.length+[(y1.getD ((0:Int)+q7).toNat ((0:Int),(0:Int)))].length) (lim 16)) then L6 (w (q7+(1:Int))) (q8++[(y1.getD ((0:Int)+q7).toNat ((0:Int),(0:Int)))]) else none) else none) else L6 (w (q7+(1:Int))) q8) else none) else (IQ K q8).bind fun y11=>some y11)
def YV (a0:Int×tL×List Int) (y1:List tV) (n:Nat) (q7:Int) (q8:List tV):Option tL :=
  Ax (X:=Int×List tV) (fun L x=>Td K a0 y1 (fun v0 v1=>L (v0,v1)) x.1 x.2) n (q7,q8)
def Ah4 (a0:Int×tL×List Int) (I6:(List tV)→Int→(List tV)→Option tL):Option tL :=
  (Qf K a0.2.1).bind fun y1=>(VX K a0.2.1).bind fun y2=>I6 y1 (0:Int) y2
def Ah5 (a0:Int×tL×List Int):Option tL :=
  Ah4 K a0 (fun c0 d0 d1=>YV K a0 c0 K d0 d1)
def AnR:Mdl:=⟨[(.ro,(.cons sI (.cons sL (.list 2 sI))))],[sL],fun x=>Ah5 K x.1⟩
def Aum (a0:Int×tL×List Int) (lr:LR tL):Ex→Fr→Option tL :=
  Ak (Afh K) 1 lr Aw6 [1,1,1,0,1,0] (fM (Afh K) Tryz.f80 (AnR K) (a0,()))
def Ah6 (a0:Int×tL×List Int) (lr:LR tL) (y1:List tV) (bq7:Int) (bq8:List tV):Option tL :=
  lr (AB Aw6 [1,1,1,0,1,0,0]) (Abe a0 y1 bq7 bq8) (Aum K a0 lr)
def Afi:Env:=eE K [(33,S3 K),(78,AnP K)] [0,1,2,3,4,5,6,7,18]
def Te (a0:Int×tL×List Int) (a1:Int×Int×Int) (y1:List tV) (L4:Int→(List Int)→Option (Int×tL×List Int)) (q5:Int) (q6:List Int):Option (Int×tL×List Int) :=
  (bif (decide (q5<(y1.length:Int))) then (bif (decide (0≤q5)&&decide (q5<(y1.length:Int))) then (YT K a0 (y1.getD ((0:Int)+q5).toNat ((0:Int),(0:Int)))).bind fun y7=>(bif (Nat.ble (q6.length+[y7].length) (lim 8)) then L4 (w (q5+(1:Int))) (q6++[y7]) else none) else none) else some (a0.1,a1,q6))
def YW (a0:Int×tL×List Int) (a1:Int×Int×Int) (y1:List tV) (n:Nat) (q5:Int) (q6:List Int):Option (Int×tL×List Int) :=
  Ax (X:=Int×List Int) (fun L x=>Te K a0 a1 y1 (fun v0 v1=>L (v0,v1)) x.1 x.2) n (q5,q6)
def Ah7 (a0:Int×tL×List Int) (a1:Int×Int×Int) (I4:(List tV)→Int→(List Int)→Option (Int×tL×List Int)):Option (Int×tL×List Int) :=
  (Qf K a1).bind fun y1=>I4 y1 (0:Int) []
def Ah8 (a0:Int×tL×List Int) (a1:Int×Int×Int):Option (Int×tL×List Int) :=
  Ah7 K a0 a1 (fun c0 d0 d1=>YW K a0 a1 c0 K d0 d1)
def AnS:Mdl:=⟨[(.ro,(.cons sI (.cons sL (.list 2 sI)))),(.ro,sL)],[(.cons sI (.cons sL (.list 2 sI)))],fun x=>Ah8 K x.1 x.2.1⟩
def Aun (a0:Int×tL×List Int) (a1:Int×Int×Int) (lr:LR (Int×tL×List Int)):Ex→Fr→Option (Int×tL×List Int) :=
  Ak (Afi K) 1 lr Aw7 [1,1,1,0,1,0] (fM (Afi K) Tryz.f79 (AnS K) (a0,a1,()))
def Ah9 (a0:Int×tL×List Int) (a1:Int×Int×Int) (lr:LR (Int×tL×List Int)) (y1:List tV) (bq5:Int) (bq6:List Int):Option (Int×tL×List Int) :=
  lr (AB Aw7 [1,1,1,0,1,0,0]) (Abf a0 a1 y1 bq5 bq6) (Aun K a0 a1 lr)
def AzQ:Env:=eE K [(79,AnS K),(80,AnR K)] [0,1,2]
def YX (a0:Int×tL×List Int):Option (Int×tL×List Int) :=
  (Ah5 K a0).bind fun y1=>(Ah8 K a0 y1).bind fun y2=>some y2
def Auo:Mdl:=⟨[(.ro,(.cons sI (.cons sL (.list 2 sI))))],[(.cons sI (.cons sL (.list 2 sI)))],fun x=>YX K x.1⟩
def Tf:Env:=eE K [(33,S3 K),(84,AhC K),(132,Wa K)] [0,1,2,3,4,5,6,7,8,21,27,41]
def ML (a0:Int×tL×List Int) (q11:Int) (y1:List tA) (y2:List tV) (L10 L13:Int→(List tM)→Option (List tM)) (q14:Int) (q15:List tM):Option (List tM) :=
  (bif (decide (q14<(y2.length:Int))) then (bif (decide (0≤q11)&&decide (q11<(y1.length:Int))) then (bif (decide (0≤q14)&&decide (q14<(y2.length:Int))) then (QR K a0 (((y1.getD ((0:Int)+q11).toNat zA).1,((y1.getD ((0:Int)+q11).toNat zA).2).1,(((y1.getD ((0:Int)+q11).toNat zA).2).2)),(y2.getD ((0:Int)+q14).toNat ((0:Int),(0:Int))))).bind fun y16=>(bif y16 then (bif (Nat.ble (q15.length+[(((y1.getD ((0:Int)+q11).toNat zA).1,((y1.getD ((0:Int)+q11).toNat zA).2).1,(((y1.getD ((0:Int)+q11).toNat zA).2).2)),(y2.getD ((0:Int)+q14).toNat ((0:Int),(0:Int))))].length) (lim 48)) then L13 (w (q14+(1:Int))) (q15++[(((y1.getD ((0:Int)+q11).toNat zA).1,((y1.getD ((0:Int)+q11).toNat zA).2).1,(((y1.getD ((0:Int)+q11).toNat zA).2).2)),(y2.getD ((0:Int)+q14).toNat ((0:Int),(0:Int))))]) else none) else L13 (w (q14+(1:Int))) q15) else none) else none) else L10 (w (q11+(1:Int))) q15)
def JR (a0:Int×tL×List Int) (q11:Int) (y1:List tA) (y2:List tV) (L10:Int→(List tM)→Option (List tM)) (n:Nat) (q14:Int) (q15:List tM):Option (List tM) :=
  Ax (X:=Int×List tM) (fun L x=>ML K a0 q11 y1 y2 L10 (fun v0 v1=>L (v0,v1)) x.1 x.2) n (q14,q15)
def JS (K:Nat) (a0:Int×tL×List Int) (y1:List tA) (y2:List tV) (I13:Int→Int→(List tM)→Option (List tM)) (L10:Int→(List tM)→Option (List tM)) (q11:Int) (q12:List tM):Option (List tM) :=
  (bif (decide (q11<(y1.length:Int))) then I13 q11 (0:Int) q12 else some q12)
def Tg (a0:Int×tL×List Int) (y1:List tA) (y2:List tV) (n:Nat) (q11:Int) (q12:List tM):Option (List tM) :=
  Ax (X:=Int×List tM) (fun L x=>(fun L10=>JS K a0 y1 y2 (fun c0 d0 d1=>JR K a0 c0 y1 y2 L10 K d0 d1) L10 x.1 x.2) (fun v0 v1=>L (v0,v1))) n (q11,q12)
def Aia (a0:Int×tL×List Int) (I10:(List tA)→(List tV)→Int→(List tM)→Option (List tM)):Option (List tM) :=
  (Afa K a0.1 a0.2.1).bind fun y1=>(Qf K a0.2.1).bind fun y2=>I10 y1 y2 (0:Int) []
def Aib (a0:Int×tL×List Int):Option (List tM) :=
  Aia K a0 (fun c0 c1 d0 d1=>Tg K a0 c0 c1 K d0 d1)
def AnT:Mdl:=⟨[(.ro,(.cons sI (.cons sL (.list 2 sI))))],[(.list 78 sM)],fun x=>Aib K x.1⟩
def Ab0 (a0:Int×tL×List Int) (lr:LR (List tM)):Ex→Fr→Option (List tM) :=
  Ak (Tf K) 1 lr Anm [1,1,1,0,1,0] (fM (Tf K) Tryz.f77 (AnT K) (a0,()))
def Ab1 (a0:Int×tL×List Int) (lr:LR (List tM)) (y1:List tA) (y2:List tV) (bq11:Int) (bq12:List tM):Option (List tM) :=
  lr (AB Anm [1,1,1,0,1,0,0]) (Hl a0 y1 y2 bq11 bq12) (Ab0 K a0 lr)
def AnU (a0:Int×tL×List Int) (y1:List tA) (y2:List tV) (F10:Fr→Option (List tM)) (bq11:Int) (bq12:List tM) (lr:LR (List tM)):Ex→Fr→Option (List tM) :=
  Ak (Tf K) 1 lr (AB Anm [1,1,1,0,1,0,0]) [1,0,0,1,0] (D3 1 (Hl a0 y1 y2 bq11 bq12) F10 (Ab0 K a0 lr))
def Ab2 (a0:Int×tL×List Int) (y1:List tA) (y2:List tV) (F10:Fr→Option (List tM)) (bq11:Int) (bq12:List tM) (lr:LR (List tM)) (q11 bq14:Int) (bq15:List tM):Option (List tM) :=
  lr (AB Anm [1,1,1,0,1,0,0,1,0,0,1,0,0]) (Vs a0 q11 y1 y2 bq14 bq15) (AnU K a0 y1 y2 F10 bq11 bq12 lr)
omit K
def AxJ (K:Nat) (rec:Int→Option ByteArray):Env:=⟨[(74,⟨[(.ro,sI)],[.str],fun x=>rec x.1⟩)],tys,eqs,mts,K,[0,2,4],[],[],[],[],[],[],false⟩
def Ab3 (K:Nat) (rec:Int→Option ByteArray) (a0:Int):Option ByteArray :=
  (bif (decide (a0<(10:Int))) then some (strOfNums [(IntKind.u8.wrap (w ((48:Int)+a0)))]) else (rec (w (a0.tdiv (10:Int)))).bind fun y1=>(bif (Nat.ble (y1.size+(strOfNums [(IntKind.u8.wrap (w ((48:Int)+(a0.tmod (10:Int)))))]).size) 9223372036854775807) then some (y1++(strOfNums [(IntKind.u8.wrap (w ((48:Int)+(a0.tmod (10:Int)))))])) else none))
def YY (K:Nat):Nat→Int→Option ByteArray
  | 0=>fun _=>none
  | n+1=>fun a0=>Ab3 K (YY K n) a0
def YZ (K:Nat) (a0:Int):Option ByteArray:=YY K K a0
def AnV (K:Nat):Mdl:=⟨[(.ro,sI)],[.str],fun x=>YZ K x.1⟩
include K
def AxK:Env:=eE K [(74,AnV K)] [0,2,4]
def N7 (a0:Int):Option ByteArray :=
  (bif (decide (a0<(0:Int))) then (YZ K (w (0-a0))).bind fun y1=>(bif (Nat.ble ((bs [45]).size+y1.size) 9223372036854775807) then some ((bs [45])++y1) else none) else (YZ K a0).bind fun y2=>some y2)
def Aic:Mdl:=⟨[(.ro,sI)],[.str],fun x=>N7 K x.1⟩
def QS:Env:=eE K [(128,Aic K)] [0,1,4,5,6,10,14]
def Th (a0:List Int) (a1:ByteArray) (L3:ByteArray→Int→Option ByteArray) (q4:ByteArray) (q5:Int):Option ByteArray :=
  (bif (decide (q5<(a0.length:Int))) then (bif (decide (q5>(0:Int))) then (bif (Nat.ble (q4.size+a1.size) 9223372036854775807) then (bif (decide (0≤q5)&&decide (q5<(a0.length:Int))) then (N7 K (a0.getD ((0:Int)+q5).toNat (0:Int))).bind fun y6=>(bif (Nat.ble ((q4++a1).size+y6.size) 9223372036854775807) then L3 ((q4++a1)++y6) (w (q5+(1:Int))) else none) else none) else none) else (bif (decide (0≤q5)&&decide (q5<(a0.length:Int))) then (N7 K (a0.getD ((0:Int)+q5).toNat (0:Int))).bind fun y7=>(bif (Nat.ble (q4.size+y7.size) 9223372036854775807) then L3 (q4++y7) (w (q5+(1:Int))) else none) else none)) else some q4)
def MM (a0:List Int) (a1:ByteArray) (n:Nat) (q4:ByteArray) (q5:Int):Option ByteArray :=
  Ax (X:=ByteArray×Int) (fun L x=>Th K a0 a1 (fun v0 v1=>L (v0,v1)) x.1 x.2) n (q4,q5)
def Y0 (K:Nat) (a0:List Int) (a1:ByteArray) (I3:ByteArray→Int→Option ByteArray):Option ByteArray :=
  I3 ByteArray.empty (0:Int)
def QT (a0:List Int) (a1:ByteArray):Option ByteArray :=
  Y0 K a0 a1 (fun d0 d1=>MM K a0 a1 K d0 d1)
def Wb:Mdl:=⟨[(.ro,(.list 2 sI)),(.ro,.str)],[.str],fun x=>QT K x.1 x.2.1⟩
def AnW (a0:List Int) (a1:ByteArray) (lr:LR ByteArray):Ex→Fr→Option ByteArray :=
  Ak (QS K) 1 lr Asv [1,1,0,1,0] (fM (QS K) Tryz.f126 (Wb K) (a0,a1,()))
def Ab4 (a0:List Int) (a1:ByteArray) (lr:LR ByteArray) (bq4:ByteArray) (bq5:Int):Option ByteArray :=
  lr (AB Asv [1,1,0,1,0,0]) (Vt a0 a1 bq4 bq5) (AnW K a0 a1 lr)
def AzR:Env:=eE K [(124,AbA K),(126,Wb K)] [0,1,2,5]
def AnX (a0:Int×Int×Int):Option ByteArray :=
  (QF K a0).bind fun y1=>(bif (!y1) then some ByteArray.empty else (QT K [a0.1,a0.2.1,a0.2.2] (bs [44])).bind fun y2=>some y2)
def AxL:Mdl:=⟨[(.ro,sL)],[.str],fun x=>AnX K x.1⟩
def AzS:Env:=eE K [(72,AxL K)] [0,1,2]
def Wc (a0:Int×tL×List Int):Option ByteArray :=
  (bif (decide (0≤a0.1)&&decide (a0.1≤(w (a0.1+(1:Int))))&&decide ((w (a0.1+(1:Int)))≤((bs [83,72]).size:Int))) then (bif (Nat.ble ((bs [102,114,97,109,101,32]).size+((bs [83,72]).extract a0.1.toNat (w (a0.1+(1:Int))).toNat).size) 9223372036854775807) then (bif (Nat.ble (((bs [102,114,97,109,101,32])++((bs [83,72]).extract a0.1.toNat (w (a0.1+(1:Int))).toNat)).size+(bs [10,108,97,116,116,105,99,101,32]).size) 9223372036854775807) then (AnX K a0.2.1).bind fun y1=>(bif (Nat.ble ((((bs [102,114,97,109,101,32])++((bs [83,72]).extract a0.1.toNat (w (a0.1+(1:Int))).toNat))++(bs [10,108,97,116,116,105,99,101,32])).size+y1.size) 9223372036854775807) then (bif (Nat.ble (((((bs [102,114,97,109,101,32])++((bs [83,72]).extract a0.1.toNat (w (a0.1+(1:Int))).toNat))++(bs [10,108,97,116,116,105,99,101,32]))++y1).size+(bs [10]).size) 9223372036854775807) then some (((((bs [102,114,97,109,101,32])++((bs [83,72]).extract a0.1.toNat (w (a0.1+(1:Int))).toNat))++(bs [10,108,97,116,116,105,99,101,32]))++y1)++(bs [10])) else none) else none) else none) else none) else none)
def AnY:Mdl:=⟨[(.ro,(.cons sI (.cons sL (.list 2 sI))))],[.str],fun x=>Wc K x.1⟩
def AxM:Env:=eE K [(125,Abz K)] [0,1,2]
def JT (a0:Int×Int):Option Bool :=
  (JL K a0.1 (-1000:Int) (1000:Int)).bind fun y1=>((bif y1 then JL K a0.2 (-1000:Int) (1000:Int) else some false)).bind fun y2=>some (bif y1 then y2 else false)
def QU:Mdl:=⟨[(.ro,sV)],[.bool],fun x=>JT K x.1⟩
def AxN:Env:=eE K [(127,QU K)] [0,1,2]
def QV (a0:Int×Int×Int×Int):Option Bool :=
  (JT K (a0.1,a0.2.1)).bind fun y1=>((bif y1 then JT K a0.2.2 else some false)).bind fun y2=>some (bif y1 then y2 else false)
def Aid:Mdl:=⟨[(.ro,sA)],[.bool],fun x=>QV K x.1⟩
def AxO:Env:=eE K [] [0,1,2]
def QW (K:Nat) (a0:Int×Int×Int×Int):Option Int :=
  some (w ((w (a0.1*a0.2.2.2))-(w (a0.2.1*a0.2.2.1))))
def Aie:Mdl:=⟨[(.ro,sA)],[sI],fun x=>QW K x.1⟩
def AxP:Env:=eE K [(177,Aid K),(178,Aie K)] [0,1,2]
def JU (a0:Int×Int×Int×Int):Option Bool :=
  (QV K a0).bind fun y1=>((bif y1 then QW K a0 else some (0:Int))).bind fun y2=>((bif (y1&&(!(y2==(1:Int)))) then QW K a0 else some (0:Int))).bind fun y3=>some (bif y1 then (bif (y2==(1:Int)) then true else (y3==(-1:Int))) else false)
def Wd:Mdl:=⟨[(.ro,sA)],[.bool],fun x=>JU K x.1⟩
def QX:Env:=eE K [(83,Aht K),(105,AhE K),(177,Aid K)] [0,1,2,3,4,7,15,18]
def JV (a0:Int×Int×Int×Int) (L6:Int→Int→Int→Int→Int→Option Int) (q7 q8 q9 q10 q11:Int):Option Int :=
  (bif (decide (q7≤(6:Int))) then (QJ K a0 (q8,q9,q10,q11)).bind fun y12=>(QV K y12).bind fun y13=>(bif (!y13) then some (0:Int) else (Qd K).bind fun y14=>(bif ((y12.1==y14.1)&&((y12.2.1==y14.2.1)&&((y12.2.2.1==y14.2.2.1)&&(y12.2.2.2==y14.2.2.2)))) then some q7 else L6 (w (q7+(1:Int))) y12.1 y12.2.1 y12.2.2.1 y12.2.2.2)) else some (0:Int))
def JW (a0:Int×Int×Int×Int) (n:Nat) (q7 q8 q9 q10 q11:Int):Option Int :=
  Ax (X:=Int×Int×Int×Int×Int) (fun L x=>JV K a0 (fun v0 v1 v2 v3 v4=>L (v0,v1,v2,v3,v4)) x.1 x.2.1 x.2.2.1 x.2.2.2.1 x.2.2.2.2) n (q7,q8,q9,q10,q11)
def Y1 (a0:Int×Int×Int×Int) (I6:Int→Int→Int→Int→Int→Option Int):Option Int :=
  (Qd K).bind fun y1=>I6 (1:Int) y1.1 y1.2.1 y1.2.2.1 y1.2.2.2
def N8 (a0:Int×Int×Int×Int):Option Int :=
  Y1 K a0 (fun d0 d1 d2 d3 d4=>JW K a0 K d0 d1 d2 d3 d4)
def Ab5:Mdl:=⟨[(.ro,sA)],[sI],fun x=>N8 K x.1⟩
def AnZ (a0:Int×Int×Int×Int) (lr:LR Int):Ex→Fr→Option Int :=
  Ak (QX K) 0 lr Asw [1,1,0,1,0] (fM (QX K) Tryz.f179 (Ab5 K) (a0,()))
def Ab6 (a0:Int×Int×Int×Int) (lr:LR Int) (bq7 bq8 bq9 bq10 bq11:Int):Option Int :=
  lr (AB Asw [1,1,0,1,0,0]) (Vu a0 bq7 bq8 bq9 bq10 bq11) (AnZ K a0 lr)
def AxQ:Env:=eE K [(178,Aie K),(179,Ab5 K)] [0,1,2,3,9]
def QY (a0:Int×Int×Int×Int):Option Int :=
  (QW K a0).bind fun y1=>(bif (y1==(1:Int)) then (N8 K a0).bind fun y2=>some y2 else (N8 K a0).bind fun y3=>(bif (y3==(2:Int)) then some (-2:Int) else some (0:Int)))
def AsT:Mdl:=⟨[(.ro,sA)],[sI],fun x=>QY K x.1⟩
def AzT:Env:=eE K [(127,QU K),(135,Wd K),(136,AsT K)] [0,1,2]
def Y2 (a0:tA×Int×Int):Option Bool :=
  (JU K a0.1).bind fun y1=>((bif y1 then QY K a0.1 else some (0:Int))).bind fun y2=>((bif (bif y1 then (y2 != (0:Int)) else false) then JT K a0.2 else some false)).bind fun y3=>some (bif (bif y1 then (y2 != (0:Int)) else false) then y3 else false)
def Aup:Mdl:=⟨[(.ro,sM)],[.bool],fun x=>Y2 K x.1⟩
def AzU:Env:=eE K [(126,Wb K),(135,Wd K),(137,AhF K)] [0,1,2,5]
def An0 (a0:Int×Int×Int×Int):Option ByteArray :=
  (JU K a0).bind fun y1=>(bif (!y1) then some ByteArray.empty else (QK K a0).bind fun y2=>(QT K y2 (bs [44])).bind fun y3=>some y3)
def AxR:Mdl:=⟨[(.ro,sA)],[.str],fun x=>An0 K x.1⟩
def AzV:Env:=eE K [(127,QU K),(128,Aic K)] [0,1,2,5]
def Aif (a0:Int×Int):Option ByteArray :=
  (JT K a0).bind fun y1=>(bif (!y1) then some ByteArray.empty else (N7 K a0.1).bind fun y2=>(bif (Nat.ble (y2.size+(bs [44]).size) 9223372036854775807) then (N7 K a0.2).bind fun y3=>(bif (Nat.ble ((y2++(bs [44])).size+y3.size) 9223372036854775807) then some ((y2++(bs [44]))++y3) else none) else none))
def Auq:Mdl:=⟨[(.ro,sV)],[.str],fun x=>Aif K x.1⟩
def AzW:Env:=eE K [(73,Auq K),(81,Aup K),(82,AxR K)] [0,1,2,5]
def Y3 (a0:tA×Int×Int):Option ByteArray :=
  (Y2 K a0).bind fun y1=>(bif (!y1) then some ByteArray.empty else (An0 K a0.1).bind fun y2=>(bif (Nat.ble (y2.size+(bs [59]).size) 9223372036854775807) then (Aif K a0.2).bind fun y3=>(bif (Nat.ble ((y2++(bs [59])).size+y3.size) 9223372036854775807) then some ((y2++(bs [59]))++y3) else none) else none))
def Aur:Mdl:=⟨[(.ro,sM)],[.str],fun x=>Y3 K x.1⟩
def AzX:Env:=eE K [(73,Auq K),(74,AnV K)] [0,1,2,4]
def We (a0:Int×Int) (a1:Int):Option ByteArray :=
  (Aif K a0).bind fun y1=>(bif (Nat.ble ((bs [109,97,114,107,32]).size+y1.size) 9223372036854775807) then (bif (Nat.ble (((bs [109,97,114,107,32])++y1).size+(bs [32]).size) 9223372036854775807) then (YZ K a1).bind fun y2=>(bif (Nat.ble ((((bs [109,97,114,107,32])++y1)++(bs [32])).size+y2.size) 9223372036854775807) then (bif (Nat.ble (((((bs [109,97,114,107,32])++y1)++(bs [32]))++y2).size+(bs [10]).size) 9223372036854775807) then some (((((bs [109,97,114,107,32])++y1)++(bs [32]))++y2)++(bs [10])) else none) else none) else none) else none)
def An1:Mdl:=⟨[(.ro,sV),(.ro,sI)],[.str],fun x=>We K x.1 x.2.1⟩
def Qh:Env:=eE K [(23,V5 K),(32,AnO K),(34,AnY K),(35,An1 K),(40,Auo K),(41,Aur K),(51,AhQ K),(52,Anv K),(55,Aug K),(77,AnT K),(78,AnP K)] [0,1,2,3,4,5,6,7,8,9,10,11,12,13,16,29,38,66,78,97]
def Ib (a0:Int×tL×List Int) (q12:Int) (q13 q14:List tM) (y1:Bool) (y2:Int×tL×List Int) (y3:List tM) (y18:List (List tV)) (L22:ByteArray→Int→Int→Option (ByteArray×Int)) (q23:ByteArray) (q24 q25:Int):Option (ByteArray×Int) :=
  (bif (decide (q25<(y18.length:Int))) then (bif (decide (0≤q25)&&decide (q25<(y18.length:Int))) then (bif (decide (0≤(0:Int))&&decide ((0:Int)<((y18.getD ((0:Int)+q25).toNat []).length:Int))) then (YT K y2 ((y18.getD ((0:Int)+q25).toNat []).getD ((0:Int)+(0:Int)).toNat ((0:Int),(0:Int)))).bind fun y26=>(bif (decide (y26>(0:Int))) then (bif (decide (0≤q25)&&decide (q25<(y18.length:Int))) then (bif (decide (0≤(0:Int))&&decide ((0:Int)<((y18.getD ((0:Int)+q25).toNat []).length:Int))) then (We K ((y18.getD ((0:Int)+q25).toNat []).getD ((0:Int)+(0:Int)).toNat ((0:Int),(0:Int))) y26).bind fun y27=>(bif (Nat.ble (q23.size+y27.size) 9223372036854775807) then L22 (q23++y27) (w (q24+(1:Int))) (w (q25+(1:Int))) else none) else none) else none) else L22 q23 q24 (w (q25+(1:Int)))) else none) else none) else (bif (bif (decide ((q13.length:Int)>(8:Int))) then true else (decide (q24>(40:Int)))) then some (ByteArray.empty,(3:Int)) else some (q23,(0:Int))))
def Ic (a0:Int×tL×List Int) (q12:Int) (q13 q14:List tM) (y1:Bool) (y2:Int×tL×List Int) (y3:List tM) (y18:List (List tV)) (n:Nat) (q23:ByteArray) (q24 q25:Int):Option (ByteArray×Int) :=
  Ax (X:=ByteArray×Int×Int) (fun L x=>Ib K a0 q12 q13 q14 y1 y2 y3 y18 (fun v0 v1 v2=>L (v0,v1,v2)) x.1 x.2.1 x.2.2) n (q23,q24,q25)
def Gi (a0:Int×tL×List Int) (y1:Bool) (y2:Int×tL×List Int) (y3:List tM) (I22:Int→(List tM)→(List tM)→Bool→(Int×tL×List Int)→(List tM)→(List (List tV))→ByteArray→Int→Int→Option (ByteArray×Int)) (L10:ByteArray→Int→(List tM)→(List tM)→Option (ByteArray×Int)) (q11:ByteArray) (q12:Int) (q13 q14:List tM):Option (ByteArray×Int) :=
  (bif (decide (q12<(y3.length:Int))) then (bif (decide (0≤q12)&&decide (q12<(y3.length:Int))) then (AhI K q14 ((((y3.getD ((0:Int)+q12).toNat zM).1).1,(((y3.getD ((0:Int)+q12).toNat zM).1).2).1,((((y3.getD ((0:Int)+q12).toNat zM).1).2).2)),((y3.getD ((0:Int)+q12).toNat zM).2))).bind fun y15=>(bif (!y15) then (bif (decide (0≤q12)&&decide (q12<(y3.length:Int))) then (bif (Nat.ble (q13.length+[((((y3.getD ((0:Int)+q12).toNat zM).1).1,(((y3.getD ((0:Int)+q12).toNat zM).1).2).1,((((y3.getD ((0:Int)+q12).toNat zM).1).2).2)),((y3.getD ((0:Int)+q12).toNat zM).2))].length) (lim 48)) then (FG K y2.2.1 (q13++[((((y3.getD ((0:Int)+q12).toNat zM).1).1,(((y3.getD ((0:Int)+q12).toNat zM).1).2).1,((((y3.getD ((0:Int)+q12).toNat zM).1).2).2)),((y3.getD ((0:Int)+q12).toNat zM).2))])).bind fun y16=>(bif (Nat.ble (q11.size+(bs [109,111,116,105,111,110,32]).size) 9223372036854775807) then (bif (decide (0≤q12)&&decide (q12<(y3.length:Int))) then (Y3 K ((((y3.getD ((0:Int)+q12).toNat zM).1).1,(((y3.getD ((0:Int)+q12).toNat zM).1).2).1,((((y3.getD ((0:Int)+q12).toNat zM).1).2).2)),((y3.getD ((0:Int)+q12).toNat zM).2))).bind fun y17=>(bif (Nat.ble ((q11++(bs [109,111,116,105,111,110,32])).size+y17.size) 9223372036854775807) then (bif (Nat.ble (((q11++(bs [109,111,116,105,111,110,32]))++y17).size+(bs [10]).size) 9223372036854775807) then L10 (((q11++(bs [109,111,116,105,111,110,32]))++y17)++(bs [10])) (w (q12+(1:Int))) (q13++[((((y3.getD ((0:Int)+q12).toNat zM).1).1,(((y3.getD ((0:Int)+q12).toNat zM).1).2).1,((((y3.getD ((0:Int)+q12).toNat zM).1).2).2)),((y3.getD ((0:Int)+q12).toNat zM).2))]) y16 else none) else none) else none) else none) else none) else none) else L10 q11 (w (q12+(1:Int))) q13 q14) else none) else (Afe K y2.2.1 y3).bind fun y18=>I22 q12 q13 q14 y1 y2 y3 y18 q11 (0:Int) (0:Int))
def Ab7 (a0:Int×tL×List Int) (y1:Bool) (y2:Int×tL×List Int) (y3:List tM) (n:Nat) (q11:ByteArray) (q12:Int) (q13 q14:List tM):Option (ByteArray×Int) :=
  Ax (X:=ByteArray×Int×List tM×List tM) (fun L x=>Gi K a0 y1 y2 y3 (fun c0 c1 c2 c3 c4 c5 c6 d0 d1 d2=>Ic K a0 c0 c1 c2 c3 c4 c5 c6 K d0 d1 d2) (fun v0 v1 v2 v3=>L (v0,v1,v2,v3)) x.1 x.2.1 x.2.2.1 x.2.2.2) n (q11,q12,q13,q14)
def Aig (a0:Int×tL×List Int) (I10:Bool→(Int×tL×List Int)→(List tM)→ByteArray→Int→(List tM)→(List tM)→Option (ByteArray×Int)):Option (ByteArray×Int) :=
  (V9 K a0).bind fun y1=>(bif (!y1) then some (ByteArray.empty,(1:Int)) else (YX K a0).bind fun y2=>(Aib K y2).bind fun y3=>(Wc K y2).bind fun y4=>(VV K).bind fun y5=>I10 y1 y2 y3 y4 (0:Int) [] [y5])
def Aih (a0:Int×tL×List Int):Option (ByteArray×Int) :=
  Aig K a0 (fun c0 c1 c2 d0 d1 d2 d3=>Ab7 K a0 c0 c1 c2 K d0 d1 d2 d3)
def Aii:Mdl:=⟨[(.ro,(.cons sI (.cons sL (.list 2 sI))))],[.str,sI],fun x=>Aih K x.1⟩
def An2 (a0:Int×tL×List Int) (lr:LR (ByteArray×Int)):Ex→Fr→Option (ByteArray×Int) :=
  Ak (Qh K) 1 lr Ann [1,1,1,1,1,0,1,0] (fM (Qh K) Tryz.f39 (Aii K) (a0,()))
def Ab8 (a0:Int×tL×List Int) (lr:LR (ByteArray×Int)) (y1:Bool) (y2:Int×tL×List Int) (y3:List tM) (bq11:ByteArray) (bq12:Int) (bq13 bq14:List tM):Option (ByteArray×Int) :=
  lr (AB Ann [1,1,1,1,1,0,1,0,0]) (NS a0 y1 y2 y3 bq11 bq12 bq13 bq14) (An2 K a0 lr)
def An3 (a0:Int×tL×List Int) (lr:LR (ByteArray×Int)):Ex→Fr→Option (ByteArray×Int) :=
  Ak (Qh K) 1 lr Ann [1,1,1,1,1,1,1,1,0,1,0] (fM (Qh K) Tryz.f39 (Aii K) (a0,()))
def Ab9 (a0:Int×tL×List Int) (lr:LR (ByteArray×Int)) (q12:Int) (q13 q14:List tM) (y1:Bool) (y2:Int×tL×List Int) (y3:List tM) (y18:List (List tV)) (bq23:ByteArray) (bq24 bq25:Int):Option (ByteArray×Int) :=
  lr (AB Ann [1,1,1,1,1,1,1,1,0,1,0,0]) (Vv a0 q12 q13 q14 y1 y2 y3 y18 bq23 bq24 bq25) (An3 K a0 lr)
def Afj:Env:=eE K [(32,AnO K),(33,S3 K),(34,AnY K),(35,An1 K)] [0,1,2,3,4,5,6,7,10,19,27,43]
def K3 (a0:Int×tL×List Int) (y1:Bool) (y2:List tV) (L6:ByteArray→Int→Int→Option (ByteArray×Int)) (q7:ByteArray) (q8 q9:Int):Option (ByteArray×Int) :=
  (bif (decide (q9<(y2.length:Int))) then (bif (decide (0≤q9)&&decide (q9<(a0.2.2.length:Int))) then (bif (decide ((a0.2.2.getD ((0:Int)+q9).toNat (0:Int))>(0:Int))) then (bif (decide (0≤q9)&&decide (q9<(y2.length:Int))) then (bif (decide (0≤q9)&&decide (q9<(a0.2.2.length:Int))) then (We K (y2.getD ((0:Int)+q9).toNat ((0:Int),(0:Int))) (a0.2.2.getD ((0:Int)+q9).toNat (0:Int))).bind fun y10=>(bif (Nat.ble (q7.size+y10.size) 9223372036854775807) then L6 (q7++y10) (w (q8+(1:Int))) (w (q9+(1:Int))) else none) else none) else none) else L6 q7 q8 (w (q9+(1:Int)))) else none) else (bif (decide (q8>(40:Int))) then some (ByteArray.empty,(3:Int)) else some (q7,(0:Int))))
def Y4 (a0:Int×tL×List Int) (y1:Bool) (y2:List tV) (n:Nat) (q7:ByteArray) (q8 q9:Int):Option (ByteArray×Int) :=
  Ax (X:=ByteArray×Int×Int) (fun L x=>K3 K a0 y1 y2 (fun v0 v1 v2=>L (v0,v1,v2)) x.1 x.2.1 x.2.2) n (q7,q8,q9)
def Aij (a0:Int×tL×List Int) (I6:Bool→(List tV)→ByteArray→Int→Int→Option (ByteArray×Int)):Option (ByteArray×Int) :=
  (V9 K a0).bind fun y1=>(bif (!y1) then some (ByteArray.empty,(1:Int)) else (Qf K a0.2.1).bind fun y2=>(Wc K a0).bind fun y3=>I6 y1 y2 y3 (0:Int) (0:Int))
def Afk (a0:Int×tL×List Int):Option (ByteArray×Int) :=
  Aij K a0 (fun c0 c1 d0 d1 d2=>Y4 K a0 c0 c1 K d0 d1 d2)
def Aik:Mdl:=⟨[(.ro,(.cons sI (.cons sL (.list 2 sI))))],[.str,sI],fun x=>Afk K x.1⟩
def Aus (a0:Int×tL×List Int) (lr:LR (ByteArray×Int)):Ex→Fr→Option (ByteArray×Int) :=
  Ak (Afj K) 1 lr Aw8 [1,1,1,1,0,1,0] (fM (Afj K) Tryz.f14 (Aik K) (a0,()))
def Ail (a0:Int×tL×List Int) (lr:LR (ByteArray×Int)) (y1:Bool) (y2:List tV) (bq7:ByteArray) (bq8 bq9:Int):Option (ByteArray×Int) :=
  lr (AB Aw8 [1,1,1,1,0,1,0,0]) (Abg a0 y1 y2 bq7 bq8 bq9) (Aus K a0 lr)
def AzY:Env:=⟨[],tys,eqs,mts,K,[0,1,4,5,12,13,18,33,38],[(26,NZ K)],[],[],[],[],[],false⟩
def II (a0:(List Int)×Int×Int) (a1:ByteArray):Option (tV×ByteArray) :=
  (AL K a0 (w ((a1.size:Int)+(1:Int)))).bind fun y1=>(AL K (a0.1,y1.1) (8:Int)).bind fun y2=>(bif (y2.2==(0:Int)) then (bif (decide (0≤(0:Int))&&decide ((0:Int)≤y1.2)&&decide (y1.2≤(a1.size:Int))) then some (y2.1,(a1.extract 0 y1.2.toNat)) else none) else (bif (y2.2==(1:Int)) then (bif (decide (0≤(0:Int))&&decide ((0:Int)≤y1.2)&&decide (y1.2≤(a1.size:Int))) then (AL K (a0.1,y2.1) (8:Int)).bind fun y3=>(bif (decide (0≤y3.2)&&decide (y3.2<([(bs [48]),(bs [49]),(bs [32]),(bs [45]),(bs [44]),(bs [59]),(bs [10]),(bs [97])].length:Int))) then (bif (Nat.ble ((a1.extract 0 y1.2.toNat).size+([(bs [48]),(bs [49]),(bs [32]),(bs [45]),(bs [44]),(bs [59]),(bs [10]),(bs [97])].getD ((0:Int)+y3.2).toNat ByteArray.empty).size) 9223372036854775807) then (bif (decide (0≤y1.2)&&decide (y1.2≤(a1.size:Int))&&decide ((a1.size:Int)≤(a1.size:Int))) then (bif (Nat.ble (((a1.extract 0 y1.2.toNat)++([(bs [48]),(bs [49]),(bs [32]),(bs [45]),(bs [44]),(bs [59]),(bs [10]),(bs [97])].getD ((0:Int)+y3.2).toNat ByteArray.empty)).size+(a1.extract y1.2.toNat (a1.size:Int).toNat).size) 9223372036854775807) then some (y3.1,(((a1.extract 0 y1.2.toNat)++([(bs [48]),(bs [49]),(bs [32]),(bs [45]),(bs [44]),(bs [59]),(bs [10]),(bs [97])].getD ((0:Int)+y3.2).toNat ByteArray.empty))++(a1.extract y1.2.toNat (a1.size:Int).toNat))) else none) else none) else none) else none) else none) else (bif (y2.2==(2:Int)) then (bif (decide (y1.2<(a1.size:Int))) then (bif (decide (0≤(0:Int))&&decide ((0:Int)≤y1.2)&&decide (y1.2≤(a1.size:Int))) then (bif (decide (0≤(w (y1.2+(1:Int))))&&decide ((w (y1.2+(1:Int)))≤(a1.size:Int))&&decide ((a1.size:Int)≤(a1.size:Int))) then (bif (Nat.ble ((a1.extract 0 y1.2.toNat).size+(a1.extract (w (y1.2+(1:Int))).toNat (a1.size:Int).toNat).size) 9223372036854775807) then some (y2.1,((a1.extract 0 y1.2.toNat)++(a1.extract (w (y1.2+(1:Int))).toNat (a1.size:Int).toNat))) else none) else none) else none) else some (y2.1,a1)) else some (y2.1,a1))))
def AxS:Fx:=⟨5,(.int .u8),sV,[(.ro,.str)],[.str],fun x=>II K x.1 x.2.1⟩
def CR:Env:=⟨[(14,Aik K),(32,AnO K),(34,AnY K),(35,An1 K),(39,Aii K),(40,Auo K),(41,Aur K)],tys,eqs,mts,K,[0,2,3,4,5,6,7,8,9,23,35,43,60,76,77,86,89,94,98,102,107],[(26,NZ K),(27,Auk K),(42,Auf K),(43,AxS K)],[],[],[],[],[],false⟩
def An4 (a0:(List Int)×Int×Int) (q15 q28:Int) (y1:tV×Int×tL×List Int) (y2:ByteArray×Int) (y3 y5:tV×Int) (y6:Bool) (y7:Int×tL×List Int) (y35:tV×Int) (L38:ByteArray→Int→Option (tV×ByteArray)) (q39:ByteArray) (q40:Int):Option (tV×ByteArray) :=
  (bif (decide (q40<(9:Int))) then (bif (Nat.ble (q39.size+(bs [109,111,116,105,111,110,32,49,44,48,44,48,44,49,59,48,44,48,10]).size) 9223372036854775807) then L38 (q39++(bs [109,111,116,105,111,110,32,49,44,48,44,48,44,49,59,48,44,48,10])) (w (q40+(1:Int))) else none) else (AL K (a0.1,y35.1) (4:Int)).bind fun y41=>(bif (y41.2==(0:Int)) then (II K (a0.1,y41.1) q39).bind fun y42=>some y42 else some (y41.1,q39)))
def Ti (a0:(List Int)×Int×Int) (q15 q28:Int) (y1:tV×Int×tL×List Int) (y2:ByteArray×Int) (y3 y5:tV×Int) (y6:Bool) (y7:Int×tL×List Int) (y35:tV×Int) (n:Nat) (q39:ByteArray) (q40:Int):Option (tV×ByteArray) :=
  Ax (X:=ByteArray×Int) (fun L x=>An4 K a0 q15 q28 y1 y2 y3 y5 y6 y7 y35 (fun v0 v1=>L (v0,v1)) x.1 x.2) n (q39,q40)
def Aca (a0:(List Int)×Int×Int) (q15:Int) (y1:tV×Int×tL×List Int) (y2:ByteArray×Int) (y3 y5:tV×Int) (y6:Bool) (y7:Int×tL×List Int) (I38:Int→Int→(tV×Int×tL×List Int)→(ByteArray×Int)→(tV×Int)→(tV×Int)→Bool→(Int×tL×List Int)→(tV×Int)→ByteArray→Int→Option (tV×ByteArray)) (L26:ByteArray→Int→Int→Int→Option (tV×ByteArray)) (q27:ByteArray) (q28 q29 q30:Int):Option (tV×ByteArray) :=
  (bif (decide (q28>(0:Int))) then (AL K (a0.1,q29,q30) (9:Int)).bind fun y31=>(AL K (a0.1,y31.1) (9:Int)).bind fun y32=>(AL K (a0.1,y32.1) (3:Int)).bind fun y33=>(We K ((w (y31.2-(4:Int))),(w (y32.2-(4:Int)))) y33.2).bind fun y34=>(bif (Nat.ble (q27.size+y34.size) 9223372036854775807) then L26 (q27++y34) (w (q28-(1:Int))) y33.1.1 y33.1.2 else none) else (AL K (a0.1,q29,q30) (30:Int)).bind fun y35=>(bif (y35.2==(0:Int)) then (AL K (a0.1,y35.1) (5:Int)).bind fun y36=>(bif (decide (0≤y36.2)&&decide (y36.2<([(bs [102,114,97,109,101,32,83,10]),(bs [108,97,116,116,105,99,101,32,50,44,48,44,50,10]),(bs [109,97,114,107,32,48,44,48,32,49,48,10]),(bs [109,111,116,105,111,110,32,49,44,48,44,48,44,49,10]),(bs [112,97,105,110,116,10])].length:Int))) then (bif (Nat.ble (q27.size+([(bs [102,114,97,109,101,32,83,10]),(bs [108,97,116,116,105,99,101,32,50,44,48,44,50,10]),(bs [109,97,114,107,32,48,44,48,32,49,48,10]),(bs [109,111,116,105,111,110,32,49,44,48,44,48,44,49,10]),(bs [112,97,105,110,116,10])].getD ((0:Int)+y36.2).toNat ByteArray.empty).size) 9223372036854775807) then some (y36.1,(q27++([(bs [102,114,97,109,101,32,83,10]),(bs [108,97,116,116,105,99,101,32,50,44,48,44,50,10]),(bs [109,97,114,107,32,48,44,48,32,49,48,10]),(bs [109,111,116,105,111,110,32,49,44,48,44,48,44,49,10]),(bs [112,97,105,110,116,10])].getD ((0:Int)+y36.2).toNat ByteArray.empty))) else none) else none) else (bif (y35.2==(1:Int)) then I38 q15 q28 y1 y2 y3 y5 y6 y7 y35 q27 (0:Int) else (bif (y35.2==(2:Int)) then (bif (Nat.ble ((bs [109,97,114,107,32,48,44,48,32,49,10]).size+q27.size) 9223372036854775807) then some (y35.1,((bs [109,97,114,107,32,48,44,48,32,49,10])++q27)) else none) else (bif (y35.2==(3:Int)) then (AL K (a0.1,y35.1) (4:Int)).bind fun y43=>(bif (y43.2==(0:Int)) then (bif (decide (0≤(3001:Int))&&Nat.ble 3001 (lim 1)&&((3001:Int)==(3001:Int))) then some (y43.1,(strOfNums (List.replicate 3001 (0:Int)))) else none) else (AL K (a0.1,y43.1) (4:Int)).bind fun y44=>(bif (y44.2==(0:Int)) then (II K (a0.1,y44.1) q27).bind fun y45=>some y45 else some (y44.1,q27))) else (AL K (a0.1,y35.1) (4:Int)).bind fun y46=>(bif (y46.2==(0:Int)) then (II K (a0.1,y46.1) q27).bind fun y47=>some y47 else some (y46.1,q27)))))))
def Tj (a0:(List Int)×Int×Int) (q15:Int) (y1:tV×Int×tL×List Int) (y2:ByteArray×Int) (y3 y5:tV×Int) (y6:Bool) (y7:Int×tL×List Int) (n:Nat) (q27:ByteArray) (q28 q29 q30:Int):Option (tV×ByteArray) :=
  Ax (X:=ByteArray×Int×Int×Int) (fun L x=>Aca K a0 q15 y1 y2 y3 y5 y6 y7 (fun c0 c1 c2 c3 c4 c5 c6 c7 c8 d0 d1=>Ti K a0 c0 c1 c2 c3 c4 c5 c6 c7 c8 K d0 d1) (fun v0 v1 v2 v3=>L (v0,v1,v2,v3)) x.1 x.2.1 x.2.2.1 x.2.2.2) n (q27,q28,q29,q30)
def Acb (a0:(List Int)×Int×Int) (y1:tV×Int×tL×List Int) (y2:ByteArray×Int) (y3 y5:tV×Int) (y6:Bool) (y7:Int×tL×List Int) (I26:Int→(tV×Int×tL×List Int)→(ByteArray×Int)→(tV×Int)→(tV×Int)→Bool→(Int×tL×List Int)→ByteArray→Int→Int→Int→Option (tV×ByteArray)) (L13:ByteArray→Int→Int→Int→Option (tV×ByteArray)) (q14:ByteArray) (q15 q16 q17:Int):Option (tV×ByteArray) :=
  (bif (decide (q15>(0:Int))) then (bif (Nat.ble (q14.size+(bs [109,111,116,105,111,110,32]).size) 9223372036854775807) then (Qe K (a0.1,q16,q17) y7.1 y7.2.1).bind fun y18=>(Y3 K y18.2).bind fun y19=>(bif (Nat.ble ((q14++(bs [109,111,116,105,111,110,32])).size+y19.size) 9223372036854775807) then (bif (Nat.ble (((q14++(bs [109,111,116,105,111,110,32]))++y19).size+(bs [10]).size) 9223372036854775807) then L13 (((q14++(bs [109,111,116,105,111,110,32]))++y19)++(bs [10])) (w (q15-(1:Int))) y18.1.1 y18.1.2 else none) else none) else none) else (AL K (a0.1,q16,q17) (5:Int)).bind fun y20=>I26 q15 y1 y2 y3 y5 y6 y7 q14 y20.2 y20.1.1 y20.1.2)
def Tk (a0:(List Int)×Int×Int) (y1:tV×Int×tL×List Int) (y2:ByteArray×Int) (y3 y5:tV×Int) (y6:Bool) (y7:Int×tL×List Int) (n:Nat) (q14:ByteArray) (q15 q16 q17:Int):Option (tV×ByteArray) :=
  Ax (X:=ByteArray×Int×Int×Int) (fun L x=>Acb K a0 y1 y2 y3 y5 y6 y7 (fun c0 c1 c2 c3 c4 c5 c6 d0 d1 d2 d3=>Tj K a0 c0 c1 c2 c3 c4 c5 c6 K d0 d1 d2 d3) (fun v0 v1 v2 v3=>L (v0,v1,v2,v3)) x.1 x.2.1 x.2.2.1 x.2.2.2) n (q14,q15,q16,q17)
def An5 (a0:(List Int)×Int×Int) (y1:tV×Int×tL×List Int) (y2:ByteArray×Int) (y3 y5:tV×Int) (y6:Bool) (y48:tV×Int) (L50:ByteArray→Int→Option (tV×ByteArray)) (q51:ByteArray) (q52:Int):Option (tV×ByteArray) :=
  (bif (decide (q52<(9:Int))) then (bif (Nat.ble (q51.size+(bs [109,111,116,105,111,110,32,49,44,48,44,48,44,49,59,48,44,48,10]).size) 9223372036854775807) then L50 (q51++(bs [109,111,116,105,111,110,32,49,44,48,44,48,44,49,59,48,44,48,10])) (w (q52+(1:Int))) else none) else (AL K (a0.1,y48.1) (4:Int)).bind fun y53=>(bif (y53.2==(0:Int)) then (II K (a0.1,y53.1) q51).bind fun y54=>some y54 else some (y53.1,q51)))
def Tl (a0:(List Int)×Int×Int) (y1:tV×Int×tL×List Int) (y2:ByteArray×Int) (y3 y5:tV×Int) (y6:Bool) (y48:tV×Int) (n:Nat) (q51:ByteArray) (q52:Int):Option (tV×ByteArray) :=
  Ax (X:=ByteArray×Int) (fun L x=>An5 K a0 y1 y2 y3 y5 y6 y48 (fun v0 v1=>L (v0,v1)) x.1 x.2) n (q51,q52)
def An6 (a0:(List Int)×Int×Int) (q67 q75:Int) (y1:tV×Int×tL×List Int) (y2:ByteArray×Int) (y3 y60:tV×Int) (y61:Bool) (y62:Int×tL×List Int) (y82:tV×Int) (L84:ByteArray→Int→Option (tV×ByteArray)) (q85:ByteArray) (q86:Int):Option (tV×ByteArray) :=
  (bif (decide (q86<(9:Int))) then (bif (Nat.ble (q85.size+(bs [109,111,116,105,111,110,32,49,44,48,44,48,44,49,59,48,44,48,10]).size) 9223372036854775807) then L84 (q85++(bs [109,111,116,105,111,110,32,49,44,48,44,48,44,49,59,48,44,48,10])) (w (q86+(1:Int))) else none) else (AL K (a0.1,y82.1) (4:Int)).bind fun y87=>(bif (y87.2==(0:Int)) then (II K (a0.1,y87.1) q85).bind fun y88=>some y88 else some (y87.1,q85)))
def Tm (a0:(List Int)×Int×Int) (q67 q75:Int) (y1:tV×Int×tL×List Int) (y2:ByteArray×Int) (y3 y60:tV×Int) (y61:Bool) (y62:Int×tL×List Int) (y82:tV×Int) (n:Nat) (q85:ByteArray) (q86:Int):Option (tV×ByteArray) :=
  Ax (X:=ByteArray×Int) (fun L x=>An6 K a0 q67 q75 y1 y2 y3 y60 y61 y62 y82 (fun v0 v1=>L (v0,v1)) x.1 x.2) n (q85,q86)
def Acc (a0:(List Int)×Int×Int) (q67:Int) (y1:tV×Int×tL×List Int) (y2:ByteArray×Int) (y3 y60:tV×Int) (y61:Bool) (y62:Int×tL×List Int) (I84:Int→Int→(tV×Int×tL×List Int)→(ByteArray×Int)→(tV×Int)→(tV×Int)→Bool→(Int×tL×List Int)→(tV×Int)→ByteArray→Int→Option (tV×ByteArray)) (L73:ByteArray→Int→Int→Int→Option (tV×ByteArray)) (q74:ByteArray) (q75 q76 q77:Int):Option (tV×ByteArray) :=
  (bif (decide (q75>(0:Int))) then (AL K (a0.1,q76,q77) (9:Int)).bind fun y78=>(AL K (a0.1,y78.1) (9:Int)).bind fun y79=>(AL K (a0.1,y79.1) (3:Int)).bind fun y80=>(We K ((w (y78.2-(4:Int))),(w (y79.2-(4:Int)))) y80.2).bind fun y81=>(bif (Nat.ble (q74.size+y81.size) 9223372036854775807) then L73 (q74++y81) (w (q75-(1:Int))) y80.1.1 y80.1.2 else none) else (AL K (a0.1,q76,q77) (30:Int)).bind fun y82=>(bif (y82.2==(0:Int)) then (AL K (a0.1,y82.1) (5:Int)).bind fun y83=>(bif (decide (0≤y83.2)&&decide (y83.2<([(bs [102,114,97,109,101,32,83,10]),(bs [108,97,116,116,105,99,101,32,50,44,48,44,50,10]),(bs [109,97,114,107,32,48,44,48,32,49,48,10]),(bs [109,111,116,105,111,110,32,49,44,48,44,48,44,49,10]),(bs [112,97,105,110,116,10])].length:Int))) then (bif (Nat.ble (q74.size+([(bs [102,114,97,109,101,32,83,10]),(bs [108,97,116,116,105,99,101,32,50,44,48,44,50,10]),(bs [109,97,114,107,32,48,44,48,32,49,48,10]),(bs [109,111,116,105,111,110,32,49,44,48,44,48,44,49,10]),(bs [112,97,105,110,116,10])].getD ((0:Int)+y83.2).toNat ByteArray.empty).size) 9223372036854775807) then some (y83.1,(q74++([(bs [102,114,97,109,101,32,83,10]),(bs [108,97,116,116,105,99,101,32,50,44,48,44,50,10]),(bs [109,97,114,107,32,48,44,48,32,49,48,10]),(bs [109,111,116,105,111,110,32,49,44,48,44,48,44,49,10]),(bs [112,97,105,110,116,10])].getD ((0:Int)+y83.2).toNat ByteArray.empty))) else none) else none) else (bif (y82.2==(1:Int)) then I84 q67 q75 y1 y2 y3 y60 y61 y62 y82 q74 (0:Int) else (bif (y82.2==(2:Int)) then (bif (Nat.ble ((bs [109,97,114,107,32,48,44,48,32,49,10]).size+q74.size) 9223372036854775807) then some (y82.1,((bs [109,97,114,107,32,48,44,48,32,49,10])++q74)) else none) else (bif (y82.2==(3:Int)) then (AL K (a0.1,y82.1) (4:Int)).bind fun y89=>(bif (y89.2==(0:Int)) then (bif (decide (0≤(3001:Int))&&Nat.ble 3001 (lim 1)&&((3001:Int)==(3001:Int))) then some (y89.1,(strOfNums (List.replicate 3001 (0:Int)))) else none) else (AL K (a0.1,y89.1) (4:Int)).bind fun y90=>(bif (y90.2==(0:Int)) then (II K (a0.1,y90.1) q74).bind fun y91=>some y91 else some (y90.1,q74))) else (AL K (a0.1,y82.1) (4:Int)).bind fun y92=>(bif (y92.2==(0:Int)) then (II K (a0.1,y92.1) q74).bind fun y93=>some y93 else some (y92.1,q74)))))))
def Tn (a0:(List Int)×Int×Int) (q67:Int) (y1:tV×Int×tL×List Int) (y2:ByteArray×Int) (y3 y60:tV×Int) (y61:Bool) (y62:Int×tL×List Int) (n:Nat) (q74:ByteArray) (q75 q76 q77:Int):Option (tV×ByteArray) :=
  Ax (X:=ByteArray×Int×Int×Int) (fun L x=>Acc K a0 q67 y1 y2 y3 y60 y61 y62 (fun c0 c1 c2 c3 c4 c5 c6 c7 c8 d0 d1=>Tm K a0 c0 c1 c2 c3 c4 c5 c6 c7 c8 K d0 d1) (fun v0 v1 v2 v3=>L (v0,v1,v2,v3)) x.1 x.2.1 x.2.2.1 x.2.2.2) n (q74,q75,q76,q77)
def Acd (a0:(List Int)×Int×Int) (y1:tV×Int×tL×List Int) (y2:ByteArray×Int) (y3 y60:tV×Int) (y61:Bool) (y62:Int×tL×List Int) (I73:Int→(tV×Int×tL×List Int)→(ByteArray×Int)→(tV×Int)→(tV×Int)→Bool→(Int×tL×List Int)→ByteArray→Int→Int→Int→Option (tV×ByteArray)) (L65:ByteArray→Int→Int→Int→Option (tV×ByteArray)) (q66:ByteArray) (q67 q68 q69:Int):Option (tV×ByteArray) :=
  (bif (decide (q67>(0:Int))) then (bif (Nat.ble (q66.size+(bs [109,111,116,105,111,110,32]).size) 9223372036854775807) then (Qe K (a0.1,q68,q69) y62.1 y62.2.1).bind fun y70=>(Y3 K y70.2).bind fun y71=>(bif (Nat.ble ((q66++(bs [109,111,116,105,111,110,32])).size+y71.size) 9223372036854775807) then (bif (Nat.ble (((q66++(bs [109,111,116,105,111,110,32]))++y71).size+(bs [10]).size) 9223372036854775807) then L65 (((q66++(bs [109,111,116,105,111,110,32]))++y71)++(bs [10])) (w (q67-(1:Int))) y70.1.1 y70.1.2 else none) else none) else none) else (AL K (a0.1,q68,q69) (5:Int)).bind fun y72=>I73 q67 y1 y2 y3 y60 y61 y62 q66 y72.2 y72.1.1 y72.1.2)
def To (a0:(List Int)×Int×Int) (y1:tV×Int×tL×List Int) (y2:ByteArray×Int) (y3 y60:tV×Int) (y61:Bool) (y62:Int×tL×List Int) (n:Nat) (q66:ByteArray) (q67 q68 q69:Int):Option (tV×ByteArray) :=
  Ax (X:=ByteArray×Int×Int×Int) (fun L x=>Acd K a0 y1 y2 y3 y60 y61 y62 (fun c0 c1 c2 c3 c4 c5 c6 d0 d1 d2 d3=>Tn K a0 c0 c1 c2 c3 c4 c5 c6 K d0 d1 d2 d3) (fun v0 v1 v2 v3=>L (v0,v1,v2,v3)) x.1 x.2.1 x.2.2.1 x.2.2.2) n (q66,q67,q68,q69)
def An7 (a0:(List Int)×Int×Int) (y1:tV×Int×tL×List Int) (y2:ByteArray×Int) (y3 y60:tV×Int) (y61:Bool) (y94:tV×Int) (L96:ByteArray→Int→Option (tV×ByteArray)) (q97:ByteArray) (q98:Int):Option (tV×ByteArray) :=
  (bif (decide (q98<(9:Int))) then (bif (Nat.ble (q97.size+(bs [109,111,116,105,111,110,32,49,44,48,44,48,44,49,59,48,44,48,10]).size) 9223372036854775807) then L96 (q97++(bs [109,111,116,105,111,110,32,49,44,48,44,48,44,49,59,48,44,48,10])) (w (q98+(1:Int))) else none) else (AL K (a0.1,y94.1) (4:Int)).bind fun y99=>(bif (y99.2==(0:Int)) then (II K (a0.1,y99.1) q97).bind fun y100=>some y100 else some (y99.1,q97)))
def Tp (a0:(List Int)×Int×Int) (y1:tV×Int×tL×List Int) (y2:ByteArray×Int) (y3 y60:tV×Int) (y61:Bool) (y94:tV×Int) (n:Nat) (q97:ByteArray) (q98:Int):Option (tV×ByteArray) :=
  Ax (X:=ByteArray×Int) (fun L x=>An7 K a0 y1 y2 y3 y60 y61 y94 (fun v0 v1=>L (v0,v1)) x.1 x.2) n (q97,q98)
def Aim (a0:(List Int)×Int×Int) (I13:(tV×Int×tL×List Int)→(ByteArray×Int)→(tV×Int)→(tV×Int)→Bool→(Int×tL×List Int)→ByteArray→Int→Int→Int→Option (tV×ByteArray)) (I50:(tV×Int×tL×List Int)→(ByteArray×Int)→(tV×Int)→(tV×Int)→Bool→(tV×Int)→ByteArray→Int→Option (tV×ByteArray)) (I65:(tV×Int×tL×List Int)→(ByteArray×Int)→(tV×Int)→(tV×Int)→Bool→(Int×tL×List Int)→ByteArray→Int→Int→Int→Option (tV×ByteArray)) (I96:(tV×Int×tL×List Int)→(ByteArray×Int)→(tV×Int)→(tV×Int)→Bool→(tV×Int)→ByteArray→Int→Option (tV×ByteArray)):Option (tV×ByteArray) :=
  (Ah0 K a0).bind fun y1=>(Aih K y1.2).bind fun y2=>((bif (!(y2.2 != (0:Int))) then AL K (a0.1,y1.1) (3:Int) else some (y1.1,(0:Int)))).bind fun y3=>(bif (bif (y2.2 != (0:Int)) then true else (y3.2==(0:Int))) then (Afk K y1.2).bind fun y4=>(AL K (a0.1,y3.1) (3:Int)).bind fun y5=>((bif (y5.2==(0:Int)) then V9 K y1.2 else some false)).bind fun y6=>(bif (bif (y5.2==(0:Int)) then y6 else false) then (YX K y1.2).bind fun y7=>(Wc K y7).bind fun y8=>(AL K (a0.1,y5.1) (4:Int)).bind fun y9=>I13 y1 y2 y3 y5 y6 y7 y8 y9.2 y9.1.1 y9.1.2 else (AL K (a0.1,y5.1) (30:Int)).bind fun y48=>(bif (y48.2==(0:Int)) then (AL K (a0.1,y48.1) (5:Int)).bind fun y49=>(bif (decide (0≤y49.2)&&decide (y49.2<([(bs [102,114,97,109,101,32,83,10]),(bs [108,97,116,116,105,99,101,32,50,44,48,44,50,10]),(bs [109,97,114,107,32,48,44,48,32,49,48,10]),(bs [109,111,116,105,111,110,32,49,44,48,44,48,44,49,10]),(bs [112,97,105,110,116,10])].length:Int))) then (bif (Nat.ble (y4.1.size+([(bs [102,114,97,109,101,32,83,10]),(bs [108,97,116,116,105,99,101,32,50,44,48,44,50,10]),(bs [109,97,114,107,32,48,44,48,32,49,48,10]),(bs [109,111,116,105,111,110,32,49,44,48,44,48,44,49,10]),(bs [112,97,105,110,116,10])].getD ((0:Int)+y49.2).toNat ByteArray.empty).size) 9223372036854775807) then some (y49.1,(y4.1++([(bs [102,114,97,109,101,32,83,10]),(bs [108,97,116,116,105,99,101,32,50,44,48,44,50,10]),(bs [109,97,114,107,32,48,44,48,32,49,48,10]),(bs [109,111,116,105,111,110,32,49,44,48,44,48,44,49,10]),(bs [112,97,105,110,116,10])].getD ((0:Int)+y49.2).toNat ByteArray.empty))) else none) else none) else (bif (y48.2==(1:Int)) then I50 y1 y2 y3 y5 y6 y48 y4.1 (0:Int) else (bif (y48.2==(2:Int)) then (bif (Nat.ble ((bs [109,97,114,107,32,48,44,48,32,49,10]).size+y4.1.size) 9223372036854775807) then some (y48.1,((bs [109,97,114,107,32,48,44,48,32,49,10])++y4.1)) else none) else (bif (y48.2==(3:Int)) then (AL K (a0.1,y48.1) (4:Int)).bind fun y55=>(bif (y55.2==(0:Int)) then (bif (decide (0≤(3001:Int))&&Nat.ble 3001 (lim 1)&&((3001:Int)==(3001:Int))) then some (y55.1,(strOfNums (List.replicate 3001 (0:Int)))) else none) else (AL K (a0.1,y55.1) (4:Int)).bind fun y56=>(bif (y56.2==(0:Int)) then (II K (a0.1,y56.1) y4.1).bind fun y57=>some y57 else some (y56.1,y4.1))) else (AL K (a0.1,y48.1) (4:Int)).bind fun y58=>(bif (y58.2==(0:Int)) then (II K (a0.1,y58.1) y4.1).bind fun y59=>some y59 else some (y58.1,y4.1))))))) else (AL K (a0.1,y3.1) (3:Int)).bind fun y60=>((bif (y60.2==(0:Int)) then V9 K y1.2 else some false)).bind fun y61=>(bif (bif (y60.2==(0:Int)) then y61 else false) then (YX K y1.2).bind fun y62=>(Wc K y62).bind fun y63=>(AL K (a0.1,y60.1) (4:Int)).bind fun y64=>I65 y1 y2 y3 y60 y61 y62 y63 y64.2 y64.1.1 y64.1.2 else (AL K (a0.1,y60.1) (30:Int)).bind fun y94=>(bif (y94.2==(0:Int)) then (AL K (a0.1,y94.1) (5:Int)).bind fun y95=>(bif (decide (0≤y95.2)&&decide (y95.2<([(bs [102,114,97,109,101,32,83,10]),(bs [108,97,116,116,105,99,101,32,50,44,48,44,50,10]),(bs [109,97,114,107,32,48,44,48,32,49,48,10]),(bs [109,111,116,105,111,110,32,49,44,48,44,48,44,49,10]),(bs [112,97,105,110,116,10])].length:Int))) then (bif (Nat.ble (y2.1.size+([(bs [102,114,97,109,101,32,83,10]),(bs [108,97,116,116,105,99,101,32,50,44,48,44,50,10]),(bs [109,97,114,107,32,48,44,48,32,49,48,10]),(bs [109,111,116,105,111,110,32,49,44,48,44,48,44,49,10]),(bs [112,97,105,110,116,10])].getD ((0:Int)+y95.2).toNat ByteArray.empty).size) 9223372036854775807) then some (y95.1,(y2.1++([(bs [102,114,97,109,101,32,83,10]),(bs [108,97,116,116,105,99,101,32,50,44,48,44,50,10]),(bs [109,97,114,107,32,48,44,48,32,49,48,10]),(bs [109,111,116,105,111,110,32,49,44,48,44,48,44,49,10]),(bs [112,97,105,110,116,10])].getD ((0:Int)+y95.2).toNat ByteArray.empty))) else none) else none) else (bif (y94.2==(1:Int)) then I96 y1 y2 y3 y60 y61 y94 y2.1 (0:Int) else (bif (y94.2==(2:Int)) then (bif (Nat.ble ((bs [109,97,114,107,32,48,44,48,32,49,10]).size+y2.1.size) 9223372036854775807) then some (y94.1,((bs [109,97,114,107,32,48,44,48,32,49,10])++y2.1)) else none) else (bif (y94.2==(3:Int)) then (AL K (a0.1,y94.1) (4:Int)).bind fun y101=>(bif (y101.2==(0:Int)) then (bif (decide (0≤(3001:Int))&&Nat.ble 3001 (lim 1)&&((3001:Int)==(3001:Int))) then some (y101.1,(strOfNums (List.replicate 3001 (0:Int)))) else none) else (AL K (a0.1,y101.1) (4:Int)).bind fun y102=>(bif (y102.2==(0:Int)) then (II K (a0.1,y102.1) y2.1).bind fun y103=>some y103 else some (y102.1,y2.1))) else (AL K (a0.1,y94.1) (4:Int)).bind fun y104=>(bif (y104.2==(0:Int)) then (II K (a0.1,y104.1) y2.1).bind fun y105=>some y105 else some (y104.1,y2.1))))))))
def Ain (a0:(List Int)×Int×Int):Option (tV×ByteArray) :=
  Aim K a0 (fun c0 c1 c2 c3 c4 c5 d0 d1 d2 d3=>Tk K a0 c0 c1 c2 c3 c4 c5 K d0 d1 d2 d3) (fun c0 c1 c2 c3 c4 c5 d0 d1=>Tl K a0 c0 c1 c2 c3 c4 c5 K d0 d1) (fun c0 c1 c2 c3 c4 c5 d0 d1 d2 d3=>To K a0 c0 c1 c2 c3 c4 c5 K d0 d1 d2 d3) (fun c0 c1 c2 c3 c4 c5 d0 d1=>Tp K a0 c0 c1 c2 c3 c4 c5 K d0 d1)
def AxT:Fx:=⟨5,(.int .u8),sV,[],[.str],fun x=>Ain K x.1⟩
def An8 (a0:(List Int)×Int×Int) (lr:LR (tV×ByteArray)):Ex→Fr→Option (tV×ByteArray) :=
  Ak (CR K) 1 lr IH [1,1,1,1,0,1,0,1,1,1,1,0] (Jd (CR K) Tryz.f18 sV [.str])
def Ace (a0:(List Int)×Int×Int) (lr:LR (tV×ByteArray)) (q15:Int) (y1:tV×Int×tL×List Int) (y2:ByteArray×Int) (y3 y5:tV×Int) (y6:Bool) (y7:Int×tL×List Int) (bq27:ByteArray) (bq28 bq29 bq30:Int):Option (tV×ByteArray) :=
  lr (AB IH [1,1,1,1,0,1,0,1,1,1,1,0,0]) (NT a0 q15 y1 y2 y3 y5 y6 y7 bq27 bq28 bq29 bq30) (An8 K a0 lr)
def An9 (a0:(List Int)×Int×Int) (lr:LR (tV×ByteArray)):Ex→Fr→Option (tV×ByteArray) :=
  Ak (CR K) 1 lr IH [1,1,1,1,0,1,0,1,1,0,1,0] (Jd (CR K) Tryz.f18 sV [.str])
def Acf (a0:(List Int)×Int×Int) (lr:LR (tV×ByteArray)) (y1:tV×Int×tL×List Int) (y2:ByteArray×Int) (y3 y5:tV×Int) (y6:Bool) (y7:Int×tL×List Int) (bq14:ByteArray) (bq15 bq16 bq17:Int):Option (tV×ByteArray) :=
  lr (AB IH [1,1,1,1,0,1,0,1,1,0,1,0,0]) (NU a0 y1 y2 y3 y5 y6 y7 bq14 bq15 bq16 bq17) (An9 K a0 lr)
def Aoa (a0:(List Int)×Int×Int) (lr:LR (tV×ByteArray)):Ex→Fr→Option (tV×ByteArray) :=
  Ak (CR K) 1 lr IH [1,1,1,1,0,1,0,1,1,1,1,0] (Jd (CR K) Tryz.f18 sV [.str])
def Acg (a0:(List Int)×Int×Int) (lr:LR (tV×ByteArray)) (q67:Int) (y1:tV×Int×tL×List Int) (y2:ByteArray×Int) (y3 y60:tV×Int) (y61:Bool) (y62:Int×tL×List Int) (bq74:ByteArray) (bq75 bq76 bq77:Int):Option (tV×ByteArray) :=
  lr (AB IH [1,1,1,1,0,1,0,1,1,1,1,0,0]) (NV a0 q67 y1 y2 y3 y60 y61 y62 bq74 bq75 bq76 bq77) (Aoa K a0 lr)
def Aob (a0:(List Int)×Int×Int) (lr:LR (tV×ByteArray)):Ex→Fr→Option (tV×ByteArray) :=
  Ak (CR K) 1 lr IH [1,1,1,1,0,1,0,1,1,0,1,0] (Jd (CR K) Tryz.f18 sV [.str])
def Ach (a0:(List Int)×Int×Int) (lr:LR (tV×ByteArray)) (y1:tV×Int×tL×List Int) (y2:ByteArray×Int) (y3 y60:tV×Int) (y61:Bool) (y62:Int×tL×List Int) (bq66:ByteArray) (bq67 bq68 bq69:Int):Option (tV×ByteArray) :=
  lr (AB IH [1,1,1,1,0,1,0,1,1,0,1,0,0]) (NW a0 y1 y2 y3 y60 y61 y62 bq66 bq67 bq68 bq69) (Aob K a0 lr)
def Aoc (a0:(List Int)×Int×Int) (lr:LR (tV×ByteArray)):Ex→Fr→Option (tV×ByteArray) :=
  Ak (CR K) 1 lr IH [1,1,1,1,1,0,1,0,1,1,1,0,1,0] (Jd (CR K) Tryz.f18 sV [.str])
def Aci (a0:(List Int)×Int×Int) (lr:LR (tV×ByteArray)) (q15 q28:Int) (y1:tV×Int×tL×List Int) (y2:ByteArray×Int) (y3 y5:tV×Int) (y6:Bool) (y7:Int×tL×List Int) (y35:tV×Int) (bq39:ByteArray) (bq40:Int):Option (tV×ByteArray) :=
  lr (AB IH [1,1,1,1,1,0,1,0,1,1,1,0,1,0,0]) (Vw a0 q15 q28 y1 y2 y3 y5 y6 y7 y35 bq39 bq40) (Aoc K a0 lr)
def Aod (a0:(List Int)×Int×Int) (lr:LR (tV×ByteArray)):Ex→Fr→Option (tV×ByteArray) :=
  Ak (CR K) 1 lr IH [1,1,1,1,1,0,1,0,1,1,1,0,1,0] (Jd (CR K) Tryz.f18 sV [.str])
def Acj (a0:(List Int)×Int×Int) (lr:LR (tV×ByteArray)) (y1:tV×Int×tL×List Int) (y2:ByteArray×Int) (y3 y5:tV×Int) (y6:Bool) (y48:tV×Int) (bq51:ByteArray) (bq52:Int):Option (tV×ByteArray) :=
  lr (AB IH [1,1,1,1,1,0,1,0,1,1,1,0,1,0,0]) (Vx a0 y1 y2 y3 y5 y6 y48 bq51 bq52) (Aod K a0 lr)
def Aoe (a0:(List Int)×Int×Int) (lr:LR (tV×ByteArray)):Ex→Fr→Option (tV×ByteArray) :=
  Ak (CR K) 1 lr IH [1,1,1,1,1,0,1,0,1,1,1,0,1,0] (Jd (CR K) Tryz.f18 sV [.str])
def Ack (a0:(List Int)×Int×Int) (lr:LR (tV×ByteArray)) (q67 q75:Int) (y1:tV×Int×tL×List Int) (y2:ByteArray×Int) (y3 y60:tV×Int) (y61:Bool) (y62:Int×tL×List Int) (y82:tV×Int) (bq85:ByteArray) (bq86:Int):Option (tV×ByteArray) :=
  lr (AB IH [1,1,1,1,1,0,1,0,1,1,1,0,1,0,0]) (Vy a0 q67 q75 y1 y2 y3 y60 y61 y62 y82 bq85 bq86) (Aoe K a0 lr)
def Aof (a0:(List Int)×Int×Int) (lr:LR (tV×ByteArray)):Ex→Fr→Option (tV×ByteArray) :=
  Ak (CR K) 1 lr IH [1,1,1,1,1,0,1,0,1,1,1,0,1,0] (Jd (CR K) Tryz.f18 sV [.str])
def Acl (a0:(List Int)×Int×Int) (lr:LR (tV×ByteArray)) (y1:tV×Int×tL×List Int) (y2:ByteArray×Int) (y3 y60:tV×Int) (y61:Bool) (y94:tV×Int) (bq97:ByteArray) (bq98:Int):Option (tV×ByteArray) :=
  lr (AB IH [1,1,1,1,1,0,1,0,1,1,1,0,1,0,0]) (Vz a0 y1 y2 y3 y60 y61 y94 bq97 bq98) (Aof K a0 lr)
def f5E:Env:=⟨[],tys,eqs,mts,K,[0,2],[(18,AxT K)],[(19,Auc K)],[],[],[],[],false⟩
def f5G (a0:List Int):Option ByteArray :=
  (Ae8 K a0).bind fun y1=>(Ain K (a0,y1)).bind fun y2=>some y2.2
def f5M:Mdl:=⟨[(.ro,(.list 5 (.int .u8)))],[.str],fun x=>f5G K x.1⟩
def AxU:Env:=eE K [] [0,1,4]
def Aio (K:Nat) (a0 a1:ByteArray):Option Bool :=
  (bif ((decide (0≤(w ((a0.size:Int)-(a1.size:Int))))&&decide ((w ((a0.size:Int)-(a1.size:Int)))≤(a0.size:Int))&&decide ((a0.size:Int)≤(a0.size:Int)))||(!(decide ((a0.size:Int)≥(a1.size:Int))))) then some (bif (decide ((a0.size:Int)≥(a1.size:Int))) then ((a0.extract (w ((a0.size:Int)-(a1.size:Int))).toNat (a0.size:Int).toNat)==a1) else false) else none)
def AsU:Mdl:=⟨[(.ro,.str),(.ro,.str)],[.bool],fun x=>Aio K x.1 x.2.1⟩
def AzZ:Env:=eE K [(140,AsU K)] [0,1,4,5,9]
def Aut (a0 a1:ByteArray):Option (ByteArray×Bool) :=
  (Aio K a0 a1).bind fun y1=>(bif (!y1) then some (a0,false) else (bif (decide (0≤(0:Int))&&decide ((0:Int)≤(w ((a0.size:Int)-(a1.size:Int))))&&decide ((w ((a0.size:Int)-(a1.size:Int)))≤(a0.size:Int))) then some ((a0.extract 0 (w ((a0.size:Int)-(a1.size:Int))).toNat),true) else none))
def AxV:Mdl:=⟨[(.ro,.str),(.ro,.str)],[.str,.bool],fun x=>Aut K x.1 x.2.1⟩
def Az0:Env:=eE K [(85,AxV K)] [0,1,4,5]
def Aog (a0 a1:ByteArray):Option (ByteArray×Bool) :=
  (Aut K a0 a1).bind fun y1=>some y1
def AxW:Mdl:=⟨[(.ro,.str),(.ro,.str)],[.str,.bool],fun x=>Aog K x.1 x.2.1⟩
omit K
def Y5 (K:Nat) (a0 a1:ByteArray):Option (List ByteArray):=LO a0 a1
def Aoh (K:Nat):Mdl:=⟨[(.ro,.str),(.ro,.str)],[(.list 9 .str)],fun x=>Y5 K x.1 x.2.1⟩
include K
omit K
def Aip (K:Nat) (a0 a1:Int):Option ByteArray:=Aa1 a0 a1
def AsV (K:Nat):Mdl:=⟨[(.ro,sI),(.ro,sI)],[.str],fun x=>Aip K x.1 x.2.1⟩
include K
def Az1:Env:=eE K [(122,AsV K)] [0,2]
def Aiq (a0:Int):Option ByteArray :=
  (Aip K a0 (10:Int)).bind fun y1=>some y1
def Auu:Mdl:=⟨[(.ro,sI)],[.str],fun x=>Aiq K x.1⟩
omit K
def Acm (K:Nat) (a0:ByteArray):Option (Int×Bool):=Aha a0
def Air (K:Nat):Mdl:=⟨[(.ro,.str)],[.int .i64,.bool],fun x=>Acm K x.1⟩
include K
def QZ:Env:=eE K [(45,Aoh K),(190,Air K)] [0,1,2,6,7,8,9,11,12,13,20,22,23,24,25,34]
def Tq (a0 a1:ByteArray) (a2:Int) (y1:List ByteArray) (L4:Int→(List Int)→Option ((List Int)×Bool)) (q5:Int) (q6:List Int):Option ((List Int)×Bool) :=
  (bif (decide (q5<(y1.length:Int))) then (bif (decide (0≤q5)&&decide (q5<(y1.length:Int))) then (Acm K (y1.getD ((0:Int)+q5).toNat ByteArray.empty)).bind fun y7=>(bif (!y7.2) then some ([],false) else (bif (Nat.ble (q6.length+[y7.1].length) (lim 8)) then L4 (w (q5+(1:Int))) (q6++[y7.1]) else none)) else none) else some (q6,true))
def MN (a0 a1:ByteArray) (a2:Int) (y1:List ByteArray) (n:Nat) (q5:Int) (q6:List Int):Option ((List Int)×Bool) :=
  Ax (X:=Int×List Int) (fun L x=>Tq K a0 a1 a2 y1 (fun v0 v1=>L (v0,v1)) x.1 x.2) n (q5,q6)
def Y6 (a0 a1:ByteArray) (a2:Int) (I4:(List ByteArray)→Int→(List Int)→Option ((List Int)×Bool)):Option ((List Int)×Bool) :=
  (Y5 K a0 a1).bind fun y1=>(bif ((y1.length:Int) != a2) then some ([],false) else I4 y1 (0:Int) [])
def IR (a0 a1:ByteArray) (a2:Int):Option ((List Int)×Bool) :=
  Y6 K a0 a1 a2 (fun c0 d0 d1=>MN K a0 a1 a2 c0 K d0 d1)
def Q0:Mdl:=⟨[(.ro,.str),(.ro,.str),(.ro,sI)],[(.list 2 sI),.bool],fun x=>IR K x.1 x.2.1 x.2.2.1⟩
def Aoi (a0 a1:ByteArray) (a2:Int) (lr:LR ((List Int)×Bool)):Ex→Fr→Option ((List Int)×Bool) :=
  Ak (QZ K) 0 lr Asx [1,1,1,1,0,1,0] (fM (QZ K) Tryz.f145 (Q0 K) (a0,a1,a2,()))
def Acn (a0 a1:ByteArray) (a2:Int) (lr:LR ((List Int)×Bool)) (y1:List ByteArray) (bq5:Int) (bq6:List Int):Option ((List Int)×Bool) :=
  lr (AB Asx [1,1,1,1,0,1,0,0]) (VA a0 a1 a2 y1 bq5 bq6) (Aoi K a0 a1 a2 lr)
def AxX:Env:=eE K [] [0,1,2,6]
def IU (K:Nat) (a0 a1 a2:Int):Option Bool :=
  some (bif (decide (a0≥a1)) then (decide (a0≤a2)) else false)
def Q1:Mdl:=⟨[(.ro,sI),(.ro,sI),(.ro,sI)],[.bool],fun x=>IU K x.1 x.2.1 x.2.2.1⟩
def AxY:Env:=eE K [(117,Q1 K)] [0,2]
def JX (a0:Int):Option Bool :=
  (IU K a0 (-1000:Int) (1000:Int)).bind fun y1=>some y1
def Ais:Mdl:=⟨[(.ro,sI)],[.bool],fun x=>JX K x.1⟩
def AxZ:Env:=eE K [(169,Ais K)] [0,1,2]
def LU (a0:Int×Int):Option Bool :=
  (JX K a0.1).bind fun y1=>((bif y1 then JX K a0.2 else some false)).bind fun y2=>some (bif y1 then y2 else false)
def Q2:Mdl:=⟨[(.ro,sV)],[.bool],fun x=>LU K x.1⟩
def Ax0:Env:=eE K [(120,Q2 K),(145,Q0 K)] [0,2,3,4,5,23]
def Wg (a0:ByteArray):Option (tV×Bool) :=
  (IR K a0 (bs [44]) (2:Int)).bind fun y1=>(bif ((decide (0≤(0:Int))&&decide ((0:Int)<(y1.1.length:Int)))||(!(!(!y1.2)))) then (bif ((decide (0≤(1:Int))&&decide ((1:Int)<(y1.1.length:Int)))||(!(!(!y1.2)))) then ((bif (!(!y1.2)) then LU K ((y1.1.getD ((0:Int)+(0:Int)).toNat (0:Int)),(y1.1.getD ((0:Int)+(1:Int)).toNat (0:Int))) else some false)).bind fun y2=>(bif (bif (!y1.2) then true else (!y2)) then some (((0:Int),(0:Int)),false) else (bif (decide (0≤(0:Int))&&decide ((0:Int)<(y1.1.length:Int))) then (bif (decide (0≤(1:Int))&&decide ((1:Int)<(y1.1.length:Int))) then some (((y1.1.getD ((0:Int)+(0:Int)).toNat (0:Int)),(y1.1.getD ((0:Int)+(1:Int)).toNat (0:Int))),true) else none) else none)) else none) else none)
def Ait:Mdl:=⟨[(.ro,.str)],[sV,.bool],fun x=>Wg K x.1⟩
def Q3:Env:=eE K [] [0,2,3,4,5,8,9,10,21]
def Tr (K:Nat) (a0:ByteArray) (L2:Int→(List Int)→Option ((List Int)×Bool)) (q3:Int) (q4:List Int):Option ((List Int)×Bool) :=
  (bif (decide (q3<(a0.size:Int))) then (bif (decide (0≤q3)&&decide (q3<(a0.size:Int))) then (bif ((decide (0≤q3)&&decide (q3<(a0.size:Int)))||(!(!(decide (((a0.data.getD q3.toNat 0).toNat:Int)<(48:Int)))))) then (bif (bif (decide (((a0.data.getD q3.toNat 0).toNat:Int)<(48:Int))) then true else (decide (((a0.data.getD q3.toNat 0).toNat:Int)>(57:Int)))) then some ([],false) else (bif (decide (0≤q3)&&decide (q3<(a0.size:Int))) then (bif (Nat.ble (q4.length+[(w (IntKind.u8.wrap (((a0.data.getD q3.toNat 0).toNat:Int)-(48:Int))))].length) (lim 8)) then L2 (w (q3+(1:Int))) (q4++[(w (IntKind.u8.wrap (((a0.data.getD q3.toNat 0).toNat:Int)-(48:Int))))]) else none) else none)) else none) else none) else some (q4,true))
def MO (a0:ByteArray) (n:Nat) (q3:Int) (q4:List Int):Option ((List Int)×Bool) :=
  Ax (X:=Int×List Int) (fun L x=>Tr K a0 (fun v0 v1=>L (v0,v1)) x.1 x.2) n (q3,q4)
def Y7 (K:Nat) (a0:ByteArray) (I2:Int→(List Int)→Option ((List Int)×Bool)):Option ((List Int)×Bool) :=
  I2 (0:Int) []
def Wh (a0:ByteArray):Option ((List Int)×Bool) :=
  Y7 K a0 (fun d0 d1=>MO K a0 K d0 d1)
def Aco:Mdl:=⟨[(.ro,.str)],[(.list 2 sI),.bool],fun x=>Wh K x.1⟩
def Aoj (a0:ByteArray) (lr:LR ((List Int)×Bool)):Ex→Fr→Option ((List Int)×Bool) :=
  Ak (Q3 K) 0 lr Asy [1,1,0,1,0] (fM (Q3 K) Tryz.f185 (Aco K) (a0,()))
def Acp (a0:ByteArray) (lr:LR ((List Int)×Bool)) (bq3:Int) (bq4:List Int):Option ((List Int)×Bool) :=
  lr (AB Asy [1,1,0,1,0,0]) (VB a0 bq3 bq4) (Aoj K a0 lr)
def Ax1:Env:=eE K [(184,Ait K),(185,Aco K)] [0,1,4,5,6,7,8,9,30]
def Acq (a0 a1:ByteArray):Option ((tV×Int)×Bool) :=
  (Wg K a0).bind fun y1=>(Wh K a1).bind fun y2=>(bif (bif (bif (!y1.2) then true else (!y2.2)) then true else ((y2.1.length:Int) != (1:Int))) then some ((((0:Int),(0:Int)),(0:Int)),false) else (bif (decide (0≤(0:Int))&&decide ((0:Int)<(y2.1.length:Int))) then some ((y1.1,(y2.1.getD ((0:Int)+(0:Int)).toNat (0:Int))),true) else none))
def AsW:Mdl:=⟨[(.ro,.str),(.ro,.str)],[(.cons sV sI),.bool],fun x=>Acq K x.1 x.2.1⟩
def Az2:Env:=eE K [(143,AsW K)] [0,1,2,3,8,9,10,17,20,23]
def Auv (a0:Int×Int×tL×(List tM)×List (tV×Int)) (a1 a2:ByteArray) (a3:Int):Option ((Int×Int×tL×(List tM)×List (tV×Int))×Int) :=
  (Acq K a1 a2).bind fun y1=>(bif (!y1.2) then some (a0,(6:Int)) else (bif (decide (a3<(2:Int))) then some (a0,(5:Int)) else (bif ((a0.2.2.2.2.length:Int)==(40:Int)) then some (a0,(3:Int)) else (bif (Nat.ble (a0.2.2.2.2.length+[y1.1].length) (lim 24)) then some ((a0.1,a0.2.1,a0.2.2.1,a0.2.2.2.1,(a0.2.2.2.2++[y1.1])),(0:Int)) else none))))
def Ax2:Qa:=⟨(.cons sI (.cons sI (.cons sL (.cons (.list 78 sM) (.list 61 (.cons sV sI)))))),[(.ro,.str),(.ro,.str),(.ro,sI)],[sI],fun x=>Auv K x.1 x.2.1 x.2.2.1 x.2.2.2.1⟩
omit K
def Aok (K:Nat) (a0 a1:ByteArray):Option (Int):=Am8 a0 a1
def Ax3 (K:Nat):Mdl:=⟨[(.ro,.str),(.ro,.str)],[sI],fun x=>Aok K x.1 x.2.1⟩
include K
def Az3:Env:=eE K [] [0,2,3]
def Y8 (K:Nat) (a0:Bool):Option Int :=
  (bif a0 then some (0:Int) else some (5:Int))
def Ax4:Mdl:=⟨[(.ro,.bool)],[sI],fun x=>Y8 K x.1⟩
def Az4:Env:=eE K [] [0,1,2]
def Ts (K:Nat) (a0:Int×Int×Int):Option Int :=
  some (w (a0.1*a0.2.2))
def Aiu:Mdl:=⟨[(.ro,sL)],[sI],fun x=>Ts K x.1⟩
def Az5:Env:=eE K [(64,Aiu K),(117,Q1 K)] [0,1,2]
def Y9 (a0:Int×Int×Int):Option Bool :=
  (IU K a0.1 (1:Int) (64:Int)).bind fun y1=>((bif y1 then IU K a0.2.2 (1:Int) (64:Int) else some false)).bind fun y2=>((bif (bif y1 then y2 else false) then IU K a0.2.1 (0:Int) (w (a0.1-(1:Int))) else some false)).bind fun y3=>((bif (bif (bif y1 then y2 else false) then y3 else false) then Ts K a0 else some (0:Int))).bind fun y4=>some (bif (bif (bif y1 then y2 else false) then y3 else false) then (decide (y4≤(64:Int))) else false)
def Aiv:Mdl:=⟨[(.ro,sL)],[.bool],fun x=>Y9 K x.1⟩
def Az6:Env:=eE K [(63,Aiv K),(145,Q0 K)] [0,2,3,4,5,26]
def Aol (a0:ByteArray):Option (tL×Bool) :=
  (IR K a0 (bs [44]) (3:Int)).bind fun y1=>(bif ((decide (0≤(0:Int))&&decide ((0:Int)<(y1.1.length:Int)))||(!(!(!y1.2)))) then (bif ((decide (0≤(1:Int))&&decide ((1:Int)<(y1.1.length:Int)))||(!(!(!y1.2)))) then (bif ((decide (0≤(2:Int))&&decide ((2:Int)<(y1.1.length:Int)))||(!(!(!y1.2)))) then ((bif (!(!y1.2)) then Y9 K ((y1.1.getD ((0:Int)+(0:Int)).toNat (0:Int)),(y1.1.getD ((0:Int)+(1:Int)).toNat (0:Int)),(y1.1.getD ((0:Int)+(2:Int)).toNat (0:Int))) else some false)).bind fun y2=>(bif (bif (!y1.2) then true else (!y2)) then some (((0:Int),(0:Int),(0:Int)),false) else (bif (decide (0≤(0:Int))&&decide ((0:Int)<(y1.1.length:Int))) then (bif (decide (0≤(1:Int))&&decide ((1:Int)<(y1.1.length:Int))) then (bif (decide (0≤(2:Int))&&decide ((2:Int)<(y1.1.length:Int))) then some (((y1.1.getD ((0:Int)+(0:Int)).toNat (0:Int)),(y1.1.getD ((0:Int)+(1:Int)).toNat (0:Int)),(y1.1.getD ((0:Int)+(2:Int)).toNat (0:Int))),true) else none) else none) else none)) else none) else none) else none)
def Ax5:Mdl:=⟨[(.ro,.str)],[sL,.bool],fun x=>Aol K x.1⟩
omit K
def Wi (K:Nat) (a0 a1:ByteArray):Option (ByteArray×ByteArray×Bool):=Ys a0 a1
def AsX (K:Nat):Mdl:=⟨[(.ro,.str),(.ro,.str)],[.str,.str,.bool],fun x=>Wi K x.1 x.2.1⟩
include K
def Ax6:Env:=eE K [(169,Ais K)] [0,1,2]
def Aiw (a0:Int×Int×Int×Int):Option Bool :=
  (JX K a0.1).bind fun y1=>((bif y1 then JX K a0.2.1 else some false)).bind fun y2=>((bif (bif y1 then y2 else false) then JX K a0.2.2.1 else some false)).bind fun y3=>((bif (bif (bif y1 then y2 else false) then y3 else false) then JX K a0.2.2.2 else some false)).bind fun y4=>some (bif (bif (bif y1 then y2 else false) then y3 else false) then y4 else false)
def AsY:Mdl:=⟨[(.ro,sA)],[.bool],fun x=>Aiw K x.1⟩
def Ax7:Env:=eE K [] [0,1,2]
def E2 (K:Nat) (a0:Int×Int×Int×Int):Option Int :=
  some (w ((w (a0.1*a0.2.2.2))-(w (a0.2.1*a0.2.2.1))))
def Wj:Mdl:=⟨[(.ro,sA)],[sI],fun x=>E2 K x.1⟩
def Ax8:Env:=eE K [(259,AsY K),(260,Wj K)] [0,1,2]
def Q4 (a0:Int×Int×Int×Int):Option Bool :=
  (Aiw K a0).bind fun y1=>((bif y1 then E2 K a0 else some (0:Int))).bind fun y2=>((bif (y1&&(!(y2==(1:Int)))) then E2 K a0 else some (0:Int))).bind fun y3=>some (bif y1 then (bif (y2==(1:Int)) then true else (y3==(-1:Int))) else false)
def Aix:Mdl:=⟨[(.ro,sA)],[.bool],fun x=>Q4 K x.1⟩
def Ax9:Env:=eE K [(145,Q0 K),(231,Aix K)] [0,2,3,4,5,29]
def Acr (a0:ByteArray):Option (tA×Bool) :=
  (IR K a0 (bs [44]) (4:Int)).bind fun y1=>(bif ((decide (0≤(0:Int))&&decide ((0:Int)<(y1.1.length:Int)))||(!(!(!y1.2)))) then (bif ((decide (0≤(1:Int))&&decide ((1:Int)<(y1.1.length:Int)))||(!(!(!y1.2)))) then (bif ((decide (0≤(2:Int))&&decide ((2:Int)<(y1.1.length:Int)))||(!(!(!y1.2)))) then (bif ((decide (0≤(3:Int))&&decide ((3:Int)<(y1.1.length:Int)))||(!(!(!y1.2)))) then ((bif (!(!y1.2)) then Q4 K ((y1.1.getD ((0:Int)+(0:Int)).toNat (0:Int)),(y1.1.getD ((0:Int)+(1:Int)).toNat (0:Int)),(y1.1.getD ((0:Int)+(2:Int)).toNat (0:Int)),(y1.1.getD ((0:Int)+(3:Int)).toNat (0:Int))) else some false)).bind fun y2=>(bif (bif (!y1.2) then true else (!y2)) then some (((0:Int),(0:Int),(0:Int),(0:Int)),false) else (bif (decide (0≤(0:Int))&&decide ((0:Int)<(y1.1.length:Int))) then (bif (decide (0≤(1:Int))&&decide ((1:Int)<(y1.1.length:Int))) then (bif (decide (0≤(2:Int))&&decide ((2:Int)<(y1.1.length:Int))) then (bif (decide (0≤(3:Int))&&decide ((3:Int)<(y1.1.length:Int))) then some (((y1.1.getD ((0:Int)+(0:Int)).toNat (0:Int)),(y1.1.getD ((0:Int)+(1:Int)).toNat (0:Int)),(y1.1.getD ((0:Int)+(2:Int)).toNat (0:Int)),(y1.1.getD ((0:Int)+(3:Int)).toNat (0:Int))),true) else none) else none) else none) else none)) else none) else none) else none) else none)
def AsZ:Mdl:=⟨[(.ro,.str)],[sA,.bool],fun x=>Acr K x.1⟩
def Aya:Env:=eE K [] [0]
def N9 (K:Nat):Option tA :=
  some ((1:Int),(0:Int),(0:Int),(1:Int))
def Acs:Mdl:=⟨[],[sA],fun x=>N9 K ⟩
def Ayb:Env:=eE K [(110,Acs K),(260,Wj K)] [0,1,2,3,9,13,24,32,40]
def Acu (a0:Int×Int×Int×Int):Option Int :=
  (N9 K).bind fun y1=>(bif ((a0.1==y1.1)&&((a0.2.1==y1.2.1)&&((a0.2.2.1==y1.2.2.1)&&(a0.2.2.2==y1.2.2.2)))) then some (1:Int) else (E2 K a0).bind fun y2=>(bif (bif (y2==(-1:Int)) then ((w (a0.1+a0.2.2.2))==(0:Int)) else false) then (bif (bif (y2==(-1:Int)) then ((w (a0.1+a0.2.2.2))==(0:Int)) else false) then some (2:Int) else (E2 K a0).bind fun y3=>(bif (bif (y3==(1:Int)) then ((w (a0.1+a0.2.2.2))==(-1:Int)) else false) then some (3:Int) else (E2 K a0).bind fun y4=>(bif (bif (y4==(1:Int)) then ((w (a0.1+a0.2.2.2))==(0:Int)) else false) then some (4:Int) else (E2 K a0).bind fun y5=>(bif (bif (y5==(1:Int)) then ((w (a0.1+a0.2.2.2))==(1:Int)) else false) then some (6:Int) else some (0:Int))))) else (bif ((a0.1==(-1:Int))&&((a0.2.1==(0:Int))&&((a0.2.2.1==(0:Int))&&(a0.2.2.2==(-1:Int))))) then some (2:Int) else (E2 K a0).bind fun y6=>(bif (bif (y6==(1:Int)) then ((w (a0.1+a0.2.2.2))==(-1:Int)) else false) then some (3:Int) else (E2 K a0).bind fun y7=>(bif (bif (y7==(1:Int)) then ((w (a0.1+a0.2.2.2))==(0:Int)) else false) then some (4:Int) else (E2 K a0).bind fun y8=>(bif (bif (y8==(1:Int)) then ((w (a0.1+a0.2.2.2))==(1:Int)) else false) then some (6:Int) else some (0:Int)))))))
def Aiy:Mdl:=⟨[(.ro,sA)],[sI],fun x=>Acu K x.1⟩
def Ayc:Env:=eE K [(260,Wj K),(278,Aiy K)] [0,1,2]
def Aiz (a0:Int×Int×Int×Int):Option Bool :=
  (E2 K a0).bind fun y1=>((bif (y1==(1:Int)) then Acu K a0 else some (0:Int))).bind fun y2=>some (bif (y1==(1:Int)) then (decide (y2>(0:Int))) else false)
def As0:Mdl:=⟨[(.ro,sA)],[.bool],fun x=>Aiz K x.1⟩
def Ayd:Env:=eE K [(260,Wj K),(278,Aiy K)] [0,1,2]
def AiA (a0:Int×Int×Int×Int):Option Bool :=
  (E2 K a0).bind fun y1=>((bif (y1==(-1:Int)) then Acu K a0 else some (0:Int))).bind fun y2=>some (bif (y1==(-1:Int)) then (y2==(2:Int)) else false)
def As1:Mdl:=⟨[(.ro,sA)],[.bool],fun x=>AiA K x.1⟩
def Aye:Env:=eE K [(261,As0 K),(262,As1 K)] [0,1,2]
def Wk (a0:Int×Int×Int×Int):Option Bool :=
  (Aiz K a0).bind fun y1=>((bif (!y1) then AiA K a0 else some false)).bind fun y2=>some (bif y1 then true else y2)
def As2:Mdl:=⟨[(.ro,sA)],[.bool],fun x=>Wk K x.1⟩
def Ayf:Env:=eE K [(120,Q2 K),(231,Aix K),(232,As2 K)] [0,1,2]
def Acv (a0:tA×Int×Int):Option Bool :=
  (Q4 K a0.1).bind fun y1=>((bif y1 then Wk K a0.1 else some false)).bind fun y2=>((bif (bif y1 then y2 else false) then LU K a0.2 else some false)).bind fun y3=>some (bif (bif y1 then y2 else false) then y3 else false)
def As3:Mdl:=⟨[(.ro,sM)],[.bool],fun x=>Acv K x.1⟩
def Ayg:Env:=eE K [(184,Ait K),(191,AsX K),(192,AsZ K),(193,As3 K)] [0,2,3,4,5,7,8,9,10,39]
def Wl (a0:ByteArray):Option (tM×Bool) :=
  (Wi K a0 (bs [59])).bind fun y1=>(Acr K y1.1).bind fun y2=>(Wg K y1.2.1).bind fun y3=>((bif (!(bif (!y2.2) then true else (!y3.2))) then Acv K (y2.1,y3.1) else some false)).bind fun y4=>(bif (bif (bif (!y2.2) then true else (!y3.2)) then true else (!y4)) then some ((((0:Int),(0:Int),(0:Int),(0:Int)),(0:Int),(0:Int)),false) else some ((y2.1,y3.1),true))
def As4:Mdl:=⟨[(.ro,.str)],[sM,.bool],fun x=>Wl K x.1⟩
def Ayh:Env:=eE K [] [0,1,2,3]
def AiB (K:Nat) (a0:Int×Int×Int):Option (tV×Int×Int) :=
  some ((a0.1,(0:Int)),a0.2)
def As5:Mdl:=⟨[(.ro,sL)],[sV,sV],fun x=>AiB K x.1⟩
end
end Go.Proofs.YtkemdhpdfaejgaaGreatDoor.X
