/- Functions of the program as plain Lean functions, and that the program does what they say. Printed by gen.py. -/
import Derived.Test.YtelgaemfnhnbmaaGreatDoorQzXLoop
import Derived.Test.YtelgaemfnhnbmaaGreatDoorQzXLib
import Derived.Test.YtelgaemfnhnbmaaGreatDoorQzXStr
import Derived.Test.YtelgaemfnhnbmaaGreatDoorProg
namespace Go.Proofs.YtelgaemfnhnbmaaGreatDoor.X
open Go
set_option maxRecDepth 100000
attribute [local instance] cwD
set_option linter.unusedVariables false
abbrev tM:Type:=((Int×Int×Int×Int)×Int×Int)
abbrev tA:Type:=(Int×Int×Int×Int)
abbrev tL:Type:=(Int×Int×Int)
abbrev tV:Type:=(Int×Int)
abbrev sM:Sh:=(.cons (.cons (.int .i64) (.cons (.int .i64) (.cons (.int .i64) (.int .i64)))) (.cons (.int .i64) (.int .i64)))
abbrev sA:Sh:=(.cons (.int .i64) (.cons (.int .i64) (.cons (.int .i64) (.int .i64))))
abbrev sL:Sh:=(.cons (.int .i64) (.cons (.int .i64) (.int .i64)))
abbrev sV:Sh:=(.cons (.int .i64) (.int .i64))
abbrev sI:Sh:=(.int .i64)
abbrev zM:tM:=(((0:Int),((0:Int),((0:Int),(0:Int)))),((0:Int),(0:Int)))
abbrev zA:tA:=((0:Int),((0:Int),((0:Int),(0:Int))))
noncomputable section
def tys:List (Nat×Ty):=[(2,.sc sI),(3,.sc sI),(4,.sc .bool),(5,.sc (.int .u8)),(9,.sc .str),(22,.sl 5 (.int .u8) 1),(25,.st sL [(0,1),(1,1),(2,1)]),(26,.sl 2 sI 8),(28,.st (.cons sI (.cons sL (.list 2 sI))) [(0,1),(1,3),(4,1)]),(36,.sl 52 sM 48),(48,.st sA [(0,1),(1,1),(2,1),(3,1)]),(50,.st sV [(0,1),(1,1)]),(52,.st sM [(0,4),(4,2)]),(55,.sl 50 sV 16),(56,.sl 55 (.list 50 sV) 24),(86,.sl 48 sA 32),(109,.sl 170 (.cons sV sI) 24),(111,.st (.cons sI (.cons sI (.cons sL (.cons (.list 52 sM) (.list 170 (.cons sV sI)))))) [(0,1),(1,1),(2,3),(5,1),(6,1)]),(112,.sl 9 .str 16),(117,.st (.cons (.list 5 (.int .u8)) sV) [(0,1),(1,1),(2,1)]),(132,.sc (.int .u64)),(170,.st (.cons sV sI) [(0,2),(2,1)]),(255,.sl 36 (.list 52 sM) 24)]
def eqs:List (Nat×List Sh):=[(25,[sI,sI,sI]),(48,[sI,sI,sI,sI]),(50,[sI,sI]),(52,[sI,sI,sI,sI,sI,sI])]
def mts:List (Nat×MTy):=[(82,⟨52,4,sM,.bool⟩)]
theorem tab_ok:tabB Tryz.prog tys eqs mts=true:=by kernel_rfl
theorem mixed_ok:Tryz.prog.follows .mixedOrders=true:=by kernel_rfl
def eE (K:Nat) (l:List (Nat×Mdl)) (k:List Nat):Env:=⟨l,tys,eqs,mts,K,k,[],[],[],[],[],[],false⟩
abbrev rM (E:Env) (f:Func) (m:Mdl) (x:AT m.ps):=runF E f m.ps m.rs x
abbrev fM (E:Env) (f:Func) (m:Mdl) (x:AT m.ps):=finK E f m.ps m.rs x
theorem loop_o {X R:Type} {E:Env} {n0:Nat} {S:Code} {fr0:Fr} {k:Ex→Fr→Option R} (frame:X→Fr) {body:(X→Option R)→X→Option R} (h:∀ (L:Fr→Option R) x,execG E n0 (realL E n0) S (frame x) (loopK n0 fr0 L k)=body (fun x=>L (frame x)) x) (n:Nat) (x:X):loopN (exec E n0 S) n0 fr0 n (frame x) k=iter body n x :=
  loopN_iter (fun L x=>(exec_G E n0 S _ _).trans (h L x)) n x
def jI (n:Int):Lf:=.int .i64 n
def jV (v:Int×Int):List Lf:=[jI v.1,jI v.2]
def jL (l:Int×Int×Int):List Lf:=[jI l.1,jI l.2.1,jI l.2.2]
def jA (m:Int×Int×Int×Int):List Lf:=[jI m.1,jI m.2.1,jI m.2.2.1,jI m.2.2.2]
def jM (m:tA×Int×Int):List Lf:=[jI m.1.1,jI m.1.2.1,jI m.1.2.2.1,jI m.1.2.2.2,jI m.2.1,jI m.2.2]
def f38C:Code:=codeOf Tryz.f38
def f38_fr2 (a0:List Int) (q3 q4:Int):Fr:=⟨34,[(0,.v false [.row 0]),(2,.v false [.und]),(3,.v false [.box 0 0]),(4,.v false [jI q3])],[some ⟨true,[.row 0,jI (0:Int),jI q4]⟩],[some ⟨5,(.int .u8),a0,.ro⟩]⟩
def f123C:Code:=codeOf Tryz.f123
def f123_fr3 (a0 q4:Int) (q5:List tA):Fr:=⟨34,[(0,.v false [jI a0]),(2,.v false [.row 0]),(3,.v false [.row 1]),(4,.v false [jI q4])],[],[some ⟨48,sA,[],.own⟩,some ⟨48,sA,q5,.own⟩]⟩
def f122C:Code:=codeOf Tryz.f122
def f122_fr15 (a0:List tV) (q11 q12 q16 q17 q18 q19:Int):Fr:=⟨74,[(0,.v false [.row 0]),(2,.v false [.box 0 0]),(3,.v false [.box 1 0]),(4,.v false [jI q11]),(5,.v false [jI q12]),(6,.v false [.box 2 0]),(13,.v false [.bool (decide (q12<(a0.length:Int)))])],[some ⟨true,[jI (0:Int),jI (0:Int),jI (0:Int)]⟩,some ⟨true,[jI q16,jI q17]⟩,some ⟨true,[jI q18,jI q19]⟩],[some ⟨50,sV,a0,.ro⟩]⟩
def f122_fr10 (a0:List tV) (q11 q12 q13 q14:Int):Fr:=⟨74,[(0,.v false [.row 0]),(2,.v false [.box 0 0]),(3,.v false [.box 1 0]),(4,.v false [jI q11]),(5,.v false [jI q12])],[some ⟨true,[jI (0:Int),jI (0:Int),jI (0:Int)]⟩,some ⟨true,[jI q13,jI q14]⟩],[some ⟨50,sV,a0,.ro⟩]⟩
def f69C:Code:=codeOf Tryz.f69
def f69_fr4 (a0:Int) (a1:Int×Int×Int) (y1:List tA) (q5:Int) (q6:List tA):Fr:=⟨33,[(0,.v false [jI a0]),(1,.v true (jL a1)),(3,.v false [.box 0 0]),(4,.v false [.row 0]),(5,.v false [.row 1]),(6,.v false [.row 2]),(7,.v false [jI q5])],[some ⟨true,(jL a1)⟩],[some ⟨48,sA,[],.own⟩,some ⟨48,sA,y1,.own⟩,some ⟨48,sA,q6,.own⟩]⟩
def f223C:Code:=codeOf Tryz.f223
def f223_fr2 (a0 a1:List Int) (q3:Int):Fr:=⟨41,[(0,.v false [.row 0]),(1,.v false [.row 1]),(4,.v false [.bool false]),(5,.v false [jI q3])],[],[some ⟨2,sI,a0,.ro⟩,some ⟨2,sI,a1,.ro⟩]⟩
def f74C:Code:=codeOf Tryz.f74
def f74_fr6 (a0:List tM) (a1:tA×Int×Int) (q7 q8:Int):Fr:=⟨27,[(0,.v false [.row 0]),(1,.v true (jM a1)),(3,.v false [.box 0 0]),(4,.v false [jI (0:Int)]),(5,.v false [jI q7]),(6,.v false [jI q8])],[some ⟨true,(jM a1)⟩],[some ⟨52,sM,a0,.ro⟩]⟩
def f30C:Code:=codeOf Tryz.f30
def f30_fr21 (a0:Int×Int×Int) (a1:List tM) (q18:Int) (q20:List tM) (q22:Int) (q23 q24:List tM):Fr:=⟨49,[(0,.v true (jL a0)),(1,.v false [.row 0]),(2,.v false [.box 0 0]),(4,.v false [.row 1]),(5,.v false [.row 2]),(6,.v false [.row 3]),(7,.v false [jI q18]),(8,.v false [jI q22]),(17,.v false [.bool (decide (q18<(q20.length:Int)))])],[some ⟨true,(jL a0)⟩],[some ⟨52,sM,a1,.ro⟩,some ⟨52,sM,[],.own⟩,some ⟨52,sM,q23,.own⟩,some ⟨52,sM,q24,.own⟩]⟩
def f30_fr17 (a0:Int×Int×Int) (a1:List tM) (q18:Int) (q19 q20:List tM):Fr:=⟨49,[(0,.v true (jL a0)),(1,.v false [.row 0]),(2,.v false [.box 0 0]),(4,.v false [.row 1]),(5,.v false [.row 2]),(6,.v false [.row 3]),(7,.v false [jI q18])],[some ⟨true,(jL a0)⟩],[some ⟨52,sM,a1,.ro⟩,some ⟨52,sM,[],.own⟩,some ⟨52,sM,q19,.own⟩,some ⟨52,sM,q20,.own⟩]⟩
def f70C:Code:=codeOf Tryz.f70
def f70_fr9 (a0:Int×Int×Int) (q7 q10:Int) (q11:List tV):Fr:=⟨26,[(0,.v true (jL a0)),(1,.v false [.box 0 0]),(2,.v false [.row 0]),(3,.v false [.row 1]),(4,.v false [jI q7]),(5,.v false [jI q10]),(10,.v false [.bool (decide (q7<a0.1))])],[some ⟨true,(jL a0)⟩],[some ⟨50,sV,[],.own⟩,some ⟨50,sV,q11,.own⟩]⟩
def f70_fr6 (a0:Int×Int×Int) (q7:Int) (q8:List tV):Fr:=⟨26,[(0,.v true (jL a0)),(1,.v false [.box 0 0]),(2,.v false [.row 0]),(3,.v false [.row 1]),(4,.v false [jI q7])],[some ⟨true,(jL a0)⟩],[some ⟨50,sV,[],.own⟩,some ⟨50,sV,q8,.own⟩]⟩
def f137C:Code:=codeOf Tryz.f137
def f137_fr3 (a0:List tV) (a1:Int×Int) (q4:Int):Fr:=⟨45,[(0,.v false [.row 0]),(1,.v true (jV a1)),(3,.v false [.box 0 0]),(4,.v false [.row 1]),(5,.v false [jI q4])],[some ⟨true,(jV a1)⟩],[some ⟨50,sV,a0,.own⟩,some ⟨50,sV,[],.own⟩]⟩
def f81C:Code:=codeOf Tryz.f81
def f81_fr4 (a0:Int×Int×Int) (a1:List tM) (a2:Int×Int) (q5:Int) (q6:List tV):Fr:=⟨26,[(0,.v true (jL a0)),(1,.v false [.row 0]),(2,.v true (jV a2)),(3,.v false [.box 0 0]),(5,.v false [.box 1 0]),(6,.v false [.row 1]),(7,.v false [.row 2]),(8,.v false [jI q5])],[some ⟨true,(jL a0)⟩,some ⟨true,(jV a2)⟩],[some ⟨52,sM,a1,.ro⟩,some ⟨50,sV,[],.own⟩,some ⟨50,sV,q6,.own⟩]⟩
def f32C:Code:=codeOf Tryz.f32
def f32_fr4 (a0:Int×Int×Int) (a1:List tM) (y1:List tV) (q5:Int) (q6:List (List tV)):Fr:=⟨38,[(0,.v true (jL a0)),(1,.v false [.row 0]),(2,.v false [.box 0 0]),(4,.v false [.row 1]),(5,.v false [.row 2]),(6,.v false [.row 3]),(7,.v false [jI q5])],[some ⟨true,(jL a0)⟩],[some ⟨52,sM,a1,.ro⟩,some ⟨55,(.list 50 sV),[],.own⟩,some ⟨50,sV,y1,.own⟩,some ⟨55,(.list 50 sV),q6,.own⟩]⟩
def f153C:Code:=codeOf Tryz.f153
def f153_fr12 (a0:Int×Int×Int) (a1:List tM) (q10:Int) (y1:List (List tV)) (q13:Int) (q14:List Int):Fr:=⟨46,[(0,.v true (jL a0)),(1,.v false [.row 0]),(2,.v false [.box 0 0]),(4,.v false [.row 1]),(5,.v false [.row 2]),(6,.v false [.row 3]),(7,.v false [jI q10]),(8,.v false [jI q13]),(21,.v false [.bool (decide (q10<(y1.length:Int)))])],[some ⟨true,(jL a0)⟩],[some ⟨52,sM,a1,.ro⟩,some ⟨2,sI,[],.own⟩,some ⟨2,sI,q14,.own⟩,some ⟨55,(.list 50 sV),y1,.own⟩]⟩
def f153_fr9 (a0:Int×Int×Int) (a1:List tM) (y1:List (List tV)) (q10:Int) (q11:List Int):Fr:=⟨46,[(0,.v true (jL a0)),(1,.v false [.row 0]),(2,.v false [.box 0 0]),(4,.v false [.row 1]),(5,.v false [.row 2]),(6,.v false [.row 3]),(7,.v false [jI q10])],[some ⟨true,(jL a0)⟩],[some ⟨52,sM,a1,.ro⟩,some ⟨2,sI,[],.own⟩,some ⟨2,sI,q11,.own⟩,some ⟨55,(.list 50 sV),y1,.own⟩]⟩
def f89C:Code:=codeOf Tryz.f89
def f89_fr27 (a0:(List Int)×Int×Int) (a1:Int) (a2:Int×Int×Int) (q9:Int) (q12:List tM) (q21 q22 q23:Int) (q24:List Int) (y1:Int) (y3:tV×Int) (y15:List tM) (y16:List Int) (y17:tV×Int) (q28:Int) (q29:List Int):Fr:=⟨88,[(0,.v false [.box 0 0]),(1,.v false [jI a1]),(2,.v true (jL a2)),(5,.v false [.box 1 0]),(6,.v false [.box 2 0]),(7,.v false [.box 3 0]),(8,.v false [.row 1]),(9,.v false [.row 2]),(10,.v false [jI q9]),(11,.v false [.row 3]),(12,.v false [.row 4]),(13,.v false [jI (w ((2:Int)+y17.2))]),(14,.v false [jI q21]),(15,.v false [jI q28]),(23,.v false [.bool (y1 != (0:Int))]),(29,.v false [.bool (decide (y3.2>(0:Int)))]),(35,.v false [.bool (decide (q9>(0:Int)))]),(60,.v false [.bool (decide (q21<(y16.length:Int)))])],[some ⟨true,[.row 0,jI q22,jI q23]⟩,some ⟨true,(jL a2)⟩,some ⟨true,[jI (0:Int),jI (0:Int),jI (0:Int),jI (0:Int),.row 5]⟩,some ⟨true,[jI a1,jI a2.1,jI a2.2.1,jI a2.2.2,.row 6]⟩],[some ⟨5,(.int .u8),a0.1,.ro⟩,some ⟨52,sM,y15,.own⟩,some ⟨52,sM,q12,.own⟩,some ⟨2,sI,y16,.own⟩,some ⟨2,sI,q24,.own⟩,some ⟨2,sI,[],.own⟩,some ⟨2,sI,q29,.own⟩]⟩
def f89_fr20 (a0:(List Int)×Int×Int) (a1:Int) (a2:Int×Int×Int) (q9:Int) (q12:List tM) (y1:Int) (y3:tV×Int) (y15:List tM) (y16:List Int) (y17:tV×Int) (q21 q22 q23:Int) (q24:List Int):Fr:=⟨88,[(0,.v false [.box 0 0]),(1,.v false [jI a1]),(2,.v true (jL a2)),(5,.v false [.box 1 0]),(6,.v false [.box 2 0]),(7,.v false [.box 3 0]),(8,.v false [.row 1]),(9,.v false [.row 2]),(10,.v false [jI q9]),(11,.v false [.row 3]),(12,.v false [.row 4]),(13,.v false [jI (w ((2:Int)+y17.2))]),(14,.v false [jI q21]),(23,.v false [.bool (y1 != (0:Int))]),(29,.v false [.bool (decide (y3.2>(0:Int)))]),(35,.v false [.bool (decide (q9>(0:Int)))])],[some ⟨true,[.row 0,jI q22,jI q23]⟩,some ⟨true,(jL a2)⟩,some ⟨true,[jI (0:Int),jI (0:Int),jI (0:Int),jI (0:Int),.row 5]⟩,some ⟨true,[jI a1,jI a2.1,jI a2.2.1,jI a2.2.2,.row 6]⟩],[some ⟨5,(.int .u8),a0.1,.ro⟩,some ⟨52,sM,y15,.own⟩,some ⟨52,sM,q12,.own⟩,some ⟨2,sI,y16,.own⟩,some ⟨2,sI,q24,.own⟩,some ⟨2,sI,[],.own⟩,some ⟨2,sI,[],.own⟩]⟩
def f89_fr8 (a0:(List Int)×Int×Int) (a1:Int) (a2:Int×Int×Int) (y1:Int) (y2:tA×Int×Int) (y3:tV×Int) (q9 q10 q11:Int) (q12:List tM):Fr:=⟨88,[(0,.v false [.box 0 0]),(1,.v false [jI a1]),(2,.v true (jL a2)),(5,.v false [.box 1 0]),(6,.v false [.box 2 0]),(7,.v false [.box 3 0]),(8,.v false [.row 1]),(9,.v false [.row 2]),(10,.v false [jI q9]),(23,.v false [.bool (y1 != (0:Int))]),(29,.v false [.bool (decide (y3.2>(0:Int)))])],[some ⟨true,[.row 0,jI q10,jI q11]⟩,some ⟨true,(jL a2)⟩,some ⟨true,[jI (0:Int),jI (0:Int),jI (0:Int),jI (0:Int),.row 3]⟩,some ⟨true,[jI a1,jI a2.1,jI a2.2.1,jI a2.2.2,.row 4]⟩],[some ⟨5,(.int .u8),a0.1,.ro⟩,some ⟨52,sM,[y2],.own⟩,some ⟨52,sM,q12,.own⟩,some ⟨2,sI,[],.own⟩,some ⟨2,sI,[],.own⟩]⟩
def f89_fr46 (a0:(List Int)×Int×Int) (a1:Int) (a2:Int×Int×Int) (q39 q40 q41:Int) (q42 q43:List Int) (y1:Int) (y2:tA×Int×Int) (y3:tV×Int) (y30:List Int) (y31:tV×Int) (q47:Int) (q48:List Int):Fr:=⟨88,[(0,.v false [.box 0 0]),(1,.v false [jI a1]),(2,.v true (jL a2)),(5,.v false [.box 1 0]),(6,.v false [.box 2 0]),(7,.v false [.box 3 0]),(8,.v false [.row 1]),(11,.v false [.row 2]),(12,.v false [.row 3]),(13,.v false [jI (w ((2:Int)+y31.2))]),(14,.v false [jI q39]),(15,.v false [jI q47]),(23,.v false [.bool (y1 != (0:Int))]),(29,.v false [.bool (decide (y3.2>(0:Int)))]),(60,.v false [.bool (decide (q39<(y30.length:Int)))])],[some ⟨true,[.row 0,jI q40,jI q41]⟩,some ⟨true,(jL a2)⟩,some ⟨true,[jI (0:Int),jI (0:Int),jI (0:Int),jI (0:Int),.row 4]⟩,some ⟨true,[jI a1,jI a2.1,jI a2.2.1,jI a2.2.2,.row 5]⟩],[some ⟨5,(.int .u8),a0.1,.ro⟩,some ⟨52,sM,[y2],.own⟩,some ⟨2,sI,y30,.own⟩,some ⟨2,sI,q43,.own⟩,some ⟨2,sI,q42,.own⟩,some ⟨2,sI,q48,.own⟩]⟩
def f89_fr38 (a0:(List Int)×Int×Int) (a1:Int) (a2:Int×Int×Int) (y1:Int) (y2:tA×Int×Int) (y3:tV×Int) (y30:List Int) (y31:tV×Int) (q39 q40 q41:Int) (q42 q43:List Int):Fr:=⟨88,[(0,.v false [.box 0 0]),(1,.v false [jI a1]),(2,.v true (jL a2)),(5,.v false [.box 1 0]),(6,.v false [.box 2 0]),(7,.v false [.box 3 0]),(8,.v false [.row 1]),(11,.v false [.row 2]),(12,.v false [.row 3]),(13,.v false [jI (w ((2:Int)+y31.2))]),(14,.v false [jI q39]),(23,.v false [.bool (y1 != (0:Int))]),(29,.v false [.bool (decide (y3.2>(0:Int)))])],[some ⟨true,[.row 0,jI q40,jI q41]⟩,some ⟨true,(jL a2)⟩,some ⟨true,[jI (0:Int),jI (0:Int),jI (0:Int),jI (0:Int),.row 4]⟩,some ⟨true,[jI a1,jI a2.1,jI a2.2.1,jI a2.2.2,.row 5]⟩],[some ⟨5,(.int .u8),a0.1,.ro⟩,some ⟨52,sM,[y2],.own⟩,some ⟨2,sI,y30,.own⟩,some ⟨2,sI,q43,.own⟩,some ⟨2,sI,q42,.own⟩,some ⟨2,sI,[],.own⟩]⟩
def f14C:Code:=codeOf Tryz.f14
def f14_fr5 (a0:List Int) (y2:tV×Int) (q6 q7 q8:Int) (q9:List Int):Fr:=⟨33,[(0,.v false [.row 0]),(2,.v false [.box 0 0]),(3,.v false [.box 1 0]),(4,.v false [.box 2 0]),(5,.v false [.box 3 0]),(6,.v false [jI q6]),(11,.v false [.bool (y2.2==(0:Int))])],[some ⟨true,[jI (0:Int),jI (0:Int),jI (0:Int),jI (0:Int),.row 1]⟩,some ⟨true,[.row 0,jI q7,jI q8]⟩,some ⟨true,[jI (7:Int),jI (0:Int),jI (6:Int)]⟩,some ⟨true,[jI (0:Int),jI (7:Int),jI (0:Int),jI (6:Int),.row 2]⟩],[some ⟨5,(.int .u8),a0,.ro⟩,some ⟨2,sI,[],.own⟩,some ⟨2,sI,q9,.own⟩]⟩
def f154C:Code:=codeOf Tryz.f154
def f154_fr3 (a0:List Int) (a1:(Int→Option Bool)) (q4:Int):Fr:=⟨19,[(0,.v false [.row 0]),(1,.v false [.fv1 sI .bool a1]),(4,.v false [jI (0:Int)]),(7,.v false [jI (a0.length:Int)]),(8,.v false [jI q4])],[],[some ⟨2,sI,a0,.ro⟩]⟩
def f54C:Code:=codeOf Tryz.f54
def f54_fr9 (a0:Int×Int×Int) (q7 q10:Int) (q11:List tV):Fr:=⟨26,[(0,.v true (jL a0)),(1,.v false [.box 0 0]),(2,.v false [.row 0]),(3,.v false [.row 1]),(4,.v false [jI q7]),(8,.v false [jI a0.1]),(9,.v false [jI q7]),(10,.v false [.bool (decide (q7<a0.1))]),(13,.v false [jI a0.2.2]),(14,.v false [jI q10])],[some ⟨true,(jL a0)⟩],[some ⟨50,sV,[],.own⟩,some ⟨50,sV,q11,.own⟩]⟩
def f54_fr6 (a0:Int×Int×Int) (q7:Int) (q8:List tV):Fr:=⟨26,[(0,.v true (jL a0)),(1,.v false [.box 0 0]),(2,.v false [.row 0]),(3,.v false [.row 1]),(8,.v false [jI a0.1]),(9,.v false [jI q7])],[some ⟨true,(jL a0)⟩],[some ⟨50,sV,[],.own⟩,some ⟨50,sV,q8,.own⟩]⟩
def f55C:Code:=codeOf Tryz.f55
def f55_fr5 (a0:Int×tL×List Int) (a1:tA×Int×Int) (y1:List tV) (q6:Int):Fr:=⟨28,[(0,.v true [jI a0.1,jI a0.2.1.1,jI a0.2.1.2.1,jI a0.2.1.2.2,.row 0]),(1,.v true (jM a1)),(2,.v false [.box 0 0]),(3,.v false [.box 1 0]),(4,.v false [.bool false]),(9,.v false [.row 1]),(10,.v false [jI (y1.length:Int)]),(11,.v false [jI q6])],[some ⟨true,[jI a0.1,jI a0.2.1.1,jI a0.2.1.2.1,jI a0.2.1.2.2,.row 0]⟩,some ⟨true,(jM a1)⟩],[some ⟨2,sI,a0.2.2,.ro⟩,some ⟨50,sV,y1,.own⟩]⟩
def f156C:Code:=codeOf Tryz.f156
def f156_fr2 (q3 q4:Int):Fr:=⟨15,[(0,.v false [jI q3]),(1,.v false [jI q4]),(4,.v false [jI (0:Int)])],[],[]⟩
def f95C:Code:=codeOf Tryz.f95
def f95_fr18 (a0:List tV) (q14 q15 q19 q20 q21 q22:Int):Fr:=⟨48,[(0,.v false [.row 0]),(2,.v false [.box 0 0]),(3,.v false [jI q14]),(4,.v false [.box 1 0]),(6,.v false [.box 2 0]),(9,.v false [.row 0]),(10,.v false [jI (a0.length:Int)]),(11,.v false [jI q15]),(12,.v false [.bool (decide (q15<(a0.length:Int)))])],[some ⟨true,[jI (0:Int),jI (0:Int),jI (0:Int)]⟩,some ⟨true,[jI q19,jI q20]⟩,some ⟨true,[jI q21,jI q22]⟩],[some ⟨50,sV,a0,.ro⟩]⟩
def f95_fr13 (a0:List tV) (q14 q15 q16 q17:Int):Fr:=⟨48,[(0,.v false [.row 0]),(2,.v false [.box 0 0]),(3,.v false [jI q14]),(4,.v false [.box 1 0]),(9,.v false [.row 0]),(10,.v false [jI (a0.length:Int)]),(11,.v false [jI q15])],[some ⟨true,[jI (0:Int),jI (0:Int),jI (0:Int)]⟩,some ⟨true,[jI q16,jI q17]⟩],[some ⟨50,sV,a0,.ro⟩]⟩
def f46C:Code:=codeOf Tryz.f46
def f46_fr6 (a0:Int×tL×List Int) (y1:tV×Int×Int) (y2:List tV) (q7:Int) (q8:List tV):Fr:=⟨37,[(0,.v true [jI a0.1,jI a0.2.1.1,jI a0.2.1.2.1,jI a0.2.1.2.2,.row 0]),(1,.v false [.box 0 0]),(2,.v false [.box 1 0]),(3,.v false [.box 2 0]),(4,.v false [.box 3 0]),(5,.v false [.row 1]),(19,.v false [.row 2]),(20,.v false [jI (y2.length:Int)]),(21,.v false [jI q7])],[some ⟨true,[jI a0.1,jI a0.2.1.1,jI a0.2.1.2.1,jI a0.2.1.2.2,.row 0]⟩,some ⟨true,[jI (0:Int),jI (0:Int),jI (0:Int)]⟩,some ⟨true,(jV y1.1)⟩,some ⟨true,(jV y1.2)⟩],[some ⟨2,sI,a0.2.2,.ro⟩,some ⟨50,sV,q8,.own⟩,some ⟨50,sV,y2,.own⟩]⟩
def f45C:Code:=codeOf Tryz.f45
def f45_fr4 (a0:Int×tL×List Int) (a1:Int×Int×Int) (y1:List tV) (q5:Int) (q6:List Int):Fr:=⟨29,[(0,.v true [jI a0.1,jI a0.2.1.1,jI a0.2.1.2.1,jI a0.2.1.2.2,.row 0]),(1,.v true (jL a1)),(2,.v false [.box 0 0]),(3,.v false [.box 1 0]),(4,.v false [.box 2 0]),(5,.v false [.box 3 0]),(13,.v false [.row 1]),(14,.v false [jI (y1.length:Int)]),(15,.v false [jI q5])],[some ⟨true,[jI a0.1,jI a0.2.1.1,jI a0.2.1.2.1,jI a0.2.1.2.2,.row 0]⟩,some ⟨true,(jL a1)⟩,some ⟨true,[jI (0:Int),jI (0:Int),jI (0:Int),jI (0:Int),.row 2]⟩,some ⟨true,[jI a0.1,jI a1.1,jI a1.2.1,jI a1.2.2,.row 3]⟩],[some ⟨2,sI,a0.2.2,.ro⟩,some ⟨50,sV,y1,.own⟩,some ⟨2,sI,[],.own⟩,some ⟨2,sI,q6,.own⟩]⟩
def f96C:Code:=codeOf Tryz.f96
def f96_fr3 (a0:ByteArray) (a1:List Int) (q4:Int) (q5:List ByteArray):Fr:=⟨24,[(0,.v false [.str a0]),(1,.v false [.row 0]),(4,.v false [.str ByteArray.empty]),(5,.v false [.row 1]),(9,.v false [.row 0]),(10,.v false [jI (a1.length:Int)]),(11,.v false [jI q4])],[],[some ⟨2,sI,a1,.ro⟩,some ⟨9,.str,q5,.own⟩]⟩
def f169C:Code:=codeOf Tryz.f169
def f169_fr2 (a0 a1:List Int) (q3:Int):Fr:=⟨30,[(0,.v false [.row 0]),(1,.v false [.row 1]),(4,.v false [jI (0:Int)]),(7,.v false [jI (a0.length:Int)]),(8,.v false [jI q3])],[],[some ⟨2,sI,a0,.ro⟩,some ⟨2,sI,a1,.ro⟩]⟩
def f18C:Code:=codeOf Tryz.f18
def f18_fr16 (a0:Int×Int×Int) (a1:List tM) (q13:Int) (q15:List tM) (q17:Int) (q18:List (tM×Bool)) (q19:List tM):Fr:=⟨53,[(0,.v true (jL a0)),(1,.v false [.row 0]),(2,.v false [.box 0 0]),(4,.v false [.row 1]),(5,.v false [.row 2]),(6,.v false [.mp 1]),(7,.v false [jI q13]),(22,.v false [.bool (decide (q13<(q15.length:Int)))]),(25,.v false [.row 0]),(26,.v false [jI (a1.length:Int)]),(27,.v false [jI q17])],[some ⟨true,(jL a0)⟩,some ⟨true,[.mc sM .bool q18]⟩],[some ⟨52,sM,a1,.ro⟩,some ⟨52,sM,[],.own⟩,some ⟨52,sM,q19,.own⟩]⟩
def f18_fr12 (a0:Int×Int×Int) (a1:List tM) (q13:Int) (q14:List (tM×Bool)) (q15:List tM):Fr:=⟨53,[(0,.v true (jL a0)),(1,.v false [.row 0]),(2,.v false [.box 0 0]),(4,.v false [.row 1]),(5,.v false [.row 2]),(6,.v false [.mp 1]),(7,.v false [jI q13])],[some ⟨true,(jL a0)⟩,some ⟨true,[.mc sM .bool q14]⟩],[some ⟨52,sM,a1,.ro⟩,some ⟨52,sM,[],.own⟩,some ⟨52,sM,q15,.own⟩]⟩
def f106C:Code:=codeOf Tryz.f106
def f106_fr8 (a0 q9:Int) (q10:List tA):Fr:=⟨61,[(0,.v false [jI a0]),(2,.v false [.row 0]),(3,.v false [.row 1]),(10,.v false [jI q9])],[],[some ⟨48,sA,[],.own⟩,some ⟨48,sA,q10,.own⟩]⟩
def f170C:Code:=codeOf Tryz.f170
def f170_fr3 (a0:List tA) (a1:(tA→Option Bool)) (q4:Int):Fr:=⟨19,[(0,.v false [.row 0]),(1,.v false [.fv1 sA .bool a1]),(4,.v false [jI (0:Int)]),(7,.v false [jI (a0.length:Int)]),(8,.v false [jI q4])],[],[some ⟨48,sA,a0,.ro⟩]⟩
def f105C:Code:=codeOf Tryz.f105
def f105_fr4 (a1:(tA→Option Bool)) (y1 q5 q6:Int) (q7:List tA):Fr:=⟨42,[(0,.v false [.row 0]),(1,.v false [.fv1 sA .bool a1]),(4,.v false [.row 1]),(5,.v false [jI q5]),(6,.v false [jI q6]),(12,.v false [.bool (y1==(-1:Int))])],[],[some ⟨48,sA,q7,.own⟩,some ⟨48,sA,[],.own⟩]⟩
def f19C:Code:=codeOf Tryz.f19
def f19_fr14 (a0:Int×tL×List Int) (q11:Int) (y1:List tA) (y13:List tV) (q15:Int) (q16:List tM):Fr:=⟨41,[(0,.v true [jI a0.1,jI a0.2.1.1,jI a0.2.1.2.1,jI a0.2.1.2.2,.row 0]),(1,.v false [.box 0 0]),(2,.v false [.row 1]),(3,.v false [.row 2]),(5,.v false [.box 1 0]),(13,.v false [.row 3]),(14,.v false [jI (y1.length:Int)]),(15,.v false [jI q11]),(16,.v false [.bool (decide (q11<(y1.length:Int)))]),(21,.v false [.row 4]),(22,.v false [jI (y13.length:Int)]),(23,.v false [jI q15])],[some ⟨true,[jI a0.1,jI a0.2.1.1,jI a0.2.1.2.1,jI a0.2.1.2.2,.row 0]⟩,some ⟨true,[jI ((y1.getD ((0:Int)+q11).toNat zA).1),jI (((y1.getD ((0:Int)+q11).toNat zA).2).1),jI ((((y1.getD ((0:Int)+q11).toNat zA).2).2).1),jI ((((y1.getD ((0:Int)+q11).toNat zA).2).2).2)]⟩],[some ⟨2,sI,a0.2.2,.ro⟩,some ⟨52,sM,[],.own⟩,some ⟨52,sM,q16,.own⟩,some ⟨48,sA,y1,.own⟩,some ⟨50,sV,y13,.own⟩]⟩
def f19_fr10 (a0:Int×tL×List Int) (y1:List tA) (q11:Int) (q12:List tM):Fr:=⟨41,[(0,.v true [jI a0.1,jI a0.2.1.1,jI a0.2.1.2.1,jI a0.2.1.2.2,.row 0]),(1,.v false [.box 0 0]),(2,.v false [.row 1]),(3,.v false [.row 2]),(13,.v false [.row 3]),(14,.v false [jI (y1.length:Int)]),(15,.v false [jI q11])],[some ⟨true,[jI a0.1,jI a0.2.1.1,jI a0.2.1.2.1,jI a0.2.1.2.2,.row 0]⟩],[some ⟨2,sI,a0.2.2,.ro⟩,some ⟨52,sM,[],.own⟩,some ⟨52,sM,q12,.own⟩,some ⟨48,sA,y1,.own⟩]⟩
def f56C:Code:=codeOf Tryz.f56
def f56_fr2 (a0:List tM) (a1:tA×Int×Int) (q3:Int):Fr:=⟨19,[(0,.v false [.row 0]),(1,.v true (jM a1)),(3,.v false [.box 0 0]),(4,.v false [jI (0:Int)]),(7,.v false [jI (a0.length:Int)]),(8,.v false [jI q3])],[some ⟨true,(jM a1)⟩],[some ⟨52,sM,a0,.ro⟩]⟩
def f60C:Code:=codeOf Tryz.f60
def f60_fr3 (a0:List Int) (a1:Int) (y1:Int×Int) (q4:Int) (q5:List Int):Fr:=⟨48,[(0,.v false [.row 0]),(1,.v false [jI a1]),(4,.v false [.row 1]),(5,.v false [.int .u64 y1.1]),(6,.v false [.int .u64 y1.2]),(7,.v false [.row 2]),(8,.v false [jI q4]),(10,.v false [.bool (decide (a1<(0:Int)))]),(26,.v false [.bool (bif (decide (y1.1>(0:Int))) then true else (decide (y1.2>(9223372036854775807:Int))))])],[],[some ⟨2,sI,a0,.ro⟩,some ⟨2,sI,[],.own⟩,some ⟨2,sI,q5,.own⟩]⟩
def f116C:Code:=codeOf Tryz.f116
def f116_fr9 (a0:List tV) (q8 q10 q11:Int) (q12:List tV):Fr:=⟨61,[(0,.v false [.row 0]),(2,.v false [.row 1]),(3,.v false [jI q10]),(4,.v false [.view 0 ((0:Int)+q8) ((0:Int)+(a0.length:Int))]),(5,.v false [jI q11]),(8,.v false [.bool (decide ((a0.length:Int)<(2:Int)))]),(13,.v false [.bool (decide (q8<(a0.length:Int)))]),(25,.v false [.bool (((a0.getD ((0:Int)+q8).toNat ((0:Int),(0:Int))).1==(a0.getD ((0:Int)+(w (q8-(1:Int)))).toNat ((0:Int),(0:Int))).1)&&((a0.getD ((0:Int)+q8).toNat ((0:Int),(0:Int))).2==(a0.getD ((0:Int)+(w (q8-(1:Int)))).toNat ((0:Int),(0:Int))).2))])],[],[some ⟨50,sV,q12,.own⟩,some ⟨50,sV,[],.own⟩]⟩
def f116_fr7 (a0:List tV) (q8:Int):Fr:=⟨61,[(0,.v false [.row 0]),(2,.v false [.row 1]),(3,.v false [jI q8]),(8,.v false [.bool (decide ((a0.length:Int)<(2:Int)))])],[],[some ⟨50,sV,a0,.own⟩,some ⟨50,sV,[],.own⟩]⟩
def f62C:Code:=codeOf Tryz.f62
def f62_fr3 (a0:Int×Int×Int) (a1:List tM) (a2:Int×Int) (q4:Int) (q5:List tV):Fr:=⟨29,[(0,.v true (jL a0)),(1,.v false [.row 0]),(2,.v true (jV a2)),(3,.v false [.box 0 0]),(5,.v false [.box 1 0]),(6,.v false [.row 1]),(7,.v false [.row 2]),(11,.v false [.row 0]),(12,.v false [jI (a1.length:Int)]),(13,.v false [jI q4])],[some ⟨true,(jL a0)⟩,some ⟨true,(jV a2)⟩],[some ⟨52,sM,a1,.ro⟩,some ⟨50,sV,[],.own⟩,some ⟨50,sV,q5,.own⟩]⟩
def f22C:Code:=codeOf Tryz.f22
def f22_fr22 (a0:Int×Int×Int) (a1:List tM) (q17:Int) (q18:List (List tV)) (q19:List Int) (y3:List tV) (y20:Int) (y21:List tV) (q23:Int) (q24:List Int):Fr:=⟨57,[(0,.v true (jL a0)),(1,.v false [.row 0]),(2,.v false [.box 0 0]),(4,.v false [.row 1]),(5,.v false [.row 2]),(6,.v false [.row 3]),(7,.v false [.row 4]),(9,.v false [.box 1 0]),(10,.v false [.row 5]),(19,.v false [.row 6]),(20,.v false [jI (y3.length:Int)]),(21,.v false [jI q17]),(22,.v false [.bool (decide (q17<(y3.length:Int)))]),(31,.v false [.bool (decide ((q19.getD ((0:Int)+y20).toNat (0:Int))≥(0:Int)))]),(36,.v false [.row 5]),(37,.v false [jI (y21.length:Int)]),(38,.v false [jI q23])],[some ⟨true,(jL a0)⟩,some ⟨true,[jI ((y3.getD ((0:Int)+q17).toNat ((0:Int),(0:Int))).1),jI ((y3.getD ((0:Int)+q17).toNat ((0:Int),(0:Int))).2)]⟩],[some ⟨52,sM,a1,.ro⟩,some ⟨55,(.list 50 sV),[],.own⟩,some ⟨2,sI,[],.own⟩,some ⟨55,(.list 50 sV),q18,.own⟩,some ⟨2,sI,q24,.own⟩,some ⟨50,sV,y21,.own⟩,some ⟨50,sV,y3,.own⟩]⟩
def f22_fr16 (a0:Int×Int×Int) (a1:List tM) (y3:List tV) (q17:Int) (q18:List (List tV)) (q19:List Int):Fr:=⟨57,[(0,.v true (jL a0)),(1,.v false [.row 0]),(2,.v false [.box 0 0]),(4,.v false [.row 1]),(5,.v false [.row 2]),(6,.v false [.row 3]),(7,.v false [.row 4]),(19,.v false [.row 5]),(20,.v false [jI (y3.length:Int)]),(21,.v false [jI q17])],[some ⟨true,(jL a0)⟩],[some ⟨52,sM,a1,.ro⟩,some ⟨55,(.list 50 sV),[],.own⟩,some ⟨2,sI,[],.own⟩,some ⟨55,(.list 50 sV),q18,.own⟩,some ⟨2,sI,q19,.own⟩,some ⟨50,sV,y3,.own⟩]⟩
def f23C:Code:=codeOf Tryz.f23
def f23_fr5 (a0:Int×tL×List Int) (a1:List tV) (q6:ByteArray) (q7 q8:Int):Fr:=⟨38,[(0,.v true [jI a0.1,jI a0.2.1.1,jI a0.2.1.2.1,jI a0.2.1.2.2,.row 0]),(1,.v false [.row 1]),(2,.v false [.box 0 0]),(4,.v false [.str ByteArray.empty]),(5,.v false [jI (0:Int)]),(6,.v false [.str q6]),(7,.v false [jI q7]),(11,.v false [.row 1]),(12,.v false [jI (a1.length:Int)]),(13,.v false [jI q8])],[some ⟨true,[jI a0.1,jI a0.2.1.1,jI a0.2.1.2.1,jI a0.2.1.2.2,.row 0]⟩],[some ⟨2,sI,a0.2.2,.ro⟩,some ⟨50,sV,a1,.ro⟩]⟩
def f6C:Code:=codeOf Tryz.f6
def f6_fr20 (a0:Int×tL×List Int) (q11:ByteArray) (q12:Int) (q13 q14:List tM) (y1:Bool) (y2:Int×tL×List Int) (y5:List tM) (y18:(List (List tV))×List Int) (q21:Int) (q22:List tV):Fr:=⟨89,[(0,.v true [jI a0.1,jI a0.2.1.1,jI a0.2.1.2.1,jI a0.2.1.2.2,.row 0]),(1,.v false [.box 0 0]),(2,.v false [.str ByteArray.empty]),(3,.v false [jI (0:Int)]),(4,.v false [.box 1 0]),(5,.v false [.str q11]),(6,.v false [.row 1]),(7,.v false [.row 2]),(8,.v false [.row 3]),(11,.v false [.row 4]),(12,.v false [.row 5]),(20,.v false [.bool (!y1)]),(31,.v false [.row 3]),(32,.v false [jI (y5.length:Int)]),(33,.v false [jI q12]),(34,.v false [.bool (decide (q12<(y5.length:Int)))]),(64,.v false [.row 5]),(65,.v false [jI (y18.1.length:Int)]),(66,.v false [jI q21])],[some ⟨true,[jI a0.1,jI a0.2.1.1,jI a0.2.1.2.1,jI a0.2.1.2.2,.row 0]⟩,some ⟨true,[jI y2.1,jI y2.2.1.1,jI y2.2.1.2.1,jI y2.2.1.2.2,.row 6]⟩],[some ⟨2,sI,a0.2.2,.ro⟩,some ⟨52,sM,q13,.own⟩,some ⟨52,sM,q14,.own⟩,some ⟨52,sM,y5,.own⟩,some ⟨50,sV,q22,.own⟩,some ⟨55,(.list 50 sV),y18.1,.own⟩,some ⟨2,sI,y2.2.2,.own⟩]⟩
def f6_fr10 (a0:Int×tL×List Int) (y1:Bool) (y2:Int×tL×List Int) (y5:List tM) (q11:ByteArray) (q12:Int) (q13 q14:List tM):Fr:=⟨89,[(0,.v true [jI a0.1,jI a0.2.1.1,jI a0.2.1.2.1,jI a0.2.1.2.2,.row 0]),(1,.v false [.box 0 0]),(2,.v false [.str ByteArray.empty]),(3,.v false [jI (0:Int)]),(4,.v false [.box 1 0]),(5,.v false [.str q11]),(6,.v false [.row 1]),(7,.v false [.row 2]),(8,.v false [.row 3]),(20,.v false [.bool (!y1)]),(31,.v false [.row 3]),(32,.v false [jI (y5.length:Int)]),(33,.v false [jI q12])],[some ⟨true,[jI a0.1,jI a0.2.1.1,jI a0.2.1.2.1,jI a0.2.1.2.2,.row 0]⟩,some ⟨true,[jI y2.1,jI y2.2.1.1,jI y2.2.1.2.1,jI y2.2.1.2.2,.row 4]⟩],[some ⟨2,sI,a0.2.2,.ro⟩,some ⟨52,sM,q13,.own⟩,some ⟨52,sM,q14,.own⟩,some ⟨52,sM,y5,.own⟩,some ⟨2,sI,y2.2.2,.own⟩]⟩
def f66C:Code:=codeOf Tryz.f66
def f66_fr3 (a0:List Int) (a1 a2 a3 q4:Int):Fr:=⟨28,[(0,.v false [.row 0]),(1,.v false [jI a1]),(2,.v false [jI a2]),(3,.v false [jI a3]),(8,.v false [.bool false]),(9,.v false [jI q4])],[],[some ⟨2,sI,a0,.ro⟩]⟩
def f71C:Code:=codeOf Tryz.f71
def f71_fr6 (a0:Int×tL×List Int) (a1:tA×Int×Int) (y1:List tV) (q7:Int):Fr:=⟨31,[(0,.v true [jI a0.1,jI a0.2.1.1,jI a0.2.1.2.1,jI a0.2.1.2.2,.row 0]),(1,.v true (jM a1)),(2,.v false [.box 0 0]),(3,.v false [.box 1 0]),(4,.v false [.bool false]),(5,.v false [.row 1]),(6,.v false [jI q7])],[some ⟨true,[jI a0.1,jI a0.2.1.1,jI a0.2.1.2.1,jI a0.2.1.2.2,.row 0]⟩,some ⟨true,(jM a1)⟩],[some ⟨2,sI,a0.2.2,.ro⟩,some ⟨50,sV,y1,.own⟩]⟩
def f68C:Code:=codeOf Tryz.f68
def f68_fr6 (a0:Int×tL×List Int) (y1:List tV) (q7:Int) (q8:List tV):Fr:=⟨35,[(0,.v true [jI a0.1,jI a0.2.1.1,jI a0.2.1.2.1,jI a0.2.1.2.2,.row 0]),(1,.v false [.box 0 0]),(2,.v false [.box 1 0]),(3,.v false [.row 1]),(4,.v false [.row 2]),(5,.v false [jI q7])],[some ⟨true,[jI a0.1,jI a0.2.1.1,jI a0.2.1.2.1,jI a0.2.1.2.2,.row 0]⟩,some ⟨true,[jI (0:Int),jI (0:Int),jI (0:Int)]⟩],[some ⟨2,sI,a0.2.2,.ro⟩,some ⟨50,sV,y1,.own⟩,some ⟨50,sV,q8,.own⟩]⟩
def f67C:Code:=codeOf Tryz.f67
def f67_fr4 (a0:Int×tL×List Int) (a1:Int×Int×Int) (y1:List tV) (q5:Int) (q6:List Int):Fr:=⟨33,[(0,.v true [jI a0.1,jI a0.2.1.1,jI a0.2.1.2.1,jI a0.2.1.2.2,.row 0]),(1,.v true (jL a1)),(2,.v false [.box 0 0]),(3,.v false [.box 1 0]),(4,.v false [.box 2 0]),(5,.v false [.row 1]),(6,.v false [.box 3 0]),(7,.v false [jI q5])],[some ⟨true,[jI a0.1,jI a0.2.1.1,jI a0.2.1.2.1,jI a0.2.1.2.2,.row 0]⟩,some ⟨true,(jL a1)⟩,some ⟨true,[jI (0:Int),jI (0:Int),jI (0:Int),jI (0:Int),.row 2]⟩,some ⟨true,[jI a0.1,jI a1.1,jI a1.2.1,jI a1.2.2,.row 3]⟩],[some ⟨2,sI,a0.2.2,.ro⟩,some ⟨50,sV,y1,.own⟩,some ⟨2,sI,[],.own⟩,some ⟨2,sI,q6,.own⟩]⟩
def f26C:Code:=codeOf Tryz.f26
def f26_fr13 (a0:Int×tL×List Int) (q11:Int) (y1:List tA) (y2:List tV) (q14:Int) (q15:List tM):Fr:=⟨47,[(0,.v true [jI a0.1,jI a0.2.1.1,jI a0.2.1.2.1,jI a0.2.1.2.2,.row 0]),(1,.v false [.box 0 0]),(2,.v false [.row 1]),(3,.v false [.row 2]),(4,.v false [.row 3]),(5,.v false [.row 4]),(6,.v false [jI q11]),(7,.v false [jI q14]),(21,.v false [.bool (decide (q11<(y1.length:Int)))])],[some ⟨true,[jI a0.1,jI a0.2.1.1,jI a0.2.1.2.1,jI a0.2.1.2.2,.row 0]⟩],[some ⟨2,sI,a0.2.2,.ro⟩,some ⟨52,sM,[],.own⟩,some ⟨48,sA,y1,.own⟩,some ⟨50,sV,y2,.own⟩,some ⟨52,sM,q15,.own⟩]⟩
def f26_fr10 (a0:Int×tL×List Int) (y1:List tA) (y2:List tV) (q11:Int) (q12:List tM):Fr:=⟨47,[(0,.v true [jI a0.1,jI a0.2.1.1,jI a0.2.1.2.1,jI a0.2.1.2.2,.row 0]),(1,.v false [.box 0 0]),(2,.v false [.row 1]),(3,.v false [.row 2]),(4,.v false [.row 3]),(5,.v false [.row 4]),(6,.v false [jI q11])],[some ⟨true,[jI a0.1,jI a0.2.1.1,jI a0.2.1.2.1,jI a0.2.1.2.2,.row 0]⟩],[some ⟨2,sI,a0.2.2,.ro⟩,some ⟨52,sM,[],.own⟩,some ⟨48,sA,y1,.own⟩,some ⟨50,sV,y2,.own⟩,some ⟨52,sM,q12,.own⟩]⟩
def f126C:Code:=codeOf Tryz.f126
def f126_fr3 (a0:List Int) (a1 q4:ByteArray) (q5:Int):Fr:=⟨26,[(0,.v false [.row 0]),(1,.v false [.str a1]),(4,.v false [.str ByteArray.empty]),(5,.v false [.str q4]),(6,.v false [jI q5])],[],[some ⟨2,sI,a0,.ro⟩]⟩
def f189C:Code:=codeOf Tryz.f189
def f189_fr6 (a0:Int×Int×Int×Int) (q7 q8 q9 q10 q11:Int):Fr:=⟨20,[(0,.v true (jA a0)),(1,.v false [.box 0 0]),(2,.v false [jI (0:Int)]),(3,.v false [.box 1 0]),(4,.v false [jI q7])],[some ⟨true,(jA a0)⟩,some ⟨true,[jI q8,jI q9,jI q10,jI q11]⟩],[]⟩
def f7C:Code:=codeOf Tryz.f7
def f7_fr22 (a0:Int×tL×List Int) (q12:Int) (q13 q14:List tM) (y1:Bool) (y2:Int×tL×List Int) (y3:List tM) (y18:List (List tV)) (q23:ByteArray) (q24 q25:Int):Fr:=⟨99,[(0,.v true [jI a0.1,jI a0.2.1.1,jI a0.2.1.2.1,jI a0.2.1.2.2,.row 0]),(1,.v false [.box 0 0]),(2,.v false [.str ByteArray.empty]),(3,.v false [jI (0:Int)]),(4,.v false [.box 1 0]),(5,.v false [.row 1]),(6,.v false [.str q23]),(7,.v false [.row 2]),(8,.v false [.row 3]),(9,.v false [jI q12]),(10,.v false [.row 4]),(11,.v false [jI q24]),(12,.v false [jI q25]),(16,.v false [.bool (!y1)]),(29,.v false [.bool (decide (q12<(y3.length:Int)))])],[some ⟨true,[jI a0.1,jI a0.2.1.1,jI a0.2.1.2.1,jI a0.2.1.2.2,.row 0]⟩,some ⟨true,[jI y2.1,jI y2.2.1.1,jI y2.2.1.2.1,jI y2.2.1.2.2,.row 5]⟩],[some ⟨2,sI,a0.2.2,.ro⟩,some ⟨52,sM,y3,.own⟩,some ⟨52,sM,q13,.own⟩,some ⟨52,sM,q14,.own⟩,some ⟨55,(.list 50 sV),y18,.own⟩,some ⟨2,sI,y2.2.2,.own⟩]⟩
def f7_fr10 (a0:Int×tL×List Int) (y1:Bool) (y2:Int×tL×List Int) (y3:List tM) (q11:ByteArray) (q12:Int) (q13 q14:List tM):Fr:=⟨99,[(0,.v true [jI a0.1,jI a0.2.1.1,jI a0.2.1.2.1,jI a0.2.1.2.2,.row 0]),(1,.v false [.box 0 0]),(2,.v false [.str ByteArray.empty]),(3,.v false [jI (0:Int)]),(4,.v false [.box 1 0]),(5,.v false [.row 1]),(6,.v false [.str q11]),(7,.v false [.row 2]),(8,.v false [.row 3]),(9,.v false [jI q12]),(16,.v false [.bool (!y1)])],[some ⟨true,[jI a0.1,jI a0.2.1.1,jI a0.2.1.2.1,jI a0.2.1.2.2,.row 0]⟩,some ⟨true,[jI y2.1,jI y2.2.1.1,jI y2.2.1.2.1,jI y2.2.1.2.2,.row 4]⟩],[some ⟨2,sI,a0.2.2,.ro⟩,some ⟨52,sM,y3,.own⟩,some ⟨52,sM,q13,.own⟩,some ⟨52,sM,q14,.own⟩,some ⟨2,sI,y2.2.2,.own⟩]⟩
def f195C:Code:=codeOf Tryz.f195
def f195_fr4 (a0 a1:ByteArray) (a2:Int) (y1:List ByteArray) (q5:Int) (q6:List Int):Fr:=⟨41,[(0,.v false [.str a0]),(1,.v false [.str a1]),(2,.v false [jI a2]),(6,.v false [.row 0]),(7,.v false [.bool false]),(8,.v false [.row 1]),(9,.v false [.row 2]),(20,.v false [.bool ((y1.length:Int) != a2)]),(22,.v false [.row 1]),(23,.v false [jI (y1.length:Int)]),(24,.v false [jI q5])],[],[some ⟨2,sI,[],.own⟩,some ⟨9,.str,y1,.own⟩,some ⟨2,sI,q6,.own⟩]⟩
def f228C:Code:=codeOf Tryz.f228
def f228_fr2 (a0:ByteArray) (q3:Int) (q4:List Int):Fr:=⟨32,[(0,.v false [.str a0]),(2,.v false [.row 0]),(3,.v false [.bool false]),(4,.v false [.row 1]),(8,.v false [jI (a0.size:Int)]),(9,.v false [jI q3])],[],[some ⟨2,sI,[],.own⟩,some ⟨2,sI,q4,.own⟩]⟩
def f256C:Code:=codeOf Tryz.f256
def f256_fr2 (a0:List tA) (a1:Int×Int×Int×Int) (q3:Int):Fr:=⟨19,[(0,.v false [.row 0]),(1,.v true (jA a1)),(3,.v false [.box 0 0]),(4,.v false [jI (0:Int)]),(7,.v false [jI (a0.length:Int)]),(8,.v false [jI q3])],[some ⟨true,(jA a1)⟩],[some ⟨48,sA,a0,.ro⟩]⟩
def f238C:Code:=codeOf Tryz.f238
def f238_fr23 (a0:Int) (a1:Int×Int×Int) (a2:List tM) (q7:Int) (q8:List (tM×Bool)) (q22:Int) (y1:List tA) (y12:Int×Int×Int×Int) (q24:Int):Fr:=⟨84,[(0,.v false [jI a0]),(1,.v true (jL a1)),(2,.v false [.row 0]),(4,.v false [.box 0 0]),(6,.v false [.bool false]),(7,.v false [.row 1]),(8,.v false [.mp 1]),(12,.v false [.box 2 0]),(19,.v false [.row 0]),(20,.v false [jI (a2.length:Int)]),(21,.v false [jI q7]),(22,.v false [.bool (decide (q7<(a2.length:Int)))]),(61,.v false [.bool (!((mfind (eqSh sM) q8 (y12,(0:Int),(0:Int))).getD false))]),(62,.v false [.row 0]),(63,.v false [jI (a2.length:Int)]),(64,.v false [jI q22]),(65,.v false [.bool (decide (q22<(a2.length:Int)))]),(68,.v false [.row 0]),(69,.v false [jI (a2.length:Int)]),(70,.v false [jI q24])],[some ⟨true,(jL a1)⟩,some ⟨true,[.mc sM .bool q8]⟩,some ⟨true,[jI (((a2.getD ((0:Int)+q22).toNat zM).1).1),jI ((((a2.getD ((0:Int)+q22).toNat zM).1).2).1),jI (((((a2.getD ((0:Int)+q22).toNat zM).1).2).2).1),jI (((((a2.getD ((0:Int)+q22).toNat zM).1).2).2).2),jI (((a2.getD ((0:Int)+q22).toNat zM).2).1),jI (((a2.getD ((0:Int)+q22).toNat zM).2).2)]⟩],[some ⟨52,sM,a2,.ro⟩,some ⟨48,sA,y1,.own⟩]⟩
def f238_fr21 (a0:Int) (a1:Int×Int×Int) (a2:List tM) (q7:Int) (q8:List (tM×Bool)) (y1:List tA) (y12:Int×Int×Int×Int) (q22:Int):Fr:=⟨84,[(0,.v false [jI a0]),(1,.v true (jL a1)),(2,.v false [.row 0]),(4,.v false [.box 0 0]),(6,.v false [.bool false]),(7,.v false [.row 1]),(8,.v false [.mp 1]),(19,.v false [.row 0]),(20,.v false [jI (a2.length:Int)]),(21,.v false [jI q7]),(22,.v false [.bool (decide (q7<(a2.length:Int)))]),(61,.v false [.bool (!((mfind (eqSh sM) q8 (y12,(0:Int),(0:Int))).getD false))]),(62,.v false [.row 0]),(63,.v false [jI (a2.length:Int)]),(64,.v false [jI q22])],[some ⟨true,(jL a1)⟩,some ⟨true,[.mc sM .bool q8]⟩],[some ⟨52,sM,a2,.ro⟩,some ⟨48,sA,y1,.own⟩]⟩
def f238_fr6 (a0:Int) (a1:Int×Int×Int) (a2:List tM) (y1:List tA) (q7:Int) (q8:List (tM×Bool)):Fr:=⟨84,[(0,.v false [jI a0]),(1,.v true (jL a1)),(2,.v false [.row 0]),(4,.v false [.box 0 0]),(6,.v false [.bool false]),(7,.v false [.row 1]),(8,.v false [.mp 1]),(19,.v false [.row 0]),(20,.v false [jI (a2.length:Int)]),(21,.v false [jI q7])],[some ⟨true,(jL a1)⟩,some ⟨true,[.mc sM .bool q8]⟩],[some ⟨52,sM,a2,.ro⟩,some ⟨48,sA,y1,.own⟩]⟩
def f198C:Code:=codeOf Tryz.f198
def f198_fr4 (a0:Int) (a1:Int×Int×Int) (a2:List (List tM)) (y1 q5:Int):Fr:=⟨28,[(0,.v false [jI a0]),(1,.v true (jL a1)),(2,.v false [.row 0]),(4,.v false [.box 0 0]),(6,.v false [jI (0:Int)]),(7,.v false [jI y1]),(14,.v false [.bool (y1 != (0:Int))]),(16,.v false [.row 0]),(17,.v false [jI (a2.length:Int)]),(18,.v false [jI q5])],[some ⟨true,(jL a1)⟩],[some ⟨36,(.list 52 sM),a2,.ro⟩]⟩
def f257C:Code:=codeOf Tryz.f257
def f257_fr3 (a0:List (tV×Int)) (a1:((tV×Int)→Option Bool)) (q4:Int):Fr:=⟨19,[(0,.v false [.row 0]),(1,.v false [.fv1 (.cons sV sI) .bool a1]),(4,.v false [jI (0:Int)]),(7,.v false [jI (a0.length:Int)]),(8,.v false [jI q4])],[],[some ⟨170,(.cons sV sI),a0,.ro⟩]⟩
def f148C:Code:=codeOf Tryz.f148
def f148_fr12 (a0:Int×Int×Int) (a1:List tM) (a2:List (tV×Int)) (q11:Int) (y1:(List (List tV))×List Int) (q13:Int):Fr:=⟨57,[(0,.v true (jL a0)),(1,.v false [.row 0]),(2,.v false [.row 1]),(3,.v false [.box 0 0]),(6,.v false [jI (0:Int)]),(7,.v false [jI (0:Int)]),(8,.v false [.bool false]),(10,.v false [.box 1 0]),(11,.v false [.fn 200 [1,0]]),(12,.v false [jI q11]),(13,.v false [.box 2 0]),(23,.v false [.row 1]),(24,.v false [jI (a2.length:Int)]),(25,.v false [jI q11]),(26,.v false [.bool (decide (q11<(a2.length:Int)))]),(32,.v false [.view 1 (0:Int) ((0:Int)+q11)]),(33,.v false [jI (((0:Int)+q11)-(0:Int))]),(34,.v false [jI q13])],[some ⟨true,(jL a0)⟩,some ⟨true,[.row 2]⟩,some ⟨true,[jI (((a2.getD ((0:Int)+q11).toNat (((0:Int),(0:Int)),(0:Int))).1).1),jI (((a2.getD ((0:Int)+q11).toNat (((0:Int),(0:Int)),(0:Int))).1).2),jI ((a2.getD ((0:Int)+q11).toNat (((0:Int),(0:Int)),(0:Int))).2)]⟩],[some ⟨52,sM,a1,.ro⟩,some ⟨170,(.cons sV sI),a2,.ro⟩,some ⟨2,sI,y1.2,.own⟩]⟩
def f148_fr10 (a0:Int×Int×Int) (a1:List tM) (a2:List (tV×Int)) (y1:(List (List tV))×List Int) (q11:Int):Fr:=⟨57,[(0,.v true (jL a0)),(1,.v false [.row 0]),(2,.v false [.row 1]),(3,.v false [.box 0 0]),(6,.v false [jI (0:Int)]),(7,.v false [jI (0:Int)]),(8,.v false [.bool false]),(10,.v false [.box 1 0]),(11,.v false [.fn 200 [1,0]]),(23,.v false [.row 1]),(24,.v false [jI (a2.length:Int)]),(25,.v false [jI q11])],[some ⟨true,(jL a0)⟩,some ⟨true,[.row 2]⟩],[some ⟨52,sM,a1,.ro⟩,some ⟨170,(.cons sV sI),a2,.ro⟩,some ⟨2,sI,y1.2,.own⟩]⟩
def f149C:Code:=codeOf Tryz.f149
def f149_fr4 (a0:Int) (a1:Int×Int×Int) (a2:List tV) (a3 q5:Int) (q6:List Int):Fr:=⟨33,[(0,.v false [jI a0]),(1,.v true (jL a1)),(2,.v false [.row 0]),(3,.v false [jI a3]),(5,.v false [.box 0 0]),(8,.v false [.box 1 0]),(9,.v false [.box 2 0]),(18,.v false [.row 0]),(19,.v false [jI (a2.length:Int)]),(20,.v false [jI q5])],[some ⟨true,(jL a1)⟩,some ⟨true,[jI (0:Int),jI (0:Int),jI (0:Int),jI (0:Int),.row 1]⟩,some ⟨true,[jI a0,jI a1.1,jI a1.2.1,jI a1.2.2,.row 2]⟩],[some ⟨50,sV,a2,.ro⟩,some ⟨2,sI,[],.own⟩,some ⟨2,sI,q6,.own⟩]⟩
def f87C:Code:=codeOf Tryz.f87
def f87_fr20 (a0:Int) (a1:Int×Int×Int) (a2:List tM) (a3:List (tV×Int)) (a4 q16 y1:Int) (y2:Bool) (y3:Int×Int×Bool) (y5:Int×tL×List Int) (y19:List tV) (q21:Int) (q22:List Int):Fr:=⟨79,[(0,.v false [jI a0]),(1,.v true (jL a1)),(2,.v false [.row 0]),(3,.v false [.row 1]),(4,.v false [jI a4]),(6,.v false [.box 0 0]),(10,.v false [.box 1 0]),(11,.v false [jI (0:Int)]),(12,.v false [jI y1]),(15,.v false [.bool y3.2.2]),(16,.v false [.box 2 0]),(18,.v false [.box 3 0]),(27,.v false [.bool (y1 != (0:Int))]),(32,.v false [.bool (!y2)]),(42,.v false [.bool y3.2.2]),(50,.v false [.row 1]),(51,.v false [jI (a3.length:Int)]),(52,.v false [jI q16]),(53,.v false [.bool (decide (q16<(a3.length:Int)))]),(62,.v false [.row 2]),(63,.v false [jI (y19.length:Int)]),(64,.v false [jI q21])],[some ⟨true,(jL a1)⟩,some ⟨true,[jI (0:Int),jI (0:Int),jI (0:Int),jI (0:Int),.row 3]⟩,some ⟨true,[jI y5.1,jI y5.2.1.1,jI y5.2.1.2.1,jI y5.2.1.2.2,.row 4]⟩,some ⟨true,[jI (((a3.getD ((0:Int)+q16).toNat (((0:Int),(0:Int)),(0:Int))).1).1),jI (((a3.getD ((0:Int)+q16).toNat (((0:Int),(0:Int)),(0:Int))).1).2),jI ((a3.getD ((0:Int)+q16).toNat (((0:Int),(0:Int)),(0:Int))).2)]⟩],[some ⟨52,sM,a2,.ro⟩,some ⟨170,(.cons sV sI),a3,.ro⟩,some ⟨50,sV,y19,.own⟩,some ⟨2,sI,[],.own⟩,some ⟨2,sI,q22,.own⟩]⟩
def f87_fr15 (a0:Int) (a1:Int×Int×Int) (a2:List tM) (a3:List (tV×Int)) (a4 y1:Int) (y2:Bool) (y3:Int×Int×Bool) (y5:Int×tL×List Int) (q16:Int) (q17:List Int):Fr:=⟨79,[(0,.v false [jI a0]),(1,.v true (jL a1)),(2,.v false [.row 0]),(3,.v false [.row 1]),(4,.v false [jI a4]),(6,.v false [.box 0 0]),(10,.v false [.box 1 0]),(11,.v false [jI (0:Int)]),(12,.v false [jI y1]),(15,.v false [.bool y3.2.2]),(16,.v false [.box 2 0]),(27,.v false [.bool (y1 != (0:Int))]),(32,.v false [.bool (!y2)]),(42,.v false [.bool y3.2.2]),(50,.v false [.row 1]),(51,.v false [jI (a3.length:Int)]),(52,.v false [jI q16])],[some ⟨true,(jL a1)⟩,some ⟨true,[jI (0:Int),jI (0:Int),jI (0:Int),jI (0:Int),.row 2]⟩,some ⟨true,[jI y5.1,jI y5.2.1.1,jI y5.2.1.2.1,jI y5.2.1.2.2,.row 3]⟩],[some ⟨52,sM,a2,.ro⟩,some ⟨170,(.cons sV sI),a3,.ro⟩,some ⟨2,sI,[],.own⟩,some ⟨2,sI,q17,.own⟩]⟩
def f35C:Code:=codeOf Tryz.f35
def f35_fr5 (a0:ByteArray) (y1:ByteArray×Bool) (y2:List ByteArray) (q6 q7 q8 q9 q10 q11:Int) (q12:List tM) (q13:List (tV×Int)):Fr:=⟨82,[(0,.v false [.str a0]),(2,.v false [.und]),(3,.v false [.box 0 0]),(4,.v false [jI (0:Int)]),(5,.v false [jI (0:Int)]),(6,.v false [.str y1.1]),(7,.v false [.bool y1.2]),(8,.v false [.box 1 0]),(16,.v false [.bool (decide ((a0.size:Int)>(3000:Int)))]),(28,.v false [.bool (bif (a0 != ByteArray.empty) then (!y1.2) else false)]),(33,.v false [.bool (a0 != ByteArray.empty)]),(35,.v false [.row 0]),(36,.v false [jI (y2.length:Int)]),(37,.v false [jI q6])],[some ⟨true,[jI (0:Int),jI (0:Int),jI (0:Int),jI (0:Int),.row 1]⟩,some ⟨true,[jI q7,jI q8,jI q9,jI q10,jI q11,.row 2,.row 3]⟩],[some ⟨9,.str,y2,.own⟩,some ⟨2,sI,[],.own⟩,some ⟨52,sM,q12,.own⟩,some ⟨170,(.cons sV sI),q13,.own⟩]⟩
def f37C:Code:=codeOf Tryz.f37
def f37_fr2 (a0 a1:List Int) (q3:Int):Fr:=⟨26,[(0,.v false [.row 0]),(1,.v false [.row 1]),(4,.v false [.bool false]),(5,.v false [jI q3]),(10,.v false [.bool ((a0.length:Int) != (a1.length:Int))])],[],[some ⟨2,sI,a0,.ro⟩,some ⟨2,sI,a1,.ro⟩]⟩
def f13C:Code:=codeOf Tryz.f13
def f13_fr2 (a0 a1:List tM) (q3:Int):Fr:=⟨26,[(0,.v false [.row 0]),(1,.v false [.row 1]),(4,.v false [.bool false]),(5,.v false [jI q3]),(10,.v false [.bool ((a0.length:Int) != (a1.length:Int))])],[],[some ⟨52,sM,a0,.ro⟩,some ⟨52,sM,a1,.ro⟩]⟩
variable (K:Nat)
include K
def f4E:Env:=eE K [] [0,2]
def f4G (K:Nat) (a0:List Int):Option Bool :=
  some (decide ((a0.length:Int)>(4096:Int)))
def f4M:Mdl:=⟨[(.ro,(.list 5 (.int .u8)))],[.bool],fun x=>f4G K x.1⟩
def f38E:Env:=eE K [] [0,2,3,4,15]
def f38_b2 (K:Nat) (a0:List Int) (L2:Int→Int→Option tV) (q3 q4:Int):Option tV :=
  (bif (bif (decide (q3<(a0.length:Int))) then (decide (q3<(64:Int))) else false) then (bif (decide (0≤q3)&&decide (q3<(a0.length:Int))) then L2 (w (q3+(1:Int))) ((w ((w (q4*(73:Int)))+(w (a0.getD ((0:Int)+q3).toNat (0:Int))))).tmod (2147483647:Int)) else none) else some ((0:Int),q4))
def f38_l2 (a0:List Int) (n:Nat) (q3 q4:Int):Option tV :=
  iter (X:=Int×Int) (fun L x=>f38_b2 K a0 (fun v0 v1=>L (v0,v1)) x.1 x.2) n (q3,q4)
def f38_g (K:Nat) (a0:List Int) (I2:Int→Int→Option tV):Option tV :=
  I2 (0:Int) (93001:Int)
def f38G (a0:List Int):Option tV :=
  f38_g K a0 (fun d0 d1=>f38_l2 K a0 K d0 d1)
def f38M:NMdl:=⟨5,(.int .u8),sV,[],fun x=>f38G K x.1⟩
def f38_k2 (a0:List Int) (lr:LR tV):Ex→Fr→Option tV :=
  contC (f38E K) 1 lr f38C [1,1,0,1,0] (finN Tryz.f38 sV)
def f38_j2 (a0:List Int) (lr:LR tV) (bq3 bq4:Int):Option tV :=
  lr (selC f38C [1,1,0,1,0,0]) (f38_fr2 a0 bq3 bq4) (f38_k2 K a0 lr)
def f39E:Env:=eE K [] [0,1,4,5,7,32,62]
def f39G (K:Nat) (a0:(List Int)×Int×Int) (a1:Int):Option (tV×Int) :=
  (bif (decide (a1≤(1:Int))) then some (a0.2,(0:Int)) else (bif (decide (a0.2.1<(a0.1.length:Int))) then (bif (decide (0≤a0.2.1)&&decide (a0.2.1<(a0.1.length:Int))) then (bif (bif (decide (a1≤(256:Int))) then (((w (a0.2.1+(1:Int))).tmod (2:Int))==(0:Int)) else false) then (bif (decide (0≤(w ((w (a0.2.1+(1:Int)))-(1:Int))))&&decide ((w ((w (a0.2.1+(1:Int)))-(1:Int)))<(a0.1.length:Int))) then (bif (a1 != 0) then some (((w (a0.2.1+(1:Int))),((w ((w (a0.2.2*(48271:Int)))+(67:Int))).tmod (2147483647:Int))),((w (a0.1.getD ((0:Int)+(w ((w (a0.2.1+(1:Int)))-(1:Int)))).toNat (0:Int))).tmod a1)) else none) else none) else (bif (a1 != 0) then some (((w (a0.2.1+(1:Int))),((w ((w (a0.2.2*(48271:Int)))+(67:Int))).tmod (2147483647:Int))),((w ((w (((w ((w (a0.2.2*(48271:Int)))+(67:Int))).tmod (2147483647:Int)).tdiv (37:Int)))+(w (a0.1.getD ((0:Int)+a0.2.1).toNat (0:Int))))).tmod a1)) else none)) else none) else (bif (a1 != 0) then some ((a0.2.1,((w ((w (a0.2.2*(48271:Int)))+(67:Int))).tmod (2147483647:Int))),((w (((w ((w (a0.2.2*(48271:Int)))+(67:Int))).tmod (2147483647:Int)).tdiv (37:Int))).tmod a1)) else none)))
def f39M:PMdl:=⟨5,(.int .u8),sV,[(.ro,sI)],[sI],fun x=>f39G K x.1 x.2.1⟩
def f90E:Env:=⟨[],tys,eqs,mts,K,[0,1,4],[(39,f39M K)],[],[],[],[],[],false⟩
def f90G (a0:(List Int)×Int×Int) (a1:List Int):Option (tV×Int) :=
  (f39G K a0 (a1.length:Int)).bind fun y1=>(bif (decide (0≤y1.2)&&decide (y1.2<(a1.length:Int))) then some (y1.1,(a1.getD ((0:Int)+y1.2).toNat (0:Int))) else none)
def f90M:PMdl:=⟨5,(.int .u8),sV,[(.ro,(.list 2 sI))],[sI],fun x=>f90G K x.1 x.2.1⟩
def f150E:Env:=⟨[],tys,eqs,mts,K,[0,2,5],[(39,f39M K),(90,f90M K)],[],[],[],[],[],false⟩
def f150G (a0:(List Int)×Int×Int):Option (tV×Int) :=
  (f39G K a0 (40:Int)).bind fun y1=>(bif (y1.2==(0:Int)) then (f90G K (a0.1,y1.1) [(-1:Int),(2:Int)]).bind fun y2=>some y2 else (f39G K (a0.1,y1.1) (2:Int)).bind fun y3=>some y3)
def f150M:PMdl:=⟨5,(.int .u8),sV,[],[sI],fun x=>f150G K x.1⟩
def f151E:Env:=⟨[],tys,eqs,mts,K,[0,2,3,17,18,24,35],[(39,f39M K),(90,f90M K)],[],[],[],[],[],false⟩
def f151G (a0:(List Int)×Int×Int):Option (tV×Int×Int×Int) :=
  (f39G K a0 (6:Int)).bind fun y1=>(f39G K (a0.1,y1.1) (6:Int)).bind fun y2=>(f39G K (a0.1,y2.1) (w ((1:Int)+y1.2))).bind fun y3=>(f39G K (a0.1,y3.1) (60:Int)).bind fun y4=>(bif (y4.2==(0:Int)) then (f90G K (a0.1,y4.1) [(0:Int),(64:Int),(65:Int),(8:Int)]).bind fun y5=>some (y5.1,y5.2,y3.2,(w ((1:Int)+y2.2))) else (bif (y4.2==(1:Int)) then (f90G K (a0.1,y4.1) [(-1:Int),(w ((1:Int)+y1.2)),(w ((w ((1:Int)+y1.2))-(1:Int)))]).bind fun y6=>some (y6.1,(w ((1:Int)+y1.2)),y6.2,(w ((1:Int)+y2.2))) else (bif (y4.2==(2:Int)) then (f90G K (a0.1,y4.1) [(8:Int),(9:Int)]).bind fun y7=>some (y7.1,(8:Int),(3:Int),y7.2) else some (y4.1,(w ((1:Int)+y1.2)),y3.2,(w ((1:Int)+y2.2))))))
def f151M:PMdl:=⟨5,(.int .u8),sV,[],[sL],fun x=>f151G K x.1⟩
def f88E:Env:=⟨[],tys,eqs,mts,K,[0,2,3,4,5,9,10,15,25,28],[(39,f39M K),(150,f150M K),(151,f151M K)],[],[],[],[],[],false⟩
def f88G (a0:(List Int)×Int×Int):Option (tV×Int×Int×Int×Int) :=
  (f150G K a0).bind fun y1=>(f39G K (a0.1,y1.1) (5:Int)).bind fun y2=>(bif (y2.2==(0:Int)) then (f151G K (a0.1,y2.1)).bind fun y3=>some (y3.1,y1.2,y3.2) else (bif (y2.2==(1:Int)) then (f39G K (a0.1,y2.1) (4:Int)).bind fun y4=>(f39G K (a0.1,y4.1) (4:Int)).bind fun y5=>some (y5.1,y1.2,(w ((1:Int)+y4.2)),(0:Int),(w ((1:Int)+y5.2))) else (bif (y2.2==(2:Int)) then (bif (y1.2==(0:Int)) then some (y2.1,y1.2,(2:Int),(1:Int),(1:Int)) else some (y2.1,y1.2,(3:Int),(1:Int),(1:Int))) else (f39G K (a0.1,y2.1) (4:Int)).bind fun y6=>some (y6.1,y1.2,(w ((1:Int)+y6.2)),(0:Int),(w ((1:Int)+y6.2))))))
def f88M:PMdl:=⟨5,(.int .u8),sV,[],[sI,sL],fun x=>f88G K x.1⟩
def f118E:Env:=eE K [] [0,2]
def f118G (K:Nat) (a0:Int):Option Bool :=
  some (bif (a0==(0:Int)) then true else (a0==(1:Int)))
def f118M:Mdl:=⟨[(.ro,sI)],[.bool],fun x=>f118G K x.1⟩
def f120E:Env:=eE K [] [0,1,2,6]
def f120G (K:Nat) (a0 a1 a2:Int):Option Bool :=
  some (bif (decide (a0≥a1)) then (decide (a0≤a2)) else false)
def f120M:Mdl:=⟨[(.ro,sI),(.ro,sI),(.ro,sI)],[.bool],fun x=>f120G K x.1 x.2.1 x.2.2.1⟩
def f119E:Env:=eE K [(120,f120M K)] [0,1,2]
def f119G (a0:Int×Int×Int):Option Bool :=
  (f120G K a0.1 (1:Int) (64:Int)).bind fun y1=>((bif y1 then f120G K a0.2.2 (1:Int) (64:Int) else some false)).bind fun y2=>((bif (bif y1 then y2 else false) then f120G K a0.2.1 (0:Int) (w (a0.1-(1:Int))) else some false)).bind fun y3=>some (bif (bif (bif y1 then y2 else false) then y3 else false) then (decide ((w (a0.1*a0.2.2))≤(64:Int))) else false)
def f119M:Mdl:=⟨[(.ro,sL)],[.bool],fun x=>f119G K x.1⟩
def f65E:Env:=eE K [(118,f118M K),(119,f119M K)] [0,1,3,4,12]
def f65G (a0:Int) (a1:Int×Int×Int):Option Int :=
  (f118G K a0).bind fun y1=>((bif (!(!y1)) then f119G K a1 else some false)).bind fun y2=>(bif (bif (!y1) then true else (!y2)) then some (1:Int) else some (0:Int))
def f65M:Mdl:=⟨[(.ro,sI),(.ro,sL)],[sI],fun x=>f65G K x.1 x.2.1⟩
def f73E:Env:=eE K [] [0]
def f73G (K:Nat):Option tA :=
  some ((1:Int),(0:Int),(0:Int),(1:Int))
def f73M:Mdl:=⟨[],[sA],fun x=>f73G K ⟩
def f28E:Env:=eE K [(73,f73M K)] [0]
def f28G:Option tM :=
  (f73G K).bind fun y1=>some (y1,(0:Int),(0:Int))
def f28M:Mdl:=⟨[],[sM],fun x=>f28G K ⟩
def f222E:Env:=eE K [] [0,1,3,4,5,18]
def f222G (K:Nat) (a0:Int) (a1:Int×Int):Option Int :=
  (bif (a0==(1:Int)) then some (w ((w ((w (a1.1*a1.1))+(w (a1.2*a1.2))))+(w (a1.1*a1.2)))) else some (w ((w (a1.1*a1.1))+(w (a1.2*a1.2)))))
def f222M:Mdl:=⟨[(.ro,sI),(.ro,sV)],[sI],fun x=>f222G K x.1 x.2.1⟩
def f130E:Env:=eE K [] [0,1,2,3,4]
def f130G (K:Nat) (a0 a1:Int×Int):Option tV :=
  some ((w (a0.1+a1.1)),(w (a0.2+a1.2)))
def f130M:Mdl:=⟨[(.ro,sV),(.ro,sV)],[sV],fun x=>f130G K x.1 x.2.1⟩
def f184E:Env:=eE K [(130,f130M K),(222,f222M K)] [0,1,3,4,5,6]
def f184G (a0:Int) (a1:Int×Int×Int×Int):Option Bool :=
  (f222G K a0 (a1.1,a1.2.2.1)).bind fun y1=>((bif (y1==(1:Int)) then f222G K a0 (a1.2.1,a1.2.2.2) else some (0:Int))).bind fun y2=>((bif (bif (y1==(1:Int)) then (y2==(1:Int)) else false) then f130G K (a1.1,a1.2.2.1) (a1.2.1,a1.2.2.2) else some ((0:Int),(0:Int)))).bind fun y3=>((bif (bif (y1==(1:Int)) then (y2==(1:Int)) else false) then f222G K a0 y3 else some (0:Int))).bind fun y4=>some (bif (bif (y1==(1:Int)) then (y2==(1:Int)) else false) then (y4==(w ((2:Int)+a0))) else false)
def f184M:Mdl:=⟨[(.ro,sI),(.ro,sA)],[.bool],fun x=>f184G K x.1 x.2.1⟩
def f123E:Env:=eE K [(184,f184M K)] [0,2,3,4,5,8,28]
def f123_b3 (a0:Int) (L3:Int→(List tA)→Option (List tA)) (q4:Int) (q5:List tA):Option (List tA) :=
  (bif (decide (q4<(81:Int))) then (f184G K a0 ((w ((w (q4.tdiv (27:Int)))-(1:Int))),(w (((w (q4.tdiv (9:Int))).tmod (3:Int))-(1:Int))),(w (((w (q4.tdiv (3:Int))).tmod (3:Int))-(1:Int))),(w ((q4.tmod (3:Int))-(1:Int))))).bind fun y6=>(bif y6 then (bif (Nat.ble (q5.length+[((w ((w (q4.tdiv (27:Int)))-(1:Int))),(w (((w (q4.tdiv (9:Int))).tmod (3:Int))-(1:Int))),(w (((w (q4.tdiv (3:Int))).tmod (3:Int))-(1:Int))),(w ((q4.tmod (3:Int))-(1:Int))))].length) (lim 32)) then L3 (w (q4+(1:Int))) (q5++[((w ((w (q4.tdiv (27:Int)))-(1:Int))),(w (((w (q4.tdiv (9:Int))).tmod (3:Int))-(1:Int))),(w (((w (q4.tdiv (3:Int))).tmod (3:Int))-(1:Int))),(w ((q4.tmod (3:Int))-(1:Int))))]) else none) else L3 (w (q4+(1:Int))) q5) else some q5)
def f123_l3 (a0:Int) (n:Nat) (q4:Int) (q5:List tA):Option (List tA) :=
  iter (X:=Int×List tA) (fun L x=>f123_b3 K a0 (fun v0 v1=>L (v0,v1)) x.1 x.2) n (q4,q5)
def f123_g (K:Nat) (a0:Int) (I3:Int→(List tA)→Option (List tA)):Option (List tA) :=
  I3 (0:Int) []
def f123G (a0:Int):Option (List tA) :=
  f123_g K a0 (fun d0 d1=>f123_l3 K a0 K d0 d1)
def f123M:Mdl:=⟨[(.ro,sI)],[(.list 48 sA)],fun x=>f123G K x.1⟩
def f123_k3 (a0:Int) (lr:LR (List tA)):Ex→Fr→Option (List tA) :=
  contC (f123E K) 0 lr f123C [1,1,0,1,0] (fM (f123E K) Tryz.f123 (f123M K) (a0,()))
def f123_j3 (a0:Int) (lr:LR (List tA)) (bq4:Int) (bq5:List tA):Option (List tA) :=
  lr (selC f123C [1,1,0,1,0,0]) (f123_fr3 a0 bq4 bq5) (f123_k3 K a0 lr)
def f121E:Env:=eE K [] [0,1,2]
def f121G (K:Nat) (a0:Int×Int×Int):Option (List tV) :=
  some [(a0.1,(0:Int)),a0.2]
def f121M:Mdl:=⟨[(.ro,sL)],[(.list 50 sV)],fun x=>f121G K x.1⟩
def f131E:Env:=eE K [] [0,1,2,3,4]
def f131G (K:Nat) (a0:Int×Int×Int×Int) (a1:Int×Int):Option tV :=
  some ((w ((w (a0.1*a1.1))+(w (a0.2.1*a1.2)))),(w ((w (a0.2.2.1*a1.1))+(w (a0.2.2.2*a1.2)))))
def f131M:Mdl:=⟨[(.ro,sA),(.ro,sV)],[sV],fun x=>f131G K x.1 x.2.1⟩
omit K
def f181E (K:Nat) (rec:Int→Int→Option Int):Env:=⟨[(181,⟨[(.ro,sI),(.ro,sI)],[sI],fun x=>rec x.1 x.2.1⟩)],tys,eqs,mts,K,[0,1,4,6],[],[],[],[],[],[],false⟩
def f181_s (K:Nat) (rec:Int→Int→Option Int) (a0 a1:Int):Option Int :=
  (bif (a1==(0:Int)) then some (if (w (0-a0))>a0 then (w (0-a0)) else a0) else (bif (a1 != 0) then (rec a1 (a0.tmod a1)).bind fun y1=>some y1 else none))
def f181R (K:Nat):Nat→Int→Int→Option Int
  | 0=>fun _ _=>none
  | n+1=>fun a0 a1=>f181_s K (f181R K n) a0 a1
def f181G (K:Nat) (a0 a1:Int):Option Int:=f181R K K a0 a1
def f181M (K:Nat):Mdl:=⟨[(.ro,sI),(.ro,sI)],[sI],fun x=>f181G K x.1 x.2.1⟩
include K
def f182E:Env:=eE K [] [0,1,4,9]
def f182G (K:Nat) (a0 a1:Int):Option Int :=
  (bif (a1 != 0) then (bif (decide ((a0.tmod a1)<(0:Int))) then some (w ((a0.tmod a1)+a1)) else some (a0.tmod a1)) else none)
def f182M:Mdl:=⟨[(.ro,sI),(.ro,sI)],[sI],fun x=>f182G K x.1 x.2.1⟩
def f183E:Env:=eE K [] [0,1,2,4]
def f183G (K:Nat) (a0:Int×Int) (a1:Int):Option tV :=
  some ((w (a1*a0.1)),(w (a1*a0.2)))
def f183M:Mdl:=⟨[(.ro,sV),(.ro,sI)],[sV],fun x=>f183G K x.1 x.2.1⟩
def f122E:Env:=eE K [(181,f181M K),(182,f182M K),(183,f183M K)] [0,2,3,4,5,6,7,8,13,22,50,58,62]
def f122_b15 (a0:List tV) (q11 q12:Int) (L10 L15:Int→Int→Int→Int→Option tL) (q16 q17 q18 q19:Int):Option tL :=
  (bif (q19 != (0:Int)) then (bif (q19 != 0) then L15 q18 q19 (w (q16-(w ((w (q17.tdiv q19))*q18)))) (w (q17-(w ((w (q17.tdiv q19))*q19)))) else none) else (f181G K q11 q18).bind fun y20=>(bif (decide (y20>(0:Int))) then (f182G K q16 y20).bind fun y21=>L10 y20 (w (q12+(1:Int))) y21 q17 else L10 y20 (w (q12+(1:Int))) q16 q17))
def f122_l15 (a0:List tV) (q11 q12:Int) (L10:Int→Int→Int→Int→Option tL) (n:Nat) (q16 q17 q18 q19:Int):Option tL :=
  iter (X:=Int×Int×Int×Int) (fun L x=>f122_b15 K a0 q11 q12 L10 (fun v0 v1 v2 v3=>L (v0,v1,v2,v3)) x.1 x.2.1 x.2.2.1 x.2.2.2) n (q16,q17,q18,q19)
def f122_b10 (a0:List tV) (I15:Int→Int→Int→Int→Int→Int→Option tL) (L10:Int→Int→Int→Int→Option tL) (q11 q12 q13 q14:Int):Option tL :=
  (bif (decide (q12<(a0.length:Int))) then (bif (decide (0≤q12)&&decide (q12<(a0.length:Int))) then I15 q11 q12 q13 q14 ((a0.getD ((0:Int)+q12).toNat ((0:Int),(0:Int))).1) ((a0.getD ((0:Int)+q12).toNat ((0:Int),(0:Int))).2) else none) else (bif (decide (q14<(0:Int))) then (f183G K (q13,q14) (-1:Int)).bind fun y22=>(bif (decide (q11>(0:Int))) then (f182G K y22.1 q11).bind fun y23=>some (q11,y23,y22.2) else some (q11,y22)) else (bif (decide (q11>(0:Int))) then (f182G K q13 q11).bind fun y24=>some (q11,y24,q14) else some (q11,q13,q14))))
def f122_l10 (a0:List tV) (n:Nat) (q11 q12 q13 q14:Int):Option tL :=
  iter (X:=Int×Int×Int×Int) (fun L x=>(fun L10=>f122_b10 K a0 (fun c0 c1 d0 d1 d2 d3=>f122_l15 K a0 c0 c1 L10 K d0 d1 d2 d3) L10 x.1 x.2.1 x.2.2.1 x.2.2.2) (fun v0 v1 v2 v3=>L (v0,v1,v2,v3))) n (q11,q12,q13,q14)
def f122_g (K:Nat) (a0:List tV) (I10:Int→Int→Int→Int→Option tL):Option tL :=
  I10 (0:Int) (0:Int) (0:Int) (0:Int)
def f122G (a0:List tV):Option tL :=
  f122_g K a0 (fun d0 d1 d2 d3=>f122_l10 K a0 K d0 d1 d2 d3)
def f122M:Mdl:=⟨[(.ro,(.list 50 sV))],[sL],fun x=>f122G K x.1⟩
def f122_k10 (a0:List tV) (lr:LR tL):Ex→Fr→Option tL :=
  contC (f122E K) 1 lr f122C [1,1,0,1,0] (fM (f122E K) Tryz.f122 (f122M K) (a0,()))
def f122_j10 (a0:List tV) (lr:LR tL) (bq11 bq12 bq13 bq14:Int):Option tL :=
  lr (selC f122C [1,1,0,1,0,0]) (f122_fr10 a0 bq11 bq12 bq13 bq14) (f122_k10 K a0 lr)
def f122_k15 (a0:List tV) (F10:Fr→Option tL) (bq11 bq12 bq13 bq14:Int) (lr:LR tL):Ex→Fr→Option tL :=
  contC (f122E K) 1 lr (selC f122C [1,1,0,1,0,0]) [1,0,0,1,0,0] (loopK 1 (f122_fr10 a0 bq11 bq12 bq13 bq14) F10 (f122_k10 K a0 lr))
def f122_j15 (a0:List tV) (F10:Fr→Option tL) (bq11 bq12 bq13 bq14:Int) (lr:LR tL) (q11 q12 bq16 bq17 bq18 bq19:Int):Option tL :=
  lr (selC f122C [1,1,0,1,0,0,1,0,0,1,0,0,0]) (f122_fr15 a0 q11 q12 bq16 bq17 bq18 bq19) (f122_k15 K a0 F10 bq11 bq12 bq13 bq14 lr)
def f124E:Env:=eE K [(121,f121M K),(122,f122M K),(131,f131M K)] [0,1,2,3,4,5]
def f124G (a0:Int×Int×Int×Int) (a1:Int×Int×Int):Option tL :=
  (f121G K a1).bind fun y1=>(bif (decide (0≤(0:Int))&&decide ((0:Int)<(y1.length:Int))) then (f131G K a0 (y1.getD ((0:Int)+(0:Int)).toNat ((0:Int),(0:Int)))).bind fun y2=>(bif (decide (0≤(1:Int))&&decide ((1:Int)<(y1.length:Int))) then (f131G K a0 (y1.getD ((0:Int)+(1:Int)).toNat ((0:Int),(0:Int)))).bind fun y3=>(f122G K [y2,y3]).bind fun y4=>some y4 else none) else none)
def f124M:Mdl:=⟨[(.ro,sA),(.ro,sL)],[sL],fun x=>f124G K x.1 x.2.1⟩
def f69E:Env:=eE K [(123,f123M K),(124,f124M K)] [0,1,3,4,5,6,7,14,24]
def f69_b4 (a0:Int) (a1:Int×Int×Int) (y1:List tA) (L4:Int→(List tA)→Option (List tA)) (q5:Int) (q6:List tA):Option (List tA) :=
  (bif (decide (q5<(y1.length:Int))) then (bif (decide (0≤q5)&&decide (q5<(y1.length:Int))) then (f124G K ((y1.getD ((0:Int)+q5).toNat zA).1,((y1.getD ((0:Int)+q5).toNat zA).2).1,(((y1.getD ((0:Int)+q5).toNat zA).2).2)) a1).bind fun y7=>(bif ((y7.1==a1.1)&&((y7.2.1==a1.2.1)&&(y7.2.2==a1.2.2))) then (bif (decide (0≤q5)&&decide (q5<(y1.length:Int))) then (bif (Nat.ble (q6.length+[((y1.getD ((0:Int)+q5).toNat zA).1,((y1.getD ((0:Int)+q5).toNat zA).2).1,(((y1.getD ((0:Int)+q5).toNat zA).2).2))].length) (lim 32)) then L4 (w (q5+(1:Int))) (q6++[((y1.getD ((0:Int)+q5).toNat zA).1,((y1.getD ((0:Int)+q5).toNat zA).2).1,(((y1.getD ((0:Int)+q5).toNat zA).2).2))]) else none) else none) else L4 (w (q5+(1:Int))) q6) else none) else some q6)
def f69_l4 (a0:Int) (a1:Int×Int×Int) (y1:List tA) (n:Nat) (q5:Int) (q6:List tA):Option (List tA) :=
  iter (X:=Int×List tA) (fun L x=>f69_b4 K a0 a1 y1 (fun v0 v1=>L (v0,v1)) x.1 x.2) n (q5,q6)
def f69_g (a0:Int) (a1:Int×Int×Int) (I4:(List tA)→Int→(List tA)→Option (List tA)):Option (List tA) :=
  (f123G K a0).bind fun y1=>I4 y1 (0:Int) []
def f69G (a0:Int) (a1:Int×Int×Int):Option (List tA) :=
  f69_g K a0 a1 (fun c0 d0 d1=>f69_l4 K a0 a1 c0 K d0 d1)
def f69M:Mdl:=⟨[(.ro,sI),(.ro,sL)],[(.list 48 sA)],fun x=>f69G K x.1 x.2.1⟩
def f69_k4 (a0:Int) (a1:Int×Int×Int) (lr:LR (List tA)):Ex→Fr→Option (List tA) :=
  contC (f69E K) 0 lr f69C [1,1,1,0,1,0] (fM (f69E K) Tryz.f69 (f69M K) (a0,a1,()))
def f69_j4 (a0:Int) (a1:Int×Int×Int) (lr:LR (List tA)) (y1:List tA) (bq5:Int) (bq6:List tA):Option (List tA) :=
  lr (selC f69C [1,1,1,0,1,0,0]) (f69_fr4 a0 a1 y1 bq5 bq6) (f69_k4 K a0 a1 lr)
def f152E:Env:=⟨[(65,f65M K),(69,f69M K),(73,f73M K)],tys,eqs,mts,K,[0,1,2,5,6,7,8,13],[(39,f39M K)],[],[],[],[],[],false⟩
def f152G (a0:(List Int)×Int×Int) (a1:Int) (a2:Int×Int×Int):Option (tV×tA×Int×Int) :=
  (f73G K).bind fun y1=>(f65G K a1 a2).bind fun y2=>(bif (y2==(0:Int)) then (f69G K a1 a2).bind fun y3=>(f39G K a0 (y3.length:Int)).bind fun y4=>(bif (decide (0≤y4.2)&&decide (y4.2<(y3.length:Int))) then (f39G K (a0.1,y4.1) (9:Int)).bind fun y5=>(f39G K (a0.1,y5.1) (9:Int)).bind fun y6=>some (y6.1,((y3.getD ((0:Int)+y4.2).toNat zA).1,((y3.getD ((0:Int)+y4.2).toNat zA).2).1,(((y3.getD ((0:Int)+y4.2).toNat zA).2).2)),(w (y5.2-(4:Int))),(w (y6.2-(4:Int)))) else none) else (f39G K a0 (9:Int)).bind fun y7=>(f39G K (a0.1,y7.1) (9:Int)).bind fun y8=>some (y8.1,y1,(w (y7.2-(4:Int))),(w (y8.2-(4:Int)))))
def f152M:PMdl:=⟨5,(.int .u8),sV,[(.ro,sI),(.ro,sL)],[sM],fun x=>f152G K x.1 x.2.1 x.2.2.1⟩
def f128E:Env:=eE K [(182,f182M K)] [0,1,2,3,4,5,6]
def f128G (a0:Int×Int×Int) (a1:Int×Int):Option tV :=
  (f182G K a1.2 a0.2.2).bind fun y1=>(bif (a0.2.2 != 0) then (f182G K (w (a1.1-(w ((w ((w (a1.2-y1)).tdiv a0.2.2))*a0.2.1)))) a0.1).bind fun y2=>some (y2,y1) else none)
def f128M:Mdl:=⟨[(.ro,sL),(.ro,sV)],[sV],fun x=>f128G K x.1 x.2.1⟩
def f75E:Env:=eE K [(128,f128M K)] [0,1,2,3,4]
def f75G (a0:Int×Int×Int) (a1:tA×Int×Int):Option tM :=
  (f128G K a0 a1.2).bind fun y1=>some (a1.1,y1)
def f75M:Mdl:=⟨[(.ro,sL),(.ro,sM)],[sM],fun x=>f75G K x.1 x.2.1⟩
def f129E:Env:=eE K [] [0,1,2,3,4]
def f129G (K:Nat) (a0 a1:Int×Int×Int×Int):Option tA :=
  some ((w ((w (a0.1*a1.1))+(w (a0.2.1*a1.2.2.1)))),(w ((w (a0.1*a1.2.1))+(w (a0.2.1*a1.2.2.2)))),(w ((w (a0.2.2.1*a1.1))+(w (a0.2.2.2*a1.2.2.1)))),(w ((w (a0.2.2.1*a1.2.1))+(w (a0.2.2.2*a1.2.2.2)))))
def f129M:Mdl:=⟨[(.ro,sA),(.ro,sA)],[sA],fun x=>f129G K x.1 x.2.1⟩
def f76E:Env:=eE K [(129,f129M K),(130,f130M K),(131,f131M K)] [0,1,2,3,4]
def f76G (a0 a1:tA×Int×Int):Option tM :=
  (f129G K a0.1 a1.1).bind fun y1=>(f131G K a0.1 a1.2).bind fun y2=>(f130G K y2 a0.2).bind fun y3=>some (y1,y3)
def f76M:Mdl:=⟨[(.ro,sM),(.ro,sM)],[sM],fun x=>f76G K x.1 x.2.1⟩
def f135E:Env:=eE K [] [0,1,2]
def f135G (K:Nat) (a0:Int×Int×Int×Int):Option (List Int) :=
  some [a0.1,a0.2.1,a0.2.2.1,a0.2.2.2]
def f135M:Mdl:=⟨[(.ro,sA)],[(.list 2 sI)],fun x=>f135G K x.1⟩
def f223E:Env:=eE K [] [0,1,4,5,15,26]
def f223_b2 (K:Nat) (a0 a1:List Int) (L2:Int→Option Bool) (q3:Int):Option Bool :=
  (bif (bif (decide (q3<(a0.length:Int))) then (decide (q3<(a1.length:Int))) else false) then (bif (decide (0≤q3)&&decide (q3<(a0.length:Int))) then (bif (decide (0≤q3)&&decide (q3<(a1.length:Int))) then (bif ((a0.getD ((0:Int)+q3).toNat (0:Int)) != (a1.getD ((0:Int)+q3).toNat (0:Int))) then (bif (decide (0≤q3)&&decide (q3<(a0.length:Int))) then (bif (decide (0≤q3)&&decide (q3<(a1.length:Int))) then some (decide ((a0.getD ((0:Int)+q3).toNat (0:Int))<(a1.getD ((0:Int)+q3).toNat (0:Int)))) else none) else none) else L2 (w (q3+(1:Int)))) else none) else none) else some (decide ((a0.length:Int)<(a1.length:Int))))
def f223_l2 (a0 a1:List Int) (n:Nat) (q3:Int):Option Bool :=
  iter (X:=Int) (fun L x=>f223_b2 K a0 a1 (fun v0=>L v0) x) n q3
def f223_g (K:Nat) (a0 a1:List Int) (I2:Int→Option Bool):Option Bool :=
  I2 (0:Int)
def f223G (a0 a1:List Int):Option Bool :=
  f223_g K a0 a1 (fun d0=>f223_l2 K a0 a1 K d0)
def f223M:Mdl:=⟨[(.ro,(.list 2 sI)),(.ro,(.list 2 sI))],[.bool],fun x=>f223G K x.1 x.2.1⟩
def f223_k2 (a0 a1:List Int) (lr:LR Bool):Ex→Fr→Option Bool :=
  contC (f223E K) 2 lr f223C [1,0,1,0] (fM (f223E K) Tryz.f223 (f223M K) (a0,a1,()))
def f223_j2 (a0 a1:List Int) (lr:LR Bool) (bq3:Int):Option Bool :=
  lr (selC f223C [1,0,1,0,0]) (f223_fr2 a0 a1 bq3) (f223_k2 K a0 a1 lr)
def f185E:Env:=eE K [(135,f135M K),(223,f223M K)] [0,1,2,3,4]
def f185G (a0 a1:Int×Int×Int×Int):Option Bool :=
  (f135G K a0).bind fun y1=>(f135G K a1).bind fun y2=>(f223G K y1 y2).bind fun y3=>some y3
def f185M:Mdl:=⟨[(.ro,sA),(.ro,sA)],[.bool],fun x=>f185G K x.1 x.2.1⟩
def f186E:Env:=eE K [] [0,1,2,3,4]
def f186G (K:Nat) (a0 a1:Int×Int):Option Bool :=
  some (bif (decide (a0.1<a1.1)) then true else (bif (a0.1==a1.1) then (decide (a0.2<a1.2)) else false))
def f186M:Mdl:=⟨[(.ro,sV),(.ro,sV)],[.bool],fun x=>f186G K x.1 x.2.1⟩
def f127E:Env:=eE K [(185,f185M K),(186,f186M K)] [0,1,2,3,4,9]
def f127G (a0 a1:tA×Int×Int):Option Bool :=
  (bif (!((a0.1.1==a1.1.1)&&((a0.1.2.1==a1.1.2.1)&&((a0.1.2.2.1==a1.1.2.2.1)&&(a0.1.2.2.2==a1.1.2.2.2))))) then (f185G K a0.1 a1.1).bind fun y1=>some y1 else (f186G K a0.2 a1.2).bind fun y2=>some y2)
def f127M:Mdl:=⟨[(.ro,sM),(.ro,sM)],[.bool],fun x=>f127G K x.1 x.2.1⟩
def f74E:Env:=eE K [(127,f127M K)] [0,1,3,4,5,6,7,12,22]
def f74_b6 (a0:List tM) (a1:tA×Int×Int) (L6:Int→Int→Option Int) (q7 q8:Int):Option Int :=
  (bif (decide (q7<q8)) then (bif (decide (0≤(w ((w (q7+q8)).tdiv (2:Int))))&&decide ((w ((w (q7+q8)).tdiv (2:Int)))<(a0.length:Int))) then (f127G K ((((a0.getD ((0:Int)+(w ((w (q7+q8)).tdiv (2:Int)))).toNat zM).1).1,(((a0.getD ((0:Int)+(w ((w (q7+q8)).tdiv (2:Int)))).toNat zM).1).2).1,((((a0.getD ((0:Int)+(w ((w (q7+q8)).tdiv (2:Int)))).toNat zM).1).2).2)),((a0.getD ((0:Int)+(w ((w (q7+q8)).tdiv (2:Int)))).toNat zM).2)) a1).bind fun y9=>(bif y9 then L6 (w ((w ((w (q7+q8)).tdiv (2:Int)))+(1:Int))) q8 else L6 q7 (w ((w (q7+q8)).tdiv (2:Int)))) else none) else some q7)
def f74_l6 (a0:List tM) (a1:tA×Int×Int) (n:Nat) (q7 q8:Int):Option Int :=
  iter (X:=Int×Int) (fun L x=>f74_b6 K a0 a1 (fun v0 v1=>L (v0,v1)) x.1 x.2) n (q7,q8)
def f74_g (K:Nat) (a0:List tM) (a1:tA×Int×Int) (I6:Int→Int→Option Int):Option Int :=
  I6 (0:Int) (a0.length:Int)
def f74G (a0:List tM) (a1:tA×Int×Int):Option Int :=
  f74_g K a0 a1 (fun d0 d1=>f74_l6 K a0 a1 K d0 d1)
def f74M:Mdl:=⟨[(.ro,(.list 52 sM)),(.ro,sM)],[sI],fun x=>f74G K x.1 x.2.1⟩
def f74_k6 (a0:List tM) (a1:tA×Int×Int) (lr:LR Int):Ex→Fr→Option Int :=
  contC (f74E K) 1 lr f74C [1,1,0,0] (fM (f74E K) Tryz.f74 (f74M K) (a0,a1,()))
def f74_j6 (a0:List tM) (a1:tA×Int×Int) (lr:LR Int) (bq7 bq8:Int):Option Int :=
  lr (selC f74C [1,1,0,0,0]) (f74_fr6 a0 a1 bq7 bq8) (f74_k6 K a0 a1 lr)
def f29E:Env:=eE K [(74,f74M K)] [0,1,3,4,5]
def f29G (a0:List tM) (a1:tA×Int×Int):Option Bool :=
  (f74G K a0 a1).bind fun y1=>(bif ((decide (0≤y1)&&decide (y1<(a0.length:Int)))||(!(decide (y1<(a0.length:Int))))) then some (bif (decide (y1<(a0.length:Int))) then ((((a0.getD ((0:Int)+y1).toNat zM).1).1==a1.1.1)&&(((((a0.getD ((0:Int)+y1).toNat zM).1).2).1==a1.1.2.1)&&((((((a0.getD ((0:Int)+y1).toNat zM).1).2).2).1==a1.1.2.2.1)&&((((((a0.getD ((0:Int)+y1).toNat zM).1).2).2).2==a1.1.2.2.2)&&((((a0.getD ((0:Int)+y1).toNat zM).2).1==a1.2.1)&&(((a0.getD ((0:Int)+y1).toNat zM).2).2==a1.2.2)))))) else false) else none)
def f29M:Mdl:=⟨[(.ro,(.list 52 sM)),(.ro,sM)],[.bool],fun x=>f29G K x.1 x.2.1⟩
def f77E:Env:=eE K [(74,f74M K)] [0,1,3,4,5,20]
def f77G (a0:List tM) (a1:tA×Int×Int):Option (List tM) :=
  (f74G K a0 a1).bind fun y1=>(bif ((decide (0≤y1)&&decide (y1<(a0.length:Int)))||(!(decide (y1<(a0.length:Int))))) then (bif (bif (decide (y1<(a0.length:Int))) then ((((a0.getD ((0:Int)+y1).toNat zM).1).1==a1.1.1)&&(((((a0.getD ((0:Int)+y1).toNat zM).1).2).1==a1.1.2.1)&&((((((a0.getD ((0:Int)+y1).toNat zM).1).2).2).1==a1.1.2.2.1)&&((((((a0.getD ((0:Int)+y1).toNat zM).1).2).2).2==a1.1.2.2.2)&&((((a0.getD ((0:Int)+y1).toNat zM).2).1==a1.2.1)&&(((a0.getD ((0:Int)+y1).toNat zM).2).2==a1.2.2)))))) else false) then some a0 else (bif (decide (0≤(0:Int))&&decide ((0:Int)≤y1)&&decide (y1≤(a0.length:Int))) then (bif (Nat.ble (0+((a0.take ((0:Int)+y1).toNat).drop 0).length) (lim 48)) then (bif (Nat.ble (([]++((a0.take ((0:Int)+y1).toNat).drop 0)).length+[a1].length) (lim 48)) then (bif (decide (0≤y1)&&decide (y1≤(a0.length:Int))&&decide ((a0.length:Int)≤(a0.length:Int))) then (bif (Nat.ble ((([]++((a0.take ((0:Int)+y1).toNat).drop 0))++[a1]).length+((a0.take ((0:Int)+(a0.length:Int)).toNat).drop ((0:Int)+y1).toNat).length) (lim 48)) then some ((([]++((a0.take ((0:Int)+y1).toNat).drop 0))++[a1])++((a0.take ((0:Int)+(a0.length:Int)).toNat).drop ((0:Int)+y1).toNat)) else none) else none) else none) else none) else none)) else none)
def f77M:Mdl:=⟨[(.mv,(.list 52 sM)),(.ro,sM)],[(.list 52 sM)],fun x=>f77G K x.1 x.2.1⟩
def f30E:Env:=eE K [(28,f28M K),(29,f29M K),(75,f75M K),(76,f76M K),(77,f77M K)] [0,1,2,4,5,6,7,8,9,17,23,40]
def f30_b21 (a0:Int×Int×Int) (a1:List tM) (q18:Int) (q20:List tM) (L17 L21:Int→(List tM)→(List tM)→Option (List tM)) (q22:Int) (q23 q24:List tM):Option (List tM) :=
  (bif (decide (q22<(a1.length:Int))) then (bif (decide (0≤q22)&&decide (q22<(a1.length:Int))) then (bif (decide (0≤q18)&&decide (q18<(q24.length:Int))) then (f76G K ((((a1.getD ((0:Int)+q22).toNat zM).1).1,(((a1.getD ((0:Int)+q22).toNat zM).1).2).1,((((a1.getD ((0:Int)+q22).toNat zM).1).2).2)),((a1.getD ((0:Int)+q22).toNat zM).2)) ((((q24.getD ((0:Int)+q18).toNat zM).1).1,(((q24.getD ((0:Int)+q18).toNat zM).1).2).1,((((q24.getD ((0:Int)+q18).toNat zM).1).2).2)),((q24.getD ((0:Int)+q18).toNat zM).2))).bind fun y25=>(f75G K a0 y25).bind fun y26=>(f29G K q23 y26).bind fun y27=>(bif (!y27) then (f77G K q23 y26).bind fun y28=>(bif (Nat.ble (q24.length+[y26].length) (lim 48)) then L21 (w (q22+(1:Int))) y28 (q24++[y26]) else none) else L21 (w (q22+(1:Int))) q23 q24) else none) else none) else L17 (w (q18+(1:Int))) q23 q24)
def f30_l21 (a0:Int×Int×Int) (a1:List tM) (q18:Int) (q20:List tM) (L17:Int→(List tM)→(List tM)→Option (List tM)) (n:Nat) (q22:Int) (q23 q24:List tM):Option (List tM) :=
  iter (X:=Int×List tM×List tM) (fun L x=>f30_b21 K a0 a1 q18 q20 L17 (fun v0 v1 v2=>L (v0,v1,v2)) x.1 x.2.1 x.2.2) n (q22,q23,q24)
def f30_b17 (K:Nat) (a0:Int×Int×Int) (a1:List tM) (I21:Int→(List tM)→Int→(List tM)→(List tM)→Option (List tM)) (L17:Int→(List tM)→(List tM)→Option (List tM)) (q18:Int) (q19 q20:List tM):Option (List tM) :=
  (bif (decide (q18<(q20.length:Int))) then I21 q18 q20 (0:Int) q19 q20 else some q19)
def f30_l17 (a0:Int×Int×Int) (a1:List tM) (n:Nat) (q18:Int) (q19 q20:List tM):Option (List tM) :=
  iter (X:=Int×List tM×List tM) (fun L x=>(fun L17=>f30_b17 K a0 a1 (fun c0 c1 d0 d1 d2=>f30_l21 K a0 a1 c0 c1 L17 K d0 d1 d2) L17 x.1 x.2.1 x.2.2) (fun v0 v1 v2=>L (v0,v1,v2))) n (q18,q19,q20)
def f30_g (a0:Int×Int×Int) (a1:List tM) (I17:Int→(List tM)→(List tM)→Option (List tM)):Option (List tM) :=
  (f28G K).bind fun y1=>(f28G K).bind fun y2=>I17 (0:Int) [y1] [y2]
def f30G (a0:Int×Int×Int) (a1:List tM):Option (List tM) :=
  f30_g K a0 a1 (fun d0 d1 d2=>f30_l17 K a0 a1 K d0 d1 d2)
def f30M:Mdl:=⟨[(.ro,sL),(.ro,(.list 52 sM))],[(.list 52 sM)],fun x=>f30G K x.1 x.2.1⟩
def f30_k17 (a0:Int×Int×Int) (a1:List tM) (lr:LR (List tM)):Ex→Fr→Option (List tM) :=
  contC (f30E K) 1 lr f30C [1,1,1,0,1,0] (fM (f30E K) Tryz.f30 (f30M K) (a0,a1,()))
def f30_j17 (a0:Int×Int×Int) (a1:List tM) (lr:LR (List tM)) (bq18:Int) (bq19 bq20:List tM):Option (List tM) :=
  lr (selC f30C [1,1,1,0,1,0,0]) (f30_fr17 a0 a1 bq18 bq19 bq20) (f30_k17 K a0 a1 lr)
def f30_k21 (a0:Int×Int×Int) (a1:List tM) (F17:Fr→Option (List tM)) (bq18:Int) (bq19 bq20:List tM) (lr:LR (List tM)):Ex→Fr→Option (List tM) :=
  contC (f30E K) 1 lr (selC f30C [1,1,1,0,1,0,0]) [1,0,0,1,0] (loopK 1 (f30_fr17 a0 a1 bq18 bq19 bq20) F17 (f30_k17 K a0 a1 lr))
def f30_j21 (a0:Int×Int×Int) (a1:List tM) (F17:Fr→Option (List tM)) (bq18:Int) (bq19 bq20:List tM) (lr:LR (List tM)) (q18:Int) (q20:List tM) (bq22:Int) (bq23 bq24:List tM):Option (List tM) :=
  lr (selC f30C [1,1,1,0,1,0,0,1,0,0,1,0,0]) (f30_fr21 a0 a1 q18 q20 bq22 bq23 bq24) (f30_k21 K a0 a1 F17 bq18 bq19 bq20 lr)
def f70E:Env:=eE K [] [0,1,2,3,4,5,10,16]
def f70_b9 (K:Nat) (a0:Int×Int×Int) (q7:Int) (L6 L9:Int→(List tV)→Option (List tV)) (q10:Int) (q11:List tV):Option (List tV) :=
  (bif (decide (q10<a0.2.2)) then (bif (Nat.ble (q11.length+[(q7,q10)].length) (lim 16)) then L9 (w (q10+(1:Int))) (q11++[(q7,q10)]) else none) else L6 (w (q7+(1:Int))) q11)
def f70_l9 (a0:Int×Int×Int) (q7:Int) (L6:Int→(List tV)→Option (List tV)) (n:Nat) (q10:Int) (q11:List tV):Option (List tV) :=
  iter (X:=Int×List tV) (fun L x=>f70_b9 K a0 q7 L6 (fun v0 v1=>L (v0,v1)) x.1 x.2) n (q10,q11)
def f70_b6 (K:Nat) (a0:Int×Int×Int) (I9:Int→Int→(List tV)→Option (List tV)) (L6:Int→(List tV)→Option (List tV)) (q7:Int) (q8:List tV):Option (List tV) :=
  (bif (decide (q7<a0.1)) then I9 q7 (0:Int) q8 else some q8)
def f70_l6 (a0:Int×Int×Int) (n:Nat) (q7:Int) (q8:List tV):Option (List tV) :=
  iter (X:=Int×List tV) (fun L x=>(fun L6=>f70_b6 K a0 (fun c0 d0 d1=>f70_l9 K a0 c0 L6 K d0 d1) L6 x.1 x.2) (fun v0 v1=>L (v0,v1))) n (q7,q8)
def f70_g (K:Nat) (a0:Int×Int×Int) (I6:Int→(List tV)→Option (List tV)):Option (List tV) :=
  I6 (0:Int) []
def f70G (a0:Int×Int×Int):Option (List tV) :=
  f70_g K a0 (fun d0 d1=>f70_l6 K a0 K d0 d1)
def f70M:Mdl:=⟨[(.ro,sL)],[(.list 50 sV)],fun x=>f70G K x.1⟩
def f70_k6 (a0:Int×Int×Int) (lr:LR (List tV)):Ex→Fr→Option (List tV) :=
  contC (f70E K) 0 lr f70C [1,1,0,1,0] (fM (f70E K) Tryz.f70 (f70M K) (a0,()))
def f70_j6 (a0:Int×Int×Int) (lr:LR (List tV)) (bq7:Int) (bq8:List tV):Option (List tV) :=
  lr (selC f70C [1,1,0,1,0,0]) (f70_fr6 a0 bq7 bq8) (f70_k6 K a0 lr)
def f70_k9 (a0:Int×Int×Int) (F6:Fr→Option (List tV)) (bq7:Int) (bq8:List tV) (lr:LR (List tV)):Ex→Fr→Option (List tV) :=
  contC (f70E K) 0 lr (selC f70C [1,1,0,1,0,0]) [1,0,0,1,0] (loopK 0 (f70_fr6 a0 bq7 bq8) F6 (f70_k6 K a0 lr))
def f70_j9 (a0:Int×Int×Int) (F6:Fr→Option (List tV)) (bq7:Int) (bq8:List tV) (lr:LR (List tV)) (q7 bq10:Int) (bq11:List tV):Option (List tV) :=
  lr (selC f70C [1,1,0,1,0,0,1,0,0,1,0,0]) (f70_fr9 a0 q7 bq10 bq11) (f70_k9 K a0 F6 bq7 bq8 lr)
def f125E:Env:=eE K [(130,f130M K),(131,f131M K)] [0,1,2,3,4]
def f125G (a0:tA×Int×Int) (a1:Int×Int):Option tV :=
  (f131G K a0.1 a1).bind fun y1=>(f130G K y1 a0.2).bind fun y2=>some y2
def f125M:Mdl:=⟨[(.ro,sM),(.ro,sV)],[sV],fun x=>f125G K x.1 x.2.1⟩
def f138E:Env:=eE K [(125,f125M K),(128,f128M K)] [0,1,2,3,4,5,6]
def f138G (a0:Int×Int×Int) (a1:tA×Int×Int) (a2:Int×Int):Option tV :=
  (f125G K a1 a2).bind fun y1=>(f128G K a0 y1).bind fun y2=>some y2
def f138M:Mdl:=⟨[(.ro,sL),(.ro,sM),(.ro,sV)],[sV],fun x=>f138G K x.1 x.2.1 x.2.2.1⟩
def f137E:Env:=eE K [(186,f186M K)] [0,1,3,4,5,17,31]
def f137_b3 (a0:List tV) (a1:Int×Int) (L3:Int→Option (List tV)) (q4:Int):Option (List tV) :=
  (bif ((decide (0≤q4)&&decide (q4<(a0.length:Int)))||(!(decide (q4<(a0.length:Int))))) then ((bif (decide (q4<(a0.length:Int))) then f186G K (a0.getD ((0:Int)+q4).toNat ((0:Int),(0:Int))) a1 else some false)).bind fun y5=>(bif (bif (decide (q4<(a0.length:Int))) then y5 else false) then L3 (w (q4+(1:Int))) else (bif ((decide (0≤q4)&&decide (q4<(a0.length:Int)))||(!(decide (q4<(a0.length:Int))))) then (bif (bif (decide (q4<(a0.length:Int))) then (((a0.getD ((0:Int)+q4).toNat ((0:Int),(0:Int))).1==a1.1)&&((a0.getD ((0:Int)+q4).toNat ((0:Int),(0:Int))).2==a1.2)) else false) then some a0 else (bif (decide (0≤(0:Int))&&decide ((0:Int)≤q4)&&decide (q4≤(a0.length:Int))) then (bif (Nat.ble (0+((a0.take ((0:Int)+q4).toNat).drop 0).length) (lim 16)) then (bif (Nat.ble (([]++((a0.take ((0:Int)+q4).toNat).drop 0)).length+[a1].length) (lim 16)) then (bif (decide (0≤q4)&&decide (q4≤(a0.length:Int))&&decide ((a0.length:Int)≤(a0.length:Int))) then (bif (Nat.ble ((([]++((a0.take ((0:Int)+q4).toNat).drop 0))++[a1]).length+((a0.take ((0:Int)+(a0.length:Int)).toNat).drop ((0:Int)+q4).toNat).length) (lim 16)) then some ((([]++((a0.take ((0:Int)+q4).toNat).drop 0))++[a1])++((a0.take ((0:Int)+(a0.length:Int)).toNat).drop ((0:Int)+q4).toNat)) else none) else none) else none) else none) else none)) else none)) else none)
def f137_l3 (a0:List tV) (a1:Int×Int) (n:Nat) (q4:Int):Option (List tV) :=
  iter (X:=Int) (fun L x=>f137_b3 K a0 a1 (fun v0=>L v0) x) n q4
def f137_g (K:Nat) (a0:List tV) (a1:Int×Int) (I3:Int→Option (List tV)):Option (List tV) :=
  I3 (0:Int)
def f137G (a0:List tV) (a1:Int×Int):Option (List tV) :=
  f137_g K a0 a1 (fun d0=>f137_l3 K a0 a1 K d0)
def f137M:Mdl:=⟨[(.mv,(.list 50 sV)),(.ro,sV)],[(.list 50 sV)],fun x=>f137G K x.1 x.2.1⟩
def f137_k3 (a0:List tV) (a1:Int×Int) (lr:LR (List tV)):Ex→Fr→Option (List tV) :=
  contC (f137E K) 1 lr f137C [1,1,0,0] (fM (f137E K) Tryz.f137 (f137M K) (a0,a1,()))
def f137_j3 (a0:List tV) (a1:Int×Int) (lr:LR (List tV)) (bq4:Int):Option (List tV) :=
  lr (selC f137C [1,1,0,0,0]) (f137_fr3 a0 a1 bq4) (f137_k3 K a0 a1 lr)
def f81E:Env:=eE K [(137,f137M K),(138,f138M K)] [0,1,2,3,5,6,7,8,13]
def f81_b4 (a0:Int×Int×Int) (a1:List tM) (a2:Int×Int) (L4:Int→(List tV)→Option (List tV)) (q5:Int) (q6:List tV):Option (List tV) :=
  (bif (decide (q5<(a1.length:Int))) then (bif (decide (0≤q5)&&decide (q5<(a1.length:Int))) then (f138G K a0 ((((a1.getD ((0:Int)+q5).toNat zM).1).1,(((a1.getD ((0:Int)+q5).toNat zM).1).2).1,((((a1.getD ((0:Int)+q5).toNat zM).1).2).2)),((a1.getD ((0:Int)+q5).toNat zM).2)) a2).bind fun y7=>(f137G K q6 y7).bind fun y8=>L4 (w (q5+(1:Int))) y8 else none) else some q6)
def f81_l4 (a0:Int×Int×Int) (a1:List tM) (a2:Int×Int) (n:Nat) (q5:Int) (q6:List tV):Option (List tV) :=
  iter (X:=Int×List tV) (fun L x=>f81_b4 K a0 a1 a2 (fun v0 v1=>L (v0,v1)) x.1 x.2) n (q5,q6)
def f81_g (K:Nat) (a0:Int×Int×Int) (a1:List tM) (a2:Int×Int) (I4:Int→(List tV)→Option (List tV)):Option (List tV) :=
  I4 (0:Int) []
def f81G (a0:Int×Int×Int) (a1:List tM) (a2:Int×Int):Option (List tV) :=
  f81_g K a0 a1 a2 (fun d0 d1=>f81_l4 K a0 a1 a2 K d0 d1)
def f81M:Mdl:=⟨[(.ro,sL),(.ro,(.list 52 sM)),(.ro,sV)],[(.list 50 sV)],fun x=>f81G K x.1 x.2.1 x.2.2.1⟩
def f81_k4 (a0:Int×Int×Int) (a1:List tM) (a2:Int×Int) (lr:LR (List tV)):Ex→Fr→Option (List tV) :=
  contC (f81E K) 1 lr f81C [1,1,0,1,0] (fM (f81E K) Tryz.f81 (f81M K) (a0,a1,a2,()))
def f81_j4 (a0:Int×Int×Int) (a1:List tM) (a2:Int×Int) (lr:LR (List tV)) (bq5:Int) (bq6:List tV):Option (List tV) :=
  lr (selC f81C [1,1,0,1,0,0]) (f81_fr4 a0 a1 a2 bq5 bq6) (f81_k4 K a0 a1 a2 lr)
def f32E:Env:=eE K [(70,f70M K),(81,f81M K)] [0,1,2,4,5,6,7,8,15,32]
def f32_b4 (a0:Int×Int×Int) (a1:List tM) (y1:List tV) (L4:Int→(List (List tV))→Option (List (List tV))) (q5:Int) (q6:List (List tV)):Option (List (List tV)) :=
  (bif (decide (q5<(y1.length:Int))) then (bif (decide (0≤q5)&&decide (q5<(y1.length:Int))) then (f81G K a0 a1 (y1.getD ((0:Int)+q5).toNat ((0:Int),(0:Int)))).bind fun y7=>(bif (decide (0≤(0:Int))&&decide ((0:Int)<(y7.length:Int))) then (bif (decide (0≤q5)&&decide (q5<(y1.length:Int))) then (bif (((y7.getD ((0:Int)+(0:Int)).toNat ((0:Int),(0:Int))).1==(y1.getD ((0:Int)+q5).toNat ((0:Int),(0:Int))).1)&&((y7.getD ((0:Int)+(0:Int)).toNat ((0:Int),(0:Int))).2==(y1.getD ((0:Int)+q5).toNat ((0:Int),(0:Int))).2)) then (bif (Nat.ble (q6.length+[y7].length) (lim 24)) then L4 (w (q5+(1:Int))) (q6++[y7]) else none) else L4 (w (q5+(1:Int))) q6) else none) else none) else none) else some q6)
def f32_l4 (a0:Int×Int×Int) (a1:List tM) (y1:List tV) (n:Nat) (q5:Int) (q6:List (List tV)):Option (List (List tV)) :=
  iter (X:=Int×List (List tV)) (fun L x=>f32_b4 K a0 a1 y1 (fun v0 v1=>L (v0,v1)) x.1 x.2) n (q5,q6)
def f32_g (a0:Int×Int×Int) (a1:List tM) (I4:(List tV)→Int→(List (List tV))→Option (List (List tV))):Option (List (List tV)) :=
  (f70G K a0).bind fun y1=>I4 y1 (0:Int) []
def f32G (a0:Int×Int×Int) (a1:List tM):Option (List (List tV)) :=
  f32_g K a0 a1 (fun c0 d0 d1=>f32_l4 K a0 a1 c0 K d0 d1)
def f32M:Mdl:=⟨[(.ro,sL),(.ro,(.list 52 sM))],[(.list 55 (.list 50 sV))],fun x=>f32G K x.1 x.2.1⟩
def f32_k4 (a0:Int×Int×Int) (a1:List tM) (lr:LR (List (List tV))):Ex→Fr→Option (List (List tV)) :=
  contC (f32E K) 1 lr f32C [1,1,1,0,1,0] (fM (f32E K) Tryz.f32 (f32M K) (a0,a1,()))
def f32_j4 (a0:Int×Int×Int) (a1:List tM) (lr:LR (List (List tV))) (y1:List tV) (bq5:Int) (bq6:List (List tV)):Option (List (List tV)) :=
  lr (selC f32C [1,1,1,0,1,0,0]) (f32_fr4 a0 a1 y1 bq5 bq6) (f32_k4 K a0 a1 lr)
def f82E:Env:=eE K [(128,f128M K)] [0,1,2,3,4]
def f82G (a0:Int×Int×Int) (a1:Int×Int):Option Int :=
  (f128G K a0 a1).bind fun y1=>some (w ((w (y1.1*a0.2.2))+y1.2))
def f82M:Mdl:=⟨[(.ro,sL),(.ro,sV)],[sI],fun x=>f82G K x.1 x.2.1⟩
def f153E:Env:=eE K [(32,f32M K),(82,f82M K)] [0,1,2,4,5,6,7,8,21,30]
def f153_b12 (a0:Int×Int×Int) (a1:List tM) (q10:Int) (y1:List (List tV)) (L9 L12:Int→(List Int)→Option (List Int)) (q13:Int) (q14:List Int):Option (List Int) :=
  (bif (decide (0≤q10)&&decide (q10<(y1.length:Int))) then (bif (decide (q13<((y1.getD ((0:Int)+q10).toNat []).length:Int))) then (bif (decide (0≤q10)&&decide (q10<(y1.length:Int))) then (bif (decide (0≤q13)&&decide (q13<((y1.getD ((0:Int)+q10).toNat []).length:Int))) then (f82G K a0 ((y1.getD ((0:Int)+q10).toNat []).getD ((0:Int)+q13).toNat ((0:Int),(0:Int)))).bind fun y15=>(bif (decide (0≤y15)&&decide (y15<(q14.length:Int))) then L12 (w (q13+(1:Int))) (q14.set ((0:Int)+y15).toNat q10) else none) else none) else none) else L9 (w (q10+(1:Int))) q14) else none)
def f153_l12 (a0:Int×Int×Int) (a1:List tM) (q10:Int) (y1:List (List tV)) (L9:Int→(List Int)→Option (List Int)) (n:Nat) (q13:Int) (q14:List Int):Option (List Int) :=
  iter (X:=Int×List Int) (fun L x=>f153_b12 K a0 a1 q10 y1 L9 (fun v0 v1=>L (v0,v1)) x.1 x.2) n (q13,q14)
def f153_b9 (K:Nat) (a0:Int×Int×Int) (a1:List tM) (y1:List (List tV)) (I12:Int→Int→(List Int)→Option (List Int)) (L9:Int→(List Int)→Option (List Int)) (q10:Int) (q11:List Int):Option (List Int) :=
  (bif (decide (q10<(y1.length:Int))) then I12 q10 (0:Int) q11 else some q11)
def f153_l9 (a0:Int×Int×Int) (a1:List tM) (y1:List (List tV)) (n:Nat) (q10:Int) (q11:List Int):Option (List Int) :=
  iter (X:=Int×List Int) (fun L x=>(fun L9=>f153_b9 K a0 a1 y1 (fun c0 d0 d1=>f153_l12 K a0 a1 c0 y1 L9 K d0 d1) L9 x.1 x.2) (fun v0 v1=>L (v0,v1))) n (q10,q11)
def f153_g (a0:Int×Int×Int) (a1:List tM) (I9:(List (List tV))→Int→(List Int)→Option (List Int)):Option (List Int) :=
  (bif (decide (0≤(w (a0.1*a0.2.2)))&&Nat.ble (w (a0.1*a0.2.2)).toNat (lim 8)&&((w (a0.1*a0.2.2))==(w (a0.1*a0.2.2)))) then (f32G K a0 a1).bind fun y1=>I9 y1 (0:Int) (List.replicate (w (a0.1*a0.2.2)).toNat (0:Int)) else none)
def f153G (a0:Int×Int×Int) (a1:List tM):Option (List Int) :=
  f153_g K a0 a1 (fun c0 d0 d1=>f153_l9 K a0 a1 c0 K d0 d1)
def f153M:Mdl:=⟨[(.ro,sL),(.ro,(.list 52 sM))],[(.list 2 sI)],fun x=>f153G K x.1 x.2.1⟩
def f153_k9 (a0:Int×Int×Int) (a1:List tM) (lr:LR (List Int)):Ex→Fr→Option (List Int) :=
  contC (f153E K) 1 lr f153C [1,1,1,0,1,0] (fM (f153E K) Tryz.f153 (f153M K) (a0,a1,()))
def f153_j9 (a0:Int×Int×Int) (a1:List tM) (lr:LR (List Int)) (y1:List (List tV)) (bq10:Int) (bq11:List Int):Option (List Int) :=
  lr (selC f153C [1,1,1,0,1,0,0]) (f153_fr9 a0 a1 y1 bq10 bq11) (f153_k9 K a0 a1 lr)
def f153_k12 (a0:Int×Int×Int) (a1:List tM) (y1:List (List tV)) (F9:Fr→Option (List Int)) (bq10:Int) (bq11:List Int) (lr:LR (List Int)):Ex→Fr→Option (List Int) :=
  contC (f153E K) 1 lr (selC f153C [1,1,1,0,1,0,0]) [1,0,0,1,0] (loopK 1 (f153_fr9 a0 a1 y1 bq10 bq11) F9 (f153_k9 K a0 a1 lr))
def f153_j12 (a0:Int×Int×Int) (a1:List tM) (y1:List (List tV)) (F9:Fr→Option (List Int)) (bq10:Int) (bq11:List Int) (lr:LR (List Int)) (q10 bq13:Int) (bq14:List Int):Option (List Int) :=
  lr (selC f153C [1,1,1,0,1,0,0,1,0,0,1,0,0]) (f153_fr12 a0 a1 q10 y1 bq13 bq14) (f153_k12 K a0 a1 y1 F9 bq10 bq11 lr)
def f89E:Env:=⟨[(28,f28M K),(30,f30M K),(65,f65M K),(75,f75M K),(153,f153M K)],tys,eqs,mts,K,[0,1,2,5,6,7,8,9,10,11,12,13,14,15,23,29,35,60,72],[(39,f39M K),(152,f152M K)],[],[],[],[],[],false⟩
def f89_b27 (K:Nat) (a0:(List Int)×Int×Int) (a1:Int) (a2:Int×Int×Int) (q9:Int) (q12:List tM) (q21 q22 q23:Int) (q24:List Int) (y1:Int) (y3:tV×Int) (y15:List tM) (y16:List Int) (y17:tV×Int) (L27:Int→(List Int)→Option (tV×Int×tL×List Int)) (q28:Int) (q29:List Int):Option (tV×Int×tL×List Int) :=
  (bif (decide (q28<(y16.length:Int))) then (bif (decide (0≤q28)&&decide (q28<(y16.length:Int))) then (bif (decide (0≤(y16.getD ((0:Int)+q28).toNat (0:Int)))&&decide ((y16.getD ((0:Int)+q28).toNat (0:Int))<(q24.length:Int))) then (bif (Nat.ble (q29.length+[(q24.getD ((0:Int)+(y16.getD ((0:Int)+q28).toNat (0:Int))).toNat (0:Int))].length) (lim 8)) then L27 (w (q28+(1:Int))) (q29++[(q24.getD ((0:Int)+(y16.getD ((0:Int)+q28).toNat (0:Int))).toNat (0:Int))]) else none) else none) else none) else some ((q22,q23),a1,a2,q29))
def f89_l27 (a0:(List Int)×Int×Int) (a1:Int) (a2:Int×Int×Int) (q9:Int) (q12:List tM) (q21 q22 q23:Int) (q24:List Int) (y1:Int) (y3:tV×Int) (y15:List tM) (y16:List Int) (y17:tV×Int) (n:Nat) (q28:Int) (q29:List Int):Option (tV×Int×tL×List Int) :=
  iter (X:=Int×List Int) (fun L x=>f89_b27 K a0 a1 a2 q9 q12 q21 q22 q23 q24 y1 y3 y15 y16 y17 (fun v0 v1=>L (v0,v1)) x.1 x.2) n (q28,q29)
def f89_b20 (a0:(List Int)×Int×Int) (a1:Int) (a2:Int×Int×Int) (q9:Int) (q12:List tM) (y1:Int) (y3:tV×Int) (y15:List tM) (y16:List Int) (y17:tV×Int) (I27:Int→(List tM)→Int→Int→Int→(List Int)→Int→(tV×Int)→(List tM)→(List Int)→(tV×Int)→Int→(List Int)→Option (tV×Int×tL×List Int)) (L20:Int→Int→Int→(List Int)→Option (tV×Int×tL×List Int)) (q21 q22 q23:Int) (q24:List Int):Option (tV×Int×tL×List Int) :=
  (bif (decide (q21<(y16.length:Int))) then (f39G K (a0.1,q22,q23) (w ((2:Int)+y17.2))).bind fun y25=>(bif (Nat.ble (q24.length+[y25.2].length) (lim 8)) then L20 (w (q21+(1:Int))) y25.1.1 y25.1.2 (q24++[y25.2]) else none) else I27 q9 q12 q21 q22 q23 q24 y1 y3 y15 y16 y17 (0:Int) [])
def f89_l20 (a0:(List Int)×Int×Int) (a1:Int) (a2:Int×Int×Int) (q9:Int) (q12:List tM) (y1:Int) (y3:tV×Int) (y15:List tM) (y16:List Int) (y17:tV×Int) (n:Nat) (q21 q22 q23:Int) (q24:List Int):Option (tV×Int×tL×List Int) :=
  iter (X:=Int×Int×Int×List Int) (fun L x=>f89_b20 K a0 a1 a2 q9 q12 y1 y3 y15 y16 y17 (fun c0 c1 c2 c3 c4 c5 c6 c7 c8 c9 c10 d0 d1=>f89_l27 K a0 a1 a2 c0 c1 c2 c3 c4 c5 c6 c7 c8 c9 c10 K d0 d1) (fun v0 v1 v2 v3=>L (v0,v1,v2,v3)) x.1 x.2.1 x.2.2.1 x.2.2.2) n (q21,q22,q23,q24)
def f89_b8 (a0:(List Int)×Int×Int) (a1:Int) (a2:Int×Int×Int) (y1:Int) (y2:tA×Int×Int) (y3:tV×Int) (I20:Int→(List tM)→Int→(tV×Int)→(List tM)→(List Int)→(tV×Int)→Int→Int→Int→(List Int)→Option (tV×Int×tL×List Int)) (L8:Int→Int→Int→(List tM)→Option (tV×Int×tL×List Int)) (q9 q10 q11:Int) (q12:List tM):Option (tV×Int×tL×List Int) :=
  (bif (decide (q9>(0:Int))) then (f152G K (a0.1,q10,q11) a1 a2).bind fun y13=>(f75G K a2 y13.2).bind fun y14=>(bif (Nat.ble (q12.length+[y14].length) (lim 48)) then L8 (w (q9-(1:Int))) y13.1.1 y13.1.2 (q12++[y14]) else none) else (f30G K a2 q12).bind fun y15=>(f153G K a2 y15).bind fun y16=>(f39G K (a0.1,q10,q11) (3:Int)).bind fun y17=>I20 q9 q12 y1 y3 y15 y16 y17 (0:Int) y17.1.1 y17.1.2 [])
def f89_l8 (a0:(List Int)×Int×Int) (a1:Int) (a2:Int×Int×Int) (y1:Int) (y2:tA×Int×Int) (y3:tV×Int) (n:Nat) (q9 q10 q11:Int) (q12:List tM):Option (tV×Int×tL×List Int) :=
  iter (X:=Int×Int×Int×List tM) (fun L x=>f89_b8 K a0 a1 a2 y1 y2 y3 (fun c0 c1 c2 c3 c4 c5 c6 d0 d1 d2 d3=>f89_l20 K a0 a1 a2 c0 c1 c2 c3 c4 c5 c6 K d0 d1 d2 d3) (fun v0 v1 v2 v3=>L (v0,v1,v2,v3)) x.1 x.2.1 x.2.2.1 x.2.2.2) n (q9,q10,q11,q12)
def f89_b46 (K:Nat) (a0:(List Int)×Int×Int) (a1:Int) (a2:Int×Int×Int) (q39 q40 q41:Int) (q42 q43:List Int) (y1:Int) (y2:tA×Int×Int) (y3:tV×Int) (y30:List Int) (y31:tV×Int) (L46:Int→(List Int)→Option (tV×Int×tL×List Int)) (q47:Int) (q48:List Int):Option (tV×Int×tL×List Int) :=
  (bif (decide (q47<(y30.length:Int))) then (bif (decide (0≤q47)&&decide (q47<(y30.length:Int))) then (bif (decide (0≤(y30.getD ((0:Int)+q47).toNat (0:Int)))&&decide ((y30.getD ((0:Int)+q47).toNat (0:Int))<(q43.length:Int))) then (bif (Nat.ble (q48.length+[(q43.getD ((0:Int)+(y30.getD ((0:Int)+q47).toNat (0:Int))).toNat (0:Int))].length) (lim 8)) then L46 (w (q47+(1:Int))) (q48++[(q43.getD ((0:Int)+(y30.getD ((0:Int)+q47).toNat (0:Int))).toNat (0:Int))]) else none) else none) else none) else some ((q40,q41),a1,a2,q48))
def f89_l46 (a0:(List Int)×Int×Int) (a1:Int) (a2:Int×Int×Int) (q39 q40 q41:Int) (q42 q43:List Int) (y1:Int) (y2:tA×Int×Int) (y3:tV×Int) (y30:List Int) (y31:tV×Int) (n:Nat) (q47:Int) (q48:List Int):Option (tV×Int×tL×List Int) :=
  iter (X:=Int×List Int) (fun L x=>f89_b46 K a0 a1 a2 q39 q40 q41 q42 q43 y1 y2 y3 y30 y31 (fun v0 v1=>L (v0,v1)) x.1 x.2) n (q47,q48)
def f89_b38 (a0:(List Int)×Int×Int) (a1:Int) (a2:Int×Int×Int) (y1:Int) (y2:tA×Int×Int) (y3:tV×Int) (y30:List Int) (y31:tV×Int) (I46:Int→Int→Int→(List Int)→(List Int)→Int→tM→(tV×Int)→(List Int)→(tV×Int)→Int→(List Int)→Option (tV×Int×tL×List Int)) (L38:Int→Int→Int→(List Int)→(List Int)→Option (tV×Int×tL×List Int)) (q39 q40 q41:Int) (q42 q43:List Int):Option (tV×Int×tL×List Int) :=
  (bif (decide (q39<(y30.length:Int))) then (f39G K (a0.1,q40,q41) (w ((2:Int)+y31.2))).bind fun y44=>(bif (Nat.ble (q43.length+[y44.2].length) (lim 8)) then L38 (w (q39+(1:Int))) y44.1.1 y44.1.2 q42 (q43++[y44.2]) else none) else I46 q39 q40 q41 q42 q43 y1 y2 y3 y30 y31 (0:Int) [])
def f89_l38 (a0:(List Int)×Int×Int) (a1:Int) (a2:Int×Int×Int) (y1:Int) (y2:tA×Int×Int) (y3:tV×Int) (y30:List Int) (y31:tV×Int) (n:Nat) (q39 q40 q41:Int) (q42 q43:List Int):Option (tV×Int×tL×List Int) :=
  iter (X:=Int×Int×Int×List Int×List Int) (fun L x=>f89_b38 K a0 a1 a2 y1 y2 y3 y30 y31 (fun c0 c1 c2 c3 c4 c5 c6 c7 c8 c9 d0 d1=>f89_l46 K a0 a1 a2 c0 c1 c2 c3 c4 c5 c6 c7 c8 c9 K d0 d1) (fun v0 v1 v2 v3 v4=>L (v0,v1,v2,v3,v4)) x.1 x.2.1 x.2.2.1 x.2.2.2.1 x.2.2.2.2) n (q39,q40,q41,q42,q43)
def f89_g (a0:(List Int)×Int×Int) (a1:Int) (a2:Int×Int×Int) (I8:Int→tM→(tV×Int)→Int→Int→Int→(List tM)→Option (tV×Int×tL×List Int)) (I38:Int→tM→(tV×Int)→(List Int)→(tV×Int)→Int→Int→Int→(List Int)→(List Int)→Option (tV×Int×tL×List Int)):Option (tV×Int×tL×List Int) :=
  (f65G K a1 a2).bind fun y1=>(bif (y1 != (0:Int)) then some (a0.2,a1,a2,[]) else (f28G K).bind fun y2=>(f39G K a0 (4:Int)).bind fun y3=>(bif (decide (y3.2>(0:Int))) then (f39G K (a0.1,y3.1) (2:Int)).bind fun y4=>I8 y1 y2 y3 (w ((1:Int)+y4.2)) y4.1.1 y4.1.2 [] else (f153G K a2 [y2]).bind fun y30=>(f39G K (a0.1,y3.1) (3:Int)).bind fun y31=>I38 y1 y2 y3 y30 y31 (0:Int) y31.1.1 y31.1.2 [] []))
def f89G (a0:(List Int)×Int×Int) (a1:Int) (a2:Int×Int×Int):Option (tV×Int×tL×List Int) :=
  f89_g K a0 a1 a2 (fun c0 c1 c2 d0 d1 d2 d3=>f89_l8 K a0 a1 a2 c0 c1 c2 K d0 d1 d2 d3) (fun c0 c1 c2 c3 c4 d0 d1 d2 d3 d4=>f89_l38 K a0 a1 a2 c0 c1 c2 c3 c4 K d0 d1 d2 d3 d4)
def f89M:PMdl:=⟨5,(.int .u8),sV,[(.ro,sI),(.ro,sL)],[(.cons sI (.cons sL (.list 2 sI)))],fun x=>f89G K x.1 x.2.1 x.2.2.1⟩
def f89_k20 (a0:(List Int)×Int×Int) (a1:Int) (a2:Int×Int×Int) (lr:LR (tV×Int×tL×List Int)):Ex→Fr→Option (tV×Int×tL×List Int) :=
  contC (f89E K) 1 lr f89C [1,1,1,1,1,1,1,1,0,1,0] (finP (f89E K) Tryz.f89 sV [(.cons sI (.cons sL (.list 2 sI)))])
def f89_j20 (a0:(List Int)×Int×Int) (a1:Int) (a2:Int×Int×Int) (lr:LR (tV×Int×tL×List Int)) (q9:Int) (q12:List tM) (y1:Int) (y3:tV×Int) (y15:List tM) (y16:List Int) (y17:tV×Int) (bq21 bq22 bq23:Int) (bq24:List Int):Option (tV×Int×tL×List Int) :=
  lr (selC f89C [1,1,1,1,1,1,1,1,0,1,0,0]) (f89_fr20 a0 a1 a2 q9 q12 y1 y3 y15 y16 y17 bq21 bq22 bq23 bq24) (f89_k20 K a0 a1 a2 lr)
def f89_k8 (a0:(List Int)×Int×Int) (a1:Int) (a2:Int×Int×Int) (lr:LR (tV×Int×tL×List Int)):Ex→Fr→Option (tV×Int×tL×List Int) :=
  contC (f89E K) 1 lr f89C [1,1,1,1,0,1,0,1,0,1,0] (finP (f89E K) Tryz.f89 sV [(.cons sI (.cons sL (.list 2 sI)))])
def f89_j8 (a0:(List Int)×Int×Int) (a1:Int) (a2:Int×Int×Int) (lr:LR (tV×Int×tL×List Int)) (y1:Int) (y2:tA×Int×Int) (y3:tV×Int) (bq9 bq10 bq11:Int) (bq12:List tM):Option (tV×Int×tL×List Int) :=
  lr (selC f89C [1,1,1,1,0,1,0,1,0,1,0,0]) (f89_fr8 a0 a1 a2 y1 y2 y3 bq9 bq10 bq11 bq12) (f89_k8 K a0 a1 a2 lr)
def f89_k38 (a0:(List Int)×Int×Int) (a1:Int) (a2:Int×Int×Int) (lr:LR (tV×Int×tL×List Int)):Ex→Fr→Option (tV×Int×tL×List Int) :=
  contC (f89E K) 1 lr f89C [1,1,1,1,1,1,1,1,0,1,0] (finP (f89E K) Tryz.f89 sV [(.cons sI (.cons sL (.list 2 sI)))])
def f89_j38 (a0:(List Int)×Int×Int) (a1:Int) (a2:Int×Int×Int) (lr:LR (tV×Int×tL×List Int)) (y1:Int) (y2:tA×Int×Int) (y3:tV×Int) (y30:List Int) (y31:tV×Int) (bq39 bq40 bq41:Int) (bq42 bq43:List Int):Option (tV×Int×tL×List Int) :=
  lr (selC f89C [1,1,1,1,1,1,1,1,0,1,0,0]) (f89_fr38 a0 a1 a2 y1 y2 y3 y30 y31 bq39 bq40 bq41 bq42 bq43) (f89_k38 K a0 a1 a2 lr)
def f89_k27 (a0:(List Int)×Int×Int) (a1:Int) (a2:Int×Int×Int) (lr:LR (tV×Int×tL×List Int)):Ex→Fr→Option (tV×Int×tL×List Int) :=
  contC (f89E K) 1 lr f89C [1,1,1,1,1,1,1,1,1,0,1,0] (finP (f89E K) Tryz.f89 sV [(.cons sI (.cons sL (.list 2 sI)))])
def f89_j27 (a0:(List Int)×Int×Int) (a1:Int) (a2:Int×Int×Int) (lr:LR (tV×Int×tL×List Int)) (q9:Int) (q12:List tM) (q21 q22 q23:Int) (q24:List Int) (y1:Int) (y3:tV×Int) (y15:List tM) (y16:List Int) (y17:tV×Int) (bq28:Int) (bq29:List Int):Option (tV×Int×tL×List Int) :=
  lr (selC f89C [1,1,1,1,1,1,1,1,1,0,1,0,0]) (f89_fr27 a0 a1 a2 q9 q12 q21 q22 q23 q24 y1 y3 y15 y16 y17 bq28 bq29) (f89_k27 K a0 a1 a2 lr)
def f89_k46 (a0:(List Int)×Int×Int) (a1:Int) (a2:Int×Int×Int) (lr:LR (tV×Int×tL×List Int)):Ex→Fr→Option (tV×Int×tL×List Int) :=
  contC (f89E K) 1 lr f89C [1,1,1,1,1,1,1,1,1,0,1,0] (finP (f89E K) Tryz.f89 sV [(.cons sI (.cons sL (.list 2 sI)))])
def f89_j46 (a0:(List Int)×Int×Int) (a1:Int) (a2:Int×Int×Int) (lr:LR (tV×Int×tL×List Int)) (q39 q40 q41:Int) (q42 q43:List Int) (y1:Int) (y2:tA×Int×Int) (y3:tV×Int) (y30:List Int) (y31:tV×Int) (bq47:Int) (bq48:List Int):Option (tV×Int×tL×List Int) :=
  lr (selC f89C [1,1,1,1,1,1,1,1,1,0,1,0,0]) (f89_fr46 a0 a1 a2 q39 q40 q41 q42 q43 y1 y2 y3 y30 y31 bq47 bq48) (f89_k46 K a0 a1 a2 lr)
def f40E:Env:=⟨[],tys,eqs,mts,K,[0,2,3,4,5,16,17,24,29],[(39,f39M K),(88,f88M K),(89,f89M K),(90,f90M K)],[],[],[],[],[],false⟩
def f40G (a0:(List Int)×Int×Int):Option (tV×Int×tL×List Int) :=
  (f88G K a0).bind fun y1=>(f89G K (a0.1,y1.1) y1.2.1 y1.2.2).bind fun y2=>(f39G K (a0.1,y2.1) (60:Int)).bind fun y3=>(bif (y3.2==(0:Int)) then (bif (Nat.ble (y2.2.2.2.length+[(0:Int)].length) (lim 8)) then some (y3.1,y2.2.1,y2.2.2.1,(y2.2.2.2++[(0:Int)])) else none) else (bif (y3.2==(1:Int)) then (bif (decide ((y2.2.2.2.length:Int)>(0:Int))) then (f90G K (a0.1,y3.1) [(-1:Int),(9:Int),(10:Int)]).bind fun y4=>(bif (decide (0≤(0:Int))&&decide ((0:Int)<(y2.2.2.2.length:Int))) then some (y4.1,y2.2.1,y2.2.2.1,(y2.2.2.2.set ((0:Int)+(0:Int)).toNat y4.2)) else none) else some (y3.1,y2.2)) else some (y3.1,y2.2)))
def f40M:PMdl:=⟨5,(.int .u8),sV,[],[(.cons sI (.cons sL (.list 2 sI)))],fun x=>f40G K x.1⟩
def f14E:Env:=⟨[],tys,eqs,mts,K,[0,2,3,4,5,6,11,20],[(39,f39M K),(40,f40M K)],[(38,f38M K)],[],[],[],[],false⟩
def f14_b5 (a0:List Int) (y2:tV×Int) (L5:Int→Int→Int→(List Int)→Option (Int×tL×List Int)) (q6 q7 q8:Int) (q9:List Int):Option (Int×tL×List Int) :=
  (f39G K (a0,q7,q8) (3:Int)).bind fun y10=>(bif (decide (q6<(w ((39:Int)+y10.2)))) then (bif (decide (0≤q6)&&decide (q6<(q9.length:Int))) then L5 (w (q6+(1:Int))) y10.1.1 y10.1.2 (q9.set ((0:Int)+q6).toNat (w ((1:Int)+(q6.tmod (9:Int))))) else none) else some ((0:Int),((7:Int),(0:Int),(6:Int)),q9))
def f14_l5 (a0:List Int) (y2:tV×Int) (n:Nat) (q6 q7 q8:Int) (q9:List Int):Option (Int×tL×List Int) :=
  iter (X:=Int×Int×Int×List Int) (fun L x=>f14_b5 K a0 y2 (fun v0 v1 v2 v3=>L (v0,v1,v2,v3)) x.1 x.2.1 x.2.2.1 x.2.2.2) n (q6,q7,q8,q9)
def f14_g (a0:List Int) (I5:(tV×Int)→Int→Int→Int→(List Int)→Option (Int×tL×List Int)):Option (Int×tL×List Int) :=
  (f38G K a0).bind fun y1=>(f39G K (a0,y1) (20:Int)).bind fun y2=>(bif (y2.2==(0:Int)) then (bif (decide (0≤(42:Int))&&Nat.ble 42 (lim 8)&&((42:Int)==(42:Int))) then I5 y2 (0:Int) y2.1.1 y2.1.2 (List.replicate 42 (0:Int)) else none) else (f40G K (a0,y2.1)).bind fun y11=>some y11.2)
def f14G (a0:List Int):Option (Int×tL×List Int) :=
  f14_g K a0 (fun c0 d0 d1 d2 d3=>f14_l5 K a0 c0 K d0 d1 d2 d3)
def f14M:Mdl:=⟨[(.ro,(.list 5 (.int .u8)))],[(.cons sI (.cons sL (.list 2 sI)))],fun x=>f14G K x.1⟩
def f14_k5 (a0:List Int) (lr:LR (Int×tL×List Int)):Ex→Fr→Option (Int×tL×List Int) :=
  contC (f14E K) 1 lr f14C [1,1,0,1,0,1,1,0,1,0] (fM (f14E K) Tryz.f14 (f14M K) (a0,()))
def f14_j5 (a0:List Int) (lr:LR (Int×tL×List Int)) (y2:tV×Int) (bq6 bq7 bq8:Int) (bq9:List Int):Option (Int×tL×List Int) :=
  lr (selC f14C [1,1,0,1,0,1,1,0,1,0,0]) (f14_fr5 a0 y2 bq6 bq7 bq8 bq9) (f14_k5 K a0 lr)
def f5E:Env:=eE K [(14,f14M K)] [0,2]
def f5G (a0:List Int):Option (Int×tL×List Int) :=
  (f14G K a0).bind fun y1=>some y1
def f5M:Mdl:=⟨[(.ro,(.list 5 (.int .u8)))],[(.cons sI (.cons sL (.list 2 sI)))],fun x=>f5G K x.1⟩
def f91E:Env:=eE K [] [0,1,2,6]
def f91G (K:Nat) (a0 a1 a2:Int):Option Bool :=
  some (bif (decide (a0≥a1)) then (decide (a0≤a2)) else false)
def f91M:Mdl:=⟨[(.ro,sI),(.ro,sI),(.ro,sI)],[.bool],fun x=>f91G K x.1 x.2.1 x.2.2.1⟩
def f41E:Env:=eE K [(91,f91M K)] [0,2]
def f41G (a0:Int):Option Bool :=
  (f91G K a0 (0:Int) (1:Int)).bind fun y1=>some y1
def f41M:Mdl:=⟨[(.ro,sI)],[.bool],fun x=>f41G K x.1⟩
def f43E:Env:=eE K [] [0,1,2]
def f43G (K:Nat) (a0:Int×Int×Int):Option Int :=
  some (w (a0.1*a0.2.2))
def f43M:Mdl:=⟨[(.ro,sL)],[sI],fun x=>f43G K x.1⟩
def f42E:Env:=eE K [(43,f43M K),(91,f91M K)] [0,1,2]
def f42G (a0:Int×Int×Int):Option Bool :=
  (f91G K a0.1 (1:Int) (64:Int)).bind fun y1=>((bif y1 then f91G K a0.2.2 (1:Int) (64:Int) else some false)).bind fun y2=>((bif (bif y1 then y2 else false) then f91G K a0.2.1 (0:Int) (w (a0.1-(1:Int))) else some false)).bind fun y3=>((bif (bif (bif y1 then y2 else false) then y3 else false) then f43G K a0 else some (0:Int))).bind fun y4=>some (bif (bif (bif y1 then y2 else false) then y3 else false) then (decide (y4≤(64:Int))) else false)
def f42M:Mdl:=⟨[(.ro,sL)],[.bool],fun x=>f42G K x.1⟩
def f93E:Env:=eE K [(91,f91M K)] [0,1,2,4]
def f93G (a0 a1 a2:Int):Option Bool :=
  (f91G K a0 a1 a2).bind fun y1=>some (!y1)
def f93M:Mdl:=⟨[(.ro,sI),(.cap,sI),(.cap,sI)],[.bool],fun x=>f93G K x.1 x.2.1 x.2.2.1⟩
def f154E:Env:=eE K [] [0,1,4,5,7,8,9,16]
def f154_b3 (K:Nat) (a0:List Int) (a1:(Int→Option Bool)) (L3:Int→Option Int) (q4:Int):Option Int :=
  (bif (decide (q4<(a0.length:Int))) then (bif (decide (0≤q4)&&decide (q4<(a0.length:Int))) then (a1 (a0.getD ((0:Int)+q4).toNat (0:Int))).bind fun y5=>(bif y5 then some q4 else L3 (w (q4+(1:Int)))) else none) else some (-1:Int))
def f154_l3 (a0:List Int) (a1:(Int→Option Bool)) (n:Nat) (q4:Int):Option Int :=
  iter (X:=Int) (fun L x=>f154_b3 K a0 a1 (fun v0=>L v0) x) n q4
def f154_g (K:Nat) (a0:List Int) (a1:(Int→Option Bool)) (I3:Int→Option Int):Option Int :=
  I3 (0:Int)
def f154G (a0:List Int) (a1:(Int→Option Bool)):Option Int :=
  f154_g K a0 a1 (fun d0=>f154_l3 K a0 a1 K d0)
def f154M:Mdl:=⟨[(.ro,(.list 2 sI)),(.ro,(.fn1 sI .bool))],[sI],fun x=>f154G K x.1 x.2.1⟩
def f154_k3 (a0:List Int) (a1:(Int→Option Bool)) (lr:LR Int):Ex→Fr→Option Int :=
  contC (f154E K) 1 lr f154C [1,0,1,0] (fM (f154E K) Tryz.f154 (f154M K) (a0,a1,()))
def f154_j3 (a0:List Int) (a1:(Int→Option Bool)) (lr:LR Int) (bq4:Int):Option Int :=
  lr (selC f154C [1,0,1,0,0]) (f154_fr3 a0 a1 bq4) (f154_k3 K a0 a1 lr)
def f92E:Env:=eE K [(154,f154M K)] [0,1,4]
def f92G (a0:List Int) (a1:(Int→Option Bool)):Option Bool :=
  (f154G K a0 a1).bind fun y1=>some (decide (y1≥(0:Int)))
def f92M:Mdl:=⟨[(.ro,(.list 2 sI)),(.ro,(.fn1 sI .bool))],[.bool],fun x=>f92G K x.1 x.2.1⟩
def f44E:Env:=⟨[(92,f92M K),(93,f93M K)],tys,eqs,mts,K,[0,1,2,4,5,6],[],[],[],[],[(93,f93M K)],[],false⟩
def f44G (a0:List Int) (a1 a2:Int):Option Bool :=
  (f92G K a0 (fun z1=>f93G K z1 a1 a2)).bind fun y2=>some (!y2)
def f44M:Mdl:=⟨[(.ro,(.list 2 sI)),(.ro,sI),(.ro,sI)],[.bool],fun x=>f44G K x.1 x.2.1 x.2.2.1⟩
def f15E:Env:=eE K [(41,f41M K),(42,f42M K),(43,f43M K),(44,f44M K)] [0,1,2]
def f15G (a0:Int×tL×List Int):Option Bool :=
  (f41G K a0.1).bind fun y1=>((bif y1 then f42G K a0.2.1 else some false)).bind fun y2=>((bif (bif y1 then y2 else false) then f43G K a0.2.1 else some (0:Int))).bind fun y3=>((bif (bif (bif y1 then y2 else false) then ((a0.2.2.length:Int)==y3) else false) then f44G K a0.2.2 (0:Int) (9:Int) else some false)).bind fun y4=>some (bif (bif (bif y1 then y2 else false) then ((a0.2.2.length:Int)==y3) else false) then y4 else false)
def f15M:Mdl:=⟨[(.ro,(.cons sI (.cons sL (.list 2 sI))))],[.bool],fun x=>f15G K x.1⟩
def f94E:Env:=eE K [] [0,1,2,3]
def f94G (K:Nat) (a0:Int×Int×Int):Option (tV×Int×Int) :=
  some ((a0.1,(0:Int)),a0.2)
def f94M:Mdl:=⟨[(.ro,sL)],[sV,sV],fun x=>f94G K x.1⟩
def f54E:Env:=eE K [] [0,1,2,3,4,5,8,9,10,13,14,15]
def f54_b9 (K:Nat) (a0:Int×Int×Int) (q7:Int) (L6 L9:Int→(List tV)→Option (List tV)) (q10:Int) (q11:List tV):Option (List tV) :=
  (bif (decide (q10<a0.2.2)) then (bif (Nat.ble (q11.length+[(q7,q10)].length) (lim 16)) then L9 (w (q10+(1:Int))) (q11++[(q7,q10)]) else none) else L6 (w (q7+(1:Int))) q11)
def f54_l9 (a0:Int×Int×Int) (q7:Int) (L6:Int→(List tV)→Option (List tV)) (n:Nat) (q10:Int) (q11:List tV):Option (List tV) :=
  iter (X:=Int×List tV) (fun L x=>f54_b9 K a0 q7 L6 (fun v0 v1=>L (v0,v1)) x.1 x.2) n (q10,q11)
def f54_b6 (K:Nat) (a0:Int×Int×Int) (I9:Int→Int→(List tV)→Option (List tV)) (L6:Int→(List tV)→Option (List tV)) (q7:Int) (q8:List tV):Option (List tV) :=
  (bif (decide (q7<a0.1)) then I9 q7 (0:Int) q8 else some q8)
def f54_l6 (a0:Int×Int×Int) (n:Nat) (q7:Int) (q8:List tV):Option (List tV) :=
  iter (X:=Int×List tV) (fun L x=>(fun L6=>f54_b6 K a0 (fun c0 d0 d1=>f54_l9 K a0 c0 L6 K d0 d1) L6 x.1 x.2) (fun v0 v1=>L (v0,v1))) n (q7,q8)
def f54_g (K:Nat) (a0:Int×Int×Int) (I6:Int→(List tV)→Option (List tV)):Option (List tV) :=
  I6 (0:Int) []
def f54G (a0:Int×Int×Int):Option (List tV) :=
  f54_g K a0 (fun d0 d1=>f54_l6 K a0 K d0 d1)
def f54M:Mdl:=⟨[(.ro,sL)],[(.list 50 sV)],fun x=>f54G K x.1⟩
def f54_k6 (a0:Int×Int×Int) (lr:LR (List tV)):Ex→Fr→Option (List tV) :=
  contC (f54E K) 0 lr f54C [1,1,0,1,0] (fM (f54E K) Tryz.f54 (f54M K) (a0,()))
def f54_j6 (a0:Int×Int×Int) (lr:LR (List tV)) (bq7:Int) (bq8:List tV):Option (List tV) :=
  lr (selC f54C [1,1,0,1,0,0]) (f54_fr6 a0 bq7 bq8) (f54_k6 K a0 lr)
def f54_k9 (a0:Int×Int×Int) (F6:Fr→Option (List tV)) (bq7:Int) (bq8:List tV) (lr:LR (List tV)):Ex→Fr→Option (List tV) :=
  contC (f54E K) 0 lr (selC f54C [1,1,0,1,0,0]) [1,1,0,0,1,1,0] (loopK 0 (f54_fr6 a0 bq7 bq8) F6 (f54_k6 K a0 lr))
def f54_j9 (a0:Int×Int×Int) (F6:Fr→Option (List tV)) (bq7:Int) (bq8:List tV) (lr:LR (List tV)) (q7 bq10:Int) (bq11:List tV):Option (List tV) :=
  lr (selC f54C [1,1,0,1,0,0,1,1,0,0,1,1,0,0]) (f54_fr9 a0 q7 bq10 bq11) (f54_k9 K a0 F6 bq7 bq8 lr)
def f48E:Env:=eE K [] [0]
def f48G (K:Nat):Option tA :=
  some ((1:Int),(0:Int),(0:Int),(1:Int))
def f48M:Mdl:=⟨[],[sA],fun x=>f48G K ⟩
def f99E:Env:=eE K [] [0,1,2,3,4]
def f99G (K:Nat) (a0:Int×Int×Int×Int) (a1:Int×Int):Option tV :=
  some ((w ((w (a0.1*a1.1))+(w (a0.2.1*a1.2)))),(w ((w (a0.2.2.1*a1.1))+(w (a0.2.2.2*a1.2)))))
def f99M:Mdl:=⟨[(.ro,sA),(.ro,sV)],[sV],fun x=>f99G K x.1 x.2.1⟩
def f100E:Env:=eE K [] [0,1,2,3,4]
def f100G (K:Nat) (a0 a1:Int×Int):Option tV :=
  some ((w (a0.1+a1.1)),(w (a0.2+a1.2)))
def f100M:Mdl:=⟨[(.ro,sV),(.ro,sV)],[sV],fun x=>f100G K x.1 x.2.1⟩
def f109E:Env:=eE K [(99,f99M K),(100,f100M K)] [0,1,2,3,4]
def f109G (a0:tA×Int×Int) (a1:Int×Int):Option tV :=
  (f99G K a0.1 a1).bind fun y1=>(f100G K y1 a0.2).bind fun y2=>some y2
def f109M:Mdl:=⟨[(.ro,sM),(.ro,sV)],[sV],fun x=>f109G K x.1 x.2.1⟩
def f157E:Env:=eE K [] [0,1,4]
def f157G (K:Nat) (a0 a1:Int):Option Int :=
  (bif (a1 != 0) then (bif (a1 != 0) then some ((w ((a0.tmod a1)+a1)).tmod a1) else none) else none)
def f157M:Mdl:=⟨[(.ro,sI),(.ro,sI)],[sI],fun x=>f157G K x.1 x.2.1⟩
def f97E:Env:=eE K [(157,f157M K)] [0,1,2,3,4,5]
def f97G (a0:Int×Int×Int) (a1:Int×Int):Option tV :=
  (f157G K a1.2 a0.2.2).bind fun y1=>(bif (a0.2.2 != 0) then (f157G K (w (a1.1-(w ((w ((w (a1.2-y1)).tdiv a0.2.2))*a0.2.1)))) a0.1).bind fun y2=>some (y2,y1) else none)
def f97M:Mdl:=⟨[(.ro,sL),(.ro,sV)],[sV],fun x=>f97G K x.1 x.2.1⟩
def f61E:Env:=eE K [] [0,1,2,3,4]
def f61G (K:Nat) (a0:Int×Int×Int) (a1:Int×Int):Option Int :=
  some (w ((w (a1.1*a0.2.2))+a1.2))
def f61M:Mdl:=⟨[(.ro,sL),(.ro,sV)],[sI],fun x=>f61G K x.1 x.2.1⟩
def f63E:Env:=eE K [(61,f61M K),(97,f97M K)] [0,1,2,3,4]
def f63G (a0:Int×tL×List Int) (a1:Int×Int):Option Int :=
  (f97G K a0.2.1 a1).bind fun y1=>(f61G K a0.2.1 y1).bind fun y2=>(bif (decide (0≤y2)&&decide (y2<(a0.2.2.length:Int))) then some (a0.2.2.getD ((0:Int)+y2).toNat (0:Int)) else none)
def f63M:Mdl:=⟨[(.ro,(.cons sI (.cons sL (.list 2 sI)))),(.ro,sV)],[sI],fun x=>f63G K x.1 x.2.1⟩
def f55E:Env:=eE K [(54,f54M K),(63,f63M K),(109,f109M K)] [0,1,2,3,4,5,6,9,10,11,12,26]
def f55_b5 (a0:Int×tL×List Int) (a1:tA×Int×Int) (y1:List tV) (L5:Int→Option Bool) (q6:Int):Option Bool :=
  (bif (decide (q6<(y1.length:Int))) then (bif (decide (0≤q6)&&decide (q6<(y1.length:Int))) then (f109G K a1 (y1.getD ((0:Int)+q6).toNat ((0:Int),(0:Int)))).bind fun y7=>(f63G K a0 y7).bind fun y8=>(bif (decide (0≤q6)&&decide (q6<(a0.2.2.length:Int))) then (bif (y8 != (a0.2.2.getD ((0:Int)+q6).toNat (0:Int))) then some false else L5 (w (q6+(1:Int)))) else none) else none) else some true)
def f55_l5 (a0:Int×tL×List Int) (a1:tA×Int×Int) (y1:List tV) (n:Nat) (q6:Int):Option Bool :=
  iter (X:=Int) (fun L x=>f55_b5 K a0 a1 y1 (fun v0=>L v0) x) n q6
def f55_g (a0:Int×tL×List Int) (a1:tA×Int×Int) (I5:(List tV)→Int→Option Bool):Option Bool :=
  (f54G K a0.2.1).bind fun y1=>I5 y1 (0:Int)
def f55G (a0:Int×tL×List Int) (a1:tA×Int×Int):Option Bool :=
  f55_g K a0 a1 (fun c0 d0=>f55_l5 K a0 a1 c0 K d0)
def f55M:Mdl:=⟨[(.ro,(.cons sI (.cons sL (.list 2 sI)))),(.ro,sM)],[.bool],fun x=>f55G K x.1 x.2.1⟩
def f55_k5 (a0:Int×tL×List Int) (a1:tA×Int×Int) (lr:LR Bool):Ex→Fr→Option Bool :=
  contC (f55E K) 1 lr f55C [1,0,1,0] (fM (f55E K) Tryz.f55 (f55M K) (a0,a1,()))
def f55_j5 (a0:Int×tL×List Int) (a1:tA×Int×Int) (lr:LR Bool) (y1:List tV) (bq6:Int):Option Bool :=
  lr (selC f55C [1,0,1,0,0]) (f55_fr5 a0 a1 y1 bq6) (f55_k5 K a0 a1 lr)
def f155E:Env:=eE K [] [0,1,2,4]
def f155G (K:Nat) (a0:Int×Int) (a1:Int):Option tV :=
  some ((w (a1*a0.1)),(w (a1*a0.2)))
def f155M:Mdl:=⟨[(.ro,sV),(.ro,sI)],[sV],fun x=>f155G K x.1 x.2.1⟩
def f156E:Env:=eE K [] [0,1,4,6]
def f156_b2 (K:Nat) (L2:Int→Int→Option Int) (q3 q4:Int):Option Int :=
  (bif (q4 != (0:Int)) then (bif (q4 != 0) then L2 q4 (q3.tmod q4) else none) else some (if (w (0-q3))>q3 then (w (0-q3)) else q3))
def f156_l2 (n:Nat) (q3 q4:Int):Option Int :=
  iter (X:=Int×Int) (fun L x=>f156_b2 K (fun v0 v1=>L (v0,v1)) x.1 x.2) n (q3,q4)
def f156_g (K:Nat) (a0 a1:Int) (I2:Int→Int→Option Int):Option Int :=
  I2 a0 a1
def f156G (a0 a1:Int):Option Int :=
  f156_g K a0 a1 (fun d0 d1=>f156_l2 K K d0 d1)
def f156M:Mdl:=⟨[(.ro,sI),(.ro,sI)],[sI],fun x=>f156G K x.1 x.2.1⟩
def f156_k2 (a0 a1:Int) (lr:LR Int):Ex→Fr→Option Int :=
  contC (f156E K) 0 lr f156C [1,0,0] (fM (f156E K) Tryz.f156 (f156M K) (a0,a1,()))
def f156_j2 (a0 a1:Int) (lr:LR Int) (bq3 bq4:Int):Option Int :=
  lr (selC f156C [1,0,0,0]) (f156_fr2 bq3 bq4) (f156_k2 K a0 a1 lr)
def f95E:Env:=eE K [(100,f100M K),(155,f155M K),(156,f156M K),(157,f157M K)] [0,2,3,4,6,7,9,10,11,12,17,37]
def f95_b18 (a0:List tV) (q14 q15:Int) (L13 L18:Int→Int→Int→Int→Option tL) (q19 q20 q21 q22:Int):Option tL :=
  (bif (q22 != (0:Int)) then (bif (q22 != 0) then (f155G K (q21,q22) (w (0-(w (q20.tdiv q22))))).bind fun y23=>(f100G K (q19,q20) y23).bind fun y24=>L18 q21 q22 y24.1 y24.2 else none) else (f156G K q14 q21).bind fun y25=>L13 y25 (w (q15+(1:Int))) q19 q20)
def f95_l18 (a0:List tV) (q14 q15:Int) (L13:Int→Int→Int→Int→Option tL) (n:Nat) (q19 q20 q21 q22:Int):Option tL :=
  iter (X:=Int×Int×Int×Int) (fun L x=>f95_b18 K a0 q14 q15 L13 (fun v0 v1 v2 v3=>L (v0,v1,v2,v3)) x.1 x.2.1 x.2.2.1 x.2.2.2) n (q19,q20,q21,q22)
def f95_b13 (a0:List tV) (I18:Int→Int→Int→Int→Int→Int→Option tL) (L13:Int→Int→Int→Int→Option tL) (q14 q15 q16 q17:Int):Option tL :=
  (bif (decide (q15<(a0.length:Int))) then (bif (decide (0≤q15)&&decide (q15<(a0.length:Int))) then I18 q14 q15 q16 q17 ((a0.getD ((0:Int)+q15).toNat ((0:Int),(0:Int))).1) ((a0.getD ((0:Int)+q15).toNat ((0:Int),(0:Int))).2) else none) else (bif (decide (q17<(0:Int))) then (f155G K (q16,q17) (-1:Int)).bind fun y26=>(f157G K y26.1 q14).bind fun y27=>some (q14,y27,y26.2) else (f157G K q16 q14).bind fun y28=>some (q14,y28,q17)))
def f95_l13 (a0:List tV) (n:Nat) (q14 q15 q16 q17:Int):Option tL :=
  iter (X:=Int×Int×Int×Int) (fun L x=>(fun L13=>f95_b13 K a0 (fun c0 c1 d0 d1 d2 d3=>f95_l18 K a0 c0 c1 L13 K d0 d1 d2 d3) L13 x.1 x.2.1 x.2.2.1 x.2.2.2) (fun v0 v1 v2 v3=>L (v0,v1,v2,v3))) n (q14,q15,q16,q17)
def f95_g (K:Nat) (a0:List tV) (I13:Int→Int→Int→Int→Option tL):Option tL :=
  I13 (0:Int) (0:Int) (0:Int) (0:Int)
def f95G (a0:List tV):Option tL :=
  f95_g K a0 (fun d0 d1 d2 d3=>f95_l13 K a0 K d0 d1 d2 d3)
def f95M:Mdl:=⟨[(.ro,(.list 50 sV))],[sL],fun x=>f95G K x.1⟩
def f95_k13 (a0:List tV) (lr:LR tL):Ex→Fr→Option tL :=
  contC (f95E K) 1 lr f95C [1,1,0,1,0] (fM (f95E K) Tryz.f95 (f95M K) (a0,()))
def f95_j13 (a0:List tV) (lr:LR tL) (bq14 bq15 bq16 bq17:Int):Option tL :=
  lr (selC f95C [1,1,0,1,0,0]) (f95_fr13 a0 bq14 bq15 bq16 bq17) (f95_k13 K a0 lr)
def f95_k18 (a0:List tV) (F13:Fr→Option tL) (bq14 bq15 bq16 bq17:Int) (lr:LR tL):Ex→Fr→Option tL :=
  contC (f95E K) 1 lr (selC f95C [1,1,0,1,0,0]) [1,1,0,0,1,0,0] (loopK 1 (f95_fr13 a0 bq14 bq15 bq16 bq17) F13 (f95_k13 K a0 lr))
def f95_j18 (a0:List tV) (F13:Fr→Option tL) (bq14 bq15 bq16 bq17:Int) (lr:LR tL) (q14 q15 bq19 bq20 bq21 bq22:Int):Option tL :=
  lr (selC f95C [1,1,0,1,0,0,1,1,0,0,1,0,0,0]) (f95_fr18 a0 q14 q15 bq19 bq20 bq21 bq22) (f95_k18 K a0 F13 bq14 bq15 bq16 bq17 lr)
def f46E:Env:=eE K [(48,f48M K),(54,f54M K),(55,f55M K),(94,f94M K),(95,f95M K)] [0,1,2,3,4,5,7,19,20,21,22,29]
def f46_b6 (a0:Int×tL×List Int) (y1:tV×Int×Int) (y2:List tV) (L6:Int→(List tV)→Option tL) (q7:Int) (q8:List tV):Option tL :=
  (bif (decide (q7<(y2.length:Int))) then (bif (decide (0≤q7)&&decide (q7<(y2.length:Int))) then (f48G K).bind fun y9=>(f55G K a0 (y9,(y2.getD ((0:Int)+q7).toNat ((0:Int),(0:Int))))).bind fun y10=>(bif y10 then (bif (Nat.ble (q8.length+[(y2.getD ((0:Int)+q7).toNat ((0:Int),(0:Int)))].length) (lim 16)) then L6 (w (q7+(1:Int))) (q8++[(y2.getD ((0:Int)+q7).toNat ((0:Int),(0:Int)))]) else none) else L6 (w (q7+(1:Int))) q8) else none) else (f95G K q8).bind fun y11=>some y11)
def f46_l6 (a0:Int×tL×List Int) (y1:tV×Int×Int) (y2:List tV) (n:Nat) (q7:Int) (q8:List tV):Option tL :=
  iter (X:=Int×List tV) (fun L x=>f46_b6 K a0 y1 y2 (fun v0 v1=>L (v0,v1)) x.1 x.2) n (q7,q8)
def f46_g (a0:Int×tL×List Int) (I6:(tV×Int×Int)→(List tV)→Int→(List tV)→Option tL):Option tL :=
  (f94G K a0.2.1).bind fun y1=>(f54G K a0.2.1).bind fun y2=>I6 y1 y2 (0:Int) [y1.1,y1.2]
def f46G (a0:Int×tL×List Int):Option tL :=
  f46_g K a0 (fun c0 c1 d0 d1=>f46_l6 K a0 c0 c1 K d0 d1)
def f46M:Mdl:=⟨[(.ro,(.cons sI (.cons sL (.list 2 sI))))],[sL],fun x=>f46G K x.1⟩
def f46_k6 (a0:Int×tL×List Int) (lr:LR tL):Ex→Fr→Option tL :=
  contC (f46E K) 1 lr f46C [1,1,1,0,1,0] (fM (f46E K) Tryz.f46 (f46M K) (a0,()))
def f46_j6 (a0:Int×tL×List Int) (lr:LR tL) (y1:tV×Int×Int) (y2:List tV) (bq7:Int) (bq8:List tV):Option tL :=
  lr (selC f46C [1,1,1,0,1,0,0]) (f46_fr6 a0 y1 y2 bq7 bq8) (f46_k6 K a0 lr)
def f45E:Env:=eE K [(54,f54M K),(63,f63M K)] [0,1,2,3,4,5,7,13,14,15,16]
def f45_b4 (a0:Int×tL×List Int) (a1:Int×Int×Int) (y1:List tV) (L4:Int→(List Int)→Option (Int×tL×List Int)) (q5:Int) (q6:List Int):Option (Int×tL×List Int) :=
  (bif (decide (q5<(y1.length:Int))) then (bif (decide (0≤q5)&&decide (q5<(y1.length:Int))) then (f63G K a0 (y1.getD ((0:Int)+q5).toNat ((0:Int),(0:Int)))).bind fun y7=>(bif (Nat.ble (q6.length+[y7].length) (lim 8)) then L4 (w (q5+(1:Int))) (q6++[y7]) else none) else none) else some (a0.1,a1,q6))
def f45_l4 (a0:Int×tL×List Int) (a1:Int×Int×Int) (y1:List tV) (n:Nat) (q5:Int) (q6:List Int):Option (Int×tL×List Int) :=
  iter (X:=Int×List Int) (fun L x=>f45_b4 K a0 a1 y1 (fun v0 v1=>L (v0,v1)) x.1 x.2) n (q5,q6)
def f45_g (a0:Int×tL×List Int) (a1:Int×Int×Int) (I4:(List tV)→Int→(List Int)→Option (Int×tL×List Int)):Option (Int×tL×List Int) :=
  (f54G K a1).bind fun y1=>I4 y1 (0:Int) []
def f45G (a0:Int×tL×List Int) (a1:Int×Int×Int):Option (Int×tL×List Int) :=
  f45_g K a0 a1 (fun c0 d0 d1=>f45_l4 K a0 a1 c0 K d0 d1)
def f45M:Mdl:=⟨[(.ro,(.cons sI (.cons sL (.list 2 sI)))),(.ro,sL)],[(.cons sI (.cons sL (.list 2 sI)))],fun x=>f45G K x.1 x.2.1⟩
def f45_k4 (a0:Int×tL×List Int) (a1:Int×Int×Int) (lr:LR (Int×tL×List Int)):Ex→Fr→Option (Int×tL×List Int) :=
  contC (f45E K) 1 lr f45C [1,1,0,1,0] (fM (f45E K) Tryz.f45 (f45M K) (a0,a1,()))
def f45_j4 (a0:Int×tL×List Int) (a1:Int×Int×Int) (lr:LR (Int×tL×List Int)) (y1:List tV) (bq5:Int) (bq6:List Int):Option (Int×tL×List Int) :=
  lr (selC f45C [1,1,0,1,0,0]) (f45_fr4 a0 a1 y1 bq5 bq6) (f45_k4 K a0 a1 lr)
def f16E:Env:=eE K [(45,f45M K),(46,f46M K)] [0,1,2]
def f16G (a0:Int×tL×List Int):Option (Int×tL×List Int) :=
  (f46G K a0).bind fun y1=>(f45G K a0 y1).bind fun y2=>some y2
def f16M:Mdl:=⟨[(.ro,(.cons sI (.cons sL (.list 2 sI))))],[(.cons sI (.cons sL (.list 2 sI)))],fun x=>f16G K x.1⟩
omit K
def f117G (K:Nat) (a0 a1:Int):Option ByteArray:=fmtF a0 a1
def f117M (K:Nat):Mdl:=⟨[(.ro,sI),(.ro,sI)],[.str],fun x=>f117G K x.1 x.2.1⟩
include K
def f64E:Env:=eE K [(117,f117M K)] [0,2]
def f64G (a0:Int):Option ByteArray :=
  (f117G K a0 (10:Int)).bind fun y1=>some y1
def f64M:Mdl:=⟨[(.ro,sI)],[.str],fun x=>f64G K x.1⟩
omit K
def f158G (K:Nat) (a0:List ByteArray) (a1:ByteArray):Option ByteArray:=joinF a0 a1
def f158M (K:Nat):Mdl:=⟨[(.mv,(.list 9 .str)),(.ro,.str)],[.str],fun x=>f158G K x.1 x.2.1⟩
include K
def f96E:Env:=eE K [(64,f64M K),(158,f158M K)] [0,1,4,5,7,9,10,11,12]
def f96_b3 (a0:ByteArray) (a1:List Int) (L3:Int→(List ByteArray)→Option ByteArray) (q4:Int) (q5:List ByteArray):Option ByteArray :=
  (bif (decide (q4<(a1.length:Int))) then (bif (decide (0≤q4)&&decide (q4<(a1.length:Int))) then (f64G K (a1.getD ((0:Int)+q4).toNat (0:Int))).bind fun y6=>(bif (Nat.ble (q5.length+[y6].length) (lim 16)) then L3 (w (q4+(1:Int))) (q5++[y6]) else none) else none) else (f158G K q5 a0).bind fun y7=>some y7)
def f96_l3 (a0:ByteArray) (a1:List Int) (n:Nat) (q4:Int) (q5:List ByteArray):Option ByteArray :=
  iter (X:=Int×List ByteArray) (fun L x=>f96_b3 K a0 a1 (fun v0 v1=>L (v0,v1)) x.1 x.2) n (q4,q5)
def f96_g (K:Nat) (a0:ByteArray) (a1:List Int) (I3:Int→(List ByteArray)→Option ByteArray):Option ByteArray :=
  I3 (0:Int) []
def f96G (a0:ByteArray) (a1:List Int):Option ByteArray :=
  f96_g K a0 a1 (fun d0 d1=>f96_l3 K a0 a1 K d0 d1)
def f96M:Mdl:=⟨[(.ro,.str),(.ro,(.list 2 sI))],[.str],fun x=>f96G K x.1 x.2.1⟩
def f96_k3 (a0:ByteArray) (a1:List Int) (lr:LR ByteArray):Ex→Fr→Option ByteArray :=
  contC (f96E K) 1 lr f96C [1,1,0,1,0] (fM (f96E K) Tryz.f96 (f96M K) (a0,a1,()))
def f96_j3 (a0:ByteArray) (a1:List Int) (lr:LR ByteArray) (bq4:Int) (bq5:List ByteArray):Option ByteArray :=
  lr (selC f96C [1,1,0,1,0,0]) (f96_fr3 a0 a1 bq4 bq5) (f96_k3 K a0 a1 lr)
def f47E:Env:=eE K [(42,f42M K),(96,f96M K)] [0,1,2,5]
def f47G (a0:Int×Int×Int):Option ByteArray :=
  (f42G K a0).bind fun y1=>(bif (!y1) then some ByteArray.empty else (f96G K (bs [44]) [a0.1,a0.2.1,a0.2.2]).bind fun y2=>some y2)
def f47M:Mdl:=⟨[(.ro,sL)],[.str],fun x=>f47G K x.1⟩
def f17E:Env:=eE K [(47,f47M K)] [0,1,2]
def f17G (a0:Int×tL×List Int):Option ByteArray :=
  (bif (decide (0≤a0.1)&&decide (a0.1≤(w (a0.1+(1:Int))))&&decide ((w (a0.1+(1:Int)))≤((bs [83,72]).size:Int))) then (bif (Nat.ble ((bs [102,114,97,109,101,32]).size+((bs [83,72]).extract a0.1.toNat (w (a0.1+(1:Int))).toNat).size) 9223372036854775807) then (bif (Nat.ble (((bs [102,114,97,109,101,32])++((bs [83,72]).extract a0.1.toNat (w (a0.1+(1:Int))).toNat)).size+(bs [10,108,97,116,116,105,99,101,32]).size) 9223372036854775807) then (f47G K a0.2.1).bind fun y1=>(bif (Nat.ble ((((bs [102,114,97,109,101,32])++((bs [83,72]).extract a0.1.toNat (w (a0.1+(1:Int))).toNat))++(bs [10,108,97,116,116,105,99,101,32])).size+y1.size) 9223372036854775807) then (bif (Nat.ble (((((bs [102,114,97,109,101,32])++((bs [83,72]).extract a0.1.toNat (w (a0.1+(1:Int))).toNat))++(bs [10,108,97,116,116,105,99,101,32]))++y1).size+(bs [10]).size) 9223372036854775807) then some (((((bs [102,114,97,109,101,32])++((bs [83,72]).extract a0.1.toNat (w (a0.1+(1:Int))).toNat))++(bs [10,108,97,116,116,105,99,101,32]))++y1)++(bs [10])) else none) else none) else none) else none) else none)
def f17M:Mdl:=⟨[(.ro,(.cons sI (.cons sL (.list 2 sI))))],[.str],fun x=>f17G K x.1⟩
def f98E:Env:=eE K [] [0,1,2,3,4]
def f98G (K:Nat) (a0 a1:Int×Int×Int×Int):Option tA :=
  some ((w ((w (a0.1*a1.1))+(w (a0.2.1*a1.2.2.1)))),(w ((w (a0.1*a1.2.1))+(w (a0.2.1*a1.2.2.2)))),(w ((w (a0.2.2.1*a1.1))+(w (a0.2.2.2*a1.2.2.1)))),(w ((w (a0.2.2.1*a1.2.1))+(w (a0.2.2.2*a1.2.2.2)))))
def f98M:Mdl:=⟨[(.ro,sA),(.ro,sA)],[sA],fun x=>f98G K x.1 x.2.1⟩
def f50E:Env:=eE K [(98,f98M K),(99,f99M K),(100,f100M K)] [0,1,2,3,4]
def f50G (a0 a1:tA×Int×Int):Option tM :=
  (f98G K a0.1 a1.1).bind fun y1=>(f99G K a0.1 a1.2).bind fun y2=>(f100G K y2 a0.2).bind fun y3=>some (y1,y3)
def f50M:Mdl:=⟨[(.ro,sM),(.ro,sM)],[sM],fun x=>f50G K x.1 x.2.1⟩
def f49E:Env:=eE K [(97,f97M K)] [0,1,2,3,4]
def f49G (a0:Int×Int×Int) (a1:tA×Int×Int):Option tM :=
  (f97G K a0 a1.2).bind fun y1=>some (a1.1,y1)
def f49M:Mdl:=⟨[(.ro,sL),(.ro,sM)],[sM],fun x=>f49G K x.1 x.2.1⟩
def f169E:Env:=eE K [] [0,1,4,5,7,8,9,19,28]
def f169_b2 (K:Nat) (a0 a1:List Int) (L2:Int→Option Int) (q3:Int):Option Int :=
  (bif (decide (q3<(a0.length:Int))) then (bif (decide (0≤q3)&&decide (q3<(a0.length:Int))) then (bif (decide (0≤q3)&&decide (q3<(a1.length:Int))) then (bif ((a0.getD ((0:Int)+q3).toNat (0:Int)) != (a1.getD ((0:Int)+q3).toNat (0:Int))) then (bif (decide (0≤q3)&&decide (q3<(a0.length:Int))) then (bif (decide (0≤q3)&&decide (q3<(a1.length:Int))) then (bif (decide ((a0.getD ((0:Int)+q3).toNat (0:Int))<(a1.getD ((0:Int)+q3).toNat (0:Int)))) then some (-1:Int) else some (1:Int)) else none) else none) else L2 (w (q3+(1:Int)))) else none) else none) else some (0:Int))
def f169_l2 (a0 a1:List Int) (n:Nat) (q3:Int):Option Int :=
  iter (X:=Int) (fun L x=>f169_b2 K a0 a1 (fun v0=>L v0) x) n q3
def f169_g (K:Nat) (a0 a1:List Int) (I2:Int→Option Int):Option Int :=
  I2 (0:Int)
def f169G (a0 a1:List Int):Option Int :=
  f169_g K a0 a1 (fun d0=>f169_l2 K a0 a1 K d0)
def f169M:Mdl:=⟨[(.ro,(.list 2 sI)),(.ro,(.list 2 sI))],[sI],fun x=>f169G K x.1 x.2.1⟩
def f169_k2 (a0 a1:List Int) (lr:LR Int):Ex→Fr→Option Int :=
  contC (f169E K) 2 lr f169C [1,0,1,0] (fM (f169E K) Tryz.f169 (f169M K) (a0,a1,()))
def f169_j2 (a0 a1:List Int) (lr:LR Int) (bq3:Int):Option Int :=
  lr (selC f169C [1,0,1,0,0]) (f169_fr2 a0 a1 bq3) (f169_k2 K a0 a1 lr)
def f103E:Env:=eE K [(169,f169M K)] [0,1,2,3,4]
def f103G (a0 a1:Int×Int×Int×Int):Option Int :=
  (f169G K [a0.1,a0.2.1,a0.2.2.1,a0.2.2.2] [a1.1,a1.2.1,a1.2.2.1,a1.2.2.2]).bind fun y1=>some y1
def f103M:Mdl:=⟨[(.ro,sA),(.ro,sA)],[sI],fun x=>f103G K x.1 x.2.1⟩
def f104E:Env:=eE K [(169,f169M K)] [0,1,2,3,4]
def f104G (a0 a1:Int×Int):Option Int :=
  (f169G K [a0.1,a0.2] [a1.1,a1.2]).bind fun y1=>some y1
def f104M:Mdl:=⟨[(.ro,sV),(.ro,sV)],[sI],fun x=>f104G K x.1 x.2.1⟩
def f52E:Env:=eE K [(103,f103M K),(104,f104M K)] [0,1,2,3,4,5,12]
def f52G (a0 a1:tA×Int×Int):Option Int :=
  (f103G K a0.1 a1.1).bind fun y1=>(bif (y1 != (0:Int)) then some y1 else (f104G K a0.2 a1.2).bind fun y2=>some y2)
def f52M:Mdl:=⟨[(.ro,sM),(.ro,sM)],[sI],fun x=>f52G K x.1 x.2.1⟩
omit K
def f51G (K:Nat) (a0:List tM) (a1:tM→tM→Option Int):Option (List tM):=sortF sM a0 a1
def f51M (K:Nat):Mdl:=⟨[(.io,(.list 52 sM)),(.ro,(.fn2 sM sM sI))],[],fun x=>f51G K x.1 x.2.1⟩
include K
def f18E:Env:=⟨[(48,f48M K),(49,f49M K),(50,f50M K),(51,f51M K),(52,f52M K)],tys,eqs,mts,K,[0,1,2,4,5,6,7,9,10,22,25,26,27,28,42],[],[],[],[],[(52,f52M K)],[],false⟩
def f18_b16 (a0:Int×Int×Int) (a1:List tM) (q13:Int) (q15:List tM) (L12:Int→(List (tM×Bool))→(List tM)→Option (List tM)) (L16:Int→(List (tM×Bool))→(List tM)→Option (List tM)) (q17:Int) (q18:List (tM×Bool)) (q19:List tM):Option (List tM) :=
  (bif (decide (q17<(a1.length:Int))) then (bif (decide (0≤q17)&&decide (q17<(a1.length:Int))) then (bif (decide (0≤q13)&&decide (q13<(q19.length:Int))) then (f50G K ((((a1.getD ((0:Int)+q17).toNat zM).1).1,(((a1.getD ((0:Int)+q17).toNat zM).1).2).1,((((a1.getD ((0:Int)+q17).toNat zM).1).2).2)),((a1.getD ((0:Int)+q17).toNat zM).2)) ((((q19.getD ((0:Int)+q13).toNat zM).1).1,(((q19.getD ((0:Int)+q13).toNat zM).1).2).1,((((q19.getD ((0:Int)+q13).toNat zM).1).2).2)),((q19.getD ((0:Int)+q13).toNat zM).2))).bind fun y20=>(f49G K a0 y20).bind fun y21=>(bif (!((mfind (eqSh sM) q18 y21).getD false)) then (bif (Nat.ble (q19.length+[y21].length) (lim 48)) then L16 (w (q17+(1:Int))) (mput (eqSh sM) q18 y21 true) (q19++[y21]) else none) else L16 (w (q17+(1:Int))) q18 q19) else none) else none) else L12 (w (q13+(1:Int))) q18 q19)
def f18_l16 (a0:Int×Int×Int) (a1:List tM) (q13:Int) (q15:List tM) (L12:Int→(List (tM×Bool))→(List tM)→Option (List tM)) (n:Nat) (q17:Int) (q18:List (tM×Bool)) (q19:List tM):Option (List tM) :=
  iter (X:=Int×List (tM×Bool)×List tM) (fun L x=>f18_b16 K a0 a1 q13 q15 L12 (fun v0 v1 v2=>L (v0,v1,v2)) x.1 x.2.1 x.2.2) n (q17,q18,q19)
def f18_b12 (a0:Int×Int×Int) (a1:List tM) (I16:Int→(List tM)→Int→(List (tM×Bool))→(List tM)→Option (List tM)) (L12:Int→(List (tM×Bool))→(List tM)→Option (List tM)) (q13:Int) (q14:List (tM×Bool)) (q15:List tM):Option (List tM) :=
  (bif (decide (q13<(q15.length:Int))) then I16 q13 q15 (0:Int) q14 q15 else (f51G K q15 (fun z22 z23=>f52G K z22 z23)).bind fun y24=>some y24)
def f18_l12 (a0:Int×Int×Int) (a1:List tM) (n:Nat) (q13:Int) (q14:List (tM×Bool)) (q15:List tM):Option (List tM) :=
  iter (X:=Int×List (tM×Bool)×List tM) (fun L x=>(fun L12=>f18_b12 K a0 a1 (fun c0 c1 d0 d1 d2=>f18_l16 K a0 a1 c0 c1 L12 K d0 d1 d2) L12 x.1 x.2.1 x.2.2) (fun v0 v1 v2=>L (v0,v1,v2))) n (q13,q14,q15)
def f18_g (a0:Int×Int×Int) (a1:List tM) (I12:Int→(List (tM×Bool))→(List tM)→Option (List tM)):Option (List tM) :=
  (f48G K).bind fun y1=>(bif (decide (0≤(0:Int))&&decide ((0:Int)<([(y1,(0:Int),(0:Int))].length:Int))) then I12 (0:Int) (mput (eqSh sM) [] (((([(y1,(0:Int),(0:Int))].getD ((0:Int)+(0:Int)).toNat zM).1).1,((([(y1,(0:Int),(0:Int))].getD ((0:Int)+(0:Int)).toNat zM).1).2).1,(((([(y1,(0:Int),(0:Int))].getD ((0:Int)+(0:Int)).toNat zM).1).2).2)),(([(y1,(0:Int),(0:Int))].getD ((0:Int)+(0:Int)).toNat zM).2)) true) [(y1,(0:Int),(0:Int))] else none)
def f18G (a0:Int×Int×Int) (a1:List tM):Option (List tM) :=
  f18_g K a0 a1 (fun d0 d1 d2=>f18_l12 K a0 a1 K d0 d1 d2)
def f18M:Mdl:=⟨[(.ro,sL),(.ro,(.list 52 sM))],[(.list 52 sM)],fun x=>f18G K x.1 x.2.1⟩
def f18_k12 (a0:Int×Int×Int) (a1:List tM) (lr:LR (List tM)):Ex→Fr→Option (List tM) :=
  contC (f18E K) 1 lr f18C [1,1,1,0,1,0] (fM (f18E K) Tryz.f18 (f18M K) (a0,a1,()))
def f18_j12 (a0:Int×Int×Int) (a1:List tM) (lr:LR (List tM)) (bq13:Int) (bq14:List (tM×Bool)) (bq15:List tM):Option (List tM) :=
  lr (selC f18C [1,1,1,0,1,0,0]) (f18_fr12 a0 a1 bq13 bq14 bq15) (f18_k12 K a0 a1 lr)
def f18_k16 (a0:Int×Int×Int) (a1:List tM) (F12:Fr→Option (List tM)) (bq13:Int) (bq14:List (tM×Bool)) (bq15:List tM) (lr:LR (List tM)):Ex→Fr→Option (List tM) :=
  contC (f18E K) 1 lr (selC f18C [1,1,1,0,1,0,0]) [1,0,0,1,0] (loopK 1 (f18_fr12 a0 a1 bq13 bq14 bq15) F12 (f18_k12 K a0 a1 lr))
def f18_j16 (a0:Int×Int×Int) (a1:List tM) (F12:Fr→Option (List tM)) (bq13:Int) (bq14:List (tM×Bool)) (bq15:List tM) (lr:LR (List tM)) (q13:Int) (q15:List tM) (bq17:Int) (bq18:List (tM×Bool)) (bq19:List tM):Option (List tM) :=
  lr (selC f18C [1,1,1,0,1,0,0,1,0,0,1,0,0]) (f18_fr16 a0 a1 q13 q15 bq17 bq18 bq19) (f18_k16 K a0 a1 F12 bq13 bq14 bq15 lr)
def f171E:Env:=eE K [] [0,1,3,4]
def f171G (K:Nat) (a0:Int) (a1:Int×Int):Option Int :=
  some (w ((w ((w (a1.1*a1.1))+(w ((w (a0*a1.1))*a1.2))))+(w (a1.2*a1.2))))
def f171M:Mdl:=⟨[(.ro,sI),(.ro,sV)],[sI],fun x=>f171G K x.1 x.2.1⟩
def f106E:Env:=eE K [(99,f99M K),(171,f171M K)] [0,2,3,4,5,6,7,8,10,11,54]
def f106_b8 (a0:Int) (L8:Int→(List tA)→Option (List tA)) (q9:Int) (q10:List tA):Option (List tA) :=
  (bif (decide (q9<(81:Int))) then (f99G K ((w ((w (q9.tdiv (27:Int)))-(1:Int))),(w (((w (q9.tdiv (9:Int))).tmod (3:Int))-(1:Int))),(w (((w (q9.tdiv (3:Int))).tmod (3:Int))-(1:Int))),(w ((q9.tmod (3:Int))-(1:Int)))) ((1:Int),(0:Int))).bind fun y11=>(f99G K ((w ((w (q9.tdiv (27:Int)))-(1:Int))),(w (((w (q9.tdiv (9:Int))).tmod (3:Int))-(1:Int))),(w (((w (q9.tdiv (3:Int))).tmod (3:Int))-(1:Int))),(w ((q9.tmod (3:Int))-(1:Int)))) ((0:Int),(1:Int))).bind fun y12=>(f99G K ((w ((w (q9.tdiv (27:Int)))-(1:Int))),(w (((w (q9.tdiv (9:Int))).tmod (3:Int))-(1:Int))),(w (((w (q9.tdiv (3:Int))).tmod (3:Int))-(1:Int))),(w ((q9.tmod (3:Int))-(1:Int)))) ((1:Int),(1:Int))).bind fun y13=>(f171G K a0 y11).bind fun y14=>((bif (y14==(1:Int)) then f171G K a0 y12 else some (0:Int))).bind fun y15=>((bif (bif (y14==(1:Int)) then (y15==(1:Int)) else false) then f171G K a0 y13 else some (0:Int))).bind fun y16=>(bif (bif (bif (y14==(1:Int)) then (y15==(1:Int)) else false) then (y16==(w ((2:Int)+a0))) else false) then (bif (Nat.ble (q10.length+[((w ((w (q9.tdiv (27:Int)))-(1:Int))),(w (((w (q9.tdiv (9:Int))).tmod (3:Int))-(1:Int))),(w (((w (q9.tdiv (3:Int))).tmod (3:Int))-(1:Int))),(w ((q9.tmod (3:Int))-(1:Int))))].length) (lim 32)) then L8 (w (q9+(1:Int))) (q10++[((w ((w (q9.tdiv (27:Int)))-(1:Int))),(w (((w (q9.tdiv (9:Int))).tmod (3:Int))-(1:Int))),(w (((w (q9.tdiv (3:Int))).tmod (3:Int))-(1:Int))),(w ((q9.tmod (3:Int))-(1:Int))))]) else none) else L8 (w (q9+(1:Int))) q10) else some q10)
def f106_l8 (a0:Int) (n:Nat) (q9:Int) (q10:List tA):Option (List tA) :=
  iter (X:=Int×List tA) (fun L x=>f106_b8 K a0 (fun v0 v1=>L (v0,v1)) x.1 x.2) n (q9,q10)
def f106_g (K:Nat) (a0:Int) (I8:Int→(List tA)→Option (List tA)):Option (List tA) :=
  I8 (0:Int) []
def f106G (a0:Int):Option (List tA) :=
  f106_g K a0 (fun d0 d1=>f106_l8 K a0 K d0 d1)
def f106M:Mdl:=⟨[(.ro,sI)],[(.list 48 sA)],fun x=>f106G K x.1⟩
def f106_k8 (a0:Int) (lr:LR (List tA)):Ex→Fr→Option (List tA) :=
  contC (f106E K) 0 lr f106C [1,1,0,1,0] (fM (f106E K) Tryz.f106 (f106M K) (a0,()))
def f106_j8 (a0:Int) (lr:LR (List tA)) (bq9:Int) (bq10:List tA):Option (List tA) :=
  lr (selC f106C [1,1,0,1,0,0]) (f106_fr8 a0 bq9 bq10) (f106_k8 K a0 lr)
def f108E:Env:=eE K [(97,f97M K)] [0,1,2,3,4]
def f108G (a0:Int×Int×Int) (a1:Int×Int):Option Bool :=
  (f97G K a0 a1).bind fun y1=>some ((y1.1==(0:Int))&&(y1.2==(0:Int)))
def f108M:Mdl:=⟨[(.ro,sL),(.ro,sV)],[.bool],fun x=>f108G K x.1 x.2.1⟩
def f107E:Env:=eE K [(99,f99M K),(108,f108M K)] [0,1,2,3,4,5]
def f107G (a0:Int×Int×Int×Int) (a1:Int×Int×Int) (a2 a3:Int×Int):Option Bool :=
  (f99G K a0 a2).bind fun y1=>(f108G K a1 y1).bind fun y2=>((bif (!(!y2)) then f99G K a0 a3 else some ((0:Int),(0:Int)))).bind fun y3=>((bif (!(!y2)) then f108G K a1 y3 else some false)).bind fun y4=>some (bif (!y2) then true else (!y4))
def f107M:Mdl:=⟨[(.ro,sA),(.cap,sL),(.cap,sV),(.cap,sV)],[.bool],fun x=>f107G K x.1 x.2.1 x.2.2.1 x.2.2.2.1⟩
def f170E:Env:=eE K [] [0,1,4,5,7,8,9,16]
def f170_b3 (K:Nat) (a0:List tA) (a1:(tA→Option Bool)) (L3:Int→Option Int) (q4:Int):Option Int :=
  (bif (decide (q4<(a0.length:Int))) then (bif (decide (0≤q4)&&decide (q4<(a0.length:Int))) then (a1 ((a0.getD ((0:Int)+q4).toNat zA).1,((a0.getD ((0:Int)+q4).toNat zA).2).1,(((a0.getD ((0:Int)+q4).toNat zA).2).2))).bind fun y5=>(bif y5 then some q4 else L3 (w (q4+(1:Int)))) else none) else some (-1:Int))
def f170_l3 (a0:List tA) (a1:(tA→Option Bool)) (n:Nat) (q4:Int):Option Int :=
  iter (X:=Int) (fun L x=>f170_b3 K a0 a1 (fun v0=>L v0) x) n q4
def f170_g (K:Nat) (a0:List tA) (a1:(tA→Option Bool)) (I3:Int→Option Int):Option Int :=
  I3 (0:Int)
def f170G (a0:List tA) (a1:(tA→Option Bool)):Option Int :=
  f170_g K a0 a1 (fun d0=>f170_l3 K a0 a1 K d0)
def f170M:Mdl:=⟨[(.ro,(.list 48 sA)),(.ro,(.fn1 sA .bool))],[sI],fun x=>f170G K x.1 x.2.1⟩
def f170_k3 (a0:List tA) (a1:(tA→Option Bool)) (lr:LR Int):Ex→Fr→Option Int :=
  contC (f170E K) 1 lr f170C [1,0,1,0] (fM (f170E K) Tryz.f170 (f170M K) (a0,a1,()))
def f170_j3 (a0:List tA) (a1:(tA→Option Bool)) (lr:LR Int) (bq4:Int):Option Int :=
  lr (selC f170C [1,0,1,0,0]) (f170_fr3 a0 a1 bq4) (f170_k3 K a0 a1 lr)
def f105E:Env:=eE K [(170,f170M K)] [0,1,4,5,6,7,12,19,29]
def f105_b4 (K:Nat) (a1:(tA→Option Bool)) (y1:Int) (L4:Int→Int→(List tA)→Option (List tA)) (q5 q6:Int) (q7:List tA):Option (List tA) :=
  (bif (decide (q6<(q7.length:Int))) then (bif (decide (0≤q6)&&decide (q6<(q7.length:Int))) then (a1 ((q7.getD ((0:Int)+q6).toNat zA).1,((q7.getD ((0:Int)+q6).toNat zA).2).1,(((q7.getD ((0:Int)+q6).toNat zA).2).2))).bind fun y8=>(bif (!y8) then (bif (decide (0≤q5)&&decide (q5<(q7.length:Int))) then L4 (w (q5+(1:Int))) (w (q6+(1:Int))) (q7.set ((0:Int)+q5).toNat ((q7.getD ((0:Int)+q6).toNat zA).1,((q7.getD ((0:Int)+q6).toNat zA).2).1,(((q7.getD ((0:Int)+q6).toNat zA).2).2))) else none) else L4 q5 (w (q6+(1:Int))) q7) else none) else (bif (decide (0≤q5)&&decide (q5≤(q7.length:Int))&&decide ((q7.length:Int)≤(q7.length:Int))) then (bif (decide (0≤(0:Int))&&decide ((0:Int)≤q5)&&decide (q5≤((clr q7 ((0:Int)+q5).toNat (((0:Int)+q5)+(((0:Int)+(q7.length:Int))-((0:Int)+q5))).toNat zA).length:Int))) then some ((clr q7 ((0:Int)+q5).toNat (((0:Int)+q5)+(((0:Int)+(q7.length:Int))-((0:Int)+q5))).toNat zA).take ((0:Int)+q5).toNat) else none) else none))
def f105_l4 (a1:(tA→Option Bool)) (y1:Int) (n:Nat) (q5 q6:Int) (q7:List tA):Option (List tA) :=
  iter (X:=Int×Int×List tA) (fun L x=>f105_b4 K a1 y1 (fun v0 v1 v2=>L (v0,v1,v2)) x.1 x.2.1 x.2.2) n (q5,q6,q7)
def f105_g (a0:List tA) (a1:(tA→Option Bool)) (I4:Int→Int→Int→(List tA)→Option (List tA)):Option (List tA) :=
  (f170G K a0 a1).bind fun y1=>(bif (y1==(-1:Int)) then some a0 else I4 y1 y1 (w (y1+(1:Int))) a0)
def f105G (a0:List tA) (a1:(tA→Option Bool)):Option (List tA) :=
  f105_g K a0 a1 (fun c0 d0 d1 d2=>f105_l4 K a1 c0 K d0 d1 d2)
def f105M:Mdl:=⟨[(.mv,(.list 48 sA)),(.ro,(.fn1 sA .bool))],[(.list 48 sA)],fun x=>f105G K x.1 x.2.1⟩
def f105_k4 (a0:List tA) (a1:(tA→Option Bool)) (lr:LR (List tA)):Ex→Fr→Option (List tA) :=
  contC (f105E K) 1 lr f105C [1,1,1,0,1,0] (fM (f105E K) Tryz.f105 (f105M K) (a0,a1,()))
def f105_j4 (a0:List tA) (a1:(tA→Option Bool)) (lr:LR (List tA)) (y1 bq5 bq6:Int) (bq7:List tA):Option (List tA) :=
  lr (selC f105C [1,1,1,0,1,0,0]) (f105_fr4 a1 y1 bq5 bq6 bq7) (f105_k4 K a0 a1 lr)
def f53E:Env:=⟨[(94,f94M K),(105,f105M K),(106,f106M K),(107,f107M K)],tys,eqs,mts,K,[0,1,3,4,5,6],[],[],[],[],[(107,f107M K)],[],false⟩
def f53G (a0:Int) (a1:Int×Int×Int):Option (List tA) :=
  (f94G K a1).bind fun y1=>(f106G K a0).bind fun y2=>(f105G K y2 (fun z3=>f107G K z3 a1 y1.1 y1.2)).bind fun y4=>some y4
def f53M:Mdl:=⟨[(.ro,sI),(.ro,sL)],[(.list 48 sA)],fun x=>f53G K x.1 x.2.1⟩
def f19E:Env:=eE K [(53,f53M K),(54,f54M K),(55,f55M K)] [0,1,2,3,5,7,13,14,15,16,21,22,23,24,31]
def f19_b14 (a0:Int×tL×List Int) (q11:Int) (y1:List tA) (y13:List tV) (L10 L14:Int→(List tM)→Option (List tM)) (q15:Int) (q16:List tM):Option (List tM) :=
  (bif (decide (q15<(y13.length:Int))) then (bif (decide (0≤q15)&&decide (q15<(y13.length:Int))) then (f55G K a0 (((y1.getD ((0:Int)+q11).toNat zA).1,((y1.getD ((0:Int)+q11).toNat zA).2).1,(((y1.getD ((0:Int)+q11).toNat zA).2).2)),(y13.getD ((0:Int)+q15).toNat ((0:Int),(0:Int))))).bind fun y17=>(bif y17 then (bif (Nat.ble (q16.length+[(((y1.getD ((0:Int)+q11).toNat zA).1,((y1.getD ((0:Int)+q11).toNat zA).2).1,(((y1.getD ((0:Int)+q11).toNat zA).2).2)),(y13.getD ((0:Int)+q15).toNat ((0:Int),(0:Int))))].length) (lim 48)) then L14 (w (q15+(1:Int))) (q16++[(((y1.getD ((0:Int)+q11).toNat zA).1,((y1.getD ((0:Int)+q11).toNat zA).2).1,(((y1.getD ((0:Int)+q11).toNat zA).2).2)),(y13.getD ((0:Int)+q15).toNat ((0:Int),(0:Int))))]) else none) else L14 (w (q15+(1:Int))) q16) else none) else L10 (w (q11+(1:Int))) q16)
def f19_l14 (a0:Int×tL×List Int) (q11:Int) (y1:List tA) (y13:List tV) (L10:Int→(List tM)→Option (List tM)) (n:Nat) (q15:Int) (q16:List tM):Option (List tM) :=
  iter (X:=Int×List tM) (fun L x=>f19_b14 K a0 q11 y1 y13 L10 (fun v0 v1=>L (v0,v1)) x.1 x.2) n (q15,q16)
def f19_b10 (a0:Int×tL×List Int) (y1:List tA) (I14:Int→(List tV)→Int→(List tM)→Option (List tM)) (L10:Int→(List tM)→Option (List tM)) (q11:Int) (q12:List tM):Option (List tM) :=
  (bif (decide (q11<(y1.length:Int))) then (bif (decide (0≤q11)&&decide (q11<(y1.length:Int))) then (f54G K a0.2.1).bind fun y13=>I14 q11 y13 (0:Int) q12 else none) else some q12)
def f19_l10 (a0:Int×tL×List Int) (y1:List tA) (n:Nat) (q11:Int) (q12:List tM):Option (List tM) :=
  iter (X:=Int×List tM) (fun L x=>(fun L10=>f19_b10 K a0 y1 (fun c0 c1 d0 d1=>f19_l14 K a0 c0 y1 c1 L10 K d0 d1) L10 x.1 x.2) (fun v0 v1=>L (v0,v1))) n (q11,q12)
def f19_g (a0:Int×tL×List Int) (I10:(List tA)→Int→(List tM)→Option (List tM)):Option (List tM) :=
  (f53G K a0.1 a0.2.1).bind fun y1=>I10 y1 (0:Int) []
def f19G (a0:Int×tL×List Int):Option (List tM) :=
  f19_g K a0 (fun c0 d0 d1=>f19_l10 K a0 c0 K d0 d1)
def f19M:Mdl:=⟨[(.ro,(.cons sI (.cons sL (.list 2 sI))))],[(.list 52 sM)],fun x=>f19G K x.1⟩
def f19_k10 (a0:Int×tL×List Int) (lr:LR (List tM)):Ex→Fr→Option (List tM) :=
  contC (f19E K) 1 lr f19C [1,1,0,1,0] (fM (f19E K) Tryz.f19 (f19M K) (a0,()))
def f19_j10 (a0:Int×tL×List Int) (lr:LR (List tM)) (y1:List tA) (bq11:Int) (bq12:List tM):Option (List tM) :=
  lr (selC f19C [1,1,0,1,0,0]) (f19_fr10 a0 y1 bq11 bq12) (f19_k10 K a0 lr)
def f19_k14 (a0:Int×tL×List Int) (y1:List tA) (F10:Fr→Option (List tM)) (bq11:Int) (bq12:List tM) (lr:LR (List tM)):Ex→Fr→Option (List tM) :=
  contC (f19E K) 1 lr (selC f19C [1,1,0,1,0,0]) [1,1,0,0,1,1,0] (loopK 1 (f19_fr10 a0 y1 bq11 bq12) F10 (f19_k10 K a0 lr))
def f19_j14 (a0:Int×tL×List Int) (y1:List tA) (F10:Fr→Option (List tM)) (bq11:Int) (bq12:List tM) (lr:LR (List tM)) (q11:Int) (y13:List tV) (bq15:Int) (bq16:List tM):Option (List tM) :=
  lr (selC f19C [1,1,0,1,0,0,1,1,0,0,1,1,0,0]) (f19_fr14 a0 q11 y1 y13 bq15 bq16) (f19_k14 K a0 y1 F10 bq11 bq12 lr)
def f56E:Env:=eE K [] [0,1,3,4,5,7,8,9,16]
def f56_b2 (K:Nat) (a0:List tM) (a1:tA×Int×Int) (L2:Int→Option Int) (q3:Int):Option Int :=
  (bif (decide (q3<(a0.length:Int))) then (bif (decide (0≤q3)&&decide (q3<(a0.length:Int))) then (bif ((a1.1.1==((a0.getD ((0:Int)+q3).toNat zM).1).1)&&((a1.1.2.1==(((a0.getD ((0:Int)+q3).toNat zM).1).2).1)&&((a1.1.2.2.1==((((a0.getD ((0:Int)+q3).toNat zM).1).2).2).1)&&((a1.1.2.2.2==((((a0.getD ((0:Int)+q3).toNat zM).1).2).2).2)&&((a1.2.1==((a0.getD ((0:Int)+q3).toNat zM).2).1)&&(a1.2.2==((a0.getD ((0:Int)+q3).toNat zM).2).2)))))) then some q3 else L2 (w (q3+(1:Int)))) else none) else some (-1:Int))
def f56_l2 (a0:List tM) (a1:tA×Int×Int) (n:Nat) (q3:Int):Option Int :=
  iter (X:=Int) (fun L x=>f56_b2 K a0 a1 (fun v0=>L v0) x) n q3
def f56_g (K:Nat) (a0:List tM) (a1:tA×Int×Int) (I2:Int→Option Int):Option Int :=
  I2 (0:Int)
def f56G (a0:List tM) (a1:tA×Int×Int):Option Int :=
  f56_g K a0 a1 (fun d0=>f56_l2 K a0 a1 K d0)
def f56M:Mdl:=⟨[(.ro,(.list 52 sM)),(.ro,sM)],[sI],fun x=>f56G K x.1 x.2.1⟩
def f56_k2 (a0:List tM) (a1:tA×Int×Int) (lr:LR Int):Ex→Fr→Option Int :=
  contC (f56E K) 1 lr f56C [1,0,1,0] (fM (f56E K) Tryz.f56 (f56M K) (a0,a1,()))
def f56_j2 (a0:List tM) (a1:tA×Int×Int) (lr:LR Int) (bq3:Int):Option Int :=
  lr (selC f56C [1,0,1,0,0]) (f56_fr2 a0 a1 bq3) (f56_k2 K a0 a1 lr)
def f20E:Env:=eE K [(56,f56M K)] [0,1,3,4]
def f20G (a0:List tM) (a1:tA×Int×Int):Option Bool :=
  (f56G K a0 a1).bind fun y1=>some (decide (y1≥(0:Int)))
def f20M:Mdl:=⟨[(.ro,(.list 52 sM)),(.ro,sM)],[.bool],fun x=>f20G K x.1 x.2.1⟩
def f176E:Env:=eE K [(91,f91M K)] [0,2]
def f176G (a0:Int):Option Bool :=
  (f91G K a0 (-1000:Int) (1000:Int)).bind fun y1=>some y1
def f176M:Mdl:=⟨[(.ro,sI)],[.bool],fun x=>f176G K x.1⟩
def f172E:Env:=eE K [(176,f176M K)] [0,1,2]
def f172G (a0:Int×Int×Int×Int):Option Bool :=
  (f176G K a0.1).bind fun y1=>((bif y1 then f176G K a0.2.1 else some false)).bind fun y2=>((bif (bif y1 then y2 else false) then f176G K a0.2.2.1 else some false)).bind fun y3=>((bif (bif (bif y1 then y2 else false) then y3 else false) then f176G K a0.2.2.2 else some false)).bind fun y4=>some (bif (bif (bif y1 then y2 else false) then y3 else false) then y4 else false)
def f172M:Mdl:=⟨[(.ro,sA)],[.bool],fun x=>f172G K x.1⟩
def f173E:Env:=eE K [] [0,1,2]
def f173G (K:Nat) (a0:Int×Int×Int×Int):Option Int :=
  some (w ((w (a0.1*a0.2.2.2))-(w (a0.2.1*a0.2.2.1))))
def f173M:Mdl:=⟨[(.ro,sA)],[sI],fun x=>f173G K x.1⟩
def f110E:Env:=eE K [(172,f172M K),(173,f173M K)] [0,1,2]
def f110G (a0:Int×Int×Int×Int):Option Bool :=
  (f172G K a0).bind fun y1=>((bif y1 then f173G K a0 else some (0:Int))).bind fun y2=>((bif (y1&&(!(y2==(1:Int)))) then f173G K a0 else some (0:Int))).bind fun y3=>some (bif y1 then (bif (y2==(1:Int)) then true else (y3==(-1:Int))) else false)
def f110M:Mdl:=⟨[(.ro,sA)],[.bool],fun x=>f110G K x.1⟩
def f209E:Env:=eE K [(48,f48M K),(173,f173M K)] [0,1,2,3,9,13,24,32,40]
def f209G (a0:Int×Int×Int×Int):Option Int :=
  (f48G K).bind fun y1=>(bif ((a0.1==y1.1)&&((a0.2.1==y1.2.1)&&((a0.2.2.1==y1.2.2.1)&&(a0.2.2.2==y1.2.2.2)))) then some (1:Int) else (f173G K a0).bind fun y2=>(bif (bif (y2==(-1:Int)) then ((w (a0.1+a0.2.2.2))==(0:Int)) else false) then (bif (bif (y2==(-1:Int)) then ((w (a0.1+a0.2.2.2))==(0:Int)) else false) then some (2:Int) else (f173G K a0).bind fun y3=>(bif (bif (y3==(1:Int)) then ((w (a0.1+a0.2.2.2))==(-1:Int)) else false) then some (3:Int) else (f173G K a0).bind fun y4=>(bif (bif (y4==(1:Int)) then ((w (a0.1+a0.2.2.2))==(0:Int)) else false) then some (4:Int) else (f173G K a0).bind fun y5=>(bif (bif (y5==(1:Int)) then ((w (a0.1+a0.2.2.2))==(1:Int)) else false) then some (6:Int) else some (0:Int))))) else (bif ((a0.1==(-1:Int))&&((a0.2.1==(0:Int))&&((a0.2.2.1==(0:Int))&&(a0.2.2.2==(-1:Int))))) then some (2:Int) else (f173G K a0).bind fun y6=>(bif (bif (y6==(1:Int)) then ((w (a0.1+a0.2.2.2))==(-1:Int)) else false) then some (3:Int) else (f173G K a0).bind fun y7=>(bif (bif (y7==(1:Int)) then ((w (a0.1+a0.2.2.2))==(0:Int)) else false) then some (4:Int) else (f173G K a0).bind fun y8=>(bif (bif (y8==(1:Int)) then ((w (a0.1+a0.2.2.2))==(1:Int)) else false) then some (6:Int) else some (0:Int)))))))
def f209M:Mdl:=⟨[(.ro,sA)],[sI],fun x=>f209G K x.1⟩
def f174E:Env:=eE K [(173,f173M K),(209,f209M K)] [0,1,2]
def f174G (a0:Int×Int×Int×Int):Option Bool :=
  (f173G K a0).bind fun y1=>((bif (y1==(1:Int)) then f209G K a0 else some (0:Int))).bind fun y2=>some (bif (y1==(1:Int)) then (decide (y2>(0:Int))) else false)
def f174M:Mdl:=⟨[(.ro,sA)],[.bool],fun x=>f174G K x.1⟩
def f175E:Env:=eE K [(173,f173M K),(209,f209M K)] [0,1,2]
def f175G (a0:Int×Int×Int×Int):Option Bool :=
  (f173G K a0).bind fun y1=>((bif (y1==(-1:Int)) then f209G K a0 else some (0:Int))).bind fun y2=>some (bif (y1==(-1:Int)) then (y2==(2:Int)) else false)
def f175M:Mdl:=⟨[(.ro,sA)],[.bool],fun x=>f175G K x.1⟩
def f111E:Env:=eE K [(174,f174M K),(175,f175M K)] [0,1,2]
def f111G (a0:Int×Int×Int×Int):Option Bool :=
  (f174G K a0).bind fun y1=>((bif (!y1) then f175G K a0 else some false)).bind fun y2=>some (bif y1 then true else y2)
def f111M:Mdl:=⟨[(.ro,sA)],[.bool],fun x=>f111G K x.1⟩
def f112E:Env:=eE K [(176,f176M K)] [0,1,2]
def f112G (a0:Int×Int):Option Bool :=
  (f176G K a0.1).bind fun y1=>((bif y1 then f176G K a0.2 else some false)).bind fun y2=>some (bif y1 then y2 else false)
def f112M:Mdl:=⟨[(.ro,sV)],[.bool],fun x=>f112G K x.1⟩
def f57E:Env:=eE K [(110,f110M K),(111,f111M K),(112,f112M K)] [0,1,2]
def f57G (a0:tA×Int×Int):Option Bool :=
  (f110G K a0.1).bind fun y1=>((bif y1 then f111G K a0.1 else some false)).bind fun y2=>((bif (bif y1 then y2 else false) then f112G K a0.2 else some false)).bind fun y3=>some (bif (bif y1 then y2 else false) then y3 else false)
def f57M:Mdl:=⟨[(.ro,sM)],[.bool],fun x=>f57G K x.1⟩
def f58E:Env:=eE K [(96,f96M K),(110,f110M K)] [0,1,2,5]
def f58G (a0:Int×Int×Int×Int):Option ByteArray :=
  (f110G K a0).bind fun y1=>(bif (!y1) then some ByteArray.empty else (f96G K (bs [44]) [a0.1,a0.2.1,a0.2.2.1,a0.2.2.2]).bind fun y2=>some y2)
def f58M:Mdl:=⟨[(.ro,sA)],[.str],fun x=>f58G K x.1⟩
def f59E:Env:=eE K [(96,f96M K),(112,f112M K)] [0,1,2,5]
def f59G (a0:Int×Int):Option ByteArray :=
  (f112G K a0).bind fun y1=>(bif (!y1) then some ByteArray.empty else (f96G K (bs [44]) [a0.1,a0.2]).bind fun y2=>some y2)
def f59M:Mdl:=⟨[(.ro,sV)],[.str],fun x=>f59G K x.1⟩
def f21E:Env:=eE K [(57,f57M K),(58,f58M K),(59,f59M K)] [0,1,2,5]
def f21G (a0:tA×Int×Int):Option ByteArray :=
  (f57G K a0).bind fun y1=>(bif (!y1) then some ByteArray.empty else (f58G K a0.1).bind fun y2=>(bif (Nat.ble (y2.size+(bs [59]).size) 9223372036854775807) then (f59G K a0.2).bind fun y3=>(bif (Nat.ble ((y2++(bs [59])).size+y3.size) 9223372036854775807) then some ((y2++(bs [59]))++y3) else none) else none))
def f21M:Mdl:=⟨[(.ro,sM)],[.str],fun x=>f21G K x.1⟩
omit K
def f113G (K:Nat) (a0 a1:Int):Option tV:=mulF a0 a1
def f113M (K:Nat):Mdl:=⟨[(.ro,(.int .u64)),(.ro,(.int .u64))],[(.int .u64),(.int .u64)],fun x=>f113G K x.1 x.2.1⟩
include K
def f60E:Env:=eE K [(113,f113M K)] [0,1,4,5,6,7,8,10,26,37]
def f60_b3 (K:Nat) (a0:List Int) (a1:Int) (y1:Int×Int) (L3:Int→(List Int)→Option (List Int)) (q4:Int) (q5:List Int):Option (List Int) :=
  (bif (decide (q4<(q5.length:Int))) then (bif (decide (0≤q4)&&decide (q4≤(q5.length:Int))&&decide ((q5.length:Int)≤(q5.length:Int))) then (bif (decide (0≤(0:Int))&&decide ((0:Int)≤q4)&&decide (q4≤(q5.length:Int))) then L3 (w (q4+(bif decide ((((0:Int)+(q5.length:Int))-((0:Int)+q4))≤(((0:Int)+q4)-(0:Int))) then (((0:Int)+(q5.length:Int))-((0:Int)+q4)) else (((0:Int)+q4)-(0:Int))))) (q5.take ((0:Int)+q4).toNat++((q5.take ((0:Int)+(((0:Int)+q4)-(0:Int))).toNat).drop 0).take (bif decide ((((0:Int)+(q5.length:Int))-((0:Int)+q4))≤(((0:Int)+q4)-(0:Int))) then (((0:Int)+(q5.length:Int))-((0:Int)+q4)) else (((0:Int)+q4)-(0:Int))).toNat++q5.drop (((0:Int)+q4).toNat+(bif decide ((((0:Int)+(q5.length:Int))-((0:Int)+q4))≤(((0:Int)+q4)-(0:Int))) then (((0:Int)+(q5.length:Int))-((0:Int)+q4)) else (((0:Int)+q4)-(0:Int))).toNat)) else none) else none) else some q5)
def f60_l3 (a0:List Int) (a1:Int) (y1:Int×Int) (n:Nat) (q4:Int) (q5:List Int):Option (List Int) :=
  iter (X:=Int×List Int) (fun L x=>f60_b3 K a0 a1 y1 (fun v0 v1=>L (v0,v1)) x.1 x.2) n (q4,q5)
def f60_g (a0:List Int) (a1:Int) (I3:tV→Int→(List Int)→Option (List Int)):Option (List Int) :=
  (bif (decide (a1<(0:Int))) then none else (f113G K (IntKind.u64.wrap (a0.length:Int)) (IntKind.u64.wrap a1)).bind fun y1=>(bif (bif (decide (y1.1>(0:Int))) then true else (decide (y1.2>(9223372036854775807:Int)))) then none else (bif (decide (0≤(w y1.2))&&Nat.ble (w y1.2).toNat (lim 8)&&((w y1.2)==(w y1.2))) then I3 y1 (bif decide (((List.replicate (w y1.2).toNat (0:Int)).length:Int)≤(a0.length:Int)) then ((List.replicate (w y1.2).toNat (0:Int)).length:Int) else (a0.length:Int)) ((List.replicate (w y1.2).toNat (0:Int)).take 0++((a0.take ((0:Int)+(a0.length:Int)).toNat).drop 0).take (bif decide (((List.replicate (w y1.2).toNat (0:Int)).length:Int)≤(a0.length:Int)) then ((List.replicate (w y1.2).toNat (0:Int)).length:Int) else (a0.length:Int)).toNat++(List.replicate (w y1.2).toNat (0:Int)).drop (0+(bif decide (((List.replicate (w y1.2).toNat (0:Int)).length:Int)≤(a0.length:Int)) then ((List.replicate (w y1.2).toNat (0:Int)).length:Int) else (a0.length:Int)).toNat)) else none)))
def f60G (a0:List Int) (a1:Int):Option (List Int) :=
  f60_g K a0 a1 (fun c0 d0 d1=>f60_l3 K a0 a1 c0 K d0 d1)
def f60M:Mdl:=⟨[(.ro,(.list 2 sI)),(.ro,sI)],[(.list 2 sI)],fun x=>f60G K x.1 x.2.1⟩
def f60_k3 (a0:List Int) (a1:Int) (lr:LR (List Int)):Ex→Fr→Option (List Int) :=
  contC (f60E K) 1 lr f60C [1,1,1,1,1,1,0,0] (fM (f60E K) Tryz.f60 (f60M K) (a0,a1,()))
def f60_j3 (a0:List Int) (a1:Int) (lr:LR (List Int)) (y1:Int×Int) (bq4:Int) (bq5:List Int):Option (List Int) :=
  lr (selC f60C [1,1,1,1,1,1,0,0,0]) (f60_fr3 a0 a1 y1 bq4 bq5) (f60_k3 K a0 a1 lr)
def f114E:Env:=eE K [(97,f97M K),(109,f109M K)] [0,1,2,3,4,5,6]
def f114G (a0:Int×Int×Int) (a1:tA×Int×Int) (a2:Int×Int):Option tV :=
  (f109G K a1 a2).bind fun y1=>(f97G K a0 y1).bind fun y2=>some y2
def f114M:Mdl:=⟨[(.ro,sL),(.ro,sM),(.ro,sV)],[sV],fun x=>f114G K x.1 x.2.1 x.2.2.1⟩
omit K
def f115G (K:Nat) (a0:List tV) (a1:tV→tV→Option Int):Option (List tV):=sortF sV a0 a1
def f115M (K:Nat):Mdl:=⟨[(.io,(.list 50 sV)),(.ro,(.fn2 sV sV sI))],[],fun x=>f115G K x.1 x.2.1⟩
include K
def f116E:Env:=eE K [] [0,2,3,4,5,8,13,25,32,44]
def f116_b9 (K:Nat) (a0:List tV) (q8:Int) (L9:Int→Int→(List tV)→Option (List tV)) (q10 q11:Int) (q12:List tV):Option (List tV) :=
  (bif (decide (q11<(((0:Int)+(a0.length:Int))-((0:Int)+q8)))) then (bif (decide (0≤q11)&&decide (q11<(((0:Int)+(a0.length:Int))-((0:Int)+q8)))) then (bif (decide (0≤(w (q11-(1:Int))))&&decide ((w (q11-(1:Int)))<(((0:Int)+(a0.length:Int))-((0:Int)+q8)))) then (bif (!(((q12.getD (((0:Int)+q8)+q11).toNat ((0:Int),(0:Int))).1==(q12.getD (((0:Int)+q8)+(w (q11-(1:Int)))).toNat ((0:Int),(0:Int))).1)&&((q12.getD (((0:Int)+q8)+q11).toNat ((0:Int),(0:Int))).2==(q12.getD (((0:Int)+q8)+(w (q11-(1:Int)))).toNat ((0:Int),(0:Int))).2))) then (bif (decide (0≤q11)&&decide (q11<(((0:Int)+(a0.length:Int))-((0:Int)+q8)))) then (bif (decide (0≤q10)&&decide (q10<(q12.length:Int))) then L9 (w (q10+(1:Int))) (w (q11+(1:Int))) (q12.set ((0:Int)+q10).toNat (q12.getD (((0:Int)+q8)+q11).toNat ((0:Int),(0:Int)))) else none) else none) else L9 q10 (w (q11+(1:Int))) q12) else none) else none) else (bif (decide (0≤q10)&&decide (q10≤(q12.length:Int))&&decide ((q12.length:Int)≤(q12.length:Int))) then (bif (decide (0≤(0:Int))&&decide ((0:Int)≤q10)&&decide (q10≤((clr q12 ((0:Int)+q10).toNat (((0:Int)+q10)+(((0:Int)+(q12.length:Int))-((0:Int)+q10))).toNat ((0:Int),(0:Int))).length:Int))) then some ((clr q12 ((0:Int)+q10).toNat (((0:Int)+q10)+(((0:Int)+(q12.length:Int))-((0:Int)+q10))).toNat ((0:Int),(0:Int))).take ((0:Int)+q10).toNat) else none) else none))
def f116_l9 (a0:List tV) (q8:Int) (n:Nat) (q10 q11:Int) (q12:List tV):Option (List tV) :=
  iter (X:=Int×Int×List tV) (fun L x=>f116_b9 K a0 q8 (fun v0 v1 v2=>L (v0,v1,v2)) x.1 x.2.1 x.2.2) n (q10,q11,q12)
def f116_b7 (K:Nat) (a0:List tV) (I9:Int→Int→Int→(List tV)→Option (List tV)) (L7:Int→Option (List tV)) (q8:Int):Option (List tV) :=
  (bif (decide (q8<(a0.length:Int))) then (bif (decide (0≤q8)&&decide (q8<(a0.length:Int))) then (bif (decide (0≤(w (q8-(1:Int))))&&decide ((w (q8-(1:Int)))<(a0.length:Int))) then (bif (((a0.getD ((0:Int)+q8).toNat ((0:Int),(0:Int))).1==(a0.getD ((0:Int)+(w (q8-(1:Int)))).toNat ((0:Int),(0:Int))).1)&&((a0.getD ((0:Int)+q8).toNat ((0:Int),(0:Int))).2==(a0.getD ((0:Int)+(w (q8-(1:Int)))).toNat ((0:Int),(0:Int))).2)) then (bif (decide (0≤q8)&&decide (q8≤(a0.length:Int))&&decide ((a0.length:Int)≤(a0.length:Int))) then I9 q8 q8 (1:Int) a0 else none) else L7 (w (q8+(1:Int)))) else none) else none) else some a0)
def f116_l7 (a0:List tV) (n:Nat) (q8:Int):Option (List tV) :=
  iter (X:=Int) (fun L x=>f116_b7 K a0 (fun c0 d0 d1 d2=>f116_l9 K a0 c0 K d0 d1 d2) (fun v0=>L v0) x) n q8
def f116_g (K:Nat) (a0:List tV) (I7:Int→Option (List tV)):Option (List tV) :=
  (bif (decide ((a0.length:Int)<(2:Int))) then some a0 else I7 (1:Int))
def f116G (a0:List tV):Option (List tV) :=
  f116_g K a0 (fun d0=>f116_l7 K a0 K d0)
def f116M:Mdl:=⟨[(.mv,(.list 50 sV))],[(.list 50 sV)],fun x=>f116G K x.1⟩
def f116_k7 (a0:List tV) (lr:LR (List tV)):Ex→Fr→Option (List tV) :=
  contC (f116E K) 1 lr f116C [1,1,0,1,0] (fM (f116E K) Tryz.f116 (f116M K) (a0,()))
def f116_j7 (a0:List tV) (lr:LR (List tV)) (bq8:Int):Option (List tV) :=
  lr (selC f116C [1,1,0,1,0,0]) (f116_fr7 a0 bq8) (f116_k7 K a0 lr)
def f116_k9 (a0:List tV) (F7:Fr→Option (List tV)) (bq8:Int) (lr:LR (List tV)):Ex→Fr→Option (List tV) :=
  contC (f116E K) 1 lr (selC f116C [1,1,0,1,0,0]) [1,0,0,1,0,1,0,1,0] (loopK 1 (f116_fr7 a0 bq8) F7 (f116_k7 K a0 lr))
def f116_j9 (a0:List tV) (F7:Fr→Option (List tV)) (bq8:Int) (lr:LR (List tV)) (q8 bq10 bq11:Int) (bq12:List tV):Option (List tV) :=
  lr (selC f116C [1,1,0,1,0,0,1,0,0,1,0,1,0,1,0,0]) (f116_fr9 a0 q8 bq10 bq11 bq12) (f116_k9 K a0 F7 bq8 lr)
def f62E:Env:=⟨[(104,f104M K),(114,f114M K),(115,f115M K),(116,f116M K)],tys,eqs,mts,K,[0,1,2,3,5,6,7,9,11,12,13,14],[],[],[],[],[(104,f104M K)],[],false⟩
def f62_b3 (a0:Int×Int×Int) (a1:List tM) (a2:Int×Int) (L3:Int→(List tV)→Option (List tV)) (q4:Int) (q5:List tV):Option (List tV) :=
  (bif (decide (q4<(a1.length:Int))) then (bif (decide (0≤q4)&&decide (q4<(a1.length:Int))) then (f114G K a0 ((((a1.getD ((0:Int)+q4).toNat zM).1).1,(((a1.getD ((0:Int)+q4).toNat zM).1).2).1,((((a1.getD ((0:Int)+q4).toNat zM).1).2).2)),((a1.getD ((0:Int)+q4).toNat zM).2)) a2).bind fun y6=>(bif (Nat.ble (q5.length+[y6].length) (lim 16)) then L3 (w (q4+(1:Int))) (q5++[y6]) else none) else none) else (f115G K q5 (fun z7 z8=>f104G K z7 z8)).bind fun y9=>(f116G K y9).bind fun y10=>some y10)
def f62_l3 (a0:Int×Int×Int) (a1:List tM) (a2:Int×Int) (n:Nat) (q4:Int) (q5:List tV):Option (List tV) :=
  iter (X:=Int×List tV) (fun L x=>f62_b3 K a0 a1 a2 (fun v0 v1=>L (v0,v1)) x.1 x.2) n (q4,q5)
def f62_g (K:Nat) (a0:Int×Int×Int) (a1:List tM) (a2:Int×Int) (I3:Int→(List tV)→Option (List tV)):Option (List tV) :=
  I3 (0:Int) []
def f62G (a0:Int×Int×Int) (a1:List tM) (a2:Int×Int):Option (List tV) :=
  f62_g K a0 a1 a2 (fun d0 d1=>f62_l3 K a0 a1 a2 K d0 d1)
def f62M:Mdl:=⟨[(.ro,sL),(.ro,(.list 52 sM)),(.ro,sV)],[(.list 50 sV)],fun x=>f62G K x.1 x.2.1 x.2.2.1⟩
def f62_k3 (a0:Int×Int×Int) (a1:List tM) (a2:Int×Int) (lr:LR (List tV)):Ex→Fr→Option (List tV) :=
  contC (f62E K) 1 lr f62C [1,1,0,1,0] (fM (f62E K) Tryz.f62 (f62M K) (a0,a1,a2,()))
def f62_j3 (a0:Int×Int×Int) (a1:List tM) (a2:Int×Int) (lr:LR (List tV)) (bq4:Int) (bq5:List tV):Option (List tV) :=
  lr (selC f62C [1,1,0,1,0,0]) (f62_fr3 a0 a1 a2 bq4 bq5) (f62_k3 K a0 a1 a2 lr)
def f22E:Env:=eE K [(43,f43M K),(54,f54M K),(60,f60M K),(61,f61M K),(62,f62M K)] [0,1,2,4,5,6,7,9,10,12,19,20,21,22,31,36,37,38,39]
def f22_b22 (a0:Int×Int×Int) (a1:List tM) (q17:Int) (q18:List (List tV)) (q19:List Int) (y3:List tV) (y20:Int) (y21:List tV) (L16:Int→(List (List tV))→(List Int)→Option ((List (List tV))×List Int)) (L22:Int→(List Int)→Option ((List (List tV))×List Int)) (q23:Int) (q24:List Int):Option ((List (List tV))×List Int) :=
  (bif (decide (q23<(y21.length:Int))) then (bif (decide (0≤q23)&&decide (q23<(y21.length:Int))) then (f61G K a0 (y21.getD ((0:Int)+q23).toNat ((0:Int),(0:Int)))).bind fun y25=>(bif (decide (0≤y25)&&decide (y25<(q24.length:Int))) then L22 (w (q23+(1:Int))) (q24.set ((0:Int)+y25).toNat (q18.length:Int)) else none) else none) else (bif (Nat.ble (q18.length+[y21].length) (lim 24)) then L16 (w (q17+(1:Int))) (q18++[y21]) q24 else none))
def f22_l22 (a0:Int×Int×Int) (a1:List tM) (q17:Int) (q18:List (List tV)) (q19:List Int) (y3:List tV) (y20:Int) (y21:List tV) (L16:Int→(List (List tV))→(List Int)→Option ((List (List tV))×List Int)) (n:Nat) (q23:Int) (q24:List Int):Option ((List (List tV))×List Int) :=
  iter (X:=Int×List Int) (fun L x=>f22_b22 K a0 a1 q17 q18 q19 y3 y20 y21 L16 (fun v0 v1=>L (v0,v1)) x.1 x.2) n (q23,q24)
def f22_b16 (a0:Int×Int×Int) (a1:List tM) (y3:List tV) (I22:Int→(List (List tV))→(List Int)→Int→(List tV)→Int→(List Int)→Option ((List (List tV))×List Int)) (L16:Int→(List (List tV))→(List Int)→Option ((List (List tV))×List Int)) (q17:Int) (q18:List (List tV)) (q19:List Int):Option ((List (List tV))×List Int) :=
  (bif (decide (q17<(y3.length:Int))) then (bif (decide (0≤q17)&&decide (q17<(y3.length:Int))) then (f61G K a0 (y3.getD ((0:Int)+q17).toNat ((0:Int),(0:Int)))).bind fun y20=>(bif (decide (0≤y20)&&decide (y20<(q19.length:Int))) then (bif (decide ((q19.getD ((0:Int)+y20).toNat (0:Int))≥(0:Int))) then L16 (w (q17+(1:Int))) q18 q19 else (f62G K a0 a1 (y3.getD ((0:Int)+q17).toNat ((0:Int),(0:Int)))).bind fun y21=>I22 q17 q18 q19 y20 y21 (0:Int) q19) else none) else none) else some (q18,q19))
def f22_l16 (a0:Int×Int×Int) (a1:List tM) (y3:List tV) (n:Nat) (q17:Int) (q18:List (List tV)) (q19:List Int):Option ((List (List tV))×List Int) :=
  iter (X:=Int×List (List tV)×List Int) (fun L x=>(fun L16=>f22_b16 K a0 a1 y3 (fun c0 c1 c2 c3 c4 d0 d1=>f22_l22 K a0 a1 c0 c1 c2 y3 c3 c4 L16 K d0 d1) L16 x.1 x.2.1 x.2.2) (fun v0 v1 v2=>L (v0,v1,v2))) n (q17,q18,q19)
def f22_g (a0:Int×Int×Int) (a1:List tM) (I16:(List tV)→Int→(List (List tV))→(List Int)→Option ((List (List tV))×List Int)):Option ((List (List tV))×List Int) :=
  (f43G K a0).bind fun y1=>(f60G K [(-1:Int)] y1).bind fun y2=>(f54G K a0).bind fun y3=>I16 y3 (0:Int) [] y2
def f22G (a0:Int×Int×Int) (a1:List tM):Option ((List (List tV))×List Int) :=
  f22_g K a0 a1 (fun c0 d0 d1 d2=>f22_l16 K a0 a1 c0 K d0 d1 d2)
def f22M:Mdl:=⟨[(.ro,sL),(.ro,(.list 52 sM))],[(.list 55 (.list 50 sV)),(.list 2 sI)],fun x=>f22G K x.1 x.2.1⟩
def f22_k16 (a0:Int×Int×Int) (a1:List tM) (lr:LR ((List (List tV))×List Int)):Ex→Fr→Option ((List (List tV))×List Int) :=
  contC (f22E K) 1 lr f22C [1,1,0,1,0] (fM (f22E K) Tryz.f22 (f22M K) (a0,a1,()))
def f22_j16 (a0:Int×Int×Int) (a1:List tM) (lr:LR ((List (List tV))×List Int)) (y3:List tV) (bq17:Int) (bq18:List (List tV)) (bq19:List Int):Option ((List (List tV))×List Int) :=
  lr (selC f22C [1,1,0,1,0,0]) (f22_fr16 a0 a1 y3 bq17 bq18 bq19) (f22_k16 K a0 a1 lr)
def f22_k22 (a0:Int×Int×Int) (a1:List tM) (y3:List tV) (F16:Fr→Option ((List (List tV))×List Int)) (bq17:Int) (bq18:List (List tV)) (bq19:List Int) (lr:LR ((List (List tV))×List Int)):Ex→Fr→Option ((List (List tV))×List Int) :=
  contC (f22E K) 1 lr (selC f22C [1,1,0,1,0,0]) [1,1,0,0,1,1,1,0,1,0] (loopK 1 (f22_fr16 a0 a1 y3 bq17 bq18 bq19) F16 (f22_k16 K a0 a1 lr))
def f22_j22 (a0:Int×Int×Int) (a1:List tM) (y3:List tV) (F16:Fr→Option ((List (List tV))×List Int)) (bq17:Int) (bq18:List (List tV)) (bq19:List Int) (lr:LR ((List (List tV))×List Int)) (q17:Int) (q18:List (List tV)) (q19:List Int) (y20:Int) (y21:List tV) (bq23:Int) (bq24:List Int):Option ((List (List tV))×List Int) :=
  lr (selC f22C [1,1,0,1,0,0,1,1,0,0,1,1,1,0,1,0,0]) (f22_fr22 a0 a1 q17 q18 q19 y3 y20 y21 bq23 bq24) (f22_k22 K a0 a1 y3 F16 bq17 bq18 bq19 lr)
def f23E:Env:=eE K [(59,f59M K),(63,f63M K),(64,f64M K)] [0,1,2,4,5,6,7,9,10,11,12,13,14,21,36]
def f23_b5 (a0:Int×tL×List Int) (a1:List tV) (L5:ByteArray→Int→Int→Option (ByteArray×Int)) (q6:ByteArray) (q7 q8:Int):Option (ByteArray×Int) :=
  (bif (decide (q8<(a1.length:Int))) then (bif (decide (0≤q8)&&decide (q8<(a1.length:Int))) then (f63G K a0 (a1.getD ((0:Int)+q8).toNat ((0:Int),(0:Int)))).bind fun y9=>(bif (y9 != (0:Int)) then (f59G K (a1.getD ((0:Int)+q8).toNat ((0:Int),(0:Int)))).bind fun y10=>(bif (Nat.ble ((bs [109,97,114,107,32]).size+y10.size) 9223372036854775807) then (bif (Nat.ble (((bs [109,97,114,107,32])++y10).size+(bs [32]).size) 9223372036854775807) then (f64G K y9).bind fun y11=>(bif (Nat.ble ((((bs [109,97,114,107,32])++y10)++(bs [32])).size+y11.size) 9223372036854775807) then (bif (Nat.ble (((((bs [109,97,114,107,32])++y10)++(bs [32]))++y11).size+(bs [10]).size) 9223372036854775807) then (bif (Nat.ble (q6.size+(((((bs [109,97,114,107,32])++y10)++(bs [32]))++y11)++(bs [10])).size) 9223372036854775807) then L5 (q6++(((((bs [109,97,114,107,32])++y10)++(bs [32]))++y11)++(bs [10]))) (w (q7+(1:Int))) (w (q8+(1:Int))) else none) else none) else none) else none) else none) else L5 q6 q7 (w (q8+(1:Int)))) else none) else (bif (decide (q7>(40:Int))) then some (ByteArray.empty,(3:Int)) else some (q6,(0:Int))))
def f23_l5 (a0:Int×tL×List Int) (a1:List tV) (n:Nat) (q6:ByteArray) (q7 q8:Int):Option (ByteArray×Int) :=
  iter (X:=ByteArray×Int×Int) (fun L x=>f23_b5 K a0 a1 (fun v0 v1 v2=>L (v0,v1,v2)) x.1 x.2.1 x.2.2) n (q6,q7,q8)
def f23_g (K:Nat) (a0:Int×tL×List Int) (a1:List tV) (I5:ByteArray→Int→Int→Option (ByteArray×Int)):Option (ByteArray×Int) :=
  I5 ByteArray.empty (0:Int) (0:Int)
def f23G (a0:Int×tL×List Int) (a1:List tV):Option (ByteArray×Int) :=
  f23_g K a0 a1 (fun d0 d1 d2=>f23_l5 K a0 a1 K d0 d1 d2)
def f23M:Mdl:=⟨[(.ro,(.cons sI (.cons sL (.list 2 sI)))),(.ro,(.list 50 sV))],[.str,sI],fun x=>f23G K x.1 x.2.1⟩
def f23_k5 (a0:Int×tL×List Int) (a1:List tV) (lr:LR (ByteArray×Int)):Ex→Fr→Option (ByteArray×Int) :=
  contC (f23E K) 2 lr f23C [1,1,0,1,0] (fM (f23E K) Tryz.f23 (f23M K) (a0,a1,()))
def f23_j5 (a0:Int×tL×List Int) (a1:List tV) (lr:LR (ByteArray×Int)) (bq6:ByteArray) (bq7 bq8:Int):Option (ByteArray×Int) :=
  lr (selC f23C [1,1,0,1,0,0]) (f23_fr5 a0 a1 bq6 bq7 bq8) (f23_k5 K a0 a1 lr)
def f6E:Env:=eE K [(15,f15M K),(16,f16M K),(17,f17M K),(18,f18M K),(19,f19M K),(20,f20M K),(21,f21M K),(22,f22M K),(23,f23M K)] [0,1,2,3,4,5,6,7,8,10,11,12,15,16,17,20,31,32,33,34,40,64,65,66,67,84]
def f6_b20 (a0:Int×tL×List Int) (q11:ByteArray) (q12:Int) (q13 q14:List tM) (y1:Bool) (y2:Int×tL×List Int) (y5:List tM) (y18:(List (List tV))×List Int) (L20:Int→(List tV)→Option (ByteArray×Int)) (q21:Int) (q22:List tV):Option (ByteArray×Int) :=
  (bif (decide (q21<(y18.1.length:Int))) then (bif (decide (0≤q21)&&decide (q21<(y18.1.length:Int))) then (bif (decide (0≤(0:Int))&&decide ((0:Int)<((y18.1.getD ((0:Int)+q21).toNat []).length:Int))) then (bif (Nat.ble (q22.length+[((y18.1.getD ((0:Int)+q21).toNat []).getD ((0:Int)+(0:Int)).toNat ((0:Int),(0:Int)))].length) (lim 16)) then L20 (w (q21+(1:Int))) (q22++[((y18.1.getD ((0:Int)+q21).toNat []).getD ((0:Int)+(0:Int)).toNat ((0:Int),(0:Int)))]) else none) else none) else none) else (f23G K y2 q22).bind fun y23=>(bif (y23.2 != (0:Int)) then some (ByteArray.empty,y23.2) else (bif (Nat.ble (q11.size+y23.1.size) 9223372036854775807) then some ((q11++y23.1),(0:Int)) else none)))
def f6_l20 (a0:Int×tL×List Int) (q11:ByteArray) (q12:Int) (q13 q14:List tM) (y1:Bool) (y2:Int×tL×List Int) (y5:List tM) (y18:(List (List tV))×List Int) (n:Nat) (q21:Int) (q22:List tV):Option (ByteArray×Int) :=
  iter (X:=Int×List tV) (fun L x=>f6_b20 K a0 q11 q12 q13 q14 y1 y2 y5 y18 (fun v0 v1=>L (v0,v1)) x.1 x.2) n (q21,q22)
def f6_b10 (a0:Int×tL×List Int) (y1:Bool) (y2:Int×tL×List Int) (y5:List tM) (I20:ByteArray→Int→(List tM)→(List tM)→Bool→(Int×tL×List Int)→(List tM)→((List (List tV))×List Int)→Int→(List tV)→Option (ByteArray×Int)) (L10:ByteArray→Int→(List tM)→(List tM)→Option (ByteArray×Int)) (q11:ByteArray) (q12:Int) (q13 q14:List tM):Option (ByteArray×Int) :=
  (bif (decide (q12<(y5.length:Int))) then (bif (decide (0≤q12)&&decide (q12<(y5.length:Int))) then (f20G K q14 ((((y5.getD ((0:Int)+q12).toNat zM).1).1,(((y5.getD ((0:Int)+q12).toNat zM).1).2).1,((((y5.getD ((0:Int)+q12).toNat zM).1).2).2)),((y5.getD ((0:Int)+q12).toNat zM).2))).bind fun y15=>(bif (!y15) then (f21G K ((((y5.getD ((0:Int)+q12).toNat zM).1).1,(((y5.getD ((0:Int)+q12).toNat zM).1).2).1,((((y5.getD ((0:Int)+q12).toNat zM).1).2).2)),((y5.getD ((0:Int)+q12).toNat zM).2))).bind fun y16=>(bif (Nat.ble ((bs [109,111,116,105,111,110,32]).size+y16.size) 9223372036854775807) then (bif (Nat.ble (((bs [109,111,116,105,111,110,32])++y16).size+(bs [10]).size) 9223372036854775807) then (bif (Nat.ble (q11.size+(((bs [109,111,116,105,111,110,32])++y16)++(bs [10])).size) 9223372036854775807) then (bif (Nat.ble (q13.length+[((((y5.getD ((0:Int)+q12).toNat zM).1).1,(((y5.getD ((0:Int)+q12).toNat zM).1).2).1,((((y5.getD ((0:Int)+q12).toNat zM).1).2).2)),((y5.getD ((0:Int)+q12).toNat zM).2))].length) (lim 48)) then (f18G K y2.2.1 (q13++[((((y5.getD ((0:Int)+q12).toNat zM).1).1,(((y5.getD ((0:Int)+q12).toNat zM).1).2).1,((((y5.getD ((0:Int)+q12).toNat zM).1).2).2)),((y5.getD ((0:Int)+q12).toNat zM).2))])).bind fun y17=>L10 (q11++(((bs [109,111,116,105,111,110,32])++y16)++(bs [10]))) (w (q12+(1:Int))) (q13++[((((y5.getD ((0:Int)+q12).toNat zM).1).1,(((y5.getD ((0:Int)+q12).toNat zM).1).2).1,((((y5.getD ((0:Int)+q12).toNat zM).1).2).2)),((y5.getD ((0:Int)+q12).toNat zM).2))]) y17 else none) else none) else none) else none) else L10 q11 (w (q12+(1:Int))) q13 q14) else none) else (f22G K y2.2.1 y5).bind fun y18=>I20 q11 q12 q13 q14 y1 y2 y5 y18 (0:Int) [])
def f6_l10 (a0:Int×tL×List Int) (y1:Bool) (y2:Int×tL×List Int) (y5:List tM) (n:Nat) (q11:ByteArray) (q12:Int) (q13 q14:List tM):Option (ByteArray×Int) :=
  iter (X:=ByteArray×Int×List tM×List tM) (fun L x=>f6_b10 K a0 y1 y2 y5 (fun c0 c1 c2 c3 c4 c5 c6 c7 d0 d1=>f6_l20 K a0 c0 c1 c2 c3 c4 c5 c6 c7 K d0 d1) (fun v0 v1 v2 v3=>L (v0,v1,v2,v3)) x.1 x.2.1 x.2.2.1 x.2.2.2) n (q11,q12,q13,q14)
def f6_g (a0:Int×tL×List Int) (I10:Bool→(Int×tL×List Int)→(List tM)→ByteArray→Int→(List tM)→(List tM)→Option (ByteArray×Int)):Option (ByteArray×Int) :=
  (f15G K a0).bind fun y1=>(bif (!y1) then some (ByteArray.empty,(1:Int)) else (f16G K a0).bind fun y2=>(f17G K y2).bind fun y3=>(f18G K y2.2.1 []).bind fun y4=>(f19G K y2).bind fun y5=>I10 y1 y2 y5 y3 (0:Int) [] y4)
def f6G (a0:Int×tL×List Int):Option (ByteArray×Int) :=
  f6_g K a0 (fun c0 c1 c2 d0 d1 d2 d3=>f6_l10 K a0 c0 c1 c2 K d0 d1 d2 d3)
def f6M:Mdl:=⟨[(.ro,(.cons sI (.cons sL (.list 2 sI))))],[.str,sI],fun x=>f6G K x.1⟩
def f6_k10 (a0:Int×tL×List Int) (lr:LR (ByteArray×Int)):Ex→Fr→Option (ByteArray×Int) :=
  contC (f6E K) 1 lr f6C [1,1,1,1,0,1,0] (fM (f6E K) Tryz.f6 (f6M K) (a0,()))
def f6_j10 (a0:Int×tL×List Int) (lr:LR (ByteArray×Int)) (y1:Bool) (y2:Int×tL×List Int) (y5:List tM) (bq11:ByteArray) (bq12:Int) (bq13 bq14:List tM):Option (ByteArray×Int) :=
  lr (selC f6C [1,1,1,1,0,1,0,0]) (f6_fr10 a0 y1 y2 y5 bq11 bq12 bq13 bq14) (f6_k10 K a0 lr)
def f6_k20 (a0:Int×tL×List Int) (lr:LR (ByteArray×Int)):Ex→Fr→Option (ByteArray×Int) :=
  contC (f6E K) 1 lr f6C [1,1,1,1,1,1,1,0,1,0] (fM (f6E K) Tryz.f6 (f6M K) (a0,()))
def f6_j20 (a0:Int×tL×List Int) (lr:LR (ByteArray×Int)) (q11:ByteArray) (q12:Int) (q13 q14:List tM) (y1:Bool) (y2:Int×tL×List Int) (y5:List tM) (y18:(List (List tV))×List Int) (bq21:Int) (bq22:List tV):Option (ByteArray×Int) :=
  lr (selC f6C [1,1,1,1,1,1,1,0,1,0,0]) (f6_fr20 a0 q11 q12 q13 q14 y1 y2 y5 y18 bq21 bq22) (f6_k20 K a0 lr)
end
end Go.Proofs.YtelgaemfnhnbmaaGreatDoor.X
