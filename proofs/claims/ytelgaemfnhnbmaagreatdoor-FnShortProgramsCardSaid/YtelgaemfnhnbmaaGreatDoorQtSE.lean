/- Matrices that are rotations or reflections: the reference counts powers, the program looks at trace and determinant. -/
import Derived.Test.YtelgaemfnhnbmaaGreatDoorQtME
namespace Go.Proofs.YtelgaemfnhnbmaaGreatDoor.X
open Go
set_option linter.unusedSimpArgs false
set_option linter.unusedVariables false
structure Sk (m:Mt):Prop where
 a : -1000≤m.1∧m.1≤1000
 b : -1000≤m.2.1∧m.2.1≤1000
 c : -1000≤m.2.2.1∧m.2.2.1≤1000
 d : -1000≤m.2.2.2∧m.2.2.2≤1000
theorem small_iff {m:Mt}:smallB m=true↔Sk m:=by
 unfold smallB;rw[aT,vecB_iff,vecB_iff];exact⟨fun⟨⟨a,b⟩,c,d⟩=>⟨a,b,c,d⟩,fun⟨a,b,c,d⟩=>⟨⟨a,b⟩,c,d⟩⟩
theorem pb {x y:Int} (hx : -1000≤x∧x≤1000) (hy : -1000≤y∧y≤1000) : -1000000≤x*y∧x*y≤1000000:=by
 have:=prod_bound (a:=x) (b:=y) (B:=1000) (by omega) hx hy
 omega
theorem det_calc {m:Mt} (h:Sk m):w ((w (m.1*m.2.2.2))-(w (m.2.1*m.2.2.1)))=detS m:=by
 have h1:=pb h.a h.d;have h2:=pb h.b h.c;rw[w_id (n:=m.1*m.2.2.2) (by omega) (by omega),w_id (n:=m.2.1*m.2.2.1) (by omega) (by omega),w_id (by omega) (by omega)]
 rfl
def goO (m:Mt):Nat→Int→Mt→Int
 | 0,_,_=>0
 | f+1,k,o=>bif smallB (mmS m o) then (bif mmS m o==(1,0,0,1) then k else goO m f (k+1) (mmS m o)) else 0
theorem mt_beq (a b:Mt):((a.1==b.1)&&((a.2.1==b.2.1)&&((a.2.2.1==b.2.2.1)&&(a.2.2.2==b.2.2.2))))=(a==b):=rfl
def trS (m:Mt):Int:=m.1+m.2.2.2
def pwS (m:Mt) (x y:Int):Mt:=(x*m.1-y,x*m.2.1,x*m.2.2.1,x*m.2.2.2-y)
def turnB (m:Mt):Bool:=(detS m==1&&(m==(1,0,0,1)||(m==(-1,0,0,-1)||(trS m == -1||(trS m==0||trS m==1)))))||(detS m == -1&&trS m==0)
def seqP (t D:Int):Nat→Int×Int
 | 0=>(0,-1)
 | n+1=>((seqP t D n).1*t-(seqP t D n).2,(seqP t D n).1*D)
def farB (t:Int):Bool:=[1,2,3,4,5,6].all fun n=>(seqP t 1 n).1 != 0
end Go.Proofs.YtelgaemfnhnbmaaGreatDoor.X
