/- Plain facts: both sides close a list of motions alike. -/
import Derived.Test.YteheolldcpjkcaaGreatQuMT
namespace Go.Proofs.YteheolldcpjkcaaGreat.X
open Go
set_option linter.unusedSimpArgs false
attribute [local instance] cwD
set_option linter.unusedVariables false
def SM (s:List Mo):Prop:=s.Pairwise fun a b=>ltM a b=true
structure Bo (f:Int) (l:Lt) (out queue:List Mo) (mp:List (Mo×Bool)):Prop where
 cl:Cl f l out queue
 nd:queue.Nodup
 key:∀ x,(B5 (A7 QV) mp x).getD false=queue.contains x
def ApV (n:Int):List (Int×List Mo) :=
 [(0,[]),(0,[((-1,0,0,-1),0,0)]),(0,[((1,0,0,-1),0,0)]),(0,[((1,0,0,-1),n,0)]),(0,[((0,1,1,0),0,0)]),
 (0,[((1,0,0,-1),0,0),((-1,0,0,-1),0,0)]),(0,[((1,0,0,-1),n,0),((-1,0,0,-1),0,0)]),(0,[((1,0,0,-1),n,n),((-1,0,0,-1),0,0)]),
 (0,[((0,1,1,0),0,0),((-1,0,0,-1),0,0)]),(0,[((0,-1,1,0),0,0)]),(0,[((0,-1,1,0),0,0),((1,0,0,-1),0,0)]),(0,[((0,-1,1,0),0,0),((1,0,0,-1),n,n)]),
 (1,[((-1,-1,1,0),0,0)]),(1,[((-1,-1,1,0),0,0),((0,1,1,0),0,0)]),(1,[((-1,-1,1,0),0,0),((1,1,0,-1),0,0)]),(1,[((0,-1,1,1),0,0)]),(1,[((0,-1,1,1),0,0),((0,1,1,0),0,0)])]
def Amh (n:Int):Lt:=(w ((2:Int)*n),0,w ((2:Int)*n))
def Ap3 (n:Int) (m:Int×List Mo):Bool:=(m.2.all fun x=>(Ba m.1 (Amh n)).contains x.1&&Al (Amh n) x.2)&&(okF m.1&&okL (Amh n))
def Aqk (n:Int) (o:Option (Int×List Mo×Bool)):Prop:=(∃ m∈ApV n,o=some (m.1,m.2,true))∨o=some (0,[],false)
abbrev Sgr:=Int×Lt×List Mo×Int
end Go.Proofs.YteheolldcpjkcaaGreat.X
