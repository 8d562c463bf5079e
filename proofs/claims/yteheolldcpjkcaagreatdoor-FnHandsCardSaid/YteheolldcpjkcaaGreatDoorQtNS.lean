/- Plain facts: both sides close a list of motions alike. -/
import Derived.Test.YteheolldcpjkcaaGreatDoorQtMT
namespace Go.Proofs.YteheolldcpjkcaaGreatDoor.X
open Go
set_option linter.unusedSimpArgs false
attribute [local instance] cwD
set_option linter.unusedVariables false
def SM (s:List Mo):Prop:=s.Pairwise fun a b=>ltM a b=true
structure Bo (f:Int) (l:Lt) (out queue:List Mo) (mp:List (Mo×Bool)):Prop where
 cl:Cl f l out queue
 nd:queue.Nodup
 key:∀ x,(FD (Ca AoK) mp x).getD false=queue.contains x
def Ap8 (n:Int):List (Int×List Mo) :=
 [(0,[]),(0,[((-1,0,0,-1),0,0)]),(0,[((1,0,0,-1),0,0)]),(0,[((1,0,0,-1),n,0)]),(0,[((0,1,1,0),0,0)]),
 (0,[((1,0,0,-1),0,0),((-1,0,0,-1),0,0)]),(0,[((1,0,0,-1),n,0),((-1,0,0,-1),0,0)]),(0,[((1,0,0,-1),n,n),((-1,0,0,-1),0,0)]),
 (0,[((0,1,1,0),0,0),((-1,0,0,-1),0,0)]),(0,[((0,-1,1,0),0,0)]),(0,[((0,-1,1,0),0,0),((1,0,0,-1),0,0)]),(0,[((0,-1,1,0),0,0),((1,0,0,-1),n,n)]),
 (1,[((-1,-1,1,0),0,0)]),(1,[((-1,-1,1,0),0,0),((0,1,1,0),0,0)]),(1,[((-1,-1,1,0),0,0),((1,1,0,-1),0,0)]),(1,[((0,-1,1,1),0,0)]),(1,[((0,-1,1,1),0,0),((0,1,1,0),0,0)])]
def AlK (n:Int):Lt:=(w ((2:Int)*n),0,w ((2:Int)*n))
def Aqn (n:Int) (m:Int×List Mo):Bool:=(m.2.all fun x=>(AP m.1 (AlK n)).contains x.1&&AB (AlK n) x.2)&&(okF m.1&&okL (AlK n))
def AqE (n:Int) (o:Option (Int×List Mo×Bool)):Prop:=(∃ m∈Ap8 n,o=some (m.1,m.2,true))∨o=some (0,[],false)
abbrev Sgr:=Int×Lt×List Mo×Int
end Go.Proofs.YteheolldcpjkcaaGreatDoor.X
