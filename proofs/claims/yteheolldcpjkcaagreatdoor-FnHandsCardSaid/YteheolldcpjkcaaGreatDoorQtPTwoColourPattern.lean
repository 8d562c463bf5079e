/- The plain law of TwoColourPattern: both sides mark the group's orbit with 2, and then the half's with 1. -/
import Derived.Test.YteheolldcpjkcaaGreatDoorQtPOrbitNumbers
namespace Go.Proofs.YteheolldcpjkcaaGreatDoor.X
open Go
set_option linter.unusedSimpArgs false
set_option linter.unusedVariables false
def Ao3 (f:Int) (l:Lt) (g s:List Mo) (v:Vc):Bool:=AB l v&&(HC f l s&&((2*s.length==g.length)&&s.all g.contains))
def AkG (f:Int) (l:Lt) (g s:List Mo) (v:Vc):Int:=bif Ee f l g true != 0 then Ee f l g true else bif Ao3 f l g s v then (bif decide (48<g.length) then 3 else 0) else 2
def Aqa (l:Lt) (g s:List Mo) (v:Vc):List Int:=Ep l 1 (BV l s v) (Ep l 2 (BV l g v) (List.replicate (Ab l).length 0))
def Aqq (f:Int) (l:Lt) (g s:List Mo) (v:Vc):Pt×Int:=bif AkG f l g s v != 0 then (dP,AkG f l g s v) else bif decide ((BV l s v).length<(BV l g v).length) then ((f,l,Aqa l g s v),0) else (dP,5)
end Go.Proofs.YteheolldcpjkcaaGreatDoor.X
