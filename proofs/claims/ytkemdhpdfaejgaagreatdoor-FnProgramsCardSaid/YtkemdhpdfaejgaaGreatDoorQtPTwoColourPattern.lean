/- The plain law of TwoColourPattern: both sides mark the group's orbit with 2, and then the half's with 1. -/
import Derived.Test.YtkemdhpdfaejgaaGreatDoorQtPOrbitNumbers
namespace Go.Proofs.YtkemdhpdfaejgaaGreatDoor.X
open Go
set_option linter.unusedSimpArgs false
set_option linter.unusedVariables false
theorem Z5 {l:Lt} (hl:IsL l) (f c:Int) {o:List Vc} (ho:∀ u∈o,Ah l u=true) (hn:o.length≤1000):Ai7 KK f l o c=some (f,l,Cn l c o (List.replicate (Aa l).length 0)):=by
 have hh:=AJ (R:=Pt) (body:=fun L x=>K5 KK f l o c (fun v0 v1=>L (v0,v1)) x.1 x.2) o (fun q s=>((q:Int),s)) (fun s u=>s.set (A8 l u) c) (fun s=>some (f,l,s)) (fun q s=>s.length=(Aa l).length)
  (fun L q s hq hi=>by
   refine⟨by rw[ACg];exact hi,?_⟩
   show K5 KK f l o c (fun v0 v1=>L (v0,v1)) (q:Int) s=_;unfold K5;have hlt:=Ck hl o[q];rw[in1 hq,in0,gd hq];simp only[aS,cT];rw[FS hl (ho _ (gM hq)),oB,in0,in1 (show A8 l o[q]<s.length by omega),Af (by omega)]
   have e1:((0:Int)+((A8 l o[q]:Nat):Int)).toNat=A8 l o[q]:=by omega
   simp only[aS,cT,e1])
  (fun L s hi=>by
   show K5 KK f l o c (fun v0 v1=>L (v0,v1)) (o.length:Int) s=_;unfold K5;rw[AO,cF]) KK 0 (List.replicate (Aa l).length 0) (by omega) (by simp only[KK];omega) (by simp)
 unfold Ai7 Ai6 Ts;simp only[oB];obtain⟨e1,e2⟩:=AdM hl;rw[e1,cT,e2];rw[ABb] at hh;exact hh
def Azd (f:Int) (l:Lt) (g s:List Mo) (v:Vc):Bool:=Ah l v&&(EF f l s&&((2*s.length==g.length)&&s.all g.contains))
def AtG (f:Int) (l:Lt) (g s:List Mo) (v:Vc):Int:=bif BN f l g true != 0 then BN f l g true else bif Azd f l g s v then (bif decide (48<g.length) then 3 else 0) else 2
def AAD (l:Lt) (g s:List Mo) (v:Vc):List Int:=Cn l 1 (Bc l s v) (Cn l 2 (Bc l g v) (List.replicate (Aa l).length 0))
def AAS (f:Int) (l:Lt) (g s:List Mo) (v:Vc):Pt×Int:=bif AtG f l g s v != 0 then (dP,AtG f l g s v) else bif decide ((Bc l s v).length<(Bc l g v).length) then ((f,l,AAD l g s v),0) else (dP,5)
end Go.Proofs.YtkemdhpdfaejgaaGreatDoor.X
