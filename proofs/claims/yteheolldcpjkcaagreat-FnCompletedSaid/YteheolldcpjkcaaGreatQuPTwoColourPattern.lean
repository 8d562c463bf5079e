/- The plain law of TwoColourPattern: both sides mark the group's orbit with 2, and then the half's with 1. -/
import Derived.Test.YteheolldcpjkcaaGreatQuPOrbitNumbers
namespace Go.Proofs.YteheolldcpjkcaaGreat.X
open Go
set_option linter.unusedSimpArgs false
set_option linter.unusedVariables false
theorem VT {l:Lt} (hl:IsL l) (f c:Int) {o:List Vc} (ho:∀ u∈o,Al l u=true) (hn:o.length≤1000):AcP KK f l o c=some (f,l,B9 l c o (List.replicate (Ab l).length 0)):=by
 have hh:=AQ (R:=Pt) (body:=fun L x=>JB KK f l o c (fun v0 v1=>L (v0,v1)) x.1 x.2) o (fun q s=>((q:Int),s)) (fun s u=>s.set (AY l u) c) (fun s=>some (f,l,s)) (fun q s=>s.length=(Ab l).length)
  (fun L q s hq hi=>by
   refine⟨by rw[Aq4];exact hi,?_⟩
   show JB KK f l o c (fun v0 v1=>L (v0,v1)) (q:Int) s=_;unfold JB;have hlt:=BX hl o[q];rw[in1 hq,in0,gd hq];simp only[aS,cT];rw[ET hl (ho _ (gM hq)),oB,in0,in1 (show AY l o[q]<s.length by omega),Ak (by omega)]
   have e1:((0:Int)+((AY l o[q]:Nat):Int)).toNat=AY l o[q]:=by omega
   simp only[aS,cT,e1])
  (fun L s hi=>by
   show JB KK f l o c (fun v0 v1=>L (v0,v1)) (o.length:Int) s=_;unfold JB;rw[AS,cF]) KK 0 (List.replicate (Ab l).length 0) (by omega) (by simp only[KK];omega) (by simp)
 unfold AcP AcO Qa;simp only[oB];obtain⟨e1,e2⟩:=Zd hl;rw[e1,cT,e2];rw[Aqq] at hh;exact hh
def Ao9 (f:Int) (l:Lt) (g s:List Mo) (v:Vc):Bool:=Al l v&&(Dp f l s&&((2*s.length==g.length)&&s.all g.contains))
def Alv (f:Int) (l:Lt) (g s:List Mo) (v:Vc):Int:=bif AB f l g true != 0 then AB f l g true else bif Ao9 f l g s v then (bif decide (48<g.length) then 3 else 0) else 2
def ApY (l:Lt) (g s:List Mo) (v:Vc):List Int:=B9 l 1 (A6 l s v) (B9 l 2 (A6 l g v) (List.replicate (Ab l).length 0))
def Ap9 (f:Int) (l:Lt) (g s:List Mo) (v:Vc):Pt×Int:=bif Alv f l g s v != 0 then (dP,Alv f l g s v) else bif decide ((A6 l s v).length<(A6 l g v).length) then ((f,l,ApY l g s v),0) else (dP,5)
end Go.Proofs.YteheolldcpjkcaaGreat.X
