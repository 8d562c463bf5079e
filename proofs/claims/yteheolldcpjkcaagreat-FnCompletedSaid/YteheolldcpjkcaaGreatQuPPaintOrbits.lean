/- The plain law of PaintOrbits: both sides give each cell the colour of its orbit. -/
import Derived.Test.YteheolldcpjkcaaGreatQuPOrbitNumbers
namespace Go.Proofs.YteheolldcpjkcaaGreat.X
open Go
set_option linter.unusedSimpArgs false
set_option linter.unusedVariables false
theorem Amo {f:Int} {l:Lt} {g:List Mo} (h:Bv f l g) {k:Int} (hk:k∈Ax l g):0≤k∧k<((Ao l g).length:Int):=by
 obtain⟨v,hv,rfl⟩:=AqG.1 hk;rcases Dd (fun o:List Vc=>o.contains v) (Ao l g) 0 with ⟨_,h2⟩ | ⟨j,h1,h2,_⟩
 ·have:=MY h (AN hv);obtain⟨o,ho,hc⟩:=Arb.1 this;rw[h2 o ho] at hc;cases hc
 ·rw[h2];omega
theorem AaW (l:Lt) (g:List Mo):(Ax l g).length=(Ab l).length:=by simp[Ax]
def JP (l:Lt) (g:List Mo) (c:List Int):List Int:=(Ax l g).map fun k=>c.getD k.toNat 0
theorem TY {α β:Type} (φ:α→β):∀ (l:List α) (s:List β),l.foldl (fun s a=>s++[φ a]) s=s++l.map φ
 | [],s=>by simp
 | a :: l,s=>by simp[TY φ l]
theorem AaX {f:Int} {l:Lt} {g:List Mo} (h:Bv f l g) {c:List Int} (hc:c.length=(Ao l g).length):SH KK f l g c=some (f,l,JP l g c):=by
 have hN:=Be h.la;have hL:=AaW l g;have hO:=Dt h.la g;have hh:=AQ (R:=Pt) (body:=fun L x=>G6 KK f l g c (Ax l g) (fun v0 v1=>L (v0,v1)) x.1 x.2) (Ax l g) (fun q s=>((q:Int),s)) (fun s k=>s++[c.getD k.toNat 0]) (fun s=>some (f,l,s)) (fun q s=>s.length=q)
  (fun L q s hq hi=>by
   refine⟨by simp[hi],?_⟩
   obtain⟨k1,k2⟩:=Amo h (gM hq);show G6 KK f l g c (Ax l g) (fun v0 v1=>L (v0,v1)) (q:Int) s=_;unfold G6;have e0:((0:Int)+(Ax l g)[q]).toNat=((Ax l g)[q]).toNat:=by omega
   simp only[in1 hq,in0,gd hq,aS,cT,e0];rw[dT k1,dT (show (Ax l g)[q]<(c.length:Int) by omega),Ak (by omega)]
   simp only[aS,cT];rw[HG (by simp;omega),cT])
  (fun L s hi=>by
   show G6 KK f l g c (Ax l g) (fun v0 v1=>L (v0,v1)) ((Ax l g).length:Int) s=_;unfold G6;rw[AS,cF]) KK 0 [] (by omega) (by simp only[KK];omega) rfl
 unfold SH U2;rw[CO h,oB];rw[Aqq,TY,AqM] at hh;exact hh
def Ap8 (f:Int) (l:Lt) (g:List Mo) (c:List Int):Pt×Int:=bif AB f l g true != 0 then (dP,AB f l g true) else bif (c.length==(Ao l g).length)&&c.all okC then ((f,l,JP l g c),0) else (dP,2)
end Go.Proofs.YteheolldcpjkcaaGreat.X
