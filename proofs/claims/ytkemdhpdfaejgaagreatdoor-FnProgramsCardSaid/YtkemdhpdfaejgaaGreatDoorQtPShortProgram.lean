/- The plain law of ShortProgram: both sides tell the motions that the group needs, and then the first cell of each orbit. -/
import Derived.Test.YtkemdhpdfaejgaaGreatDoorQtSD
namespace Go.Proofs.YtkemdhpdfaejgaaGreatDoor.X
open Go
set_option linter.unusedSimpArgs false
set_option linter.unusedVariables false
noncomputable def clS (l:Lt) (gs:List Mo):List Mo:=(FG KK l gs).getD []
theorem Z3 {f:Int} {l:Lt} (hl:IsL l) {gs:List Mo} (hg:∀ m∈gs,OkM f l m) (hgn:gs.length≤1000):FG KK l gs=some (clS l gs)∧Ob KK l gs=some (clS l gs)∧Gd' f l gs (clS l gs):=by
 obtain⟨g,e1,e2,h⟩:=RG hl hg hgn;unfold clS;rw[e1];exact⟨rfl,e2,h⟩
theorem AkO {f:Int} (hf:okF f=true) {l:Lt} (hl:IsL l):Gd' f l [] [uMo]:=by
 refine⟨Uk hf hl,fun x hx=>by rw[mS] at hx;rw[hx];exact .one,fun x hx=>?_⟩
 cases hx with
 | one=>simp
 | mul m x hm _=>cases hm
theorem RB {f:Int} {l:Lt} {gs g g':List Mo} (h:Gd' f l gs g) (h':Gd' f l gs g'):g=g' :=
 Im h.orb.pr.pw h'.orb.pr.pw fun x=>⟨fun hx=>h'.all x (h.gen x hx),fun hx=>h.all x (h'.gen x hx)⟩
abbrev Sp:=List UInt8×List Mo×List Mo
noncomputable def G7 (l:Lt) (s:Sp) (m:Mo):Sp:=bif s.2.2.contains m then s else (s.1++Al0 m,s.2.1++[m],clS l (s.2.1++[m]))
structure Iv4 (f:Int) (l:Lt) (G:List Mo) (s:Sp):Prop where
 tl:∀ m∈s.2.1,m∈G
 gd:Gd' f l s.2.1 s.2.2
 pw:2 ^ s.2.1.length≤s.2.2.length
 tx:s.1.length≤100+60*s.2.1.length
theorem Iv4.few {f:Int} {l:Lt} {G:List Mo} (hG:Bj f l G) (h12:G.length≤12) {s:Sp} (h:Iv4 f l G s):s.2.1.length≤3:=by
 have h1:=Eu s.2.2 G h.gd.orb.pr.nodup fun x hx=>(h.gd.gen x hx).into hG.one h.tl fun m hm n hn=>hG.mul hm hn;rcases ABK s.2.1.length 4 with h2 | h2
 ·omega
 ·have h3:2 ^ 4≤2 ^ s.2.1.length:=ADc (by omega) h2
  have:=h.pw;have e:(2:Nat) ^ 4=16:=by decide
  omega
theorem Iv4.next {f:Int} {l:Lt} {G:List Mo} (hG:Bj f l G) (h12:G.length≤12) {s:Sp} (h:Iv4 f l G s) {m:Mo} (hm:m∈G):Iv4 f l G (G7 l s m):=by
 have hl:=hG.la;have hfew:=h.few hG h12;unfold G7;cases hc:s.2.2.contains m
 ·have hmn:m ∉ s.2.2:=fun e=>by rw[AA6.2 e] at hc;cases hc
  have htl:∀ x∈s.2.1++[m],x∈G:=fun x hx=>by
   rcases AA8.1 hx with hx | hx
   ·exact h.tl x hx
   ·rw[mS] at hx;rw[hx];exact hm
  have hok:∀ x∈s.2.1++[m],OkM f l x:=fun x hx=>hG.pr.mem x (htl x hx);have hgd:=(Z3 hl hok (by simp;omega)).2.2
  have ht:=XE hl hok h.gd hgd hmn;have hml:=Pe (DX (hG.pr.mem m hm).1) (CC hl (hG.pr.mem m hm).2);have hx:=h.tx;refine⟨htl,hgd,?_,?_⟩
  ·simp only[cF,lA,ABA];rw[ADF];have:=h.pw;omega
  ·simp only[cF,lA,ABc,ABm,Al0];omega
 ·exact h
def D0 (l:Lt) (g:List Mo):List Vc:=(AE l g).map fun o=>o.headD (0,0)
theorem Apr {l:Lt} (hl:IsL l) (g:List Mo):(D0 l g).length≤64:=by
 unfold D0;rw[ABf];exact OZ hl g
theorem O0 {f:Int} {l:Lt} {g:List Mo} (h:Bj f l g):∀ v∈D0 l g,Ah l v=true:=fun v hv=>by
 obtain⟨o,ho,rfl⟩:=ABe.1 hv;obtain⟨x,t,rfl,hx⟩:=Uo h ho;exact hx
theorem Aps {f:Int} {l:Lt} {g:List Mo} (h:Bj f l g) {q:Nat} (hq:q<(AE l g).length):0<(AE l g)[q].length∧(AE l g)[q].getD ((0:Int)+(0:Int)).toNat ((0:Int),(0:Int))=(AE l g)[q].headD (0,0):=by
 obtain⟨x,t,e,_⟩:=Uo h (gM hq);rw[e];exact⟨by simp,rfl⟩
theorem gB0 {n:Nat} (h:0<n):(decide (0≤(0:Int))&&decide ((0:Int)<(n:Int)))=true:=by
 rw[dT (show (0:Int)<(n:Int) by omega)]
 rfl
noncomputable def Agb (p:Pt) (g:List Mo) (s:Sp):ByteArray×Int:=Kw s.1 ((D0 p.2.1 g).foldl (DN p) ([],0))
theorem AkP {q:Nat} (h:q≤3):decide ((q:Int)>(8:Int))=false:=dF (by omega)
theorem Agc {p a0:Pt} (hp:IsP p) (hc:∀ v,0≤atS p v∧atS p v≤9) {g:List Mo} (hG:Bj p.1 p.2.1 g) {s:Sp} {q12:Int} {y1:Bool} {y3:List Mo} (h3:s.2.1.length≤3) (htx:s.1.length≤1000) :
  Ic KK a0 q12 s.2.1 s.2.2 y1 p y3 (AE p.2.1 g) KK (mk s.1) (0:Int) (0:Int)=some (Agb p g s):=by
 have hl:=hp.l;have hN:=OZ hl g;have hN2:(D0 p.2.1 g).length=(AE p.2.1 g).length:=ABf _;have hh:=AJ (R:=ByteArray×Int) (body:=fun L x=>Ib KK a0 q12 s.2.1 s.2.2 y1 p y3 (AE p.2.1 g) (fun v0 v1 v2=>L (v0,v1,v2)) x.1 x.2.1 x.2.2) (D0 p.2.1 g) (fun q (t:List UInt8×Nat)=>(mk t.1,((t.2:Nat):Int),(q:Int))) (DN p) (fun t=>some (bif decide (40<t.2) then (ByteArray.empty,3) else (mk t.1,0))) (fun q t=>t.1.length≤1000+30*q∧t.2≤q)
  (fun L q t hq hi=>by
   have hcell:=O0 hG _ (gM hq);have hvb:=CC hl hcell;have hb:=UP hc hvb (s:=t);refine⟨by omega,?_⟩
   show Ib KK a0 q12 s.2.1 s.2.2 y1 p y3 (AE p.2.1 g) (fun v0 v1 v2=>L (v0,v1,v2)) (mk t.1) ((t.2:Nat):Int) (q:Int)=_;unfold Ib;have hq':q<(AE p.2.1 g).length:=by omega
   obtain⟨k1,k2⟩:=Aps hG hq';have ef:(D0 p.2.1 g)[q]=(AE p.2.1 g)[q].headD (0,0):=AEd ..;have ha:=hc (D0 p.2.1 g)[q];have hm:=FX hvb (c:=atS p (D0 p.2.1 g)[q]) (by omega)
   have hcb:=E9 hl hcell;rw[in1 hq',in0,gd hq',gB0 k1,k2,← ef,J5 hp (v:=(D0 p.2.1 g)[q]) (by unfold Sm;omega),Af (by omega),Af (by omega)]
   simp only[aS,cT,oB];rw[HM hvb ha.1 ha.2];simp only[oB];rw[Aq,Aq,AN (by omega),Be]
   unfold DN;have e3:decide (atS p (D0 p.2.1 g)[q]>(0:Int))=!(atS p (D0 p.2.1 g)[q]==0):=by
    rw[ABR,dE,AB7,bN];omega
   rw[e3];cases atS p (D0 p.2.1 g)[q]==0<;>rfl)
  (fun L t hi=>by
   show Ib KK a0 q12 s.2.1 s.2.2 y1 p y3 (AE p.2.1 g) (fun v0 v1 v2=>L (v0,v1,v2)) (mk t.1) ((t.2:Nat):Int) ((D0 p.2.1 g).length:Int)=_;unfold Ib;rw[hN2,AO,cF,g40,AkP h3];cases decide (40<t.2)<;>rfl) KK 0 (s.1,0) (by omega) (by simp only[KK];omega) (by simp;omega)
 rw[ABb] at hh;have hpre:=Pf p s.1 (D0 p.2.1 g) ([],0);rw[ABD] at hpre;rw[hpre] at hh;exact hh
noncomputable def CU (p:Pt):ByteArray×Int:=bif okP p then Agb (Ap p) (Au (Ap p)) ((Au (Ap p)).foldl (G7 (Ap p).2.1) (Dc p.1 (Ap p).2.1,[],[uMo])) else (ByteArray.empty,1)
theorem AtE {f:Int} (hf:okF f=true) {l:Lt} (hl:IsL l) (G:List Mo):Iv4 f l G (Dc f l,[],[uMo]) :=
 ⟨by simp,AkO hf hl,by simp,by have:=FW f hl;simp only[ABm];omega⟩
theorem AtF {f:Int} {l:Lt} {G:List Mo} (hG:Bj f l G) {m:Mo} (hm:m∈G):m.1∈pmQ++pmH∧Ba m.2=true:=⟨DX (hG.pr.mem m hm).1,CC hG.la (hG.pr.mem m hm).2⟩
theorem HH {p:Pt} (h:okP p=true):okF p.1=true:=by
 unfold okP at h;simp only[aT] at h;exact h.1.1.1
theorem AkQ {p:Pt} (h:okP p=true) (v:Vc):0≤atS (Ap p) v∧atS (Ap p) v≤9:=by
 rw[UM (E7 h)];exact atC h v
theorem Agd (p:Pt):Aih KK p=some (CU p):=by
 unfold Aih Aig CU;rw[DG,oB];cases h:okP p
 ·rfl
 ·have hp:=E7 h;have hf:=HH h;have hq:=Ig hp;have hG:=DM hq;have h12:=O9 hp;simp only[nT,cF,cT];rw[Ot hp,oB,W4 hq,oB,HL (p:=Ap p) hf hq.l,oB];have hu:VV KK=some uMo:=rfl;rw[hu,oB];have hh:=AJ (R:=ByteArray×Int) (X:=ByteArray×Int×List Mo×List Mo) (body:=fun L x=>Gi KK p true (Ap p) (Au (Ap p)) (fun c0 c1 c2 c3 c4 c5 c6 d0 d1 d2=>Ic KK p c0 c1 c2 c3 c4 c5 c6 KK d0 d1 d2) (fun v0 v1 v2 v3=>L (v0,v1,v2,v3)) x.1 x.2.1 x.2.2.1 x.2.2.2) (Au (Ap p)) (fun q (s:Sp)=>(mk s.1,(q:Int),s.2.1,s.2.2)) (G7 (Ap p).2.1) (fun s=>some (Agb (Ap p) (Au (Ap p)) s)) (fun q s=>Iv4 (Ap p).1 (Ap p).2.1 (Au (Ap p)) s)
   (fun L q s hq' hi=>by
    have hmem:=gM hq';obtain⟨b1,b2⟩:=AtF hG hmem;have hfew:=hi.few hG h12;have htx:=hi.tx;have hml:=Pe b1 b2;refine⟨hi.next hG h12 hmem,?_⟩;show Gi KK p true (Ap p) (Au (Ap p)) (fun c0 c1 c2 c3 c4 c5 c6 d0 d1 d2=>Ic KK p c0 c1 c2 c3 c4 c5 c6 KK d0 d1 d2) (fun v0 v1 v2 v3=>L (v0,v1,v2,v3)) (mk s.1) (q:Int) s.2.1 s.2.2=_;unfold Gi;rw[in1 hq',in0,gd hq'];simp only[aS,cT];rw[Ih (f:=(Ap p).1) (l:=(Ap p).2.1) hi.gd.orb.pr (by have:=hi.gd.orb.len;omega),oB,Af (by omega)]
    unfold G7;cases hc:s.2.2.contains (Au (Ap p))[q]
    ·have hok:∀ x∈s.2.1++[(Au (Ap p))[q]],OkM (Ap p).1 (Ap p).2.1 x:=fun x hx=>by
      rcases AA8.1 hx with hx | hx
      ·exact hG.pr.mem x (hi.tl x hx)
      ·rw[mS] at hx;rw[hx];exact hG.pr.mem _ hmem
     simp only[nF,cT];rw[Ea (by simp;omega),cT,(Z3 hq.l hok (by simp;omega)).1,oB,RK b1 b2,Ago,XJ,Be,oB,Be,Be]
     simp only[Aq,lA,ABc,ABm];rw[AN (by omega),AN (by omega),AN (by omega)]
     simp only[cT,cF,Al0,AA5]
    ·rfl)
   (fun L s hi=>by
    have hfew:=hi.few hG h12;have htx:=hi.tx;show Gi KK p true (Ap p) (Au (Ap p)) (fun c0 c1 c2 c3 c4 c5 c6 d0 d1 d2=>Ic KK p c0 c1 c2 c3 c4 c5 c6 KK d0 d1 d2) (fun v0 v1 v2 v3=>L (v0,v1,v2,v3)) (mk s.1) ((Au (Ap p)).length:Int) s.2.1 s.2.2=_;unfold Gi;rw[AO,cF,Kj hG,oB];exact Agc hq (AkQ h) hG hfew (by omega)) KK 0 (Dc p.1 (Ap p).2.1,[],[uMo]) (by omega) (by simp only[KK];omega) (AtE hf hq.l _)
  rw[ABb] at hh;exact hh
end Go.Proofs.YtkemdhpdfaejgaaGreatDoor.X
