/- Plain facts: marks in lists of lists of vectors. -/
import Derived.Test.YteheolldcpjkcaaGreatQuMJ
import Derived.Test.YteheolldcpjkcaaGreatQvXRow
namespace Go.Proofs.YteheolldcpjkcaaGreat.X
open Go
set_option linter.unusedSimpArgs false
set_option linter.unusedVariables false
def tot:List (List Vc)→Int
 | []=>0
 | o :: r=>2*(o.length:Int)+tot r
def Mk2 (k:Int):List (List Vc)→Prop
 | []=>True
 | o :: r=>ApU k o o.length∧Mk2 (k+2*(o.length:Int)) r
theorem Aml:((pmQ.all fun m=>pmQ.all fun n=>pmQ.contains (mmS m n))&&(pmH.all fun m=>pmH.all fun n=>pmH.contains (mmS m n)))=true:=by decide +kernel
theorem AhK {f:Int} {m n:Mt} (hm:m∈pmS f) (hn:n∈pmS f):mmS m n∈pmS f:=by
 have h:=Aml;rw[aT] at h;unfold pmS at *;split
 ·rename_i e;rw[if_pos e] at hm hn;exact Aqx.1 (Aqn.1 (Aqn.1 h.1 m hm) n hn)
 ·rename_i e;rw[if_neg e] at hm hn;exact Aqx.1 (Aqn.1 (Aqn.1 h.2 m hm) n hn)
theorem AhL (f:Int):((1,0,0,1):Mt)∈pmS f:=by
 unfold pmS;split<;>decide
theorem Aei {l:Lt} (hl:IsL l) {m:Mt}:CM l m=true↔InL l (AW m (l.1,0))∧InL l (AW m l.2):=by
 unfold CM;rw[aT,beq_iff_eq,beq_iff_eq,EO hl,EO hl]
theorem Amm (l:Lt):InL l (l.1,0):=⟨1,0,by simp⟩
theorem Amn (l:Lt):InL l l.2:=⟨0,1,by simp⟩
theorem Aej {f:Int} {l:Lt} (hl:IsL l) {m n:Mt} (hm:m∈Ba f l) (hn:n∈Ba f l):mmS m n∈Ba f l:=by
 have hm1:=He hm;have hn1:=(Aei hl).1 (He hn);refine AqR.2 ⟨AhK (AqR.1 hm).1 (AqR.1 hn).1,(Aei hl).2 ⟨?_,?_⟩⟩
 ·rw[Fj];exact Lp hl hm1 hn1.1
 ·rw[Fj];exact Lp hl hm1 hn1.2
theorem TU {f:Int} {l:Lt} (hl:IsL l):((1,0,0,1):Mt)∈Ba f l :=
 AqR.2 ⟨AhL f,(Aei hl).2 ⟨by rw[GE];exact Amm l,by rw[GE];exact Amn l⟩⟩
theorem AhM {p:Pt} (hl:IsL p.2.1) (v:Vc):atS p (AZ p.2.1 v)=atS p v:=by
 unfold atS AY;rw[Hf hl]
theorem AaU {p:Pt} {m:Mo}:DE p m=true↔∀ v,Al p.2.1 v=true→v∈Ab p.2.1→atS p (BH m v)=atS p v:=by
 unfold DE;rw[Aqn];constructor
 ·intro h v _ hv;exact beq_iff_eq.1 (h v hv)
 ·intro h v hv;have:=D3 hv;exact beq_iff_eq.2 (h v (Bu.2 (by omega)) hv)
theorem AhN {p:Pt} (hl:IsL p.2.1) {m:Mo} (h:∀ v,Al p.2.1 v=true→atS p (mvS p.2.1 m v)=atS p v):DE p m=true :=
 AaU.2 fun v hv _=>by rw[← h v hv];unfold mvS;rw[AhM hl]
theorem MW {α:Type} {p:Nat→α→Bool}:∀ {l:List α} {q:Nat},(∀ i (h:i<l.length),p (q+i) l[i]=true)→CF p q l=true
 | [],_,_=>rfl
 | a :: l,q,h=>by
  have h0:=h 0 (by simp)
  have h1:=MW (p:=p) (l:=l) (q:=q+1) fun i hi=>by
   have:=h (i+1) (by simp;omega)
   have e:q+(i+1)=q+1+i:=by omega
   rw[e] at this;simpa using this
  simp only[CF];simp only[Aro,List.getElem_cons_zero] at h0;rw[h0,h1];rfl
theorem Zc {f:Int} {l:Lt} (hl:IsL l) {g:List Mo} (h1:∀ m∈g,m.1∈Ba f l∧Al l m.2=true) (h2:g.Pairwise fun a b=>ltM a b=true) (h3:uMo∈g) (h4:∀ m∈g,∀ n∈g,BS l m n∈g):Dp f l g=true:=by
 unfold Dp;rw[aT,aT];refine⟨MW fun i hi=>?_,Aqx.2 h3,Aqn.2 fun m hm=>Aqn.2 fun n hn=>Aqx.2 (h4 m hm n hn)⟩;obtain⟨a1,a2⟩:=h1 _ (gM hi);unfold IL;rw[Aqx.2 a1,a2,AqQ];cases i with
 | zero=>rfl
 | succ j =>
  have:=ArA.1 h2 j (j+1) (by omega) hi (by omega)
  have e:(g.getD (j+1-1) dMo)=g[j]:=by simp[List.getD,show j<g.length by omega]
  rw[e,this];simp
def dP:Pt:=(0,(0,0,0),[])
theorem Aek (f:Int) (l:Lt) (g:List Mo) (b:Bool):AB f l g b=bif AB f l g true != 0 then AB f l g true else bif b then 0 else 2:=by
 unfold AB;cases okF f&&okL l<;>cases Dp f l g<;>cases b<;>rfl
theorem AhO (f:Int) (l:Lt) (g:List Mo):TH f l g=AB f l g true:=by
 unfold TH AB;rw[AqK]
theorem TV (f:Int) (l:Lt) {g:List Mo} (hn:g.length≤1048576):Mg KK f l [g]=some (AB f l g true):=by
 rw[IM f l hn,AhO]
theorem O3 {p:Pt} (h:okP p=true):okF p.1=true∧okL p.2.1=true:=by
 unfold okP at h;simp only[aT] at h;exact h.1.1
def FE (p:Pt) (g:List Mo):Int:=bif okP p then (if Dp p.1 p.2.1 g then 0 else 2) else 1
theorem AhP {p:Pt} {g:List Mo} (h:FE p g=0):IsP p∧Bv p.1 p.2.1 g:=by
 unfold FE at h;cases ho:okP p
 ·rw[ho] at h;cases h
 ·rw[ho,cT] at h;obtain⟨h1,h2⟩:=O3 ho;refine⟨TA ho,(BJ (b:=true) ?_).1⟩;unfold AB;rw[h1,h2];simpa using h
theorem TW (p:Pt) {g:List Mo} (hn:g.length≤1048576):YH KK p g=some (FE p g):=by
 unfold YH FE;rw[Fg,oB];cases ho:okP p
 ·rfl
 ·obtain⟨h1,h2⟩:=O3 ho;rw[IM p.1 p.2.1 hn];unfold TH;rw[h1,h2];cases Dp p.1 p.2.1 g<;>rfl
def MX (p:Pt) (g:List Mo):Bool:=g.all (DE p)
theorem AaV {p:Pt} (hp:IsP p) {g:List Mo} (h:Bv p.1 p.2.1 g):Tk KK p g=some (MX p g):=by
 have hl:=h.len;have hh:=BA (R:=Bool) (body:=fun L x=>Lk KK p g (fun v0=>L v0) x) g (fun q=>(q:Int)) (DE p) (some false) (some true)
  (fun L q hq=>by
   have hg:=h.good _ (gM hq);unfold Lk;rw[in1 hq,in0,gd hq];simp only[aS,cT];rw[show ON KK p ((g[q].1.1,g[q].1.2.1,g[q].1.2.2),g[q].2)=some (DE p g[q]) from Adq hp (Ct hg.1) hg.2,oB,Ak (by omega)]
   cases DE p g[q]<;>rfl)
  (fun L=>by
   unfold Lk;rw[AS,cF]) KK 0 (by omega) (by simp only[KK];omega)
 unfold Tk Vw QE;refine hh.trans ?_;rw[Aqq];unfold MX;cases g.all (DE p)<;>rfl
theorem AhQ {f:Int} {l:Lt} {g:List Mo} (h:Bv f l g) {o:List Vc} (ho:o∈Ao l g):∃ x t,o=x :: t∧Al l x=true:=by
 obtain⟨r,hr,rfl⟩:=AqG.1 ho;have hc:Al l r=true:=AN (AqR.1 hr).1;obtain⟨x,t,e,_⟩:=IR h hc;exact⟨x,t,e,Cu h (v:=r) (by rw[e];simp)⟩
def ApX (f:Int) (l:Lt) (g:List Mo) (v:Vc):List Vc×Int:=bif AB f l g (Al l v) != 0 then ([],AB f l g (Al l v)) else (A6 l g v,0)
def Ao8 (l:Lt) (o:List Vc):List Int:=B9 l 1 o (List.replicate (Ab l).length 0)
theorem Zd {l:Lt} (hl:IsL l):(decide (0≤w (l.1*l.2.2))&&Nat.ble (w (l.1*l.2.2)).toNat (lim 8)&&(w (l.1*l.2.2)==w (l.1*l.2.2)))=true∧(w (l.1*l.2.2)).toNat=(Ab l).length:=by
 have hN:=Be hl;rw[AdJ hl];have e5:(((Ab l).length:Nat):Int).toNat=(Ab l).length:=by omega
 rw[e5,in0,HG (by omega)]
 simp
def Ap5 (f:Int) (l:Lt) (g:List Mo) (v:Vc):Pt×Int:=bif AB f l g (Al l v) != 0 then ((0,(0,0,0),[]),AB f l g (Al l v)) else ((f,l,Ao8 l (A6 l g v)),0)
theorem VP {l:Lt} (hl:IsL l) (g:List Mo):(FC l g).Nodup:=List.Pairwise.sublist List.filter_sublist (QX hl)
theorem TX {l:Lt} {g:List Mo} {r:Vc} (h:r∈FC l g):Al l r=true∧Ei l g r=true:=by
 obtain⟨h1,h2⟩:=AqR.1 h;exact⟨AN h1,h2⟩
theorem VQ {f:Int} {l:Lt} {g:List Mo} (h:Bv f l g) {q:Nat} (hq:q<(Ao l g).length) {u:Vc} (hu:u∈(Ao l g)[q]):((Ao l g).take q).any (fun o=>o.contains u)=false:=by
 cases hx:((Ao l g).take q).any (fun o=>o.contains u)
 ·rfl
 ·exfalso;obtain⟨o,ho,hc⟩:=Arb.1 hx;obtain⟨i,hi,rfl⟩:=Aq7 ho;rw[AqT] at hi;rw[Asa] at hc;have hc:=Aqx.1 hc;have hql:q<(FC l g).length:=by simpa[Ao] using hq
  have hil:i<(FC l g).length:=by omega
  have e1:(Ao l g)[q]=A6 l g (FC l g)[q]:=by simp[Ao]
  have e2:(Ao l g)[i]'(by omega)=A6 l g (FC l g)[i]:=by simp[Ao]
  rw[e1] at hu;rw[e2] at hc;obtain⟨c1,c2⟩:=TX (gM hql);obtain⟨d1,d2⟩:=TX (gM hil);have h5:(FC l g)[q]∈A6 l g (FC l g)[i]:=CX h hc (D9 h c1 hu);have h6:=Q0 h d1 c1 d2 c2 h5;have:=(List.getElem_inj (VP h.la g)).1 h6;omega
theorem EU {f:Int} {l:Lt} {g:List Mo} (h:Bv f l g) {o:List Vc} (ho:o∈Ao l g):(∀ u∈o,Al l u=true)∧o.length≤768:=by
 obtain⟨r,_,rfl⟩:=AqG.1 ho;refine⟨fun u hu=>Cu h hu,?_⟩;have:=MF l g r;have:=h.len;omega
theorem MY {f:Int} {l:Lt} {g:List Mo} (h:Bv f l g) {u:Vc} (hu:Al l u=true):(Ao l g).any (fun o=>o.contains u)=true:=by
 obtain⟨w,h1,h2,h3,_⟩:=AdT h hu;refine Arb.2 ⟨A6 l g w,AqG.2 ⟨w,AqR.2 ⟨?_,h1⟩,rfl⟩,Aqx.2 h3⟩;exact EQ h.la h2
theorem Dt {l:Lt} (hl:IsL l) (g:List Mo):(Ao l g).length≤64:=by
 unfold Ao FC;rw[AqD];exact AqE (Arr _ _) (Be hl)
theorem VS {f:Int} {l:Lt} {g:List Mo} (h:Bv f l g) {q:Nat} (hq:q<(Ao l g).length) {L:Int→List Int→Option (List Int)} {s:List Int} (hs:s.length=(Ab l).length) :
  Ip KK l g (q:Int) (Ao l g) L KK 0 s=L (w ((q:Int)+1)) (B9 l (q:Int) (Ao l g)[q] s):=by
 obtain⟨hoc,hol⟩:=EU h (gM hq);have hgo:(Ao l g).getD ((0:Int)+(q:Int)).toNat []=(Ao l g)[q]:=gd hq;have hh:=AQ (R:=List Int) (body:=fun L' x=>EK KK l g (q:Int) (Ao l g) L (fun v0 v1=>L' (v0,v1)) x.1 x.2) (Ao l g)[q] (fun i s=>((i:Int),s)) (fun s u=>s.set (AY l u) (q:Int)) (fun s=>L (w ((q:Int)+1)) s) (fun i s=>s.length=(Ab l).length)
  (fun L' i s hi his=>by
   refine⟨by rw[Aq4];exact his,?_⟩
   show EK KK l g (q:Int) (Ao l g) L (fun v0 v1=>L' (v0,v1)) (i:Int) s=_;unfold EK;have hlt:=BX h.la ((Ao l g)[q])[i];rw[in0,in1 hq,hgo,in0,in1 hi,gd hi];simp only[aS,cT];rw[QY h.la (hoc _ (gM hi)),oB,in0,in1 (show AY l ((Ao l g)[q])[i]<s.length by omega),Ak (by omega)]
   have e1:((0:Int)+((AY l ((Ao l g)[q])[i]:Nat):Int)).toNat=AY l ((Ao l g)[q])[i]:=by omega
   simp only[aS,cT,e1])
  (fun L' s his=>by
   show EK KK l g (q:Int) (Ao l g) L (fun v0 v1=>L' (v0,v1)) (((Ao l g)[q]).length:Int) s=_;unfold EK;rw[in0,in1 hq,hgo,AS];rfl) KK 0 s (by omega) (by simp only[KK];omega) hs
 rw[Aqq] at hh;exact hh
theorem CO {f:Int} {l:Lt} {g:List Mo} (h:Bv f l g):HC KK l g=some (Ax l g):=by
 have hN:=Be h.la;have hO:=Dt h.la g;obtain⟨r,hr,hh⟩:=Ln (X:=Int×List Int) (R:=List Int) (body:=fun L x=>E8 KK l g (Ao l g) (fun c0 d0 d1=>Ip KK l g c0 (Ao l g) (fun v0 v1=>L (v0,v1)) KK d0 d1) (fun v0 v1=>L (v0,v1)) x.1 x.2) (Ao l g).length
  (fun q x=>x.1=(q:Int)∧x.2.length=(Ab l).length∧∀ u,Al l u=true→x.2[AY l u]? = some (bif ((Ao l g).take q).any (fun o=>o.contains u) then CK (fun o=>o.contains u) 0 ((Ao l g).take q) else 0)) (fun r=>r=Ax l g)
  (fun L q x hq hP=>by
   obtain⟨c,s⟩:=x;obtain⟨rfl,hsl,hg⟩:=hP;simp only at hsl hg;refine⟨(((q+1:Nat):Int),B9 l (q:Int) (Ao l g)[q] s),⟨rfl,by simp only[CS];exact hsl,fun u hu=>?_⟩,?_⟩
   ·simp only;rw[Ea h.la _ hu _ _ (EU h (gM hq)).1 (by rw[hsl];exact BX h.la u),tS hq,List.any_append,MI]
    by_cases hm:u∈(Ao l g)[q]
    ·have h1:=VQ h hq hm;have h2:((Ao l g)[q]).contains u=true:=Aqx.2 hm;rw[if_pos hm,h1];simp only[As8,List.any_nil,h2,ArF,oT,tO,Arm,cT,cF,CK,AqT];congr 1;omega
    ·have h2:((Ao l g)[q]).contains u=false:=by
      cases hc:((Ao l g)[q]).contains u
      ·rfl
      ·exact absurd (Aqx.1 hc) hm
     rw[if_neg hm,hg u hu];simp only[As8,List.any_nil,h2,ArF,Arm];cases ((Ao l g).take q).any (fun o=>o.contains u)<;>rfl
   ·show E8 KK l g (Ao l g) _ _ (q:Int) s=_;unfold E8;rw[in1 hq,cT];refine (VS h hq hsl).trans ?_;rw[Ak (by omega)])
  (fun L x hP=>by
   obtain⟨c,s⟩:=x;obtain⟨rfl,hsl,hg⟩:=hP;simp only at hsl hg;refine⟨s,?_,?_⟩
   ·refine Num.all h.la ⟨hsl,fun u hu=>?_⟩;rw[hg u hu,Aru,MY h hu,cT,MK]
   ·show E8 KK l g (Ao l g) _ _ ((Ao l g).length:Int) s=_;unfold E8;rw[AS,cF]) KK 0 (0,List.replicate (Ab l).length 0) (by omega) (by simp only[KK];omega)
  ⟨rfl,by simp,fun u hu=>by
   simp only;rw[Ark,if_pos (BX h.la u)];rfl⟩
 unfold HC U1;obtain⟨e1,e2⟩:=Zd h.la;rw[e1,cT,Fk h,oB,e2,← hr];exact hh
def Ap6 (f:Int) (l:Lt) (g:List Mo):List Int×Int:=bif AB f l g true != 0 then ([],AB f l g true) else (Ax l g,0)
end Go.Proofs.YteheolldcpjkcaaGreat.X
