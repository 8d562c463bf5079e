/- Plain facts: marks in lists of lists of vectors. -/
import Derived.Test.YteheolldcpjkcaaGreatDoorQtMJ
import Derived.Test.YteheolldcpjkcaaGreatDoorQzXRow
namespace Go.Proofs.YteheolldcpjkcaaGreatDoor.X
open Go
set_option linter.unusedSimpArgs false
set_option linter.unusedVariables false
def tot:List (List Vc)→Int
 | []=>0
 | o :: r=>2*(o.length:Int)+tot r
def Mk2 (k:Int):List (List Vc)→Prop
 | []=>True
 | o :: r=>Ap6 k o o.length∧Mk2 (k+2*(o.length:Int)) r
theorem AkE:((pmQ.map HB).Pairwise fun a b=>ltL a b=true)∧((pmH.map HB).Pairwise fun a b=>ltL a b=true):=by decide +kernel
theorem AlL (f:Int):(pmS f).Pairwise fun a b=>ltL (HB a) (HB b)=true:=by
 unfold pmS;split
 ·exact Asf.1 AkE.1
 ·exact Asf.1 AkE.2
theorem AgW {m n:Mo} (h:ltL (HB m.1) (HB n.1)=true):ltM m n=true:=by
 unfold ltM JZ;have e:∀ (a b c d:List Int),a.length=b.length→ltL a b=true→ltL (a++c) (b++d)=true:=by
  intro a
  induction a with
  | nil=>intro b c d hl h;cases b with
   | nil=>simp[ltL] at h
   | cons _ _=>simp at hl
  | cons x a ih =>
   intro b c d hl h;cases b with
   | nil=>simp at hl
   | cons y b =>
    simp only[Asm,ltL] at h ⊢;cases hxy:x==y
    ·rw[hxy,cF] at h;rw[cF];exact h
    ·rw[hxy,cT] at h;rw[cT];exact ih b c d (by simpa using hl) h
 exact e _ _ _ _ rfl h
theorem AgX {m:Mt} {u v:Vc} (h:ltV u v=true):ltM (m,u) (m,v)=true:=by
 unfold ltM JZ;have e:∀ (a c d:List Int),ltL c d=true→ltL (a++c) (a++d)=true:=by
  intro a
  induction a with
  | nil=>intro c d h;exact h
  | cons x a ih=>intro c d h;simp only[Asm,ltL,beq_self_eq_true,cT];exact ih c d h
 exact e _ _ _ h
theorem AgY {u v:Vc} (h:u.1<v.1):ltV u v=true:=by
 unfold ltV M6 ltL;have e1:(u.1==v.1)=false:=by simp;omega
 rw[e1,cF,dT h]
theorem AgZ {x a b:Int} (h:a<b):ltV (x,a) (x,b)=true:=by
 unfold ltV M6 ltL;simp only[beq_self_eq_true,cT];unfold ltL;have e1:(a==b)=false:=by simp;omega
 rw[e1,cF,dT h]
theorem ZM (l:Lt):SI (Ab l):=by
 unfold SI Ab;rw[List.pairwise_flatMap];refine⟨fun x _=>?_,?_⟩
 ·unfold Jn;refine Asf.2 (List.Pairwise.imp (fun {a b} h=>AgZ (by omega)) List.pairwise_lt_range)
 ·refine List.Pairwise.imp (fun {a b} h u hu v hv=>?_) List.pairwise_lt_range;unfold Jn at hu hv;obtain⟨_,_,rfl⟩:=Aq6.1 hu;obtain⟨_,_,rfl⟩:=Aq6.1 hv;exact AgY (by simp only;omega)
theorem ZN (p:Pt):(Ad p).Pairwise fun a b=>ltM a b=true:=by
 unfold Ad;rw[List.pairwise_flatMap];refine⟨fun m _=>?_,?_⟩
 ·unfold Jo;refine Asf.2 (List.Pairwise.imp (fun {a b} h=>AgX h) (List.Pairwise.sublist AsQ (ZM p.2.1)))
 ·refine List.Pairwise.imp (fun {a b} h u hu v hv=>?_) (List.Pairwise.sublist AsQ (AlL p.1));unfold Jo at hu hv;obtain⟨_,_,rfl⟩:=Aq6.1 hu;obtain⟨_,_,rfl⟩:=Aq6.1 hv;exact AgW h
theorem A4 {p:Pt} {m:Mo}:m∈Ad p↔m.1∈AP p.1 p.2.1∧m.2∈Ab p.2.1∧AZ p m=true:=by
 unfold Ad Jo;simp only[ArH,Aq6,AqY];constructor
 ·rintro⟨a,ha,t,⟨ht,hk⟩,rfl⟩
  exact⟨ha,ht,hk⟩
 ·rintro⟨h1,h2,h3⟩
  exact⟨m.1,h1,m.2,⟨h2,h3⟩,rfl⟩
theorem AlM:((pmQ.all fun m=>pmQ.all fun n=>pmQ.contains (mmS m n))&&(pmH.all fun m=>pmH.all fun n=>pmH.contains (mmS m n)))=true:=by decide +kernel
theorem Ag0 {f:Int} {m n:Mt} (hm:m∈pmS f) (hn:n∈pmS f):mmS m n∈pmS f:=by
 have h:=AlM;rw[aT] at h;unfold pmS at *;split
 ·rename_i e;rw[if_pos e] at hm hn;exact AqW.1 (AqL.1 (AqL.1 h.1 m hm) n hn)
 ·rename_i e;rw[if_neg e] at hm hn;exact AqW.1 (AqL.1 (AqL.1 h.2 m hm) n hn)
theorem Ag1 (f:Int):((1,0,0,1):Mt)∈pmS f:=by
 unfold pmS;split<;>decide
theorem X0 {l:Lt} (hl:IsL l) {m:Mt}:BJ l m=true↔InL l (Ag m (l.1,0))∧InL l (Ag m l.2):=by
 unfold BJ;rw[aT,beq_iff_eq,beq_iff_eq,C1 hl,C1 hl]
theorem UI (l:Lt):InL l (l.1,0):=⟨1,0,by simp⟩
theorem UJ (l:Lt):InL l l.2:=⟨0,1,by simp⟩
theorem SQ {f:Int} {l:Lt} (hl:IsL l) {m n:Mt} (hm:m∈AP f l) (hn:n∈AP f l):mmS m n∈AP f l:=by
 have hm1:=GT hm;have hn1:=(X0 hl).1 (GT hn);refine AqY.2 ⟨Ag0 (AqY.1 hm).1 (AqY.1 hn).1,(X0 hl).2 ⟨?_,?_⟩⟩
 ·rw[Dm];exact IB hl hm1 hn1.1
 ·rw[Dm];exact IB hl hm1 hn1.2
theorem L1 {f:Int} {l:Lt} (hl:IsL l):((1,0,0,1):Mt)∈AP f l :=
 AqY.2 ⟨Ag1 f,(X0 hl).2 ⟨by rw[Du];exact UI l,by rw[Du];exact UJ l⟩⟩
theorem C4 {p:Pt} (hl:IsL p.2.1) (v:Vc):atS p (As p.2.1 v)=atS p v:=by
 unfold atS BH;rw[E8 hl]
theorem EM {p:Pt} {m:Mo}:AZ p m=true↔∀ v,AB p.2.1 v=true→v∈Ab p.2.1→atS p (Ar m v)=atS p v:=by
 unfold AZ;rw[AqL];constructor
 ·intro h v _ hv;exact beq_iff_eq.1 (h v hv)
 ·intro h v hv;have:=CO hv;exact beq_iff_eq.2 (h v (BU.2 (by omega)) hv)
theorem Qs {p:Pt} (hl:IsL p.2.1) {m:Mo} (h:AZ p m=true) {v:Vc} (hv:AB p.2.1 v=true):atS p (mvS p.2.1 m v)=atS p v:=by
 unfold mvS;rw[C4 hl];exact EM.1 h v hv (Br hl hv)
theorem X1 {p:Pt} (hl:IsL p.2.1) {m:Mo} (h:∀ v,AB p.2.1 v=true→atS p (mvS p.2.1 m v)=atS p v):AZ p m=true :=
 EM.2 fun v hv _=>by rw[← h v hv];unfold mvS;rw[C4 hl]
theorem UK {p:Pt} (hl:IsL p.2.1) {m n:Mo} (hm:m∈Ad p) (hn:n∈Ad p):CP p.2.1 m n∈Ad p:=by
 obtain⟨a1,a2,a3⟩:=A4.1 hm;obtain⟨b1,b2,b3⟩:=A4.1 hn;refine A4.2 ⟨SQ hl a1 b1,Br hl (AN hl _),X1 hl fun v hv=>?_⟩;rw[← Uz hl a1 v,Qs hl a3 (show AB p.2.1 (mvS p.2.1 n v)=true from AN hl _),Qs hl b3 hv]
theorem UL {p:Pt} (hl:IsL p.2.1):uMo∈Ad p:=by
 have h0:AB p.2.1 (0,0)=true:=BU.2 (by have:=hl.a1;have:=hl.c1;simp only;omega)
 refine A4.2 ⟨L1 hl,Br hl h0,X1 hl fun v hv=>?_⟩;rw[UA hl hv]
theorem Mb {α:Type} {p:Nat→α→Bool}:∀ {l:List α} {q:Nat},(∀ i (h:i<l.length),p (q+i) l[i]=true)→Ed p q l=true
 | [],_,_=>rfl
 | a :: l,q,h=>by
  have h0:=h 0 (by simp)
  have h1:=Mb (p:=p) (l:=l) (q:=q+1) fun i hi=>by
   have:=h (i+1) (by simp;omega)
   have e:q+(i+1)=q+1+i:=by omega
   rw[e] at this;simpa using this
  simp only[Ed];simp only[ArJ,List.getElem_cons_zero] at h0;rw[h0,h1];rfl
theorem Qt {f:Int} {l:Lt} (hl:IsL l) {g:List Mo} (h1:∀ m∈g,m.1∈AP f l∧AB l m.2=true) (h2:g.Pairwise fun a b=>ltM a b=true) (h3:uMo∈g) (h4:∀ m∈g,∀ n∈g,CP l m n∈g):HC f l g=true:=by
 unfold HC;rw[aT,aT];refine⟨Mb fun i hi=>?_,AqW.2 h3,AqL.2 fun m hm=>AqL.2 fun n hn=>AqW.2 (h4 m hm n hn)⟩;obtain⟨a1,a2⟩:=h1 _ (gM hi);unfold AcJ;rw[AqW.2 a1,a2,Ari];cases i with
 | zero=>rfl
 | succ j =>
  have:=ArV.1 h2 j (j+1) (by omega) hi (by omega)
  have e:(g.getD (j+1-1) dMo)=g[j]:=by simp[List.getD,show j<g.length by omega]
  rw[e,this];simp
theorem D1 {p:Pt} (hp:IsP p):CH p.1 p.2.1 (Ad p):=by
 have hg:=Qt (f:=p.1) hp.l (g:=Ad p) (fun m hm=>by
  obtain⟨a1,a2,_⟩:=A4.1 hm;have:=CO a2;exact⟨a1,BU.2 (by omega)⟩) (ZN p) (UL hp.l) fun m hm n hn=>UK hp.l hm hn
 refine⟨hp.l,AcK ?_,hg⟩;unfold HC at hg;rw[aT] at hg;exact hg.1
def dP:Pt:=(0,(0,0,0),[])
theorem ZO {p:Pt} (h:okP p=true):okF p.1=true∧okL p.2.1=true:=by
 unfold okP at h;simp only[aT] at h;exact h.1.1
def AkF (p:Pt) (g:List Mo):Int:=bif okP p then (if HC p.1 p.2.1 g then 0 else 2) else 1
def Ao1 (p:Pt) (g:List Mo):Bool:=g.all (AZ p)
def Ap9 (f:Int) (l:Lt) (g:List Mo) (v:Vc):List Vc×Int:=bif Ee f l g (AB l v) != 0 then ([],Ee f l g (AB l v)) else (BV l g v,0)
def Ao2 (l:Lt) (o:List Vc):List Int:=Ep l 1 o (List.replicate (Ab l).length 0)
theorem Ag2 {l:Lt} (hl:IsL l):(decide (0≤w (l.1*l.2.2))&&Nat.ble (w (l.1*l.2.2)).toNat (lim 8)&&(w (l.1*l.2.2)==w (l.1*l.2.2)))=true∧(w (l.1*l.2.2)).toNat=(Ab l).length:=by
 have hN:=AD hl;rw[Alt hl];have e5:(((Ab l).length:Nat):Int).toNat=(Ab l).length:=by omega
 rw[e5,in0,Hi (by omega)]
 simp
def Aqo (f:Int) (l:Lt) (g:List Mo) (v:Vc):Pt×Int:=bif Ee f l g (AB l v) != 0 then ((0,(0,0,0),[]),Ee f l g (AB l v)) else ((f,l,Ao2 l (BV l g v)),0)
theorem UM {l:Lt} (hl:IsL l) (g:List Mo):(Fp l g).Nodup:=List.Pairwise.sublist AsQ (Qg hl)
theorem SR {l:Lt} {g:List Mo} {r:Vc} (h:r∈Fp l g):AB l r=true∧Jr l g r=true:=by
 obtain⟨h1,h2⟩:=AqY.1 h;exact⟨CS h1,h2⟩
theorem UN {f:Int} {l:Lt} {g:List Mo} (h:CH f l g) {q:Nat} (hq:q<(AL l g).length) {u:Vc} (hu:u∈(AL l g)[q]):((AL l g).take q).any (fun o=>o.contains u)=false:=by
 cases hx:((AL l g).take q).any (fun o=>o.contains u)
 ·rfl
 ·exfalso;obtain⟨o,ho,hc⟩:=ArI.1 hx;obtain⟨i,hi,rfl⟩:=ArK ho;rw[ArQ] at hi;rw[List.getElem_take] at hc;have hc:=AqW.1 hc;have hql:q<(Fp l g).length:=by simpa[AL] using hq
  have hil:i<(Fp l g).length:=by omega
  have e1:(AL l g)[q]=BV l g (Fp l g)[q]:=by simp[AL]
  have e2:(AL l g)[i]'(by omega)=BV l g (Fp l g)[i]:=by simp[AL]
  rw[e1] at hu;rw[e2] at hc;obtain⟨c1,c2⟩:=SR (gM hql);obtain⟨d1,d2⟩:=SR (gM hil);have h5:(Fp l g)[q]∈BV l g (Fp l g)[i]:=GU h hc (IC h c1 hu);have h6:=Agw h d1 c1 d2 c2 h5;have:=(List.getElem_inj (UM h.la g)).1 h6;omega
theorem Oa {f:Int} {l:Lt} {g:List Mo} (h:CH f l g) {o:List Vc} (ho:o∈AL l g):(∀ u∈o,AB l u=true)∧o.length≤768:=by
 obtain⟨r,_,rfl⟩:=Aq6.1 ho;refine⟨fun u hu=>EK h hu,?_⟩;have:=AcP l g r;have:=h.len;omega
theorem SS {f:Int} {l:Lt} {g:List Mo} (h:CH f l g) {u:Vc} (hu:AB l u=true):(AL l g).any (fun o=>o.contains u)=true:=by
 obtain⟨w,h1,h2,h3,_⟩:=Alx h hu;refine ArI.2 ⟨BV l g w,Aq6.2 ⟨w,AqY.2 ⟨?_,h1⟩,rfl⟩,AqW.2 h3⟩;exact Br h.la h2
theorem Ads {l:Lt} (hl:IsL l) (g:List Mo):(AL l g).length≤64:=by
 unfold AL Fp;rw[AqZ];exact Aq0 (ArA _ _) (AD hl)
theorem UO {f:Int} {l:Lt} {g:List Mo} (h:CH f l g) {q:Nat} (hq:q<(AL l g).length) {L:Int→List Int→Option (List Int)} {s:List Int} (hs:s.length=(Ab l).length) :
  H7 KK l g (q:Int) (AL l g) L KK 0 s=L (w ((q:Int)+1)) (Ep l (q:Int) (AL l g)[q] s):=by
 obtain⟨hoc,hol⟩:=Oa h (gM hq);have hgo:(AL l g).getD ((0:Int)+(q:Int)).toNat []=(AL l g)[q]:=gd hq;have hh:=Ao (R:=List Int) (body:=fun L' x=>EB KK l g (q:Int) (AL l g) L (fun v0 v1=>L' (v0,v1)) x.1 x.2) (AL l g)[q] (fun i s=>((i:Int),s)) (fun s u=>s.set (BH l u) (q:Int)) (fun s=>L (w ((q:Int)+1)) s) (fun i s=>s.length=(Ab l).length)
  (fun L' i s hi his=>by
   refine⟨by rw[ArO];exact his,?_⟩
   show EB KK l g (q:Int) (AL l g) L (fun v0 v1=>L' (v0,v1)) (i:Int) s=_;unfold EB;have hlt:=Iu h.la ((AL l g)[q])[i];rw[in0,in1 hq,hgo,in0,in1 hi,gd hi];simp only[aS,cT];rw[Qh h.la (hoc _ (gM hi)),oB,in0,in1 (show BH l ((AL l g)[q])[i]<s.length by omega),Aq (by omega)]
   have e1:((0:Int)+((BH l ((AL l g)[q])[i]:Nat):Int)).toNat=BH l ((AL l g)[q])[i]:=by omega
   simp only[aS,cT,e1])
  (fun L' s his=>by
   show EB KK l g (q:Int) (AL l g) L (fun v0 v1=>L' (v0,v1)) (((AL l g)[q]).length:Int) s=_;unfold EB;rw[in0,in1 hq,hgo,AY];rfl) KK 0 s (by omega) (by simp only[KK];omega) hs
 rw[AqN] at hh;exact hh
theorem Hp {f:Int} {l:Lt} {g:List Mo} (h:CH f l g):NB KK l g=some (EL l g):=by
 have hN:=AD h.la;have hO:=Ads h.la g;obtain⟨r,hr,hh⟩:=Qj (X:=Int×List Int) (R:=List Int) (body:=fun L x=>E0 KK l g (AL l g) (fun c0 d0 d1=>H7 KK l g c0 (AL l g) (fun v0 v1=>L (v0,v1)) KK d0 d1) (fun v0 v1=>L (v0,v1)) x.1 x.2) (AL l g).length
  (fun q x=>x.1=(q:Int)∧x.2.length=(Ab l).length∧∀ u,AB l u=true→x.2[BH l u]? = some (bif ((AL l g).take q).any (fun o=>o.contains u) then F7 (fun o=>o.contains u) 0 ((AL l g).take q) else 0)) (fun r=>r=EL l g)
  (fun L q x hq hP=>by
   obtain⟨c,s⟩:=x;obtain⟨rfl,hsl,hg⟩:=hP;simp only at hsl hg;refine⟨(((q+1:Nat):Int),Ep l (q:Int) (AL l g)[q] s),⟨rfl,by simp only[LQ];exact hsl,fun u hu=>?_⟩,?_⟩
   ·simp only;rw[LS h.la _ hu _ _ (Oa h (gM hq)).1 (by rw[hsl];exact Iu h.la u),tS hq,List.any_append,Su]
    by_cases hm:u∈(AL l g)[q]
    ·have h1:=UN h hq hm;have h2:((AL l g)[q]).contains u=true:=AqW.2 hm;rw[if_pos hm,h1];simp only[AsB,List.any_nil,h2,Ash,oT,tO,Aro,cT,cF,F7,ArQ];congr 1;omega
    ·have h2:((AL l g)[q]).contains u=false:=by
      cases hc:((AL l g)[q]).contains u
      ·rfl
      ·exact absurd (AqW.1 hc) hm
     rw[if_neg hm,hg u hu];simp only[AsB,List.any_nil,h2,Ash,Aro];cases ((AL l g).take q).any (fun o=>o.contains u)<;>rfl
   ·show E0 KK l g (AL l g) _ _ (q:Int) s=_;unfold E0;rw[in1 hq,cT];refine (UO h hq hsl).trans ?_;rw[Aq (by omega)])
  (fun L x hP=>by
   obtain⟨c,s⟩:=x;obtain⟨rfl,hsl,hg⟩:=hP;simp only at hsl hg;refine⟨s,?_,?_⟩
   ·refine Num.all h.la ⟨hsl,fun u hu=>?_⟩;rw[hg u hu,Asl,SS h hu,cT,Sw]
   ·show E0 KK l g (AL l g) _ _ ((AL l g).length:Int) s=_;unfold E0;rw[AY,cF]) KK 0 (0,List.replicate (Ab l).length 0) (by omega) (by simp only[KK];omega)
  ⟨rfl,by simp,fun u hu=>by
   simp only;rw[Asn,if_pos (Iu h.la u)];rfl⟩
 unfold NB TS;obtain⟨e1,e2⟩:=Ag2 h.la;rw[e1,cT,Ql h,oB,e2,← hr];exact hh
def Aqp (f:Int) (l:Lt) (g:List Mo):List Int×Int:=bif Ee f l g true != 0 then ([],Ee f l g true) else (EL l g,0)
end Go.Proofs.YteheolldcpjkcaaGreatDoor.X
