/- Plain facts: marks in lists of lists of vectors. -/
import Derived.Test.YtkemdhpdfaejgaaGreatDoorQtMJ
import Derived.Test.YtkemdhpdfaejgaaGreatDoorQzXRow
namespace Go.Proofs.YtkemdhpdfaejgaaGreatDoor.X
open Go
set_option linter.unusedSimpArgs false
set_option linter.unusedVariables false
def tot:List (List Vc)→Int
 | []=>0
 | o :: r=>2*(o.length:Int)+tot r
def Mk2 (k:Int):List (List Vc)→Prop
 | []=>True
 | o :: r=>AAA k o o.length∧Mk2 (k+2*(o.length:Int)) r
theorem AtD:((pmQ.map IJ).Pairwise fun a b=>ltL a b=true)∧((pmH.map IJ).Pairwise fun a b=>ltL a b=true):=by decide +kernel
theorem Au5 (f:Int):(pmS f).Pairwise fun a b=>ltL (IJ a) (IJ b)=true:=by
 unfold pmS;split
 ·exact ACo.1 AtD.1
 ·exact ACo.1 AtD.2
theorem Aph {m n:Mo} (h:ltL (IJ m.1) (IJ n.1)=true):ltM m n=true:=by
 unfold ltM B6;have e:∀ (a b c d:List Int),a.length=b.length→ltL a b=true→ltL (a++c) (b++d)=true:=by
  intro a
  induction a with
  | nil=>intro b c d hl h;cases b with
   | nil=>simp[ltL] at h
   | cons _ _=>simp at hl
  | cons x a ih =>
   intro b c d hl h;cases b with
   | nil=>simp at hl
   | cons y b =>
    simp only[AB0,ltL] at h ⊢;cases hxy:x==y
    ·rw[hxy,cF] at h;rw[cF];exact h
    ·rw[hxy,cT] at h;rw[cT];exact ih b c d (by simpa using hl) h
 exact e _ _ _ _ rfl h
theorem Api {m:Mt} {u v:Vc} (h:ltV u v=true):ltM (m,u) (m,v)=true:=by
 unfold ltM B6;have e:∀ (a c d:List Int),ltL c d=true→ltL (a++c) (a++d)=true:=by
  intro a
  induction a with
  | nil=>intro c d h;exact h
  | cons x a ih=>intro c d h;simp only[AB0,ltL,beq_self_eq_true,cT];exact ih c d h
 exact e _ _ _ h
theorem Apj {u v:Vc} (h:u.1<v.1):ltV u v=true:=by
 unfold ltV Dj ltL;have e1:(u.1==v.1)=false:=by simp;omega
 rw[e1,cF,dT h]
theorem Apk {x a b:Int} (h:a<b):ltV (x,a) (x,b)=true:=by
 unfold ltV Dj ltL;simp only[beq_self_eq_true,cT];unfold ltL;have e1:(a==b)=false:=by simp;omega
 rw[e1,cF,dT h]
theorem Af5 (l:Lt):SI (Aa l):=by
 unfold SI Aa;rw[List.pairwise_flatMap];refine⟨fun x _=>?_,?_⟩
 ·unfold K8;refine ACo.2 (List.Pairwise.imp (fun {a b} h=>Apk (by omega)) List.pairwise_lt_range)
 ·refine List.Pairwise.imp (fun {a b} h u hu v hv=>?_) List.pairwise_lt_range;unfold K8 at hu hv;obtain⟨_,_,rfl⟩:=ABe.1 hu;obtain⟨_,_,rfl⟩:=ABe.1 hv;exact Apj (by simp only;omega)
theorem Af6 (p:Pt):(Au p).Pairwise fun a b=>ltM a b=true:=by
 unfold Au;rw[List.pairwise_flatMap];refine⟨fun m _=>?_,?_⟩
 ·unfold T5;refine ACo.2 (List.Pairwise.imp (fun {a b} h=>Api h) (List.Pairwise.sublist ADl (Af5 p.2.1)))
 ·refine List.Pairwise.imp (fun {a b} h u hu v hv=>?_) (List.Pairwise.sublist ADl (Au5 p.1));unfold T5 at hu hv;obtain⟨_,_,rfl⟩:=ABe.1 hu;obtain⟨_,_,rfl⟩:=ABe.1 hv;exact Aph h
theorem Co {p:Pt} {m:Mo}:m∈Au p↔m.1∈AU p.1 p.2.1∧m.2∈Aa p.2.1∧Bh p m=true:=by
 unfold Au T5;simp only[ACu,ABe,ABs];constructor
 ·rintro⟨a,ha,t,⟨ht,hk⟩,rfl⟩
  exact⟨ha,ht,hk⟩
 ·rintro⟨h1,h2,h3⟩
  exact⟨m.1,h1,m.2,⟨h2,h3⟩,rfl⟩
theorem Au6:((pmQ.all fun m=>pmQ.all fun n=>pmQ.contains (mmS m n))&&(pmH.all fun m=>pmH.all fun n=>pmH.contains (mmS m n)))=true:=by decide +kernel
theorem Apl {f:Int} {m n:Mt} (hm:m∈pmS f) (hn:n∈pmS f):mmS m n∈pmS f:=by
 have h:=Au6;rw[aT] at h;unfold pmS at *;split
 ·rename_i e;rw[if_pos e] at hm hn;exact AA6.1 (AA3.1 (AA3.1 h.1 m hm) n hn)
 ·rename_i e;rw[if_neg e] at hm hn;exact AA6.1 (AA3.1 (AA3.1 h.2 m hm) n hn)
theorem Apm (f:Int):((1,0,0,1):Mt)∈pmS f:=by
 unfold pmS;split<;>decide
theorem AkK {l:Lt} (hl:IsL l) {m:Mt}:CZ l m=true↔InL l (AQ m (l.1,0))∧InL l (AQ m l.2):=by
 unfold CZ;rw[aT,beq_iff_eq,beq_iff_eq,FN hl,FN hl]
theorem Au7 (l:Lt):InL l (l.1,0):=⟨1,0,by simp⟩
theorem Au8 (l:Lt):InL l l.2:=⟨0,1,by simp⟩
theorem Xr {f:Int} {l:Lt} (hl:IsL l) {m n:Mt} (hm:m∈AU f l) (hn:n∈AU f l):mmS m n∈AU f l:=by
 have hm1:=Ik hm;have hn1:=(AkK hl).1 (Ik hn);refine ABs.2 ⟨Apl (ABs.1 hm).1 (ABs.1 hn).1,(AkK hl).2 ⟨?_,?_⟩⟩
 ·rw[Fc];exact Nf hl hm1 hn1.1
 ·rw[Fc];exact Nf hl hm1 hn1.2
theorem Ko {f:Int} {l:Lt} (hl:IsL l):((1,0,0,1):Mt)∈AU f l :=
 ABs.2 ⟨Apm f,(AkK hl).2 ⟨by rw[DZ];exact Au7 l,by rw[DZ];exact Au8 l⟩⟩
theorem Fe {p:Pt} (hl:IsL p.2.1) (v:Vc):atS p (AX p.2.1 v)=atS p v:=by
 unfold atS A8;rw[Gz hl]
theorem Io {p:Pt} {m:Mo}:Bh p m=true↔∀ v,Ah p.2.1 v=true→v∈Aa p.2.1→atS p (Bl m v)=atS p v:=by
 unfold Bh;rw[AA3];constructor
 ·intro h v _ hv;exact beq_iff_eq.1 (h v hv)
 ·intro h v hv;have:=Ci hv;exact beq_iff_eq.2 (h v (Bk.2 (by omega)) hv)
theorem Kp {p:Pt} (hl:IsL p.2.1) {m:Mo} (h:Bh p m=true) {v:Vc} (hv:Ah p.2.1 v=true):atS p (mvS p.2.1 m v)=atS p v:=by
 unfold mvS;rw[Fe hl];exact Io.1 h v hv (CS hl hv)
theorem Um {p:Pt} (hl:IsL p.2.1) {m:Mo} (h:∀ v,Ah p.2.1 v=true→atS p (mvS p.2.1 m v)=atS p v):Bh p m=true :=
 Io.2 fun v hv _=>by rw[← h v hv];unfold mvS;rw[Fe hl]
theorem ZX {p:Pt} (hl:IsL p.2.1) {m n:Mo} (hm:m∈Au p) (hn:n∈Au p):Bi p.2.1 m n∈Au p:=by
 obtain⟨a1,a2,a3⟩:=Co.1 hm;obtain⟨b1,b2,b3⟩:=Co.1 hn;refine Co.2 ⟨Xr hl a1 b1,CS hl (AM hl _),Um hl fun v hv=>?_⟩;rw[← ZQ hl a1 v,Kp hl a3 (show Ah p.2.1 (mvS p.2.1 n v)=true from AM hl _),Kp hl b3 hv]
theorem ZY {p:Pt} (hl:IsL p.2.1):uMo∈Au p:=by
 have h0:Ah p.2.1 (0,0)=true:=Bk.2 (by have:=hl.a1;have:=hl.c1;simp only;omega)
 refine Co.2 ⟨Ko hl,CS hl h0,Um hl fun v hv=>?_⟩;rw[ZR hl hv]
theorem OX {α:Type} {p:Nat→α→Bool}:∀ {l:List α} {q:Nat},(∀ i (h:i<l.length),p (q+i) l[i]=true)→C6 p q l=true
 | [],_,_=>rfl
 | a :: l,q,h=>by
  have h0:=h 0 (by simp)
  have h1:=OX (p:=p) (l:=l) (q:=q+1) fun i hi=>by
   have:=h (i+1) (by simp;omega)
   have e:q+(i+1)=q+1+i:=by omega
   rw[e] at this;simpa using this
  simp only[C6];simp only[ACa,List.getElem_cons_zero] at h0;rw[h0,h1];rfl
theorem Ni {f:Int} {l:Lt} (hl:IsL l) {g:List Mo} (h1:∀ m∈g,m.1∈AU f l∧Ah l m.2=true) (h2:g.Pairwise fun a b=>ltM a b=true) (h3:uMo∈g) (h4:∀ m∈g,∀ n∈g,Bi l m n∈g):EF f l g=true:=by
 unfold EF;rw[aT,aT];refine⟨OX fun i hi=>?_,AA6.2 h3,AA3.2 fun m hm=>AA3.2 fun n hn=>AA6.2 (h4 m hm n hn)⟩;obtain⟨a1,a2⟩:=h1 _ (gM hi);unfold T9;rw[AA6.2 a1,a2,ABw];cases i with
 | zero=>rfl
 | succ j =>
  have:=ACr.1 h2 j (j+1) (by omega) hi (by omega)
  have e:(g.getD (j+1-1) dMo)=g[j]:=by simp[List.getD,show j<g.length by omega]
  rw[e,this];simp
theorem DM {p:Pt} (hp:IsP p):Bj p.1 p.2.1 (Au p):=by
 have hg:=Ni (f:=p.1) hp.l (g:=Au p) (fun m hm=>by
  obtain⟨a1,a2,_⟩:=Co.1 hm;have:=Ci a2;exact⟨a1,Bk.2 (by omega)⟩) (Af6 p) (ZY hp.l) fun m hm n hn=>ZX hp.l hm hn
 refine⟨hp.l,ZL ?_,hg⟩;unfold EF at hg;rw[aT] at hg;exact hg.1
def dP:Pt:=(0,(0,0,0),[])
theorem AkL (f:Int) (l:Lt) (g:List Mo) (b:Bool):BN f l g b=bif BN f l g true != 0 then BN f l g true else bif b then 0 else 2:=by
 unfold BN;cases okF f&&okL l<;>cases EF f l g<;>cases b<;>rfl
theorem Apn (f:Int) (l:Lt) (g:List Mo):Xb f l g=BN f l g true:=by
 unfold Xb BN;rw[ABJ]
theorem Xs (f:Int) (l:Lt) {g:List Mo} (hn:g.length≤1048576):Zi KK f l [g]=some (BN f l g true):=by
 rw[Kf f l hn,Apn]
theorem Rz {p:Pt} (h:okP p=true):okF p.1=true∧okL p.2.1=true:=by
 unfold okP at h;simp only[aT] at h;exact h.1.1
def IY (p:Pt) (g:List Mo):Int:=bif okP p then (if EF p.1 p.2.1 g then 0 else 2) else 1
theorem Apo {p:Pt} {g:List Mo} (h:IY p g=0):IsP p∧Bj p.1 p.2.1 g:=by
 unfold IY at h;cases ho:okP p
 ·rw[ho] at h;cases h
 ·rw[ho,cT] at h;obtain⟨h1,h2⟩:=Rz ho;refine⟨E7 ho,(Nd (b:=true) ?_).1⟩;unfold BN;rw[h1,h2];simpa using h
theorem Xt (p:Pt) {g:List Mo} (hn:g.length≤1048576):AoY KK p g=some (IY p g):=by
 unfold AoY IY;rw[Ka,oB];cases ho:okP p
 ·rfl
 ·obtain⟨h1,h2⟩:=Rz ho;rw[Kf p.1 p.2.1 hn];unfold Xb;rw[h1,h2];cases EF p.1 p.2.1 g<;>rfl
def GW (p:Pt) (g:List Mo):Bool:=g.all (Bh p)
theorem Af7 {p:Pt} (hp:IsP p) {g:List Mo} (h:Bj p.1 p.2.1 g):AjK KK p g=some (GW p g):=by
 have hl:=h.len;have hh:=Dg (R:=Bool) (body:=fun L x=>TW KK p g (fun v0=>L v0) x) g (fun q=>(q:Int)) (Bh p) (some false) (some true)
  (fun L q hq=>by
   have hg:=h.good _ (gM hq);unfold TW;rw[in1 hq,in0,gd hq];simp only[aS,cT];rw[show Afz KK p ((g[q].1.1,g[q].1.2.1,g[q].1.2.2),g[q].2)=some (Bh p g[q]) from AjP hp (Cy hg.1) hg.2,oB,Af (by omega)]
   cases Bh p g[q]<;>rfl)
  (fun L=>by
   unfold TW;rw[AO,cF]) KK 0 (by omega) (by simp only[KK];omega)
 unfold AjK AjJ ZD;refine hh.trans ?_;rw[ABb];unfold GW;cases g.all (Bh p)<;>rfl
theorem Uo {f:Int} {l:Lt} {g:List Mo} (h:Bj f l g) {o:List Vc} (ho:o∈AE l g):∃ x t,o=x :: t∧Ah l x=true:=by
 obtain⟨r,hr,rfl⟩:=ABe.1 ho;have hc:Ah l r=true:=Ay (ABs.1 hr).1;obtain⟨x,t,e,_⟩:=Ki h hc;exact⟨x,t,e,CJ h (v:=r) (by rw[e];simp)⟩
def AAC (f:Int) (l:Lt) (g:List Mo) (v:Vc):List Vc×Int:=bif BN f l g (Ah l v) != 0 then ([],BN f l g (Ah l v)) else (Bc l g v,0)
def Azc (l:Lt) (o:List Vc):List Int:=Cn l 1 o (List.replicate (Aa l).length 0)
theorem AdM {l:Lt} (hl:IsL l):(decide (0≤w (l.1*l.2.2))&&Nat.ble (w (l.1*l.2.2)).toNat (lim 8)&&(w (l.1*l.2.2)==w (l.1*l.2.2)))=true∧(w (l.1*l.2.2)).toNat=(Aa l).length:=by
 have hN:=AK hl;rw[Ake hl];have e5:(((Aa l).length:Nat):Int).toNat=(Aa l).length:=by omega
 rw[e5,in0,GR (by omega)]
 simp
def AAQ (f:Int) (l:Lt) (g:List Mo) (v:Vc):Pt×Int:=bif BN f l g (Ah l v) != 0 then ((0,(0,0,0),[]),BN f l g (Ah l v)) else ((f,l,Azc l (Bc l g v)),0)
theorem ZZ {l:Lt} (hl:IsL l) (g:List Mo):(GT l g).Nodup:=List.Pairwise.sublist ADl (Uc hl)
theorem Xu {l:Lt} {g:List Mo} {r:Vc} (h:r∈GT l g):Ah l r=true∧EX l g r=true:=by
 obtain⟨h1,h2⟩:=ABs.1 h;exact⟨Ay h1,h2⟩
theorem Z0 {f:Int} {l:Lt} {g:List Mo} (h:Bj f l g) {q:Nat} (hq:q<(AE l g).length) {u:Vc} (hu:u∈(AE l g)[q]):((AE l g).take q).any (fun o=>o.contains u)=false:=by
 cases hx:((AE l g).take q).any (fun o=>o.contains u)
 ·rfl
 ·exfalso;obtain⟨o,ho,hc⟩:=AB1.1 hx;obtain⟨i,hi,rfl⟩:=ACc ho;rw[ABv] at hi;rw[ADD] at hc;have hc:=AA6.1 hc;have hql:q<(GT l g).length:=by simpa[AE] using hq
  have hil:i<(GT l g).length:=by omega
  have e1:(AE l g)[q]=Bc l g (GT l g)[q]:=by simp[AE]
  have e2:(AE l g)[i]'(by omega)=Bc l g (GT l g)[i]:=by simp[AE]
  rw[e1] at hu;rw[e2] at hc;obtain⟨c1,c2⟩:=Xu (gM hql);obtain⟨d1,d2⟩:=Xu (gM hil);have h5:(GT l g)[q]∈Bc l g (GT l g)[i]:=Db h hc (EH h c1 hu);have h6:=Uf h d1 c1 d2 c2 h5;have:=(List.getElem_inj (ZZ h.la g)).1 h6;omega
theorem RA {f:Int} {l:Lt} {g:List Mo} (h:Bj f l g) {o:List Vc} (ho:o∈AE l g):(∀ u∈o,Ah l u=true)∧o.length≤768:=by
 obtain⟨r,_,rfl⟩:=ABe.1 ho;refine⟨fun u hu=>CJ h hu,?_⟩;have:=OE l g r;have:=h.len;omega
theorem OY {f:Int} {l:Lt} {g:List Mo} (h:Bj f l g) {u:Vc} (hu:Ah l u=true):(AE l g).any (fun o=>o.contains u)=true:=by
 obtain⟨w,h1,h2,h3,_⟩:=Akk h hu;refine AB1.2 ⟨Bc l g w,ABe.2 ⟨w,ABs.2 ⟨?_,h1⟩,rfl⟩,AA6.2 h3⟩;exact CS h.la h2
theorem OZ {l:Lt} (hl:IsL l) (g:List Mo):(AE l g).length≤64:=by
 unfold AE GT;rw[ABf];exact ABo (ACs _ _) (AK hl)
theorem Z1 {f:Int} {l:Lt} {g:List Mo} (h:Bj f l g) {q:Nat} (hq:q<(AE l g).length) {L:Int→List Int→Option (List Int)} {s:List Int} (hs:s.length=(Aa l).length) :
  MG KK l g (q:Int) (AE l g) L KK 0 s=L (w ((q:Int)+1)) (Cn l (q:Int) (AE l g)[q] s):=by
 obtain⟨hoc,hol⟩:=RA h (gM hq);have hgo:(AE l g).getD ((0:Int)+(q:Int)).toNat []=(AE l g)[q]:=gd hq;have hh:=AJ (R:=List Int) (body:=fun L' x=>Ia KK l g (q:Int) (AE l g) L (fun v0 v1=>L' (v0,v1)) x.1 x.2) (AE l g)[q] (fun i s=>((i:Int),s)) (fun s u=>s.set (A8 l u) (q:Int)) (fun s=>L (w ((q:Int)+1)) s) (fun i s=>s.length=(Aa l).length)
  (fun L' i s hi his=>by
   refine⟨by rw[ACg];exact his,?_⟩
   show Ia KK l g (q:Int) (AE l g) L (fun v0 v1=>L' (v0,v1)) (i:Int) s=_;unfold Ia;have hlt:=Ck h.la ((AE l g)[q])[i];rw[in0,in1 hq,hgo,in0,in1 hi,gd hi];simp only[aS,cT];rw[Ud h.la (hoc _ (gM hi)),oB,in0,in1 (show A8 l ((AE l g)[q])[i]<s.length by omega),Af (by omega)]
   have e1:((0:Int)+((A8 l ((AE l g)[q])[i]:Nat):Int)).toNat=A8 l ((AE l g)[q])[i]:=by omega
   simp only[aS,cT,e1])
  (fun L' s his=>by
   show Ia KK l g (q:Int) (AE l g) L (fun v0 v1=>L' (v0,v1)) (((AE l g)[q]).length:Int) s=_;unfold Ia;rw[in0,in1 hq,hgo,AO];rfl) KK 0 s (by omega) (by simp only[KK];omega) hs
 rw[ABb] at hh;exact hh
theorem DT {f:Int} {l:Lt} {g:List Mo} (h:Bj f l g):Qg KK l g=some (AP l g):=by
 have hN:=AK h.la;have hO:=OZ h.la g;obtain⟨r,hr,hh⟩:=Nb (X:=Int×List Int) (R:=List Int) (body:=fun L x=>Je KK l g (AE l g) (fun c0 d0 d1=>MG KK l g c0 (AE l g) (fun v0 v1=>L (v0,v1)) KK d0 d1) (fun v0 v1=>L (v0,v1)) x.1 x.2) (AE l g).length
  (fun q x=>x.1=(q:Int)∧x.2.length=(Aa l).length∧∀ u,Ah l u=true→x.2[A8 l u]? = some (bif ((AE l g).take q).any (fun o=>o.contains u) then C1 (fun o=>o.contains u) 0 ((AE l g).take q) else 0)) (fun r=>r=AP l g)
  (fun L q x hq hP=>by
   obtain⟨c,s⟩:=x;obtain⟨rfl,hsl,hg⟩:=hP;simp only at hsl hg;refine⟨(((q+1:Nat):Int),Cn l (q:Int) (AE l g)[q] s),⟨rfl,by simp only[C8];exact hsl,fun u hu=>?_⟩,?_⟩
   ·simp only;rw[EI h.la _ hu _ _ (RA h (gM hq)).1 (by rw[hsl];exact Ck h.la u),tS hq,List.any_append,OI]
    by_cases hm:u∈(AE l g)[q]
    ·have h1:=Z0 h hq hm;have h2:((AE l g)[q]).contains u=true:=AA6.2 hm;rw[if_pos hm,h1];simp only[AD7,List.any_nil,h2,ACw,oT,tO,ACl,cT,cF,C1,ABv];congr 1;omega
    ·have h2:((AE l g)[q]).contains u=false:=by
      cases hc:((AE l g)[q]).contains u
      ·rfl
      ·exact absurd (AA6.1 hc) hm
     rw[if_neg hm,hg u hu];simp only[AD7,List.any_nil,h2,ACw,ACl];cases ((AE l g).take q).any (fun o=>o.contains u)<;>rfl
   ·show Je KK l g (AE l g) _ _ (q:Int) s=_;unfold Je;rw[in1 hq,cT];refine (Z1 h hq hsl).trans ?_;rw[Af (by omega)])
  (fun L x hP=>by
   obtain⟨c,s⟩:=x;obtain⟨rfl,hsl,hg⟩:=hP;simp only at hsl hg;refine⟨s,?_,?_⟩
   ·refine Num.all h.la ⟨hsl,fun u hu=>?_⟩;rw[hg u hu,AB6,OY h hu,cT,OK]
   ·show Je KK l g (AE l g) _ _ ((AE l g).length:Int) s=_;unfold Je;rw[AO,cF]) KK 0 (0,List.replicate (Aa l).length 0) (by omega) (by simp only[KK];omega)
  ⟨rfl,by simp,fun u hu=>by
   simp only;rw[ACd,if_pos (Ck h.la u)];rfl⟩
 unfold Qg AhU;obtain⟨e1,e2⟩:=AdM h.la;rw[e1,cT,Kj h,oB,e2,← hr];exact hh
def AAR (f:Int) (l:Lt) (g:List Mo):List Int×Int:=bif BN f l g true != 0 then ([],BN f l g true) else (AP l g,0)
end Go.Proofs.YtkemdhpdfaejgaaGreatDoor.X
