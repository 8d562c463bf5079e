/- The plain law of FnHands: the other hand of a pattern, the site that the most motions fix, the centres of rotation. -/
import Derived.Test.YteheolldcpjkcaaGreatDoorQtNC
import Derived.Test.YteheolldcpjkcaaGreatDoorQtMT
import Derived.Test.YteheolldcpjkcaaGreatDoorQtPTurningSites
import Derived.Test.YteheolldcpjkcaaGreatDoorQzXRow
namespace Go.Proofs.YteheolldcpjkcaaGreatDoor.X
open Go
set_option linter.unusedSimpArgs false
set_option linter.unusedVariables false
theorem ZC {r a b c:Int} {x y:Bool} (hr:r≠3) (h0:a=0→x=y):Fx KK (r,a,b,c,x)=Fx KK (r,a,b,c,y):=by
 by_cases h:a=0
 ·rw[h0 h]
 ·unfold Fx R6;simp only[bne_iff_ne.2 h,cT,beq_eq_false_iff_ne.2 hr,cF]
theorem ZD:(Fx KK (1,0,0,0,false)).isSome=true∧(Fx KK (2,0,0,0,false)).isSome=true∧(Fx KK (3,0,0,0,false)).isSome=true∧(Fx KK (4,0,0,0,false)).isSome=true∧(Fx KK (6,0,0,0,false)).isSome=true:=⟨by kernel_rfl,by kernel_rfl,by kernel_rfl,by kernel_rfl,by kernel_rfl⟩
theorem CK {α:Type} {b:Bool} {x y:Option α} (hx:b=true→∃ z,x=some z) (hy:b=false→∃ z,y=some z):∃ z,(bif b then x else y)=some z:=by
 cases b
 ·exact hy rfl
 ·exact hx rfl
theorem Qp (F:Int×Int×Int×Int×Bool):∃ z,R6 KK F=some z:=by
 unfold R6;refine CK (fun _=>⟨_,rfl⟩) fun _=>CK (fun _=>⟨_,rfl⟩) fun _=>CK (fun _=>⟨_,rfl⟩) fun _=>CK (fun _=>⟨_,rfl⟩) fun _=>?_;have hy:∃ y1,(bif (bif (bif (F.1==(2:Int)) then (F.2.1==(2:Int)) else false) then (F.2.2.2.1==(0:Int)) else false) then EC KK F.2.2.1 (0:Int) (2:Int) else some false)=some y1∧(y1=true→0≤F.2.2.1∧F.2.2.1≤2):=by
  rw[EI];cases (bif (bif (F.1==(2:Int)) then (F.2.1==(2:Int)) else false) then (F.2.2.2.1==(0:Int)) else false)
  ·exact⟨_,rfl,fun h=>by cases h⟩
  ·exact⟨_,rfl,fun h=>of_decide_eq_true h⟩
 obtain⟨y1,e1,h1⟩:=hy;rw[e1,oB];refine CK (fun h=>?_) fun _=>CK (fun _=>⟨_,rfl⟩) fun _=>CK (fun _=>⟨_,rfl⟩) fun _=>CK (fun _=>⟨_,rfl⟩) fun _=>CK (fun _=>⟨_,rfl⟩) fun _=>CK (fun _=>⟨_,rfl⟩) fun _=>⟨_,rfl⟩;have hy:y1=true:=by
  revert h;cases (bif (bif (F.1==(2:Int)) then (F.2.1==(2:Int)) else false) then (F.2.2.2.1==(0:Int)) else false)
  ·intro h;cases h
  ·exact id
 have:=h1 hy;rw[dT (show 0≤F.2.2.1 by omega),dT (show F.2.2.1<3 by omega)]
 exact⟨_,rfl⟩
def SK (r:Int):Prop:=r=1∨r=2∨r=3∨r=4∨r=6
theorem ZE {r a b c:Int} {x:Bool} (hr:SK r) (h0:a=0→b=0∧c=0∧x=false):∃ z,Fx KK (r,a,b,c,x)=some z:=by
 by_cases h:a=0
 ·obtain⟨rfl,rfl,rfl⟩:=h0 h;subst h;obtain⟨z1,z2,z3,z4,z6⟩:=ZD;rcases hr with rfl | rfl | rfl | rfl | rfl
  ·exact ArN.1 z1
  ·exact ArN.1 z2
  ·exact ArN.1 z3
  ·exact ArN.1 z4
  ·exact ArN.1 z6
 ·obtain⟨z,e⟩:=Qp (r,a,b,c,x);unfold Fx;simp only[bne_iff_ne.2 h,cT];rw[e];exact⟨_,rfl⟩
theorem AgT:((pmQ++pmH).all fun m=>!(AO m==1)||(BE m==1||BE m==2||BE m==3||BE m==4||BE m==6))=true:=by kernel_rfl
theorem XZ:∀ (g:List Mo) (s:Int),SK s→(∀ m∈g,m.1∈pmQ++pmH)→SK (g.foldl LY s)
 | [],s,h,_=>h
 | m :: g,s,h,hg=>by
  rw[Arq];refine XZ g _ ?_ fun n hn=>hg n (ArC _ hn);unfold LY;cases hd:AO m.1==1
  ·exact h
  ·rw[cT];split
   ·have:=AqL.1 AgT m.1 (hg m (Asy ..));rw[hd] at this;simp only[nT,Aro,ArG,beq_iff_eq] at this;unfold SK;omega
   ·exact h
theorem Adq {p:Pt} (hp:IsP p):SK (HF (Ad p)):=XZ _ _ (Or.inl rfl) fun m hm=>Cc (A4.1 hm).1
theorem Adr {p:Pt} (hp:IsP p):∃ z,Fx KK (Qo p.1 p.2.1 (Ad p))=some z:=by
 rw[LZ];refine ZE (Adq hp) fun h=>?_;have:CY (Ad p)=[]:=ArM (by omega)
 rw[this];exact⟨rfl,rfl,rfl⟩
theorem AgU {p:Pt} (hp:IsP p):Fx KK (Qo (CC p).1 (CC p).2.1 (Ad (CC p)))=Fx KK (Qo p.1 p.2.1 (Ad p)):=by
 have hpm:=SJ hp;have h1:(CY (Ad (CC p))).length=(CY (Ad p)).length:=by rw[← hpm.length_eq,AqZ]
 have h2:=XY hp (Hz p.2.1) (Hz (lsw p.2.1)) fun m hm=>AlD hp.l (Fc hm).2.1 (Fc hm).2.2;have h3:=XY hp (fun m=>Gb p.2.1 m.1) (fun m=>Gb (lsw p.2.1) m.1) fun m hm=>AlF hp.l (Fc hm).2.1 (Fc hm).2.2;rw[show (CC p).1=p.1 from rfl,show (CC p).2.1=lsw p.2.1 from rfl,LZ,LZ,AgQ hp,h1,h2,h3]
 have key:((CY (Ad p)).length=0→Adn p.1 (lsw p.2.1) (CY (Ad (CC p)))=Adn p.1 p.2.1 (CY (Ad p)))∧(HF (Ad p)=3→Adn p.1 (lsw p.2.1) (CY (Ad (CC p)))=Adn p.1 p.2.1 (CY (Ad p))):=by
  cases e:CY (Ad p) with
  | nil =>
   rw[e] at h1;rw[ArM h1];exact⟨fun _=>rfl,fun _=>rfl⟩
  | cons m g =>
   cases e2:CY (Ad (CC p)) with
   | nil=>rw[e,e2] at h1;simp at h1
   | cons n g2 =>
    refine⟨fun h=>by simp at h,fun h=>?_⟩
    obtain⟨k,hk,rfl⟩:=Aq6.1 (hpm.mem_iff.2 (by rw[e2];exact Asy ..))
    exact (AgS hp h (by rw[e];exact Asy ..) hk).symm
 by_cases h:HF (Ad p)=3
 ·rw[key.2 h]
 ·exact ZC h fun h0=>key.1 (by omega)
theorem ZF {p:Pt} (ho:okF p.1=true) (hp:IsP p):Agg KK p=Fx KK (Qo p.1 p.2.1 (Ad p)):=by
 unfold Agg;rw[E5 hp,oB,AlH ho (D1 hp),oB];cases Fx KK (Qo p.1 p.2.1 (Ad p))<;>rfl
theorem L0 {p:Pt} (h:okP p=true):okP (Af p)=true:=by
 have hP:=DJ h;unfold okP at h;simp only[aT] at h;refine XS h.1.1.1 (C2.2 (Bn hP).l) fun v _=>?_;have ha:=AqL.1 h.2;unfold atS;rw[Arh];cases he:p.2.2[BH p.2.1 v]? with
 | none=>rfl
 | some x=>exact ha x (Aq4 he)
def Gk (p:Pt):Pt×Int:=bif okP p then (CC (Af p),0) else ((0,(0,0,0),[]),1)
theorem AkC:Tv (swO.2):=by decide
theorem N8 (p:Pt):f7G KK p=some (Gk p):=by
 unfold f7G Gk;rw[B5,oB];cases ho:okP p
 ·rfl
 have hp:=DJ ho;simp only[nT,cF,cT];rw[E4 hp,oB,Agy (m:=swO) (Bn hp) IF AkC];rfl
theorem ZG (p:Pt):f8G KK p=some (Gk p):=by
 unfold f8G Gk;rw[Dh,oB];cases ho:okP p
 ·rfl
 have hp:=DJ ho;simp only[nT,cF,cT];rw[Hy hp,oB,AgA (m:=swO) (Bn hp) IF AkC];rfl
def fxN (l:Lt) (gs:List Mo) (c:Vc):Int:=((gs.filter (fxV l c)).length:Int)
def Fz (l:Lt) (gs:List Mo) (s:Vc×Int) (c:Vc):Vc×Int:=bif decide (fxN l gs c>s.2) then (c,fxN l gs c) else s
def Qq (l:Lt) (gs:List Mo):Vc×Int:=(Ab l).foldl (Fz l gs) ((0,0),0)
def N9 (p:Pt):Vc×Int×Int:=bif okP p then ((Qq (Af p).2.1 (Ad (Af p))).1,(Qq (Af p).2.1 (Ad (Af p))).2,0) else ((0,0),0,1)
theorem J1 {α:Type} (p:α→Bool):∀ (l:List α) (s:Int),l.foldl (fun s a=>bif p a then s+1 else s) s=s+((l.filter p).length:Int)
 | [],s=>by simp
 | a :: l,s=>by
  rw[Arq,J1 p l,AsL];cases p a<;>simp<;>omega
theorem ZH {l:Lt} (hl:IsL l) {gs:List Mo} (hn:gs.length≤100000) (hg:∀ g∈gs,J0 g) {v:Vc} (hv:Sv v):Uc KK l gs v=some (fxN l gs v):=by
 rw[Ix hl hn hg hv,J1,AtJ];rfl
theorem ZI (p:Pt):f9G KK p=some (N9 p):=by
 unfold f9G Ald N9;rw[B5,oB];cases ho:okP p
 ·rfl
 have hp:=DJ ho;have hq:=Bn hp;have hn:=DY hq;have hc:=AD hq.l;simp only[nT,cF,cT];rw[E4 hp,oB,E5 hq,oB,DX hq.l,oB];have h:=Ao (X:=Int×Int×Int×Int) (body:=fun L x=>WS KK p true (Af p) (Ad (Af p)) (Ab (Af p).2.1) (fun v0 v1 v2 v3=>L (v0,v1,v2,v3)) x.1 x.2.1 x.2.2.1 x.2.2.2) (Ab (Af p).2.1) (fun q (s:Vc×Int)=>(s.2,(q:Int),s.1.1,s.1.2)) (Fz (Af p).2.1 (Ad (Af p))) (fun s=>some (s.1,s.2,(0:Int))) (fun _ _=>True)
  (fun L q s hq2 _=>by
   refine⟨trivial,?_⟩;have hv:=BS hq.l (gM hq2);unfold WS Fz fxN;simp only;rw[in1 hq2,in0,gd hq2,Aq (by omega)]
   simp only[aS,cT];rw[DF hq.l (by omega) (fun g hg=>Cr hq hg) hv,oB]
   cases decide ((((Ad (Af p)).filter (fxV (Af p).2.1 (Ab (Af p).2.1)[q])).length:Int)>s.2)<;>rfl)
  (fun L s _=>by
   unfold WS;simp only;rw[AY,cF]) KK 0 ((0,0),0) (by omega) (by have:=B4 (n:=(Ab (Af p).2.1).length) (by omega);omega) trivial
 unfold AbM;refine h.trans ?_;rw[AqN];rfl
theorem ZJ (p:Pt):AbT KK p=some (N9 p):=by
 unfold AbT AbS N9;rw[Dh,oB];cases ho:okP p
 ·rfl
 have hp:=DJ ho;have hq:=Bn hp;have hn:=DY hq;have hc:=AD hq.l;simp only[nT,cF,cT];rw[Hy hp,oB,JW hq,oB,B1 hq.l,oB];have h:=Ao (X:=Int×Int×Int×Int) (body:=fun L x=>PN KK p true (Af p) (Ad (Af p)) (Ab (Af p).2.1) (fun v0 v1 v2 v3=>L (v0,v1,v2,v3)) x.1 x.2.1 x.2.2.1 x.2.2.2) (Ab (Af p).2.1) (fun q (s:Vc×Int)=>(s.2,(q:Int),s.1.1,s.1.2)) (Fz (Af p).2.1 (Ad (Af p))) (fun s=>some (s.1,s.2,(0:Int))) (fun _ _=>True)
  (fun L q s hq2 _=>by
   refine⟨trivial,?_⟩;have hv:=BS hq.l (gM hq2);unfold PN Fz;simp only;rw[in1 hq2,in0,gd hq2,Aq (by omega)]
   simp only[aS,cT];rw[ZH hq.l (by omega) (fun g hg=>Cr hq hg) hv,oB]
   cases decide (fxN (Af p).2.1 (Ad (Af p)) (Ab (Af p).2.1)[q]>s.2)<;>rfl)
  (fun L s _=>by
   unfold PN;simp only;rw[AY,cF]) KK 0 ((0,0),0) (by omega) (by have:=B4 (n:=(Ab (Af p).2.1).length) (by omega);omega) trivial
 unfold Ud;refine h.trans ?_;rw[AqN];rfl
theorem SL (l:Lt) (gs:List Mo):∀ (L:List Vc) (s:Vc×Int),(∀ c∈L,AB l c=true)→(s.2=0∨(AB l s.1=true∧fxN l gs s.1=s.2)) →
  ((L.foldl (Fz l gs) s).2=0∨(AB l (L.foldl (Fz l gs) s).1=true∧fxN l gs (L.foldl (Fz l gs) s).1=(L.foldl (Fz l gs) s).2))∧s.2≤(L.foldl (Fz l gs) s).2∧∀ c∈L,fxN l gs c≤(L.foldl (Fz l gs) s).2
 | [],s,_,h=>⟨h,Asq _,fun c hc=>by cases hc⟩
 | a :: L,s,hL,h=>by
  rw[Arq];have hL2:∀ c∈L,AB l c=true:=fun c hc=>hL c (ArC _ hc);have hst:((Fz l gs s a).2=0∨(AB l (Fz l gs s a).1=true∧fxN l gs (Fz l gs s a).1=(Fz l gs s a).2))∧s.2≤(Fz l gs s a).2∧fxN l gs a≤(Fz l gs s a).2:=by
   unfold Fz;by_cases hd:fxN l gs a>s.2
   ·rw[dT hd,cT];exact⟨Or.inr ⟨hL a (Asy ..),rfl⟩,by simp only;omega,Asq _⟩
   ·rw[dF hd,cF];exact⟨h,Asq _,by omega⟩
  obtain⟨r1,r2,r3⟩:=SL l gs L _ hL2 hst.1;refine⟨r1,by omega,fun c hc=>?_⟩
  rcases AqQ.1 hc with rfl | hc
  ·omega
  ·exact r3 c hc
theorem AgV {p:Pt} (hp:IsP p):AB p.2.1 (Qq p.2.1 (Ad p)).1=true∧fxN p.2.1 (Ad p) (Qq p.2.1 (Ad p)).1=(Qq p.2.1 (Ad p)).2:=by
 obtain⟨h1,_,h3⟩:=SL p.2.1 (Ad p) (Ab p.2.1) ((0,0),0) (fun c hc=>CS hc) (Or.inl rfl);have hz:AB p.2.1 (0,0)=true:=BU.2 (by have:=hp.l.a1;have:=hp.l.c1;simp only;omega)
 have h0:=h3 (0,0) (Br hp.l hz);have hu:uMo∈(Ad p).filter (fxV p.2.1 (0,0)):=by
  refine AqY.2 ⟨(D1 hp).one,?_⟩;unfold fxV;rw[show Ar uMo (0,0)=(0,0) by decide,DQ hp.l hz]
  rfl
 have h4:1≤fxN p.2.1 (Ad p) (0,0):=by
  have:=Asx hu;unfold fxN;omega
 rcases h1 with h1 | h1
 ·omega
 ·exact h1
theorem ZK {p:Pt} (ho:okP p=true) {v:Vc} (hc:AB (Af p).2.1 v=true):Agi KK p v=some ((Ad (Af p)).filter (fxV (Af p).2.1 v),0):=by
 unfold Agi;have hp:=DJ ho;have hq:=Bn hp;have hn:=DY hq;rw[B5,ho,oB];simp only[nT,cF];rw[E4 hp,oB,Zq hq.l,hc,oB];simp only[nT,cF];rw[E5 hq,oB,DF hq.l (by omega) (fun g hg=>Cr hq hg) (Gc hq.l hc)]
 rfl
theorem SN {a:List Int} (ha:a.length≤1000):R0 KK a a=some true:=by
 unfold R0 Ui PU;rw[bne_self_eq_false,cF];have h:=CZ (X:=Int) (body:=fun L z=>KA KK a a (fun v0=>L v0) z) a (fun q=>(q:Int)) (fun _=>true) (some false) (some true)
  (fun L q hq=>by
   unfold KA;rw[in1 hq,in0,gd hq,Aq (by omega)]
   simp only[aS,cT,bne_self_eq_false,cF])
  (fun L=>by
   unfold KA;rw[AY,cF]) KK 0 (by omega) (by have:=B4 (n:=a.length) (by omega);omega)
 refine h.trans ?_;rw[AqN,show (a.all fun _=>true)=true from AqL.mpr (by simp)]
 rfl
theorem AkD {p:Pt} (hp:IsP p):p.2.2.length≤64:=by
 have:=hp.n;have:=hp.l.ix;omega
theorem UF {p:Pt} (hp:IsP p):Af2 KK p p=some true:=by
 unfold Af2;have:=AkD hp;simp only[beq_self_eq_true,aS,cT];rw[SN (by omega)]
 rfl
theorem ZL {p:Pt} (h:okP p=true):Af3 KK (Af p) p=some (true,0):=by
 have hp:=DJ h;unfold Af3;rw[B5,L0 h,oB];simp only[nT,nF,cT,cF];rw[B5,h,oB];simp only[nT,cF];rw[E4 (Bn hp),oB,E4 hp,oB,N4 hp,UF (Bn hp)];rfl
theorem SO {p:Pt} (h:okP p=true):okP (CC (Af p))=true∧Af (CC (Af p))=CC (Af p)∧Gk (CC (Af p))=(Af p,0):=by
 have hp:=DJ h;have h1:okP (CC (Af p))=true:=AgB (L0 h) IF;have h2:Af (CC (Af p))=CC (Af p):=Zu hp IF;refine⟨h1,h2,?_⟩;unfold Gk;rw[h1,h2,XU (Bn hp)];rfl
theorem SP {p:Pt} (h:okP p=true) {z:ByteArray} (hz:Fx KK (Qo (Af p).1 (Af p).2.1 (Ad (Af p)))=some z):Ul KK p=some (z,0):=by
 have hp:=DJ h;unfold Ul;rw[B5,h,oB];simp only[nT,cF];rw[E4 hp,oB,ZF (ZO (L0 h)).1 (Bn hp),hz];rfl
theorem UG {p:Pt} (h:okP p=true):∃ z,Ul KK p=some (z,0)∧Ul KK (CC (Af p))=some (z,0):=by
 have hp:=DJ h;obtain⟨h1,h2,_⟩:=SO h;obtain⟨z,hz⟩:=Adr (Bn hp);refine⟨z,SP h hz,SP h1 ?_⟩;rw[h2,AgU (Bn hp)];exact hz
theorem UH (a:ByteArray):(a==a)=true:=by
 rw[beq_toListBytes];simp
theorem Qr (a0:List Int) (h:WfA [(.list 5 (.int .u8))] (a0,())):∃ K,f3G K a0=some true:=by
 refine⟨KK,?_⟩;have hw:Wf (.list 5 (.int .u8)) a0:=h.1;unfold f3G;rw[AlA,oB];by_cases hl:4096<a0.length
 ·rw[dT (by omega),cT]
 rw[dF (by omega),cF]
 obtain⟨t,s0,e0⟩:=AgE (AgI hw) (by omega)
 obtain⟨t1,p,e1,s1,hpl⟩:=AgL s0;have ed:f6G KK a0=some p:=by
  unfold f6G;rw[e0,oB,e1];rfl
 obtain⟨t2,r2,e2,s2,_⟩:=BC s1 8;obtain⟨t3,n,e3,s3,_⟩:=GV s2 (l:=[(2:Int),2,3,4,6,r2]) (by simp)
 have et:AfQ KK a0=some (p,n):=by
  unfold AfQ;rw[e0,oB,e1,oB,e2,oB,e3];rfl
 have hrl:=Adv p n;rw[ed,oB,N8,oB,ZG,oB,ZI,oB,ZJ,oB,et,oB,Me,oB,Mc,oB];simp only[bne_self_eq_false,nF,cT,cF,beq_self_eq_true,aS,nT];have hol:(Gk p).1.2.2.length≤1000:=by
  unfold Gk;cases ho:okP p
  ·simp
  ·have:=AkD (Adf (Bn (DJ ho)));simp only[cT];omega
 rw[Kc (by omega),oB]
 simp only[nT,nF,cT,cF];rw[SA (by omega),oB]
 simp only[nT,cF];cases ho:okP p
 ·unfold Gk;rw[ho];rfl
 have hp:=DJ ho;obtain⟨h1,h2,h3⟩:=SO ho;obtain⟨z,n1,n2⟩:=UG ho;obtain⟨b1,b2⟩:=AgV (Bn hp);have eo:Gk p=(CC (Af p),0):=by unfold Gk;rw[ho];rfl
 have eb:N9 p=((Qq (Af p).2.1 (Ad (Af p))).1,(Qq (Af p).2.1 (Ad (Af p))).2,0):=by unfold N9;rw[ho];rfl
 rw[eo,eb];simp only[bne_self_eq_false,cF];rw[N8,h3,oB];simp only;rw[ZL ho,oB,n1,oB,n2,oB,ZK ho b1,oB];simp only[beq_self_eq_true,cT,UH];rw[show (((Ad (Af p)).filter (fxV (Af p).2.1 (Qq (Af p).2.1 (Ad (Af p))).1)).length:Int)=(Qq (Af p).2.1 (Ad (Af p))).2 from b2,beq_self_eq_true]
end Go.Proofs.YteheolldcpjkcaaGreatDoor.X
