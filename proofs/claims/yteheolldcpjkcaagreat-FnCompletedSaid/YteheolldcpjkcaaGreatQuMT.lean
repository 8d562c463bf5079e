/- Plain facts: numbers, lattices, motions and cells that a code draws. -/
import Derived.Test.YteheolldcpjkcaaGreatQuPOrbitNumbers
import Derived.Test.YteheolldcpjkcaaGreatQuMS
import Derived.Test.YteheolldcpjkcaaGreatQuPTwoColourPattern
namespace Go.Proofs.YteheolldcpjkcaaGreat.X
open Go
set_option linter.unusedSimpArgs false
set_option linter.unusedVariables false
structure Src (c:List Int) (t:Int×Int):Prop where
 by0:∀ i (h:i<c.length),0≤c[i]∧c[i]≤255
 len:c.length≤4096
 a0:0≤t.1
 a1:t.1≤(c.length:Int)
 s0:0≤t.2
 s1:t.2<2147483647
theorem AhB {n:Int} (h:(Lit.int .u8 n).wf=true):0≤n∧n≤255:=by
 simp[Lit.wf,IntKind.min,IntKind.max,IntKind.signed,IntKind.bits] at h;omega
theorem Y3 {c:List Int} (hb:∀ i (h:i<c.length),0≤c[i]∧c[i]≤255) (hl:c.length≤4096):∃ t,Src c t∧Z1 KK c=some t:=by
 unfold Z1 AbJ UQ;refine Ln (X:=Int×Int) (R:=Int×Int) (min c.length 64) (fun q x=>x.1=(q:Int)∧0≤x.2∧x.2<2147483647) (Src c) ?_ ?_ KK 0 (0,93001) (by omega) (by simp only[KK];omega) ⟨rfl,by simp,by simp⟩
 ·rintro L q ⟨x1,x2⟩ hq ⟨e1,e2,e3⟩
  simp only at e1 e2 e3;subst e1;have hq1:q<c.length:=by omega
  obtain⟨b0,b1⟩:=hb q hq1;have hq4:decide ((q:Int)<64)=true:=dT (by omega)
  refine⟨(((q+1:Nat):Int),(x2*73+c[q]).tmod 2147483647),⟨rfl,AsL _ (by omega),AsY _ (by omega)⟩,?_⟩
  show LW KK c (fun v0 v1=>L (v0,v1)) (q:Int) x2=_;unfold LW;rw[in1 hq1,in0,gd hq1,hq4,AD (n:=x2*73) (by omega) (by omega),AD (n:=c[q]) (by omega) (by omega),AD (n:=x2*73+c[q]) (by omega) (by omega),Ak (by omega)]
  simp only[oT,tO,cT,aS]
 ·rintro L ⟨x1,x2⟩ ⟨e1,e2,e3⟩
  simp only at e1 e2 e3;subst e1;refine⟨(0,x2),⟨hb,hl,by simp,by simp,e2,e3⟩,?_⟩
  show LW KK c (fun v0 v1=>L (v0,v1)) ((min c.length 64:Nat):Int) x2=_;unfold LW;have hx:(bif decide (((min c.length 64:Nat):Int)<(c.length:Int)) then decide (((min c.length 64:Nat):Int)<64) else false)=false:=by
   by_cases h1:c.length≤64
   ·rw[dF (by omega)];rfl
   ·rw[dF (show ¬ ((min c.length 64:Nat):Int)<64 by omega)]
    cases decide (((min c.length 64:Nat):Int)<(c.length:Int))<;>rfl
  rw[hx];simp only[oT,tO,cT,cF]
theorem AM {c:List Int} {t:Int×Int} (h:Src c t) (n:Int):∃ t' r,A8 KK (c,t) n=some (t',r)∧Src c t'∧0≤r∧(r<n∨r=0):=by
 obtain⟨hb,hl,a0,a1,s0,s1⟩:=h;obtain⟨a,sd⟩:=t;simp only at a0 a1 s0 s1;obtain⟨k,rfl⟩:∃ k:Nat,a=(k:Int):=⟨a.toNat,by omega⟩
 unfold A8;simp only;by_cases h1:n≤1
 ·rw[dT h1,cT];exact⟨_,_,rfl,⟨hb,hl,a0,a1,s0,s1⟩,by omega,.inr rfl⟩
 ·have hn0:(n != 0)=true:=by simp;omega
  rw[dF h1,cF,hn0,AD (n:=sd*48271) (by omega) (by omega),AD (n:=sd*48271+67) (by omega) (by omega)]
  have m0:=AsL (a:=sd*48271+67) 2147483647 (by omega)
  have m1:=AsY (sd*48271+67) (show (0:Int)<2147483647 by omega)
  generalize (sd*48271+67).tmod 2147483647=u at *;have q:u.tdiv 37=u / 37:=AsX m0;rw[q,AD (n:=u / 37) (by omega) (by omega)]
  have fin:∀ x:Int,0≤x→0≤x.tmod n∧(x.tmod n<n∨x.tmod n=0):=fun x hx=>⟨AsL _ hx,.inl (AsY _ (by omega))⟩
  by_cases h2:k<c.length
  ·obtain⟨b0,b1⟩:=hb k h2;rw[in1 h2,in0,gd h2,Ak (by omega),AD (n:=((k+1:Nat):Int)-1) (by omega) (by omega)]
   have e1:((k+1:Nat):Int)-1=(k:Int):=by omega
   rw[e1,in0,in1 h2,gd h2,AD (n:=c[k]) (by omega) (by omega),AD (n:=u / 37+c[k]) (by omega) (by omega)]
   simp only[oT,tO,cT,aS];have hs:Src c (((k+1:Nat):Int),u):=⟨hb,hl,by simp only;omega,by simp only;omega,m0,m1⟩
   cases (bif decide (n≤256) then (((k+1:Nat):Int).tmod 2==0) else false)
   ·exact⟨_,_,rfl,hs,fin _ (by omega)⟩
   ·exact⟨_,_,rfl,hs,fin _ (by omega)⟩
  ·have e:decide ((k:Int)<(c.length:Int))=false:=dF (by omega)
   rw[e,cF,cT];exact⟨_,_,rfl,⟨hb,hl,by simp only;omega,by simp only;omega,m0,m1⟩,fin _ (by omega)⟩
theorem BC {c:List Int} {t:Int×Int} (h:Src c t) {n:Int} (hn:1≤n):∃ t' r,A8 KK (c,t) n=some (t',r)∧Src c t'∧0≤r∧r<n:=by
 obtain⟨t',r,e,hs,h0,h1⟩:=AM h n;exact⟨t',r,e,hs,h0,by omega⟩
theorem DP {c:List Int} {t:Int×Int} (h:Src c t) {l:List Int} (hl:0<l.length):∃ t' r,KB KK (c,t) l=some (t',r)∧Src c t'∧r∈l:=by
 obtain⟨t',r,e,hs,h0,h1⟩:=BC h (n:=(l.length:Int)) (by omega)
 obtain⟨k,rfl⟩:∃ k:Nat,r=(k:Int):=⟨r.toNat,by omega⟩
 have hk:k<l.length:=by omega
 unfold KB;rw[e,oB,in0,in1 hk,gd hk];exact⟨t',_,rfl,hs,gM hk⟩
theorem Ad2 {c:List Int} {t:Int×Int} (h:Src c t):∃ t' f,WT KK (c,t)=some (t',f)∧Src c t':=by
 unfold WT;obtain⟨t1,r1,e1,h1,_⟩:=AM h 40;rw[e1,oB];simp only;cases r1==0
 ·obtain⟨t2,r2,e2,h2,_⟩:=AM h1 2;rw[cF,e2];exact⟨_,_,rfl,h2⟩
 ·obtain⟨t2,r2,e2,h2,_⟩:=DP h1 (l:=[(-1:Int),2]) (by simp)
  rw[cT,e2];exact⟨_,_,rfl,h2⟩
theorem Ame {c:List Int} {t:Int×Int} (h:Src c t):∃ t' l,WU KK (c,t)=some (t',l)∧Src c t':=by
 unfold WU;obtain⟨t1,r1,e1,h1,_⟩:=AM h 6;rw[e1,oB];simp only;obtain⟨t2,r2,e2,h2,_⟩:=AM h1 6;rw[e2,oB];simp only;obtain⟨t3,r3,e3,h3,_⟩:=AM h2 (w (1+r1));rw[e3,oB];simp only;obtain⟨t4,r4,e4,h4,_⟩:=AM h3 60;rw[e4,oB];simp only;cases r4==0
 ·rw[cF];cases r4==1
  ·rw[cF];cases r4==2
   ·exact⟨_,_,rfl,h4⟩
   ·obtain⟨t5,r5,e5,h5,_⟩:=DP h4 (l:=[(8:Int),9]) (by simp)
    rw[cT,e5];exact⟨_,_,rfl,h5⟩
  ·obtain⟨t5,r5,e5,h5,_⟩:=DP h4 (l:=[(-1:Int),w (1+r1),w (w (1+r1)-1)]) (by simp)
   rw[cT,e5];exact⟨_,_,rfl,h5⟩
 ·obtain⟨t5,r5,e5,h5,_⟩:=DP h4 (l:=[(0:Int),64,65,8]) (by simp)
  rw[cT,e5];exact⟨_,_,rfl,h5⟩
theorem Y4 {c:List Int} {t:Int×Int} (h:Src c t):∃ t' f l,Sd KK (c,t)=some (t',f,l)∧Src c t':=by
 unfold Sd;obtain⟨t1,f,e1,h1⟩:=Ad2 h;rw[e1,oB];simp only;obtain⟨t2,r2,e2,h2,_⟩:=AM h1 5;rw[e2,oB];simp only;cases r2==0
 ·rw[cF];cases r2==1
  ·rw[cF];cases r2==2
   ·rw[cF];obtain⟨t3,r3,e3,h3,_⟩:=AM h2 4;rw[e3];exact⟨_,_,_,rfl,h3⟩
   ·rw[cT];cases f==0
    ·exact⟨_,_,_,rfl,h2⟩
    ·exact⟨_,_,_,rfl,h2⟩
  ·rw[cT];obtain⟨t3,r3,e3,h3,_⟩:=AM h2 4;rw[e3,oB];simp only;obtain⟨t4,r4,e4,h4,_⟩:=AM h3 4;rw[e4];exact⟨_,_,_,rfl,h4⟩
 ·obtain⟨t3,l,e3,h3⟩:=Ame h2;rw[cT,e3];exact⟨_,_,_,rfl,h3⟩
theorem OW {c:List Int} {t:Int×Int} (h:Src c t) {f:Int} {l:Lt} (hf:okF f=true) (hl:IsL l):∃ t' m,Sp KK (c,t) f l=some (t',m)∧Src c t'∧m.1∈Ba f l∧Sm m.2:=by
 have hf':0≤f∧f≤1:=by simpa[okF] using hf
 have hs1:=TU (f:=f) hl;have hpos:0<(Ba f l).length:=Ar1 hs1;unfold Sp Sf;rw[CR,hf,Cn.2 hl,QP hf'.1 hf'.2 hl];simp only[oB,aS,if_true,beq_self_eq_true,cT];obtain⟨t1,r1,e1,h1,a1,b1⟩:=BC h (n:=((Ba f l).length:Int)) (by omega)
 obtain⟨k,rfl⟩:∃ k:Nat,r1=(k:Int):=⟨r1.toNat,by omega⟩
 have hk:k<(Ba f l).length:=by omega
 rw[e1,oB];simp only;rw[in0,in1 hk,gd hk];simp only[aS,cT];obtain⟨t2,r2,e2,h2,a2,b2⟩:=BC h1 (n:=9) (by omega)
 rw[e2,oB];simp only;obtain⟨t3,r3,e3,h3,a3,b3⟩:=BC h2 (n:=9) (by omega)
 rw[e3,oB,AD (n:=r2-4) (by omega) (by omega),AD (n:=r3-4) (by omega) (by omega)]
 refine⟨t3,((Ba f l)[k],(r2-4,r3-4)),rfl,h3,gM hk,?_⟩;unfold Sm;simp only;omega
theorem Pre.pw {f:Int} {l:Lt} {g:List Mo} (h:Pre f l g):g.Pairwise fun a b=>ltM a b=true:=ArA.2 fun i j hi hj hij=>h.lt j i hj hij
theorem VI {f:Int} {l:Lt} {g:List Mo} (h1:∀ m∈g,m.1∈Ba f l∧Al l m.2=true) (h2:g.Pairwise fun a b=>ltM a b=true):Pre f l g:=⟨h1,fun i h=>ArA.1 h2 i (i+1) (by omega) h (by omega)⟩
theorem AhC {a b:Mo} (h:ltM a b=false) (k:ltM b a=false):a=b:=Aax (QU rfl h k)
theorem OX {f:Int} {l:Lt} {g:List Mo} (hl:IsL l) (hp:Pre f l g) {m:Mo} (hm:m.1∈Ba f l∧Al l m.2=true) (hn:g.contains m=false):∃ g',W8 KK g m=some g'∧Pre f l g'∧(∀ x,x∈g'↔x∈g∨x=m)∧g'.length=g.length+1:=by
 have hlen:=hp.len hl;obtain⟨p,h1,h2,h3,h4⟩:=Fi hp (by omega) m KK 0 g.length (by omega) (by omega) (by simp only[KK];omega) (fun i _ h=>by omega) (fun i hi h=>by omega)
 have hne:∀ i (h:i<g.length),g[i]≠m:=fun i h e=>by
  have:g.contains m=true:=Aqx.2 (by rw[← e];exact gM h)
  rw[hn] at this;cases this
 have hgt:∀ i (h:i<g.length),p≤i→ltM m g[i]=true:=fun i h hi=>by
  cases hx:ltM m g[i] with
  | true=>rfl
  | false=>exact absurd (AhC (h4 i h hi) hx) (hne i h)
 have z1:((0:Int)+(p:Int)).toNat=p:=by omega
 have z2:((0:Int)+(g.length:Int)).toNat=g.length:=by omega
 have d1:decide ((p:Int)≤(g.length:Int))=true:=dT (by omega)
 have l1:(g.take p).length=p:=by rw[AqT];omega
 have l2:(g.drop p).length=g.length-p:=AsE;refine⟨g.take p++[m]++g.drop p,?_,?_,?_,by simp only[lA,l1,l2,Ar9];omega⟩
 ·unfold W8 Og PZ;simp only[show G3 KK g m KK (0:Int) (g.length:Int)=some (p:Int) from h1,oB,oT,tO,cT,z1,z2,Aru,Aqq,AqM,in0,d1,Int.le_refl,decide_true,aS]
  rw[Ey (by rw[l1];omega),Ey (by rw[l1];simp;omega),Ey (by rw[lA,l1,l2];simp;omega)]
  by_cases hlt:p<g.length
  ·have hx:(g.getD p dMo)=g[p]:=by simp[List.getD,hlt]
   have e2:(g[p]==m)=false:=beq_eq_false_iff_ne.2 (hne p hlt);rw[← Ao1] at e2;rw[in1 hlt];simp only[nT,Arm,ArF,aS,cT];rw[show g.getD p ((0,0,0,0),0,0)=g[p] from hx,e2]
   rfl
  ·have e:p=g.length:=by omega
   rw[dF (show ¬ (p:Int)<(g.length:Int) by omega)]
   rfl
 ·refine VI (fun x hx=>?_) ?_
  ·simp only[Aqy,mS] at hx;rcases hx with (hx | rfl) | hx
   ·exact hp.mem _ (ArI hx)
   ·exact hm
   ·exact hp.mem _ (ArT hx)
  ·have hpw:=hp.pw;rw[Aqv,Asd,Asd];have ht:∀ a∈g.take p,ltM a m=true:=fun a ha=>by
    obtain⟨i,hi,rfl⟩:=Aq7 ha;rw[l1] at hi;rw[Asa];exact h3 i (by omega) hi
   have hd:∀ b∈g.drop p,ltM m b=true:=fun b hb=>by
    obtain⟨i,hi,rfl⟩:=Aq7 hb;rw[l2] at hi;rw[List.getElem_drop];exact hgt (p+i) (by omega) (by omega)
   refine⟨hpw.sublist (List.take_sublist _ _),⟨by simp,hpw.sublist (List.drop_sublist _ _),fun a ha b hb=>?_⟩,fun a ha b hb=>?_⟩
   ·rw[mS] at ha;subst ha;exact hd b hb
   ·rcases Aqy.1 hb with hb | hb
    ·rw[mS] at hb;subst hb;exact ht a ha
    ·exact DV (ht a ha) (hd b hb)
 ·intro x;simp only[Aqy,mS];constructor
  ·rintro ((h | h) | h)
   ·exact .inl (ArI h)
   ·exact .inr h
   ·exact .inl (ArT h)
  ·rintro (h | h)
   ·rw[← Ar7 p g] at h;rcases Aqy.1 h with h | h
    ·exact .inl (.inl h)
    ·exact .inr h
   ·exact .inl (.inr h)
structure Cl (f:Int) (l:Lt) (out queue:List Mo):Prop where
 pre:Pre f l out
 mem:∀ x,x∈out↔x∈queue
 len:queue.length=out.length
abbrev OkM (f:Int) (l:Lt) (m:Mo):Prop:=m.1∈Ba f l∧Al l m.2=true
theorem OkM.good {f:Int} {l:Lt} (hl:IsL l) {m:Mo} (h:OkM f l m):GB m:=⟨Ms h.1,D6 hl h.2⟩
theorem VJ {f:Int} {l:Lt} (hl:IsL l) {m n:Mo} (hm:OkM f l m) (hn:OkM f l n):OkM f l (BS l m n):=⟨Aej hl hm.1 hn.1,A5 hl _⟩
theorem MQ {f:Int} {l:Lt} (hl:IsL l) {gs:List Mo} (hg:∀ m∈gs,OkM f l m) (hgn:gs.length≤1000) {a:Nat} {q0:List Mo} {L:Int→List Mo→List Mo→Option (List Mo)}:∀ (n i:Nat) (out queue:List Mo),Cl f l out queue→a<queue.length→i≤gs.length→gs.length-i<n →
  ∃ out' queue',Cl f l out' queue'∧queue.length≤queue'.length∧Dm KK l gs (a:Int) q0 L n (i:Int) out queue=L ((a+1:Nat):Int) out' queue'
 | 0,i,_,_,_,_,_,h=>by omega
 | n+1,i,out,queue,hC,ha,hi,hk=>by
  have hlen:=hC.pre.len hl;have hql:=hC.len;show ∃ out' queue',Cl f l out' queue'∧queue.length≤queue'.length∧Gl KK l gs (a:Int) q0 L (fun v0 v1 v2=>Dm KK l gs (a:Int) q0 L n v0 v1 v2) (i:Int) out queue=_;unfold Gl;by_cases hlt:i<gs.length
  ·have o1:=hg _ (gM hlt);have o2:OkM f l queue[a]:=hC.pre.mem _ ((hC.mem _).2 (gM ha));have o3:=VJ hl o1 o2;have g1:=o1.good hl;have g2:=o2.good hl;rw[in1 hlt,in0,gd hlt,in0,in1 ha,gd ha];simp only[aS,cT];rw[HW g1 g2,oB,CG hl (m:=(mmS gs[i].1 queue[a].1,BH gs[i] queue[a].2)) (Fe (Ct g1.1) g2.2 g1.2),oB,Hb hC.pre (by omega),oB,Ak (by omega)]
   rw[show (((mmS gs[i].1 queue[a].1,AZ l (BH gs[i] queue[a].2)):Mo))=BS l gs[i] queue[a] from rfl]
   cases hc:out.contains (BS l gs[i] queue[a])
   ·obtain⟨g',e1,e2,e3,e4⟩:=OX hl hC.pre o3 hc;have hlen2:=e2.len hl;simp only[nF,cT];rw[e1,oB,Ey (by simp;omega),cT]
    obtain⟨out',queue',c1,c2,c3⟩:=MQ hl hg hgn (a:=a) (q0:=q0) (L:=L) n (i+1) g' (queue++[BS l gs[i] queue[a]]) ⟨e2,fun x=>by rw[e3,Aqy,mS,hC.mem],by rw[lA,e4,hql];rfl⟩ (by rw[lA];simp;omega) (by omega) (by omega)
    exact⟨out',queue',c1,by rw[lA] at c2;omega,c3⟩
   ·simp only[nT,cF];exact MQ hl hg hgn n (i+1) out queue hC ha (by omega) (by omega)
  ·have e:i=gs.length:=by omega
   subst e;rw[AS,cF,Ak (by omega)]
   exact⟨out,queue,hC,Aqr _,rfl⟩
theorem OY {f:Int} {l:Lt} (hl:IsL l) {gs:List Mo} (hg:∀ m∈gs,OkM f l m) (hgn:gs.length≤1000):∀ (n a:Nat) (out queue:List Mo),Cl f l out queue→a≤queue.length→768-a<n →
  ∃ out' queue',Cl f l out' queue'∧queue.length≤queue'.length∧B0 KK l gs n (a:Int) out queue=some out'
 | 0,a,_,_,_,_,h=>by omega
 | n+1,a,out,queue,hC,ha,hk=>by
  have hlen:=hC.pre.len hl;have hql:=hC.len;show ∃ out' queue',Cl f l out' queue'∧queue.length≤queue'.length∧EJ KK l gs (fun c0 c1 d0 d1 d2=>Dm KK l gs c0 c1 (fun v0 v1 v2=>B0 KK l gs n v0 v1 v2) KK d0 d1 d2) (fun v0 v1 v2=>B0 KK l gs n v0 v1 v2) (a:Int) out queue=_;unfold EJ;by_cases hlt:a<queue.length
  ·rw[in1 hlt,cT];obtain⟨o1,q1,c1,c2,c3⟩:=MQ hl hg hgn (a:=a) (q0:=queue) (L:=fun v0 v1 v2=>B0 KK l gs n v0 v1 v2) KK 0 out queue hC hlt (by omega) (by simp only[KK];omega)
   obtain⟨o2,q2,d1,d2,d3⟩:=OY hl hg hgn n (a+1) o1 q1 c1 (by omega) (by omega)
   exact⟨o2,q2,d1,by omega,c3.trans d3⟩
  ·have e:a=queue.length:=by omega
   subst e;rw[AS,cF];exact⟨out,queue,hC,Aqr _,rfl⟩
theorem Q3 {f:Int} {l:Lt} (hl:IsL l):OkM f l uMo:=⟨TU hl,Bu.2 (by have:=hl.a1;have:=hl.c1;simp only[uMo];omega)⟩
theorem Y5 (l:Lt) (gs:List Mo):Gm KK l gs=B0 KK l gs KK 0 [uMo] [uMo]:=by
 have h1:Ss KK=some uMo:=rfl;unfold Gm UU;rw[h1,oB,oB]
theorem TO {f:Int} {l:Lt} (hl:IsL l) {gs:List Mo} (hg:∀ m∈gs,OkM f l m) (hgn:gs.length≤1000):∃ g,Gm KK l gs=some g∧Pre f l g∧0<g.length:=by
 have hu:=Q3 (f:=f) hl;have hc:Cl f l [uMo] [uMo]:=⟨VI (fun m hm=>by rw[mS] at hm;rw[hm];exact hu) (by simp),fun x=>Iff.rfl,rfl⟩
 have hk:768-0<KK:=by simp only[KK];omega
 obtain⟨o,q,c1,c2,c3⟩:=OY hl hg hgn KK 0 [uMo] [uMo] hc (by omega) hk
 have c4:B0 KK l gs KK 0 [uMo] [uMo]=some o:=c3;exact⟨o,(Y5 l gs).trans c4,c1.pre,by have:=c1.len;simp at c2;omega⟩
noncomputable def TP (c:List Int) (f:Int) (l:Lt) (y:List Mo) (t:Int×Int):Option ((Int×Int)×Int×Lt×List Mo) :=
 (bif (decide ((y.length:Int)>(0:Int))) then (A8 KK (c,t) (y.length:Int)).bind fun y17=>(A8 KK (c,y17.1) (30:Int)).bind fun y18=>(bif (y18.2==(0:Int)) then (bif (decide (0≤(0:Int))&&decide ((0:Int)≤y17.2)&&decide (y17.2≤(y.length:Int))) then (bif (Nat.ble (0+((y.take ((0:Int)+y17.2).toNat).drop 0).length) (lim 48)) then (bif (decide (0≤(w (y17.2+(1:Int))))&&decide ((w (y17.2+(1:Int)))≤(y.length:Int))&&decide ((y.length:Int)≤(y.length:Int))) then (bif (Nat.ble (([]++((y.take ((0:Int)+y17.2).toNat).drop 0)).length+((y.take ((0:Int)+(y.length:Int)).toNat).drop ((0:Int)+(w (y17.2+(1:Int)))).toNat).length) (lim 48)) then some (y18.1,f,l,(([]++((y.take ((0:Int)+y17.2).toNat).drop 0))++((y.take ((0:Int)+(y.length:Int)).toNat).drop ((0:Int)+(w (y17.2+(1:Int)))).toNat))) else none) else none) else none) else none) else (bif (y18.2==(1:Int)) then (bif (decide (0≤y17.2)&&decide (y17.2<(y.length:Int))) then (bif (Nat.ble (y.length+[((((y.getD ((0:Int)+y17.2).toNat (((0:Int),((0:Int),((0:Int),(0:Int)))),((0:Int),(0:Int)))).1).1,(((y.getD ((0:Int)+y17.2).toNat (((0:Int),((0:Int),((0:Int),(0:Int)))),((0:Int),(0:Int)))).1).2).1,((((y.getD ((0:Int)+y17.2).toNat (((0:Int),((0:Int),((0:Int),(0:Int)))),((0:Int),(0:Int)))).1).2).2)),((y.getD ((0:Int)+y17.2).toNat (((0:Int),((0:Int),((0:Int),(0:Int)))),((0:Int),(0:Int)))).2))].length) (lim 48)) then some (y18.1,f,l,(y++[((((y.getD ((0:Int)+y17.2).toNat (((0:Int),((0:Int),((0:Int),(0:Int)))),((0:Int),(0:Int)))).1).1,(((y.getD ((0:Int)+y17.2).toNat (((0:Int),((0:Int),((0:Int),(0:Int)))),((0:Int),(0:Int)))).1).2).1,((((y.getD ((0:Int)+y17.2).toNat (((0:Int),((0:Int),((0:Int),(0:Int)))),((0:Int),(0:Int)))).1).2).2)),((y.getD ((0:Int)+y17.2).toNat (((0:Int),((0:Int),((0:Int),(0:Int)))),((0:Int),(0:Int)))).2))])) else none) else none) else (bif (y18.2==(2:Int)) then (bif (decide (0≤y17.2)&&decide (y17.2<(y.length:Int))) then (bif (decide (0≤y17.2)&&decide (y17.2<(y.length:Int))) then some (y18.1,f,l,(y.set ((0:Int)+y17.2).toNat ((y.getD ((0:Int)+y17.2).toNat (((0:Int),((0:Int),((0:Int),(0:Int)))),((0:Int),(0:Int)))).1,(w (((y.getD ((0:Int)+y17.2).toNat (((0:Int),((0:Int),((0:Int),(0:Int)))),((0:Int),(0:Int)))).2).1+(1:Int))),((y.getD ((0:Int)+y17.2).toNat (((0:Int),((0:Int),((0:Int),(0:Int)))),((0:Int),(0:Int)))).2).2))) else none) else none) else some (y18.1,f,l,y)))) else some (t,f,l,y))
theorem Y6 {c:List Int} {f:Int} {l:Lt} {y:List Mo} (hy:y.length≤768) {t:Int×Int} (h:Src c t):∃ t' g,TP c f l y t=some (t',f,l,g)∧Src c t'∧g.length≤2000:=by
 unfold TP;by_cases h0:0<y.length
 ·rw[dT (show (y.length:Int)>0 by omega),cT]
  obtain⟨t1,r1,e1,h1,a1,b1⟩:=BC h (n:=(y.length:Int)) (by omega)
  obtain⟨k,rfl⟩:∃ k:Nat,r1=(k:Int):=⟨r1.toNat,by omega⟩
  have hk:k<y.length:=by omega
  rw[e1,oB];simp only;obtain⟨t2,r2,e2,h2,_⟩:=AM h1 30;have d1:decide ((k:Int)≤(y.length:Int))=true:=dT (by omega)
  have d2:decide (((k+1:Nat):Int)≤(y.length:Int))=true:=dT (by omega)
  rw[e2,oB];simp only;rw[in0,in1 hk,d1,Ak (by omega),in0,d2]
  simp only[Int.le_refl,decide_true,aS,cT];cases r2==0
  ·rw[cF];cases r2==1
   ·rw[cF];cases r2==2
    ·exact⟨_,_,rfl,h2,by omega⟩
    ·exact⟨_,_,rfl,h2,by rw[Aq4];omega⟩
   ·rw[cT,Ey (by simp;omega)]
    exact⟨_,_,rfl,h2,by simp;omega⟩
  ·rw[cT,Ey (by simp;omega),cT,Ey (by simp;omega)]
   exact⟨_,_,rfl,h2,by simp;omega⟩
 ·rw[dF (show ¬ (y.length:Int)>0 by omega)]
  exact⟨_,_,rfl,h,by omega⟩
theorem OZ {c:List Int} {f:Int} {l:Lt} (hf:okF f=true) (hl:IsL l) {t0:(Int×Int)×(Int×Int)} {y2:Int}:∀ (n k:Nat) (t:Int×Int) (gs:List Mo),Src c t→(∀ m∈gs,OkM f l m)→gs.length+k≤3→k<n →
  ∃ t' g,KP KK (c,t0.2) (t0.1,f,l) y2 n (k:Int) t.1 t.2 gs=some (t',f,l,g)∧Src c t'∧g.length≤2000
 | 0,k,_,_,_,_,_,h=>by omega
 | n+1,k,t,gs,h,hg,hk,hn=>by
  show ∃ t' g,P0 KK (c,t0.2) (t0.1,f,l) y2 (fun v0 v1 v2 v3=>KP KK (c,t0.2) (t0.1,f,l) y2 n v0 v1 v2 v3) (k:Int) t.1 t.2 gs=some (t',f,l,g)∧Src c t'∧g.length≤2000;unfold P0;have et:((t.1,t.2):Int×Int)=t:=rfl;cases k with
  | zero =>
   rw[dF (show ¬ ((0:Nat):Int)>0 by omega),cF]
   obtain⟨g1,e1,p1,n1⟩:=TO hl hg (by omega)
   have hl1:=p1.len hl;simp only;rw[e1,oB];by_cases h24:(g1.length:Int)>24
   ·rw[dT h24,cT,et];obtain⟨t1,r1,e2,h1,a1,b1⟩:=BC h (n:=(g1.length:Int)) (by omega)
    obtain⟨j,rfl⟩:∃ j:Nat,r1=(j:Int):=⟨r1.toNat,by omega⟩
    have hj:j<g1.length:=by omega
    rw[e2,oB];simp only;rw[in0,in1 hj,gd hj];simp only[aS,cT];obtain⟨g2,e3,p2,n2⟩:=TO hl (gs:=[g1[j]]) (fun m hm=>by rw[mS] at hm;rw[hm];exact p1.mem _ (gM hj)) (by simp)
    rw[show Gm KK l [((g1[j].1.1,g1[j].1.2.1,g1[j].1.2.2),g1[j].2)]=some g2 from e3,oB]
    exact Y6 (p2.len hl) h1
   ·rw[dF h24,cF];exact Y6 hl1 h
  | succ k =>
   rw[dT (show ((k+1:Nat):Int)>0 by omega),cT,et]
   obtain⟨t1,m,e1,h1,m1,m2⟩:=OW h hf hl;simp only;rw[e1,oB];simp only;rw[CG hl m2,oB,Ey (by simp;omega),cT,AD (n:=((k+1:Nat):Int)-1) (by omega) (by omega)]
   have ek:((k+1:Nat):Int)-1=(k:Int):=by omega
   rw[ek];exact OZ hf hl n k t1 (gs++[(m.1,AZ l m.2)]) h1 (fun x hx=>by
    rcases Aqy.1 hx with hx | hx
    ·exact hg x hx
    ·rw[mS] at hx;rw[hx];exact⟨m1,A5 hl _⟩) (by simp;omega) (by omega)
theorem AhD {c:List Int} {t:Int×Int} (h:Src c t):∃ t' f l g,SC KK (c,t)=some (t',f,l,g)∧Src c t'∧g.length≤2000:=by
 unfold SC UV;obtain⟨t1,f,l,e1,h1⟩:=Y4 h;rw[e1,oB];simp only;rw[CR,oB];cases hc:okF f&&okL l
 ·have e:((if (false:Bool)=true then (0:Int) else 1)==0)=false:=by decide
  rw[e,cF];refine⟨t1,f,l,[],?_,h1,by simp⟩
  rfl
 ·have e:((if (true:Bool)=true then (0:Int) else 1)==0)=true:=by decide
  rw[e,cT];rw[aT] at hc;obtain⟨t2,r2,e2,h2,a2,b2⟩:=BC h1 (n:=3) (by omega)
  obtain⟨k,rfl⟩:∃ k:Nat,r2=(k:Int):=⟨r2.toNat,by omega⟩
  rw[e2,oB];obtain⟨t3,g,e3,h3,h4⟩:=OZ (c:=c) (t0:=(t1,t)) (y2:=if (true:Bool)=true then (0:Int) else 1) hc.1 (Cn.1 hc.2) KK k t2 [] h2 (by simp) (by simp;omega) (by simp only[KK];omega)
  exact⟨t3,f,l,g,e3,h3,h4⟩
theorem Amf (c:List Int):AlJ KK c=some (decide ((c.length:Int)>4096)):=rfl
theorem TQ {l:List Int} (hl:l.length≤1048576):Adh KK l l=some true:=by
 unfold Adh Adg Vs;rw[show ((l.length:Int) != (l.length:Int))=false by simp,cF]
 have h:=BA (X:=Int) (body:=fun L x=>QA KK l l (fun v0=>L v0) x) l (fun q=>(q:Int)) (fun _=>true) (some false) (some true)
  (fun L q hq=>by
   unfold QA;rw[in1 hq,in0,Ak (by omega)]
   simp)
  (fun L=>by
   unfold QA;rw[AS,cF]) KK 0 (by omega) (by simp only[KK];omega)
 refine h.trans ?_;rw[Aqq,show (l.all fun _=>true)=true from Aqn.mpr (by simp)]
 rfl
theorem TR {l:List Vc} (hl:l.length≤1048576):Tj KK l l=some true:=by
 unfold Tj Vt QB;rw[show ((l.length:Int) != (l.length:Int))=false by simp,cF]
 have h:=BA (X:=Int) (body:=fun L x=>Li KK l l (fun v0=>L v0) x) l (fun q=>(q:Int)) (fun _=>true) (some false) (some true)
  (fun L q hq=>by
   unfold Li;rw[in1 hq,in0,Ak (by omega)]
   simp)
  (fun L=>by
   unfold Li;rw[AS,cF]) KK 0 (by omega) (by simp only[KK];omega)
 refine h.trans ?_;rw[Aqq,show (l.all fun _=>true)=true from Aqn.mpr (by simp)]
 rfl
theorem NL {l:List (List Vc)} (hl:l.length≤1048576) (ho:∀ o∈l,o.length≤1048576):Adk KK l l=some true:=by
 unfold Adk Adj Vu;rw[show ((l.length:Int) != (l.length:Int))=false by simp,cF]
 have h:=BA (X:=Int) (body:=fun L x=>QC KK l l (fun v0=>L v0) x) l (fun q=>(q:Int)) (fun _=>true) (some false) (some true)
  (fun L q hq=>by
   unfold QC;rw[in1 hq,in0,gd hq,TR (ho _ (gM hq)),Ak (by omega)]
   simp)
  (fun L=>by
   unfold QC;rw[AS,cF]) KK 0 (by omega) (by simp only[KK];omega)
 refine h.trans ?_;rw[Aqq,show (l.all fun _=>true)=true from Aqn.mpr (by simp)]
 rfl
theorem KE {p:Pt} (hl:p.2.2.length≤1048576):Ahg KK p p=some true:=by
 unfold Ahg;simp only[beq_self_eq_true,aS,oT,tO,cT,TQ hl,oB]
def Aqj (f:Int) (l:Lt) (m:Mo):Int×Int:=if okF f&&okL l then (if Kl f l m then ((((Ab l).filter fun v=>mvS l m v==v).length:Nat),0) else (0,2)) else (0,1)
theorem Y7 {T:TypeId} {c:List Int} (h:Wf (.list T (.int .u8)) c):∀ i (h:i<c.length),0≤c[i]∧c[i]≤255:=fun i hi=>AhB (h.2 _ (gM hi))
abbrev Hu (f:Int) (l:Lt) (φ:Vc→Int):Pt:=(f,l,(Ab l).map φ)
theorem Lq {f:Int} {l:Lt} (hl:IsL l) {φ:Vc→Int} {v:Vc} (hv:Al l v=true):atS (Hu f l φ) v=φ v:=by
 have h:=Q1 hl hv;unfold atS;show ((Ab l).map φ).getD (AY l v) 0=φ v;rw[AqJ,Aqt,h];rfl
theorem Q4 {f:Int} {l:Lt} (hf:okF f=true) (hl:okL l=true) {φ:Vc→Int} (hφ:∀ v∈Ab l,okC (φ v)=true):okP (Hu f l φ)=true:=by
 have hL:=Cn.1 hl;have e:((((Ab l).map φ).length:Nat):Int)=l.1*l.2.2:=by
  rw[AqD,D2 hL];have:=hL.a1;have:=hL.c1;rw[ArP,ArU (by omega),ArU (by omega)]
 have ha:((Ab l).map φ).all okC=true:=by
  refine Aqn.2 fun c hc=>?_;obtain⟨v,hv,rfl⟩:=AqG.1 hc;exact hφ v hv
 unfold okP;show (okF f&&okL l&&decide ((((Ab l).map φ).length:Int)=l.1*l.2.2)&&((Ab l).map φ).all okC)=true;rw[hf,hl,dT e,ha];rfl
theorem AaE {f:Int} {l:Lt} {g:List Mo} (hf:okF f=true) (hl:okL l=true) (hG:Dp f l g=true) {φ:Vc→Int} (hφ:∀ v∈Ab l,okC (φ v)=true):FE (Hu f l φ) g=0:=by
 unfold FE;rw[Q4 hf hl hφ,cT];exact if_pos hG
theorem Ad3 {f:Int} {l:Lt} {g:List Mo} (hO:Bv f l g) {φ:Vc→Int} (hφ:∀ m∈g,∀ v,Al l v=true→φ (mvS l m v)=φ v):MX (Hu f l φ) g=true:=by
 unfold MX;refine Aqn.2 fun m hm=>AhN (p:=Hu f l φ) hO.la fun v hv=>?_;have hm':Al l (mvS l m v)=true:=A5 hO.la _;show atS (Hu f l φ) (mvS l m v)=atS (Hu f l φ) v;rw[Lq hO.la hm',Lq hO.la hv,hφ m hm v hv]
def Y8 (p:Pt) (g:List Mo):Bool×Int:=bif FE p g != 0 then (false,FE p g) else (MX p g,0)
theorem AaF (p:Pt) {g:List Mo} (hn:g.length≤1048576):Ahl KK p g=some (Y8 p g):=by
 unfold Ahl Y8;rw[TW p hn,oB];cases hc:FE p g != 0
 ·have h0:FE p g=0:=by simpa using hc
  obtain⟨hp,hO⟩:=AhP h0;rw[cF,cF,AaV hp hO];rfl
 ·rfl
theorem Ad4 (a b c:Mt):mmS (mmS a b) c=mmS a (mmS b c):=by
 have h1:=Fj a b (c.1,c.2.2.1);have h2:=Fj a b (c.2.1,c.2.2.2);have e1:mmS (mmS a b) c=((AW (mmS a b) (c.1,c.2.2.1)).1,(AW (mmS a b) (c.2.1,c.2.2.2)).1,(AW (mmS a b) (c.1,c.2.2.1)).2,(AW (mmS a b) (c.2.1,c.2.2.2)).2):=rfl;rw[e1,h1,h2];rfl
theorem VK {f:Int} {l:Lt} (hl:IsL l) {m n:Mo} (hm:OkM f l m) (y:Mo):BS l (BS l m n) y=BS l m (BS l n y):=by
 have h:=AdP (f:=f) hl (n:=n) hm.1 y.2;refine Prod.ext (Ad4 _ _ _) ?_;exact h.symm
theorem TS {f:Int} {l:Lt} (hl:IsL l) {y:Mo} (hy:OkM f l y):BS l uMo y=y:=by
 have h:=AdQ hl hy.2;refine Prod.ext ?_ h;show mmS (1,0,0,1) y.1=y.1;unfold mmS;simp
inductive Gn (l:Lt) (gs:List Mo):Mo→Prop where
 | one:Gn l gs uMo
 | mul (m x:Mo):m∈gs→Gn l gs x→Gn l gs (BS l m x)
theorem Gn.ok {f:Int} {l:Lt} (hl:IsL l) {gs:List Mo} (hg:∀ m∈gs,OkM f l m) {x:Mo} (h:Gn l gs x):OkM f l x:=by
 induction h with
 | one=>exact Q3 hl
 | mul m x hm _ ih=>exact VJ hl (hg m hm) ih
theorem AhE {f:Int} {l:Lt} (hl:IsL l) {gs:List Mo} (hg:∀ m∈gs,OkM f l m) {S:List Mo} (hS:∀ x∈S,OkM f l x) (hc:∀ x∈S,∀ m∈gs,BS l m x∈S) {x:Mo} (h:Gn l gs x):∀ y∈S,BS l x y∈S:=by
 induction h with
 | one=>intro y hy;rw[TS hl (hS y hy)];exact hy
 | mul m x hm _ ih =>
  intro y hy;rw[VK hl (hg m hm)];exact hc _ (ih y hy) m hm
structure Cg (f:Int) (l:Lt) (gs out queue:List Mo):Prop where
 cl:Cl f l out queue
 gen:∀ x∈queue,Gn l gs x
theorem JM {f:Int} {l:Lt} (hl:IsL l) {gs:List Mo} (hg:∀ m∈gs,OkM f l m) (hgn:gs.length≤1000) {a:Nat} {q0:List Mo} {L:Int→List Mo→List Mo→Option (List Mo)}:∀ (n i:Nat) (out queue:List Mo),Cg f l gs out queue→(ha:a<queue.length)→i≤gs.length→gs.length-i<n→(∀ m∈gs.take i,BS l m queue[a]∈queue) →
  ∃ out' ext,Cg f l gs out' (queue++ext)∧(∀ m∈gs,BS l m queue[a]∈queue++ext)∧Dm KK l gs (a:Int) q0 L n (i:Int) out queue=L ((a+1:Nat):Int) out' (queue++ext)
 | 0,i,_,_,_,_,_,h,_=>by omega
 | n+1,i,out,queue,hC,ha,hi,hk,hd=>by
  have hlen:=hC.cl.pre.len hl;have hql:=hC.cl.len;show ∃ out' ext,Cg f l gs out' (queue++ext)∧(∀ m∈gs,BS l m queue[a]∈queue++ext)∧Gl KK l gs (a:Int) q0 L (fun v0 v1 v2=>Dm KK l gs (a:Int) q0 L n v0 v1 v2) (i:Int) out queue=_;unfold Gl;by_cases hlt:i<gs.length
  ·have o1:=hg _ (gM hlt);have o2:OkM f l queue[a]:=hC.cl.pre.mem _ ((hC.cl.mem _).2 (gM ha));have o3:=VJ hl o1 o2;have g1:=o1.good hl;have g2:=o2.good hl;rw[in1 hlt,in0,gd hlt,in0,in1 ha,gd ha];simp only[aS,cT];rw[HW g1 g2,oB,CG hl (m:=(mmS gs[i].1 queue[a].1,BH gs[i] queue[a].2)) (Fe (Ct g1.1) g2.2 g1.2),oB,Hb hC.cl.pre (by omega),oB,Ak (by omega)]
   rw[show (((mmS gs[i].1 queue[a].1,AZ l (BH gs[i] queue[a].2)):Mo))=BS l gs[i] queue[a] from rfl]
   cases hc:out.contains (BS l gs[i] queue[a])
   ·obtain⟨g',e1,e2,e3,e4⟩:=OX hl hC.cl.pre o3 hc;have hlen2:=e2.len hl;simp only[nF,cT];rw[e1,oB,Ey (by simp;omega),cT]
    have ha':a<(queue++[BS l gs[i] queue[a]]).length:=by rw[lA];simp;omega
    have hge:(queue++[BS l gs[i] queue[a]])[a]=queue[a]:=List.getElem_append_left ha;obtain⟨out',ext,c1,c2,c3⟩:=JM hl hg hgn (a:=a) (q0:=q0) (L:=L) n (i+1) g' (queue++[BS l gs[i] queue[a]]) ⟨⟨e2,fun x=>by rw[e3,Aqy,mS,hC.cl.mem],by rw[lA,e4,hql];rfl⟩,fun x hx=>by
      rcases Aqy.1 hx with hx | hx
      ·exact hC.gen x hx
      ·rw[mS] at hx;rw[hx];exact .mul _ _ (gM hlt) (hC.gen _ (gM ha))⟩ ha' (by omega) (by omega) (fun m hm=>by
      rw[hge];rw[tS hlt] at hm;rcases Aqy.1 hm with hm | hm
      ·exact Aqy.2 (.inl (hd m hm))
      ·rw[mS] at hm;rw[hm];simp)
    rw[hge] at c2;refine⟨out',[BS l gs[i] queue[a]]++ext,?_,?_,?_⟩
    ·rw[← Aqv];exact c1
    ·rw[← Aqv];exact c2
    ·rw[← Aqv];exact c3
   ·simp only[nT,cF];exact JM hl hg hgn n (i+1) out queue hC ha (by omega) (by omega) (fun m hm=>by
      rw[tS hlt] at hm;rcases Aqy.1 hm with hm | hm
      ·exact hd m hm
      ·rw[mS] at hm;rw[hm];exact (hC.cl.mem _).1 (Aqx.1 hc))
  ·have e:i=gs.length:=by omega
   subst e;rw[AS,cF,Ak (by omega)]
   rw[Aru] at hd;exact⟨out,[],by rw[Aq9];exact hC,by rw[Aq9];exact hd,by rw[Aq9]⟩
theorem MR {f:Int} {l:Lt} (hl:IsL l) {gs:List Mo} (hg:∀ m∈gs,OkM f l m) (hgn:gs.length≤1000):∀ (n a:Nat) (out queue:List Mo),Cg f l gs out queue→a≤queue.length→768-a<n→(∀ x∈queue.take a,∀ m∈gs,BS l m x∈queue)→uMo∈queue →
  ∃ out' queue',Cg f l gs out' queue'∧(∀ x∈queue',∀ m∈gs,BS l m x∈queue')∧uMo∈queue'∧B0 KK l gs n (a:Int) out queue=some out'
 | 0,a,_,_,_,_,h,_,_=>by omega
 | n+1,a,out,queue,hC,ha,hk,hd,hu=>by
  have hlen:=hC.cl.pre.len hl;have hql:=hC.cl.len;show ∃ out' queue',Cg f l gs out' queue'∧(∀ x∈queue',∀ m∈gs,BS l m x∈queue')∧uMo∈queue'∧EJ KK l gs (fun c0 c1 d0 d1 d2=>Dm KK l gs c0 c1 (fun v0 v1 v2=>B0 KK l gs n v0 v1 v2) KK d0 d1 d2) (fun v0 v1 v2=>B0 KK l gs n v0 v1 v2) (a:Int) out queue=_;unfold EJ;by_cases hlt:a<queue.length
  ·rw[in1 hlt,cT];obtain⟨o1,ext,c1,c2,c3⟩:=JM hl hg hgn (a:=a) (q0:=queue) (L:=fun v0 v1 v2=>B0 KK l gs n v0 v1 v2) KK 0 out queue hC hlt (by omega) (by simp only[KK];omega) (by simp)
   obtain⟨o2,q2,d1,d2,d3,d4⟩:=MR hl hg hgn n (a+1) o1 (queue++ext) c1 (by rw[lA];omega) (by omega) (fun x hx m hm=>by
     rw[Arc (by omega),tS hlt] at hx
     rcases Aqy.1 hx with hx | hx
     ·exact Aqy.2 (.inl (hd x hx m hm))
     ·rw[mS] at hx;rw[hx];exact c2 m hm) (Aqy.2 (.inl hu))
   exact⟨o2,q2,d1,d2,d3,c3.trans d4⟩
  ·have e:a=queue.length:=by omega
   subst e;rw[AS,cF];rw[Aru] at hd;exact⟨out,queue,hC,hd,hu,rfl⟩
theorem AaG {f:Int} {l:Lt} (hf:okF f=true) (hl:IsL l) {gs:List Mo} (hg:∀ m∈gs,OkM f l m) (hgn:gs.length≤1000):∃ g,Gm KK l gs=some g∧AB f l g true=0∧g.length≤768:=by
 have hu:=Q3 (f:=f) hl;have hc:Cg f l gs [uMo] [uMo]:=⟨⟨VI (fun m hm=>by rw[mS] at hm;rw[hm];exact hu) (by simp),fun x=>Iff.rfl,rfl⟩,fun x hx=>by rw[mS] at hx;rw[hx];exact .one⟩
 have hk:768-0<KK:=by simp only[KK];omega
 obtain⟨o,q,c1,c2,c3,c4⟩:=MR hl hg hgn KK 0 [uMo] [uMo] hc (by omega) hk (by simp) (by simp)
 have c5:B0 KK l gs KK 0 [uMo] [uMo]=some o:=c4;have hmem:=c1.cl.mem;refine⟨o,(Y5 l gs).trans c5,?_,c1.cl.pre.len hl⟩;have hG:Dp f l o=true:=Zc hl c1.cl.pre.mem c1.cl.pre.pw ((hmem _).2 c3) fun m hm n hn=>(hmem _).2 (AhE hl hg (fun x hx=>c1.cl.pre.mem x ((hmem x).2 hx)) c2 (c1.gen m ((hmem m).1 hm)) n ((hmem n).1 hn));unfold AB;rw[hf,Cn.2 hl,hG];rfl
theorem AhF {f:Int} (hf:okF f=true) {l:Lt} (hl:IsL l):Bv f l [uMo]:=by
 have hu:=Q3 (f:=f) hl;have hG:Dp f l [uMo]=true:=Zc hl (fun m hm=>by rw[mS] at hm;rw[hm];exact hu) (by simp) (by simp) (fun m hm n hn=>by
  rw[mS] at hm hn;rw[hm,hn,TS hl hu];simp)
 have:AB f l [uMo] true=0:=by
  unfold AB;rw[hf,Cn.2 hl,hG];rfl
 exact (BJ this).1
theorem Y9 {f:Int} {l:Lt} {g:List Mo} (h:Bv f l g):(Ax l g).length≤64∧∀ i (hi:i<(Ax l g).length),∃ k:Nat,(Ax l g)[i]=(k:Int)∧k<(Ax l g).length:=by
 have hN:=Be h.la;have hL:=Ca l g;refine⟨by omega,fun i hi=>?_⟩
 have hi2:i<(Ab l).length:=by omega
 have hc:=AN (gM hi2);obtain⟨k,hk,e,_⟩:=Ad0 h hc;have hle:(Ao l g).length≤(Ab l).length:=by
  unfold Ao FC;rw[AqD];exact Arr _ _
 refine⟨k,?_,by omega⟩
 have h5:=JL h.la g hc;rw[Bb h.la hi2,Aqo hi,AqV] at h5;exact h5.trans e
section
variable {c:List Int} {t0:Int×Int} {f:Int} {l:Lt}
theorem Ad5 {q9 q21:Int} {q12 y15:List Mo} {y1:Int} {y3 y17:(Int×Int)×Int} {t:Int×Int} {ns cs:List Int} (hn:ns.length≤64) (hin:∀ i (hi:i<ns.length),∃ k:Nat,ns[i]=(k:Int)∧k<ns.length) (hcs:cs.length=ns.length):∀ (n i:Nat) (r:List Int),r.length=i→i≤ns.length→ns.length-i<n →
  ∃ r',Gt KK (c,t0) f l q9 q12 q21 t.1 t.2 cs y1 y3 y15 ns y17 n (i:Int) r=some (t,f,l,r')∧r'.length≤64
 | 0,i,_,_,_,h=>by omega
 | n+1,i,r,hr,hi,hk=>by
  show ∃ r',Ml KK (c,t0) f l q9 q12 q21 t.1 t.2 cs y1 y3 y15 ns y17 (fun v0 v1=>Gt KK (c,t0) f l q9 q12 q21 t.1 t.2 cs y1 y3 y15 ns y17 n v0 v1) (i:Int) r=some (t,f,l,r')∧r'.length≤64;unfold Ml;by_cases hlt:i<ns.length
  ·obtain⟨k,e,hkn⟩:=hin i hlt;rw[in1 hlt,in0,gd hlt,e,in0,in1 (show k<cs.length by omega),HG (by simp;omega),Ak (by omega)]
   simp only[aS,cT];exact Ad5 hn hin hcs n (i+1) _ (by simp;omega) (by omega) (by omega)
  ·have e:i=ns.length:=by omega
   subst e;rw[AS,cF];exact⟨r,rfl,by omega⟩
theorem Ad6 {q9:Int} {q12 y15:List Mo} {y1:Int} {y3 y17:(Int×Int)×Int} {ns:List Int} (hn:ns.length≤64) (hin:∀ i (hi:i<ns.length),∃ k:Nat,ns[i]=(k:Int)∧k<ns.length):∀ (n i:Nat) (t:Int×Int) (cs:List Int),Src c t→cs.length=i→i≤ns.length→ns.length-i<n →
  ∃ t' r,Gu KK (c,t0) f l q9 q12 y1 y3 y15 ns y17 n (i:Int) t.1 t.2 cs=some (t',f,l,r)∧Src c t'∧r.length≤64
 | 0,i,_,_,_,_,_,h=>by omega
 | n+1,i,t,cs,hs,hc,hi,hk=>by
  show ∃ t' r,IC KK (c,t0) f l q9 q12 y1 y3 y15 ns y17 (fun c0 c1 c2 c3 c4 c5 c6 c7 c8 c9 c10 d0 d1=>Gt KK (c,t0) f l c0 c1 c2 c3 c4 c5 c6 c7 c8 c9 c10 KK d0 d1) (fun v0 v1 v2 v3=>Gu KK (c,t0) f l q9 q12 y1 y3 y15 ns y17 n v0 v1 v2 v3) (i:Int) t.1 t.2 cs=some (t',f,l,r)∧Src c t'∧r.length≤64;unfold IC;have et:((t.1,t.2):Int×Int)=t:=rfl;by_cases hlt:i<ns.length
  ·rw[in1 hlt,cT,et];obtain⟨t1,r1,e1,h1,_⟩:=AM hs (w (2+y17.2));rw[e1,oB,HG (by simp;omega),cT,Ak (by omega)]
   exact Ad6 hn hin n (i+1) t1 (cs++[r1]) h1 (by simp;omega) (by omega) (by omega)
  ·have e:i=ns.length:=by omega
   subst e;rw[AS,cF];obtain⟨r',e1,h1⟩:=Ad5 (c:=c) (t0:=t0) (f:=f) (l:=l) (q9:=q9) (q21:=(ns.length:Int)) (q12:=q12) (y15:=y15) (y1:=y1) (y3:=y3) (y17:=y17) (t:=t) hn hin hc KK 0 [] rfl (by omega) (by simp only[KK];omega)
   exact⟨t,r',e1,hs,h1⟩
theorem Ad7 {q39:Int} {q42:List Int} {y1:Int} {y2:Mo} {y3 y31:(Int×Int)×Int} {t:Int×Int} {ns cs:List Int} (hn:ns.length≤64) (hin:∀ i (hi:i<ns.length),∃ k:Nat,ns[i]=(k:Int)∧k<ns.length) (hcs:cs.length=ns.length):∀ (n i:Nat) (r:List Int),r.length=i→i≤ns.length→ns.length-i<n →
  ∃ r',Gv KK (c,t0) f l q39 t.1 t.2 q42 cs y1 y2 y3 ns y31 n (i:Int) r=some (t,f,l,r')∧r'.length≤64
 | 0,i,_,_,_,h=>by omega
 | n+1,i,r,hr,hi,hk=>by
  show ∃ r',Mm KK (c,t0) f l q39 t.1 t.2 q42 cs y1 y2 y3 ns y31 (fun v0 v1=>Gv KK (c,t0) f l q39 t.1 t.2 q42 cs y1 y2 y3 ns y31 n v0 v1) (i:Int) r=some (t,f,l,r')∧r'.length≤64;unfold Mm;by_cases hlt:i<ns.length
  ·obtain⟨k,e,hkn⟩:=hin i hlt;rw[in1 hlt,in0,gd hlt,e,in0,in1 (show k<cs.length by omega),HG (by simp;omega),Ak (by omega)]
   simp only[aS,cT];exact Ad7 hn hin hcs n (i+1) _ (by simp;omega) (by omega) (by omega)
  ·have e:i=ns.length:=by omega
   subst e;rw[AS,cF];exact⟨r,rfl,by omega⟩
theorem Ad8 {q42:List Int} {y1:Int} {y2:Mo} {y3 y31:(Int×Int)×Int} {ns:List Int} (hn:ns.length≤64) (hin:∀ i (hi:i<ns.length),∃ k:Nat,ns[i]=(k:Int)∧k<ns.length):∀ (n i:Nat) (t:Int×Int) (cs:List Int),Src c t→cs.length=i→i≤ns.length→ns.length-i<n →
  ∃ t' r,IE KK (c,t0) f l y1 y2 y3 ns y31 n (i:Int) t.1 t.2 q42 cs=some (t',f,l,r)∧Src c t'∧r.length≤64
 | 0,i,_,_,_,_,_,h=>by omega
 | n+1,i,t,cs,hs,hc,hi,hk=>by
  show ∃ t' r,ID KK (c,t0) f l y1 y2 y3 ns y31 (fun c0 c1 c2 c3 c4 c5 c6 c7 c8 c9 d0 d1=>Gv KK (c,t0) f l c0 c1 c2 c3 c4 c5 c6 c7 c8 c9 KK d0 d1) (fun v0 v1 v2 v3 v4=>IE KK (c,t0) f l y1 y2 y3 ns y31 n v0 v1 v2 v3 v4) (i:Int) t.1 t.2 q42 cs=some (t',f,l,r)∧Src c t'∧r.length≤64;unfold ID;have et:((t.1,t.2):Int×Int)=t:=rfl;by_cases hlt:i<ns.length
  ·rw[in1 hlt,cT,et];obtain⟨t1,r1,e1,h1,_⟩:=AM hs (w (2+y31.2));rw[e1,oB,HG (by simp;omega),cT,Ak (by omega)]
   exact Ad8 hn hin n (i+1) t1 (cs++[r1]) h1 (by simp;omega) (by omega) (by omega)
  ·have e:i=ns.length:=by omega
   subst e;rw[AS,cF];obtain⟨r',e1,h1⟩:=Ad7 (c:=c) (t0:=t0) (f:=f) (l:=l) (q39:=(ns.length:Int)) (q42:=q42) (y1:=y1) (y2:=y2) (y3:=y3) (y31:=y31) (t:=t) hn hin hc KK 0 [] rfl (by omega) (by simp only[KK];omega)
   exact⟨t,r',e1,hs,h1⟩
theorem Alu (hf:okF f=true) (hl:IsL l) {y1:Int} {y2:Mo} {y3:(Int×Int)×Int}:∀ (n k:Nat) (t:Int×Int) (gs:List Mo),Src c t→(∀ m∈gs,OkM f l m)→gs.length+k≤3→k<n →
  ∃ t' r,Lg KK (c,t0) f l y1 y2 y3 n (k:Int) t.1 t.2 gs=some (t',f,l,r)∧Src c t'∧r.length≤64
 | 0,k,_,_,_,_,_,h=>by omega
 | n+1,k,t,gs,h,hg,hk,hn=>by
  show ∃ t' r,Ld KK (c,t0) f l y1 y2 y3 (fun c0 c1 c2 c3 c4 c5 c6 d0 d1 d2 d3=>Gu KK (c,t0) f l c0 c1 c2 c3 c4 c5 c6 KK d0 d1 d2 d3) (fun v0 v1 v2 v3=>Lg KK (c,t0) f l y1 y2 y3 n v0 v1 v2 v3) (k:Int) t.1 t.2 gs=some (t',f,l,r)∧Src c t'∧r.length≤64;unfold Ld;have et:((t.1,t.2):Int×Int)=t:=rfl;cases k with
  | zero =>
   rw[dF (show ¬ ((0:Nat):Int)>0 by omega),cF]
   obtain⟨g1,e1,c1,n1⟩:=AaG hf hl hg (by omega)
   have hO:=(BJ c1).1;obtain⟨x1,x2⟩:=Y9 hO;rw[e1,oB,CO hO,oB,et];obtain⟨t2,r2,e2,h2,_⟩:=AM h 3;rw[e2,oB];exact Ad6 (c:=c) (t0:=t0) x1 x2 KK 0 t2 [] h2 rfl (by omega) (by simp only[KK];omega)
  | succ k =>
   rw[dT (show ((k+1:Nat):Int)>0 by omega),cT,et]
   obtain⟨t1,m,e1,h1,m1,m2⟩:=OW h hf hl;rw[e1,oB];simp only;rw[CG hl m2,oB,Ey (by simp;omega),cT,AD (n:=((k+1:Nat):Int)-1) (by omega) (by omega)]
   have ek:((k+1:Nat):Int)-1=(k:Int):=by omega
   rw[ek];exact Alu hf hl n k t1 (gs++[(m.1,AZ l m.2)]) h1 (fun x hx=>by
    rcases Aqy.1 hx with hx | hx
    ·exact hg x hx
    ·rw[mS] at hx;rw[hx];exact⟨m1,A5 hl _⟩) (by simp;omega) (by omega)
end
theorem Amg {c:List Int} {t:Int×Int} (h:Src c t) (f:Int) (l:Lt):∃ t' r,Te KK (c,t) f l=some (t',f,l,r)∧Src c t'∧r.length≤64:=by
 unfold Te Vp;rw[CR,oB];cases hc:okF f&&okL l
 ·exact⟨t,[],rfl,h,by simp⟩
 ·rw[aT] at hc;have hl:=Cn.1 hc.2;have hu:Ss KK=some uMo:=rfl;rw[show ((if (true:Bool)=true then (0:Int) else 1) != 0)=false by decide,cF,hu,oB]
  obtain⟨t1,r1,e1,h1,a1,_⟩:=AM h 4;rw[e1,oB];simp only;cases hr:decide (r1>0)
  ·have hO:=AhF hc.1 hl;obtain⟨x1,x2⟩:=Y9 hO;rw[cF,CO hO,oB];obtain⟨t2,r2,e2,h2,_⟩:=AM h1 3;rw[e2,oB];exact Ad8 (c:=c) (t0:=t) x1 x2 KK 0 t2 [] h2 rfl (by omega) (by simp only[KK];omega)
  ·rw[cT];obtain⟨t2,r2,e2,h2,a2,b2⟩:=BC h1 (n:=2) (by omega)
   obtain⟨k,rfl⟩:∃ k:Nat,r2=(k:Int):=⟨r2.toNat,by omega⟩
   rw[e2,oB];simp only;rw[AD (n:=1+(k:Int)) (by omega) (by omega)]
   have ek:1+(k:Int)=((k+1:Nat):Int):=by omega
   rw[ek];exact Alu (c:=c) (t0:=t) hc.1 hl KK (k+1) t2 [] h2 (by simp) (by simp;omega) (by simp only[KK];omega)
theorem AhG {c:List Int} {t:Int×Int} (h:Src c t):∃ t' p,Yx KK (c,t)=some (t',p)∧Src c t'∧p.2.2.length≤100:=by
 unfold Yx;obtain⟨t1,f,l,e1,h1⟩:=Y4 h;rw[e1,oB];simp only;obtain⟨t2,r,e2,h2,hr⟩:=Amg h1 f l;rw[e2,oB];simp only;obtain⟨t3,r3,e3,h3,_⟩:=AM h2 60;rw[e3,oB];simp only;cases r3==0
 ·rw[cF];cases r3==1
  ·exact⟨t3,(f,l,r),rfl,h3,by simp only;omega⟩
  ·rw[cT];by_cases h0:0<r.length
   ·obtain⟨t4,r4,e4,h4,_⟩:=DP h3 (l:=[(-1:Int),9,10]) (by simp)
    rw[dT (show (r.length:Int)>0 by omega),cT,e4,oB]
    exact⟨t4,_,rfl,h4,by simp only;rw[Aq4];omega⟩
   ·rw[dF (show ¬ (r.length:Int)>0 by omega)]
    exact⟨t3,(f,l,r),rfl,h3,by simp only;omega⟩
 ·rw[cT,HG (by simp;omega)]
  exact⟨t3,_,rfl,h3,by simp;omega⟩
end Go.Proofs.YteheolldcpjkcaaGreat.X
