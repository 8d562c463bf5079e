/- Plain facts: point matrices, suitable motions, the order of motions. -/
import Derived.Test.YteheolldcpjkcaaGreatDoorQtMA
namespace Go.Proofs.YteheolldcpjkcaaGreatDoor.X
open Go
set_option linter.unusedSimpArgs false
attribute [local instance] cwD
set_option linter.unusedVariables false
def Ed {α:Type} (p:Nat→α→Bool):Nat→List α→Bool
 | _,[]=>true
 | q,a :: r=>p q a&&Ed p (q+1) r
theorem JY {α:Type} {p:Nat→α→Bool}:∀ {l:List α} {q:Nat},Ed p q l=true→∀ i (hi:i<l.length),p (q+i) l[i]=true
 | [],_,_,i,hi=>by simp at hi
 | a :: l,q,h,i,hi=>by
  simp only[Ed,aT] at h;cases i with
  | zero=>exact h.1
  | succ i =>
   have:=JY h.2 i (by simpa using hi)
   rw[show q+(i+1)=q+1+i by omega]
   exact this
def Cd (f:Int) (v:Vc):Int:=v.1*v.1+f*v.1*v.2+v.2*v.2
def Aqh (f:Int) (m:Mt):Bool:=(Cd f (m.1,m.2.2.1)==1)&&(Cd f (m.2.1,m.2.2.2)==1)&&(Cd f (m.1+m.2.1,m.2.2.1+m.2.2.2)==2+f)
def Zn (v:Vc):Bool:=decide (-1000≤v.1∧v.1≤1000)&&decide (-1000≤v.2∧v.2≤1000)
def ApZ (m:Mt):Bool:=Zn (m.1,m.2.1)&&Zn m.2.2
def AoI (f:Int) (l:Lt) (m:Mo):Bool:=(AP f l).contains m.1&&Zn m.2
def Ap0:List Int→List Int→Int
 | a :: r,b :: s=>bif a==b then Ap0 r s else (if a<b then -1 else 1)
 | _,_=>0
def ltL:List Int→List Int→Bool
 | a :: r,b :: s=>bif a==b then ltL r s else decide (a<b)
 | _,_=>false
theorem DZ:∀ a:List Int,ltL a a=false
 | []=>rfl
 | a :: r=>by simp[ltL,DZ r]
theorem DP:∀ {a b c:List Int},ltL a b=true→ltL b c=true→ltL a c=true
 | [],_,_,h,_=>by simp[ltL] at h
 | _ :: _,[],_,h,_=>by simp[ltL] at h
 | _ :: _,_ :: _,[],_,h=>by simp[ltL] at h
 | a :: r,b :: s,c :: t,h,h'=>by
  simp only[ltL] at h h' ⊢;cases h1:a==b<;>rw[h1] at h<;>cases h2:b==c<;>rw[h2] at h'<;>simp only[cT,cF,dE] at h h'
  ·have:(a==c)=false:=by rw[bN];omega
   rw[this,cF,dE];omega
  ·have e2:=eq_of_beq h2;subst e2;rw[h1,cF,dE];exact h
  ·have e1:=eq_of_beq h1;subst e1;rw[h2,cF,dE];exact h'
  ·have e1:=eq_of_beq h1;subst e1;rw[h2,cT];exact DP h h'
theorem Qf:∀ {a b:List Int},a.length=b.length→ltL a b=false→ltL b a=false→a=b
 | [],[],_,_,_=>rfl
 | a :: r,b :: s,hl,h,h'=>by
  simp only[ltL] at h h';cases h1:a==b
  ·have h2:(b==a)=false:=by rw[bN] at h1 ⊢;exact fun e=>h1 e.symm
   rw[h1,cF,decide_eq_false_iff_not] at h;rw[h2,cF,decide_eq_false_iff_not] at h';rw[bN] at h1;omega
  ·have e:=eq_of_beq h1;subst e;simp only[BEq.rfl,cT] at h h';rw[Qf (by simpa using hl) h h']
def M6 (v:Vc):List Int:=[v.1,v.2]
def HB (m:Mt):List Int:=[m.1,m.2.1,m.2.2.1,m.2.2.2]
def JZ (m:Mo):List Int:=HB m.1++M6 m.2
def ltV (u v:Vc):Bool:=ltL (M6 u) (M6 v)
def ltM (m n:Mo):Bool:=ltL (JZ m) (JZ n)
theorem Zo {m n:Mo} (h:JZ m=JZ n):m=n:=by
 simp only[JZ,HB,M6,Asm,Aq8,AtK,and_true] at h;obtain⟨h1,h2,h3,h4,h5,h6⟩:=h;exact Prod.ext (Prod.ext h1 (Prod.ext h2 (Prod.ext h3 h4))) (Prod.ext h5 h6)
theorem AcH {m n:Vc} (h:M6 m=M6 n):m=n:=by
 simp only[M6,AtK,and_true] at h;exact Prod.ext h.1 h.2
theorem LK (u v:Vc):RJ KK u v=some (ltV u v):=by
 unfold RJ
 try simp only[oT,tO,cT]
 simp only[ltV,M6,ltL];congr 1;by_cases h1:u.1<v.1
 ·have:(u.1==v.1)=false:=by rw[bN];omega
  simp[h1,this]
 ·by_cases h2:u.1=v.1
  ·by_cases h3:u.2=v.2<;>simp[h2,h3]
  ·have:(u.1==v.1)=false:=by rw[bN];exact h2
   simp[h1,this]
theorem Hm {a b:List Int} (hl:a.length=b.length) (hn:a.length≤1000):∀ n q,q≤a.length→a.length-q<n→H3 KK a b n (q:Int)=some (ltL (a.drop q) (b.drop q))
 | 0,q,_,h=>by omega
 | n+1,q,hq,h=>by
  show Pa KK a b (fun v0=>H3 KK a b n v0) (q:Int)=_;unfold Pa;simp only[oT,tO,cT];by_cases hlt:q<a.length
  ·have hlt':q<b.length:=by omega
   rw[in1 hlt,in1 hlt',in0,gd hlt,gd hlt',dC hlt,dC hlt'];simp only[aS,cT,ltL];cases h1:a[q]==b[q]
   ·have:(a[q] != b[q])=true:=by simp[bne,h1]
    rw[this,cT,cF]
   ·have:(a[q] != b[q])=false:=by simp[bne,h1]
    rw[this,cF,cT,Aq (by omega)]
    exact Hm hl hn n (q+1) hlt (by omega)
  ·have e:q=a.length:=by omega
   subst e;rw[AY,cF,AtF,hl];simp[ltL]
theorem Uv (m n:Mo):Wc KK m n=some (ltM m n):=by
 unfold Wc AaO V8 V9 TM;simp only[oB];have h1:=Hm (a:=HB m.1) (b:=HB n.1) rfl (by simp[HB]) KK 0 (by omega) (by have:=B4 (n:=4) (by omega);simp[HB];omega)
 have h1':H3 KK [m.1.1,m.1.2.1,m.1.2.2.1,m.1.2.2.2] [n.1.1,n.1.2.1,n.1.2.2.1,n.1.2.2.2] KK 0=some (ltL (HB m.1) (HB n.1)):=h1;rw[h1',LK];simp only[oB];unfold ltM JZ ltV HB;cases e1:m.1.1==n.1.1<;>cases e2:m.1.2.1==n.1.2.1<;>cases e3:m.1.2.2.1==n.1.2.2.1<;>cases e4:m.1.2.2.2==n.1.2.2.2<;>simp[ltL,e1,e2,e3,e4]
def AB (l:Lt) (v:Vc):Bool:=decide (0≤v.1∧v.1≤l.1-1)&&decide (0≤v.2∧v.2≤l.2.2-1)
theorem BU {l:Lt} {v:Vc}:AB l v=true↔(0≤v.1∧v.1≤l.1-1)∧(0≤v.2∧v.2≤l.2.2-1):=by
 unfold AB;simp only[aT,dE]
theorem DQ {l:Lt} (hl:IsL l) {v:Vc} (h:AB l v=true):As l v=v:=by
 obtain⟨⟨h1,h2⟩,h3,h4⟩:=BU.1 h;unfold As;have e1:v.2 / l.2.2=0:=Int.ediv_eq_zero_of_lt h3 (by omega)
 have e2:v.2 % l.2.2=v.2:=ArT h3 (by omega)
 rw[e1,e2,Ass,AtG,ArT h1 (by omega)]
theorem AN {l:Lt} (hl:IsL l) (v:Vc):AB l (As l v)=true:=by
 obtain⟨h1,h2,h3,h4⟩:=JT hl v;rw[BU];omega
theorem So {l:Lt} (hl:IsL l) {v:Vc} (h:AB l v=true):0≤v.1∧v.1≤63∧0≤v.2∧v.2≤63:=by
 obtain⟨⟨h1,h2⟩,h3,h4⟩:=BU.1 h;have:=hl.a2;have:=hl.c2;omega
theorem Gc {l:Lt} (hl:IsL l) {v:Vc} (h:AB l v=true):Sv v:=by
 have:=So hl h;simp only[Sv];omega
theorem AoJ (m n:Mo):((m.1.1==n.1.1)&&((m.1.2.1==n.1.2.1)&&((m.1.2.2.1==n.1.2.2.1)&&((m.1.2.2.2==n.1.2.2.2)&&((m.2.1==n.2.1)&&(m.2.2==n.2.2))))))=(m==n):=by
 rw[ArU];simp only[aT,beq_iff_eq,Asv,and_assoc]
abbrev AoK:Sh:=.cons (.cons (.int .i64) (.cons (.int .i64) (.cons (.int .i64) (.int .i64)))) (.cons (.int .i64) (.int .i64))
def Aqi (g:List Mo):List (Mo×Bool):=g.foldl (fun s a=>MX (Ca AoK) s a true) []
def mmS (m n:Mt):Mt:=(m.1*n.1+m.2.1*n.2.2.1,m.1*n.2.1+m.2.1*n.2.2.2,m.2.2.1*n.1+m.2.2.2*n.2.2.1,m.2.2.1*n.2.1+m.2.2.2*n.2.2.2)
def CP (l:Lt) (m n:Mo):Mo:=(mmS m.1 n.1,As l (Ar m n.2))
theorem Agp {m n:Mt} (hm:SmM m) (hn:SmM n):((w ((w (m.1*n.1))+(w (m.2.1*n.2.2.1)))),(w ((w (m.1*n.2.1))+(w (m.2.1*n.2.2.2)))),(w ((w (m.2.2.1*n.1))+(w (m.2.2.2*n.2.2.1)))),(w ((w (m.2.2.1*n.2.1))+(w (m.2.2.2*n.2.2.2)))))=mmS m n:=by
 obtain⟨a,b,c,d⟩:=hm;obtain⟨a',b',c',d'⟩:=hn;have h:∀ {x y:Int},(-1≤x∧x≤1)→(-1≤y∧y≤1)→-1≤x*y∧x*y≤1:=fun {x y} hx hy=>by
  have:=AX hx (B:=1) (x:=y) (by omega) (by omega) (by omega)
  omega
 have h1:=h a a';have h2:=h b c';have h3:=h a b';have h4:=h b d';have h5:=h c a';have h6:=h d c';have h7:=h c b';have h8:=h d d'
 unfold mmS;rw[Ay (n:=m.1*n.1) (by omega) (by omega),Ay (n:=m.2.1*n.2.2.1) (by omega) (by omega),Ay (n:=m.1*n.2.1) (by omega) (by omega),Ay (n:=m.2.1*n.2.2.2) (by omega) (by omega),Ay (n:=m.2.2.1*n.1) (by omega) (by omega),Ay (n:=m.2.2.2*n.2.2.1) (by omega) (by omega),Ay (n:=m.2.2.1*n.2.1) (by omega) (by omega),Ay (n:=m.2.2.2*n.2.2.2) (by omega) (by omega)]
 rw[Ay (n:=m.1*n.1+m.2.1*n.2.2.1) (by omega) (by omega),Ay (n:=m.1*n.2.1+m.2.1*n.2.2.2) (by omega) (by omega),Ay (n:=m.2.2.1*n.1+m.2.2.2*n.2.2.1) (by omega) (by omega),Ay (n:=m.2.2.1*n.2.1+m.2.2.2*n.2.2.2) (by omega) (by omega)]
def LL (m:Mo):Prop:=m.1∈pmQ++pmH∧Sv m.2
theorem AcI {m:Mt×Vc} (hm:SmM m.1) {v:Vc} (hv:Sv v) (ht:Sv m.2):(w ((Ag m.1 v).1+m.2.1),w ((Ag m.1 v).2+m.2.2))=Ar m v:=by
 obtain⟨h1,h2,h3,h4⟩:=De hm hv;obtain⟨t1,t2,t3,t4⟩:=ht;unfold Ar;rw[Ay (by omega) (by omega),Ay (by omega) (by omega)]
theorem Uw {m n:Mo} (hm:LL m) (hn:LL n):V7 KK m n=some (mmS m.1 n.1,Ar m n.2):=by
 unfold V7 V6 Nr;simp only[oB];rw[Agp (Bq hm.1) (Bq hn.1),Eb (Bq hm.1) hn.2];simp only[oB];rw[AcI (Bq hm.1) hn.2 hm.2]
theorem It {l:Lt} (hl:IsL l) {m:Mo} (hm:Sm m.2):RI KK l m=some (m.1,As l m.2):=by
 unfold RI;rw[CB hl hm];rfl
def dMo:Mo:=((0,0,0,0),0,0)
def uMo:Mo:=((1,0,0,1),0,0)
def AcJ (f:Int) (l:Lt) (g:List Mo) (q:Nat) (a:Mo):Bool:=(AP f l).contains a.1&&(AB l a.2&&(Nat.beq q 0||ltM (g.getD (q-1) dMo) a))
def HC (f:Int) (l:Lt) (g:List Mo):Bool:=Ed (AcJ f l g) 0 g&&(g.contains uMo&&g.all fun m=>g.all fun n=>g.contains (CP l m n))
structure Pre (f:Int) (l:Lt) (g:List Mo):Prop where
 mem:∀ m∈g,m.1∈AP f l∧AB l m.2=true
 up:∀ i (h:i+1<g.length),ltM g[i] g[i+1]=true
theorem AcK {f:Int} {l:Lt} {g:List Mo} (h:Ed (AcJ f l g) 0 g=true):Pre f l g:=by
 have hg:=JY h;refine⟨fun m hm=>?_,fun i hi=>?_⟩
 ·obtain⟨i,hi,rfl⟩:=ArK hm;have:=hg i hi;unfold AcJ at this;rw[aT,aT,cM] at this;exact⟨this.1,this.2.1⟩
 ·have:=hg (i+1) hi;unfold AcJ at this;rw[aT,aT,ArG] at this;rcases this.2.2 with h1 | h1
  ·have:=AqK h1;omega
  ·have e:(0+(i+1)-1)=i:=by omega
   rw[e] at h1;simpa[List.getD,show i<g.length by omega] using h1
theorem Pre.lt {f:Int} {l:Lt} {g:List Mo} (h:Pre f l g):∀ (j i:Nat) (hj:j<g.length) (hi:i<j),ltM g[i] g[j]=true
 | 0,i,hj,hi=>by omega
 | j+1,i,hj,hi=>by
  by_cases e:i=j
  ·subst e;exact h.up i hj
  ·exact DP (h.lt j i (by omega) (by omega)) (h.up j hj)
theorem Pre.good {f:Int} {l:Lt} (hl:IsL l) {g:List Mo} (h:Pre f l g) {m:Mo} (hm:m∈g):LL m:=⟨Cc (h.mem m hm).1,Gc hl (h.mem m hm).2⟩
theorem Pre.nodup {f:Int} {l:Lt} {g:List Mo} (h:Pre f l g):g.Nodup:=by
 rw[List.Nodup,ArV];intro i j hi hj hij e;have:=h.lt j i hj hij;rw[e] at this;unfold ltM at this;rw[DZ] at this;cases this
theorem Jq {α:Type} [DecidableEq α]:∀ (l m:List α),l.Nodup→(∀ x∈l,x∈m)→l.length≤m.length
 | [],m,_,_=>Ar6 _
 | a :: l,m,hn,h=>by
  have ha:=h a (by simp)
  rw[AsV] at hn;have:=Jq l (m.erase a) hn.2 fun x hx=>by
   have hne:x≠a:=fun e=>hn.1 (e▸hx);exact (List.mem_erase_of_ne hne).2 (h x (by simp[hx]))
  rw[AtB ha] at this;have:=Asx ha;simp only[Ark];omega
theorem Br {l:Lt} (hl:IsL l) {v:Vc} (h:AB l v=true):v∈Ab l:=by
 obtain⟨⟨h1,h2⟩,h3,h4⟩:=BU.1 h;have:=hl.a1;have:=hl.c1;unfold Ab Jn;rw[ArH];refine⟨v.1.toNat,Ar8.2 (by omega),Aq6.2 ⟨v.2.toNat,Ar8.2 (by omega),Prod.ext ?_ ?_⟩⟩<;>simp only<;>omega
theorem Pre.len {f:Int} {l:Lt} (hl:IsL l) {g:List Mo} (h:Pre f l g):g.length≤768:=by
 have:=Jq g ((AP f l).flatMap fun m=>(Ab l).map fun v=>(m,v)) h.nodup fun x hx=>by
  obtain⟨h1,h2⟩:=h.mem x hx;exact ArH.2 ⟨x.1,h1,Aq6.2 ⟨x.2,Br hl h2,rfl⟩⟩
 have h2:=Ga (fun m:Mt=>(Ab l).map fun v:Vc=>(m,v)) 64 (fun m=>by rw[AqZ];exact AD hl) (AP f l)
 have h3:=Is f l;have:(AP f l).length*64≤12*64:=Arl _ h3;omega
theorem E6 {f:Int} {l:Lt} {g:List Mo} (hp:Pre f l g) (hn:g.length≤1048576) (m:Mo):∀ (n lo hi:Nat),lo≤hi→hi≤g.length→hi-lo<n→(∀ i (h:i<g.length),i<lo→ltM g[i] m=true)→(∀ i (h:i<g.length),hi≤i→ltM g[i] m=false) →
  ∃ p:Nat,GK KK g m n (lo:Int) (hi:Int)=some (p:Int)∧p≤g.length∧(∀ i (h:i<g.length),i<p→ltM g[i] m=true)∧(∀ i (h:i<g.length),p≤i→ltM g[i] m=false)
 | 0,lo,hi,_,_,h,_,_=>by omega
 | n+1,lo,hi,hle,hhi,hd,h1,h2=>by
  show ∃ p:Nat,Pb KK g m (fun v0 v1=>GK KK g m n v0 v1) (lo:Int) (hi:Int)=_∧_;unfold Pb;by_cases hlt:lo<hi
  ·have e1:w ((w ((lo:Int)+(hi:Int))).tdiv 2)=((((lo+hi) / 2:Nat)):Int):=by
    rw[Ay (n:=(lo:Int)+(hi:Int)) (by omega) (by omega)]
    have:((lo:Int)+(hi:Int)).tdiv 2=(((lo+hi) / 2:Nat):Int):=by
     rw[Ato (by omega)]
     omega
    rw[this,Ay (by omega) (by omega)]
   have hmid:(lo+hi) / 2<g.length:=by omega
   rw[in1 hlt,e1,in0,in1 hmid,gd hmid];simp only[aS,cT];rw[Uv,oB,Aq (by omega)]
   cases hc:ltM g[(lo+hi) / 2] m
   ·rw[cF];refine E6 hp hn m n lo ((lo+hi) / 2) (by omega) (by omega) (by omega) h1 fun i hi' hle'=>?_
    by_cases e:i=(lo+hi) / 2
    ·subst e;exact hc
    ·cases hx:ltM g[i] m with
     | false=>rfl
     | true =>
      have:=DP (hp.lt i ((lo+hi) / 2) hi' (by omega)) hx
      exact absurd (hc.symm.trans this) (by simp)
   ·rw[cT];refine E6 hp hn m n ((lo+hi) / 2+1) hi (by omega) hhi (by omega) (fun i hi' hle'=>?_) h2
    by_cases e:i=(lo+hi) / 2
    ·subst e;exact hc
    ·exact DP (hp.lt ((lo+hi) / 2) i hmid (by omega)) hc
  ·have e:lo=hi:=by omega
   subst e;rw[AY,cF];exact⟨lo,rfl,hhi,h1,h2⟩
theorem Zp {f:Int} {l:Lt} {g:List Mo} (hp:Pre f l g) (hn:g.length≤1048576) (m:Mo):We KK g m=some (g.contains m):=by
 obtain⟨p,h1,h2,h3,h4⟩:=E6 hp hn m KK 0 g.length (by omega) (by omega) (by simp only[KK];omega) (fun i _ h=>by omega) (fun i hi h=>by omega)
 unfold We Nx Pc;simp only[show GK KK g m KK (0:Int) (g.length:Int)=some (p:Int) from h1,oB,oT,tO,cT]
 by_cases hlt:p<g.length
 ·rw[in1 hlt,in0,gd hlt];simp only[nT,Aro,Ash,aS,cT];rw[AoJ];congr 1;rw[ArU,beq_iff_eq,cM];constructor
  ·intro e;rw[← e];exact gM hlt
  ·intro hm;obtain⟨j,hj,e⟩:=ArK hm;by_cases hjp:j<p
   ·have:=h3 j hj hjp;rw[e] at this;unfold ltM at this;rw[DZ] at this;cases this
   ·by_cases e2:j=p
    ·subst e2;exact e
    ·have:=hp.lt j p hj (by omega)
     rw[e,h4 p hlt (AqO _)] at this;cases this
 ·have hpe:p=g.length:=by omega
  subst hpe;rw[AY];simp only[nF,tO,oT,cT,cF];congr 1;cases hc:g.contains m with
  | false=>rfl
  | true =>
   rw[cM] at hc;obtain⟨j,hj,e⟩:=ArK hc;have:=h3 j hj hj;rw[e] at this;unfold ltM at this;rw[DZ] at this;cases this
def Aqj (f:Int) (l:Lt) (g:List Mo):Int:=if okF f&&okL l then (if HC f l g then 0 else 2) else 1
def AoL (t:List Vc) (q:Nat) (v:Vc):Bool:=Zn v&&(Nat.beq q 0||ltV (t.getD (q-1) (0,0)) v)
def AoM (t:List Vc):Bool:=Ed (AoL t) 0 t&&(decide (1≤t.length)&&decide (t.length≤16))
def Aqk (f:Int) (l:Lt) (g:List Mo) (t:List Vc):Int:=if okF f&&okL l&&AoM t then (if HC f l g then 0 else 2) else 1
structure Aql (f:Int) (l:Lt) (g:List Mo) (t:List Vc):Prop where
 fr:okF f=true
 la:IsL l
 pr:Pre f l g
 vec:∀ v∈t,Zn v=true
 t1:1≤t.length
 t2:t.length≤16
def mvS (l:Lt) (m:Mo) (v:Vc):Vc:=As l (Ar m v)
theorem Sp {l:Lt} (hl:IsL l) {m:Mo} (hm:LL m) {v:Vc} (hv:Sv v):JR KK l m v=some (mvS l m v):=by
 unfold JR;rw[Ec (Bq hm.1) hv hm.2,oB,CB hl (GP (Bq hm.1) hv hm.2)];rfl
def AoN (l:Lt) (g:List Mo) (t:List Vc):List (List Vc):=g.map fun m=>t.map (mvS l m)
theorem Als {n:Nat} (h:n≤1000000):Nat.ble n (lim 24)=true:=by
 simp only[lim,ArW];omega
def AoO (i:Int):List Nat→List Int→Option (List Int)
 | [],o=>some o
 | n :: r,o=>bif decide (o.getD n 0≥0) then none else AoO i r (o.set n i)
def Ap1:List (List Nat)→Nat→List Int→Option (List Int)
 | [],_,o=>some o
 | c :: r,i,o=>match AoO (i:Int) c o with | some o'=>Ap1 r (i+1) o' | none=>none
def Ap2:List (List Nat)→Nat→Nat→Option Nat
 | [],_,_=>none
 | c :: r,i,k=>if k∈c then some i else Ap2 r (i+1) k
theorem Sq {α:Type} [DecidableEq α] (l m:List α) (hm:m.Nodup) (h1:∀ x∈m,x∈l) (h2:l.length≤m.length):∀ x∈l,x∈m:=fun x hx=>by
 refine Decidable.byContradiction fun hn=>?_;have:=Jq m (l.erase x) hm fun y hy=>(List.mem_erase_of_ne (fun (e:y=x)=>hn (e▸hy))).2 (h1 y hy);rw[AtB hx] at this;have:=Asx hx;omega
abbrev shV:Sh:=.cons (.int .i64) (.int .i64)
def AqA (xs:List (Vc×Bool)) (vs:List Vc):List (Vc×Bool):=vs.foldl (fun s a=>MX (Ca shV) s a true) xs
def AcL (l:Lt) (g:List Mo) (t:List Vc):Prop:=(AoN l g t).flatten.Nodup∧∀ v∈Ab l,v∈(AoN l g t).flatten
instance (l:Lt) (g:List Mo) (t:List Vc):Decidable (AcL l g t):=by unfold AcL;infer_instance
theorem Qg {l:Lt} (hl:IsL l):(Ab l).Nodup:=by
 rw[List.Nodup,ArV];intro i j hi hj hij e;have h1:=Bu hl hi;have h2:=Bu hl hj;rw[e,h2] at h1;omega
theorem Alt {l:Lt} (hl:IsL l):w (l.1*l.2.2)=((Ab l).length:Int):=by
 rw[A9 hl,BB hl];have:=hl.ix;have:0≤l.1*l.2.2:=Atm (by have:=hl.a1;omega) (by have:=hl.c1;omega)
 exact Ay (by omega) (by omega)
theorem Qh {l:Lt} (hl:IsL l) {v:Vc} (hv:AB l v=true):Ph KK l v=some ((BH l v:Nat):Int):=by
 unfold Ph;rw[CB hl (Xy (Gc hl hv)),oB,(F4 hl v).1]
theorem Iu {l:Lt} (hl:IsL l) (v:Vc):BH l v<(Ab l).length:=by
 have h1:=(F4 hl v).2;rw[A9 hl];have:=BB hl;omega
def cnS (l:Lt) (C:List (List Vc)):List (List Nat):=C.map fun c=>c.map (BH l)
theorem Qi {l:Lt} (hl:IsL l) {u v:Vc} (hu:AB l u=true) (hv:AB l v=true) (h:BH l u=BH l v):u=v:=by
 obtain⟨i,hi,e1⟩:=ArK (Br hl hu);obtain⟨j,hj,e2⟩:=ArK (Br hl hv);have h1:=Bu hl hi;have h2:=Bu hl hj;rw[e1] at h1;rw[e2] at h2;have:i=j:=by omega
 subst this;rw[← e1,← e2]
end Go.Proofs.YteheolldcpjkcaaGreatDoor.X
