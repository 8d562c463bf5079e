/- Plain facts: point matrices, suitable motions, the order of motions. -/
import Derived.Test.YtkemdhpdfaejgaaGreatDoorQtMA
namespace Go.Proofs.YtkemdhpdfaejgaaGreatDoor.X
open Go
set_option linter.unusedSimpArgs false
attribute [local instance] cwD
set_option linter.unusedVariables false
def C6 {α:Type} (p:Nat→α→Bool):Nat→List α→Bool
 | _,[]=>true
 | q,a :: r=>p q a&&C6 p (q+1) r
theorem Rp {X R S α:Type} {body:(X→Option R)→X→Option R} (l:List α) (fr:Nat→S→X) (p:Nat→α→Bool) (Hd:S→α→S) (no:Option R) (fin:S→Option R) (inv:Nat→S→Prop)
  (h1:∀ L q s (hq:q<l.length),inv q s→(p q l[q]=true→inv (q+1) (Hd s l[q]))∧body L (fr q s)=bif p q l[q] then L (fr (q+1) (Hd s l[q])) else no)
  (h2:∀ L s,inv l.length s→body L (fr l.length s)=fin s):∀ n q s,q≤l.length→l.length-q<n→inv q s→Ax body n (fr q s)=bif C6 p q (l.drop q) then fin ((l.drop q).foldl Hd s) else no
 | 0,q,s,_,hn,_=>by omega
 | n+1,q,s,hq,hn,hi=>by
  show body (Ax body n) (fr q s)=_;by_cases hlt:q<l.length
  ·obtain⟨h3,h4⟩:=h1 (Ax body n) q s hlt hi;rw[h4,dC hlt];simp only[C6,ABy];cases hp:p q l[q]
   ·simp
   ·rw[cT,Rp l fr p Hd no fin inv h1 h2 n (q+1) _ hlt (by omega) (h3 hp),ABJ]
  ·have:q=l.length:=by omega
   subst this;rw[h2 _ _ hi];simp[C6]
theorem Mc {α:Type} {p:Nat→α→Bool}:∀ {l:List α} {q:Nat},C6 p q l=true→∀ i (hi:i<l.length),p (q+i) l[i]=true
 | [],_,_,i,hi=>by simp at hi
 | a :: l,q,h,i,hi=>by
  simp only[C6,aT] at h;cases i with
  | zero=>exact h.1
  | succ i =>
   have:=Mc h.2 i (by simpa using hi)
   rw[show q+(i+1)=q+1+i by omega]
   exact this
def Kb (f:Int) (v:Vc):Int:=v.1*v.1+f*v.1*v.2+v.2*v.2
def Ov (f:Int) (m:Mt):Bool:=(Kb f (m.1,m.2.2.1)==1)&&(Kb f (m.2.1,m.2.2.2)==1)&&(Kb f (m.1+m.2.1,m.2.2.1+m.2.2.2)==2+f)
theorem Kc {x:Int} (h:x*x≤2) : -1≤x∧x≤1:=by
 constructor
 ·refine Decidable.byContradiction fun hn=>?_;have h1:(-x)*2≤(-x)*(-x):=ACh (by omega) (by omega)
  rw[Int.neg_mul_neg] at h1;omega
 ·refine Decidable.byContradiction fun hn=>?_;have h1:x*2≤x*x:=ACh (by omega) (by omega)
  omega
theorem Lb (x:Int):0≤x*x:=by
 rcases Int.le_total 0 x with h | h
 ·exact ACS h h
 ·have:=ACS (show 0≤-x by omega) (show 0≤-x by omega)
  rwa [Int.neg_mul_neg] at this
theorem W5 {f:Int} (h1:0≤f) (h2:f≤1) {v:Vc} (h:Kb f v=1):(-1≤v.1∧v.1≤1)∧(-1≤v.2∧v.2≤1):=by
 unfold Kb at h;have s1:=Lb v.1;have s2:=Lb v.2;have:f=0∨f=1:=by omega
 rcases this with rfl | rfl
 ·simp only[ADx,ADS] at h;exact⟨Kc (by omega),Kc (by omega)⟩
 ·simp only[ADu] at h;have s3:=Lb (v.1+v.2);have e:(v.1+v.2)*(v.1+v.2)=v.1*v.1+2*(v.1*v.2)+v.2*v.2:=by
   rw[ACX,ADv,ADv,AB2 v.2 v.1];omega
  exact⟨Kc (by omega),Kc (by omega)⟩
theorem Aj8:∀ f∈[(0:Int),1],∀ a∈[(-1:Int),0,1],∀ b∈[(-1:Int),0,1],∀ c∈[(-1:Int),0,1],∀ d∈[(-1:Int),0,1],Ov f (a,b,c,d)=(pmS f).contains (a,b,c,d):=by decide +kernel
theorem Ao7 {a:Int} (h : -1≤a∧a≤1):a∈[(-1:Int),0,1]:=by
 rcases Ro h with rfl | rfl | rfl<;>simp
theorem Aj9 {f:Int} (h1:0≤f) (h2:f≤1) (m:Mt):Ov f m=(pmS f).contains m:=by
 have hf:f∈[(0:Int),1]:=by
  have:f=0∨f=1:=by omega
  rcases this with rfl | rfl<;>simp
 by_cases hs:(-1≤m.1∧m.1≤1)∧(-1≤m.2.1∧m.2.1≤1)∧(-1≤m.2.2.1∧m.2.2.1≤1)∧(-1≤m.2.2.2∧m.2.2.2≤1)
 ·exact Aj8 f hf _ (Ao7 hs.1) _ (Ao7 hs.2.1) _ (Ao7 hs.2.2.1) _ (Ao7 hs.2.2.2)
 ·have e1:Ov f m=false:=by
   cases hk:Ov f m with
   | false=>rfl
   | true =>
    unfold Ov at hk;simp only[aT,beq_iff_eq] at hk;obtain⟨⟨k1,k2⟩,_⟩:=hk;have n1:=W5 h1 h2 k1;have n2:=W5 h1 h2 k2;exact absurd ⟨n1.1,n2.1,n1.2,n2.2⟩ hs
  have e2:(pmS f).contains m=false:=by
   cases hk:(pmS f).contains m with
   | false=>rfl
   | true =>
    rw[cM] at hk;have:=Cy (Gt hk);exact absurd ⟨this.a,this.b,this.c,this.d⟩ hs
  rw[e1,e2]
def Ba (v:Vc):Bool:=decide (-1000≤v.1∧v.1≤1000)&&decide (-1000≤v.2∧v.2≤1000)
theorem BS {v:Vc}:Ba v=true↔(-1000≤v.1∧v.1≤1000)∧(-1000≤v.2∧v.2≤1000):=by
 unfold Ba;simp only[aT,dE]
theorem Cj (v:Vc):JT KK v=some (Ba v):=by
 unfold JT Ba;simp only[Aj7,oB,oT,tO,cT];by_cases h : -1000≤v.1∧v.1≤1000<;>simp[h]
theorem HA (v:Vc):LU KK v=some (Ba v):=by
 unfold LU JX Ba;simp only[DE,oB,oT,tO,cT];by_cases h : -1000≤v.1∧v.1≤1000<;>simp[h]
theorem DH {a b B:Int} (hB:0≤B) (h1 : -B≤a∧a≤B) (h2 : -B≤b∧b≤B) : -(B*B)≤a*b∧a*b≤B*B:=by
 have hh:(a*b).natAbs≤B.natAbs*B.natAbs:=by
  rw[ACH];exact ADU (by omega) (by omega)
 have e:((B.natAbs*B.natAbs:Nat):Int)=B*B:=by
  rw[ACA];have:(B.natAbs:Int)=B:=by omega
  rw[this]
 omega
theorem HB {f:Int} (h1:0≤f) (h2:f≤1) {v:Vc} (hv:(-2000≤v.1∧v.1≤2000)∧(-2000≤v.2∧v.2≤2000)):QG KK f v=some (Kb f v):=by
 obtain⟨a1,a2⟩:=DH (B:=2000) (by omega) hv.1 hv.1
 obtain⟨b1,b2⟩:=DH (B:=2000) (by omega) hv.2 hv.2
 obtain⟨c1,c2⟩:=DH (B:=2000) (by omega) hv.1 hv.2
 have hf:f=0∨f=1:=by omega
 unfold QG Kb;rcases hf with rfl | rfl
 ·rw[show (((0:Int)==1)=false) from rfl,cF,As (n:=v.1*v.1) (by omega) (by omega),As (n:=v.2*v.2) (by omega) (by omega),As (by omega) (by omega)]
  simp
 ·rw[show (((1:Int)==1)=true) from rfl,cT,As (n:=v.1*v.1) (by omega) (by omega),As (n:=v.2*v.2) (by omega) (by omega),As (n:=v.1*v.2) (by omega) (by omega),As (n:=v.1*v.1+v.2*v.2) (by omega) (by omega),As (by omega) (by omega),ADu]
  congr 1;omega
theorem W6 {f:Int} (h1:0≤f) (h2:f≤1) {m:Mt} (ha : -1000≤m.1∧m.1≤1000) (hb : -1000≤m.2.1∧m.2.1≤1000) (hc : -1000≤m.2.2.1∧m.2.2.1≤1000) (hd : -1000≤m.2.2.2∧m.2.2.2≤1000):VW KK f m=some (Ov f m):=by
 unfold VW N0 Ov;simp only[oT,tO,cT];rw[HB h1 h2 (v:=(m.1,m.2.2.1)) ⟨by simp only;omega,by simp only;omega⟩,oB,As (n:=m.1+m.2.1) (by omega) (by omega),As (n:=m.2.2.1+m.2.2.2) (by omega) (by omega),As (n:=2+f) (by omega) (by omega)]
 cases e1:(Kb f (m.1,m.2.2.1)==1)
 ·rfl
 ·simp only[cT];rw[HB h1 h2 (v:=(m.2.1,m.2.2.2)) ⟨by simp only;omega,by simp only;omega⟩,oB]
  cases e2:(Kb f (m.2.1,m.2.2.2)==1)
  ·rfl
  ·simp only[cT,oB];rw[HB h1 h2 (v:=(m.1+m.2.1,m.2.2.1+m.2.2.2)) ⟨by simp only;omega,by simp only;omega⟩]
   rfl
def CE (m:Mt):Bool:=Ba (m.1,m.2.1)&&Ba m.2.2
theorem Gv (m:Mt):JU KK m=some (CE m&&((A9 m==1)||(A9 m == -1))):=by
 unfold JU QV QW CE;simp only[Cj,oB,oT,tO,cT];cases h1:Ba (m.1,m.2.1)
 ·rfl
 ·cases h2:Ba m.2.2
  ·simp[h2]
  ·rw[BS] at h1 h2;obtain⟨a1,a2⟩:=DH (a:=m.1) (b:=m.2.2.2) (B:=1000) (by omega) h1.1 h2.2
   obtain⟨b1,b2⟩:=DH (a:=m.2.1) (b:=m.2.2.1) (B:=1000) (by omega) h1.2 h2.1
   have e:w ((w (m.1*m.2.2.2))-(w (m.2.1*m.2.2.1)))=A9 m:=by
    rw[As (n:=m.1*m.2.2.2) (by omega) (by omega),As (n:=m.2.1*m.2.2.1) (by omega) (by omega),As (by omega) (by omega)]
    rfl
   have h2':Ba m.2.2=true:=BS.2 h2;simp only[h2',cT,oB,e,aS,ABJ];cases h3:A9 m==1<;>cases h4:A9 m == -1<;>simp[h4]
theorem Ke (f:Int) (m:Mt):Adh KK f m=some (okF f&&(pmS f).contains m):=by
 unfold Adh;rw[Hz];simp only[oB,oT,tO,cT];cases hf:okF f
 ·rfl
 ·have hf':0≤f∧f≤1:=by simpa[okF] using hf
  simp only[cT,Gv,oB,ABJ];cases hm:(CE m&&((A9 m==1)||(A9 m == -1)))
  ·have:(pmS f).contains m=false:=by
    cases hk:(pmS f).contains m with
    | false=>rfl
    | true =>
     rw[cM] at hk;have h1:=Cy (Gt hk);have h2:=Aj2 (Gt hk);obtain⟨a,b,c,d⟩:=h1;have h3:CE m=true:=by
      unfold CE;rw[aT,BS,BS];simp only;omega
     have h4:((A9 m==1)||(A9 m == -1))=true:=by
      rw[ACB,beq_iff_eq,beq_iff_eq];exact h2
     rw[h3,h4] at hm;cases hm
   rw[this];rfl
  ·have hm':=hm;unfold CE at hm';rw[aT,aT,BS,BS] at hm';obtain⟨⟨⟨h1,h2⟩,h3,h4⟩,_⟩:=hm';simp only[cT];rw[W6 hf'.1 hf'.2 h1 h2 h3 h4,oB,Aj9 hf'.1 hf'.2]
theorem Ow (f:Int) (l:Lt) (m:Mt):(AU f l).contains m=((pmS f).contains m&&CZ l m):=by
 rw[ABR,aT,cM,cM];unfold AU;rw[ABs]
def GS (f:Int) (l:Lt) (m:Mo):Bool:=(AU f l).contains m.1&&Ba m.2
theorem Qk (f:Int) (l:Lt) (m:Mo):Adi KK f l m=some (okF f&&okL l&&GS f l m):=by
 unfold Adi;rw[ED];simp only[oB,oT,tO,cT];cases hc:(okF f&&okL l)
 ·rfl
 ·rw[aT] at hc;have hl:=Bt.1 hc.2;simp only[if_true,show (((0:Int)==0)=true) from rfl,cT,Ke,hc.1,ABJ,oB]
  unfold GS;rw[Ow];cases hp:(pmS f).contains m.1
  ·rfl
  ·have hp':=hp;rw[cM] at hp';have hmm:=Gt hp';simp only[cT,ABJ];rw[L1 hl (m:=m.1) (Cy hmm),oB];have hst:=W0 hl hmm;generalize Eb (stI (stI (0,0,0) (AQ m.1 (l.1,0))) (AQ m.1 l.2))=r at *;have hr:((r.1==l.1)&&((r.2.1==l.2.1)&&(r.2.2==l.2.2)))=CZ l m.1:=by
    rw[ABR,← hst];simp only[aT,beq_iff_eq];rw[ACM,ACM]
   rw[hr];cases CZ l m.1
   ·rfl
   ·simp only[cT,Cj,oB,ABJ]
def DY:List Int→List Int→Int
 | a :: r,b :: s=>bif a==b then DY r s else (if a<b then -1 else 1)
 | _,_=>0
def ltL:List Int→List Int→Bool
 | a :: r,b :: s=>bif a==b then ltL r s else decide (a<b)
 | _,_=>false
theorem Na:∀ (a b:List Int),(decide (DY a b≥0))=!ltL a b
 | [],_=>rfl
 | _ :: _,[]=>rfl
 | a :: r,b :: s=>by
  have ih:=Na r s;by_cases h:a=b
  ·subst h;simpa[DY,ltL] using ih
  ·have h1:(a==b)=false:=by rw[bN];exact h
   simp only[DY,ltL,h1,cF];by_cases h2:a<b<;>simp[h2]
theorem W7:∀ {a b:List Int} (c d:List Int),a.length=b.length→DY (a++c) (b++d)=if DY a b=0 then DY c d else DY a b
 | [],[],c,d,_=>by simp[DY]
 | a :: r,b :: s,c,d,h=>by
  have ih:=W7 (a:=r) (b:=s) c d (by simpa using h)
  by_cases h1:a=b
  ·subst h1;simpa[DY] using ih
  ·have h2:(a==b)=false:=by rw[bN];exact h1
   simp only[AB0,DY,h2,cF];by_cases h3:a<b<;>simp[h3]
theorem DI:∀ a:List Int,ltL a a=false
 | []=>rfl
 | a :: r=>by simp[ltL,DI r]
theorem DJ:∀ {a b c:List Int},ltL a b=true→ltL b c=true→ltL a c=true
 | [],_,_,h,_=>by simp[ltL] at h
 | _ :: _,[],_,h,_=>by simp[ltL] at h
 | _ :: _,_ :: _,[],_,h=>by simp[ltL] at h
 | a :: r,b :: s,c :: t,h,h'=>by
  simp only[ltL] at h h' ⊢;cases h1:a==b<;>rw[h1] at h<;>cases h2:b==c<;>rw[h2] at h'<;>simp only[cT,cF,dE] at h h'
  ·have:(a==c)=false:=by rw[bN];omega
   rw[this,cF,dE];omega
  ·have e2:=eq_of_beq h2;subst e2;rw[h1,cF,dE];exact h
  ·have e1:=eq_of_beq h1;subst e1;rw[h2,cF,dE];exact h'
  ·have e1:=eq_of_beq h1;subst e1;rw[h2,cT];exact DJ h h'
theorem T8:∀ {a b:List Int},a.length=b.length→ltL a b=false→ltL b a=false→a=b
 | [],[],_,_,_=>rfl
 | a :: r,b :: s,hl,h,h'=>by
  simp only[ltL] at h h';cases h1:a==b
  ·have h2:(b==a)=false:=by rw[bN] at h1 ⊢;exact fun e=>h1 e.symm
   rw[h1,cF,decide_eq_false_iff_not] at h;rw[h2,cF,decide_eq_false_iff_not] at h';rw[bN] at h1;omega
  ·have e:=eq_of_beq h1;subst e;simp only[BEq.rfl,cT] at h h';rw[T8 (by simpa using hl) h h']
theorem Eh {a b:List Int} (hl:a.length=b.length) (hn:a.length≤1000):∀ n q,q≤a.length→a.length-q<n→MS KK a b n (q:Int)=some (DY (a.drop q) (b.drop q))
 | 0,q,_,h=>by omega
 | n+1,q,hq,h=>by
  show Tw KK a b (fun v0=>MS KK a b n v0) (q:Int)=_;unfold Tw;by_cases hlt:q<a.length
  ·have hlt':q<b.length:=by omega
   rw[in1 hlt,in1 hlt',in0,gd hlt,gd hlt',dC hlt,dC hlt'];simp only[aS,cT,DY];cases h1:a[q]==b[q]
   ·have:(a[q] != b[q])=true:=by simp[bne,h1]
    rw[this,cT,cF];by_cases h2:a[q]<b[q]<;>simp[h2]
   ·have:(a[q] != b[q])=false:=by simp[bne,h1]
    rw[this,cF,cT,Af (by omega)]
    exact Eh hl hn n (q+1) hlt (by omega)
  ·have e:q=a.length:=by omega
   subst e;rw[AO,cF,ABZ];rfl
theorem E8 {a b:List Int} (hl:a.length=b.length) (hn:a.length≤1000):Rc KK a b=some (DY a b):=by
 unfold Rc Zd;have:=Eh hl hn KK 0 (by omega) (by have:=Fp (n:=a.length) (by omega);omega)
 simpa using this
def Dj (v:Vc):List Int:=[v.1,v.2]
def IJ (m:Mt):List Int:=[m.1,m.2.1,m.2.2.1,m.2.2.2]
def B6 (m:Mo):List Int:=IJ m.1++Dj m.2
def ltV (u v:Vc):Bool:=ltL (Dj u) (Dj v)
def ltM (m n:Mo):Bool:=ltL (B6 m) (B6 n)
theorem AfL {m n:Mo} (h:B6 m=B6 n):m=n:=by
 simp only[B6,IJ,Dj,AB0,ABi,AEj,and_true] at h;obtain⟨h1,h2,h3,h4,h5,h6⟩:=h;exact Prod.ext (Prod.ext h1 (Prod.ext h2 (Prod.ext h3 h4))) (Prod.ext h5 h6)
theorem Aka {m n:Vc} (h:Dj m=Dj n):m=n:=by
 simp only[Dj,AEj,and_true] at h;exact Prod.ext h.1 h.2
theorem HC (u v:Vc):LV KK u v=some (DY (Dj u) (Dj v)):=by
 unfold LV;rw[E8 (by rfl) (by simp)]
 rfl
theorem Dk (m n:Mo):Oa KK m n=some (DY (B6 m) (B6 n)):=by
 unfold Oa AiK;rw[E8 (by rfl) (by simp),HC]
 simp only[oB];unfold B6;rw[W7 _ _ (by rfl)]
 unfold IJ;generalize DY [m.1.1,m.1.2.1,m.1.2.2.1,m.1.2.2.2] [n.1.1,n.1.2.1,n.1.2.2.1,n.1.2.2.2]=c;by_cases h:c=0
 ·simp[h]
 ·have:(c != 0)=true:=by simp[h]
  rw[this,if_neg h,cT]
theorem Ox (u v:Vc):V3 KK u v=some (ltV u v):=by
 unfold V3
 try simp only[oT,tO,cT]
 simp only[ltV,Dj,ltL];congr 1;by_cases h1:u.1<v.1
 ·have:(u.1==v.1)=false:=by rw[bN];omega
  simp[h1,this]
 ·by_cases h2:u.1=v.1
  ·by_cases h3:u.2=v.2<;>simp[h2,h3]
  ·have:(u.1==v.1)=false:=by rw[bN];exact h2
   simp[h1,this]
theorem IW {a b:List Int} (hl:a.length=b.length) (hn:a.length≤1000):∀ n q,q≤a.length→a.length-q<n→JN KK a b n (q:Int)=some (ltL (a.drop q) (b.drop q))
 | 0,q,_,h=>by omega
 | n+1,q,hq,h=>by
  show SX KK a b (fun v0=>JN KK a b n v0) (q:Int)=_;unfold SX;simp only[oT,tO,cT];by_cases hlt:q<a.length
  ·have hlt':q<b.length:=by omega
   rw[in1 hlt,in1 hlt',in0,gd hlt,gd hlt',dC hlt,dC hlt'];simp only[aS,cT,ltL];cases h1:a[q]==b[q]
   ·have:(a[q] != b[q])=true:=by simp[bne,h1]
    rw[this,cT,cF]
   ·have:(a[q] != b[q])=false:=by simp[bne,h1]
    rw[this,cF,cT,Af (by omega)]
    exact IW hl hn n (q+1) hlt (by omega)
  ·have e:q=a.length:=by omega
   subst e;rw[AO,cF,ABZ,hl];simp[ltL]
theorem ZK (m n:Mo):AbK KK m n=some (ltM m n):=by
 unfold AbK AhG QK AbH YN;simp only[oB];have h1:=IW (a:=IJ m.1) (b:=IJ n.1) rfl (by simp[IJ]) KK 0 (by omega) (by have:=Fp (n:=4) (by omega);simp[IJ];omega)
 have h1':JN KK [m.1.1,m.1.2.1,m.1.2.2.1,m.1.2.2.2] [n.1.1,n.1.2.1,n.1.2.2.1,n.1.2.2.2] KK 0=some (ltL (IJ m.1) (IJ n.1)):=h1;rw[h1',Ox];simp only[oB];unfold ltM B6 ltV IJ;cases e1:m.1.1==n.1.1<;>cases e2:m.1.2.1==n.1.2.1<;>cases e3:m.1.2.2.1==n.1.2.2.1<;>cases e4:m.1.2.2.2==n.1.2.2.2<;>simp[ltL,e1,e2,e3,e4]
def Ah (l:Lt) (v:Vc):Bool:=decide (0≤v.1∧v.1≤l.1-1)&&decide (0≤v.2∧v.2≤l.2.2-1)
theorem Bk {l:Lt} {v:Vc}:Ah l v=true↔(0≤v.1∧v.1≤l.1-1)∧(0≤v.2∧v.2≤l.2.2-1):=by
 unfold Ah;simp only[aT,dE]
theorem BG {l:Lt} (hl:IsL l) {v:Vc} (h:Ah l v=true):AX l v=v:=by
 obtain⟨⟨h1,h2⟩,h3,h4⟩:=Bk.1 h;unfold AX;have e1:v.2 / l.2.2=0:=Int.ediv_eq_zero_of_lt h3 (by omega)
 have e2:v.2 % l.2.2=v.2:=ACn h3 (by omega)
 rw[e1,e2,ADx,AEe,ACn h1 (by omega)]
theorem AM {l:Lt} (hl:IsL l) (v:Vc):Ah l (AX l v)=true:=by
 obtain⟨h1,h2,h3,h4⟩:=LX hl v;rw[Bk];omega
theorem E9 {l:Lt} (hl:IsL l) {v:Vc} (h:Ah l v=true):0≤v.1∧v.1≤63∧0≤v.2∧v.2≤63:=by
 obtain⟨⟨h1,h2⟩,h3,h4⟩:=Bk.1 h;have:=hl.a2;have:=hl.c2;omega
theorem EE {l:Lt} (hl:IsL l) {v:Vc} (h:Ah l v=true):Sv v:=by
 have:=E9 hl h;simp only[Sv];omega
theorem W8 {l:Lt} (hl:IsL l) (v:Vc):∃ r,Mu KK l v=some r∧(r.1==v.1&&r.2==v.2)=Ah l v:=by
 cases h:Ah l v with
 | true=>exact⟨_,DD hl (Om (EE hl h)),by rw[BG hl h];simp⟩
 | false =>
  unfold Mu;have h0:(l.2.2 != 0)=true:=by have:=hl.c1;simp;omega
  rw[TX hl.c1 (by have:=hl.c2;omega)]
  simp only[oB,h0,cT];rw[TX hl.a1 (by have:=hl.a2;omega)]
  refine⟨_,rfl,?_⟩;cases h2:((w (v.1-w (w ((w (v.2-v.2 % l.2.2)).tdiv l.2.2)*l.2.1))) % l.1==v.1&&v.2 % l.2.2==v.2) with
  | false=>rfl
  | true =>
   rw[aT,beq_iff_eq,beq_iff_eq] at h2;have hc:=hl.c1;have ha:=hl.a1;have b1:=ACp (w (v.1-w (w ((w (v.2-v.2 % l.2.2)).tdiv l.2.2)*l.2.1))) (show l.1≠0 by omega)
   have b2:=ACe (w (v.1-w (w ((w (v.2-v.2 % l.2.2)).tdiv l.2.2)*l.2.1))) (show 0<l.1 by omega)
   have b3:=ACp v.2 (show l.2.2≠0 by omega)
   have b4:=ACe v.2 (show 0<l.2.2 by omega)
   rw[h2.1] at b1 b2;rw[h2.2] at b3 b4;have:Ah l v=true:=by rw[Bk];omega
   rw[h] at this;cases this
theorem FQ {α:Type} (p:α→Bool):∀ (l:List α) (q:Nat),decide (C1 p q l≥0)=l.any p
 | [],_=>rfl
 | a :: l,q=>by
  have ih:=FQ p l (q+1);cases h:p a with
  | false=>simpa[C1,h] using ih
  | true=>simp[C1,h]
theorem AAw (m n:Mt):((m.1==n.1)&&((m.2.1==n.2.1)&&((m.2.2.1==n.2.2.1)&&(m.2.2.2==n.2.2.2))))=(m==n):=by
 rw[ABR];simp only[aT,beq_iff_eq,ACM]
theorem Ay6 (m n:Mo):((m.1.1==n.1.1)&&((m.1.2.1==n.1.2.1)&&((m.1.2.2.1==n.1.2.2.1)&&((m.1.2.2.2==n.1.2.2.2)&&((m.2.1==n.2.1)&&(m.2.2==n.2.2))))))=(m==n):=by
 rw[ABR];simp only[aT,beq_iff_eq,ACM,and_assoc]
theorem HD {l:List Mt} (hn:l.length≤1000) (m:Mt):Wu KK l m=some (l.contains m):=by
 have hidx:Wt KK l m=some (C1 (fun a=>m==a) 0 l):=by
  have h:=EC (R:=Int) (body:=fun L x=>MR KK l m (fun v0=>L v0) x) l (fun a=>m==a) some
   (fun L q hq=>by
    unfold MR;rw[in1 hq,in0,gd hq];simp only[aS,cT];rw[AAw,Af (by omega)])
   (fun L=>by
    unfold MR;rw[AO,cF]) KK 0 (by omega) (by have:=Fp (n:=l.length) (by omega);omega)
  unfold Wt Zc Tv;exact h
 unfold Wu;rw[hidx,oB,FQ];congr 1;rw[List.contains_eq_any_beq]
theorem Gw {K:Sh} (hK:K.flat=true) {β:Type}:∀ (xs:List (K.T×β)) (k x:K.T) (v:β),B2 (A7 K) (EV (A7 K) xs k v) x=bif A7 K x k then some v else B2 (A7 K) xs x
 | [],k,x,v=>by simp[EV,B2]
 | p :: r,k,x,v=>by
  simp only[EV];cases h:A7 K k p.1
  ·simp only[cF,B2];rw[Gw hK r k x v];cases h1:A7 K x p.1
   ·simp
   ·have e1:=(B9 K hK _ _).1 h1;cases h2:A7 K x k
    ·simp
    ·have e2:=(B9 K hK _ _).1 h2;have:A7 K k p.1=true:=(B9 K hK _ _).2 (e2.symm.trans e1);rw[h] at this;cases this
  ·have e:=(B9 K hK _ _).1 h;simp only[cT,B2,← e];cases A7 K x k<;>rfl
theorem Oy {K:Sh} (hK:K.flat=true) [DecidableEq K.T]:∀ (l:List K.T) (xs:List (K.T×Bool)) (x:K.T),(B2 (A7 K) (l.foldl (fun s a=>EV (A7 K) s a true) xs) x).getD false=(decide (x∈l)||(B2 (A7 K) xs x).getD false)
 | [],xs,x=>by simp
 | a :: l,xs,x=>by
  rw[ABy,Oy hK l,Gw hK];cases h:A7 K x a
  ·have:x≠a:=fun e=>by rw[(B9 K hK x a).2 e] at h;cases h
   simp[this]
  ·have:=(B9 K hK x a).1 h;simp[this]
abbrev Gx:Sh:=.cons (.cons (.int .i64) (.cons (.int .i64) (.cons (.int .i64) (.int .i64)))) (.cons (.int .i64) (.int .i64))
def Rq (g:List Mo):List (Mo×Bool):=g.foldl (fun s a=>EV (A7 Gx) s a true) []
theorem Oz (g:List Mo) (x:Mo):(B2 (A7 Gx) (Rq g) x).getD false=g.contains x:=by
 have h:=Oy (K:=Gx) rfl g [] x;refine Eq.trans h ?_;simp[B2,List.contains_eq_mem]
def mmS (m n:Mt):Mt:=(m.1*n.1+m.2.1*n.2.2.1,m.1*n.2.1+m.2.1*n.2.2.2,m.2.2.1*n.1+m.2.2.2*n.2.2.1,m.2.2.1*n.2.1+m.2.2.2*n.2.2.2)
def Bi (l:Lt) (m n:Mo):Mo:=(mmS m.1 n.1,AX l (Bl m n.2))
theorem Adw {m n:Mt} (hm:SmM m) (hn:SmM n):((w ((w (m.1*n.1))+(w (m.2.1*n.2.2.1)))),(w ((w (m.1*n.2.1))+(w (m.2.1*n.2.2.2)))),(w ((w (m.2.2.1*n.1))+(w (m.2.2.2*n.2.2.1)))),(w ((w (m.2.2.1*n.2.1))+(w (m.2.2.2*n.2.2.2)))))=mmS m n:=by
 obtain⟨a,b,c,d⟩:=hm;obtain⟨a',b',c',d'⟩:=hn;have h:∀ {x y:Int},(-1≤x∧x≤1)→(-1≤y∧y≤1)→-1≤x*y∧x*y≤1:=fun {x y} hx hy=>by
  have:=BH hx (B:=1) (x:=y) (by omega) (by omega) (by omega)
  omega
 have h1:=h a a';have h2:=h b c';have h3:=h a b';have h4:=h b d';have h5:=h c a';have h6:=h d c';have h7:=h c b';have h8:=h d d'
 unfold mmS;rw[As (n:=m.1*n.1) (by omega) (by omega),As (n:=m.2.1*n.2.2.1) (by omega) (by omega),As (n:=m.1*n.2.1) (by omega) (by omega),As (n:=m.2.1*n.2.2.2) (by omega) (by omega),As (n:=m.2.2.1*n.1) (by omega) (by omega),As (n:=m.2.2.2*n.2.2.1) (by omega) (by omega),As (n:=m.2.2.1*n.2.1) (by omega) (by omega),As (n:=m.2.2.2*n.2.2.2) (by omega) (by omega)]
 rw[As (n:=m.1*n.1+m.2.1*n.2.2.1) (by omega) (by omega),As (n:=m.1*n.2.1+m.2.1*n.2.2.2) (by omega) (by omega),As (n:=m.2.2.1*n.1+m.2.2.2*n.2.2.1) (by omega) (by omega),As (n:=m.2.2.1*n.2.1+m.2.2.2*n.2.2.2) (by omega) (by omega)]
def HE (m:Mo):Prop:=m.1∈pmQ++pmH∧Sv m.2
theorem W9 {m:Mt×Vc} (hm:SmM m.1) {v:Vc} (hv:Sv v) (ht:Sv m.2):(w ((AQ m.1 v).1+m.2.1),w ((AQ m.1 v).2+m.2.2))=Bl m v:=by
 obtain⟨h1,h2,h3,h4⟩:=Gr hm hv;obtain⟨t1,t2,t3,t4⟩:=ht;unfold Bl;rw[As (by omega) (by omega),As (by omega) (by omega)]
theorem Xa {m n:Mo} (hm:HE m) (hn:HE n):Ww KK m n=some (mmS m.1 n.1,Bl m n.2):=by
 unfold Ww AiH Wv;simp only[oB];rw[Adw (Cy hm.1) (Cy hn.1),E5 (Cy hm.1) hn.2];simp only[oB];rw[W9 (Cy hm.1) hn.2 hm.2]
theorem Jg {m n:Mo} (hm:HE m) (hn:HE n):AnB KK m n=some (mmS m.1 n.1,Bl m n.2):=by
 unfold AnB QJ N0;simp only[oB];rw[Adw (Cy hm.1) (Cy hn.1),E4 (Cy hm.1) hn.2];simp only[oB];rw[W9 (Cy hm.1) hn.2 hm.2]
theorem Ec {l:Lt} (hl:IsL l) {m:Mo} (hm:Sm m.2):Ra KK l m=some (m.1,AX l m.2):=by
 unfold Ra;rw[DD hl hm];rfl
theorem Dl {l:Lt} (hl:IsL l) {m:Mo} (hm:Sm m.2):Afc KK l m=some (m.1,AX l m.2):=by
 unfold Afc;rw[Di hl hm];rfl
def dMo:Mo:=((0,0,0,0),0,0)
def uMo:Mo:=((1,0,0,1),0,0)
def T9 (f:Int) (l:Lt) (g:List Mo) (q:Nat) (a:Mo):Bool:=(AU f l).contains a.1&&(Ah l a.2&&(Nat.beq q 0||ltM (g.getD (q-1) dMo) a))
def EF (f:Int) (l:Lt) (g:List Mo):Bool:=C6 (T9 f l g) 0 g&&(g.contains uMo&&g.all fun m=>g.all fun n=>g.contains (Bi l m n))
structure Pre (f:Int) (l:Lt) (g:List Mo):Prop where
 mem:∀ m∈g,m.1∈AU f l∧Ah l m.2=true
 up:∀ i (h:i+1<g.length),ltM g[i] g[i+1]=true
theorem ZL {f:Int} {l:Lt} {g:List Mo} (h:C6 (T9 f l g) 0 g=true):Pre f l g:=by
 have hg:=Mc h;refine⟨fun m hm=>?_,fun i hi=>?_⟩
 ·obtain⟨i,hi,rfl⟩:=ACc hm;have:=hg i hi;unfold T9 at this;rw[aT,aT,cM] at this;exact⟨this.1,this.2.1⟩
 ·have:=hg (i+1) hi;unfold T9 at this;rw[aT,aT,ACB] at this;rcases this.2.2 with h1 | h1
  ·have:=AA2 h1;omega
  ·have e:(0+(i+1)-1)=i:=by omega
   rw[e] at h1;simpa[List.getD,show i<g.length by omega] using h1
theorem Pre.lt {f:Int} {l:Lt} {g:List Mo} (h:Pre f l g):∀ (j i:Nat) (hj:j<g.length) (hi:i<j),ltM g[i] g[j]=true
 | 0,i,hj,hi=>by omega
 | j+1,i,hj,hi=>by
  by_cases e:i=j
  ·subst e;exact h.up i hj
  ·exact DJ (h.lt j i (by omega) (by omega)) (h.up j hj)
theorem Pre.good {f:Int} {l:Lt} (hl:IsL l) {g:List Mo} (h:Pre f l g) {m:Mo} (hm:m∈g):HE m:=⟨DX (h.mem m hm).1,EE hl (h.mem m hm).2⟩
theorem Pre.nodup {f:Int} {l:Lt} {g:List Mo} (h:Pre f l g):g.Nodup:=by
 rw[List.Nodup,ACr];intro i j hi hj hij e;have:=h.lt j i hj hij;rw[e] at this;unfold ltM at this;rw[DI] at this;cases this
theorem Eu {α:Type} [DecidableEq α]:∀ (l m:List α),l.Nodup→(∀ x∈l,x∈m)→l.length≤m.length
 | [],m,_,_=>ABU _
 | a :: l,m,hn,h=>by
  have ha:=h a (by simp)
  rw[AC3] at hn;have:=Eu l (m.erase a) hn.2 fun x hx=>by
   have hne:x≠a:=fun e=>hn.1 (e▸hx);exact (List.mem_erase_of_ne hne).2 (h x (by simp[hx]))
  rw[AD6 ha] at this;have:=AC1 ha;simp only[ABc];omega
theorem CS {l:Lt} (hl:IsL l) {v:Vc} (h:Ah l v=true):v∈Aa l:=by
 obtain⟨⟨h1,h2⟩,h3,h4⟩:=Bk.1 h;have:=hl.a1;have:=hl.c1;unfold Aa K8;rw[ACu];refine⟨v.1.toNat,ACG.2 (by omega),ABe.2 ⟨v.2.toNat,ACG.2 (by omega),Prod.ext ?_ ?_⟩⟩<;>simp only<;>omega
theorem Pre.len {f:Int} {l:Lt} (hl:IsL l) {g:List Mo} (h:Pre f l g):g.length≤768:=by
 have:=Eu g ((AU f l).flatMap fun m=>(Aa l).map fun v=>(m,v)) h.nodup fun x hx=>by
  obtain⟨h1,h2⟩:=h.mem x hx;exact ACu.2 ⟨x.1,h1,ABe.2 ⟨x.2,CS hl h2,rfl⟩⟩
 have h2:=Mb (fun m:Mt=>(Aa l).map fun v:Vc=>(m,v)) 64 (fun m=>by rw[ABf];exact AK hl) (AU f l)
 have h3:=Hy f l;have:(AU f l).length*64≤12*64:=ABO _ h3;omega
theorem Ua (f:Int) (l:Lt):AcQ KK f l=some (if okF f&&okL l then 0 else 1):=by
 unfold AcQ;rw[Ou,Em];cases okF f<;>cases h:okL l<;>rfl
theorem AAx {g:List Mo} {q:Nat} (hq:q+1<4611686018427387904) (d:Mo):g.getD ((0:Int)+(w ((((q+1:Nat)):Int)-(1:Int)))).toNat d=g.getD q d:=by
 rw[As (by omega) (by omega)]
 congr 1;omega
theorem inP {g:List Mo} {q:Nat} (hq:q+1<g.length) (h2:q+1<4611686018427387904):(decide (0≤(w (((q+1:Nat):Int)-(1:Int))))&&decide ((w (((q+1:Nat):Int)-(1:Int)))<(g.length:Int)))=true:=by
 rw[As (by omega) (by omega),aT,dE,dE]
 omega
theorem Akb {f:Int} {l:Lt} (hl:IsL l) {g:List Mo} (hn:g.length≤1048576) {I:Int→List (Mo×Bool)→List Mt→Mt→Int→Option Bool} {L:Int→List (Mo×Bool)→Option Bool} {q:Nat} (hq:q<g.length) (s:List (Mo×Bool)) :
  E3 KK f l g (AU f l) I L (q:Int) s=bif T9 f l g q g[q] then L ((q+1:Nat):Int) (EV (A7 Gx) s g[q] true) else some false:=by
 obtain⟨r,hr,hrc⟩:=W8 hl g[q].2;unfold E3;rw[in1 hq];simp only[cT,in0,aS,oT,tO,gd hq];rw[HD (by have:=Hy f l;omega),oB]
 unfold T9;cases h1:(AU f l).contains g[q].1
 ·simp only[nT,nF,cT,cF,oB,ADB,oT,tO]
 ·simp only[nT,nF,cT,cF,oB,ABJ,hr,hrc];cases h2:Ah l g[q].2
  ·simp only[nF,nT,ADB,tO,oT,cT,cF,oB]
  ·simp only[nF,nT,ABJ];cases q with
   | zero =>
    have:decide (((0:Nat):Int)>0)=false:=by simp
    simp only[this,nF,tO,oT,cT,cF,oB];rfl
   | succ q =>
    have h3:decide (((q+1:Nat):Int)>0)=true:=by simp
    simp only[h3,nT,ACl,ACw,tO,oT,cT,cF,inP hq (by omega),AAx (g:=g) (q:=q) (by omega)]
    rw[Dk,oB,Na,Af (by omega)]
    have e:(q+1-1)=q:=rfl;rw[e];have e2:Nat.beq (q+1) 0=false:=rfl;rw[e2,ACl];unfold ltM dMo;cases ltL (B6 (g.getD q ((0,0,0,0),0,0))) (B6 g[q+1])<;>rfl
theorem Gy {f:Int} {l:Lt} {g:List Mo} (hp:Pre f l g) (hn:g.length≤1048576) (m:Mo):∀ (n lo hi:Nat),lo≤hi→hi≤g.length→hi-lo<n→(∀ i (h:i<g.length),i<lo→ltM g[i] m=true)→(∀ i (h:i<g.length),hi≤i→ltM g[i] m=false) →
  ∃ p:Nat,H8 KK g m n (lo:Int) (hi:Int)=some (p:Int)∧p≤g.length∧(∀ i (h:i<g.length),i<p→ltM g[i] m=true)∧(∀ i (h:i<g.length),p≤i→ltM g[i] m=false)
 | 0,lo,hi,_,_,h,_,_=>by omega
 | n+1,lo,hi,hle,hhi,hd,h1,h2=>by
  show ∃ p:Nat,SY KK g m (fun v0 v1=>H8 KK g m n v0 v1) (lo:Int) (hi:Int)=_∧_;unfold SY;by_cases hlt:lo<hi
  ·have e1:w ((w ((lo:Int)+(hi:Int))).tdiv 2)=((((lo+hi) / 2:Nat)):Int):=by
    rw[As (n:=(lo:Int)+(hi:Int)) (by omega) (by omega)]
    have:((lo:Int)+(hi:Int)).tdiv 2=(((lo+hi) / 2:Nat):Int):=by
     rw[ADa (by omega)]
     omega
    rw[this,As (by omega) (by omega)]
   have hmid:(lo+hi) / 2<g.length:=by omega
   rw[in1 hlt,e1,in0,in1 hmid,gd hmid];simp only[aS,cT];rw[ZK,oB,Af (by omega)]
   cases hc:ltM g[(lo+hi) / 2] m
   ·rw[cF];refine Gy hp hn m n lo ((lo+hi) / 2) (by omega) (by omega) (by omega) h1 fun i hi' hle'=>?_
    by_cases e:i=(lo+hi) / 2
    ·subst e;exact hc
    ·cases hx:ltM g[i] m with
     | false=>rfl
     | true =>
      have:=DJ (hp.lt i ((lo+hi) / 2) hi' (by omega)) hx
      exact absurd (hc.symm.trans this) (by simp)
   ·rw[cT];refine Gy hp hn m n ((lo+hi) / 2+1) hi (by omega) hhi (by omega) (fun i hi' hle'=>?_) h2
    by_cases e:i=(lo+hi) / 2
    ·subst e;exact hc
    ·exact DJ (hp.lt ((lo+hi) / 2) i hmid (by omega)) hc
  ·have e:lo=hi:=by omega
   subst e;rw[AO,cF];exact⟨lo,rfl,hhi,h1,h2⟩
theorem Ih {f:Int} {l:Lt} {g:List Mo} (hp:Pre f l g) (hn:g.length≤1048576) (m:Mo):AhI KK g m=some (g.contains m):=by
 obtain⟨p,h1,h2,h3,h4⟩:=Gy hp hn m KK 0 g.length (by omega) (by omega) (by simp only[KK];omega) (fun i _ h=>by omega) (fun i hi h=>by omega)
 unfold AhI QN SZ;simp only[show H8 KK g m KK (0:Int) (g.length:Int)=some (p:Int) from h1,oB,oT,tO,cT]
 by_cases hlt:p<g.length
 ·rw[in1 hlt,in0,gd hlt];simp only[nT,ACl,ACw,aS,cT];rw[Ay6];congr 1;rw[ABR,beq_iff_eq,cM];constructor
  ·intro e;rw[← e];exact gM hlt
  ·intro hm;obtain⟨j,hj,e⟩:=ACc hm;by_cases hjp:j<p
   ·have:=h3 j hj hjp;rw[e] at this;unfold ltM at this;rw[DI] at this;cases this
   ·by_cases e2:j=p
    ·subst e2;exact e
    ·have:=hp.lt j p hj (by omega)
     rw[e,h4 p hlt (AA9 _)] at this;cases this
 ·have hpe:p=g.length:=by omega
  subst hpe;rw[AO];simp only[nF,tO,oT,cT,cF];congr 1;cases hc:g.contains m with
  | false=>rfl
  | true =>
   rw[cM] at hc;obtain⟨j,hj,e⟩:=ACc hc;have:=h3 j hj hj;rw[e] at this;unfold ltM at this;rw[DI] at this;cases this
theorem AuX {f:Int} {l:Lt} (hl:IsL l) {g:List Mo} (hp:Pre f l g) (hn:g.length≤1048576) {c:Int} {ms:List Mt} {L:Int→Option Bool} {x:Nat} (hx:x<g.length) :
  Hq KK f l g c (Rq g) (x:Int) ms Un L KK 0=bif g.all fun n=>g.contains (Bi l g[x] n) then L ((x+1:Nat):Int) else some false:=by
 have h:=Dg (X:=Int) (body:=fun L23 z=>JZ KK f l g c (Rq g) (x:Int) ms Un L (fun v0=>L23 v0) z) g (fun q=>(q:Int)) (fun n=>g.contains (Bi l g[x] n)) (some false) (L ((x+1:Nat):Int))
  (fun L23 q hq=>by
   have g1:=hp.good hl (gM hx);have g2:=hp.good hl (gM hq);unfold JZ;rw[in1 hq,in0,gd hx,gd hq];simp only[aS,cT];rw[Xa g1 g2,oB,Ec hl (m:=(mmS g[x].1 g[q].1,Bl g[x] g[q].2)) (E6 (Cy g1.1) g2.2 g1.2),oB,Af (by omega)]
   have:=Oz g (Bi l g[x] g[q]);rw[show (B2 (A7 Gx) (Rq g) (mmS g[x].1 g[q].1,AX l (Bl g[x] g[q].2))).getD false=g.contains (Bi l g[x] g[q]) from this]
   cases g.contains (Bi l g[x] g[q])<;>rfl)
  (fun L23=>by
   unfold JZ;rw[AO,cF,Af (by omega)]) KK 0 (by omega) (by simp only[KK];omega)
 unfold Hq;exact h
theorem ZM {f:Int} {l:Lt} (hf:okF f=true) (hl:IsL l) {g:List Mo} (hn:g.length≤1048576):Wy KK f l g=some (EF f l g):=by
 have hf':0≤f∧f≤1:=by simpa[okF] using hf
 unfold Wy Zf;rw[Hx hf'.1 hf'.2 hl,oB];have h:=Rp (X:=Int×List (Mo×Bool)) (body:=fun L6 z=>E3 KK f l g (AU f l) (fun c0 c1 c2 c3 d0=>Ht KK f l g c0 c1 c2 c3 KK d0) (fun v0 v1=>L6 (v0,v1)) z.1 z.2) g (fun q s=>((q:Int),s)) (T9 f l g) (fun s a=>EV (A7 Gx) s a true) (some false)
  (fun s=>E3 KK f l g (AU f l) (fun c0 c1 c2 c3 d0=>Ht KK f l g c0 c1 c2 c3 KK d0) (fun _ _=>none) (g.length:Int) s) (fun q s=>True)
  (fun L6 q s hq _=>⟨fun _=>trivial,Akb hl hn hq s⟩)
  (fun L6 s _=>by
   unfold E3;rw[AO,cF,cF]) KK 0 [] (by omega) (by simp only[KK];omega) trivial
 unfold TA;refine Eq.trans h ?_;simp only[ABb];unfold EF;cases hpre:C6 (T9 f l g) 0 g
 ·rfl
 ·have hp:=ZL hpre;simp only[cT,ABJ];unfold E3 N9;rw[AO,cF];simp only[oB];have h2:=Oz g uMo;rw[show (B2 (A7 Gx) (g.foldl (fun s a=>EV (A7 Gx) s a true) []) ((1,0,0,1),0,0)).getD false=g.contains uMo from h2]
  cases g.contains uMo
  ·rfl
  ·simp only[nT,cF,ABJ];have h3:=Dg (X:=Int) (body:=fun L21 z=>Hr KK f l g (g.length:Int) (Rq g) (AU f l) Un (fun c0 d0=>Hq KK f l g (g.length:Int) (Rq g) c0 (AU f l) Un (fun v0=>L21 v0) KK d0) (fun v0=>L21 v0) z) g (fun q=>(q:Int)) (fun m=>g.all fun n=>g.contains (Bi l m n)) (some false) (some true)
    (fun L21 q hq=>by
     unfold Hr;rw[in1 hq,in0];simp only[aS,cT];exact AuX hl hp hn hq)
    (fun L21=>by
     unfold Hr;rw[AO,cF]) KK 0 (by omega) (by simp only[KK];omega)
   unfold Ht;refine Eq.trans h3 ?_;rw[ABb];cases g.all fun m=>g.all fun n=>g.contains (Bi l m n)<;>rfl
def Xb (f:Int) (l:Lt) (g:List Mo):Int:=if okF f&&okL l then (if EF f l g then 0 else 2) else 1
theorem Kf (f:Int) (l:Lt) {g:List Mo} (hn:g.length≤1048576):Zi KK f l [g]=some (Xb f l g):=by
 unfold Zi AiO Xb;rw[Ua,oB];cases hc:(okF f&&okL l)
 ·rfl
 ·rw[aT] at hc;simp only[if_true,show (((0:Int) != 0)=false) from rfl,cF]
  unfold Zh;show Zg KK f l [g] 0 _ (0:Int)=_;unfold Zg;simp only[show decide ((0:Int)<(([g]:List (List Mo)).length:Int))=true from rfl,show decide ((0:Int)≤0)=true from rfl,aS,cT]
  rw[show ([g]:List (List Mo)).getD ((0:Int)+0).toNat []=g from rfl,ZM hc.1 (Bt.1 hc.2) hn,oB]
  cases EF f l g
  ·rfl
  ·rfl
def Ay7 (t:List Vc) (q:Nat) (v:Vc):Bool:=Ba v&&(Nat.beq q 0||ltV (t.getD (q-1) (0,0)) v)
def Ay8 (t:List Vc):Bool:=C6 (Ay7 t) 0 t&&(decide (1≤t.length)&&decide (t.length≤16))
def AAN (f:Int) (l:Lt) (g:List Mo) (t:List Vc):Int:=if okF f&&okL l&&Ay8 t then (if EF f l g then 0 else 2) else 1
structure AAO (f:Int) (l:Lt) (g:List Mo) (t:List Vc):Prop where
 fr:okF f=true
 la:IsL l
 pr:Pre f l g
 vec:∀ v∈t,Ba v=true
 t1:1≤t.length
 t2:t.length≤16
theorem Ub {v:Vc} (h:Ba v=true):Sv v:=by
 rw[BS] at h;simp only[Sv];omega
def mvS (l:Lt) (m:Mo) (v:Vc):Vc:=AX l (Bl m v)
theorem Xc {l:Lt} (hl:IsL l) {m:Mo} (hm:HE m) {v:Vc} (hv:Sv v):AbP KK l m v=some (mvS l m v):=by
 unfold AbP;rw[LY (Cy hm.1) hv hm.2,oB,Di hl (E6 (Cy hm.1) hv hm.2)];rfl
theorem Akc {l:Lt} (hl:IsL l) {m:Mo} (hm:HE m) {v:Vc} (hv:Sv v):AcZ KK l m v=some (mvS l m v):=by
 unfold AcZ;rw[LZ (Cy hm.1) hv hm.2,oB,DD hl (E6 (Cy hm.1) hv hm.2)];rfl
def Ay9 (l:Lt) (g:List Mo) (t:List Vc):List (List Vc):=g.map fun m=>t.map (mvS l m)
theorem OA {n:Nat} (h:n≤1000000):Nat.ble n (lim 24)=true:=by
 simp only[lim,AB4];omega
def Aza (i:Int):List Nat→List Int→Option (List Int)
 | [],o=>some o
 | n :: r,o=>bif decide (o.getD n 0≥0) then none else Aza i r (o.set n i)
def AAy:List (List Nat)→Nat→List Int→Option (List Int)
 | [],_,o=>some o
 | c :: r,i,o=>match Aza (i:Int) c o with | some o'=>AAy r (i+1) o' | none=>none
def AAz:List (List Nat)→Nat→Nat→Option Nat
 | [],_,_=>none
 | c :: r,i,k=>if k∈c then some i else AAz r (i+1) k
theorem Me {α:Type} [DecidableEq α] (l m:List α) (hm:m.Nodup) (h1:∀ x∈m,x∈l) (h2:l.length≤m.length):∀ x∈l,x∈m:=fun x hx=>by
 refine Decidable.byContradiction fun hn=>?_;have:=Eu m (l.erase x) hm fun y hy=>(List.mem_erase_of_ne (fun (e:y=x)=>hn (e▸hy))).2 (h1 y hy);rw[AD6 hx] at this;have:=AC1 hx;omega
abbrev shV:Sh:=.cons (.int .i64) (.int .i64)
def AAW (xs:List (Vc×Bool)) (vs:List Vc):List (Vc×Bool):=vs.foldl (fun s a=>EV (A7 shV) s a true) xs
def Akd (l:Lt) (g:List Mo) (t:List Vc):Prop:=(Ay9 l g t).flatten.Nodup∧∀ v∈Aa l,v∈(Ay9 l g t).flatten
instance (l:Lt) (g:List Mo) (t:List Vc):Decidable (Akd l g t):=by unfold Akd;infer_instance
theorem Uc {l:Lt} (hl:IsL l):(Aa l).Nodup:=by
 rw[List.Nodup,ACr];intro i j hi hj hij e;have h1:=Bb hl hi;have h2:=Bb hl hj;rw[e,h2] at h1;omega
theorem Ake {l:Lt} (hl:IsL l):w (l.1*l.2.2)=((Aa l).length:Int):=by
 rw[CH hl,Gq hl];have:=hl.ix;have:0≤l.1*l.2.2:=ACS (by have:=hl.a1;omega) (by have:=hl.c1;omega)
 exact As (by omega) (by omega)
theorem Ud {l:Lt} (hl:IsL l) {v:Vc} (hv:Ah l v=true):N6 KK l v=some ((A8 l v:Nat):Int):=by
 unfold N6;rw[Di hl (Om (EE hl hv)),oB,(EB hl v).1]
theorem Ck {l:Lt} (hl:IsL l) (v:Vc):A8 l v<(Aa l).length:=by
 have h1:=(EB hl v).2;rw[CH hl];have:=Gq hl;omega
def cnS (l:Lt) (C:List (List Vc)):List (List Nat):=C.map fun c=>c.map (A8 l)
theorem Adx {l:Lt} (hl:IsL l) {u v:Vc} (hu:Ah l u=true) (hv:Ah l v=true) (h:A8 l u=A8 l v):u=v:=by
 obtain⟨i,hi,e1⟩:=ACc (CS hl hu);obtain⟨j,hj,e2⟩:=ACc (CS hl hv);have h1:=Bb hl hi;have h2:=Bb hl hj;rw[e1] at h1;rw[e2] at h2;have:i=j:=by omega
 subst this;rw[← e1,← e2]
end Go.Proofs.YtkemdhpdfaejgaaGreatDoor.X
