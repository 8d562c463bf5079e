/- Plain facts: point matrices, suitable motions, the order of motions. -/
import Derived.Test.YteheolldcpjkcaaGreatQuMA
namespace Go.Proofs.YteheolldcpjkcaaGreat.X
open Go
set_option linter.unusedSimpArgs false
attribute [local instance] cwD
set_option linter.unusedVariables false
def CF {α:Type} (p:Nat→α→Bool):Nat→List α→Bool
 | _,[]=>true
 | q,a :: r=>p q a&&CF p (q+1) r
theorem JF {X R S α:Type} {body:(X→Option R)→X→Option R} (l:List α) (fr:Nat→S→X) (p:Nat→α→Bool) (FN:S→α→S) (no:Option R) (fin:S→Option R) (inv:Nat→S→Prop)
  (h1:∀ L q s (hq:q<l.length),inv q s→(p q l[q]=true→inv (q+1) (FN s l[q]))∧body L (fr q s)=bif p q l[q] then L (fr (q+1) (FN s l[q])) else no)
  (h2:∀ L s,inv l.length s→body L (fr l.length s)=fin s):∀ n q s,q≤l.length→l.length-q<n→inv q s→AH body n (fr q s)=bif CF p q (l.drop q) then fin ((l.drop q).foldl FN s) else no
 | 0,q,s,_,hn,_=>by omega
 | n+1,q,s,hq,hn,hi=>by
  show body (AH body n) (fr q s)=_;by_cases hlt:q<l.length
  ·obtain⟨h3,h4⟩:=h1 (AH body n) q s hlt hi;rw[h4,dC hlt];simp only[CF,Aq8];cases hp:p q l[q]
   ·simp
   ·rw[cT,JF l fr p FN no fin inv h1 h2 n (q+1) _ hlt (by omega) (h3 hp),AqK]
  ·have:q=l.length:=by omega
   subst this;rw[h2 _ _ hi];simp[CF]
theorem Kj {α:Type} {p:Nat→α→Bool}:∀ {l:List α} {q:Nat},CF p q l=true→∀ i (hi:i<l.length),p (q+i) l[i]=true
 | [],_,_,i,hi=>by simp at hi
 | a :: l,q,h,i,hi=>by
  simp only[CF,aT] at h;cases i with
  | zero=>exact h.1
  | succ i =>
   have:=Kj h.2 i (by simpa using hi)
   rw[show q+(i+1)=q+1+i by omega]
   exact this
def IH (f:Int) (v:Vc):Int:=v.1*v.1+f*v.1*v.2+v.2*v.2
def Mv (f:Int) (m:Mt):Bool:=(IH f (m.1,m.2.2.1)==1)&&(IH f (m.2.1,m.2.2.2)==1)&&(IH f (m.1+m.2.1,m.2.2.1+m.2.2.2)==2+f)
theorem II {x:Int} (h:x*x≤2) : -1≤x∧x≤1:=by
 constructor
 ·refine Decidable.byContradiction fun hn=>?_;have h1:(-x)*2≤(-x)*(-x):=ArG (by omega) (by omega)
  rw[Int.neg_mul_neg] at h1;omega
 ·refine Decidable.byContradiction fun hn=>?_;have h1:x*2≤x*x:=ArG (by omega) (by omega)
  omega
theorem JG (x:Int):0≤x*x:=by
 rcases Int.le_total 0 x with h | h
 ·exact ArW h h
 ·have:=ArW (show 0≤-x by omega) (show 0≤-x by omega)
  rwa [Int.neg_mul_neg] at this
theorem TB {f:Int} (h1:0≤f) (h2:f≤1) {v:Vc} (h:IH f v=1):(-1≤v.1∧v.1≤1)∧(-1≤v.2∧v.2≤1):=by
 unfold IH at h;have s1:=JG v.1;have s2:=JG v.2;have:f=0∨f=1:=by omega
 rcases this with rfl | rfl
 ·simp only[AsS,AsU] at h;exact⟨II (by omega),II (by omega)⟩
 ·simp only[AsH] at h;have s3:=JG (v.1+v.2);have e:(v.1+v.2)*(v.1+v.2)=v.1*v.1+2*(v.1*v.2)+v.2*v.2:=by
   rw[Asu,AsI,AsI,ArE v.2 v.1];omega
  exact⟨II (by omega),II (by omega)⟩
theorem AdC:∀ f∈[(0:Int),1],∀ a∈[(-1:Int),0,1],∀ b∈[(-1:Int),0,1],∀ c∈[(-1:Int),0,1],∀ d∈[(-1:Int),0,1],Mv f (a,b,c,d)=(pmS f).contains (a,b,c,d):=by decide +kernel
theorem Ahs {a:Int} (h : -1≤a∧a≤1):a∈[(-1:Int),0,1]:=by
 rcases OQ h with rfl | rfl | rfl<;>simp
theorem AdD {f:Int} (h1:0≤f) (h2:f≤1) (m:Mt):Mv f m=(pmS f).contains m:=by
 have hf:f∈[(0:Int),1]:=by
  have:f=0∨f=1:=by omega
  rcases this with rfl | rfl<;>simp
 by_cases hs:(-1≤m.1∧m.1≤1)∧(-1≤m.2.1∧m.2.1≤1)∧(-1≤m.2.2.1∧m.2.2.1≤1)∧(-1≤m.2.2.2∧m.2.2.2≤1)
 ·exact AdC f hf _ (Ahs hs.1) _ (Ahs hs.2.1) _ (Ahs hs.2.2.1) _ (Ahs hs.2.2.2)
 ·have e1:Mv f m=false:=by
   cases hk:Mv f m with
   | false=>rfl
   | true =>
    unfold Mv at hk;simp only[aT,beq_iff_eq] at hk;obtain⟨⟨k1,k2⟩,_⟩:=hk;have n1:=TB h1 h2 k1;have n2:=TB h1 h2 k2;exact absurd ⟨n1.1,n2.1,n1.2,n2.2⟩ hs
  have e2:(pmS f).contains m=false:=by
   cases hk:(pmS f).contains m with
   | false=>rfl
   | true =>
    rw[cM] at hk;have:=Ct (Ff hk);exact absurd ⟨this.a,this.b,this.c,this.d⟩ hs
  rw[e1,e2]
def Cr (v:Vc):Bool:=decide (-1000≤v.1∧v.1≤1000)&&decide (-1000≤v.2∧v.2≤1000)
theorem C2 {v:Vc}:Cr v=true↔(-1000≤v.1∧v.1≤1000)∧(-1000≤v.2∧v.2≤1000):=by
 unfold Cr;simp only[aT,dE]
theorem Fh (v:Vc):Mb KK v=some (Cr v):=by
 unfold Mb Cr;simp only[Tz,oB,oT,tO,cT];by_cases h : -1000≤v.1∧v.1≤1000<;>simp[h]
theorem TC (v:Vc):Acx KK v=some (Cr v):=by
 unfold Acx XU Cr;simp only[DU,oB,oT,tO,cT];by_cases h : -1000≤v.1∧v.1≤1000<;>simp[h]
theorem D4 {a b B:Int} (hB:0≤B) (h1 : -B≤a∧a≤B) (h2 : -B≤b∧b≤B) : -(B*B)≤a*b∧a*b≤B*B:=by
 have hh:(a*b).natAbs≤B.natAbs*B.natAbs:=by
  rw[ArX];exact Ati (by omega) (by omega)
 have e:((B.natAbs*B.natAbs:Nat):Int)=B*B:=by
  rw[ArP];have:(B.natAbs:Int)=B:=by omega
  rw[this]
 omega
theorem Gy {f:Int} (h1:0≤f) (h2:f≤1) {v:Vc} (hv:(-2000≤v.1∧v.1≤2000)∧(-2000≤v.2∧v.2≤2000)):Oa KK f v=some (IH f v):=by
 obtain⟨a1,a2⟩:=D4 (B:=2000) (by omega) hv.1 hv.1
 obtain⟨b1,b2⟩:=D4 (B:=2000) (by omega) hv.2 hv.2
 obtain⟨c1,c2⟩:=D4 (B:=2000) (by omega) hv.1 hv.2
 have hf:f=0∨f=1:=by omega
 unfold Oa IH;rcases hf with rfl | rfl
 ·rw[show (((0:Int)==1)=false) from rfl,cF,AD (n:=v.1*v.1) (by omega) (by omega),AD (n:=v.2*v.2) (by omega) (by omega),AD (by omega) (by omega)]
  simp
 ·rw[show (((1:Int)==1)=true) from rfl,cT,AD (n:=v.1*v.1) (by omega) (by omega),AD (n:=v.2*v.2) (by omega) (by omega),AD (n:=v.1*v.2) (by omega) (by omega),AD (n:=v.1*v.1+v.2*v.2) (by omega) (by omega),AD (by omega) (by omega),AsH]
  congr 1;omega
theorem TD {f:Int} (h1:0≤f) (h2:f≤1) {m:Mt} (ha : -1000≤m.1∧m.1≤1000) (hb : -1000≤m.2.1∧m.2.1≤1000) (hc : -1000≤m.2.2.1∧m.2.2.1≤1000) (hd : -1000≤m.2.2.2∧m.2.2.2≤1000):Si KK f m=some (Mv f m):=by
 unfold Si LX Mv;simp only[oT,tO,cT];rw[Gy h1 h2 (v:=(m.1,m.2.2.1)) ⟨by simp only;omega,by simp only;omega⟩,oB,AD (n:=m.1+m.2.1) (by omega) (by omega),AD (n:=m.2.2.1+m.2.2.2) (by omega) (by omega),AD (n:=2+f) (by omega) (by omega)]
 cases e1:(IH f (m.1,m.2.2.1)==1)
 ·rfl
 ·simp only[cT];rw[Gy h1 h2 (v:=(m.2.1,m.2.2.2)) ⟨by simp only;omega,by simp only;omega⟩,oB]
  cases e2:(IH f (m.2.1,m.2.2.2)==1)
  ·rfl
  ·simp only[cT,oB];rw[Gy h1 h2 (v:=(m.1+m.2.1,m.2.2.1+m.2.2.2)) ⟨by simp only;omega,by simp only;omega⟩]
   rfl
def JH (m:Mt):Bool:=Cr (m.1,m.2.1)&&Cr m.2.2
theorem QS (m:Mt):Xc KK m=some (JH m&&((HV m==1)||(HV m == -1))):=by
 unfold Xc Ab6 Xb JH;simp only[Fh,oB,oT,tO,cT];cases h1:Cr (m.1,m.2.1)
 ·rfl
 ·cases h2:Cr m.2.2
  ·simp[h2]
  ·rw[C2] at h1 h2;obtain⟨a1,a2⟩:=D4 (a:=m.1) (b:=m.2.2.2) (B:=1000) (by omega) h1.1 h2.2
   obtain⟨b1,b2⟩:=D4 (a:=m.2.1) (b:=m.2.2.1) (B:=1000) (by omega) h1.2 h2.1
   have e:w ((w (m.1*m.2.2.2))-(w (m.2.1*m.2.2.1)))=HV m:=by
    rw[AD (n:=m.1*m.2.2.2) (by omega) (by omega),AD (n:=m.2.1*m.2.2.1) (by omega) (by omega),AD (by omega) (by omega)]
    rfl
   have h2':Cr m.2.2=true:=C2.2 h2;simp only[h2',cT,oB,e,aS,AqK];cases h3:HV m==1<;>cases h4:HV m == -1<;>simp[h4]
theorem IJ (f:Int) (m:Mt):Xd KK f m=some (okF f&&(pmS f).contains m):=by
 unfold Xd;rw[Gx];simp only[oB,oT,tO,cT];cases hf:okF f
 ·rfl
 ·have hf':0≤f∧f≤1:=by simpa[okF] using hf
  simp only[cT,QS,oB,AqK];cases hm:(JH m&&((HV m==1)||(HV m == -1)))
  ·have:(pmS f).contains m=false:=by
    cases hk:(pmS f).contains m with
    | false=>rfl
    | true =>
     rw[cM] at hk;have h1:=Ct (Ff hk);have h2:=Adz (Ff hk);obtain⟨a,b,c,d⟩:=h1;have h3:JH m=true:=by
      unfold JH;rw[aT,C2,C2];simp only;omega
     have h4:((HV m==1)||(HV m == -1))=true:=by
      rw[ArQ,beq_iff_eq,beq_iff_eq];exact h2
     rw[h3,h4] at hm;cases hm
   rw[this];rfl
  ·have hm':=hm;unfold JH at hm';rw[aT,aT,C2,C2] at hm';obtain⟨⟨⟨h1,h2⟩,h3,h4⟩,_⟩:=hm';simp only[cT];rw[TD hf'.1 hf'.2 h1 h2 h3 h4,oB,AdD hf'.1 hf'.2]
theorem Mw (f:Int) (l:Lt) (m:Mt):(Ba f l).contains m=((pmS f).contains m&&CM l m):=by
 rw[Arz,aT,cM,cM];unfold Ba;rw[AqR]
def Kl (f:Int) (l:Lt) (m:Mo):Bool:=(Ba f l).contains m.1&&Cr m.2
theorem NJ (f:Int) (l:Lt) (m:Mo):Xe KK f l m=some (okF f&&okL l&&Kl f l m):=by
 unfold Xe;rw[CR];simp only[oB,oT,tO,cT];cases hc:(okF f&&okL l)
 ·rfl
 ·rw[aT] at hc;have hl:=Cn.1 hc.2;simp only[if_true,show (((0:Int)==0)=true) from rfl,cT,IJ,hc.1,AqK,oB]
  unfold Kl;rw[Mw];cases hp:(pmS f).contains m.1
  ·rfl
  ·have hp':=hp;rw[cM] at hp';have hmm:=Ff hp';simp only[cT,AqK];rw[Kh hl (m:=m.1) (Ct hmm),oB];have hst:=Tv hl hmm;generalize HU (stI (stI (0,0,0) (AW m.1 (l.1,0))) (AW m.1 l.2))=r at *;have hr:((r.1==l.1)&&((r.2.1==l.2.1)&&(r.2.2==l.2.2)))=CM l m.1:=by
    rw[Arz,← hst];simp only[aT,beq_iff_eq];rw[ArS,ArS]
   rw[hr];cases CM l m.1
   ·rfl
   ·simp only[cT,Fh,oB,AqK]
def Eh:List Int→List Int→Int
 | a :: r,b :: s=>bif a==b then Eh r s else (if a<b then -1 else 1)
 | _,_=>0
def ltL:List Int→List Int→Bool
 | a :: r,b :: s=>bif a==b then ltL r s else decide (a<b)
 | _,_=>false
theorem QT:∀ (a b:List Int),(decide (Eh a b≥0))=!ltL a b
 | [],_=>rfl
 | _ :: _,[]=>rfl
 | a :: r,b :: s=>by
  have ih:=QT r s;by_cases h:a=b
  ·subst h;simpa[Eh,ltL] using ih
  ·have h1:(a==b)=false:=by rw[bN];exact h
   simp only[Eh,ltL,h1,cF];by_cases h2:a<b<;>simp[h2]
theorem TE:∀ {a b:List Int} (c d:List Int),a.length=b.length→Eh (a++c) (b++d)=if Eh a b=0 then Eh c d else Eh a b
 | [],[],c,d,_=>by simp[Eh]
 | a :: r,b :: s,c,d,h=>by
  have ih:=TE (a:=r) (b:=s) c d (by simpa using h)
  by_cases h1:a=b
  ·subst h1;simpa[Eh] using ih
  ·have h2:(a==b)=false:=by rw[bN];exact h1
   simp only[Asi,Eh,h2,cF];by_cases h3:a<b<;>simp[h3]
theorem D5:∀ a:List Int,ltL a a=false
 | []=>rfl
 | a :: r=>by simp[ltL,D5 r]
theorem DV:∀ {a b c:List Int},ltL a b=true→ltL b c=true→ltL a c=true
 | [],_,_,h,_=>by simp[ltL] at h
 | _ :: _,[],_,h,_=>by simp[ltL] at h
 | _ :: _,_ :: _,[],_,h=>by simp[ltL] at h
 | a :: r,b :: s,c :: t,h,h'=>by
  simp only[ltL] at h h' ⊢;cases h1:a==b<;>rw[h1] at h<;>cases h2:b==c<;>rw[h2] at h'<;>simp only[cT,cF,dE] at h h'
  ·have:(a==c)=false:=by rw[bN];omega
   rw[this,cF,dE];omega
  ·have e2:=eq_of_beq h2;subst e2;rw[h1,cF,dE];exact h
  ·have e1:=eq_of_beq h1;subst e1;rw[h2,cF,dE];exact h'
  ·have e1:=eq_of_beq h1;subst e1;rw[h2,cT];exact DV h h'
theorem QU:∀ {a b:List Int},a.length=b.length→ltL a b=false→ltL b a=false→a=b
 | [],[],_,_,_=>rfl
 | a :: r,b :: s,hl,h,h'=>by
  simp only[ltL] at h h';cases h1:a==b
  ·have h2:(b==a)=false:=by rw[bN] at h1 ⊢;exact fun e=>h1 e.symm
   rw[h1,cF,decide_eq_false_iff_not] at h;rw[h2,cF,decide_eq_false_iff_not] at h';rw[bN] at h1;omega
  ·have e:=eq_of_beq h1;subst e;simp only[BEq.rfl,cT] at h h';rw[QU (by simpa using hl) h h']
theorem DK {a b:List Int} (hl:a.length=b.length) (hn:a.length≤1000):∀ n q,q≤a.length→a.length-q<n→K0 KK a b n (q:Int)=some (Eh (a.drop q) (b.drop q))
 | 0,q,_,h=>by omega
 | n+1,q,hq,h=>by
  show Qf KK a b (fun v0=>K0 KK a b n v0) (q:Int)=_;unfold Qf;by_cases hlt:q<a.length
  ·have hlt':q<b.length:=by omega
   rw[in1 hlt,in1 hlt',in0,gd hlt,gd hlt',dC hlt,dC hlt'];simp only[aS,cT,Eh];cases h1:a[q]==b[q]
   ·have:(a[q] != b[q])=true:=by simp[bne,h1]
    rw[this,cT,cF];by_cases h2:a[q]<b[q]<;>simp[h2]
   ·have:(a[q] != b[q])=false:=by simp[bne,h1]
    rw[this,cF,cT,Ak (by omega)]
    exact DK hl hn n (q+1) hlt (by omega)
  ·have e:q=a.length:=by omega
   subst e;rw[AS,cF,Ash];rfl
theorem En {a b:List Int} (hl:a.length=b.length) (hn:a.length≤1000):OB KK a b=some (Eh a b):=by
 unfold OB Va;have:=DK hl hn KK 0 (by omega) (by have:=FO (n:=a.length) (by omega);omega)
 simpa using this
def De (v:Vc):List Int:=[v.1,v.2]
def NK (m:Mt):List Int:=[m.1,m.2.1,m.2.2.1,m.2.2.2]
def Gz (m:Mo):List Int:=NK m.1++De m.2
def ltV (u v:Vc):Bool:=ltL (De u) (De v)
def ltM (m n:Mo):Bool:=ltL (Gz m) (Gz n)
theorem Aax {m n:Mo} (h:Gz m=Gz n):m=n:=by
 simp only[Gz,NK,De,Asi,AqM,Atg,and_true] at h;obtain⟨h1,h2,h3,h4,h5,h6⟩:=h;exact Prod.ext (Prod.ext h1 (Prod.ext h2 (Prod.ext h3 h4))) (Prod.ext h5 h6)
theorem AdE {m n:Vc} (h:De m=De n):m=n:=by
 simp only[De,Atg,and_true] at h;exact Prod.ext h.1 h.2
theorem GA (u v:Vc):Ke KK u v=some (Eh (De u) (De v)):=by
 unfold Ke;rw[En (by rfl) (by simp)]
 rfl
theorem IK (m n:Mo):XP KK m n=some (Eh (Gz m) (Gz n)):=by
 unfold XP Acr;rw[En (by rfl) (by simp),GA]
 simp only[oB];unfold Gz;rw[TE _ _ (by rfl)]
 unfold NK;generalize Eh [m.1.1,m.1.2.1,m.1.2.2.1,m.1.2.2.2] [n.1.1,n.1.2.1,n.1.2.2.1,n.1.2.2.2]=c;by_cases h:c=0
 ·simp[h]
 ·have:(c != 0)=true:=by simp[h]
  rw[this,if_neg h,cT]
theorem Mx (u v:Vc):Su KK u v=some (ltV u v):=by
 unfold Su
 try simp only[oT,tO,cT]
 simp only[ltV,De,ltL];congr 1;by_cases h1:u.1<v.1
 ·have:(u.1==v.1)=false:=by rw[bN];omega
  simp[h1,this]
 ·by_cases h2:u.1=v.1
  ·by_cases h3:u.2=v.2<;>simp[h2,h3]
  ·have:(u.1==v.1)=false:=by rw[bN];exact h2
   simp[h1,this]
theorem HI {a b:List Int} (hl:a.length=b.length) (hn:a.length≤1000):∀ n q,q≤a.length→a.length-q<n→L1 KK a b n (q:Int)=some (ltL (a.drop q) (b.drop q))
 | 0,q,_,h=>by omega
 | n+1,q,hq,h=>by
  show UT KK a b (fun v0=>L1 KK a b n v0) (q:Int)=_;unfold UT;simp only[oT,tO,cT];by_cases hlt:q<a.length
  ·have hlt':q<b.length:=by omega
   rw[in1 hlt,in1 hlt',in0,gd hlt,gd hlt',dC hlt,dC hlt'];simp only[aS,cT,ltL];cases h1:a[q]==b[q]
   ·have:(a[q] != b[q])=true:=by simp[bne,h1]
    rw[this,cT,cF]
   ·have:(a[q] != b[q])=false:=by simp[bne,h1]
    rw[this,cF,cT,Ak (by omega)]
    exact HI hl hn n (q+1) hlt (by omega)
  ·have e:q=a.length:=by omega
   subst e;rw[AS,cF,Ash,hl];simp[ltL]
theorem My (m n:Mo):Sw KK m n=some (ltM m n):=by
 unfold Sw Ab1 W6 Ago AbZ;simp only[oB];have h1:=HI (a:=NK m.1) (b:=NK n.1) rfl (by simp[NK]) KK 0 (by omega) (by have:=FO (n:=4) (by omega);simp[NK];omega)
 have h1':L1 KK [m.1.1,m.1.2.1,m.1.2.2.1,m.1.2.2.2] [n.1.1,n.1.2.1,n.1.2.2.1,n.1.2.2.2] KK 0=some (ltL (NK m.1) (NK n.1)):=h1;rw[h1',Mx];simp only[oB];unfold ltM Gz ltV NK;cases e1:m.1.1==n.1.1<;>cases e2:m.1.2.1==n.1.2.1<;>cases e3:m.1.2.2.1==n.1.2.2.1<;>cases e4:m.1.2.2.2==n.1.2.2.2<;>simp[ltL,e1,e2,e3,e4]
def Al (l:Lt) (v:Vc):Bool:=decide (0≤v.1∧v.1≤l.1-1)&&decide (0≤v.2∧v.2≤l.2.2-1)
theorem Bu {l:Lt} {v:Vc}:Al l v=true↔(0≤v.1∧v.1≤l.1-1)∧(0≤v.2∧v.2≤l.2.2-1):=by
 unfold Al;simp only[aT,dE]
theorem CV {l:Lt} (hl:IsL l) {v:Vc} (h:Al l v=true):AZ l v=v:=by
 obtain⟨⟨h1,h2⟩,h3,h4⟩:=Bu.1 h;unfold AZ;have e1:v.2 / l.2.2=0:=Int.ediv_eq_zero_of_lt h3 (by omega)
 have e2:v.2 % l.2.2=v.2:=Arx h3 (by omega)
 rw[e1,e2,AsS,Int.sub_zero,Arx h1 (by omega)]
theorem A5 {l:Lt} (hl:IsL l) (v:Vc):Al l (AZ l v)=true:=by
 obtain⟨h1,h2,h3,h4⟩:=Kf hl v;rw[Bu];omega
theorem Km {l:Lt} (hl:IsL l) {v:Vc} (h:Al l v=true):0≤v.1∧v.1≤63∧0≤v.2∧v.2≤63:=by
 obtain⟨⟨h1,h2⟩,h3,h4⟩:=Bu.1 h;have:=hl.a2;have:=hl.c2;omega
theorem D6 {l:Lt} (hl:IsL l) {v:Vc} (h:Al l v=true):Sv v:=by
 have:=Km hl h;simp only[Sv];omega
theorem OS {l:Lt} (hl:IsL l) {v:Vc} (h:Al l v=true):Cr v=true:=by
 have:=Km hl h;rw[C2];omega
theorem Aay {l:Lt} (hl:IsL l) (v:Vc):((AZ l v).1==v.1&&(AZ l v).2==v.2)=Al l v:=by
 cases h:Al l v with
 | true=>rw[CV hl h];simp
 | false =>
  cases h2:((AZ l v).1==v.1&&(AZ l v).2==v.2) with
  | false=>rfl
  | true =>
   rw[aT,beq_iff_eq,beq_iff_eq] at h2;have:AZ l v=v:=Prod.ext h2.1 h2.2;have h3:=A5 hl v;rw[this,h] at h3;cases h3
theorem TF {l:Lt} (hl:IsL l) (v:Vc):∃ r,Jz KK l v=some r∧(r.1==v.1&&r.2==v.2)=Al l v:=by
 cases h:Al l v with
 | true=>exact⟨_,CU hl (Adp (D6 hl h)),by rw[CV hl h];simp⟩
 | false =>
  unfold Jz;have h0:(l.2.2 != 0)=true:=by have:=hl.c1;simp;omega
  rw[QG hl.c1 (by have:=hl.c2;omega)]
  simp only[oB,h0,cT];rw[QG hl.a1 (by have:=hl.a2;omega)]
  refine⟨_,rfl,?_⟩;cases h2:((w (v.1-w (w ((w (v.2-v.2 % l.2.2)).tdiv l.2.2)*l.2.1))) % l.1==v.1&&v.2 % l.2.2==v.2) with
  | false=>rfl
  | true =>
   rw[aT,beq_iff_eq,beq_iff_eq] at h2;have hc:=hl.c1;have ha:=hl.a1;have b1:=ArO (w (v.1-w (w ((w (v.2-v.2 % l.2.2)).tdiv l.2.2)*l.2.1))) (show l.1≠0 by omega)
   have b2:=ArC (w (v.1-w (w ((w (v.2-v.2 % l.2.2)).tdiv l.2.2)*l.2.1))) (show 0<l.1 by omega)
   have b3:=ArO v.2 (show l.2.2≠0 by omega)
   have b4:=ArC v.2 (show 0<l.2.2 by omega)
   rw[h2.1] at b1 b2;rw[h2.2] at b3 b4;have:Al l v=true:=by rw[Bu];omega
   rw[h] at this;cases this
theorem D7 {α:Type} (p:α→Bool):∀ (l:List α) (q:Nat),decide (CK p q l≥0)=l.any p
 | [],_=>rfl
 | a :: l,q=>by
  have ih:=D7 p l (q+1);cases h:p a with
  | false=>simpa[CK,h] using ih
  | true=>simp[CK,h]
theorem ApR (m n:Mt):((m.1==n.1)&&((m.2.1==n.2.1)&&((m.2.2.1==n.2.2.1)&&(m.2.2.2==n.2.2.2))))=(m==n):=by
 rw[Arz];simp only[aT,beq_iff_eq,ArS]
theorem Ao1 (m n:Mo):((m.1.1==n.1.1)&&((m.1.2.1==n.1.2.1)&&((m.1.2.2.1==n.1.2.2.1)&&((m.1.2.2.2==n.1.2.2.2)&&((m.2.1==n.2.1)&&(m.2.2==n.2.2))))))=(m==n):=by
 rw[Arz];simp only[aT,beq_iff_eq,ArS,and_assoc]
theorem Mz {l:List Mt} (hn:l.length≤1000) (m:Mt):XM KK l m=some (l.contains m):=by
 have hidx:SX KK l m=some (CK (fun a=>m==a) 0 l):=by
  have h:=Dn (R:=Int) (body:=fun L x=>KZ KK l m (fun v0=>L v0) x) l (fun a=>m==a) some
   (fun L q hq=>by
    unfold KZ;rw[in1 hq,in0,gd hq];simp only[aS,cT];rw[ApR,Ak (by omega)])
   (fun L=>by
    unfold KZ;rw[AS,cF]) KK 0 (by omega) (by have:=FO (n:=l.length) (by omega);omega)
  unfold SX U9 Qe;exact h
 unfold XM;rw[hidx,oB,D7];congr 1;rw[Aso]
theorem MA {K:Sh} (hK:K.flat=true) {β:Type}:∀ (xs:List (K.T×β)) (k x:K.T) (v:β),B5 (A7 K) (FM (A7 K) xs k v) x=bif A7 K x k then some v else B5 (A7 K) xs x
 | [],k,x,v=>by simp[FM,B5]
 | p :: r,k,x,v=>by
  simp only[FM];cases h:A7 K k p.1
  ·simp only[cF,B5];rw[MA hK r k x v];cases h1:A7 K x p.1
   ·simp
   ·have e1:=(C9 K hK _ _).1 h1;cases h2:A7 K x k
    ·simp
    ·have e2:=(C9 K hK _ _).1 h2;have:A7 K k p.1=true:=(C9 K hK _ _).2 (e2.symm.trans e1);rw[h] at this;cases this
  ·have e:=(C9 K hK _ _).1 h;simp only[cT,B5,← e];cases A7 K x k<;>rfl
theorem MB {K:Sh} (hK:K.flat=true) [DecidableEq K.T]:∀ (l:List K.T) (xs:List (K.T×Bool)) (x:K.T),(B5 (A7 K) (l.foldl (fun s a=>FM (A7 K) s a true) xs) x).getD false=(decide (x∈l)||(B5 (A7 K) xs x).getD false)
 | [],xs,x=>by simp
 | a :: l,xs,x=>by
  rw[Aq8,MB hK l,MA hK];cases h:A7 K x a
  ·have:x≠a:=fun e=>by rw[(C9 K hK x a).2 e] at h;cases h
   simp[this]
  ·have:=(C9 K hK x a).1 h;simp[this]
abbrev QV:Sh:=.cons (.cons (.int .i64) (.cons (.int .i64) (.cons (.int .i64) (.int .i64)))) (.cons (.int .i64) (.int .i64))
def OT (g:List Mo):List (Mo×Bool):=g.foldl (fun s a=>FM (A7 QV) s a true) []
theorem MC (g:List Mo) (x:Mo):(B5 (A7 QV) (OT g) x).getD false=g.contains x:=by
 have h:=MB (K:=QV) rfl g [] x;refine Eq.trans h ?_;simp[B5,List.contains_eq_mem]
def mmS (m n:Mt):Mt:=(m.1*n.1+m.2.1*n.2.2.1,m.1*n.2.1+m.2.1*n.2.2.2,m.2.2.1*n.1+m.2.2.2*n.2.2.1,m.2.2.1*n.2.1+m.2.2.2*n.2.2.2)
def BS (l:Lt) (m n:Mo):Mo:=(mmS m.1 n.1,AZ l (BH m n.2))
theorem YU {m n:Mt} (hm:SmM m) (hn:SmM n):((w ((w (m.1*n.1))+(w (m.2.1*n.2.2.1)))),(w ((w (m.1*n.2.1))+(w (m.2.1*n.2.2.2)))),(w ((w (m.2.2.1*n.1))+(w (m.2.2.2*n.2.2.1)))),(w ((w (m.2.2.1*n.2.1))+(w (m.2.2.2*n.2.2.2)))))=mmS m n:=by
 obtain⟨a,b,c,d⟩:=hm;obtain⟨a',b',c',d'⟩:=hn;have h:∀ {x y:Int},(-1≤x∧x≤1)→(-1≤y∧y≤1)→-1≤x*y∧x*y≤1:=fun {x y} hx hy=>by
  have:=BB hx (B:=1) (x:=y) (by omega) (by omega) (by omega)
  omega
 have h1:=h a a';have h2:=h b c';have h3:=h a b';have h4:=h b d';have h5:=h c a';have h6:=h d c';have h7:=h c b';have h8:=h d d'
 unfold mmS;rw[AD (n:=m.1*n.1) (by omega) (by omega),AD (n:=m.2.1*n.2.2.1) (by omega) (by omega),AD (n:=m.1*n.2.1) (by omega) (by omega),AD (n:=m.2.1*n.2.2.2) (by omega) (by omega),AD (n:=m.2.2.1*n.1) (by omega) (by omega),AD (n:=m.2.2.2*n.2.2.1) (by omega) (by omega),AD (n:=m.2.2.1*n.2.1) (by omega) (by omega),AD (n:=m.2.2.2*n.2.2.2) (by omega) (by omega)]
 rw[AD (n:=m.1*n.1+m.2.1*n.2.2.1) (by omega) (by omega),AD (n:=m.1*n.2.1+m.2.1*n.2.2.2) (by omega) (by omega),AD (n:=m.2.2.1*n.1+m.2.2.2*n.2.2.1) (by omega) (by omega),AD (n:=m.2.2.1*n.2.1+m.2.2.2*n.2.2.2) (by omega) (by omega)]
def GB (m:Mo):Prop:=m.1∈pmQ++pmH∧Sv m.2
theorem TG {m:Mt×Vc} (hm:SmM m.1) {v:Vc} (hv:Sv v) (ht:Sv m.2):(w ((AW m.1 v).1+m.2.1),w ((AW m.1 v).2+m.2.2))=BH m v:=by
 obtain⟨h1,h2,h3,h4⟩:=Fd hm hv;obtain⟨t1,t2,t3,t4⟩:=ht;unfold BH;rw[AD (by omega) (by omega),AD (by omega) (by omega)]
theorem AdF {m n:Mo} (hm:GB m) (hn:GB n):XQ KK m n=some (mmS m.1 n.1,BH m n.2):=by
 unfold XQ Acu SZ;simp only[oB];rw[YU (Ct hm.1) (Ct hn.1),Em (Ct hm.1) hn.2];simp only[oB];rw[TG (Ct hm.1) hn.2 hm.2]
theorem HW {m n:Mo} (hm:GB m) (hn:GB n):St KK m n=some (mmS m.1 n.1,BH m n.2):=by
 unfold St AbX LX;simp only[oB];rw[YU (Ct hm.1) (Ct hn.1),El (Ct hm.1) hn.2];simp only[oB];rw[TG (Ct hm.1) hn.2 hm.2]
theorem KD {l:Lt} (hl:IsL l) {m:Mo} (hm:Sm m.2):XR KK l m=some (m.1,AZ l m.2):=by
 unfold XR;rw[CU hl hm];rfl
theorem CG {l:Lt} (hl:IsL l) {m:Mo} (hm:Sm m.2):Kc KK l m=some (m.1,AZ l m.2):=by
 unfold Kc;rw[CE hl hm];rfl
def dMo:Mo:=((0,0,0,0),0,0)
def uMo:Mo:=((1,0,0,1),0,0)
def IL (f:Int) (l:Lt) (g:List Mo) (q:Nat) (a:Mo):Bool:=(Ba f l).contains a.1&&(Al l a.2&&(Nat.beq q 0||ltM (g.getD (q-1) dMo) a))
def Dp (f:Int) (l:Lt) (g:List Mo):Bool:=CF (IL f l g) 0 g&&(g.contains uMo&&g.all fun m=>g.all fun n=>g.contains (BS l m n))
structure Pre (f:Int) (l:Lt) (g:List Mo):Prop where
 mem:∀ m∈g,m.1∈Ba f l∧Al l m.2=true
 up:∀ i (h:i+1<g.length),ltM g[i] g[i+1]=true
theorem VC {f:Int} {l:Lt} {g:List Mo} (h:CF (IL f l g) 0 g=true):Pre f l g:=by
 have hg:=Kj h;refine⟨fun m hm=>?_,fun i hi=>?_⟩
 ·obtain⟨i,hi,rfl⟩:=Aq7 hm;have:=hg i hi;unfold IL at this;rw[aT,aT,cM] at this;exact⟨this.1,this.2.1⟩
 ·have:=hg (i+1) hi;unfold IL at this;rw[aT,aT,ArQ] at this;rcases this.2.2 with h1 | h1
  ·have:=Aqm h1;omega
  ·have e:(0+(i+1)-1)=i:=by omega
   rw[e] at h1;simpa[List.getD,show i<g.length by omega] using h1
theorem Pre.lt {f:Int} {l:Lt} {g:List Mo} (h:Pre f l g):∀ (j i:Nat) (hj:j<g.length) (hi:i<j),ltM g[i] g[j]=true
 | 0,i,hj,hi=>by omega
 | j+1,i,hj,hi=>by
  by_cases e:i=j
  ·subst e;exact h.up i hj
  ·exact DV (h.lt j i (by omega) (by omega)) (h.up j hj)
theorem Pre.good {f:Int} {l:Lt} (hl:IsL l) {g:List Mo} (h:Pre f l g) {m:Mo} (hm:m∈g):GB m:=⟨Ms (h.mem m hm).1,D6 hl (h.mem m hm).2⟩
theorem Pre.nodup {f:Int} {l:Lt} {g:List Mo} (h:Pre f l g):g.Nodup:=by
 rw[List.Nodup,ArA];intro i j hi hj hij e;have:=h.lt j i hj hij;rw[e] at this;unfold ltM at this;rw[D5] at this;cases this
theorem JI {α:Type} [DecidableEq α]:∀ (l m:List α),l.Nodup→(∀ x∈l,x∈m)→l.length≤m.length
 | [],m,_,_=>Ari _
 | a :: l,m,hn,h=>by
  have ha:=h a (by simp)
  rw[Asq] at hn;have:=JI l (m.erase a) hn.2 fun x hx=>by
   have hne:x≠a:=fun e=>hn.1 (e▸hx);exact (List.mem_erase_of_ne hne).2 (h x (by simp[hx]))
  rw[As7 ha] at this;have:=Ar1 ha;simp only[Aq3];omega
theorem EQ {l:Lt} (hl:IsL l) {v:Vc} (h:Al l v=true):v∈Ab l:=by
 obtain⟨⟨h1,h2⟩,h3,h4⟩:=Bu.1 h;have:=hl.a1;have:=hl.c1;unfold Ab Mp;rw[ArL];refine⟨v.1.toNat,Asc.2 (by omega),AqG.2 ⟨v.2.toNat,Asc.2 (by omega),Prod.ext ?_ ?_⟩⟩<;>simp only<;>omega
theorem Pre.len {f:Int} {l:Lt} (hl:IsL l) {g:List Mo} (h:Pre f l g):g.length≤768:=by
 have:=JI g ((Ba f l).flatMap fun m=>(Ab l).map fun v=>(m,v)) h.nodup fun x hx=>by
  obtain⟨h1,h2⟩:=h.mem x hx;exact ArL.2 ⟨x.1,h1,AqG.2 ⟨x.2,EQ hl h2,rfl⟩⟩
 have h2:=Ki (fun m:Mt=>(Ab l).map fun v:Vc=>(m,v)) 64 (fun m=>by rw[AqD];exact Be hl) (Ba f l)
 have h3:=Tx f l;have:(Ba f l).length*64≤12*64:=Aq0 _ h3;omega
theorem QW (f:Int) (l:Lt):Xz KK f l=some (if okF f&&okL l then 0 else 1):=by
 unfold Xz;rw[Mu,IG];cases okF f<;>cases h:okL l<;>rfl
theorem Ao2 {g:List Mo} {q:Nat} (hq:q+1<4611686018427387904) (d:Mo):g.getD ((0:Int)+(w ((((q+1:Nat)):Int)-(1:Int)))).toNat d=g.getD q d:=by
 rw[AD (by omega) (by omega)]
 congr 1;omega
theorem inP {g:List Mo} {q:Nat} (hq:q+1<g.length) (h2:q+1<4611686018427387904):(decide (0≤(w (((q+1:Nat):Int)-(1:Int))))&&decide ((w (((q+1:Nat):Int)-(1:Int)))<(g.length:Int)))=true:=by
 rw[AD (by omega) (by omega),aT,dE,dE]
 omega
theorem AdG {f:Int} {l:Lt} (hl:IsL l) {g:List Mo} (hn:g.length≤1048576) {I:Int→List (Mo×Bool)→List Mt→Mt→Int→Option Bool} {L:Int→List (Mo×Bool)→Option Bool} {q:Nat} (hq:q<g.length) (s:List (Mo×Bool)) :
  Ek KK f l g (Ba f l) I L (q:Int) s=bif IL f l g q g[q] then L ((q+1:Nat):Int) (FM (A7 QV) s g[q] true) else some false:=by
 obtain⟨r,hr,hrc⟩:=TF hl g[q].2;unfold Ek;rw[in1 hq];simp only[cT,in0,aS,oT,tO,gd hq];rw[Mz (by have:=Tx f l;omega),oB]
 unfold IL;cases h1:(Ba f l).contains g[q].1
 ·simp only[nT,nF,cT,cF,oB,Asx,oT,tO]
 ·simp only[nT,nF,cT,cF,oB,AqK,hr,hrc];cases h2:Al l g[q].2
  ·simp only[nF,nT,Asx,tO,oT,cT,cF,oB]
  ·simp only[nF,nT,AqK];cases q with
   | zero =>
    have:decide (((0:Nat):Int)>0)=false:=by simp
    simp only[this,nF,tO,oT,cT,cF,oB];rfl
   | succ q =>
    have h3:decide (((q+1:Nat):Int)>0)=true:=by simp
    simp only[h3,nT,Arm,ArF,tO,oT,cT,cF,inP hq (by omega),Ao2 (g:=g) (q:=q) (by omega)]
    rw[IK,oB,QT,Ak (by omega)]
    have e:(q+1-1)=q:=rfl;rw[e];have e2:Nat.beq (q+1) 0=false:=rfl;rw[e2,Arm];unfold ltM dMo;cases ltL (Gz (g.getD q ((0,0,0,0),0,0))) (Gz g[q+1])<;>rfl
theorem Ao3 (m:Mo):((m.1.1,m.1.2.1,m.1.2.2),m.2)=m:=rfl
theorem Aaz {f:Int} {l:Lt} (hl:IsL l) (m:Mo):(Kl f l m&&Al l m.2)=((Ba f l).contains m.1&&Al l m.2):=by
 unfold Kl;cases h:Al l m.2 with
 | false=>simp
 | true=>rw[OS hl h];simp
theorem AaA {f:Int} {l:Lt} (hf:okF f=true) (hl:IsL l) {g:List Mo} (hn:g.length≤1048576) {c:Int} {I:Int→Int→Bool→Int→Option Bool} {L:Int→Option Bool} {q:Nat} (hq:q<g.length) :
  E7 KK f l g c I L (q:Int)=bif IL f l g q g[q] then L ((q+1:Nat):Int) else some false:=by
 have hsc:=Aaz (f:=f) hl g[q];have hp:IL f l g q g[q]=(Kl f l g[q]&&(Al l g[q].2&&(Nat.beq q 0||ltM (g.getD (q-1) dMo) g[q]))):=by
  unfold IL;rw[← Atj,← Atj,hsc]
 rw[hp];unfold E7;rw[in1 hq];simp only[cT,in0,aS,oT,tO,gd hq];rw[NJ,oB,hf,Cn.2 hl,Ao3];simp only[AqK,oT,tO,cT];cases h1:Kl f l g[q]
 ·simp only[nT,nF,cT,cF,oB,Asx,oT,tO]
 ·have hv:Cr g[q].2=true:=by
   unfold Kl at h1;rw[aT] at h1;exact h1.2
  have hS:Sm g[q].2:=by
   rw[C2] at hv;simp only[Sm];omega
  simp only[nT,nF,cT,cF];rw[CG hl (m:=g[q]) hS,oB];have hc:=Aay hl g[q].2;simp only[beq_self_eq_true,AqK,hc];cases h2:Al l g[q].2
  ·simp only[nF,nT,Asx,tO,oT,cT,cF,oB]
  ·simp only[nF,nT,AqK,oT,tO,cT];cases q with
   | zero =>
    have:decide (((0:Nat):Int)>0)=false:=by simp
    simp only[this,nF,tO,oT,cT,cF,oB];rfl
   | succ q =>
    have h3:decide (((q+1:Nat):Int)>0)=true:=by simp
    simp only[h3,nT,Arm,ArF,cT,cF,inP hq (by omega),Ao2 (g:=g) (q:=q) (by omega)]
    rw[My,oB,Ak (by omega)]
    have e:(q+1-1)=q:=rfl;rw[e];have e2:Nat.beq (q+1) 0=false:=rfl;rw[e2,Arm];unfold dMo;cases ltM (g.getD q ((0,0,0,0),0,0)) g[q+1]<;>rfl
theorem Fi {f:Int} {l:Lt} {g:List Mo} (hp:Pre f l g) (hn:g.length≤1048576) (m:Mo):∀ (n lo hi:Nat),lo≤hi→hi≤g.length→hi-lo<n→(∀ i (h:i<g.length),i<lo→ltM g[i] m=true)→(∀ i (h:i<g.length),hi≤i→ltM g[i] m=false) →
  ∃ p:Nat,G3 KK g m n (lo:Int) (hi:Int)=some (p:Int)∧p≤g.length∧(∀ i (h:i<g.length),i<p→ltM g[i] m=true)∧(∀ i (h:i<g.length),p≤i→ltM g[i] m=false)
 | 0,lo,hi,_,_,h,_,_=>by omega
 | n+1,lo,hi,hle,hhi,hd,h1,h2=>by
  show ∃ p:Nat,PY KK g m (fun v0 v1=>G3 KK g m n v0 v1) (lo:Int) (hi:Int)=_∧_;unfold PY;by_cases hlt:lo<hi
  ·have e1:w ((w ((lo:Int)+(hi:Int))).tdiv 2)=((((lo+hi) / 2:Nat)):Int):=by
    rw[AD (n:=(lo:Int)+(hi:Int)) (by omega) (by omega)]
    have:((lo:Int)+(hi:Int)).tdiv 2=(((lo+hi) / 2:Nat):Int):=by
     rw[AsX (by omega)]
     omega
    rw[this,AD (by omega) (by omega)]
   have hmid:(lo+hi) / 2<g.length:=by omega
   rw[in1 hlt,e1,in0,in1 hmid,gd hmid];simp only[aS,cT];rw[My,oB,Ak (by omega)]
   cases hc:ltM g[(lo+hi) / 2] m
   ·rw[cF];refine Fi hp hn m n lo ((lo+hi) / 2) (by omega) (by omega) (by omega) h1 fun i hi' hle'=>?_
    by_cases e:i=(lo+hi) / 2
    ·subst e;exact hc
    ·cases hx:ltM g[i] m with
     | false=>rfl
     | true =>
      have:=DV (hp.lt i ((lo+hi) / 2) hi' (by omega)) hx
      exact absurd (hc.symm.trans this) (by simp)
   ·rw[cT];refine Fi hp hn m n ((lo+hi) / 2+1) hi (by omega) hhi (by omega) (fun i hi' hle'=>?_) h2
    by_cases e:i=(lo+hi) / 2
    ·subst e;exact hc
    ·exact DV (hp.lt ((lo+hi) / 2) i hmid (by omega)) hc
  ·have e:lo=hi:=by omega
   subst e;rw[AS,cF];exact⟨lo,rfl,hhi,h1,h2⟩
theorem Hb {f:Int} {l:Lt} {g:List Mo} (hp:Pre f l g) (hn:g.length≤1048576) (m:Mo):Oh KK g m=some (g.contains m):=by
 obtain⟨p,h1,h2,h3,h4⟩:=Fi hp hn m KK 0 g.length (by omega) (by omega) (by simp only[KK];omega) (fun i _ h=>by omega) (fun i hi h=>by omega)
 unfold Oh Og PZ;simp only[show G3 KK g m KK (0:Int) (g.length:Int)=some (p:Int) from h1,oB,oT,tO,cT]
 by_cases hlt:p<g.length
 ·rw[in1 hlt,in0,gd hlt];simp only[nT,Arm,ArF,aS,cT];rw[Ao1];congr 1;rw[Arz,beq_iff_eq,cM];constructor
  ·intro e;rw[← e];exact gM hlt
  ·intro hm;obtain⟨j,hj,e⟩:=Aq7 hm;by_cases hjp:j<p
   ·have:=h3 j hj hjp;rw[e] at this;unfold ltM at this;rw[D5] at this;cases this
   ·by_cases e2:j=p
    ·subst e2;exact e
    ·have:=hp.lt j p hj (by omega)
     rw[e,h4 p hlt (Aqr _)] at this;cases this
 ·have hpe:p=g.length:=by omega
  subst hpe;rw[AS];simp only[nF,tO,oT,cT,cF];congr 1;cases hc:g.contains m with
  | false=>rfl
  | true =>
   rw[cM] at hc;obtain⟨j,hj,e⟩:=Aq7 hc;have:=h3 j hj hj;rw[e] at this;unfold ltM at this;rw[D5] at this;cases this
theorem Ama {f:Int} {l:Lt} (hl:IsL l) {g:List Mo} (hp:Pre f l g) (hn:g.length≤1048576) {c:Int} {ms:List Mt} {L:Int→Option Bool} {x:Nat} (hx:x<g.length) :
  Gp KK f l g c (OT g) (x:Int) ms Un L KK 0=bif g.all fun n=>g.contains (BS l g[x] n) then L ((x+1:Nat):Int) else some false:=by
 have h:=BA (X:=Int) (body:=fun L23 z=>Iq KK f l g c (OT g) (x:Int) ms Un L (fun v0=>L23 v0) z) g (fun q=>(q:Int)) (fun n=>g.contains (BS l g[x] n)) (some false) (L ((x+1:Nat):Int))
  (fun L23 q hq=>by
   have g1:=hp.good hl (gM hx);have g2:=hp.good hl (gM hq);unfold Iq;rw[in1 hq,in0,gd hx,gd hq];simp only[aS,cT];rw[AdF g1 g2,oB,KD hl (m:=(mmS g[x].1 g[q].1,BH g[x] g[q].2)) (Fe (Ct g1.1) g2.2 g1.2),oB,Ak (by omega)]
   have:=MC g (BS l g[x] g[q]);rw[show (B5 (A7 QV) (OT g) (mmS g[x].1 g[q].1,AZ l (BH g[x] g[q].2))).getD false=g.contains (BS l g[x] g[q]) from this]
   cases g.contains (BS l g[x] g[q])<;>rfl)
  (fun L23=>by
   unfold Iq;rw[AS,cF,Ak (by omega)]) KK 0 (by omega) (by simp only[KK];omega)
 unfold Gp;exact h
theorem VD {f:Int} {l:Lt} (hf:okF f=true) (hl:IsL l) {g:List Mo} (hn:g.length≤1048576):S0 KK f l g=some (Dp f l g):=by
 have hf':0≤f∧f≤1:=by simpa[okF] using hf
 unfold S0 Vb;rw[Mr hf'.1 hf'.2 hl,oB];have h:=JF (X:=Int×List (Mo×Bool)) (body:=fun L6 z=>Ek KK f l g (Ba f l) (fun c0 c1 c2 c3 d0=>Gr KK f l g c0 c1 c2 c3 KK d0) (fun v0 v1=>L6 (v0,v1)) z.1 z.2) g (fun q s=>((q:Int),s)) (IL f l g) (fun s a=>FM (A7 QV) s a true) (some false)
  (fun s=>Ek KK f l g (Ba f l) (fun c0 c1 c2 c3 d0=>Gr KK f l g c0 c1 c2 c3 KK d0) (fun _ _=>none) (g.length:Int) s) (fun q s=>True)
  (fun L6 q s hq _=>⟨fun _=>trivial,AdG hl hn hq s⟩)
  (fun L6 s _=>by
   unfold Ek;rw[AS,cF,cF]) KK 0 [] (by omega) (by simp only[KK];omega) trivial
 unfold Qg;refine Eq.trans h ?_;simp only[Aqq];unfold Dp;cases hpre:CF (IL f l g) 0 g
 ·rfl
 ·have hp:=VC hpre;simp only[cT,AqK];unfold Ek Acs;rw[AS,cF];simp only[oB];have h2:=MC g uMo;rw[show (B5 (A7 QV) (g.foldl (fun s a=>FM (A7 QV) s a true) []) ((1,0,0,1),0,0)).getD false=g.contains uMo from h2]
  cases g.contains uMo
  ·rfl
  ·simp only[nT,cF,AqK];have h3:=BA (X:=Int) (body:=fun L21 z=>Gq KK f l g (g.length:Int) (OT g) (Ba f l) Un (fun c0 d0=>Gp KK f l g (g.length:Int) (OT g) c0 (Ba f l) Un (fun v0=>L21 v0) KK d0) (fun v0=>L21 v0) z) g (fun q=>(q:Int)) (fun m=>g.all fun n=>g.contains (BS l m n)) (some false) (some true)
    (fun L21 q hq=>by
     unfold Gq;rw[in1 hq,in0];simp only[aS,cT];exact Ama hl hp hn hq)
    (fun L21=>by
     unfold Gq;rw[AS,cF]) KK 0 (by omega) (by simp only[KK];omega)
   unfold Gr;refine Eq.trans h3 ?_;rw[Aqq];cases g.all fun m=>g.all fun n=>g.contains (BS l m n)<;>rfl
theorem Aht {f:Int} {l:Lt} (hl:IsL l) {g:List Mo} (hp:Pre f l g) (hn:g.length≤1048576) {c c':Int} {b:Bool} {L:Int→Option Bool} {x:Nat} (hx:x<g.length) :
  Il KK f l g c (x:Int) c' b L KK 0=bif g.all fun n=>g.contains (BS l g[x] n) then L ((x+1:Nat):Int) else some false:=by
 have h:=BA (X:=Int) (body:=fun L23 z=>KQ KK f l g c (x:Int) c' b L (fun v0=>L23 v0) z) g (fun q=>(q:Int)) (fun n=>g.contains (BS l g[x] n)) (some false) (L ((x+1:Nat):Int))
  (fun L23 q hq=>by
   have g1:=hp.good hl (gM hx);have g2:=hp.good hl (gM hq);unfold KQ;rw[in1 hq,in1 hx,in0,in0,gd hx,gd hq];simp only[aS,cT];rw[HW g1 g2,oB,CG hl (m:=(mmS g[x].1 g[q].1,BH g[x] g[q].2)) (Fe (Ct g1.1) g2.2 g1.2),oB,Hb hp hn,oB,Ak (by omega)]
   rw[show g.contains (mmS g[x].1 g[q].1,AZ l (BH g[x] g[q].2))=g.contains (BS l g[x] g[q]) from rfl]
   cases g.contains (BS l g[x] g[q])<;>rfl)
  (fun L23=>by
   unfold KQ;rw[AS,cF,Ak (by omega)]) KK 0 (by omega) (by simp only[KK];omega)
 unfold Il;exact h
theorem GC (f:Int) (l:Lt) {g:List Mo} (hn:g.length≤1048576):Z4 KK f l g=some (okF f&&okL l&&Dp f l g):=by
 unfold Z4 Ab7;rw[CR];simp only[oB,oT,tO,cT];cases hc:(okF f&&okL l)
 ·rfl
 ·rw[aT] at hc;have hf:=hc.1;have hl:=Cn.1 hc.2;have h:=JF (X:=Int) (S:=Unit) (body:=fun L6 z=>E7 KK f l g 0 (fun c0 c1 c2 d0=>G4 KK f l g c0 c1 c2 KK d0) (fun v0=>L6 v0) z) g (fun q s=>(q:Int)) (IL f l g) (fun s a=>s) (some false)
   (fun s=>E7 KK f l g 0 (fun c0 c1 c2 d0=>G4 KK f l g c0 c1 c2 KK d0) (fun _=>none) (g.length:Int)) (fun q s=>True)
   (fun L6 q s hq _=>⟨fun _=>trivial,AaA hf hl hn hq⟩)
   (fun L6 s _=>by
    unfold E7;rw[AS,cF,cF]) KK 0 () (by omega) (by simp only[KK];omega) trivial
  have hgr:(bif decide ((g.length:Int)>768) then some false else P1 KK f l g 0 KK 0)=some (Dp f l g):=by
   unfold P1;rw[show AH (X:=Int) (fun L x=>(fun L6=>E7 KK f l g 0 (fun c0 c1 c2 d0=>G4 KK f l g c0 c1 c2 KK d0) L6 x) (fun v0=>L v0)) KK 0=_ from h]
   simp only[Aqq];unfold Dp;cases hpre:CF (IL f l g) 0 g
   ·simp only[cF,Asx];cases decide ((g.length:Int)>768)<;>rfl
   ·have hp:=VC hpre;have hle:=hp.len hl;have:decide ((g.length:Int)>768)=false:=by simp;omega
    rw[this];simp only[cT,cF,AqK];unfold E7 Ss Sf;rw[AS,cF];simp only[oB];rw[Hb hp hn,oB];rw[show g.contains ((1,0,0,1),0,0)=g.contains uMo from rfl]
    cases g.contains uMo
    ·rfl
    ·simp only[nT,cF,AqK];have h3:=BA (X:=Int) (body:=fun L21 z=>Im KK f l g (g.length:Int) 0 true (fun c0 d0=>Il KK f l g (g.length:Int) c0 0 true (fun v0=>L21 v0) KK d0) (fun v0=>L21 v0) z) g (fun q=>(q:Int)) (fun m=>g.all fun n=>g.contains (BS l m n)) (some false) (some true)
      (fun L21 q hq=>by
       unfold Im;rw[in1 hq];simp only[cT];exact Aht hl hp hn hq)
      (fun L21=>by
       unfold Im;rw[AS,cF]) KK 0 (by omega) (by simp only[KK];omega)
     unfold G4;refine Eq.trans h3 ?_;rw[Aqq];cases g.all fun m=>g.all fun n=>g.contains (BS l m n)<;>rfl
  simp only[if_true,show (((0:Int) != 0)=false) from rfl,cF,AqK]
  exact hgr
def TH (f:Int) (l:Lt) (g:List Mo):Int:=if okF f&&okL l then (if Dp f l g then 0 else 2) else 1
theorem IM (f:Int) (l:Lt) {g:List Mo} (hn:g.length≤1048576):Mg KK f l [g]=some (TH f l g):=by
 unfold Mg Vd TH;rw[QW,oB];cases hc:(okF f&&okL l)
 ·rfl
 ·rw[aT] at hc;simp only[if_true,show (((0:Int) != 0)=false) from rfl,cF]
  unfold Qi;show Qh KK f l [g] 0 _ (0:Int)=_;unfold Qh;simp only[show decide ((0:Int)<(([g]:List (List Mo)).length:Int))=true from rfl,show decide ((0:Int)≤0)=true from rfl,aS,cT]
  rw[show ([g]:List (List Mo)).getD ((0:Int)+0).toNat []=g from rfl,VD hc.1 (Cn.1 hc.2) hn,oB]
  cases Dp f l g
  ·rfl
  ·rfl
theorem VE (f:Int) (l:Lt) {g:List Mo} (hn:g.length≤1048576) (b:Bool):AcW KK f l g b=some (if okF f&&okL l then (if b&&Dp f l g then 0 else 2) else 1):=by
 unfold AcW AcV;simp only[oT,tO,cT,CR,oB];cases b
 ·simp only[cF,oB];cases okF f&&okL l<;>rfl
 ·simp only[cT,GC f l hn,oB];cases okF f&&okL l<;>cases Dp f l g<;>rfl
def Ao4 (t:List Vc) (q:Nat) (v:Vc):Bool:=Cr v&&(Nat.beq q 0||ltV (t.getD (q-1) (0,0)) v)
def Ao5 (t:List Vc):Bool:=CF (Ao4 t) 0 t&&(decide (1≤t.length)&&decide (t.length≤16))
def Ap1 (f:Int) (l:Lt) (g:List Mo) (t:List Vc):Int:=if okF f&&okL l&&Ao5 t then (if Dp f l g then 0 else 2) else 1
structure Ap2 (f:Int) (l:Lt) (g:List Mo) (t:List Vc):Prop where
 fr:okF f=true
 la:IsL l
 pr:Pre f l g
 vec:∀ v∈t,Cr v=true
 t1:1≤t.length
 t2:t.length≤16
theorem Ahu {v:Vc} (h:Cr v=true):Sv v:=by
 rw[C2] at h;simp only[Sv];omega
def mvS (l:Lt) (m:Mo) (v:Vc):Vc:=AZ l (BH m v)
theorem TI {l:Lt} (hl:IsL l) {m:Mo} (hm:GB m) {v:Vc} (hv:Sv v):Xi KK l m v=some (mvS l m v):=by
 unfold Xi;rw[Tp (Ct hm.1) hv hm.2,oB,CE hl (Fe (Ct hm.1) hv hm.2)];rfl
theorem AdH {l:Lt} (hl:IsL l) {m:Mo} (hm:GB m) {v:Vc} (hv:Sv v):X0 KK l m v=some (mvS l m v):=by
 unfold X0;rw[Kg (Ct hm.1) hv hm.2,oB,CU hl (Fe (Ct hm.1) hv hm.2)];rfl
def Ao6 (l:Lt) (g:List Mo) (t:List Vc):List (List Vc):=g.map fun m=>t.map (mvS l m)
theorem HX {n:Nat} (h:n≤1000000):Nat.ble n (lim 24)=true:=by
 simp only[lim,ArB];omega
def Ao7 (i:Int):List Nat→List Int→Option (List Int)
 | [],o=>some o
 | n :: r,o=>bif decide (o.getD n 0≥0) then none else Ao7 i r (o.set n i)
def ApS:List (List Nat)→Nat→List Int→Option (List Int)
 | [],_,o=>some o
 | c :: r,i,o=>match Ao7 (i:Int) c o with | some o'=>ApS r (i+1) o' | none=>none
def ApT:List (List Nat)→Nat→Nat→Option Nat
 | [],_,_=>none
 | c :: r,i,k=>if k∈c then some i else ApT r (i+1) k
theorem TJ {α:Type} [DecidableEq α] (l m:List α) (hm:m.Nodup) (h1:∀ x∈m,x∈l) (h2:l.length≤m.length):∀ x∈l,x∈m:=fun x hx=>by
 refine Decidable.byContradiction fun hn=>?_;have:=JI m (l.erase x) hm fun y hy=>(List.mem_erase_of_ne (fun (e:y=x)=>hn (e▸hy))).2 (h1 y hy);rw[As7 hx] at this;have:=Ar1 hx;omega
abbrev shV:Sh:=.cons (.int .i64) (.int .i64)
def Aqi (xs:List (Vc×Bool)) (vs:List Vc):List (Vc×Bool):=vs.foldl (fun s a=>FM (A7 shV) s a true) xs
def AdI (l:Lt) (g:List Mo) (t:List Vc):Prop:=(Ao6 l g t).flatten.Nodup∧∀ v∈Ab l,v∈(Ao6 l g t).flatten
instance (l:Lt) (g:List Mo) (t:List Vc):Decidable (AdI l g t):=by unfold AdI;infer_instance
theorem QX {l:Lt} (hl:IsL l):(Ab l).Nodup:=by
 rw[List.Nodup,ArA];intro i j hi hj hij e;have h1:=Bb hl hi;have h2:=Bb hl hj;rw[e,h2] at h1;omega
theorem AdJ {l:Lt} (hl:IsL l):w (l.1*l.2.2)=((Ab l).length:Int):=by
 rw[D2 hl,Ll hl];have:=hl.ix;have:0≤l.1*l.2.2:=ArW (by have:=hl.a1;omega) (by have:=hl.c1;omega)
 exact AD (by omega) (by omega)
theorem QY {l:Lt} (hl:IsL l) {v:Vc} (hv:Al l v=true):KC KK l v=some ((AY l v:Nat):Int):=by
 unfold KC;rw[CE hl (Adp (D6 hl hv)),oB,(EN hl v).1]
theorem BX {l:Lt} (hl:IsL l) (v:Vc):AY l v<(Ab l).length:=by
 have h1:=(EN hl v).2;rw[D2 hl];have:=Ll hl;omega
def cnS (l:Lt) (C:List (List Vc)):List (List Nat):=C.map fun c=>c.map (AY l)
theorem YV {l:Lt} (hl:IsL l) {u v:Vc} (hu:Al l u=true) (hv:Al l v=true) (h:AY l u=AY l v):u=v:=by
 obtain⟨i,hi,e1⟩:=Aq7 (EQ hl hu);obtain⟨j,hj,e2⟩:=Aq7 (EQ hl hv);have h1:=Bb hl hi;have h2:=Bb hl hj;rw[e1] at h1;rw[e2] at h2;have:i=j:=by omega
 subst this;rw[← e1,← e2]
end Go.Proofs.YteheolldcpjkcaaGreat.X
