/- Plain facts: point matrices, suitable motions, the order of motions. -/
import Derived.Test.YteheolldcpjkcaaGreatQtMA
namespace Go.Proofs.YteheolldcpjkcaaGreat.X
open Go
set_option linter.unusedSimpArgs false
attribute [local instance] cwD
set_option linter.unusedVariables false
def Co {α:Type} (p:Nat→α→Bool):Nat→List α→Bool
 | _,[]=>true
 | q,a :: r=>p q a&&Co p (q+1) r
theorem Hq {X R S α:Type} {body:(X→Option R)→X→Option R} (l:List α) (fr:Nat→S→X) (p:Nat→α→Bool) (Ey:S→α→S) (no:Option R) (fin:S→Option R) (inv:Nat→S→Prop)
  (h1:∀ L q s (hq:q<l.length),inv q s→(p q l[q]=true→inv (q+1) (Ey s l[q]))∧body L (fr q s)=bif p q l[q] then L (fr (q+1) (Ey s l[q])) else no)
  (h2:∀ L s,inv l.length s→body L (fr l.length s)=fin s):∀ n q s,q≤l.length→l.length-q<n→inv q s→AL body n (fr q s)=bif Co p q (l.drop q) then fin ((l.drop q).foldl Ey s) else no
 | 0,q,s,_,hn,_=>by omega
 | n+1,q,s,hq,hn,hi=>by
  show body (AL body n) (fr q s)=_;by_cases hlt:q<l.length
  ·obtain⟨h3,h4⟩:=h1 (AL body n) q s hlt hi;rw[h4,dC hlt];simp only[Co,Ajt];cases hp:p q l[q]
   ·simp
   ·rw[cT,Hq l fr p Ey no fin inv h1 h2 n (q+1) _ hlt (by omega) (h3 hp),Ai5]
  ·have:q=l.length:=by omega
   subst this;rw[h2 _ _ hi];simp[Co]
theorem H0 {α:Type} {p:Nat→α→Bool}:∀ {l:List α} {q:Nat},Co p q l=true→∀ i (hi:i<l.length),p (q+i) l[i]=true
 | [],_,_,i,hi=>by simp at hi
 | a :: l,q,h,i,hi=>by
  simp only[Co,aT] at h;cases i with
  | zero=>exact h.1
  | succ i =>
   have:=H0 h.2 i (by simpa using hi)
   rw[show q+(i+1)=q+1+i by omega]
   exact this
def GM (f:Int) (v:Vc):Int:=v.1*v.1+f*v.1*v.2+v.2*v.2
def JF (f:Int) (m:Mt):Bool:=(GM f (m.1,m.2.2.1)==1)&&(GM f (m.2.1,m.2.2.2)==1)&&(GM f (m.1+m.2.1,m.2.2.1+m.2.2.2)==2+f)
theorem GN {x:Int} (h:x*x≤2) : -1≤x∧x≤1:=by
 constructor
 ·refine Decidable.byContradiction fun hn=>?_;have h1:(-x)*2≤(-x)*(-x):=AjR (by omega) (by omega)
  rw[Int.neg_mul_neg] at h1;omega
 ·refine Decidable.byContradiction fun hn=>?_;have h1:x*2≤x*x:=AjR (by omega) (by omega)
  omega
theorem Hr (x:Int):0≤x*x:=by
 rcases Int.le_total 0 x with h | h
 ·exact Aj9 h h
 ·have:=Aj9 (show 0≤-x by omega) (show 0≤-x by omega)
  rwa [Int.neg_mul_neg] at this
theorem Pk {f:Int} (h1:0≤f) (h2:f≤1) {v:Vc} (h:GM f v=1):(-1≤v.1∧v.1≤1)∧(-1≤v.2∧v.2≤1):=by
 unfold GM at h;have s1:=Hr v.1;have s2:=Hr v.2;have:f=0∨f=1:=by omega
 rcases this with rfl | rfl
 ·simp only[Ak7,Ak9] at h;exact⟨GN (by omega),GN (by omega)⟩
 ·simp only[AkX] at h;have s3:=Hr (v.1+v.2);have e:(v.1+v.2)*(v.1+v.2)=v.1*v.1+2*(v.1*v.2)+v.2*v.2:=by
   rw[AkI,AkY,AkY,AjP v.2 v.1];omega
  exact⟨GN (by omega),GN (by omega)⟩
theorem XP:∀ f∈[(0:Int),1],∀ a∈[(-1:Int),0,1],∀ b∈[(-1:Int),0,1],∀ c∈[(-1:Int),0,1],∀ d∈[(-1:Int),0,1],JF f (a,b,c,d)=(pmS f).contains (a,b,c,d):=by decide +kernel
theorem AaA {a:Int} (h : -1≤a∧a≤1):a∈[(-1:Int),0,1]:=by
 rcases Lv h with rfl | rfl | rfl<;>simp
theorem XQ {f:Int} (h1:0≤f) (h2:f≤1) (m:Mt):JF f m=(pmS f).contains m:=by
 have hf:f∈[(0:Int),1]:=by
  have:f=0∨f=1:=by omega
  rcases this with rfl | rfl<;>simp
 by_cases hs:(-1≤m.1∧m.1≤1)∧(-1≤m.2.1∧m.2.1≤1)∧(-1≤m.2.2.1∧m.2.2.1≤1)∧(-1≤m.2.2.2∧m.2.2.2≤1)
 ·exact XP f hf _ (AaA hs.1) _ (AaA hs.2.1) _ (AaA hs.2.2.1) _ (AaA hs.2.2.2)
 ·have e1:JF f m=false:=by
   cases hk:JF f m with
   | false=>rfl
   | true =>
    unfold JF at hk;simp only[aT,beq_iff_eq] at hk;obtain⟨⟨k1,k2⟩,_⟩:=hk;have n1:=Pk h1 h2 k1;have n2:=Pk h1 h2 k2;exact absurd ⟨n1.1,n2.1,n1.2,n2.2⟩ hs
  have e2:(pmS f).contains m=false:=by
   cases hk:(pmS f).contains m with
   | false=>rfl
   | true =>
    rw[cM] at hk;have:=Cn (Ft hk);exact absurd ⟨this.a,this.b,this.c,this.d⟩ hs
  rw[e1,e2]
def C1 (v:Vc):Bool:=decide (-1000≤v.1∧v.1≤1000)&&decide (-1000≤v.2∧v.2≤1000)
theorem Cq {v:Vc}:C1 v=true↔(-1000≤v.1∧v.1≤1000)∧(-1000≤v.2∧v.2≤1000):=by
 unfold C1;simp only[aT,dE]
theorem Ec (v:Vc):Jl KK v=some (C1 v):=by
 unfold Jl C1;simp only[XO,oB,oT,tO,cT];by_cases h : -1000≤v.1∧v.1≤1000<;>simp[h]
theorem XR (v:Vc):Z7 KK v=some (C1 v):=by
 unfold Z7 Tt C1;simp only[Fu,oB,oT,tO,cT];by_cases h : -1000≤v.1∧v.1≤1000<;>simp[h]
theorem Da {a b B:Int} (hB:0≤B) (h1 : -B≤a∧a≤B) (h2 : -B≤b∧b≤B) : -(B*B)≤a*b∧a*b≤B*B:=by
 have hh:(a*b).natAbs≤B.natAbs*B.natAbs:=by
  rw[Aka];exact Alb (by omega) (by omega)
 have e:((B.natAbs*B.natAbs:Nat):Int)=B*B:=by
  rw[Aki];have:(B.natAbs:Int)=B:=by omega
  rw[this]
 omega
theorem EX {f:Int} (h1:0≤f) (h2:f≤1) {v:Vc} (hv:(-2000≤v.1∧v.1≤2000)∧(-2000≤v.2∧v.2≤2000)):La KK f v=some (GM f v):=by
 obtain⟨a1,a2⟩:=Da (B:=2000) (by omega) hv.1 hv.1
 obtain⟨b1,b2⟩:=Da (B:=2000) (by omega) hv.2 hv.2
 obtain⟨c1,c2⟩:=Da (B:=2000) (by omega) hv.1 hv.2
 have hf:f=0∨f=1:=by omega
 unfold La GM;rcases hf with rfl | rfl
 ·rw[show (((0:Int)==1)=false) from rfl,cF,Az (n:=v.1*v.1) (by omega) (by omega),Az (n:=v.2*v.2) (by omega) (by omega),Az (by omega) (by omega)]
  simp
 ·rw[show (((1:Int)==1)=true) from rfl,cT,Az (n:=v.1*v.1) (by omega) (by omega),Az (n:=v.2*v.2) (by omega) (by omega),Az (n:=v.1*v.2) (by omega) (by omega),Az (n:=v.1*v.1+v.2*v.2) (by omega) (by omega),Az (by omega) (by omega),AkX]
  congr 1;omega
theorem Pl {f:Int} (h1:0≤f) (h2:f≤1) {m:Mt} (ha : -1000≤m.1∧m.1≤1000) (hb : -1000≤m.2.1∧m.2.1≤1000) (hc : -1000≤m.2.2.1∧m.2.2.1≤1000) (hd : -1000≤m.2.2.2∧m.2.2.2≤1000):SG KK f m=some (JF f m):=by
 unfold SG Jm JF;simp only[oT,tO,cT];rw[EX h1 h2 (v:=(m.1,m.2.2.1)) ⟨by simp only;omega,by simp only;omega⟩,oB,Az (n:=m.1+m.2.1) (by omega) (by omega),Az (n:=m.2.2.1+m.2.2.2) (by omega) (by omega),Az (n:=2+f) (by omega) (by omega)]
 cases e1:(GM f (m.1,m.2.2.1)==1)
 ·rfl
 ·simp only[cT];rw[EX h1 h2 (v:=(m.2.1,m.2.2.2)) ⟨by simp only;omega,by simp only;omega⟩,oB]
  cases e2:(GM f (m.2.1,m.2.2.2)==1)
  ·rfl
  ·simp only[cT,oB];rw[EX h1 h2 (v:=(m.1+m.2.1,m.2.2.1+m.2.2.2)) ⟨by simp only;omega,by simp only;omega⟩]
   rfl
def Ht (m:Mt):Bool:=C1 (m.1,m.2.1)&&C1 m.2.2
theorem Ns (m:Mt):SD KK m=some (Ht m&&((F3 m==1)||(F3 m == -1))):=by
 unfold SD We SC Ht;simp only[Ec,oB,oT,tO,cT];cases h1:C1 (m.1,m.2.1)
 ·rfl
 ·cases h2:C1 m.2.2
  ·simp[h2]
  ·rw[Cq] at h1 h2;obtain⟨a1,a2⟩:=Da (a:=m.1) (b:=m.2.2.2) (B:=1000) (by omega) h1.1 h2.2
   obtain⟨b1,b2⟩:=Da (a:=m.2.1) (b:=m.2.2.1) (B:=1000) (by omega) h1.2 h2.1
   have e:w ((w (m.1*m.2.2.2))-(w (m.2.1*m.2.2.1)))=F3 m:=by
    rw[Az (n:=m.1*m.2.2.2) (by omega) (by omega),Az (n:=m.2.1*m.2.2.1) (by omega) (by omega),Az (by omega) (by omega)]
    rfl
   have h2':C1 m.2.2=true:=Cq.2 h2;simp only[h2',cT,oB,e,aS,Ai5];cases h3:F3 m==1<;>cases h4:F3 m == -1<;>simp[h4]
theorem GO (f:Int) (m:Mt):SH KK f m=some (okF f&&(pmS f).contains m):=by
 unfold SH;rw[EW];simp only[oB,oT,tO,cT];cases hf:okF f
 ·rfl
 ·have hf':0≤f∧f≤1:=by simpa[okF] using hf
  simp only[cT,Ns,oB,Ai5];cases hm:(Ht m&&((F3 m==1)||(F3 m == -1)))
  ·have:(pmS f).contains m=false:=by
    cases hk:(pmS f).contains m with
    | false=>rfl
    | true =>
     rw[cM] at hk;have h1:=Cn (Ft hk);have h2:=XK (Ft hk);obtain⟨a,b,c,d⟩:=h1;have h3:Ht m=true:=by
      unfold Ht;rw[aT,Cq,Cq];simp only;omega
     have h4:((F3 m==1)||(F3 m == -1))=true:=by
      rw[Aj5,beq_iff_eq,beq_iff_eq];exact h2
     rw[h3,h4] at hm;cases hm
   rw[this];rfl
  ·have hm':=hm;unfold Ht at hm';rw[aT,aT,Cq,Cq] at hm';obtain⟨⟨⟨h1,h2⟩,h3,h4⟩,_⟩:=hm';simp only[cT];rw[Pl hf'.1 hf'.2 h1 h2 h3 h4,oB,XQ hf'.1 hf'.2]
theorem JG (f:Int) (l:Lt) (m:Mt):(BP f l).contains m=((pmS f).contains m&&Du l m):=by
 rw[Akk,aT,cM,cM];unfold BP;rw[AjK]
def JH (f:Int) (l:Lt) (m:Mo):Bool:=(BP f l).contains m.1&&C1 m.2
theorem KO (f:Int) (l:Lt) (m:Mo):SN KK f l m=some (okF f&&okL l&&JH f l m):=by
 unfold SN;rw[F4];simp only[oB,oT,tO,cT];cases hc:(okF f&&okL l)
 ·rfl
 ·rw[aT] at hc;have hl:=GL.1 hc.2;simp only[if_true,show (((0:Int)==0)=true) from rfl,cT,GO,hc.1,Ai5,oB]
  unfold JH;rw[JG];cases hp:(pmS f).contains m.1
  ·rfl
  ·have hp':=hp;rw[cM] at hp';have hmm:=Ft hp';simp only[cT,Ai5];rw[Pg hl (m:=m.1) (Cn hmm),oB];have hst:=XL hl hmm;generalize GJ (stI (stI (0,0,0) (AN m.1 (l.1,0))) (AN m.1 l.2))=r at *;have hr:((r.1==l.1)&&((r.2.1==l.2.1)&&(r.2.2==l.2.2)))=Du l m.1:=by
    rw[Akk,← hst];simp only[aT,beq_iff_eq];rw[Akx,Akx]
   rw[hr];cases Du l m.1
   ·rfl
   ·simp only[cT,Ec,oB,Ai5]
def Dl:List Int→List Int→Int
 | a :: r,b :: s=>bif a==b then Dl r s else (if a<b then -1 else 1)
 | _,_=>0
def ltL:List Int→List Int→Bool
 | a :: r,b :: s=>bif a==b then ltL r s else decide (a<b)
 | _,_=>false
theorem Nt:∀ (a b:List Int),(decide (Dl a b≥0))=!ltL a b
 | [],_=>rfl
 | _ :: _,[]=>rfl
 | a :: r,b :: s=>by
  have ih:=Nt r s;by_cases h:a=b
  ·subst h;simpa[Dl,ltL] using ih
  ·have h1:(a==b)=false:=by rw[bN];exact h
   simp only[Dl,ltL,h1,cF];by_cases h2:a<b<;>simp[h2]
theorem Pm:∀ {a b:List Int} (c d:List Int),a.length=b.length→Dl (a++c) (b++d)=if Dl a b=0 then Dl c d else Dl a b
 | [],[],c,d,_=>by simp[Dl]
 | a :: r,b :: s,c,d,h=>by
  have ih:=Pm (a:=r) (b:=s) c d (by simpa using h)
  by_cases h1:a=b
  ·subst h1;simpa[Dl] using ih
  ·have h2:(a==b)=false:=by rw[bN];exact h1
   simp only[Aky,Dl,h2,cF];by_cases h3:a<b<;>simp[h3]
theorem Db:∀ a:List Int,ltL a a=false
 | []=>rfl
 | a :: r=>by simp[ltL,Db r]
theorem DQ:∀ {a b c:List Int},ltL a b=true→ltL b c=true→ltL a c=true
 | [],_,_,h,_=>by simp[ltL] at h
 | _ :: _,[],_,h,_=>by simp[ltL] at h
 | _ :: _,_ :: _,[],_,h=>by simp[ltL] at h
 | a :: r,b :: s,c :: t,h,h'=>by
  simp only[ltL] at h h' ⊢;cases h1:a==b<;>rw[h1] at h<;>cases h2:b==c<;>rw[h2] at h'<;>simp only[cT,cF,dE] at h h'
  ·have:(a==c)=false:=by rw[bN];omega
   rw[this,cF,dE];omega
  ·have e2:=eq_of_beq h2;subst e2;rw[h1,cF,dE];exact h
  ·have e1:=eq_of_beq h1;subst e1;rw[h2,cF,dE];exact h'
  ·have e1:=eq_of_beq h1;subst e1;rw[h2,cT];exact DQ h h'
theorem TW:∀ {a b:List Int},a.length=b.length→ltL a b=false→ltL b a=false→a=b
 | [],[],_,_,_=>rfl
 | a :: r,b :: s,hl,h,h'=>by
  simp only[ltL] at h h';cases h1:a==b
  ·have h2:(b==a)=false:=by rw[bN] at h1 ⊢;exact fun e=>h1 e.symm
   rw[h1,cF,decide_eq_false_iff_not] at h;rw[h2,cF,decide_eq_false_iff_not] at h';rw[bN] at h1;omega
  ·have e:=eq_of_beq h1;subst e;simp only[BEq.rfl,cT] at h h';rw[TW (by simpa using hl) h h']
theorem CV {a b:List Int} (hl:a.length=b.length) (hn:a.length≤1000):∀ n q,q≤a.length→a.length-q<n→IB KK a b n (q:Int)=some (Dl (a.drop q) (b.drop q))
 | 0,q,_,h=>by omega
 | n+1,q,hq,h=>by
  show MZ KK a b (fun v0=>IB KK a b n v0) (q:Int)=_;unfold MZ;by_cases hlt:q<a.length
  ·have hlt':q<b.length:=by omega
   rw[in1 hlt,in1 hlt',in0,gd hlt,gd hlt',dC hlt,dC hlt'];simp only[aS,cT,Dl];cases h1:a[q]==b[q]
   ·have:(a[q] != b[q])=true:=by simp[bne,h1]
    rw[this,cT,cF];by_cases h2:a[q]<b[q]<;>simp[h2]
   ·have:(a[q] != b[q])=false:=by simp[bne,h1]
    rw[this,cF,cT,As (by omega)]
    exact CV hl hn n (q+1) hlt (by omega)
  ·have e:q=a.length:=by omega
   subst e;rw[AX,cF,Alo];rfl
theorem Dw {a b:List Int} (hl:a.length=b.length) (hn:a.length≤1000):Ln KK a b=some (Dl a b):=by
 unfold Ln QU;have:=CV hl hn KK 0 (by omega) (by have:=ET (n:=a.length) (by omega);omega)
 simpa using this
def CF (v:Vc):List Int:=[v.1,v.2]
def Nu (m:Mt):List Int:=[m.1,m.2.1,m.2.2.1,m.2.2.2]
def H1 (m:Mo):List Int:=Nu m.1++CF m.2
def ltV (u v:Vc):Bool:=ltL (CF u) (CF v)
def ltM (m n:Mo):Bool:=ltL (H1 m) (H1 n)
theorem XS {m n:Vc} (h:CF m=CF n):m=n:=by
 simp only[CF,List.cons.injEq,and_true] at h;exact Prod.ext h.1 h.2
theorem EY (u v:Vc):HX KK u v=some (Dl (CF u) (CF v)):=by
 unfold HX;rw[Dw (by rfl) (by simp)]
 rfl
theorem GP (m n:Mo):Tn KK m n=some (Dl (H1 m) (H1 n)):=by
 unfold Tn WN;rw[Dw (by rfl) (by simp),EY]
 simp only[oB];unfold H1;rw[Pm _ _ (by rfl)]
 unfold Nu;generalize Dl [m.1.1,m.1.2.1,m.1.2.2.1,m.1.2.2.2] [n.1.1,n.1.2.1,n.1.2.2.1,n.1.2.2.2]=c;by_cases h:c=0
 ·simp[h]
 ·have:(c != 0)=true:=by simp[h]
  rw[this,if_neg h,cT]
theorem JI (u v:Vc):OG KK u v=some (ltV u v):=by
 unfold OG
 try simp only[oT,tO,cT]
 simp only[ltV,CF,ltL];congr 1;by_cases h1:u.1<v.1
 ·have:(u.1==v.1)=false:=by rw[bN];omega
  simp[h1,this]
 ·by_cases h2:u.1=v.1
  ·by_cases h3:u.2=v.2<;>simp[h2,h3]
  ·have:(u.1==v.1)=false:=by rw[bN];exact h2
   simp[h1,this]
theorem FO {a b:List Int} (hl:a.length=b.length) (hn:a.length≤1000):∀ n q,q≤a.length→a.length-q<n→Jq KK a b n (q:Int)=some (ltL (a.drop q) (b.drop q))
 | 0,q,_,h=>by omega
 | n+1,q,hq,h=>by
  show QK KK a b (fun v0=>Jq KK a b n v0) (q:Int)=_;unfold QK;simp only[oT,tO,cT];by_cases hlt:q<a.length
  ·have hlt':q<b.length:=by omega
   rw[in1 hlt,in1 hlt',in0,gd hlt,gd hlt',dC hlt,dC hlt'];simp only[aS,cT,ltL];cases h1:a[q]==b[q]
   ·have:(a[q] != b[q])=true:=by simp[bne,h1]
    rw[this,cT,cF]
   ·have:(a[q] != b[q])=false:=by simp[bne,h1]
    rw[this,cF,cT,As (by omega)]
    exact FO hl hn n (q+1) hlt (by omega)
  ·have e:q=a.length:=by omega
   subst e;rw[AX,cF,Alo,hl];simp[ltL]
theorem JJ (m n:Mo):OH KK m n=some (ltM m n):=by
 unfold OH Wm SO ZM Wk;simp only[oB];have h1:=FO (a:=Nu m.1) (b:=Nu n.1) rfl (by simp[Nu]) KK 0 (by omega) (by have:=ET (n:=4) (by omega);simp[Nu];omega)
 have h1':Jq KK [m.1.1,m.1.2.1,m.1.2.2.1,m.1.2.2.2] [n.1.1,n.1.2.1,n.1.2.2.1,n.1.2.2.2] KK 0=some (ltL (Nu m.1) (Nu n.1)):=h1;rw[h1',JI];simp only[oB];unfold ltM H1 ltV Nu;cases e1:m.1.1==n.1.1<;>cases e2:m.1.2.1==n.1.2.1<;>cases e3:m.1.2.2.1==n.1.2.2.1<;>cases e4:m.1.2.2.2==n.1.2.2.2<;>simp[ltL,e1,e2,e3,e4]
def Aw (l:Lt) (v:Vc):Bool:=decide (0≤v.1∧v.1≤l.1-1)&&decide (0≤v.2∧v.2≤l.2.2-1)
theorem BS {l:Lt} {v:Vc}:Aw l v=true↔(0≤v.1∧v.1≤l.1-1)∧(0≤v.2∧v.2≤l.2.2-1):=by
 unfold Aw;simp only[aT,dE]
theorem Ch {l:Lt} (hl:IsL l) {v:Vc} (h:Aw l v=true):Bc l v=v:=by
 obtain⟨⟨h1,h2⟩,h3,h4⟩:=BS.1 h;unfold Bc;have e1:v.2 / l.2.2=0:=Int.ediv_eq_zero_of_lt h3 (by omega)
 have e2:v.2 % l.2.2=v.2:=AjH h3 (by omega)
 rw[e1,e2,Ak7,Int.sub_zero,AjH h1 (by omega)]
theorem EZ {l:Lt} (hl:IsL l) (v:Vc):Aw l (Bc l v)=true:=by
 obtain⟨h1,h2,h3,h4⟩:=HY hl v;rw[BS];omega
theorem H2 {l:Lt} (hl:IsL l) {v:Vc} (h:Aw l v=true):0≤v.1∧v.1≤63∧0≤v.2∧v.2≤63:=by
 obtain⟨⟨h1,h2⟩,h3,h4⟩:=BS.1 h;have:=hl.a2;have:=hl.c2;omega
theorem GQ {l:Lt} (hl:IsL l) {v:Vc} (h:Aw l v=true):Sv v:=by
 have:=H2 hl h;simp only[Sv];omega
theorem U5 {l:Lt} (hl:IsL l) {v:Vc} (h:Aw l v=true):C1 v=true:=by
 have:=H2 hl h;rw[Cq];omega
theorem U6 {l:Lt} (hl:IsL l) (v:Vc):((Bc l v).1==v.1&&(Bc l v).2==v.2)=Aw l v:=by
 cases h:Aw l v with
 | true=>rw[Ch hl h];simp
 | false =>
  cases h2:((Bc l v).1==v.1&&(Bc l v).2==v.2) with
  | false=>rfl
  | true =>
   rw[aT,beq_iff_eq,beq_iff_eq] at h2;have:Bc l v=v:=Prod.ext h2.1 h2.2;have h3:=EZ hl v;rw[this,h] at h3;cases h3
theorem Pn {l:Lt} (hl:IsL l) (v:Vc):∃ r,KM KK l v=some r∧(r.1==v.1&&r.2==v.2)=Aw l v:=by
 cases h:Aw l v with
 | true=>exact⟨_,DP hl (AdK (GQ hl h)),by rw[Ch hl h];simp⟩
 | false =>
  unfold KM;have h0:(l.2.2 != 0)=true:=by have:=hl.c1;simp;omega
  rw[Nh hl.c1 (by have:=hl.c2;omega)]
  simp only[oB,h0,cT];rw[Nh hl.a1 (by have:=hl.a2;omega)]
  refine⟨_,rfl,?_⟩;cases h2:((w (v.1-w (w ((w (v.2-v.2 % l.2.2)).tdiv l.2.2)*l.2.1))) % l.1==v.1&&v.2 % l.2.2==v.2) with
  | false=>rfl
  | true =>
   rw[aT,beq_iff_eq,beq_iff_eq] at h2;have hc:=hl.c1;have ha:=hl.a1;have b1:=Aj4 (w (v.1-w (w ((w (v.2-v.2 % l.2.2)).tdiv l.2.2)*l.2.1))) (show l.1≠0 by omega)
   have b2:=AjM (w (v.1-w (w ((w (v.2-v.2 % l.2.2)).tdiv l.2.2)*l.2.1))) (show 0<l.1 by omega)
   have b3:=Aj4 v.2 (show l.2.2≠0 by omega)
   have b4:=AjM v.2 (show 0<l.2.2 by omega)
   rw[h2.1] at b1 b2;rw[h2.2] at b3 b4;have:Aw l v=true:=by rw[BS];omega
   rw[h] at this;cases this
theorem E0 {α:Type} (p:α→Bool):∀ (l:List α) (q:Nat),decide (CE p q l≥0)=l.any p
 | [],_=>rfl
 | a :: l,q=>by
  have ih:=E0 p l (q+1);cases h:p a with
  | false=>simpa[CE,h] using ih
  | true=>simp[CE,h]
theorem Aig (m n:Mt):((m.1==n.1)&&((m.2.1==n.2.1)&&((m.2.2.1==n.2.2.1)&&(m.2.2.2==n.2.2.2))))=(m==n):=by
 rw[Akk];simp only[aT,beq_iff_eq,Akx]
theorem Aih (m n:Mo):((m.1.1==n.1.1)&&((m.1.2.1==n.1.2.1)&&((m.1.2.2.1==n.1.2.2.1)&&((m.1.2.2.2==n.1.2.2.2)&&((m.2.1==n.2.1)&&(m.2.2==n.2.2))))))=(m==n):=by
 rw[Akk];simp only[aT,beq_iff_eq,Akx,and_assoc]
theorem JK {l:List Mt} (hn:l.length≤1000) (m:Mt):Tk KK l m=some (l.contains m):=by
 have hidx:OR KK l m=some (CE (fun a=>m==a) 0 l):=by
  have h:=EU (R:=Int) (body:=fun L x=>IA KK l m (fun v0=>L v0) x) l (fun a=>m==a) some
   (fun L q hq=>by
    unfold IA;rw[in1 hq,in0,gd hq];simp only[aS,cT];rw[Aig,As (by omega)])
   (fun L=>by
    unfold IA;rw[AX,cF]) KK 0 (by omega) (by have:=ET (n:=l.length) (by omega);omega)
  unfold OR QT MY;exact h
 unfold Tk;rw[hidx,oB,E0];congr 1;rw[AkC]
theorem JL {K:Sh} (hK:K.flat=true) {β:Type}:∀ (xs:List (K.T×β)) (k x:K.T) (v:β),BN (AO K) (Ew (AO K) xs k v) x=bif AO K x k then some v else BN (AO K) xs x
 | [],k,x,v=>by simp[Ew,BN]
 | p :: r,k,x,v=>by
  simp only[Ew];cases h:AO K k p.1
  ·simp only[cF,BN];rw[JL hK r k x v];cases h1:AO K x p.1
   ·simp
   ·have e1:=(Ct K hK _ _).1 h1;cases h2:AO K x k
    ·simp
    ·have e2:=(Ct K hK _ _).1 h2;have:AO K k p.1=true:=(Ct K hK _ _).2 (e2.symm.trans e1);rw[h] at this;cases this
  ·have e:=(Ct K hK _ _).1 h;simp only[cT,BN,← e];cases AO K x k<;>rfl
theorem JM {K:Sh} (hK:K.flat=true) [DecidableEq K.T]:∀ (l:List K.T) (xs:List (K.T×Bool)) (x:K.T),(BN (AO K) (l.foldl (fun s a=>Ew (AO K) s a true) xs) x).getD false=(decide (x∈l)||(BN (AO K) xs x).getD false)
 | [],xs,x=>by simp
 | a :: l,xs,x=>by
  rw[Ajt,JM hK l,JL hK];cases h:AO K x a
  ·have:x≠a:=fun e=>by rw[(Ct K hK x a).2 e] at h;cases h
   simp[this]
  ·have:=(Ct K hK x a).1 h;simp[this]
abbrev Po:Sh:=.cons (.cons (.int .i64) (.cons (.int .i64) (.cons (.int .i64) (.int .i64)))) (.cons (.int .i64) (.int .i64))
def Lw (g:List Mo):List (Mo×Bool):=g.foldl (fun s a=>Ew (AO Po) s a true) []
theorem JN (g:List Mo) (x:Mo):(BN (AO Po) (Lw g) x).getD false=g.contains x:=by
 have h:=JM (K:=Po) rfl g [] x;refine Eq.trans h ?_;simp[BN,List.contains_eq_mem]
def mmS (m n:Mt):Mt:=(m.1*n.1+m.2.1*n.2.2.1,m.1*n.2.1+m.2.1*n.2.2.2,m.2.2.1*n.1+m.2.2.2*n.2.2.1,m.2.2.1*n.2.1+m.2.2.2*n.2.2.2)
def Ez (l:Lt) (m n:Mo):Mo:=(mmS m.1 n.1,Bc l (BT m n.2))
theorem TX {m n:Mt} (hm:SmM m) (hn:SmM n):((w ((w (m.1*n.1))+(w (m.2.1*n.2.2.1)))),(w ((w (m.1*n.2.1))+(w (m.2.1*n.2.2.2)))),(w ((w (m.2.2.1*n.1))+(w (m.2.2.2*n.2.2.1)))),(w ((w (m.2.2.1*n.2.1))+(w (m.2.2.2*n.2.2.2)))))=mmS m n:=by
 obtain⟨a,b,c,d⟩:=hm;obtain⟨a',b',c',d'⟩:=hn;have h:∀ {x y:Int},(-1≤x∧x≤1)→(-1≤y∧y≤1)→-1≤x*y∧x*y≤1:=fun {x y} hx hy=>by
  have:=Bf hx (B:=1) (x:=y) (by omega) (by omega) (by omega)
  omega
 have h1:=h a a';have h2:=h b c';have h3:=h a b';have h4:=h b d';have h5:=h c a';have h6:=h d c';have h7:=h c b';have h8:=h d d'
 unfold mmS;rw[Az (n:=m.1*n.1) (by omega) (by omega),Az (n:=m.2.1*n.2.2.1) (by omega) (by omega),Az (n:=m.1*n.2.1) (by omega) (by omega),Az (n:=m.2.1*n.2.2.2) (by omega) (by omega),Az (n:=m.2.2.1*n.1) (by omega) (by omega),Az (n:=m.2.2.2*n.2.2.1) (by omega) (by omega),Az (n:=m.2.2.1*n.2.1) (by omega) (by omega),Az (n:=m.2.2.2*n.2.2.2) (by omega) (by omega)]
 rw[Az (n:=m.1*n.1+m.2.1*n.2.2.1) (by omega) (by omega),Az (n:=m.1*n.2.1+m.2.1*n.2.2.2) (by omega) (by omega),Az (n:=m.2.2.1*n.1+m.2.2.2*n.2.2.1) (by omega) (by omega),Az (n:=m.2.2.1*n.2.1+m.2.2.2*n.2.2.2) (by omega) (by omega)]
def FQ (m:Mo):Prop:=m.1∈pmQ++pmH∧Sv m.2
theorem Pq {m:Mt×Vc} (hm:SmM m.1) {v:Vc} (hv:Sv v) (ht:Sv m.2):(w ((AN m.1 v).1+m.2.1),w ((AN m.1 v).2+m.2.2))=BT m v:=by
 obtain⟨h1,h2,h3,h4⟩:=Eb hm hv;obtain⟨t1,t2,t3,t4⟩:=ht;unfold BT;rw[Az (by omega) (by omega),Az (by omega) (by omega)]
theorem XT {m n:Mo} (hm:FQ m) (hn:FQ n):To KK m n=some (mmS m.1 n.1,BT m n.2):=by
 unfold To WP OT;simp only[oB];rw[TX (Cn hm.1) (Cn hn.1),Dt (Cn hm.1) hn.2];simp only[oB];rw[Pq (Cn hm.1) hn.2 hm.2]
theorem Ri {m n:Mo} (hm:FQ m) (hn:FQ n):SS KK m n=some (mmS m.1 n.1,BT m n.2):=by
 unfold SS Wq Jm;simp only[oB];rw[TX (Cn hm.1) (Cn hn.1),Dq (Cn hm.1) hn.2];simp only[oB];rw[Pq (Cn hm.1) hn.2 hm.2]
theorem Ii {l:Lt} (hl:IsL l) {m:Mo} (hm:Sm m.2):Tp KK l m=some (m.1,Bc l m.2):=by
 unfold Tp;rw[DP hl hm];rfl
theorem GR {l:Lt} (hl:IsL l) {m:Mo} (hm:Sm m.2):OE KK l m=some (m.1,Bc l m.2):=by
 unfold OE;rw[Ea hl hm];rfl
def dMo:Mo:=((0,0,0,0),0,0)
def uMo:Mo:=((1,0,0,1),0,0)
def Hu (f:Int) (l:Lt) (g:List Mo) (q:Nat) (a:Mo):Bool:=(BP f l).contains a.1&&(Aw l a.2&&(Nat.beq q 0||ltM (g.getD (q-1) dMo) a))
def EA (f:Int) (l:Lt) (g:List Mo):Bool:=Co (Hu f l g) 0 g&&(g.contains uMo&&g.all fun m=>g.all fun n=>g.contains (Ez l m n))
structure Pre (f:Int) (l:Lt) (g:List Mo):Prop where
 mem:∀ m∈g,m.1∈BP f l∧Aw l m.2=true
 up:∀ i (h:i+1<g.length),ltM g[i] g[i+1]=true
theorem Rj {f:Int} {l:Lt} {g:List Mo} (h:Co (Hu f l g) 0 g=true):Pre f l g:=by
 have hg:=H0 h;refine⟨fun m hm=>?_,fun i hi=>?_⟩
 ·obtain⟨i,hi,rfl⟩:=AjX hm;have:=hg i hi;unfold Hu at this;rw[aT,aT,cM] at this;exact⟨this.1,this.2.1⟩
 ·have:=hg (i+1) hi;unfold Hu at this;rw[aT,aT,Aj5] at this;rcases this.2.2 with h1 | h1
  ·have:=AiH h1;omega
  ·have e:(0+(i+1)-1)=i:=by omega
   rw[e] at h1;simpa[List.getD,show i<g.length by omega] using h1
theorem Pre.lt {f:Int} {l:Lt} {g:List Mo} (h:Pre f l g):∀ (j i:Nat) (hj:j<g.length) (hi:i<j),ltM g[i] g[j]=true
 | 0,i,hj,hi=>by omega
 | j+1,i,hj,hi=>by
  by_cases e:i=j
  ·subst e;exact h.up i hj
  ·exact DQ (h.lt j i (by omega) (by omega)) (h.up j hj)
theorem Pre.good {f:Int} {l:Lt} (hl:IsL l) {g:List Mo} (h:Pre f l g) {m:Mo} (hm:m∈g):FQ m:=⟨Pi (h.mem m hm).1,GQ hl (h.mem m hm).2⟩
theorem Pre.nodup {f:Int} {l:Lt} {g:List Mo} (h:Pre f l g):g.Nodup:=by
 rw[List.Nodup,List.pairwise_iff_getElem];intro i j hi hj hij e;have:=h.lt j i hj hij;rw[e] at this;unfold ltM at this;rw[Db] at this;cases this
theorem Hv {α:Type} [DecidableEq α]:∀ (l m:List α),l.Nodup→(∀ x∈l,x∈m)→l.length≤m.length
 | [],m,_,_=>Ajx _
 | a :: l,m,hn,h=>by
  have ha:=h a (by simp)
  rw[AkE] at hn;have:=Hv l (m.erase a) hn.2 fun x hx=>by
   have hne:x≠a:=fun e=>hn.1 (e▸hx);exact (List.mem_erase_of_ne hne).2 (h x (by simp[hx]))
  rw[All ha] at this;have:=List.length_pos_of_mem ha;simp only[Ajc];omega
theorem Hw {l:Lt} (hl:IsL l) {v:Vc} (h:Aw l v=true):v∈Ac l:=by
 obtain⟨⟨h1,h2⟩,h3,h4⟩:=BS.1 h;have:=hl.a1;have:=hl.c1;unfold Ac JD;rw[AjZ];refine⟨v.1.toNat,Akq.2 (by omega),Ai9.2 ⟨v.2.toNat,Akq.2 (by omega),Prod.ext ?_ ?_⟩⟩<;>simp only<;>omega
theorem Pre.len {f:Int} {l:Lt} (hl:IsL l) {g:List Mo} (h:Pre f l g):g.length≤768:=by
 have:=Hv g ((BP f l).flatMap fun m=>(Ac l).map fun v=>(m,v)) h.nodup fun x hx=>by
  obtain⟨h1,h2⟩:=h.mem x hx;exact AjZ.2 ⟨x.1,h1,Ai9.2 ⟨x.2,Hw hl h2,rfl⟩⟩
 have h2:=HZ (fun m:Mt=>(Ac l).map fun v:Vc=>(m,v)) 64 (fun m=>by rw[Ai1];exact Fp hl) (BP f l)
 have h3:=Pj f l;have:(BP f l).length*64≤12*64:=Aji _ h3;omega
theorem Nv (f:Int) (l:Lt):S7 KK f l=some (if okF f&&okL l then 0 else 1):=by
 unfold S7;rw[Rh,Nr];cases okF f<;>cases h:okL l<;>rfl
theorem Ahw {g:List Mo} {q:Nat} (hq:q+1<4611686018427387904) (d:Mo):g.getD ((0:Int)+(w ((((q+1:Nat)):Int)-(1:Int)))).toNat d=g.getD q d:=by
 rw[Az (by omega) (by omega)]
 congr 1;omega
theorem inP {g:List Mo} {q:Nat} (hq:q+1<g.length) (h2:q+1<4611686018427387904):(decide (0≤(w (((q+1:Nat):Int)-(1:Int))))&&decide ((w (((q+1:Nat):Int)-(1:Int)))<(g.length:Int)))=true:=by
 rw[Az (by omega) (by omega),aT,dE,dE]
 omega
theorem XU {f:Int} {l:Lt} (hl:IsL l) {g:List Mo} (hn:g.length≤1048576) {I:Int→List (Mo×Bool)→List Mt→Mt→Int→Option Bool} {L:Int→List (Mo×Bool)→Option Bool} {q:Nat} (hq:q<g.length) (s:List (Mo×Bool)) :
  Dp KK f l g (BP f l) I L (q:Int) s=bif Hu f l g q g[q] then L ((q+1:Nat):Int) (Ew (AO Po) s g[q] true) else some false:=by
 obtain⟨r,hr,hrc⟩:=Pn hl g[q].2;unfold Dp;rw[in1 hq];simp only[cT,in0,aS,oT,tO,gd hq];rw[JK (by have:=Pj f l;omega),oB]
 unfold Hu;cases h1:(BP f l).contains g[q].1
 ·simp only[nT,nF,cT,cF,oB,AkK,oT,tO]
 ·simp only[nT,nF,cT,cF,oB,Ai5,hr,hrc];cases h2:Aw l g[q].2
  ·simp only[nF,nT,AkK,tO,oT,cT,cF,oB]
  ·simp only[nF,nT,Ai5];cases q with
   | zero =>
    have:decide (((0:Nat):Int)>0)=false:=by simp
    simp only[this,nF,tO,oT,cT,cF,oB];rfl
   | succ q =>
    have h3:decide (((q+1:Nat):Int)>0)=true:=by simp
    simp only[h3,nT,AjQ,Akl,tO,oT,cT,cF,inP hq (by omega),Ahw (g:=g) (q:=q) (by omega)]
    rw[GP,oB,Nt,As (by omega)]
    have e:(q+1-1)=q:=rfl;rw[e];have e2:Nat.beq (q+1) 0=false:=rfl;rw[e2,AjQ];unfold ltM dMo;cases ltL (H1 (g.getD q ((0,0,0,0),0,0))) (H1 g[q+1])<;>rfl
theorem Ahx (m:Mo):((m.1.1,m.1.2.1,m.1.2.2),m.2)=m:=rfl
theorem U7 {f:Int} {l:Lt} (hl:IsL l) (m:Mo):(JH f l m&&Aw l m.2)=((BP f l).contains m.1&&Aw l m.2):=by
 unfold JH;cases h:Aw l m.2 with
 | false=>simp
 | true=>rw[U5 hl h];simp
theorem U8 {f:Int} {l:Lt} (hf:okF f=true) (hl:IsL l) {g:List Mo} (hn:g.length≤1048576) {c:Int} {I:Int→Int→Bool→Int→Option Bool} {L:Int→Option Bool} {q:Nat} (hq:q<g.length) :
  D7 KK f l g c I L (q:Int)=bif Hu f l g q g[q] then L ((q+1:Nat):Int) else some false:=by
 have hsc:=U7 (f:=f) hl g[q];have hp:Hu f l g q g[q]=(JH f l g[q]&&(Aw l g[q].2&&(Nat.beq q 0||ltM (g.getD (q-1) dMo) g[q]))):=by
  unfold Hu;rw[← Alu,← Alu,hsc]
 rw[hp];unfold D7;rw[in1 hq];simp only[cT,in0,aS,oT,tO,gd hq];rw[KO,oB,hf,GL.2 hl,Ahx];simp only[Ai5,oT,tO,cT];cases h1:JH f l g[q]
 ·simp only[nT,nF,cT,cF,oB,AkK,oT,tO]
 ·have hv:C1 g[q].2=true:=by
   unfold JH at h1;rw[aT] at h1;exact h1.2
  have hS:Sm g[q].2:=by
   rw[Cq] at hv;simp only[Sm];omega
  simp only[nT,nF,cT,cF];rw[GR hl (m:=g[q]) hS,oB];have hc:=U6 hl g[q].2;simp only[beq_self_eq_true,Ai5,hc];cases h2:Aw l g[q].2
  ·simp only[nF,nT,AkK,tO,oT,cT,cF,oB]
  ·simp only[nF,nT,Ai5,oT,tO,cT];cases q with
   | zero =>
    have:decide (((0:Nat):Int)>0)=false:=by simp
    simp only[this,nF,tO,oT,cT,cF,oB];rfl
   | succ q =>
    have h3:decide (((q+1:Nat):Int)>0)=true:=by simp
    simp only[h3,nT,AjQ,Akl,cT,cF,inP hq (by omega),Ahw (g:=g) (q:=q) (by omega)]
    rw[JJ,oB,As (by omega)]
    have e:(q+1-1)=q:=rfl;rw[e];have e2:Nat.beq (q+1) 0=false:=rfl;rw[e2,AjQ];unfold dMo;cases ltM (g.getD q ((0,0,0,0),0,0)) g[q+1]<;>rfl
theorem F5 {f:Int} {l:Lt} {g:List Mo} (hp:Pre f l g) (hn:g.length≤1048576) (m:Mo):∀ (n lo hi:Nat),lo≤hi→hi≤g.length→hi-lo<n→(∀ i (h:i<g.length),i<lo→ltM g[i] m=true)→(∀ i (h:i<g.length),hi≤i→ltM g[i] m=false) →
  ∃ p:Nat,Gy KK g m n (lo:Int) (hi:Int)=some (p:Int)∧p≤g.length∧(∀ i (h:i<g.length),i<p→ltM g[i] m=true)∧(∀ i (h:i<g.length),p≤i→ltM g[i] m=false)
 | 0,lo,hi,_,_,h,_,_=>by omega
 | n+1,lo,hi,hle,hhi,hd,h1,h2=>by
  show ∃ p:Nat,MN KK g m (fun v0 v1=>Gy KK g m n v0 v1) (lo:Int) (hi:Int)=_∧_;unfold MN;by_cases hlt:lo<hi
  ·have e1:w ((w ((lo:Int)+(hi:Int))).tdiv 2)=((((lo+hi) / 2:Nat)):Int):=by
    rw[Az (n:=(lo:Int)+(hi:Int)) (by omega) (by omega)]
    have:((lo:Int)+(hi:Int)).tdiv 2=(((lo+hi) / 2:Nat):Int):=by
     rw[Int.tdiv_eq_ediv_of_nonneg (by omega)]
     omega
    rw[this,Az (by omega) (by omega)]
   have hmid:(lo+hi) / 2<g.length:=by omega
   rw[in1 hlt,e1,in0,in1 hmid,gd hmid];simp only[aS,cT];rw[JJ,oB,As (by omega)]
   cases hc:ltM g[(lo+hi) / 2] m
   ·rw[cF];refine F5 hp hn m n lo ((lo+hi) / 2) (by omega) (by omega) (by omega) h1 fun i hi' hle'=>?_
    by_cases e:i=(lo+hi) / 2
    ·subst e;exact hc
    ·cases hx:ltM g[i] m with
     | false=>rfl
     | true =>
      have:=DQ (hp.lt i ((lo+hi) / 2) hi' (by omega)) hx
      exact absurd (hc.symm.trans this) (by simp)
   ·rw[cT];refine F5 hp hn m n ((lo+hi) / 2+1) hi (by omega) hhi (by omega) (fun i hi' hle'=>?_) h2
    by_cases e:i=(lo+hi) / 2
    ·subst e;exact hc
    ·exact DQ (hp.lt ((lo+hi) / 2) i hmid (by omega)) hc
  ·have e:lo=hi:=by omega
   subst e;rw[AX,cF];exact⟨lo,rfl,hhi,h1,h2⟩
theorem Lx {f:Int} {l:Lt} {g:List Mo} (hp:Pre f l g) (hn:g.length≤1048576) (m:Mo):OI KK g m=some (g.contains m):=by
 obtain⟨p,h1,h2,h3,h4⟩:=F5 hp hn m KK 0 g.length (by omega) (by omega) (by simp only[KK];omega) (fun i _ h=>by omega) (fun i hi h=>by omega)
 unfold OI SP QL;simp only[show Gy KK g m KK (0:Int) (g.length:Int)=some (p:Int) from h1,oB,oT,tO,cT]
 by_cases hlt:p<g.length
 ·rw[in1 hlt,in0,gd hlt];simp only[nT,AjQ,Akl,aS,cT];rw[Aih];congr 1;rw[Akk,beq_iff_eq,cM];constructor
  ·intro e;rw[← e];exact gM hlt
  ·intro hm;obtain⟨j,hj,e⟩:=AjX hm;by_cases hjp:j<p
   ·have:=h3 j hj hjp;rw[e] at this;unfold ltM at this;rw[Db] at this;cases this
   ·by_cases e2:j=p
    ·subst e2;exact e
    ·have:=hp.lt j p hj (by omega)
     rw[e,h4 p hlt (AiK _)] at this;cases this
 ·have hpe:p=g.length:=by omega
  subst hpe;rw[AX];simp only[nF,tO,oT,cT,cF];congr 1;cases hc:g.contains m with
  | false=>rfl
  | true =>
   rw[cM] at hc;obtain⟨j,hj,e⟩:=AjX hc;have:=h3 j hj hj;rw[e] at this;unfold ltM at this;rw[Db] at this;cases this
theorem Aey {f:Int} {l:Lt} (hl:IsL l) {g:List Mo} (hp:Pre f l g) (hn:g.length≤1048576) {c:Int} {ms:List Mt} {L:Int→Option Bool} {x:Nat} (hx:x<g.length) :
  EQ KK f l g c (Lw g) (x:Int) ms Un L KK 0=bif g.all fun n=>g.contains (Ez l g[x] n) then L ((x+1:Nat):Int) else some false:=by
 have h:=B0 (X:=Int) (body:=fun L23 z=>GE KK f l g c (Lw g) (x:Int) ms Un L (fun v0=>L23 v0) z) g (fun q=>(q:Int)) (fun n=>g.contains (Ez l g[x] n)) (some false) (L ((x+1:Nat):Int))
  (fun L23 q hq=>by
   have g1:=hp.good hl (gM hx);have g2:=hp.good hl (gM hq);unfold GE;rw[in1 hq,in0,gd hx,gd hq];simp only[aS,cT];rw[XT g1 g2,oB,Ii hl (m:=(mmS g[x].1 g[q].1,BT g[x] g[q].2)) (IH (Cn g1.1) g2.2 g1.2),oB,As (by omega)]
   have:=JN g (Ez l g[x] g[q]);rw[show (BN (AO Po) (Lw g) (mmS g[x].1 g[q].1,Bc l (BT g[x] g[q].2))).getD false=g.contains (Ez l g[x] g[q]) from this]
   cases g.contains (Ez l g[x] g[q])<;>rfl)
  (fun L23=>by
   unfold GE;rw[AX,cF,As (by omega)]) KK 0 (by omega) (by simp only[KK];omega)
 unfold EQ;exact h
theorem Rk {f:Int} {l:Lt} (hf:okF f=true) (hl:IsL l) {g:List Mo} (hn:g.length≤1048576):OU KK f l g=some (EA f l g):=by
 have hf':0≤f∧f≤1:=by simpa[okF] using hf
 unfold OU QV;rw[JE hf'.1 hf'.2 hl,oB];have h:=Hq (X:=Int×List (Mo×Bool)) (body:=fun L6 z=>Dp KK f l g (BP f l) (fun c0 c1 c2 c3 d0=>ES KK f l g c0 c1 c2 c3 KK d0) (fun v0 v1=>L6 (v0,v1)) z.1 z.2) g (fun q s=>((q:Int),s)) (Hu f l g) (fun s a=>Ew (AO Po) s a true) (some false)
  (fun s=>Dp KK f l g (BP f l) (fun c0 c1 c2 c3 d0=>ES KK f l g c0 c1 c2 c3 KK d0) (fun _ _=>none) (g.length:Int) s) (fun q s=>True)
  (fun L6 q s hq _=>⟨fun _=>trivial,XU hl hn hq s⟩)
  (fun L6 s _=>by
   unfold Dp;rw[AX,cF,cF]) KK 0 [] (by omega) (by simp only[KK];omega) trivial
 unfold M0;refine Eq.trans h ?_;simp only[AiR];unfold EA;cases hpre:Co (Hu f l g) 0 g
 ·rfl
 ·have hp:=Rj hpre;simp only[cT,Ai5];unfold Dp WO;rw[AX,cF];simp only[oB];have h2:=JN g uMo;rw[show (BN (AO Po) (g.foldl (fun s a=>Ew (AO Po) s a true) []) ((1,0,0,1),0,0)).getD false=g.contains uMo from h2]
  cases g.contains uMo
  ·rfl
  ·simp only[nT,cF,Ai5];have h3:=B0 (X:=Int) (body:=fun L21 z=>ER KK f l g (g.length:Int) (Lw g) (BP f l) Un (fun c0 d0=>EQ KK f l g (g.length:Int) (Lw g) c0 (BP f l) Un (fun v0=>L21 v0) KK d0) (fun v0=>L21 v0) z) g (fun q=>(q:Int)) (fun m=>g.all fun n=>g.contains (Ez l m n)) (some false) (some true)
    (fun L21 q hq=>by
     unfold ER;rw[in1 hq,in0];simp only[aS,cT];exact Aey hl hp hn hq)
    (fun L21=>by
     unfold ER;rw[AX,cF]) KK 0 (by omega) (by simp only[KK];omega)
   unfold ES;refine Eq.trans h3 ?_;rw[AiR];cases g.all fun m=>g.all fun n=>g.contains (Ez l m n)<;>rfl
theorem AaB {f:Int} {l:Lt} (hl:IsL l) {g:List Mo} (hp:Pre f l g) (hn:g.length≤1048576) {c c':Int} {b:Bool} {L:Int→Option Bool} {x:Nat} (hx:x<g.length) :
  Gz KK f l g c (x:Int) c' b L KK 0=bif g.all fun n=>g.contains (Ez l g[x] n) then L ((x+1:Nat):Int) else some false:=by
 have h:=B0 (X:=Int) (body:=fun L23 z=>Iu KK f l g c (x:Int) c' b L (fun v0=>L23 v0) z) g (fun q=>(q:Int)) (fun n=>g.contains (Ez l g[x] n)) (some false) (L ((x+1:Nat):Int))
  (fun L23 q hq=>by
   have g1:=hp.good hl (gM hx);have g2:=hp.good hl (gM hq);unfold Iu;rw[in1 hq,in1 hx,in0,in0,gd hx,gd hq];simp only[aS,cT];rw[Ri g1 g2,oB,GR hl (m:=(mmS g[x].1 g[q].1,BT g[x] g[q].2)) (IH (Cn g1.1) g2.2 g1.2),oB,Lx hp hn,oB,As (by omega)]
   rw[show g.contains (mmS g[x].1 g[q].1,Bc l (BT g[x] g[q].2))=g.contains (Ez l g[x] g[q]) from rfl]
   cases g.contains (Ez l g[x] g[q])<;>rfl)
  (fun L23=>by
   unfold Iu;rw[AX,cF,As (by omega)]) KK 0 (by omega) (by simp only[KK];omega)
 unfold Gz;exact h
theorem JO (f:Int) (l:Lt) {g:List Mo} (hn:g.length≤1048576):Ws KK f l g=some (okF f&&okL l&&EA f l g):=by
 unfold Ws Wr;rw[F4];simp only[oB,oT,tO,cT];cases hc:(okF f&&okL l)
 ·rfl
 ·rw[aT] at hc;have hf:=hc.1;have hl:=GL.1 hc.2;have h:=Hq (X:=Int) (S:=Unit) (body:=fun L6 z=>D7 KK f l g 0 (fun c0 c1 c2 d0=>Fl KK f l g c0 c1 c2 KK d0) (fun v0=>L6 v0) z) g (fun q s=>(q:Int)) (Hu f l g) (fun s a=>s) (some false)
   (fun s=>D7 KK f l g 0 (fun c0 c1 c2 d0=>Fl KK f l g c0 c1 c2 KK d0) (fun _=>none) (g.length:Int)) (fun q s=>True)
   (fun L6 q s hq _=>⟨fun _=>trivial,U8 hf hl hn hq⟩)
   (fun L6 s _=>by
    unfold D7;rw[AX,cF,cF]) KK 0 () (by omega) (by simp only[KK];omega) trivial
  have hgr:(bif decide ((g.length:Int)>768) then some false else MO KK f l g 0 KK 0)=some (EA f l g):=by
   unfold MO;rw[show AL (X:=Int) (fun L x=>(fun L6=>D7 KK f l g 0 (fun c0 c1 c2 d0=>Fl KK f l g c0 c1 c2 KK d0) L6 x) (fun v0=>L v0)) KK 0=_ from h]
   simp only[AiR];unfold EA;cases hpre:Co (Hu f l g) 0 g
   ·simp only[cF,AkK];cases decide ((g.length:Int)>768)<;>rfl
   ·have hp:=Rj hpre;have hle:=hp.len hl;have:decide ((g.length:Int)>768)=false:=by simp;omega
    rw[this];simp only[cT,cF,Ai5];unfold D7 Ad7 Wp;rw[AX,cF];simp only[oB];rw[Lx hp hn,oB];rw[show g.contains ((1,0,0,1),0,0)=g.contains uMo from rfl]
    cases g.contains uMo
    ·rfl
    ·simp only[nT,cF,Ai5];have h3:=B0 (X:=Int) (body:=fun L21 z=>GA KK f l g (g.length:Int) 0 true (fun c0 d0=>Gz KK f l g (g.length:Int) c0 0 true (fun v0=>L21 v0) KK d0) (fun v0=>L21 v0) z) g (fun q=>(q:Int)) (fun m=>g.all fun n=>g.contains (Ez l m n)) (some false) (some true)
      (fun L21 q hq=>by
       unfold GA;rw[in1 hq];simp only[cT];exact AaB hl hp hn hq)
      (fun L21=>by
       unfold GA;rw[AX,cF]) KK 0 (by omega) (by simp only[KK];omega)
     unfold Fl;refine Eq.trans h3 ?_;rw[AiR];cases g.all fun m=>g.all fun n=>g.contains (Ez l m n)<;>rfl
  simp only[if_true,show (((0:Int) != 0)=false) from rfl,cF,Ai5]
  exact hgr
def TY (f:Int) (l:Lt) (g:List Mo):Int:=if okF f&&okL l then (if EA f l g then 0 else 2) else 1
theorem Nw (f:Int) (l:Lt) {g:List Mo} (hn:g.length≤1048576):Lp KK f l [g]=some (TY f l g):=by
 unfold Lp QW TY;rw[Nv,oB];cases hc:(okF f&&okL l)
 ·rfl
 ·rw[aT] at hc;simp only[if_true,show (((0:Int) != 0)=false) from rfl,cF]
  unfold M2;show M1 KK f l [g] 0 _ (0:Int)=_;unfold M1;simp only[show decide ((0:Int)<(([g]:List (List Mo)).length:Int))=true from rfl,show decide ((0:Int)≤0)=true from rfl,aS,cT]
  rw[show ([g]:List (List Mo)).getD ((0:Int)+0).toNat []=g from rfl,Rk hc.1 (GL.1 hc.2) hn,oB]
  cases EA f l g
  ·rfl
  ·rfl
theorem Rm (f:Int) (l:Lt) {g:List Mo} (hn:g.length≤1048576) (b:Bool):Ww KK f l g b=some (if okF f&&okL l then (if b&&EA f l g then 0 else 2) else 1):=by
 unfold Ww Wv;simp only[oT,tO,cT,F4,oB];cases b
 ·simp only[cF,oB];cases okF f&&okL l<;>rfl
 ·simp only[cT,JO f l hn,oB];cases okF f&&okL l<;>cases EA f l g<;>rfl
def Ahy (t:List Vc) (q:Nat) (v:Vc):Bool:=C1 v&&(Nat.beq q 0||ltV (t.getD (q-1) (0,0)) v)
def Ahz (t:List Vc):Bool:=Co (Ahy t) 0 t&&(decide (1≤t.length)&&decide (t.length≤16))
def Aim (f:Int) (l:Lt) (g:List Mo) (t:List Vc):Int:=if okF f&&okL l&&Ahz t then (if EA f l g then 0 else 2) else 1
structure Ain (f:Int) (l:Lt) (g:List Mo) (t:List Vc):Prop where
 fr:okF f=true
 la:IsL l
 pr:Pre f l g
 vec:∀ v∈t,C1 v=true
 t1:1≤t.length
 t2:t.length≤16
theorem AaC {v:Vc} (h:C1 v=true):Sv v:=by
 rw[Cq] at h;simp only[Sv];omega
def mvS (l:Lt) (m:Mo) (v:Vc):Vc:=Bc l (BT m v)
theorem Pr {l:Lt} (hl:IsL l) {m:Mo} (hm:FQ m) {v:Vc} (hv:Sv v):SX KK l m v=some (mvS l m v):=by
 unfold SX;rw[O9 (Cn hm.1) hv hm.2,oB,Ea hl (IH (Cn hm.1) hv hm.2)];rfl
theorem XV {l:Lt} (hl:IsL l) {m:Mo} (hm:FQ m) {v:Vc} (hv:Sv v):TB KK l m v=some (mvS l m v):=by
 unfold TB;rw[Pa (Cn hm.1) hv hm.2,oB,DP hl (IH (Cn hm.1) hv hm.2)];rfl
def AhA (l:Lt) (g:List Mo) (t:List Vc):List (List Vc):=g.map fun m=>t.map (mvS l m)
theorem Rn {n:Nat} (h:n≤1000000):Nat.ble n (lim 24)=true:=by
 simp only[lim,AjV];omega
def AhB (i:Int):List Nat→List Int→Option (List Int)
 | [],o=>some o
 | n :: r,o=>bif decide (o.getD n 0≥0) then none else AhB i r (o.set n i)
def Aii:List (List Nat)→Nat→List Int→Option (List Int)
 | [],_,o=>some o
 | c :: r,i,o=>match AhB (i:Int) c o with | some o'=>Aii r (i+1) o' | none=>none
def Aij:List (List Nat)→Nat→Nat→Option Nat
 | [],_,_=>none
 | c :: r,i,k=>if k∈c then some i else Aij r (i+1) k
theorem Ps {α:Type} [DecidableEq α] (l m:List α) (hm:m.Nodup) (h1:∀ x∈m,x∈l) (h2:l.length≤m.length):∀ x∈l,x∈m:=fun x hx=>by
 refine Decidable.byContradiction fun hn=>?_;have:=Hv m (l.erase x) hm fun y hy=>(List.mem_erase_of_ne (fun (e:y=x)=>hn (e▸hy))).2 (h1 y hy);rw[All hx] at this;have:=List.length_pos_of_mem hx;omega
abbrev shV:Sh:=.cons (.int .i64) (.int .i64)
def AiF (xs:List (Vc×Bool)) (vs:List Vc):List (Vc×Bool):=vs.foldl (fun s a=>Ew (AO shV) s a true) xs
def XW (l:Lt) (g:List Mo) (t:List Vc):Prop:=(AhA l g t).flatten.Nodup∧∀ v∈Ac l,v∈(AhA l g t).flatten
instance (l:Lt) (g:List Mo) (t:List Vc):Decidable (XW l g t):=by unfold XW;infer_instance
theorem Aez {l:Lt} (hl:IsL l):w (l.1*l.2.2)=((Ac l).length:Int):=by
 rw[FY hl,Nj hl];have:=hl.ix;have:0≤l.1*l.2.2:=Aj9 (by have:=hl.a1;omega) (by have:=hl.c1;omega)
 exact Az (by omega) (by omega)
theorem GS {l:Lt} (hl:IsL l) (v:Vc):B9 l v<(Ac l).length:=by
 have h1:=(O6 hl v).2;rw[FY hl];have:=Nj hl;omega
def cnS (l:Lt) (C:List (List Vc)):List (List Nat):=C.map fun c=>c.map (B9 l)
theorem TZ {l:Lt} (hl:IsL l) {u v:Vc} (hu:Aw l u=true) (hv:Aw l v=true) (h:B9 l u=B9 l v):u=v:=by
 obtain⟨i,hi,e1⟩:=AjX (Hw hl hu);obtain⟨j,hj,e2⟩:=AjX (Hw hl hv);have h1:=B1 hl hi;have h2:=B1 hl hj;rw[e1] at h1;rw[e2] at h2;have:i=j:=by omega
 subst this;rw[← e1,← e2]
theorem Hx {α:Type} {body:(Int×List α→Option (List α))→Int×List α→Option (List α)} (l:List α)
  (h1:∀ L q s (hq:q<l.length),s.length=l.length→body L ((q:Int),s)=L (((q+1:Nat):Int),s.set q l[q])) (h2:∀ L s,body L ((l.length:Int),s)=some s):∀ n q s,q≤l.length→l.length-q<n→s.length=l.length→s.take q=l.take q→AL body n ((q:Int),s)=some l
 | 0,q,s,_,h,_,_=>by omega
 | n+1,q,s,hq,h,hs,ht=>by
  show body (AL body n) ((q:Int),s)=_;by_cases hlt:q<l.length
  ·rw[h1 _ q s hlt hs];refine Hx l h1 h2 n (q+1) _ hlt (by omega) (by rw[Ajd,hs]) ?_
   rw[Ako,Ako,Ak3 (AiK _),ht,AjI (by omega),AiI hlt]
  ·have e:q=l.length:=by omega
   subst e;rw[h2];rw[Aj0,← hs,Aj0] at ht;rw[ht]
theorem AdP {n b:Nat} (h:n≤1048576) (hb:0<b) (hb2:b≤1000):Nat.ble n (lim b)=true:=by
 simp only[lim,AjV];rw[Nat.le_div_iff_mul_le hb];have:n*b≤1048576*1000:=Alb h hb2;omega
theorem Pu (m:Mo):ZG KK m=some m:=by
 unfold ZG V4 V5;rfl
theorem Nx {l:List Mo} (hl:l.length≤1048576):Ox KK l=some l:=by
 unfold Ox V6;have h0:(decide (0≤(l.length:Int))&&Nat.ble (l.length:Int).toNat (lim 48)&&((l.length:Int)==(l.length:Int)))=true:=by
  rw[show (l.length:Int).toNat=l.length by omega,AdP hl (by omega) (by omega)];simp
 rw[h0,cT];have h:=Hx (body:=fun L x=>MK KK l (fun v0 v1=>L (v0,v1)) x.1 x.2) l
  (fun L q s hq hs=>by
   unfold MK;simp only;have hz:((0:Int)+(q:Int)).toNat=q:=by omega
   rw[in1 hq,in1 (show q<s.length by omega),in0,gd hq,As (by omega),hz]
   simp only[aS,cT];rw[Pu,oB])
  (fun L s=>by
   unfold MK;simp only;rw[AX,cF]) KK 0 (List.replicate (l.length:Int).toNat dMo) (by omega) (by simp only[KK];omega) (by simp) (by simp)
 unfold QF;exact h
theorem Pv (m:Mo):Aam KK m m=some true:=by
 unfold Aam Xd Jv;simp
theorem Pw (v:Vc):Jv KK v v=some true:=by
 unfold Jv;simp
theorem Ny {l:List Mo} (hl:l.length≤1048576):Xf KK l l=some true:=by
 unfold Xf Xe Q5;rw[show ((l.length:Int) != (l.length:Int))=false by simp,cF]
 have h:=B0 (X:=Int) (body:=fun L x=>Nc KK l l (fun v0=>L v0) x) l (fun q=>(q:Int)) (fun _=>true) (some false) (some true)
  (fun L q hq=>by
   unfold Nc;rw[in1 hq,in0,gd hq,As (by omega),Pv]
   simp)
  (fun L=>by
   unfold Nc;rw[AX,cF]) KK 0 (by omega) (by simp only[KK];omega)
 refine h.trans ?_;rw[AiR,show (l.all fun _=>true)=true from AiL.mpr (by simp)]
 rfl
theorem Ro {l:List Vc} (hl:l.length≤1048576):W8 KK l l=some true:=by
 unfold W8 W7 Q3;rw[show ((l.length:Int) != (l.length:Int))=false by simp,cF]
 have h:=B0 (X:=Int) (body:=fun L x=>Na KK l l (fun v0=>L v0) x) l (fun q=>(q:Int)) (fun _=>true) (some false) (some true)
  (fun L q hq=>by
   unfold Na;rw[in1 hq,in0,gd hq,As (by omega),Pw]
   simp)
  (fun L=>by
   unfold Na;rw[AX,cF]) KK 0 (by omega) (by simp only[KK];omega)
 refine h.trans ?_;rw[AiR,show (l.all fun _=>true)=true from AiL.mpr (by simp)]
 rfl
theorem Px {n:Nat} {left:Int} (h0:0≤left) (h1:left≤1048576) (h:(n:Int)≤left):decide ((w (left-(n:Int)))<(0:Int))=false∧w (left-(n:Int))=left-n:=by
 have e:w (left-(n:Int))=left-n:=Az (by omega) (by omega)
 rw[e];exact⟨dF (by omega),rfl⟩
theorem Py {n:Nat} {left:Int} (h0:0≤left) (h1:left≤1048576) (hm:n≤maxLen) (h:¬ (n:Int)≤left):decide ((w (left-(n:Int)))<(0:Int))=true:=by
 simp only[maxLen] at hm;rw[Az (by omega) (by omega)]
 exact dT (by omega)
end Go.Proofs.YteheolldcpjkcaaGreat.X
