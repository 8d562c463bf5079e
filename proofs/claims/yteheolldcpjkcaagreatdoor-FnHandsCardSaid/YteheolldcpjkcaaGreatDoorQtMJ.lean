/- Plain facts: marks written into lists, and marks found again. -/
import Derived.Test.YteheolldcpjkcaaGreatDoorQtME
import Derived.Test.YteheolldcpjkcaaGreatDoorQzXLib
namespace Go.Proofs.YteheolldcpjkcaaGreatDoor.X
open Go
set_option linter.unusedSimpArgs false
set_option linter.unusedVariables false
theorem Qj {X R:Type} {body:(X→Option R)→X→Option R} (n:Nat) (P:Nat→X→Prop) (Q:R→Prop) (h1:∀ L q x,q<n→P q x→∃ x',P (q+1) x'∧body L x=L x') (h2:∀ L x,P n x→∃ r,Q r∧body L x=some r):∀ fuel q x,q≤n→n-q<fuel→P q x→∃ r,Q r∧AJ body fuel x=some r
 | 0,q,x,_,h,_=>by omega
 | fuel+1,q,x,hq,h,hp=>by
  by_cases hlt:q<n
  ·obtain⟨x',hp',e⟩:=h1 (AJ body fuel) q x hlt hp;obtain⟨r,hr,e2⟩:=Qj n P Q h1 h2 fuel (q+1) x' hlt (by omega) hp'
   exact⟨r,hr,by show body (AJ body fuel) x=_;rw[e,e2]⟩
  ·have e:q=n:=by omega
   subst e;exact h2 (AJ body fuel) x hp
def MkI (k:Int) (s:List Int) (n:Nat):Prop:=∀ i,i<n→s[i]? = some (k+(i:Int))
def Ap6 (k:Int) (s:List Vc) (n:Nat):Prop:=∀ i,i<n→s[i]? = some (k+2*(i:Int),k+1+2*(i:Int))
def SI (s:List Vc):Prop:=s.Pairwise fun a b=>ltV a b=true
theorem E7 (a:Vc):ltV a a=false:=DZ _
theorem N0 {a b c:Vc} (h:ltV a b=true) (k:ltV b c=true):ltV a c=true:=DP h k
theorem Ags {a b:Vc} (h:ltV a b=false) (k:ltV b a=false):a=b:=AcH (Qf rfl h k)
theorem N1 {a b:Vc} (h:ltV a b=true):ltV b a=false:=by
 cases hb:ltV b a
 ·rfl
 ·have:=N0 h hb;rw[E7] at this;cases this
theorem N2:∀ {a b:List Vc},SI a→SI b→(∀ x,x∈a↔x∈b)→a=b
 | [],[],_,_,_=>rfl
 | [],y :: b,_,_,h=>by have:=(h y).2 (by simp);cases this
 | x :: a,[],_,_,h=>by have:=(h x).1 (by simp);cases this
 | x :: a,y :: b,ha,hb,h=>by
  have ha':=Arr.1 ha;have hb':=Arr.1 hb;have e:x=y:=by
   rcases AqQ.1 ((h x).1 (by simp)) with e | e
   ·exact e
   ·rcases AqQ.1 ((h y).2 (by simp)) with e2 | e2
    ·exact e2.symm
    ·have h1:=hb'.1 x e;have h2:=ha'.1 y e2;rw[N1 h1] at h2;cases h2
  subst e;refine congrArg (x :: ·) (N2 ha'.2 hb'.2 fun z=>⟨fun hz=>?_,fun hz=>?_⟩)
  ·rcases AqQ.1 ((h z).1 (by simp[hz])) with e | e
   ·subst e;have:=ha'.1 z hz;rw[E7] at this;cases this
   ·exact e
  ·rcases AqQ.1 ((h z).2 (by simp[hz])) with e | e
   ·subst e;have:=hb'.1 z hz;rw[E7] at this;cases this
   ·exact e
def EJ (v:Vc):List Vc→List Vc
 | []=>[v]
 | a :: r=>bif ltV a v then a :: EJ v r else (bif a==v then a :: r else v :: a :: r)
theorem LN (v:Vc):∀ (s:List Vc) (x:Vc),x∈EJ v s↔x=v∨x∈s
 | [],x=>by simp[EJ]
 | a :: r,x=>by
  simp only[EJ];cases ltV a v
  ·rw[cF];cases h:a==v
   ·rw[cF];simp
   ·rw[cT];have:=beq_iff_eq.1 h;subst this;simp
  ·rw[cT];simp only[AqQ,LN v r x];constructor<;>rintro (h | h | h)<;>simp[h]
theorem XH (v:Vc):∀ {s:List Vc},SI s→SI (EJ v s)
 | [],_=>by simp[EJ,SI]
 | a :: r,h=>by
  have h':=Arr.1 h;simp only[EJ];cases hl:ltV a v
  ·rw[cF];cases he:a==v
   ·rw[cF];have hne:a≠v:=by simpa using he
    have hva:ltV v a=true:=by
     cases hv:ltV v a
     ·exact absurd (Ags hl hv) hne
     ·rfl
    refine Arr.2 ⟨fun b hb=>?_,h⟩;rcases AqQ.1 hb with e | e
    ·subst e;exact hva
    ·exact N0 hva (h'.1 b e)
   ·exact h
  ·rw[cT];refine Arr.2 ⟨fun b hb=>?_,XH v h'.2⟩;rcases (LN v r b).1 hb with e | e
   ·subst e;exact hl
   ·exact h'.1 b e
theorem LO (v:Vc):∀ s:List Vc,(EJ v s).length≤s.length+1
 | []=>by simp[EJ]
 | a :: r=>by
  have:=LO v r;simp only[EJ];cases ltV a v
  ·rw[cF];cases a==v<;>simp
  ·rw[cT];simpa using this
theorem AoR (u v:Vc):((u.1==v.1)&&(u.2==v.2))=(u==v):=by
 rw[ArU];simp only[aT,beq_iff_eq,Asv]
theorem Ge {s:List Vc} (hs:s.length≤1000000) (v:Vc):∀ (n q:Nat),q≤s.length→s.length-q<n→Km KK s v n (q:Int)=some (s.take q++EJ v (s.drop q))
 | 0,q,_,h=>by omega
 | n+1,q,hq,hn=>by
  show Pf KK s v (fun v0=>Km KK s v n v0) (q:Int)=_;have lim1:Nat.ble (0+((s.take ((0:Int)+(q:Int)).toNat).drop 0).length) (lim 16)=true:=DV (by simp;omega)
  have lim2:Nat.ble (([]++((s.take ((0:Int)+(q:Int)).toNat).drop 0)).length+[v].length) (lim 16)=true:=DV (by simp;omega)
  have lim3:Nat.ble ((([]++((s.take ((0:Int)+(q:Int)).toNat).drop 0))++[v]).length+((s.take ((0:Int)+(s.length:Int)).toNat).drop ((0:Int)+(q:Int)).toNat).length) (lim 16)=true:=DV (by simp;omega)
  have c1:(decide (0≤(0:Int))&&true&&decide ((q:Int)≤(s.length:Int)))=true:=by simp;omega
  have c2:(true&&decide ((q:Int)≤(s.length:Int))&&decide ((s.length:Int)≤(s.length:Int)))=true:=by simp;omega
  have fin:(([]++((s.take ((0:Int)+(q:Int)).toNat).drop 0))++[v])++((s.take ((0:Int)+(s.length:Int)).toNat).drop ((0:Int)+(q:Int)).toNat)=s.take q++v :: s.drop q:=by
   have e1:((0:Int)+(q:Int)).toNat=q:=by omega
   have e2:((0:Int)+(s.length:Int)).toNat=s.length:=by omega
   rw[e1,e2];simp
  unfold Pf;by_cases hlt:q<s.length
  ·rw[in1 hlt,in0,gd hlt];simp only[nT,Aro,Ash,aS,oT,tO,cT];rw[LK,oB,Aq (by omega),AoR,dC hlt]
   simp only[EJ];cases h1:ltV s[q] v
   ·rw[cF,cF];cases h2:s[q]==v
    ·rw[cF,cF,c1,cT,lim1,cT,lim2,cT,c2,cT,lim3,cT,fin,dC hlt]
    ·simp only[cT];rw[← dC hlt,AsD]
   ·simp only[cT];rw[Ge hs v n (q+1) (by omega) (by omega),tS hlt,AqT]
    rfl
  ·have:q=s.length:=by omega
   subst this;rw[AY,in0];simp only[nF,tO,oT,cT,cF,oB];rw[c1,cT,lim1,cT,lim2,cT,c2,cT,lim3,cT,fin];simp[EJ]
theorem Qk {s:List Vc} (hs:s.length≤1000000) (v:Vc):RO KK s v=some (EJ v s):=by
 have:=Ge hs v KK 0 (by omega) (by simp only[KK];omega)
 unfold RO TP;exact this.trans (by simp)
def BV (l:Lt) (g:List Mo) (v:Vc):List Vc:=g.foldl (fun s m=>EJ (mvS l m v) s) []
theorem Iz (f:Mo→Vc):∀ (g:List Mo) (s:List Vc),SI s→SI (g.foldl (fun s m=>EJ (f m) s) s)∧(∀ x,x∈g.foldl (fun s m=>EJ (f m) s) s↔x∈s∨∃ m∈g,x=f m)∧(g.foldl (fun s m=>EJ (f m) s) s).length≤s.length+g.length
 | [],s,h=>⟨h,fun x=>by simp,AqO _⟩
 | m :: g,s,h=>by
  obtain⟨h1,h2,h3⟩:=Iz f g (EJ (f m) s) (XH _ h);refine⟨h1,fun x=>?_,?_⟩
  ·rw[Arq,h2,LN];simp only[AqQ,exists_eq_or_imp];constructor
   ·rintro ((h | h) | h)
    ·exact .inr (.inl h)
    ·exact .inl h
    ·exact .inr (.inr h)
   ·rintro (h | h | h)
    ·exact .inl (.inr h)
    ·exact .inl (.inl h)
    ·exact .inr h
  ·rw[Arq];have:=LO (f m) s;rw[Ark];omega
theorem IA (l:Lt) (g:List Mo) (v:Vc):SI (BV l g v):=(Iz _ g [] List.Pairwise.nil).1
theorem D0 {l:Lt} {g:List Mo} {v x:Vc}:x∈BV l g v↔∃ m∈g,x=mvS l m v:=by
 have:=(Iz (fun m=>mvS l m v) g [] List.Pairwise.nil).2.1 x;unfold BV;rw[this];simp
theorem AcP (l:Lt) (g:List Mo) (v:Vc):(BV l g v).length≤g.length:=by
 have:=(Iz (fun m=>mvS l m v) g [] List.Pairwise.nil).2.2;unfold BV;simpa using this
theorem Sr {l:Lt} (hl:IsL l) {g:List Mo} (hn:g.length≤1000) (hg:∀ m∈g,LL m) {v:Vc} (hv:Sv v):AaX KK l g v=some (BV l g v):=by
 have h:=Ao (R:=List Vc) (body:=fun L x=>Jk KK l g v (fun v0 v1=>L (v0,v1)) x.1 x.2) g (fun q s=>((q:Int),s)) (fun s m=>EJ (mvS l m v) s) some (fun q s=>s.length≤q)
  (fun L q s hq hi=>by
   refine⟨by have:=LO (mvS l g[q] v) s;omega,?_⟩
   show Jk KK l g v (fun v0 v1=>L (v0,v1)) (q:Int) s=_;unfold Jk;rw[in1 hq,in0,gd hq];simp only[aS,cT];rw[show (((g[q].1.1,g[q].1.2.1,g[q].1.2.2),g[q].2):Mo)=g[q] from rfl,Sp hl (hg _ (gM hq)) hv,oB,Qk (by omega),oB,Aq (by omega)])
  (fun L s hi=>by
   show Jk KK l g v (fun v0 v1=>L (v0,v1)) (g.length:Int) s=_;unfold Jk;rw[AY,cF]) KK 0 [] (by omega) (by simp only[KK];omega) (by simp)
 unfold AaX AaW TQ;rw[AqN] at h;exact h
def dd (s:List Vc) (a:Vc):List Vc:=bif s.getLast? == some a then s else s++[a]
structure Cm (l:List Vc) (p m:Nat) (s:List Vc):Prop where
 len:s.length=l.length
 lt:m<p
 pl:p≤l.length
 kept:s.take m=(l.take p).foldl dd []
 rest:∀ i,p≤i+1→s[i]? = l[i]?
theorem Zq {l:Lt} (hl:IsL l) (v:Vc):Agh KK l v=some (AB l v):=by
 unfold Agh AB;have:=hl.a1;have:=hl.a2;have:=hl.c1;have:=hl.c2;simp only[EI,oB,oT,tO,cT];rw[Ay (n:=l.1-1) (by omega) (by omega),Ay (n:=l.2.2-1) (by omega) (by omega)]
 by_cases h:0≤v.1∧v.1≤l.1-1<;>simp[h]
theorem Alv {l:Lt} (h:okL l=true):IsL l:=C2.1 h
def Ee (f:Int) (l:Lt) (g:List Mo) (b:Bool):Int:=if okF f&&okL l then (if b&&HC f l g then 0 else 2) else 1
structure CH (f:Int) (l:Lt) (g:List Mo):Prop where
 la:IsL l
 pr:Pre f l g
 gr:HC f l g=true
theorem XI {f:Int} {l:Lt} {g:List Mo} {b:Bool} (h:Ee f l g b=0):CH f l g∧b=true:=by
 unfold Ee at h;by_cases h1:(okF f&&okL l)=true
 ·rw[if_pos h1] at h;by_cases h2:(b&&HC f l g)=true
  ·simp only[aT] at h1 h2;refine⟨⟨Alv h1.2,AcK ?_,h2.2⟩,h2.1⟩;have:=h2.2;unfold HC at this;simp only[aT] at this;exact this.1
  ·rw[if_neg h2] at h;omega
 ·rw[if_neg h1] at h;omega
theorem CH.good {f:Int} {l:Lt} {g:List Mo} (h:CH f l g):∀ m∈g,LL m:=fun m hm=>h.pr.good h.la hm
theorem CH.len {f:Int} {l:Lt} {g:List Mo} (h:CH f l g):g.length≤768:=h.pr.len h.la
theorem Ce {l:Lt} (hl:IsL l) {u v:Vc}:As l u=As l v↔InL l (u.1-v.1,u.2-v.2):=by
 have ha:=hl.a1;have hc:=hl.c1;constructor
 ·intro h;have h1:(u.1-(u.2 / l.2.2)*l.2.1) % l.1=(v.1-(v.2 / l.2.2)*l.2.1) % l.1:=congrArg Prod.fst h;have h2:u.2 % l.2.2=v.2 % l.2.2:=congrArg Prod.snd h;have e1:=AsE (u.1-(u.2 / l.2.2)*l.2.1) l.1;have e2:=AsE (v.1-(v.2 / l.2.2)*l.2.1) l.1;have e3:=AsE u.2 l.2.2;have e4:=AsE v.2 l.2.2;rw[Aq5] at e1 e2 e3 e4;refine⟨(u.1-(u.2 / l.2.2)*l.2.1) / l.1-(v.1-(v.2 / l.2.2)*l.2.1) / l.1,u.2 / l.2.2-v.2 / l.2.2,Prod.ext ?_ ?_⟩
  ·show u.1-v.1=_;rw[Atc,Atc];omega
  ·have e5:=Atc (u.2 / l.2.2) (v.2 / l.2.2) l.2.2;show u.2-v.2=(u.2 / l.2.2-v.2 / l.2.2)*l.2.2;omega
 ·rintro⟨i,j,h⟩
  have h1:u.1-v.1=i*l.1+j*l.2.1:=congrArg Prod.fst h;have h2:u.2-v.2=j*l.2.2:=congrArg Prod.snd h;have e2:u.2=v.2+j*l.2.2:=by omega
  have d:u.2 / l.2.2=v.2 / l.2.2+j:=by rw[e2,Int.add_mul_ediv_right _ _ (by omega)]
  refine Prod.ext ?_ ?_
  ·show (u.1-(u.2 / l.2.2)*l.2.1) % l.1=(v.1-(v.2 / l.2.2)*l.2.1) % l.1;refine GQ ⟨i,?_⟩;rw[d,Ar5,Aq5 l.1 i];omega
  ·show u.2 % l.2.2=v.2 % l.2.2;exact GQ ⟨j,by rw[Aq5];exact h2⟩
theorem AcQ (l:Lt):InL l (0,0):=⟨0,0,by simp⟩
theorem Agt {l:Lt} {u:Vc} (hu:InL l u):InL l (-u.1,-u.2):=Dl (Bp l) hu
theorem Gf (m:Mt) (u v:Vc) (i j:Int):Ag m (i*u.1+j*v.1,i*u.2+j*v.2)=(i*(Ag m u).1+j*(Ag m v).1,i*(Ag m u).2+j*(Ag m v).2):=by
 unfold Ag;refine Prod.ext ?_ ?_<;>simp only[Atv,As0 m.1,As0 m.2.1,As0 m.2.2.1,As0 m.2.2.2]<;>omega
theorem Ss (m:Mt) (u v:Vc):Ag m (u.1-v.1,u.2-v.2)=((Ag m u).1-(Ag m v).1,(Ag m u).2-(Ag m v).2):=by
 unfold Ag;refine Prod.ext ?_ ?_<;>simp only[AtM]<;>omega
theorem IB {l:Lt} (hl:IsL l) {m:Mt} (hs:BJ l m=true) {v:Vc} (hv:InL l v):InL l (Ag m v):=by
 unfold BJ at hs;simp only[aT,beq_iff_eq] at hs;have h1:=(C1 hl _).1 hs.1;have h2:=(C1 hl _).1 hs.2;obtain⟨i,j,rfl⟩:=hv;have e:=Gf m (l.1,0) l.2 i j;have e2:((i*l.1+j*l.2.1,j*l.2.2):Vc)=(i*l.1+j*l.2.1,i*0+j*l.2.2):=by simp
 rw[e2];have e3:Ag m (i*l.1+j*l.2.1,i*0+j*l.2.2)=(i*(Ag m (l.1,0)).1+j*(Ag m l.2).1,i*(Ag m (l.1,0)).2+j*(Ag m l.2).2):=e;rw[e3];have a1:=Bp l (0,0) _ i (AcQ l) h1;have a2:=Bp l _ _ j a1 h2;simpa using a2
theorem Dm (m n:Mt) (v:Vc):Ag (mmS m n) v=Ag m (Ag n v):=by
 unfold Ag mmS;refine Prod.ext ?_ ?_<;>simp only[Atv,Ar5,Ata]<;>omega
theorem Du (v:Vc):Ag (1,0,0,1) v=v:=by
 unfold Ag;simp
def AcR (m:Mt):Nat→Mt
 | 0=>(1,0,0,1)
 | k+1=>mmS m (AcR m k)
theorem Agu:((pmQ++pmH).all fun m=>(List.range 6).any fun k=>mmS (AcR m k) m==(1,0,0,1))=true:=by decide +kernel
theorem XJ {l:Lt} (hl:IsL l) {m:Mt} (hs:BJ l m=true):∀ (k:Nat) {v:Vc},InL l v→InL l (Ag (AcR m k) v)
 | 0,v,h=>by rw[AcR,Du];exact h
 | k+1,v,h=>by rw[AcR,Dm];exact IB hl hs (XJ hl hs k h)
theorem Agv {l:Lt} (hl:IsL l) {m:Mt} (hm:m∈pmQ++pmH) (hs:BJ l m=true) {v:Vc} (h:InL l (Ag m v)):InL l v:=by
 obtain⟨k,_,hk⟩:=ArI.1 (AqL.1 Agu m hm);have:=XJ hl hs k h;rw[← Dm,beq_iff_eq.1 hk,Du] at this;exact this
theorem GT {f:Int} {l:Lt} {m:Mt} (h:m∈AP f l):BJ l m=true:=(AqY.1 h).2
theorem XK (m:Mo) (u v:Vc):((Ar m u).1-(Ar m v).1,(Ar m u).2-(Ar m v).2)=Ag m.1 (u.1-v.1,u.2-v.2):=by
 rw[Ss];unfold Ar;refine Prod.ext ?_ ?_<;>simp only<;>omega
theorem XL {f:Int} {l:Lt} (hl:IsL l) {m:Mo} (hm:m.1∈AP f l) {u v:Vc} (h:As l u=As l v):mvS l m u=mvS l m v:=by
 unfold mvS;rw[Ce hl,XK];exact IB hl (GT hm) ((Ce hl).1 h)
theorem AcS {f:Int} {l:Lt} (hl:IsL l) {m:Mo} (hm:m.1∈AP f l) {u v:Vc} (hu:AB l u=true) (hv:AB l v=true) (h:mvS l m u=mvS l m v):u=v:=by
 unfold mvS at h;rw[Ce hl,XK] at h;have:=(Ce hl).2 (Agv hl (Cc hm) (GT hm) h)
 rwa [DQ hl hu,DQ hl hv] at this
theorem E8 {l:Lt} (hl:IsL l) (v:Vc):As l (As l v)=As l v:=DQ hl (AN hl v)
theorem Uz {f:Int} {l:Lt} (hl:IsL l) {m n:Mo} (hm:m.1∈AP f l) (v:Vc):mvS l m (mvS l n v)=mvS l (CP l m n) v:=by
 have h1:mvS l m (mvS l n v)=mvS l m (Ar n v):=XL hl hm (E8 hl _);rw[h1];unfold mvS CP;rw[Ce hl];have h2:=(Ce hl).1 (E8 hl (Ar m n.2));have e:((Ar m (Ar n v)).1-(Ar (mmS m.1 n.1,As l (Ar m n.2)) v).1,(Ar m (Ar n v)).2-(Ar (mmS m.1 n.1,As l (Ar m n.2)) v).2)=(-((As l (Ar m n.2)).1-(Ar m n.2).1),-((As l (Ar m n.2)).2-(Ar m n.2).2)):=by
  have e1:=Dm m.1 n.1 v;generalize hr:As l (Ar m n.2)=r;unfold Ar;simp only;rw[e1];have e2:Ag m.1 ((Ag n.1 v).1+n.2.1,(Ag n.1 v).2+n.2.2)=((Ag m.1 (Ag n.1 v)).1+(Ag m.1 n.2).1,(Ag m.1 (Ag n.1 v)).2+(Ag m.1 n.2).2):=by
   have:=Gf m.1 (Ag n.1 v) n.2 1 1;simpa using this
  rw[e2];refine Prod.ext ?_ ?_<;>simp only<;>omega
 rw[e];exact Agt h2
theorem UA {l:Lt} (hl:IsL l) {v:Vc} (hv:AB l v=true):mvS l uMo v=v:=by
 unfold mvS Ar uMo;simp only;rw[Du];simp only[Asw];exact DQ hl hv
theorem CH.stab {f:Int} {l:Lt} {g:List Mo} (h:CH f l g) {m:Mo} (hm:m∈g):m.1∈AP f l:=(h.pr.mem m hm).1
theorem CH.one {f:Int} {l:Lt} {g:List Mo} (h:CH f l g):uMo∈g:=by
 have:=h.gr;unfold HC at this;simp only[aT] at this;exact AqW.1 this.2.1
theorem CH.mul {f:Int} {l:Lt} {g:List Mo} (h:CH f l g) {m n:Mo} (hm:m∈g) (hn:n∈g):CP l m n∈g:=by
 have:=h.gr;unfold HC at this;simp only[aT] at this;exact AqW.1 (AqL.1 (AqL.1 this.2.2 m hm) n hn)
theorem EK {f:Int} {l:Lt} {g:List Mo} (h:CH f l g) {u v:Vc} (hu:u∈BV l g v):AB l u=true:=by
 obtain⟨m,_,rfl⟩:=D0.1 hu;exact AN h.la _
theorem St {f:Int} {l:Lt} {g:List Mo} (h:CH f l g) {v:Vc} (hv:AB l v=true):v∈BV l g v:=D0.2 ⟨uMo,h.one,(UA h.la hv).symm⟩
theorem GU {f:Int} {l:Lt} {g:List Mo} (h:CH f l g) {u v w:Vc} (hu:u∈BV l g v) (hw:w∈BV l g u):w∈BV l g v:=by
 obtain⟨m,hm,rfl⟩:=D0.1 hu;obtain⟨n,hn,rfl⟩:=D0.1 hw;exact D0.2 ⟨CP l n m,h.mul hn hm,Uz h.la (h.stab hn) v⟩
theorem AcT {s:List Vc} (h:SI s):s.Nodup:=List.Pairwise.imp (fun {a b} hab e=>by subst e;rw[E7] at hab;cases hab) h
theorem IC {f:Int} {l:Lt} {g:List Mo} (h:CH f l g) {u v:Vc} (hv:AB l v=true) (hu:u∈BV l g v):v∈BV l g u:=by
 have hcu:=EK h hu;obtain⟨m,hm,rfl⟩:=D0.1 hu;have hO:=St h hcu
 -- the motion goes round in the orbit
 have hsub:∀ x∈(BV l g (mvS l m v)).map (mvS l m),x∈BV l g (mvS l m v):=by
  intro x hx;obtain⟨y,hy,rfl⟩:=Aq6.1 hx;exact GU h hy (D0.2 ⟨m,hm,rfl⟩)
 have hnd:((BV l g (mvS l m v)).map (mvS l m)).Nodup:=by
  refine Asf.2 (AtC (fun {a b} ha hb hab e=>hab ?_) (AcT (IA l g (mvS l m v))));exact AcS h.la (h.stab hm) (EK h ha) (EK h hb) e
 have hall:=Sq (BV l g (mvS l m v)) ((BV l g (mvS l m v)).map (mvS l m)) hnd (fun x hx=>hsub x hx) (by simp)
 obtain⟨y,hy,e⟩:=Aq6.1 (hall _ hO);have:=AcS h.la (h.stab hm) (EK h hy) hv e;rw[this] at hy;exact hy
theorem Alw {f:Int} {l:Lt} {g:List Mo} (h:CH f l g) {u v:Vc} (hv:AB l v=true) (hu:u∈BV l g v):BV l g u=BV l g v :=
 N2 (IA l g u) (IA l g v) fun x=>⟨fun hx=>GU h hu hx,fun hx=>GU h (IC h hv hu) hx⟩
def Jr (l:Lt) (g:List Mo) (v:Vc):Bool:=(BV l g v).headD (0,0)==v
theorem LP {f:Int} {l:Lt} {g:List Mo} (h:CH f l g) {v:Vc} (hv:AB l v=true):∃ w t,BV l g v=w :: t∧(w=v∨ltV w v=true):=by
 have hs:=St h hv;have hi:=IA l g v;cases ho:BV l g v with
 | nil=>rw[ho] at hs;cases hs
 | cons w t =>
  refine⟨w,t,rfl,?_⟩;rw[ho] at hs hi;rcases AqQ.1 hs with e | e
  ·exact .inl e.symm
  ·exact .inr ((Arr.1 hi).1 v e)
theorem Alx {f:Int} {l:Lt} {g:List Mo} (h:CH f l g) {v:Vc} (hv:AB l v=true):∃ w,Jr l g w=true∧AB l w=true∧v∈BV l g w∧(w=v∨ltV w v=true):=by
 obtain⟨w,t,ho,hw⟩:=LP h hv;have hwo:w∈BV l g v:=by rw[ho];simp
 refine⟨w,?_,EK h hwo,IC h hv hwo,hw⟩;unfold Jr;rw[Alw h hv hwo,ho];simp
theorem XM {f:Int} {l:Lt} {g:List Mo} (h:CH f l g) {v w:Vc} (hv:AB l v=true) (hr:Jr l g v=true) (hw:w∈BV l g v):w=v∨ltV v w=true:=by
 obtain⟨x,t,ho,_⟩:=LP h hv;unfold Jr at hr;rw[ho] at hr hw;have:x=v:=by simpa using hr
 subst this;rcases AqQ.1 hw with e | e
 ·exact .inl e
 ·have hi:=IA l g x;rw[ho] at hi;exact .inr ((Arr.1 hi).1 w e)
theorem Agw {f:Int} {l:Lt} {g:List Mo} (h:CH f l g) {u v:Vc} (hu:AB l u=true) (hv:AB l v=true) (h1:Jr l g u=true) (h2:Jr l g v=true) (h3:v∈BV l g u):u=v:=by
 rcases XM h hu h1 h3 with e | e
 ·exact e.symm
 ·rcases XM h hv h2 (IC h hu h3) with e2 | e2
  ·exact e2
  ·rw[N1 e] at e2;cases e2
def Fp (l:Lt) (g:List Mo):List Vc:=(Ab l).filter (Jr l g)
def AL (l:Lt) (g:List Mo):List (List Vc):=(Fp l g).map (BV l g)
theorem XN {l:Lt} (hl:IsL l) {v:Vc} (hv:AB l v=true):(Ab l)[BH l v]? = some v:=by
 have h:=Iu hl v;rw[AqR h];congr 1;have hm:(Ab l)[BH l v]∈Ab l:=gM h;have hc:=CO hm;exact Qi hl (BU.2 (by omega)) hv (Bu hl h)
theorem CS {l:Lt} {v:Vc} (h:v∈Ab l):AB l v=true:=by
 have:=CO h;exact BU.2 (by omega)
theorem Su {α:Type} (p:α→Bool):∀ (C D:List α) (q:Nat),F7 p q (C++D)=bif C.any p then F7 p q C else F7 p (q+C.length) D
 | [],D,q=>by simp
 | a :: C,D,q=>by
  have ih:=Su p C D (q+1);simp only[Asm,F7,AsB,Ark];cases h:p a
  ·rw[cF,cF,Aro,ih];have e:q+1+C.length=q+(C.length+1):=by omega
   rw[e]
  ·rfl
def Ep (l:Lt) (i:Int) (o:List Vc) (s:List Int):List Int:=o.foldl (fun s u=>s.set (BH l u) i) s
theorem LQ (l:Lt) (i:Int):∀ (o:List Vc) (s:List Int),(Ep l i o s).length=s.length
 | [],_=>rfl
 | u :: o,s=>by
  show (Ep l i o (s.set (BH l u) i)).length=_;rw[LQ l i o,ArO]
theorem LS {l:Lt} (hl:IsL l) (i:Int) {u:Vc} (hu:AB l u=true):∀ (o:List Vc) (s:List Int),(∀ x∈o,AB l x=true)→BH l u<s.length→(Ep l i o s)[BH l u]? = if u∈o then some i else s[BH l u]?
 | [],s,_,_=>by simp[Ep]
 | x :: o,s,ho,hs=>by
  show (Ep l i o (s.set (BH l x) i))[BH l u]? = _;rw[LS hl i hu o _ (fun y hy=>ho y (by simp[hy])) (by rw[ArO];exact hs)]
  by_cases h1:u∈o
  ·rw[if_pos h1,if_pos (by simp[h1])]
  ·rw[if_neg h1];by_cases h2:u=x
   ·subst h2;rw[if_pos (by simp),AsZ hs]
   ·rw[if_neg (by simp[h1,h2]),List.getElem?_set_ne (fun e=>h2 (Qi hl hu (ho x (by simp)) e.symm))]
def Aly (l:Lt) (g:List Mo) (q:Nat):List (List Vc):=(((Ab l).take q).filter (Jr l g)).map (BV l g)
def EL (l:Lt) (g:List Mo):List Int:=(Ab l).map fun v=>F7 (fun o=>o.contains v) 0 (AL l g)
theorem Sw (l:Lt) (g:List Mo):Aly l g (Ab l).length=AL l g:=by
 unfold Aly AL Fp;rw[Asl]
structure Num (l:Lt) (g:List Mo) (q:Nat) (s:List Int):Prop where
 len:s.length=(Ab l).length
 get:∀ u,AB l u=true→s[BH l u]? = some (F7 (fun o=>o.contains u) 0 (Aly l g q))
theorem Num.all {l:Lt} (hl:IsL l) {g:List Mo} {s:List Int} (h:Num l g (Ab l).length s):s=EL l g:=by
 apply AsH
 intro k;unfold EL;rw[Aq1];by_cases hk:k<(Ab l).length
 ·have hc:AB l (Ab l)[k]=true:=CS (gM hk);have:=h.get _ hc;rw[Bu hl hk,Sw] at this;rw[this,AqR hk];rfl
 ·rw[Arp (by rw[h.len];omega),Arp (by omega)]
  rfl
theorem Ql {f:Int} {l:Lt} {g:List Mo} (h:CH f l g):RP KK l g=some (AL l g):=by
 have hN:=AD h.la;have hh:=Ao (R:=List (List Vc)) (body:=fun L x=>GL KK l g (Ab l) (fun v0 v1=>L (v0,v1)) x.1 x.2) (Ab l) (fun q s=>((q:Int),s)) (fun s v=>bif Jr l g v then s++[BV l g v] else s) some (fun q s=>s.length≤q)
  (fun L q s hq hi=>by
   refine⟨by cases Jr l g (Ab l)[q]<;>simp<;>omega,?_⟩
   show GL KK l g (Ab l) (fun v0 v1=>L (v0,v1)) (q:Int) s=_;have hv:AB l (Ab l)[q]=true:=CS (gM hq);obtain⟨x,t,ho,_⟩:=LP h hv;unfold GL;rw[in1 hq,in0,gd hq];simp only[aS,cT];rw[Sr h.la (by have:=h.len;omega) h.good (Gc h.la hv),oB,ho]
   have e1:(decide (0≤(0:Int))&&decide ((0:Int)<(((x :: t:List Vc).length:Nat):Int)))=true:=by
    have:(0:Int)<(((x :: t:List Vc).length:Nat):Int):=by simp only[Ark];omega
    rw[dT this];rfl
   have e2:((x :: t:List Vc).getD ((0:Int)+(0:Int)).toNat (0,0))=x:=rfl;rw[e1,cT,e2,AoR,Als (by simp;omega),Aq (by omega)]
   have e3:Jr l g (Ab l)[q]=(x==(Ab l)[q]):=by
    unfold Jr;rw[ho];rfl
   rw[e3];cases x==(Ab l)[q]<;>rfl)
  (fun L s hi=>by
   show GL KK l g (Ab l) (fun v0 v1=>L (v0,v1)) ((Ab l).length:Int) s=_;unfold GL;rw[AY,cF]) KK 0 [] (by omega) (by simp only[KK];omega) (by simp)
 unfold RP TR Pg;rw[B1 h.la,oB];rw[AqN] at hh;refine Eq.trans hh (congrArg some ?_);rw[Bm,Aq8];rfl
end Go.Proofs.YteheolldcpjkcaaGreatDoor.X
