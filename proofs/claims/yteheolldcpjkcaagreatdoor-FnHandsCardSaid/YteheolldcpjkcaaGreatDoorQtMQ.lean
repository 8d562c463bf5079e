/- Plain facts: images of lattices under a matrix, and of patterns under a motion. -/
import Derived.Test.YteheolldcpjkcaaGreatDoorQtSB
namespace Go.Proofs.YteheolldcpjkcaaGreatDoor.X
open Go
set_option linter.unusedSimpArgs false
set_option linter.unusedVariables false
def CX (m:Mt):Mt:=(AO m*m.2.2.2,-(AO m)*m.2.1,-(AO m)*m.2.2.1,AO m*m.1)
theorem Agx:((pmQ++pmH).all fun m=>(pmQ++pmH).contains (CX m)&&(decide (mmS (CX m) m=(1,0,0,1))&&decide (mmS m (CX m)=(1,0,0,1))))=true:=by decide +kernel
theorem Er {m:Mt} (h:m∈pmQ++pmH):CX m∈pmQ++pmH∧(∀ v,Ag (CX m) (Ag m v)=v)∧∀ v,Ag m (Ag (CX m) v)=v:=by
 have:=AqL.1 Agx m h;simp only[aT,cM,dE] at this;obtain⟨h1,h2,h3⟩:=this;exact⟨h1,fun v=>by rw[← Dm,h2,Du],fun v=>by rw[← Dm,h3,Du]⟩
theorem XO (m:Mt) {S:Vc→Prop} (hS:Clo S):Clo fun v=>S (Ag m v):=by
 intro u v k hu hv;have e:=Gf m u v 1 k;simp only[ArY] at e;show S (Ag m (u.1+k*v.1,u.2+k*v.2));rw[e];exact hS _ _ k hu hv
theorem AcU {l:Lt} {S:Vc→Prop} (hS:Clo S) (h1:S (l.1,0)) (h2:S l.2) {v:Vc} (hv:InL l v):S v:=by
 obtain⟨i,j,rfl⟩:=hv;have k1:=IG hS h1 i;have:=hS _ _ j k1 h2;simpa using this
def Bf (m:Mt) (l:Lt):Lt:=CG (stI (stI (0,0,0) (Ag m (l.1,0))) (Ag m l.2))
theorem XP {l:Lt} (hl:IsL l) {m:Mt} (hm:m∈pmQ++pmH):(Hb (Ag m (l.1,0)) (Ag m l.2)).natAbs=l.1*l.2.2∧0<l.1*l.2.2:=by
 have h0:0<l.1*l.2.2:=Atw (by have:=hl.a1;omega) (by have:=hl.c1;omega)
 rw[XE];rcases P8 hm with h | h<;>rw[h]<;>omega
theorem DG {l:Lt} (hl:IsL l) {m:Mt} (hm:m∈pmQ++pmH):IsL (Bf m l)∧(Bf m l).1*(Bf m l).2.2=l.1*l.2.2∧∀ v,InL (Bf m l) (Ag m v)↔InL l v:=by
 obtain⟨b1,b2⟩:=LB hl (Bq hm);obtain⟨hdet,h0⟩:=XP hl hm;obtain⟨hg,hmul,hS⟩:=two (a:=Ag m (l.1,0)) (b:=Ag m l.2) (by have:=b1.y;omega) (by have:=b2.y;omega) (by unfold Hb at hdet;omega)
 obtain⟨-,i2,-⟩:=Er hm;unfold Bf;generalize stI (stI (0,0,0) (Ag m (l.1,0))) (Ag m l.2)=s at *;rw[show (Ag m (l.1,0)).1*(Ag m l.2).2-(Ag m l.2).1*(Ag m (l.1,0)).2=Hb (Ag m (l.1,0)) (Ag m l.2) from rfl,hdet] at hmul
 have hix:=hl.ix;have hc:1≤(s.2.2.natAbs:Int):=by
  rcases Arc s.2.2.natAbs with h | h
  ·rw[h] at hmul;simp at hmul;omega
  ·omega
 have e0:CG s=(s.1,(if s.2.2<0 then -s.2.1 else s.2.1) % s.1,(s.2.2.natAbs:Int)):=by
  unfold CG;rw[if_pos hg];refine congrArg (fun z=>(s.1,((if s.2.2<0 then -s.2.1 else s.2.1) % s.1,z))) ?_;split<;>omega
 have m1:=ArX hc (show 0≤s.1 by omega)
 have m2:=Arj (show 1≤s.1 by omega) (show 0≤(s.2.2.natAbs:Int) by omega)
 rw[Int.mul_one] at m1;rw[ArY] at m2;refine⟨?_,?_,fun v=>⟨fun h=>?_,fun h=>?_⟩⟩
 ·rw[e0];refine⟨by simp only;omega,by simp only;omega,by simp only;omega,by simp only;omega,Ar3 _ (by omega),ArP _ hg,?_⟩
  simp only;omega
 ·rw[e0];exact hmul
 ·have hC:=XO (CX m) (Bp l);obtain⟨k1,k2⟩:=(hS _ hC).1 ⟨by rw[i2];exact QG l,by rw[i2];exact IH l⟩
  have:=Yl hg hC k1 k2 h
  rwa [i2] at this
 ·obtain⟨k1,k2⟩:=(hS _ (Bp (CG s))).2 (Ad8 hg);exact AcU (XO m (Bp (CG s))) k1 k2 h
theorem Sx {a b:Int} (ha:0<a) (hb:0<b) (h1:a ∣ b) (h2:b ∣ a):a=b:=by
 have:=AtS hb h1;have:=AtS ha h2;omega
theorem KG {a b:Lt} (ha:IsL a) (hb:IsL b) (h:∀ v,InL a v↔InL b v):a=b:=by
 obtain⟨p1,p2,p3,p4,p5,p6,p7⟩:=ha;obtain⟨q1,q2,q3,q4,q5,q6,q7⟩:=hb;have hx:∀ {c d:Lt},1≤d.2.2→(∀ v,InL c v→InL d v)→d.1 ∣ c.1∧d.2.2 ∣ c.2.2:=by
  intro c d hd hcd;constructor
  ·obtain⟨i,j,e⟩:=hcd _ (QG c);have e1:c.1=i*d.1+j*d.2.1:=congrArg (fun x:Vc=>x.1) e;have e2:(0:Int)=j*d.2.2:=congrArg (fun x:Vc=>x.2) e;have hj:j=0:=by
    rcases AsU.mp e2.symm with h | h
    ·exact h
    ·omega
   subst hj;exact⟨i,by rw[e1,Ass,Asw,Aq5]⟩
  ·obtain⟨i,j,e⟩:=hcd _ (IH c);have e2:c.2.2=j*d.2.2:=congrArg (fun x:Vc=>x.2) e;exact⟨j,by rw[e2,Aq5]⟩
 obtain⟨x1,x2⟩:=hx q3 fun v hv=>(h v).1 hv;obtain⟨y1,y2⟩:=hx p3 fun v hv=>(h v).2 hv;have e1:=Sx (by omega) (by omega) y1 x1
 have e3:=Sx (by omega) (by omega) y2 x2
 have hd:InL b (a.2.1-b.2.1,0):=by
  have:=Bp b _ _ (-1) ((h _).1 (IH a)) (IH b);have e4:a.2.1 + -1*b.2.1=a.2.1-b.2.1:=by omega
  have e5:a.2.2 + -1*b.2.2=0:=by omega
  rwa [e4,e5] at this
 have e2:a.2.1=b.2.1:=by
  obtain⟨i,j,e⟩:=hd;have f1:a.2.1-b.2.1=i*b.1+j*b.2.1:=congrArg (fun x:Vc=>x.1) e;have f2:(0:Int)=j*b.2.2:=congrArg (fun x:Vc=>x.2) e;have hj:j=0:=by
   rcases AsU.mp f2.symm with h | h
   ·exact h
   ·omega
  subst hj;rw[Ass,Asw] at f1;have hi:i=0:=by
   rcases Int.lt_trichotomy i 0 with hi | hi | hi
   ·have:=Arj (show i≤-1 by omega) (show 0≤b.1 by omega)
    omega
   ·exact hi
   ·have:=Arj (show 1≤i by omega) (show 0≤b.1 by omega)
    omega
  rw[hi] at f1;omega
 exact Prod.ext e1 (Prod.ext e2 e3)
theorem AcV {a b:Vc} (ha:Bw a) (hb:Bw b) (hpos:0<(stI (stI (0,0,0) a) b).1):Lo KK [a,b]=some (CG (stI (stI (0,0,0) a) b)):=by
 have hB0:Bd 200 (0,0) a:=⟨by simp,ha.x,by simp[Dv]⟩
 have hla:=B4 (n:=a.2.natAbs) (by have:=ha.y;omega)
 have hlb:=B4 (n:=b.2.natAbs) (by have:=hb.y;omega)
 obtain⟨k1,k2⟩:=Em KK (0,0) a hla hB0;have k3:=E3 KK (0,0) a hla;have k4:gI 0 (euS KK (0,0) a).2≤200:=by unfold gI;simp only[ArL];omega
 have s1y:(stI (0,0,0) a).2.2.natAbs≤200:=by
  show (euS KK (0,0) a).1.2.natAbs≤200;simp at k3;have:=ha.y;omega
 have s1x:(stI (0,0,0) a).2.1.natAbs≤200:=k1;have s1a:(stI (0,0,0) a).1≤200:=k4;have s1p:0≤(stI (0,0,0) a).1:=Hx _ _;have hB1:Bd 80000 (stI (0,0,0) a).2 b:=by
  refine⟨by omega,by have:=hb.x;omega,?_⟩
  unfold Dv;have e1:=Asj s1x hb.y;have e2:=Asj hb.x s1y;omega
 obtain⟨m1,m2⟩:=Em KK _ b hlb hB1;have m3:=E3 KK (stI (0,0,0) a).2 b hlb;have m4:gI (stI (0,0,0) a).1 (euS KK (stI (0,0,0) a).2 b).2≤80000:=by
  rcases Asu (stI (0,0,0) a).1 1 with h | h
  ·have:(stI (0,0,0) a).1=0:=by omega
   rw[this];unfold gI;simp only[ArL];omega
  ·have:=Se (x:=(euS KK (stI (0,0,0) a).2 b).2) h;omega
 exact Ly [a,b] (by simp) (fun q s=>s=([a,b].take q).foldl stI (0,0,0)) rfl
  (fun q s hq h=>by
   match q,hq with
   | 0,_ =>
    subst h;refine⟨⟨⟨by simp,by have:=ha.x;simp;omega,by simp[Dv]⟩,by simp,by have:=ha.y;simp;omega,by simp,?_⟩,rfl⟩
    show gI 0 (euS KK (0,0) a).2≤_;omega
   | 1,_ =>
    subst h;refine⟨⟨⟨?_,?_,?_⟩,?_,?_,?_,?_⟩,rfl⟩
    ·have:=hB1.bp;show (stI (0,0,0) a).2.1.natAbs≤_;omega
    ·have:=hB1.bv;show b.1.natAbs≤_;omega
    ·have:=hB1.d;show Dv (stI (0,0,0) a).2 b≤_;omega
    ·show (stI (0,0,0) a).2.2.natAbs≤_;omega
    ·show b.2.natAbs≤_;have:=hb.y;omega
    ·show (stI (0,0,0) a).1.natAbs≤_;omega
    ·show gI (stI (0,0,0) a).1 (euS KK (stI (0,0,0) a).2 b).2≤_;omega)
  (fun s h=>by
   subst h;have y2:(euS KK (stI (0,0,0) a).2 b).1.2.natAbs≤200:=by
    rw[m3];rcases Arc b.2.natAbs with h | h
    ·rw[h,Nat.gcd_zero_right];exact s1y
    ·have:=Nat.gcd_le_right (m:=(stI (0,0,0) a).2.2.natAbs) h;have:=hb.y;omega
   refine⟨?_,?_,?_,?_⟩
   ·show 1≤(stI (stI (0,0,0) a) b).1;omega
   ·show gI (stI (0,0,0) a).1 (euS KK (stI (0,0,0) a).2 b).2≤_;omega
   ·show (euS KK (stI (0,0,0) a).2 b).1.1.natAbs≤_;omega
   ·show (euS KK (stI (0,0,0) a).2 b).1.2.natAbs≤_;omega)
theorem AcW {l:Lt} (hl:IsL l) {m:Mt} (hm:m∈pmQ++pmH):Lo KK [Ag m (l.1,0),Ag m l.2]=some (Bf m l):=by
 obtain⟨b1,b2⟩:=LB hl (Bq hm);obtain⟨hdet,h0⟩:=XP hl hm;obtain⟨hg,_⟩:=two (a:=Ag m (l.1,0)) (b:=Ag m l.2) (by have:=b1.y;omega) (by have:=b2.y;omega) (by unfold Hb at hdet;omega)
 exact AcV b1 b2 hg
abbrev Tv (v:Vc):Prop:=(-100000≤v.1∧v.1≤100000)∧-100000≤v.2∧v.2≤100000
def Bc (m:Mo):Mo:=(CX m.1,(-(Ag (CX m.1) m.2).1,-(Ag (CX m.1) m.2).2))
theorem Sy {m:Mo} (h:m.1∈pmQ++pmH) (v:Vc):Ar (Bc m) (Ar m v)=v:=by
 obtain⟨-,h2,-⟩:=Er h;have e:=Gf (CX m.1) (Ag m.1 v) m.2 1 1;simp only[ArY] at e;show ((Ag (CX m.1) ((Ag m.1 v).1+m.2.1,(Ag m.1 v).2+m.2.2)).1 + -(Ag (CX m.1) m.2).1,(Ag (CX m.1) ((Ag m.1 v).1+m.2.1,(Ag m.1 v).2+m.2.2)).2 + -(Ag (CX m.1) m.2).2)=v;rw[e,h2];refine Prod.ext ?_ ?_<;>simp only<;>omega
theorem ID {m:Mo} (h:m.1∈pmQ++pmH) (v:Vc):Ar m (Ar (Bc m) v)=v:=by
 obtain⟨-,-,h3⟩:=Er h;have e:=Gf m.1 (Ag (CX m.1) v) (Ag (CX m.1) m.2) 1 (-1);simp only[ArY,ArB] at e;show ((Ag m.1 ((Ag (CX m.1) v).1 + -(Ag (CX m.1) m.2).1,(Ag (CX m.1) v).2 + -(Ag (CX m.1) m.2).2)).1+m.2.1,(Ag m.1 ((Ag (CX m.1) v).1 + -(Ag (CX m.1) m.2).1,(Ag (CX m.1) v).2 + -(Ag (CX m.1) m.2).2)).2+m.2.2)=v;rw[e,h3,h3];refine Prod.ext ?_ ?_<;>simp only<;>omega
theorem IE (m:Mo) (u v:Vc):((Ar m u).1-(Ar m v).1,(Ar m u).2-(Ar m v).2)=Ag m.1 (u.1-v.1,u.2-v.2):=by
 rw[Ss];unfold Ar;refine Prod.ext ?_ ?_<;>simp only<;>omega
theorem Qm:((pmQ++pmH).all fun m=>Abp KK m==some (CX m))=true:=by decide +kernel
theorem AcX {m:Mt} (h:m∈pmQ++pmH) {v:Vc} (hv:Tv v) : -200000≤(Ag m v).1∧(Ag m v).1≤200000∧-200000≤(Ag m v).2∧(Ag m v).2≤200000:=by
 have hs:=Bq h;have p1:=AX hs.a (x:=v.1) (B:=100000) (by omega) (by omega) (by omega)
 have p2:=AX hs.b (x:=v.2) (B:=100000) (by omega) (by omega) (by omega)
 have p3:=AX hs.c (x:=v.1) (B:=100000) (by omega) (by omega) (by omega)
 have p4:=AX hs.d (x:=v.2) (B:=100000) (by omega) (by omega) (by omega)
 unfold Ag;simp only;omega
theorem AcY {m:Mo} (h:m.1∈pmQ++pmH) (ht:Tv m.2):Sv (Bc m).2:=by
 have:=AcX (Er h).1 ht;unfold Bc Sv;simp only;omega
theorem Zr {m:Mo} (h:m.1∈pmQ++pmH) (ht:Tv m.2):Afy KK m=some (Bc m):=by
 have e:=beq_iff_eq.1 (AqL.1 Qm m.1 h);have hb:=AcX (Er h).1 ht;unfold Afy;rw[e,oB,Cq (Bq (Er h).1) (show Sv m.2 by unfold Sv;omega),oB]
 unfold Fo;rw[oB,Ay (n := -1*(Ag (CX m.1) m.2).1) (by omega) (by omega),Ay (n := -1*(Ag (CX m.1) m.2).2) (by omega) (by omega)]
 unfold Bc;simp only[ArB,ArY]
def Fy (p:Pt) (m:Mo):Pt:=Zy p.1 (Bf m.1 p.2.1) fun c=>atS p (Ar (Bc m) c)
theorem AcZ {m:Mo} (h:m.1∈pmQ++pmH) (ht:Sv m.2) {v:Vc} (hv:Sv v):Sm (Ar m v):=by
 have:=De (Bq h) hv;unfold Sv at ht;unfold Ar Sm;simp only;omega
theorem Agy {p:Pt} (hp:IsP p) {m:Mo} (h:m.1∈pmQ++pmH) (ht:Tv m.2):Abr KK p m=some (Fy p m):=by
 obtain⟨hi,-,-⟩:=DG hp.l h;have hc:=AD hi;obtain⟨s1,s2⟩:=Iq hp.l;have hiv:=AcY h ht;have him:(Bc m).1∈pmQ++pmH:=(Er h).1;unfold Abr Abq Pn;rw[oB];simp only;rw[Cq (Bq h) s1,oB,Cq (Bq h) s2,oB,AcW hp.l h,oB,Zr h ht,oB,DX hi,oB];have hh:=Ao (X:=Int×List Int) (body:=fun L x=>Kr KK p m ((p.2.1.1,(0:Int)),p.2.1.2) (Bf m.1 p.2.1) (Bc m) (Ab (Bf m.1 p.2.1)) (fun v0 v1=>L (v0,v1)) x.1 x.2) (Ab (Bf m.1 p.2.1)) (fun q s=>((q:Int),s)) (fun s t=>s++[atS p (Ar (Bc m) t)]) (fun s=>some (p.1,Bf m.1 p.2.1,s)) (fun q s=>s.length≤q)
  (fun L q s hq hi2=>by
   have hv:=BS hi (gM hq);refine⟨by simp;omega,?_⟩
   unfold Kr;simp only;rw[in1 hq,in0,gd hq];simp only[aS,cT];rw[F5 (Bq him) hv hiv,oB,Acp hp (AcZ him hiv hv),oB,Hi (by simp;omega),Aq (by omega)]
   rfl)
  (fun L s hi2=>by
   unfold Kr;simp only;rw[AY,cF]) KK 0 [] (by omega) (by have:=B4 (n:=(Ab (Bf m.1 p.2.1)).length) (by omega);omega) (by simp)
 unfold Py;refine hh.trans ?_;simp only[AqN];rw[Dd (g:=fun t=>atS p (Ar (Bc m) t))];rfl
theorem N3 {α:Type} (num:α→Nat) (val:α→Int) (k:Nat) (x:Int):∀ (L:List α) (s:List Int),(∀ t∈L,num t=k→val t=x)→k<s.length→(s[k]? = some x∨∃ t∈L,num t=k)→(L.foldl (fun s t=>s.set (num t) (val t)) s)[k]? = some x
 | [],s,_,_,h=>by
  rcases h with h | ⟨t,ht,_⟩
  ·exact h
  ·cases ht
 | t :: L,s,hx,hk,h=>by
  rw[Arq];refine N3 num val k x L _ (fun u hu=>hx u (ArC _ hu)) (by rw[ArO];exact hk) ?_
  by_cases e:num t=k
  ·left;rw[e,AsZ hk,hx t (by simp) e]
  ·rw[List.getElem?_set_ne e];rcases h with h | ⟨u,hu,e2⟩
   ·exact .inl h
   ·rcases AqQ.1 hu with rfl | hu
    ·exact absurd e2 e
    ·exact .inr ⟨u,hu,e2⟩
theorem Hn {α:Type} (num:α→Nat) (val:α→Int):∀ (L:List α) (s:List Int),(L.foldl (fun s t=>s.set (num t) (val t)) s).length=s.length
 | [],_=>rfl
 | t :: L,s=>by rw[Arq,Hn num val L,ArO]
theorem Agz {l:Lt} (hl:IsL l) {u v:Vc} (h:BH l u=BH l v):As l u=As l v:=by
 refine Qi hl (AN hl u) (AN hl v) ?_;unfold BH at h ⊢;rw[E8 hl,E8 hl];exact h
theorem LT {p:Pt} (hl:IsL p.2.1) {u v:Vc} (h:InL p.2.1 (u.1-v.1,u.2-v.2)):atS p u=atS p v:=by
 rw[← C4 hl u,← C4 hl v,(Ce hl).2 h]
theorem Ac0 {l:Lt} (hl:IsL l) {m:Mo} (h:m.1∈pmQ++pmH) {u c:Vc} (e:As (Bf m.1 l) (Ar m u)=As (Bf m.1 l) c):InL l (u.1-(Ar (Bc m) c).1,u.2-(Ar (Bc m) c).2):=by
 obtain⟨hi,-,hI⟩:=DG hl h;have:=(Ce hi).1 e;rw[← hI,← IE,ID h];exact this
theorem Zs {p:Pt} (hp:IsP p) {m:Mo} (h:m.1∈pmQ++pmH):(Ab p.2.1).foldl (fun s t=>s.set (BH (Bf m.1 p.2.1) (Ar m t)) (atS p t)) (List.replicate (Ab p.2.1).length 0)=(Ab (Bf m.1 p.2.1)).map fun c=>atS p (Ar (Bc m) c):=by
 obtain⟨hi,hix,-⟩:=DG hp.l h;have hlen:(Ab (Bf m.1 p.2.1)).length=(Ab p.2.1).length:=by
  have e1:=BB hi;have e2:=BB hp.l;rw[A9 hi,A9 hp.l];omega
 refine AsH fun k=>?_;by_cases hk:k<(Ab (Bf m.1 p.2.1)).length
 ·have hn:=Bu hi hk;rw[Aq1,AqR hk];refine N3 _ _ k _ _ _ (fun t ht e=>?_) (by rw[AsF];omega) (.inr ?_)
  ·refine LT hp.l (Ac0 hp.l h (Agz hi ?_));rw[e,hn]
  ·refine⟨As p.2.1 (Ar (Bc m) (Ab (Bf m.1 p.2.1))[k]),Br hp.l (AN hp.l _),?_⟩;have e:As (Bf m.1 p.2.1) (Ar m (As p.2.1 (Ar (Bc m) (Ab (Bf m.1 p.2.1))[k])))=As (Bf m.1 p.2.1) (Ab (Bf m.1 p.2.1))[k]:=by
    generalize (Ab (Bf m.1 p.2.1))[k]=c;have h2:=Dl (Bp _) (C5 hp.l (Ar (Bc m) c));simp only[AtO] at h2;have h3:=(Ce hi).2 (show InL _ (_,_) from (IE m (As p.2.1 (Ar (Bc m) c)) (Ar (Bc m) c))▸((DG hp.l h).2.2 _).2 h2)
    rw[h3,ID h]
   refine Eq.trans ?_ hn;unfold BH;rw[e]
 ·rw[Arp (by rw[Hn,AsF];omega),Arp (by rw[AqZ];omega)]
theorem AgA {p:Pt} (hp:IsP p) {m:Mo} (h:m.1∈pmQ++pmH) (ht:Tv m.2):AbD KK p m=some (Fy p m):=by
 obtain⟨hi,hix,-⟩:=DG hp.l h;have hc:=AD hp.l;have htv:Sv m.2:=by unfold Sv;omega
 have hlen:(Ab (Bf m.1 p.2.1)).length=(Ab p.2.1).length:=by
  have e1:=BB hi;have e2:=BB hp.l;rw[A9 hi,A9 hp.l];omega
 have hcol:p.2.2.length=(Ab p.2.1).length:=by
  have:=hp.n;have e2:=BB hp.l;rw[A9 hp.l];omega
 unfold AbD AbC;rw[show YL KK m.1 p.2.1=some (Bf m.1 p.2.1) from JV hp.l (Bq h),oB,B1 hp.l,oB]
 have hk:(decide (0≤((Ab p.2.1).length:Int))&&Nat.ble (((Ab p.2.1).length:Int)).toNat (lim 8)&&(((Ab p.2.1).length:Int)==((Ab p.2.1).length:Int)))=true:=by
  rw[in0,Int.toNat_natCast,Hi (by omega)]
  simp
 rw[hk,cT,Int.toNat_natCast];have hh:=Ao (X:=Int×List Int) (body:=fun L x=>PD KK p m (Bf m.1 p.2.1) (Ab p.2.1) (fun v0 v1=>L (v0,v1)) x.1 x.2) (Ab p.2.1) (fun q s=>((q:Int),s)) (fun s t=>s.set (BH (Bf m.1 p.2.1) (Ar m t)) (atS p t)) (fun s=>some (p.1,Bf m.1 p.2.1,s)) (fun q s=>s.length=(Ab p.2.1).length)
  (fun L q s hq hi2=>by
   have hv:=BS hp.l (gM hq);refine⟨by rw[ArO];exact hi2,?_⟩
   have hnl:=Iu hi (Ar m (Ab p.2.1)[q]);unfold PD;simp only;rw[in1 hq,in0,gd hq];simp only[aS,cT];rw[Ec (Bq h) hv htv,oB,M7 hi (AcZ h htv hv),oB,in0,in1 (show q<p.2.2.length by omega),in1 (show BH (Bf m.1 p.2.1) (Ar m (Ab p.2.1)[q])<s.length by omega),Aq (by omega)]
   simp only[aS,cT];have e1:((0:Int)+(BH (Bf m.1 p.2.1) (Ar m (Ab p.2.1)[q]):Int)).toNat=BH (Bf m.1 p.2.1) (Ar m (Ab p.2.1)[q]):=by omega
   have e2:p.2.2.getD ((0:Int)+(q:Int)).toNat (0:Int)=atS p (Ab p.2.1)[q]:=by
    have e3:((0:Int)+(q:Int)).toNat=q:=by omega
    unfold atS;rw[Bu hp.l hq,e3]
   rw[e1,e2])
  (fun L s hi2=>by
   unfold PD;simp only;rw[AY,cF]) KK 0 (List.replicate (Ab p.2.1).length 0) (by omega) (by have:=B4 (n:=(Ab p.2.1).length) (by omega);omega) (by simp)
 unfold T5;refine hh.trans ?_;simp only[AqN];rw[Zs hp h];rfl
theorem Ac1 {p:Pt} (hp:IsP p) {m:Mo} (h:m.1∈pmQ++pmH):IsP (Fy p m):=by
 have hi:=(DG hp.l h).1;refine⟨hp.f1,hp.f2,hi,?_⟩;show ((((Ab (Bf m.1 p.2.1)).map _).length:Nat):Int)=_;rw[AqZ,A9 hi,BB hi];rfl
theorem AgB {p:Pt} (hp:okP p=true) {m:Mo} (h:m.1∈pmQ++pmH):okP (Fy p m)=true:=by
 have hP:=DJ hp;unfold okP at hp;simp only[aT] at hp;refine XS hp.1.1.1 (C2.2 (DG hP.l h).1) fun v _=>?_;have ha:=AqL.1 hp.2;unfold atS;rw[Arh];cases he:p.2.2[BH p.2.1 (Ar (Bc m) v)]? with
 | none=>rfl
 | some x=>exact ha x (Aq4 he)
theorem HD {p:Pt} (hp:IsP p) {m:Mo} (h:m.1∈pmQ++pmH) (c:Vc):atS (Fy p m) c=atS p (Ar (Bc m) c):=by
 obtain⟨hi,-,hI⟩:=DG hp.l h;rw[← C4 (p:=Fy p m) hi c];show atS (Zy p.1 (Bf m.1 p.2.1) _) (As (Bf m.1 p.2.1) c)=_;rw[XR hi (AN hi c)];refine LT hp.l ?_;rw[IE];have e:InL (Bf m.1 p.2.1) (Ag m.1 (Ag (Bc m).1 ((As (Bf m.1 p.2.1) c).1-c.1,(As (Bf m.1 p.2.1) c).2-c.2))):=by
  rw[show Ag m.1 (Ag (Bc m).1 ((As (Bf m.1 p.2.1) c).1-c.1,(As (Bf m.1 p.2.1) c).2-c.2))=_ from (Er h).2.2 _]
  have h2:=Dl (Bp _) (C5 hi c);simp only[AtO] at h2;exact h2
 exact (hI _).1 e
theorem XQ {p:Pt} (hp:IsP p) {m:Mo} (h:m.1∈pmQ++pmH) (d:Vc):Mf (Fy p m) (Ag m.1 d)↔Mf p d:=by
 have key:∀ u:Vc,Ar (Bc m) (u.1+(Ag m.1 d).1,u.2+(Ag m.1 d).2)=((Ar (Bc m) u).1+d.1,(Ar (Bc m) u).2+d.2):=fun u=>by
  have e:=IE (Bc m) (u.1+(Ag m.1 d).1,u.2+(Ag m.1 d).2) u;have e2:((u.1+(Ag m.1 d).1-u.1,u.2+(Ag m.1 d).2-u.2):Vc)=Ag m.1 d:=Prod.ext (by simp only;omega) (by simp only;omega)
  rw[e2,show Ag (Bc m).1 (Ag m.1 d)=d from (Er h).2.1 d] at e
  have e3:=congrArg (fun x:Vc=>x.1) e;have e4:=congrArg (fun x:Vc=>x.2) e;simp only at e3 e4;exact Prod.ext (by simp only;omega) (by simp only;omega)
 constructor
 ·intro hq u;have:=hq (Ar m u);rw[HD hp h,HD hp h,key,Sy h] at this;exact this
 ·intro hq u;rw[HD hp h,HD hp h,key];exact hq _
theorem Ac2 {p:Pt} (hp:IsP p) {m:Mo} (h:m.1∈pmQ++pmH):BI (Fy p m)=Bf m.1 (BI p):=by
 have hq:=Ac1 hp h;have hf:=(En hp).2;obtain⟨hi,-,hI⟩:=DG hf h;refine KG (En hq).2 hi fun v=>?_;have e:v=Ag m.1 (Ag (CX m.1) v):=((Er h).2.2 v).symm;rw[e,hI];refine⟨fun hv=>II hp ((XQ hp h _).1 (Gp hq hv)),fun hv=>II hq ((XQ hp h _).2 (Gp hp hv))⟩
theorem Ac3 {p:Pt} (hp:IsP p) {m:Mo} (h:m.1∈pmQ++pmH):Af (Fy p m)=Fy (Af p) m:=by
 unfold Af;rw[Ac2 hp h];show (p.1,Bf m.1 (BI p),(Ab (Bf m.1 (BI p))).map (atS (Fy p m)))=Zy p.1 (Bf m.1 (BI p)) _;refine congrArg (fun z=>(p.1,Bf m.1 (BI p),z)) (AsO fun c _=>?_);rw[HD hp h];exact (QH hp _).symm
theorem Zt {p:Pt} (hp:IsP p):BI (Af p)=BI p:=by
 have hq:=Bn hp;have key:∀ d,Mf (Af p) d↔Mf p d:=fun d=>by
  unfold Mf;simp only[QH hp]
 exact KG (En hq).2 (En hp).2 fun v=>⟨fun hv=>II hp ((key v).1 (Gp hq hv)),fun hv=>II hq ((key v).2 (Gp hp hv))⟩
theorem N4 {p:Pt} (hp:IsP p):Af (Af p)=Af p:=by
 show onS (Af p) (BI (Af p))=onS p (BI p);rw[Zt hp];unfold onS;refine congrArg (fun z=>(p.1,BI p,z)) (AsO fun c _=>QH hp c)
theorem Zu {p:Pt} (hp:IsP p) {m:Mo} (h:m.1∈pmQ++pmH):Af (Fy (Af p) m)=Fy (Af p) m:=by
 rw[Ac3 (Bn hp) h,N4 hp]
theorem AoS {p:Pt} (hp:IsP p):(Ab p.2.1).map (atS p)=p.2.2:=by
 have hn:=hp.n;have hl:=A9 hp.l;have hi:=BB hp.l;refine List.ext_getElem (by rw[AqZ];omega) fun i h1 h2=>?_
 rw[AqZ] at h1;rw[List.getElem_map];unfold atS;rw[Bu hp.l h1,Arh,AqR h2];rfl
theorem AgC {p:Pt} (hp:IsP p) {m n:Mo} (h:m.1∈pmQ++pmH) (k:n.1∈pmQ++pmH) (he:∀ v,Ar n (Ar m v)=v) (h2:∀ v,Ag n.1 (Ag m.1 v)=v):Fy (Fy p m) n=p:=by
 obtain⟨hi,-,hI⟩:=DG hp.l h;obtain⟨hj,-,hJ⟩:=DG hi k;have e:Bf n.1 (Bf m.1 p.2.1)=p.2.1:=KG hj hp.l fun v=>by
  have:=(hJ (Ag m.1 v)).trans (hI v)
  rwa [h2] at this
 have ei:∀ c,Ar (Bc m) (Ar (Bc n) c)=c:=fun c=>by
  have e1:=Sy h (Ar (Bc m) (Ar (Bc n) c));have e3:=he (Ar (Bc m) (Ar (Bc n) c));rw[ID h,ID k] at e3;exact e3.symm
 unfold Fy;show (p.1,Bf n.1 (Bf m.1 p.2.1),(Ab (Bf n.1 (Bf m.1 p.2.1))).map fun c=>atS (Fy p m) (Ar (Bc n) c))=p;rw[e];refine Prod.ext rfl (Prod.ext rfl ?_);show (Ab p.2.1).map _=p.2.2
 conv=>rhs;rw[← AoS hp]
 refine AsO fun c _=>?_;rw[HD hp h,ei]
end Go.Proofs.YteheolldcpjkcaaGreatDoor.X
