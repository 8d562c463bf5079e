/- Plain facts: no translation keeps a lean pattern; groups that grow by a motion. -/
import Derived.Test.YteheolldcpjkcaaGreatDoorQtMU
import Derived.Test.YteheolldcpjkcaaGreatDoorQtNS
namespace Go.Proofs.YteheolldcpjkcaaGreatDoor.X
open Go
set_option linter.unusedSimpArgs false
set_option linter.unusedVariables false
theorem SU {S:Vc→Prop} (hS:Clo S) {v:Vc} (h:S v):S (0,0):=by
 have:=hS v v (-1) h h;have e1:v.1 + -1*v.1=0:=by omega
 have e2:v.2 + -1*v.2=0:=by omega
 rwa [e1,e2] at this
theorem IG {S:Vc→Prop} (hS:Clo S) {v:Vc} (h:S v) (k:Int):S (k*v.1,k*v.2):=by
 have:=hS (0,0) v k (SU hS h) h;simpa using this
theorem AiX {S:Vc→Prop} (hS:Clo S) (a b:Nat):S ((a:Int),0)→S ((b:Int),0)→S (((Nat.gcd a b:Nat):Int),0):=by
 induction a,b using Nat.gcd.induction with
 | H0 n=>intro _ h;rw[Nat.gcd_zero_left];exact h
 | H1 m n hm ih =>
  intro h1 h2;rw[Nat.gcd_rec];refine ih ?_ h1;have h3:=hS ((n:Int),0) ((m:Int),0) (-((n / m:Nat):Int)) h2 h1;have e:(n:Int) + -((n / m:Nat):Int)*(m:Int)=((n % m:Nat):Int):=by
   have h4:=congrArg (fun x:Nat=>(x:Int)) (Nat.mod_add_div n m);simp only[Ate,Asc] at h4;rw[ArB,Aq5];omega
  simp only[e] at h3;simpa using h3
theorem AmI {S:Vc→Prop} (hS:Clo S) (a x:Int):S (gI a x,0)↔S (a,0)∧S (x,0):=by
 constructor
 ·intro h;have d1:gI a x ∣ a:=by unfold gI;exact As7 ..
  have d2:gI a x ∣ x:=by unfold gI;exact Int.gcd_dvd_right ..
  obtain⟨i,hi⟩:=d1;obtain⟨j,hj⟩:=d2;have k1:=IG hS h i;have k2:=IG hS h j;simp only[Ase] at k1 k2;rw[Aq5,← hi] at k1;rw[Aq5,← hj] at k2;exact⟨k1,k2⟩
 ·rintro⟨h1,h2⟩
  exact AiX hS _ _ ((KF hS a).2 h1) ((KF hS x).2 h2)
theorem AmJ {S:Vc→Prop} (hS:Clo S) {s:Hs} {t:Vc} (ht:t.2.natAbs<KK):(S ((stI s t).1,0)∧S (stI s t).2)↔(S (s.1,0)∧S s.2)∧S t:=by
 show S (gI s.1 (euS KK s.2 t).2,0)∧S (euS KK s.2 t).1↔_;rw[AmI hS];constructor
 ·rintro⟨⟨h1,h2⟩,h3⟩
  obtain⟨h4,h5⟩:=P3 hS KK s.2 t ht h3 h2;exact⟨⟨h1,h4⟩,h5⟩
 ·rintro⟨⟨h1,h4⟩,h5⟩
  obtain⟨h3,h2⟩:=Uq hS KK s.2 t ht h4 h5;exact⟨⟨h1,h2⟩,h3⟩
theorem SV {S:Vc→Prop} (hS:Clo S):∀ (L:List Vc) (s:Hs),(∀ t∈L,t.2.natAbs<KK)→((S ((L.foldl stI s).1,0)∧S (L.foldl stI s).2)↔(S (s.1,0)∧S s.2)∧∀ t∈L,S t)
 | [],s,_=>by simp
 | t :: L,s,h=>by
  rw[Arq,SV hS L _ fun x hx=>h x (ArC _ hx),AmJ hS (h t (Asy ..))];simp only[AqQ,forall_eq_or_imp];exact⟨fun⟨⟨a,b⟩,c⟩=>⟨a,b,c⟩,fun⟨a,b,c⟩=>⟨⟨a,b⟩,c⟩⟩
theorem Ad8 {s:Hs} (h:0<s.1):InL (CG s) (s.1,0)∧InL (CG s) s.2:=by
 have e0:CG s=(s.1,(if s.2.2<0 then -s.2.1 else s.2.1) % s.1,(if s.2.2<0 then -s.2.2 else s.2.2)):=by
  unfold CG;rw[if_pos h]
 rw[e0];refine⟨⟨1,0,by simp⟩,?_⟩
 by_cases hn:s.2.2<0
 ·rw[if_pos hn,if_pos hn];refine⟨-(-s.2.1 / s.1),-1,Prod.ext ?_ ?_⟩
  ·have h4:=AsX (-s.2.1) s.1;have h5:s.1*(-s.2.1 / s.1)=(-s.2.1 / s.1)*s.1:=Aq5 _ _;simp only[ArB];omega
  ·simp only;omega
 ·rw[if_neg hn,if_neg hn];refine⟨s.2.1 / s.1,1,Prod.ext ?_ ?_⟩
  ·have h4:=AsX s.2.1 s.1;have h5:s.1*(s.2.1 / s.1)=(s.2.1 / s.1)*s.1:=Aq5 _ _;simp only;omega
  ·simp only;omega
theorem Yl {s:Hs} (h:0<s.1) {S:Vc→Prop} (hS:Clo S) (h1:S (s.1,0)) (h2:S s.2) {v:Vc} (hv:InL (CG s) v):S v:=by
 have e0:CG s=(s.1,(if s.2.2<0 then -s.2.1 else s.2.1) % s.1,(if s.2.2<0 then -s.2.2 else s.2.2)):=by
  unfold CG;rw[if_pos h]
 rw[e0] at hv;have key:∀ x y:Int,S (x,y)→S (x % s.1,y):=fun x y hxy=>by
  have:=hS (x,y) (s.1,0) (-(x / s.1)) hxy h1;have e:x + -(x / s.1)*s.1=x % s.1:=by
   have h4:=AsX x s.1;have h5:s.1*(x / s.1)=(x / s.1)*s.1:=Aq5 _ _;rw[ArB];omega
  simp only[e] at this;simpa using this
 have hb:S ((if s.2.2<0 then -s.2.1 else s.2.1) % s.1,(if s.2.2<0 then -s.2.2 else s.2.2)):=by
  refine key _ _ ?_;by_cases hn:s.2.2<0
  ·rw[if_pos hn,if_pos hn];exact Dl hS h2
  ·rw[if_neg hn,if_neg hn];exact h2
 obtain⟨i,j,rfl⟩:=hv;have k1:=IG hS h1 i;have:=hS _ _ j k1 hb;simpa using this
theorem Ad9 {p:Pt} (hp:IsP p):∃ s:Hs,BI p=CG s∧0<s.1∧∀ {S:Vc→Prop},Clo S→S (0,0)→((S (s.1,0)∧S s.2)↔S (p.2.1.1,0)∧S (p.2.1.2.1,p.2.1.2.2)∧∀ t∈Hj p,S t):=by
 refine⟨((p.2.1.1,0) :: (p.2.1.2.1,p.2.1.2.2) :: Hj p).foldl stI (0,0,0),rfl,?_,fun {S} hS h0=>?_⟩
 ·have:=(En hp).2.a1;exact this
 ·have hl:=hp.l;rw[SV hS _ _ fun t ht=>?_]
  ·simp only[AqQ,forall_eq_or_imp];exact⟨fun h=>h.2,fun h=>⟨⟨h0,h0⟩,h⟩⟩
  ·have:=hl.c1;have:=hl.c2;simp only[AqQ] at ht;rcases ht with rfl | rfl | ht
   ·exact B4 (by simp)
   ·exact B4 (by simp only;omega)
   ·have hb:=P5 hl (AqY.1 ht).1;have:=hb.y1;have:=hb.y2;exact B4 (by omega)
def Mf (p:Pt) (d:Vc):Prop:=∀ u:Vc,atS p (u.1+d.1,u.2+d.2)=atS p u
theorem Ym (p:Pt):Clo (Mf p):=by
 intro a b k ha hb;have hn:∀ n:Nat,∀ u:Vc,atS p (u.1+(n:Int)*b.1,u.2+(n:Int)*b.2)=atS p u:=by
  intro n
  induction n with
  | zero=>intro u;simp
  | succ n ih =>
   intro u;have h1:=hb (u.1+(n:Int)*b.1,u.2+(n:Int)*b.2);rw[ih u] at h1;rw[← h1];congr 1;refine Prod.ext ?_ ?_<;>simp only[Ate,Ar5,Int.natCast_one,ArY]<;>omega
 intro u;have e:atS p ((u.1+a.1)+k*b.1,(u.2+a.2)+k*b.2)=atS p (u.1+a.1,u.2+a.2):=by
  rcases Int.natAbs_eq k with h | h
  ·rw[h];exact hn k.natAbs (u.1+a.1,u.2+a.2)
  ·rw[h];have h1:=hn k.natAbs ((u.1+a.1) + -(k.natAbs:Int)*b.1,(u.2+a.2) + -(k.natAbs:Int)*b.2);simp only[ArB] at h1 ⊢;rw[← h1];congr 1;refine Prod.ext ?_ ?_<;>simp only<;>omega
 have h2:=ha u;rw[← h2,← e];congr 1;refine Prod.ext ?_ ?_<;>simp only<;>omega
theorem QF {p:Pt} (hl:IsL p.2.1) {d:Vc} (h:InL p.2.1 d):Mf p d:=by
 intro u;rw[← C4 hl,← C4 hl u];congr 1;rw[Ce hl];have e1:u.1+d.1-u.1=d.1:=by omega
 have e2:u.2+d.2-u.2=d.2:=by omega
 simp only[e1,e2];exact h
theorem QG (l:Lt):InL l (l.1,0):=⟨1,0,by simp⟩
theorem IH (l:Lt):InL l (l.2.1,l.2.2):=⟨0,1,by simp⟩
theorem C5 {l:Lt} (hl:IsL l) (u:Vc):InL l (u.1-(As l u).1,u.2-(As l u).2):=(Ce hl).1 (E8 hl u).symm
theorem Apb (t v:Vc):Ar (Un,t) v=(v.1+t.1,v.2+t.2):=by
 unfold Ar;rw[show Ag (((Un,t):Mo)).1 v=v from Du v]
theorem Aea {p:Pt} (hl:IsL p.2.1) {t:Vc} (h:AZ p (Un,t)=true):Mf p t:=by
 intro u;have h1:=EM.1 h (As p.2.1 u) (AN hl u) (Br hl (AN hl u));rw[Apb,C4 hl] at h1;rw[← h1];have h2:=QF hl (C5 hl u) ((As p.2.1 u).1+t.1,(As p.2.1 u).2+t.2);rw[← h2];congr 1;refine Prod.ext ?_ ?_<;>simp only<;>omega
theorem Gp {p:Pt} (hp:IsP p) {d:Vc} (h:InL (BI p) d):Mf p d:=by
 obtain⟨s,e,hs,hS⟩:=Ad9 hp;have h0:Mf p (0,0):=fun u=>by simp
 obtain⟨k1,k2⟩:=(hS (Ym p) h0).2 ⟨QF hp.l (QG _),QF hp.l (IH _),fun t ht=>Aea hp.l (AqY.1 ht).2⟩;rw[e] at h;exact Yl hs (Ym p) k1 k2 h
theorem II {p:Pt} (hp:IsP p) {d:Vc} (h:Mf p d):InL (BI p) d:=by
 obtain⟨s,e,hs,hS⟩:=Ad9 hp;have hI:=Ad8 hs;rw[← e] at hI;have h0:InL (BI p) (0,0):=SU (Bp _) hI.1;obtain⟨k1,k2,k3⟩:=(hS (Bp (BI p)) h0).1 hI;have hr:AZ p (Un,As p.2.1 d)=true:=by
  refine EM.2 fun v hv _=>?_;rw[Apb,← h v];have h2:=QF hp.l (C5 hp.l d) (v.1+(As p.2.1 d).1,v.2+(As p.2.1 d).2);rw[← h2];congr 1;refine Prod.ext ?_ ?_<;>simp only<;>omega
 have hm:=k3 (As p.2.1 d) (AqY.2 ⟨Br hp.l (AN hp.l d),hr⟩);have hd:InL (BI p) (d.1-(As p.2.1 d).1,d.2-(As p.2.1 d).2):=by
  obtain⟨i,j,e2⟩:=C5 hp.l d;rw[e2];have:=Bp (BI p) _ _ j (IG (Bp (BI p)) k1 i) k2;simpa using this
 have:=Bp (BI p) _ _ 1 hd hm;have e1:d.1-(As p.2.1 d).1+1*(As p.2.1 d).1=d.1:=by omega
 have e2:d.2-(As p.2.1 d).2+1*(As p.2.1 d).2=d.2:=by omega
 simp only[e1,e2] at this;exact this
theorem Aeb (p:Pt):Af p=Zy p.1 (BI p) (atS p):=rfl
theorem QH {p:Pt} (hp:IsP p) (u:Vc):atS (Af p) u=atS p u:=by
 have hl:=(En hp).2;rw[← C4 (p:=Af p) hl u,Aeb,XR hl (AN hl u)];have:=Gp hp (C5 hl u) (As (BI p) u);rw[← this];congr 1;refine Prod.ext ?_ ?_<;>simp only<;>omega
theorem U1 {p:Pt} (hl:IsL p.2.1) {m:Mo} (hm:m.1∈AP p.1 p.2.1) (h:AZ p m=true) (u:Vc):atS p (Ar m u)=atS p u:=by
 have h1:=Qs hl h (AN hl u);rw[XL hl hm (E8 hl u),C4 hl] at h1;rw[← h1];unfold mvS;rw[C4 hl]
structure Gd' (f:Int) (l:Lt) (gs g:List Mo):Prop where
 orb:CH f l g
 gen:∀ x∈g,Gn l gs x
 all:∀ x,Gn l gs x→x∈g
theorem Gn.into {l:Lt} {gs G:List Mo} (h1:uMo∈G) (h2:∀ m∈gs,m∈G) (h3:∀ m∈G,∀ n∈G,CP l m n∈G) {x:Mo} (hx:Gn l gs x):x∈G:=by
 induction hx with
 | one=>exact h1
 | mul m x hm _ ih=>exact h3 _ (h2 m hm) _ ih
end Go.Proofs.YteheolldcpjkcaaGreatDoor.X
