/- Plain facts: no translation keeps a lean pattern; groups that grow by a motion. -/
import Derived.Test.YtkemdhpdfaejgaaGreatDoorQtMU
import Derived.Test.YtkemdhpdfaejgaaGreatDoorQtNS
namespace Go.Proofs.YtkemdhpdfaejgaaGreatDoor.X
open Go
set_option linter.unusedSimpArgs false
set_option linter.unusedVariables false
theorem XC {S:Vc→Prop} (hS:Clo S) {v:Vc} (h:S v):S (0,0):=by
 have:=hS v v (-1) h h;have e1:v.1 + -1*v.1=0:=by omega
 have e2:v.2 + -1*v.2=0:=by omega
 rwa [e1,e2] at this
theorem Nm {S:Vc→Prop} (hS:Clo S) {v:Vc} (h:S v) (k:Int):S (k*v.1,k*v.2):=by
 have:=hS (0,0) v k (XC hS h) h;simpa using this
theorem ArN {S:Vc→Prop} (hS:Clo S) (a b:Nat):S ((a:Int),0)→S ((b:Int),0)→S (((Nat.gcd a b:Nat):Int),0):=by
 induction a,b using Nat.gcd.induction with
 | H0 n=>intro _ h;rw[Nat.gcd_zero_left];exact h
 | H1 m n hm ih =>
  intro h1 h2;rw[Nat.gcd_rec];refine ih ?_ h1;have h3:=hS ((n:Int),0) ((m:Int),0) (-((n / m:Nat):Int)) h2 h1;have e:(n:Int) + -((n / m:Nat):Int)*(m:Int)=((n % m:Nat):Int):=by
   have h4:=congrArg (fun x:Nat=>(x:Int)) (Nat.mod_add_div n m);simp only[AEi,ACA] at h4;rw[ACD,AB2];omega
  simp only[e] at h3;simpa using h3
theorem Awn {S:Vc→Prop} (hS:Clo S) (a x:Int):S (gI a x,0)↔S (a,0)∧S (x,0):=by
 constructor
 ·intro h;have d1:gI a x ∣ a:=by unfold gI;exact AEa ..
  have d2:gI a x ∣ x:=by unfold gI;exact Int.gcd_dvd_right ..
  obtain⟨i,hi⟩:=d1;obtain⟨j,hj⟩:=d2;have k1:=Nm hS h i;have k2:=Nm hS h j;simp only[ADy] at k1 k2;rw[AB2,← hi] at k1;rw[AB2,← hj] at k2;exact⟨k1,k2⟩
 ·rintro⟨h1,h2⟩
  exact ArN hS _ _ ((M9 hS a).2 h1) ((M9 hS x).2 h2)
theorem Awo {S:Vc→Prop} (hS:Clo S) {s:Hs} {t:Vc} (ht:t.2.natAbs<KK):(S ((stI s t).1,0)∧S (stI s t).2)↔(S (s.1,0)∧S s.2)∧S t:=by
 show S (gI s.1 (euS KK s.2 t).2,0)∧S (euS KK s.2 t).1↔_;rw[Awn hS];constructor
 ·rintro⟨⟨h1,h2⟩,h3⟩
  obtain⟨h4,h5⟩:=T0 hS KK s.2 t ht h3 h2;exact⟨⟨h1,h4⟩,h5⟩
 ·rintro⟨⟨h1,h4⟩,h5⟩
  obtain⟨h3,h2⟩:=ZG hS KK s.2 t ht h4 h5;exact⟨⟨h1,h2⟩,h3⟩
theorem XD {S:Vc→Prop} (hS:Clo S):∀ (L:List Vc) (s:Hs),(∀ t∈L,t.2.natAbs<KK)→((S ((L.foldl stI s).1,0)∧S (L.foldl stI s).2)↔(S (s.1,0)∧S s.2)∧∀ t∈L,S t)
 | [],s,_=>by simp
 | t :: L,s,h=>by
  rw[ABy,XD hS L _ fun x hx=>h x (ABj _ hx),Awo hS (h t (List.mem_cons_self ..))];simp only[AA4,forall_eq_or_imp];exact⟨fun⟨⟨a,b⟩,c⟩=>⟨a,b,c⟩,fun⟨a,b,c⟩=>⟨⟨a,b⟩,c⟩⟩
theorem Awp {s:Hs} (h:0<s.1):InL (Eb s) (s.1,0)∧InL (Eb s) s.2:=by
 have e0:Eb s=(s.1,(if s.2.2<0 then -s.2.1 else s.2.1) % s.1,(if s.2.2<0 then -s.2.2 else s.2.2)):=by
  unfold Eb;rw[if_pos h]
 rw[e0];refine⟨⟨1,0,by simp⟩,?_⟩
 by_cases hn:s.2.2<0
 ·rw[if_pos hn,if_pos hn];refine⟨-(-s.2.1 / s.1),-1,Prod.ext ?_ ?_⟩
  ·have h4:=ADw (-s.2.1) s.1;have h5:s.1*(-s.2.1 / s.1)=(-s.2.1 / s.1)*s.1:=AB2 _ _;simp only[ACD];omega
  ·simp only;omega
 ·rw[if_neg hn,if_neg hn];refine⟨s.2.1 / s.1,1,Prod.ext ?_ ?_⟩
  ·have h4:=ADw s.2.1 s.1;have h5:s.1*(s.2.1 / s.1)=(s.2.1 / s.1)*s.1:=AB2 _ _;simp only;omega
  ·simp only;omega
theorem ArO {s:Hs} (h:0<s.1) {S:Vc→Prop} (hS:Clo S) (h1:S (s.1,0)) (h2:S s.2) {v:Vc} (hv:InL (Eb s) v):S v:=by
 have e0:Eb s=(s.1,(if s.2.2<0 then -s.2.1 else s.2.1) % s.1,(if s.2.2<0 then -s.2.2 else s.2.2)):=by
  unfold Eb;rw[if_pos h]
 rw[e0] at hv;have key:∀ x y:Int,S (x,y)→S (x % s.1,y):=fun x y hxy=>by
  have:=hS (x,y) (s.1,0) (-(x / s.1)) hxy h1;have e:x + -(x / s.1)*s.1=x % s.1:=by
   have h4:=ADw x s.1;have h5:s.1*(x / s.1)=(x / s.1)*s.1:=AB2 _ _;rw[ACD];omega
  simp only[e] at this;simpa using this
 have hb:S ((if s.2.2<0 then -s.2.1 else s.2.1) % s.1,(if s.2.2<0 then -s.2.2 else s.2.2)):=by
  refine key _ _ ?_;by_cases hn:s.2.2<0
  ·rw[if_pos hn,if_pos hn];exact M8 hS h2
  ·rw[if_neg hn,if_neg hn];exact h2
 obtain⟨i,j,rfl⟩:=hv;have k1:=Nm hS h1 i;have:=hS _ _ j k1 hb;simpa using this
theorem AlS {p:Pt} (hp:IsP p):∃ s:Hs,Eg p=Eb s∧0<s.1∧∀ {S:Vc→Prop},Clo S→S (0,0)→((S (s.1,0)∧S s.2)↔S (p.2.1.1,0)∧S (p.2.1.2.1,p.2.1.2.2)∧∀ t∈Oq p,S t):=by
 refine⟨((p.2.1.1,0) :: (p.2.1.2.1,p.2.1.2.2) :: Oq p).foldl stI (0,0,0),rfl,?_,fun {S} hS h0=>?_⟩
 ·have:=(La hp).2.a1;exact this
 ·have hl:=hp.l;rw[XD hS _ _ fun t ht=>?_]
  ·simp only[AA4,forall_eq_or_imp];exact⟨fun h=>h.2,fun h=>⟨⟨h0,h0⟩,h⟩⟩
  ·have:=hl.c1;have:=hl.c2;simp only[AA4] at ht;rcases ht with rfl | rfl | ht
   ·exact Fp (by simp)
   ·exact Fp (by simp only;omega)
   ·have hb:=Adt hl (ABs.1 ht).1;have:=hb.y1;have:=hb.y2;exact Fp (by omega)
def Aan (p:Pt) (d:Vc):Prop:=∀ u:Vc,atS p (u.1+d.1,u.2+d.2)=atS p u
theorem Aep (p:Pt):Clo (Aan p):=by
 intro a b k ha hb;have hn:∀ n:Nat,∀ u:Vc,atS p (u.1+(n:Int)*b.1,u.2+(n:Int)*b.2)=atS p u:=by
  intro n
  induction n with
  | zero=>intro u;simp
  | succ n ih =>
   intro u;have h1:=hb (u.1+(n:Int)*b.1,u.2+(n:Int)*b.2);rw[ih u] at h1;rw[← h1];congr 1;refine Prod.ext ?_ ?_<;>simp only[AEi,ACX,Int.natCast_one,ADu]<;>omega
 intro u;have e:atS p ((u.1+a.1)+k*b.1,(u.2+a.2)+k*b.2)=atS p (u.1+a.1,u.2+a.2):=by
  rcases AEm k with h | h
  ·rw[h];exact hn k.natAbs (u.1+a.1,u.2+a.2)
  ·rw[h];have h1:=hn k.natAbs ((u.1+a.1) + -(k.natAbs:Int)*b.1,(u.2+a.2) + -(k.natAbs:Int)*b.2);simp only[ACD] at h1 ⊢;rw[← h1];congr 1;refine Prod.ext ?_ ?_<;>simp only<;>omega
 have h2:=ha u;rw[← h2,← e];congr 1;refine Prod.ext ?_ ?_<;>simp only<;>omega
theorem UL {p:Pt} (hl:IsL p.2.1) {d:Vc} (h:InL p.2.1 d):Aan p d:=by
 intro u;rw[← Fe hl,← Fe hl u];congr 1;rw[Dm hl];have e1:u.1+d.1-u.1=d.1:=by omega
 have e2:u.2+d.2-u.2=d.2:=by omega
 simp only[e1,e2];exact h
theorem ArP (l:Lt):InL l (l.1,0):=⟨1,0,by simp⟩
theorem ArQ (l:Lt):InL l (l.2.1,l.2.2):=⟨0,1,by simp⟩
theorem Ku {l:Lt} (hl:IsL l) (u:Vc):InL l (u.1-(AX l u).1,u.2-(AX l u).2):=(Dm hl).1 (Gz hl u).symm
theorem Azm (t v:Vc):Bl (Un,t) v=(v.1+t.1,v.2+t.2):=by
 unfold Bl;rw[show AQ (((Un,t):Mo)).1 v=v from DZ v]
theorem AlT {p:Pt} (hl:IsL p.2.1) {t:Vc} (h:Bh p (Un,t)=true):Aan p t:=by
 intro u;have h1:=Io.1 h (AX p.2.1 u) (AM hl u) (CS hl (AM hl u));rw[Azm,Fe hl] at h1;rw[← h1];have h2:=UL hl (Ku hl u) ((AX p.2.1 u).1+t.1,(AX p.2.1 u).2+t.2);rw[← h2];congr 1;refine Prod.ext ?_ ?_<;>simp only<;>omega
theorem AlU {p:Pt} (hp:IsP p) {d:Vc} (h:InL (Eg p) d):Aan p d:=by
 obtain⟨s,e,hs,hS⟩:=AlS hp;have h0:Aan p (0,0):=fun u=>by simp
 obtain⟨k1,k2⟩:=(hS (Aep p) h0).2 ⟨UL hp.l (ArP _),UL hp.l (ArQ _),fun t ht=>AlT hp.l (ABs.1 ht).2⟩;rw[e] at h;exact ArO hs (Aep p) k1 k2 h
theorem AlV {p:Pt} (hp:IsP p) {d:Vc} (h:Aan p d):InL (Eg p) d:=by
 obtain⟨s,e,hs,hS⟩:=AlS hp;have hI:=Awp hs;rw[← e] at hI;have h0:InL (Eg p) (0,0):=XC (El _) hI.1;obtain⟨k1,k2,k3⟩:=(hS (El (Eg p)) h0).1 hI;have hr:Bh p (Un,AX p.2.1 d)=true:=by
  refine Io.2 fun v hv _=>?_;rw[Azm,← h v];have h2:=UL hp.l (Ku hp.l d) (v.1+(AX p.2.1 d).1,v.2+(AX p.2.1 d).2);rw[← h2];congr 1;refine Prod.ext ?_ ?_<;>simp only<;>omega
 have hm:=k3 (AX p.2.1 d) (ABs.2 ⟨CS hp.l (AM hp.l d),hr⟩);have hd:InL (Eg p) (d.1-(AX p.2.1 d).1,d.2-(AX p.2.1 d).2):=by
  obtain⟨i,j,e2⟩:=Ku hp.l d;rw[e2];have:=El (Eg p) _ _ j (Nm (El (Eg p)) k1 i) k2;simpa using this
 have:=El (Eg p) _ _ 1 hd hm;have e1:d.1-(AX p.2.1 d).1+1*(AX p.2.1 d).1=d.1:=by omega
 have e2:d.2-(AX p.2.1 d).2+1*(AX p.2.1 d).2=d.2:=by omega
 simp only[e1,e2] at this;exact this
theorem AlW (p:Pt):Ap p=OU p.1 (Eg p) (atS p):=rfl
theorem UM {p:Pt} (hp:IsP p) (u:Vc):atS (Ap p) u=atS p u:=by
 have hl:=(La hp).2;rw[← Fe (p:=Ap p) hl u,AlW,Uj hl (AM hl u)];have:=AlU hp (Ku hl u) (AX (Eg p) u);rw[← this];congr 1;refine Prod.ext ?_ ?_<;>simp only<;>omega
theorem AlX:((pmQ++pmH).all fun M=>(pmQ++pmH).any fun M'=>decide (mmS M M'=(1,0,0,1)))=true:=by decide +kernel
theorem O8 {p:Pt} (hl:IsL p.2.1) {m:Mo} (hm:m.1∈AU p.1 p.2.1) (h:Bh p m=true) (u:Vc):atS p (Bl m u)=atS p u:=by
 have h1:=Kp hl h (AM hl u);rw[AdE hl hm (Gz hl u),Fe hl] at h1;rw[← h1];unfold mvS;rw[Fe hl]
theorem Agk {p:Pt} (hp:IsP p) {m n:Mo} (hm:m∈Au (Ap p)) (hn:n∈Au (Ap p)) (h:m.1=n.1):m=n:=by
 have hl:IsL (Ap p).2.1:=(La hp).2;obtain⟨a1,a2,a3⟩:=Co.1 hm;obtain⟨b1,b2,b3⟩:=Co.1 hn;refine Prod.ext h ?_;have hper:Aan p (m.2.1-n.2.1,m.2.2-n.2.2):=by
  intro u;obtain⟨M',hM',e⟩:=AB1.1 (AA3.1 AlX n.1 (DX b1));have e:=of_decide_eq_true e;have e2:AQ n.1 (AQ M' (u.1-n.2.1,u.2-n.2.2))=(u.1-n.2.1,u.2-n.2.2):=by rw[← Fc,e,DZ]
  have k1:=O8 hl a1 a3 (AQ M' (u.1-n.2.1,u.2-n.2.2));have k2:=O8 hl b1 b3 (AQ M' (u.1-n.2.1,u.2-n.2.2));rw[← k2] at k1;unfold Bl at k1;rw[h,e2] at k1;rw[UM hp,UM hp] at k1;have e3:u.1-n.2.1+n.2.1=u.1:=by omega
  have e4:u.2-n.2.2+n.2.2=u.2:=by omega
  have e5:u.1-n.2.1+m.2.1=u.1+(m.2.1-n.2.1):=by omega
  have e6:u.2-n.2.2+m.2.2=u.2+(m.2.2-n.2.2):=by omega
  simp only[e3,e4,e5,e6] at k1;exact k1
 have hd:=AlV hp hper;have c1:=(Dm hl).2 hd;have k1:=Ci a2;have k2:=Ci b2;rw[BG hl (Bk.2 (by omega)),BG hl (Bk.2 (by omega))] at c1
 exact c1
theorem O9 {p:Pt} (hp:IsP p):(Au (Ap p)).length≤12:=by
 have hO:=DM (Ig hp);have hnd:((Au (Ap p)).map Prod.fst).Nodup :=
  ACo.2 (ACO (fun {a b} ha hb hab e=>hab (Agk hp ha hb e)) hO.pr.nodup)
 have:=Eu _ (AU (Ap p).1 (Ap p).2.1) hnd fun x hx=>by
  obtain⟨m,hm,rfl⟩:=ABe.1 hx;exact (Co.1 hm).1
 rw[ABf] at this;exact ABo this (Hy _ _)
theorem Pa {f:Int} {l:Lt} (hl:IsL l) {y:Mo} (hy:OkM f l y):Bi l y uMo=y:=by
 refine Prod.ext ?_ ?_
 ·show mmS y.1 (1,0,0,1)=y.1;unfold mmS;simp
 ·show AX l (Bl y (0,0))=y.2;have e:Bl y (0,0)=y.2:=by
   unfold Bl AQ;simp
  rw[e,BG hl hy.2]
structure Gd' (f:Int) (l:Lt) (gs g:List Mo):Prop where
 orb:Bj f l g
 gen:∀ x∈g,Gn l gs x
 all:∀ x,Gn l gs x→x∈g
theorem RG {f:Int} {l:Lt} (hl:IsL l) {gs:List Mo} (hg:∀ m∈gs,OkM f l m) (hgn:gs.length≤1000):∃ g,FG KK l gs=some g∧Ob KK l gs=some g∧Gd' f l gs g:=by
 have hu:=Li (f:=f) hl;have hc:Cg f l gs [uMo] [uMo]:=⟨⟨OR (fun m hm=>by rw[mS] at hm;rw[hm];exact hu) (by simp),fun x=>Iff.rfl,rfl⟩,fun x hx=>by rw[mS] at hx;rw[hx];exact .one⟩
 have hk:768-0<KK:=by simp only[KK];omega
 obtain⟨o,q,c1,c2,c3,c4⟩:=Ji hl hg hgn KK 0 [uMo] [uMo] hc (by omega) hk (by simp) (by simp)
 have c5:BL KK l gs KK 0 [uMo] [uMo]=some o:=c4;have hmem:=c1.cl.mem;have e:=(Nh l gs).trans c5;have hG:EF f l o=true:=Ni hl c1.cl.pre.mem c1.cl.pre.pw ((hmem _).2 c3) fun m hm n hn=>(hmem _).2 (AdJ hl hg (fun x hx=>c1.cl.pre.mem x ((hmem x).2 hx)) c2 (c1.gen m ((hmem m).1 hm)) n ((hmem n).1 hn));refine⟨o,e,(ZU hl hg hgn).trans e,⟨hl,c1.cl.pre,hG⟩,fun x hx=>c1.gen x ((hmem x).1 hx),fun x hx=>(hmem x).2 ?_⟩
 induction hx with
 | one=>exact c3
 | mul m x hm _ ih=>exact c2 x ih m hm
theorem Gn.self {f:Int} {l:Lt} (hl:IsL l) {gs:List Mo} (hg:∀ m∈gs,OkM f l m) {m:Mo} (h:m∈gs):Gn l gs m:=by
 have:=Gn.mul (l:=l) m uMo h .one
 rwa [Pa hl (hg m h)] at this
theorem Gn.mono {l:Lt} {gs hs:List Mo} (h:∀ x∈gs,x∈hs) {x:Mo} (hx:Gn l gs x):Gn l hs x:=by
 induction hx with
 | one=>exact .one
 | mul m x hm _ ih=>exact .mul m x (h m hm) ih
theorem Gn.into {l:Lt} {gs G:List Mo} (h1:uMo∈G) (h2:∀ m∈gs,m∈G) (h3:∀ m∈G,∀ n∈G,Bi l m n∈G) {x:Mo} (hx:Gn l gs x):x∈G:=by
 induction hx with
 | one=>exact h1
 | mul m x hm _ ih=>exact h3 _ (h2 m hm) _ ih
theorem ArR {f:Int} {l:Lt} {g:List Mo} (h:Bj f l g) {x:Mo} (hx:x∈g):∃ y∈g,Bi l x y=uMo:=by
 have hu:uMo∈g:=by
  have:=h.gr;unfold EF at this;simp only[aT] at this;exact AA6.1 this.2.1
 have hnd:(g.map (Bi l x)).Nodup:=ACo.2 (ACO (fun {a b} ha hb hab e=>hab (Xn h hx ha hb e)) h.pr.nodup);have:=Me g (g.map (Bi l x)) hnd (fun z hz=>by
  obtain⟨y,hy,rfl⟩:=ABe.1 hz;exact h.mul hx hy) (by rw[ABf];exact AA9 _) uMo hu
 obtain⟨y,hy,e⟩:=ABe.1 this;exact⟨y,hy,e⟩
theorem XE {f:Int} {l:Lt} (hl:IsL l) {gs g g':List Mo} {m:Mo} (hg:∀ x∈gs++[m],OkM f l x) (h:Gd' f l gs g) (h':Gd' f l (gs++[m]) g') (hm:m ∉ g):2*g.length≤g'.length:=by
 have om:OkM f l m:=hg m (by simp)
 have hsub:∀ x∈g,x∈g':=fun x hx=>h'.all x ((h.gen x hx).mono fun y hy=>AA8.2 (.inl hy));have hm':m∈g':=h'.all m (Gn.self hl hg (by simp))
 have hnd:(g++g.map (Bi l m)).Nodup:=by
  rw[AD3];refine⟨h.orb.pr.nodup,ACo.2 (ACO (fun {a b} ha hb hab e=>hab (Xn h'.orb hm' (hsub a ha) (hsub b hb) e)) h.orb.pr.nodup),fun a ha b hb e=>?_⟩;obtain⟨x,hx,rfl⟩:=ABe.1 hb;obtain⟨y,hy,e2⟩:=ArR h.orb hx;have:=h.orb.mul ha hy;rw[e,OV hl om,e2,Pa hl om] at this;exact hm this
 have:=Eu _ g' hnd fun x hx=>by
  rcases AA8.1 hx with hx | hx
  ·exact hsub x hx
  ·obtain⟨y,hy,rfl⟩:=ABe.1 hx;exact h'.orb.mul hm' (hsub y hy)
 rw[lA,ABf] at this;omega
end Go.Proofs.YtkemdhpdfaejgaaGreatDoor.X
