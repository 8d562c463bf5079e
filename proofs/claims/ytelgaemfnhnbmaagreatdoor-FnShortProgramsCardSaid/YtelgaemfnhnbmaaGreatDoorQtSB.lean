/- Plain facts: no translation keeps a lean pattern; groups that grow by a motion. -/
import Derived.Test.YtelgaemfnhnbmaaGreatDoorQtMU
import Derived.Test.YtelgaemfnhnbmaaGreatDoorQtNS
namespace Go.Proofs.YtelgaemfnhnbmaaGreatDoor.X
open Go
set_option linter.unusedSimpArgs false
set_option linter.unusedVariables false
theorem Clo_zero {S:Vc→Prop} (hS:Clo S) {v:Vc} (h:S v):S (0,0):=by
 have:=hS v v (-1) h h;have e1:v.1 + -1*v.1=0:=by omega
 have e2:v.2 + -1*v.2=0:=by omega
 rwa [e1,e2] at this
theorem Clo_mul {S:Vc→Prop} (hS:Clo S) {v:Vc} (h:S v) (k:Int):S (k*v.1,k*v.2):=by
 have:=hS (0,0) v k (Clo_zero hS h) h;simpa using this
theorem gcd_clo {S:Vc→Prop} (hS:Clo S) (a b:Nat):S ((a:Int),0)→S ((b:Int),0)→S (((Nat.gcd a b:Nat):Int),0):=by
 induction a,b using Nat.gcd.induction with
 | H0 n=>intro _ h;rw[Nat.gcd_zero_left];exact h
 | H1 m n hm ih =>
  intro h1 h2;rw[Nat.gcd_rec];refine ih ?_ h1;have h3:=hS ((n:Int),0) ((m:Int),0) (-((n / m:Nat):Int)) h2 h1;have e:(n:Int) + -((n / m:Nat):Int)*(m:Int)=((n % m:Nat):Int):=by
   have h4:=congrArg (fun x:Nat=>(x:Int)) (Nat.mod_add_div n m);simp only[Int.natCast_add,Int.natCast_mul] at h4;rw[Int.neg_mul,Int.mul_comm];omega
  simp only[e] at h3;simpa using h3
theorem gI_clo {S:Vc→Prop} (hS:Clo S) (a x:Int):S (gI a x,0)↔S (a,0)∧S (x,0):=by
 constructor
 ·intro h;have d1:gI a x ∣ a:=by unfold gI;exact Int.gcd_dvd_left ..
  have d2:gI a x ∣ x:=by unfold gI;exact Int.gcd_dvd_right ..
  obtain⟨i,hi⟩:=d1;obtain⟨j,hj⟩:=d2;have k1:=Clo_mul hS h i;have k2:=Clo_mul hS h j;simp only[Int.mul_zero] at k1 k2;rw[Int.mul_comm,← hi] at k1;rw[Int.mul_comm,← hj] at k2;exact⟨k1,k2⟩
 ·rintro⟨h1,h2⟩
  exact gcd_clo hS _ _ ((Clo_abs hS a).2 h1) ((Clo_abs hS x).2 h2)
theorem st_clo {S:Vc→Prop} (hS:Clo S) {s:Hs} {t:Vc} (ht:t.2.natAbs<KK):(S ((stI s t).1,0)∧S (stI s t).2)↔(S (s.1,0)∧S s.2)∧S t:=by
 show S (gI s.1 (euS KK s.2 t).2,0)∧S (euS KK s.2 t).1↔_;rw[gI_clo hS];constructor
 ·rintro⟨⟨h1,h2⟩,h3⟩
  obtain⟨h4,h5⟩:=euS_out hS KK s.2 t ht h3 h2;exact⟨⟨h1,h4⟩,h5⟩
 ·rintro⟨⟨h1,h4⟩,h5⟩
  obtain⟨h3,h2⟩:=euS_in hS KK s.2 t ht h4 h5;exact⟨⟨h1,h2⟩,h3⟩
theorem fold_clo {S:Vc→Prop} (hS:Clo S):∀ (L:List Vc) (s:Hs),(∀ t∈L,t.2.natAbs<KK)→((S ((L.foldl stI s).1,0)∧S (L.foldl stI s).2)↔(S (s.1,0)∧S s.2)∧∀ t∈L,S t)
 | [],s,_=>by simp
 | t :: L,s,h=>by
  rw[List.foldl_cons,fold_clo hS L _ fun x hx=>h x (List.mem_cons_of_mem _ hx),st_clo hS (h t (List.mem_cons_self ..))];simp only[List.mem_cons,forall_eq_or_imp];exact⟨fun⟨⟨a,b⟩,c⟩=>⟨a,b,c⟩,fun⟨a,b,c⟩=>⟨⟨a,b⟩,c⟩⟩
theorem fin_in {s:Hs} (h:0<s.1):InL (finR s) (s.1,0)∧InL (finR s) s.2:=by
 have e0:finR s=(s.1,(if s.2.2<0 then -s.2.1 else s.2.1) % s.1,(if s.2.2<0 then -s.2.2 else s.2.2)):=by
  unfold finR;rw[if_pos h]
 rw[e0];refine⟨⟨1,0,by simp⟩,?_⟩
 by_cases hn:s.2.2<0
 ·rw[if_pos hn,if_pos hn];refine⟨-(-s.2.1 / s.1),-1,Prod.ext ?_ ?_⟩
  ·have h4:=Int.emod_def (-s.2.1) s.1;have h5:s.1*(-s.2.1 / s.1)=(-s.2.1 / s.1)*s.1:=Int.mul_comm _ _;simp only[Int.neg_mul];omega
  ·simp only;omega
 ·rw[if_neg hn,if_neg hn];refine⟨s.2.1 / s.1,1,Prod.ext ?_ ?_⟩
  ·have h4:=Int.emod_def s.2.1 s.1;have h5:s.1*(s.2.1 / s.1)=(s.2.1 / s.1)*s.1:=Int.mul_comm _ _;simp only;omega
  ·simp only;omega
theorem fin_out {s:Hs} (h:0<s.1) {S:Vc→Prop} (hS:Clo S) (h1:S (s.1,0)) (h2:S s.2) {v:Vc} (hv:InL (finR s) v):S v:=by
 have e0:finR s=(s.1,(if s.2.2<0 then -s.2.1 else s.2.1) % s.1,(if s.2.2<0 then -s.2.2 else s.2.2)):=by
  unfold finR;rw[if_pos h]
 rw[e0] at hv;have key:∀ x y:Int,S (x,y)→S (x % s.1,y):=fun x y hxy=>by
  have:=hS (x,y) (s.1,0) (-(x / s.1)) hxy h1;have e:x + -(x / s.1)*s.1=x % s.1:=by
   have h4:=Int.emod_def x s.1;have h5:s.1*(x / s.1)=(x / s.1)*s.1:=Int.mul_comm _ _;rw[Int.neg_mul];omega
  simp only[e] at this;simpa using this
 have hb:S ((if s.2.2<0 then -s.2.1 else s.2.1) % s.1,(if s.2.2<0 then -s.2.2 else s.2.2)):=by
  refine key _ _ ?_;by_cases hn:s.2.2<0
  ·rw[if_pos hn,if_pos hn];exact Clo_neg hS h2
  ·rw[if_neg hn,if_neg hn];exact h2
 obtain⟨i,j,rfl⟩:=hv;have k1:=Clo_mul hS h1 i;have:=hS _ _ j k1 hb;simpa using this
theorem full_s {p:Pt} (hp:IsP p):∃ s:Hs,fullS p=finR s∧0<s.1∧∀ {S:Vc→Prop},Clo S→S (0,0)→((S (s.1,0)∧S s.2)↔S (p.2.1.1,0)∧S (p.2.1.2.1,p.2.1.2.2)∧∀ t∈fullL p,S t):=by
 refine⟨((p.2.1.1,0) :: (p.2.1.2.1,p.2.1.2.2) :: fullL p).foldl stI (0,0,0),rfl,?_,fun {S} hS h0=>?_⟩
 ·have:=(full_all hp).2.2.a1;exact this
 ·have hl:=hp.l;rw[fold_clo hS _ _ fun t ht=>?_]
  ·simp only[List.mem_cons,forall_eq_or_imp];exact⟨fun h=>h.2,fun h=>⟨⟨h0,h0⟩,h⟩⟩
  ·have:=hl.c1;have:=hl.c2;simp only[List.mem_cons] at ht;rcases ht with rfl | rfl | ht
   ·exact KKlt (by simp)
   ·exact KKlt (by simp only;omega)
   ·have hb:=cell_Bx hl (List.mem_filter.1 ht).1;have:=hb.y1;have:=hb.y2;exact KKlt (by omega)
def PerS (p:Pt) (d:Vc):Prop:=∀ u:Vc,atS p (u.1+d.1,u.2+d.2)=atS p u
theorem Per_clo (p:Pt):Clo (PerS p):=by
 intro a b k ha hb;have hn:∀ n:Nat,∀ u:Vc,atS p (u.1+(n:Int)*b.1,u.2+(n:Int)*b.2)=atS p u:=by
  intro n
  induction n with
  | zero=>intro u;simp
  | succ n ih =>
   intro u;have h1:=hb (u.1+(n:Int)*b.1,u.2+(n:Int)*b.2);rw[ih u] at h1;rw[← h1];congr 1;refine Prod.ext ?_ ?_<;>simp only[Int.natCast_add,Int.add_mul,Int.natCast_one,Int.one_mul]<;>omega
 intro u;have e:atS p ((u.1+a.1)+k*b.1,(u.2+a.2)+k*b.2)=atS p (u.1+a.1,u.2+a.2):=by
  rcases Int.natAbs_eq k with h | h
  ·rw[h];exact hn k.natAbs (u.1+a.1,u.2+a.2)
  ·rw[h];have h1:=hn k.natAbs ((u.1+a.1) + -(k.natAbs:Int)*b.1,(u.2+a.2) + -(k.natAbs:Int)*b.2);simp only[Int.neg_mul] at h1 ⊢;rw[← h1];congr 1;refine Prod.ext ?_ ?_<;>simp only<;>omega
 have h2:=ha u;rw[← h2,← e];congr 1;refine Prod.ext ?_ ?_<;>simp only<;>omega
theorem Per_in {p:Pt} (hl:IsL p.2.1) {d:Vc} (h:InL p.2.1 d):PerS p d:=by
 intro u;rw[← atS_red hl,← atS_red hl u];congr 1;rw[red_cong hl];have e1:u.1+d.1-u.1=d.1:=by omega
 have e2:u.2+d.2-u.2=d.2:=by omega
 simp only[e1,e2];exact h
theorem InL_b1' (l:Lt):InL l (l.1,0):=⟨1,0,by simp⟩
theorem InL_b2' (l:Lt):InL l (l.2.1,l.2.2):=⟨0,1,by simp⟩
theorem red_diff {l:Lt} (hl:IsL l) (u:Vc):InL l (u.1-(redS l u).1,u.2-(redS l u).2):=(red_cong hl).1 (red_red hl u).symm
theorem appU (t v:Vc):appS (Un,t) v=(v.1+t.1,v.2+t.2):=by
 unfold appS;rw[show mulS (((Un,t):Mo)).1 v=v from mulS_one v]
theorem Per_cell {p:Pt} (hl:IsL p.2.1) {t:Vc} (h:keepsS p (Un,t)=true):PerS p t:=by
 intro u;have h1:=keeps_iff.1 h (redS p.2.1 u) (redS_isCell hl u) (cellB_mem hl (redS_isCell hl u));rw[appU,atS_red hl] at h1;rw[← h1];have h2:=Per_in hl (red_diff hl u) ((redS p.2.1 u).1+t.1,(redS p.2.1 u).2+t.2);rw[← h2];congr 1;refine Prod.ext ?_ ?_<;>simp only<;>omega
theorem full_per {p:Pt} (hp:IsP p) {d:Vc} (h:InL (fullS p) d):PerS p d:=by
 obtain⟨s,e,hs,hS⟩:=full_s hp;have h0:PerS p (0,0):=fun u=>by simp
 obtain⟨k1,k2⟩:=(hS (Per_clo p) h0).2 ⟨Per_in hp.l (InL_b1' _),Per_in hp.l (InL_b2' _),fun t ht=>Per_cell hp.l (List.mem_filter.1 ht).2⟩;rw[e] at h;exact fin_out hs (Per_clo p) k1 k2 h
theorem per_full {p:Pt} (hp:IsP p) {d:Vc} (h:PerS p d):InL (fullS p) d:=by
 obtain⟨s,e,hs,hS⟩:=full_s hp;have hI:=fin_in hs;rw[← e] at hI;have h0:InL (fullS p) (0,0):=Clo_zero (InL_clo _) hI.1;obtain⟨k1,k2,k3⟩:=(hS (InL_clo (fullS p)) h0).1 hI;have hr:keepsS p (Un,redS p.2.1 d)=true:=by
  refine keeps_iff.2 fun v hv _=>?_;rw[appU,← h v];have h2:=Per_in hp.l (red_diff hp.l d) (v.1+(redS p.2.1 d).1,v.2+(redS p.2.1 d).2);rw[← h2];congr 1;refine Prod.ext ?_ ?_<;>simp only<;>omega
 have hm:=k3 (redS p.2.1 d) (List.mem_filter.2 ⟨cellB_mem hp.l (redS_isCell hp.l d),hr⟩);have hd:InL (fullS p) (d.1-(redS p.2.1 d).1,d.2-(redS p.2.1 d).2):=by
  obtain⟨i,j,e2⟩:=red_diff hp.l d;rw[e2];have:=InL_clo (fullS p) _ _ j (Clo_mul (InL_clo (fullS p)) k1 i) k2;simpa using this
 have:=InL_clo (fullS p) _ _ 1 hd hm;have e1:d.1-(redS p.2.1 d).1+1*(redS p.2.1 d).1=d.1:=by omega
 have e2:d.2-(redS p.2.1 d).2+1*(redS p.2.1 d).2=d.2:=by omega
 simp only[e1,e2] at this;exact this
theorem lean_map (p:Pt):leanS p=mapP p.1 (fullS p) (atS p):=rfl
theorem lean_at {p:Pt} (hp:IsP p) (u:Vc):atS (leanS p) u=atS p u:=by
 have hl:=(full_all hp).2.2;rw[← atS_red (p:=leanS p) hl u,lean_map,atS_map hl (redS_isCell hl u)];have:=full_per hp (red_diff hl u) (redS (fullS p) u);rw[← this];congr 1;refine Prod.ext ?_ ?_<;>simp only<;>omega
theorem pm_right:((pmQ++pmH).all fun M=>(pmQ++pmH).any fun M'=>decide (mmS M M'=(1,0,0,1)))=true:=by decide +kernel
theorem keep_every {p:Pt} (hl:IsL p.2.1) {m:Mo} (hm:m.1∈stabS p.1 p.2.1) (h:keepsS p m=true) (u:Vc):atS p (appS m u)=atS p u:=by
 have h1:=keep_mv hl h (redS_isCell hl u);rw[mv_cong hl hm (red_red hl u),atS_red hl] at h1;rw[← h1];unfold mvS;rw[atS_red hl]
theorem lean_free {p:Pt} (hp:IsP p) {m n:Mo} (hm:m∈groupS (leanS p)) (hn:n∈groupS (leanS p)) (h:m.1=n.1):m=n:=by
 have hl:IsL (leanS p).2.1:=(full_all hp).2.2;obtain⟨a1,a2,a3⟩:=groupS_iff.1 hm;obtain⟨b1,b2,b3⟩:=groupS_iff.1 hn;refine Prod.ext h ?_;have hper:PerS p (m.2.1-n.2.1,m.2.2-n.2.2):=by
  intro u;obtain⟨M',hM',e⟩:=List.any_eq_true.1 (List.all_eq_true.1 pm_right n.1 (stab_mem b1));have e:=of_decide_eq_true e;have e2:mulS n.1 (mulS M' (u.1-n.2.1,u.2-n.2.2))=(u.1-n.2.1,u.2-n.2.2):=by rw[← mulS_mm,e,mulS_one]
  have k1:=keep_every hl a1 a3 (mulS M' (u.1-n.2.1,u.2-n.2.2));have k2:=keep_every hl b1 b3 (mulS M' (u.1-n.2.1,u.2-n.2.2));rw[← k2] at k1;unfold appS at k1;rw[h,e2] at k1;rw[lean_at hp,lean_at hp] at k1;have e3:u.1-n.2.1+n.2.1=u.1:=by omega
  have e4:u.2-n.2.2+n.2.2=u.2:=by omega
  have e5:u.1-n.2.1+m.2.1=u.1+(m.2.1-n.2.1):=by omega
  have e6:u.2-n.2.2+m.2.2=u.2+(m.2.2-n.2.2):=by omega
  simp only[e3,e4,e5,e6] at k1;exact k1
 have hd:=per_full hp hper;have c1:=(red_cong hl).2 hd;have k1:=mem_cellsS a2;have k2:=mem_cellsS b2;rw[redS_cell hl (cellB_iff.2 (by omega)),redS_cell hl (cellB_iff.2 (by omega))] at c1
 exact c1
theorem lean_group {p:Pt} (hp:IsP p):(groupS (leanS p)).length≤12:=by
 have hO:=groupS_orb (leanS_P hp);have hnd:((groupS (leanS p)).map Prod.fst).Nodup :=
  List.pairwise_map.2 (List.Pairwise.imp_of_mem (fun {a b} ha hb hab e=>hab (lean_free hp ha hb e)) hO.pr.nodup)
 have:=nodup_len _ (stabS (leanS p).1 (leanS p).2.1) hnd fun x hx=>by
  obtain⟨m,hm,rfl⟩:=List.mem_map.1 hx;exact (groupS_iff.1 hm).1
 rw[List.length_map] at this;exact Nat.le_trans this (stab_len _ _)
theorem mulG_right {f:Int} {l:Lt} (hl:IsL l) {y:Mo} (hy:OkM f l y):mulG l y uMo=y:=by
 refine Prod.ext ?_ ?_
 ·show mmS y.1 (1,0,0,1)=y.1;unfold mmS;simp
 ·show redS l (appS y (0,0))=y.2;have e:appS y (0,0)=y.2:=by
   unfold appS mulS;simp
  rw[e,redS_cell hl hy.2]
structure Gd' (f:Int) (l:Lt) (gs g:List Mo):Prop where
 orb:OrbG f l g
 gen:∀ x∈g,Gn l gs x
 all:∀ x,Gn l gs x→x∈g
theorem close_gen {f:Int} {l:Lt} (hl:IsL l) {gs:List Mo} (hg:∀ m∈gs,OkM f l m) (hgn:gs.length≤1000):∃ g,f30G KK l gs=some g∧f18G KK l gs=some g∧Gd' f l gs g:=by
 have hu:=uMo_ok (f:=f) hl;have hc:Cg f l gs [uMo] [uMo]:=⟨⟨pre_pw (fun m hm=>by rw[mS] at hm;rw[hm];exact hu) (by simp),fun x=>Iff.rfl,rfl⟩,fun x hx=>by rw[mS] at hx;rw[hx];exact .one⟩
 have hk:768-0<KK:=by simp only[KK];omega
 obtain⟨o,q,c1,c2,c3,c4⟩:=closeG_out hl hg hgn KK 0 [uMo] [uMo] hc (by omega) hk (by simp) (by simp)
 have c5:f30_l17 KK l gs KK 0 [uMo] [uMo]=some o:=c4;have hmem:=c1.cl.mem;have e:=(close_g l gs).trans c5;have hG:grpB f l o=true:=grpB_of hl c1.cl.pre.mem c1.cl.pre.pw ((hmem _).2 c3) fun m hm n hn=>(hmem _).2 (gen_mul hl hg (fun x hx=>c1.cl.pre.mem x ((hmem x).2 hx)) c2 (c1.gen m ((hmem m).1 hm)) n ((hmem n).1 hn));refine⟨o,e,(close_same hl hg hgn).trans e,⟨hl,c1.cl.pre,hG⟩,fun x hx=>c1.gen x ((hmem x).1 hx),fun x hx=>(hmem x).2 ?_⟩
 induction hx with
 | one=>exact c3
 | mul m x hm _ ih=>exact c2 x ih m hm
theorem Gn.self {f:Int} {l:Lt} (hl:IsL l) {gs:List Mo} (hg:∀ m∈gs,OkM f l m) {m:Mo} (h:m∈gs):Gn l gs m:=by
 have:=Gn.mul (l:=l) m uMo h .one
 rwa [mulG_right hl (hg m h)] at this
theorem Gn.mono {l:Lt} {gs hs:List Mo} (h:∀ x∈gs,x∈hs) {x:Mo} (hx:Gn l gs x):Gn l hs x:=by
 induction hx with
 | one=>exact .one
 | mul m x hm _ ih=>exact .mul m x (h m hm) ih
theorem Gn.into {l:Lt} {gs G:List Mo} (h1:uMo∈G) (h2:∀ m∈gs,m∈G) (h3:∀ m∈G,∀ n∈G,mulG l m n∈G) {x:Mo} (hx:Gn l gs x):x∈G:=by
 induction hx with
 | one=>exact h1
 | mul m x hm _ ih=>exact h3 _ (h2 m hm) _ ih
theorem orb_inv {f:Int} {l:Lt} {g:List Mo} (h:OrbG f l g) {x:Mo} (hx:x∈g):∃ y∈g,mulG l x y=uMo:=by
 have hu:uMo∈g:=by
  have:=h.gr;unfold grpB at this;simp only[aT] at this;exact List.contains_iff_mem.1 this.2.1
 have hnd:(g.map (mulG l x)).Nodup:=List.pairwise_map.2 (List.Pairwise.imp_of_mem (fun {a b} ha hb hab e=>hab (mulG_inj h hx ha hb e)) h.pr.nodup);have:=full_of_len g (g.map (mulG l x)) hnd (fun z hz=>by
  obtain⟨y,hy,rfl⟩:=List.mem_map.1 hz;exact h.mul hx hy) (by rw[List.length_map];exact Nat.le_refl _) uMo hu
 obtain⟨y,hy,e⟩:=List.mem_map.1 this;exact⟨y,hy,e⟩
theorem close_twice {f:Int} {l:Lt} (hl:IsL l) {gs g g':List Mo} {m:Mo} (hg:∀ x∈gs++[m],OkM f l x) (h:Gd' f l gs g) (h':Gd' f l (gs++[m]) g') (hm:m ∉ g):2*g.length≤g'.length:=by
 have om:OkM f l m:=hg m (by simp)
 have hsub:∀ x∈g,x∈g':=fun x hx=>h'.all x ((h.gen x hx).mono fun y hy=>List.mem_append.2 (.inl hy));have hm':m∈g':=h'.all m (Gn.self hl hg (by simp))
 have hnd:(g++g.map (mulG l m)).Nodup:=by
  rw[List.nodup_append];refine⟨h.orb.pr.nodup,List.pairwise_map.2 (List.Pairwise.imp_of_mem (fun {a b} ha hb hab e=>hab (mulG_inj h'.orb hm' (hsub a ha) (hsub b hb) e)) h.orb.pr.nodup),fun a ha b hb e=>?_⟩;obtain⟨x,hx,rfl⟩:=List.mem_map.1 hb;obtain⟨y,hy,e2⟩:=orb_inv h.orb hx;have:=h.orb.mul ha hy;rw[e,mulG_assoc hl om,e2,mulG_right hl om] at this;exact hm this
 have:=nodup_len _ g' hnd fun x hx=>by
  rcases List.mem_append.1 hx with hx | hx
  ·exact hsub x hx
  ·obtain⟨y,hy,rfl⟩:=List.mem_map.1 hx;exact h'.orb.mul hm' (hsub y hy)
 rw[lA,List.length_map] at this;omega
end Go.Proofs.YtelgaemfnhnbmaaGreatDoor.X
