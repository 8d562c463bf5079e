/- Plain facts: both sides close a list of motions alike. -/
import Derived.Test.YtkemdhpdfaejgaaGreatDoorQtMT
namespace Go.Proofs.YtkemdhpdfaejgaaGreatDoor.X
open Go
set_option linter.unusedSimpArgs false
attribute [local instance] cwD
set_option linter.unusedVariables false
theorem GA (a:Mo):ltM a a=false:=DI _
theorem Lk {a b c:Mo} (h:ltM a b=true) (k:ltM b c=true):ltM a c=true:=DJ h k
theorem Rv {a b:Mo} (h:ltM a b=true):ltM b a=false:=by
 cases hb:ltM b a
 ·rfl
 ·have:=Lk h hb;rw[GA] at this;cases this
def SM (s:List Mo):Prop:=s.Pairwise fun a b=>ltM a b=true
theorem Im:∀ {a b:List Mo},SM a→SM b→(∀ x,x∈a↔x∈b)→a=b
 | [],[],_,_,_=>rfl
 | [],y :: b,_,_,h=>by have:=(h y).2 (by simp);cases this
 | x :: a,[],_,_,h=>by have:=(h x).1 (by simp);cases this
 | x :: a,y :: b,ha,hb,h=>by
  have ha':=ABG.1 ha;have hb':=ABG.1 hb;have e:x=y:=by
   rcases AA4.1 ((h x).1 (by simp)) with e | e
   ·exact e
   ·rcases AA4.1 ((h y).2 (by simp)) with e2 | e2
    ·exact e2.symm
    ·have h1:=hb'.1 x e;have h2:=ha'.1 y e2;rw[Rv h1] at h2;cases h2
  subst e;refine congrArg (x :: ·) (Im ha'.2 hb'.2 fun z=>⟨fun hz=>?_,fun hz=>?_⟩)
  ·rcases AA4.1 ((h z).1 (by simp[hz])) with e | e
   ·subst e;have:=ha'.1 z hz;rw[GA] at this;cases this
   ·exact e
  ·rcases AA4.1 ((h z).2 (by simp[hz])) with e | e
   ·subst e;have:=hb'.1 z hz;rw[GA] at this;cases this
   ·exact e
theorem Apg (a b:Mo):decide (DY (B6 a) (B6 b)<0)=ltM a b:=by
 have h:=Na (B6 a) (B6 b);unfold ltM;by_cases h0:DY (B6 a) (B6 b)<0
 ·have:decide (DY (B6 a) (B6 b)≥0)=false:=dF (by omega)
  rw[this] at h;rw[dT h0];cases hx:ltL (B6 a) (B6 b)
  ·rw[hx] at h;cases h
  ·rfl
 ·have:decide (DY (B6 a) (B6 b)≥0)=true:=dT (by omega)
  rw[this] at h;rw[dF h0];cases hx:ltL (B6 a) (B6 b)
  ·rfl
  ·rw[hx] at h;cases h
theorem Ll:(ltOf fun x y=>((fun z7 z8=>Oa KK z7 z8) x y:Option Int).getD 0)=ltM:=by
 funext a b;unfold ltOf;simp only[Dk,ACT,Apg]
theorem AtC:Go.Sort.SWO ltM where
 irrefl:=GA
 trans x y z h k:=Lk h k
 ntrans x y z h k:=by
  cases hxz:ltM x z
  ·rfl
  ·cases hyx:ltM y x
   ·have:=Ng h hyx;subst this;rw[hxz] at k;cases k
   ·rw[Lk hyx hxz] at k;cases k
theorem AfU {s:List Mo} (hs:s.length≤1000000):AcM KK s (fun z7 z8=>Oa KK z7 z8)=some (s.mergeSort fun x y=>!ltM y x):=by
 unfold AcM PL;rw[if_pos]
 ·rw[Ll]
 ·refine⟨⟨fun x y=>by simp only;rw[Dk];rfl,?_,?_⟩,by omega⟩
  ·rw[Ll];exact AtC
  ·rw[Ll];exact fun x y h k=>Ng h k
theorem ZT {s:List Mo} (h:s.Nodup):SM (s.mergeSort fun x y=>!ltM y x):=by
 have h1:=AEc (le:=fun x y=>!ltM y x) (fun a b c h k=>by
   simp only[AB7] at h k ⊢;exact AtC.ntrans c b a k h) (fun a b=>by
   cases h:ltM b a
   ·rfl
   ·rw[Rv h];rfl) s
 have h2:(s.mergeSort fun x y=>!ltM y x).Nodup:=(List.mergeSort_perm s _).nodup_iff.2 h;refine List.Pairwise.imp₂ (fun a b ha hb=>?_) h1 h2;cases hx:ltM a b
 ·simp only[AB7] at ha;exact absurd (Ng hx ha) hb
 ·rfl
structure Bo (f:Int) (l:Lt) (out queue:List Mo) (mp:List (Mo×Bool)):Prop where
 cl:Cl f l out queue
 nd:queue.Nodup
 key:∀ x,(B2 (A7 Gx) mp x).getD false=queue.contains x
theorem Ul {f:Int} {l:Lt} (hl:IsL l) {gs:List Mo} (hg:∀ m∈gs,OkM f l m) (hgn:gs.length≤1000) {a:Nat} {q0 q1:List Mo} {L:Int→List Mo→List Mo→Option (List Mo)} {L':Int→List (Mo×Bool)→List Mo→Option (List Mo)} {R:Option (List Mo)}
  (hk:∀ out queue mp,Bo f l out queue mp→a<queue.length→L ((a+1:Nat):Int) out queue=R→L' ((a+1:Nat):Int) mp queue=R) :
  ∀ (n i:Nat) (out queue:List Mo) (mp:List (Mo×Bool)),Bo f l out queue mp→a<queue.length→i≤gs.length→gs.length-i<n →
   De KK l gs (a:Int) q0 L n (i:Int) out queue=R→JY KK l gs (a:Int) q1 L' n (i:Int) mp queue=R
 | 0,i,_,_,_,_,_,_,h=>by omega
 | n+1,i,out,queue,mp,hC,ha,hi,hn=>by
  have hlen:=hC.cl.pre.len hl;have hql:=hC.cl.len;show Gh KK l gs (a:Int) q0 L (fun v0 v1 v2=>De KK l gs (a:Int) q0 L n v0 v1 v2) (i:Int) out queue=R→Tz KK l gs (a:Int) q1 L' (fun v0 v1 v2=>JY KK l gs (a:Int) q1 L' n v0 v1 v2) (i:Int) mp queue=R;unfold Gh Tz;by_cases hlt:i<gs.length
  ·have o1:=hg _ (gM hlt);have o2:OkM f l queue[a]:=hC.cl.pre.mem _ ((hC.cl.mem _).2 (gM ha));have o3:=Ui hl o1 o2;have g1:=o1.good hl;have g2:=o2.good hl;have hsm:=E6 (Cy g1.1) g2.2 g1.2;rw[in1 hlt,in0,gd hlt,in0,in1 ha,gd ha];simp only[aS,cT];rw[Jg g1 g2,oB,Dl hl (m:=(mmS gs[i].1 queue[a].1,Bl gs[i] queue[a].2)) hsm,oB,Ih hC.cl.pre (by omega),oB,Af (by omega)]
   rw[Xa g1 g2,oB,Ec hl (m:=(mmS gs[i].1 queue[a].1,Bl gs[i] queue[a].2)) hsm,oB];rw[show (((mmS gs[i].1 queue[a].1,AX l (Bl gs[i] queue[a].2)):Mo))=Bi l gs[i] queue[a] from rfl]
   have hkey:=hC.key (Bi l gs[i] queue[a]);have hqc:queue.contains (Bi l gs[i] queue[a])=out.contains (Bi l gs[i] queue[a]):=by
    rw[ABR,cM,cM,hC.cl.mem]
   have hkey2:(B2 (A7 (.cons (.cons (.int .i64) (.cons (.int .i64) (.cons (.int .i64) (.int .i64)))) (.cons (.int .i64) (.int .i64)))) mp (Bi l gs[i] queue[a])).getD false=out.contains (Bi l gs[i] queue[a]):=hkey.trans hqc;rw[hkey2];cases hc:out.contains (Bi l gs[i] queue[a])
   ·obtain⟨g',e1,e2,e3,e4⟩:=Lh hl hC.cl.pre o3 hc;have hlen2:=e2.len hl;have hni:Bi l gs[i] queue[a] ∉ queue:=fun h=>by
     rw[hc] at hqc;rw[AA6.2 h] at hqc;cases hqc
    simp only[nF,cT];rw[e1,oB,Ea (by simp;omega),cT]
    exact Ul hl hg hgn hk n (i+1) g' (queue++[Bi l gs[i] queue[a]]) _ ⟨⟨e2,fun x=>by rw[e3,AA8,mS,hC.cl.mem],by rw[lA,e4,hql];rfl⟩,by
      rw[AD3];exact⟨hC.nd,by simp,fun x hx y hy=>by rw[mS] at hy;rw[hy];exact fun e=>hni (e▸hx)⟩,fun x=>by
      refine (congrArg (fun z=>Option.getD z false) (Gw (K:=Gx) rfl mp (Bi l gs[i] queue[a]) x true)).trans ?_;cases hx:A7 Gx x (Bi l gs[i] queue[a])
      ·rw[cF,hC.key];have hne:x≠Bi l gs[i] queue[a]:=fun e=>by rw[(B9 Gx rfl x (Bi l gs[i] queue[a])).2 e] at hx;cases hx
       rw[ABR,cM,cM,AA8,mS];exact⟨.inl,fun h=>h.resolve_right hne⟩
      ·have e:=(B9 Gx rfl x (Bi l gs[i] queue[a])).1 hx;rw[cT];refine (AA6.2 (AA8.2 (.inr ?_))).symm;rw[mS];exact e⟩ (by rw[lA];simp;omega) (by omega) (by omega)
   ·simp only[nT,cF];exact Ul hl hg hgn hk n (i+1) out queue mp hC ha (by omega) (by omega)
  ·have e:i=gs.length:=by omega
   subst e;rw[AO,cF,cF,Af (by omega)]
   exact hk out queue mp hC ha
theorem Xo {f:Int} {l:Lt} (hl:IsL l) {gs:List Mo} (hg:∀ m∈gs,OkM f l m) (hgn:gs.length≤1000) {r:List Mo}:∀ (n a:Nat) (out queue:List Mo) (mp:List (Mo×Bool)),Bo f l out queue mp→a≤queue.length →
   BL KK l gs n (a:Int) out queue=some r→Gk KK l gs n (a:Int) mp queue=some r
 | 0,a,_,_,_,_,_=>fun h=>by cases h
 | n+1,a,out,queue,mp,hC,ha=>by
  have hlen:=hC.cl.pre.len hl;have hql:=hC.cl.len;show E1 KK l gs (fun c0 c1 d0 d1 d2=>De KK l gs c0 c1 (fun v0 v1 v2=>BL KK l gs n v0 v1 v2) KK d0 d1 d2) (fun v0 v1 v2=>BL KK l gs n v0 v1 v2) (a:Int) out queue=some r→MT KK l gs (fun c0 c1 d0 d1 d2=>JY KK l gs c0 c1 (fun v0 v1 v2=>Gk KK l gs n v0 v1 v2) KK d0 d1 d2) (fun v0 v1 v2=>Gk KK l gs n v0 v1 v2) (a:Int) mp queue=some r;unfold E1 MT;by_cases hlt:a<queue.length
  ·rw[in1 hlt,cT,cT];exact Ul hl hg hgn (L:=fun v0 v1 v2=>BL KK l gs n v0 v1 v2) (L':=fun v0 v1 v2=>Gk KK l gs n v0 v1 v2) (fun o q m hB hq h=>Xo hl hg hgn n (a+1) o q m hB (by omega) h) KK 0 out queue mp hC hlt (by omega) (by simp only[KK];omega)
  ·have e:a=queue.length:=by omega
   subst e;rw[AO,cF,cF,AfU (by omega),oB]
   intro h;rw[← h];refine congrArg some (Im (ZT hC.nd) hC.cl.pre.pw fun x=>?_);rw[List.mem_mergeSort,hC.cl.mem]
theorem AkD (l:Lt) (gs:List Mo):Ob KK l gs=Gk KK l gs KK 0 (EV (A7 Gx) [] uMo true) [uMo]:=by
 have h1:N9 KK=some (1,0,0,1):=rfl;have h2:(decide (0≤(0:Int))&&decide ((0:Int)<([(((1,0,0,1),(0:Int),(0:Int)):Mo)].length:Int)))=true:=rfl;have h3:([(((1,0,0,1),(0:Int),(0:Int)):Mo)].getD ((0:Int)+(0:Int)).toNat (((0:Int),((0:Int),((0:Int),(0:Int)))),((0:Int),(0:Int))))=uMo:=rfl;unfold Ob AiL;rw[h1,oB,h2,cT,h3];rfl
theorem ZU {f:Int} {l:Lt} (hl:IsL l) {gs:List Mo} (hg:∀ m∈gs,OkM f l m) (hgn:gs.length≤1000):Ob KK l gs=FG KK l gs:=by
 obtain⟨g,e,_⟩:=Akw hl hg hgn;rw[e];have hu:=Li (f:=f) hl;have hB:Bo f l [uMo] [uMo] (EV (A7 Gx) [] uMo true):=⟨⟨OR (fun m hm=>by rw[mS] at hm;rw[hm];exact hu) (by simp),fun x=>Iff.rfl,rfl⟩,by simp,fun x=>by
  refine (congrArg (fun z=>Option.getD z false) (Gw (K:=Gx) rfl [] uMo x true)).trans ?_;cases hx:A7 Gx x uMo
  ·have hne:x≠uMo:=fun e=>by rw[(B9 Gx rfl x uMo).2 e] at hx;cases hx
   rw[cF];refine Eq.symm ?_;show [uMo].contains x=false;rw[Bool.eq_false_iff];intro h;exact hne (AB3.1 (AA6.1 h))
  ·rw[cT];exact (AA6.2 (AB3.2 ((B9 Gx rfl x uMo).1 hx))).symm⟩
 have h:=Xo hl hg hgn (r:=g) KK 0 [uMo] [uMo] _ hB (by omega)
 have z:((0:Nat):Int)=0:=rfl;rw[z] at h;exact (AkD l gs).trans (h ((Nh l gs).symm.trans e))
def AAB (n:Int):List (Int×List Mo) :=
 [(0,[]),(0,[((-1,0,0,-1),0,0)]),(0,[((1,0,0,-1),0,0)]),(0,[((1,0,0,-1),n,0)]),(0,[((0,1,1,0),0,0)]),
 (0,[((1,0,0,-1),0,0),((-1,0,0,-1),0,0)]),(0,[((1,0,0,-1),n,0),((-1,0,0,-1),0,0)]),(0,[((1,0,0,-1),n,n),((-1,0,0,-1),0,0)]),
 (0,[((0,1,1,0),0,0),((-1,0,0,-1),0,0)]),(0,[((0,-1,1,0),0,0)]),(0,[((0,-1,1,0),0,0),((1,0,0,-1),0,0)]),(0,[((0,-1,1,0),0,0),((1,0,0,-1),n,n)]),
 (1,[((-1,-1,1,0),0,0)]),(1,[((-1,-1,1,0),0,0),((0,1,1,0),0,0)]),(1,[((-1,-1,1,0),0,0),((1,1,0,-1),0,0)]),(1,[((0,-1,1,1),0,0)]),(1,[((0,-1,1,1),0,0),((0,1,1,0),0,0)])]
def Au4 (n:Int):Lt:=(w ((2:Int)*n),0,w ((2:Int)*n))
def AAP (n:Int) (m:Int×List Mo):Bool:=(m.2.all fun x=>(AU m.1 (Au4 n)).contains x.1&&Ah (Au4 n) x.2)&&(okF m.1&&okL (Au4 n))
def AA0 (n:Int) (o:Option (Int×List Mo×Bool)):Prop:=(∃ m∈AAB n,o=some (m.1,m.2,true))∨o=some (0,[],false)
abbrev Sgr:=Int×Lt×List Mo×Int
end Go.Proofs.YtkemdhpdfaejgaaGreatDoor.X
