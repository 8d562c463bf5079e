/- Plain facts: both sides close a list of motions alike. -/
import Derived.Test.YtelgaemfnhnbmaaGreatDoorQtMT
namespace Go.Proofs.YtelgaemfnhnbmaaGreatDoor.X
open Go
set_option linter.unusedSimpArgs false
attribute [local instance] cwD
set_option linter.unusedVariables false
theorem ltM_irrefl (a:Mo):ltM a a=false:=ltL_irrefl _
theorem ltM_trans {a b c:Mo} (h:ltM a b=true) (k:ltM b c=true):ltM a c=true:=ltL_trans h k
theorem ltM_asymm {a b:Mo} (h:ltM a b=true):ltM b a=false:=by
 cases hb:ltM b a
 ·rfl
 ·have:=ltM_trans h hb;rw[ltM_irrefl] at this;cases this
def SM (s:List Mo):Prop:=s.Pairwise fun a b=>ltM a b=true
theorem SM_unique:∀ {a b:List Mo},SM a→SM b→(∀ x,x∈a↔x∈b)→a=b
 | [],[],_,_,_=>rfl
 | [],y :: b,_,_,h=>by have:=(h y).2 (by simp);cases this
 | x :: a,[],_,_,h=>by have:=(h x).1 (by simp);cases this
 | x :: a,y :: b,ha,hb,h=>by
  have ha':=List.pairwise_cons.1 ha;have hb':=List.pairwise_cons.1 hb;have e:x=y:=by
   rcases List.mem_cons.1 ((h x).1 (by simp)) with e | e
   ·exact e
   ·rcases List.mem_cons.1 ((h y).2 (by simp)) with e2 | e2
    ·exact e2.symm
    ·have h1:=hb'.1 x e;have h2:=ha'.1 y e2;rw[ltM_asymm h1] at h2;cases h2
  subst e;refine congrArg (x :: ·) (SM_unique ha'.2 hb'.2 fun z=>⟨fun hz=>?_,fun hz=>?_⟩)
  ·rcases List.mem_cons.1 ((h z).1 (by simp[hz])) with e | e
   ·subst e;have:=ha'.1 z hz;rw[ltM_irrefl] at this;cases this
   ·exact e
  ·rcases List.mem_cons.1 ((h z).2 (by simp[hz])) with e | e
   ·subst e;have:=hb'.1 z hz;rw[ltM_irrefl] at this;cases this
   ·exact e
theorem cmpM_lt (a b:Mo):decide (cmpL (numMo a) (numMo b)<0)=ltM a b:=by
 have h:=cmpL_lt (numMo a) (numMo b);unfold ltM;by_cases h0:cmpL (numMo a) (numMo b)<0
 ·have:decide (cmpL (numMo a) (numMo b)≥0)=false:=dF (by omega)
  rw[this] at h;rw[dT h0];cases hx:ltL (numMo a) (numMo b)
  ·rw[hx] at h;cases h
  ·rfl
 ·have:decide (cmpL (numMo a) (numMo b)≥0)=true:=dT (by omega)
  rw[this] at h;rw[dF h0];cases hx:ltL (numMo a) (numMo b)
  ·rfl
  ·rw[hx] at h;cases h
theorem cmpM_ltOf:(ltOf fun x y=>((fun z7 z8=>f52G KK z7 z8) x y:Option Int).getD 0)=ltM:=by
 funext a b;unfold ltOf;simp only[compareMotions_eq,Option.getD_some,cmpM_lt]
theorem swo_M:Go.Sort.SWO ltM where
 irrefl:=ltM_irrefl
 trans x y z h k:=ltM_trans h k
 ntrans x y z h k:=by
  cases hxz:ltM x z
  ·rfl
  ·cases hyx:ltM y x
   ·have:=ltM_tri h hyx;subst this;rw[hxz] at k;cases k
   ·rw[ltM_trans hyx hxz] at k;cases k
theorem sortMo_eq {s:List Mo} (hs:s.length≤1000000):f51G KK s (fun z7 z8=>f52G KK z7 z8)=some (s.mergeSort fun x y=>!ltM y x):=by
 unfold f51G sortF;rw[if_pos]
 ·rw[cmpM_ltOf]
 ·refine⟨⟨fun x y=>by simp only;rw[compareMotions_eq];rfl,?_,?_⟩,by omega⟩
  ·rw[cmpM_ltOf];exact swo_M
  ·rw[cmpM_ltOf];exact fun x y h k=>ltM_tri h k
theorem mergeMo_SM {s:List Mo} (h:s.Nodup):SM (s.mergeSort fun x y=>!ltM y x):=by
 have h1:=List.pairwise_mergeSort (le:=fun x y=>!ltM y x) (fun a b c h k=>by
   simp only[Bool.not_eq_true'] at h k ⊢;exact swo_M.ntrans c b a k h) (fun a b=>by
   cases h:ltM b a
   ·rfl
   ·rw[ltM_asymm h];rfl) s
 have h2:(s.mergeSort fun x y=>!ltM y x).Nodup:=(List.mergeSort_perm s _).nodup_iff.2 h;refine List.Pairwise.imp₂ (fun a b ha hb=>?_) h1 h2;cases hx:ltM a b
 ·simp only[Bool.not_eq_true'] at ha;exact absurd (ltM_tri hx ha) hb
 ·rfl
structure Bo (f:Int) (l:Lt) (out queue:List Mo) (mp:List (Mo×Bool)):Prop where
 cl:Cl f l out queue
 nd:queue.Nodup
 key:∀ x,(mfind (eqSh shMo) mp x).getD false=queue.contains x
theorem both_in {f:Int} {l:Lt} (hl:IsL l) {gs:List Mo} (hg:∀ m∈gs,OkM f l m) (hgn:gs.length≤1000) {a:Nat} {q0 q1:List Mo} {L:Int→List Mo→List Mo→Option (List Mo)} {L':Int→List (Mo×Bool)→List Mo→Option (List Mo)} {R:Option (List Mo)}
  (hk:∀ out queue mp,Bo f l out queue mp→a<queue.length→L ((a+1:Nat):Int) out queue=R→L' ((a+1:Nat):Int) mp queue=R) :
  ∀ (n i:Nat) (out queue:List Mo) (mp:List (Mo×Bool)),Bo f l out queue mp→a<queue.length→i≤gs.length→gs.length-i<n →
   f30_l21 KK l gs (a:Int) q0 L n (i:Int) out queue=R→f18_l16 KK l gs (a:Int) q1 L' n (i:Int) mp queue=R
 | 0,i,_,_,_,_,_,_,h=>by omega
 | n+1,i,out,queue,mp,hC,ha,hi,hn=>by
  have hlen:=hC.cl.pre.len hl;have hql:=hC.cl.len;show f30_b21 KK l gs (a:Int) q0 L (fun v0 v1 v2=>f30_l21 KK l gs (a:Int) q0 L n v0 v1 v2) (i:Int) out queue=R→f18_b16 KK l gs (a:Int) q1 L' (fun v0 v1 v2=>f18_l16 KK l gs (a:Int) q1 L' n v0 v1 v2) (i:Int) mp queue=R;unfold f30_b21 f18_b16;by_cases hlt:i<gs.length
  ·have o1:=hg _ (gM hlt);have o2:OkM f l queue[a]:=hC.cl.pre.mem _ ((hC.cl.mem _).2 (gM ha));have o3:=mul_ok hl o1 o2;have g1:=o1.good hl;have g2:=o2.good hl;have hsm:=appS_Sm (pm_sm g1.1) g2.2 g1.2;rw[in1 hlt,in0,gd hlt,in0,in1 ha,gd ha];simp only[aS,cT];rw[compose_eq g1 g2,oB,l06Reduce_eq hl (m:=(mmS gs[i].1 queue[a].1,appS gs[i] queue[a].2)) hsm,oB,l06Has_eq hC.cl.pre (by omega),oB,w_succ (by omega)]
   rw[times_eq g1 g2,oB,reduceMotion_eq hl (m:=(mmS gs[i].1 queue[a].1,appS gs[i] queue[a].2)) hsm,oB];rw[show (((mmS gs[i].1 queue[a].1,redS l (appS gs[i] queue[a].2)):Mo))=mulG l gs[i] queue[a] from rfl]
   have hkey:=hC.key (mulG l gs[i] queue[a]);have hqc:queue.contains (mulG l gs[i] queue[a])=out.contains (mulG l gs[i] queue[a]):=by
    rw[Bool.eq_iff_iff,cM,cM,hC.cl.mem]
   have hkey2:(mfind (eqSh (.cons (.cons (.int .i64) (.cons (.int .i64) (.cons (.int .i64) (.int .i64)))) (.cons (.int .i64) (.int .i64)))) mp (mulG l gs[i] queue[a])).getD false=out.contains (mulG l gs[i] queue[a]):=hkey.trans hqc;rw[hkey2];cases hc:out.contains (mulG l gs[i] queue[a])
   ·obtain⟨g',e1,e2,e3,e4⟩:=insert_ok hl hC.cl.pre o3 hc;have hlen2:=e2.len hl;have hni:mulG l gs[i] queue[a] ∉ queue:=fun h=>by
     rw[hc] at hqc;rw[List.contains_iff_mem.2 h] at hqc;cases hqc
    simp only[nF,cT];rw[e1,oB,blim48 (by simp;omega),cT]
    exact both_in hl hg hgn hk n (i+1) g' (queue++[mulG l gs[i] queue[a]]) _ ⟨⟨e2,fun x=>by rw[e3,List.mem_append,mS,hC.cl.mem],by rw[lA,e4,hql];rfl⟩,by
      rw[List.nodup_append];exact⟨hC.nd,by simp,fun x hx y hy=>by rw[mS] at hy;rw[hy];exact fun e=>hni (e▸hx)⟩,fun x=>by
      refine (congrArg (fun z=>Option.getD z false) (mfind_mput (K:=shMo) rfl mp (mulG l gs[i] queue[a]) x true)).trans ?_;cases hx:eqSh shMo x (mulG l gs[i] queue[a])
      ·rw[cF,hC.key];have hne:x≠mulG l gs[i] queue[a]:=fun e=>by rw[(eqSh_iff shMo rfl x (mulG l gs[i] queue[a])).2 e] at hx;cases hx
       rw[Bool.eq_iff_iff,cM,cM,List.mem_append,mS];exact⟨.inl,fun h=>h.resolve_right hne⟩
      ·have e:=(eqSh_iff shMo rfl x (mulG l gs[i] queue[a])).1 hx;rw[cT];refine (List.contains_iff_mem.2 (List.mem_append.2 (.inr ?_))).symm;rw[mS];exact e⟩ (by rw[lA];simp;omega) (by omega) (by omega)
   ·simp only[nT,cF];exact both_in hl hg hgn hk n (i+1) out queue mp hC ha (by omega) (by omega)
  ·have e:i=gs.length:=by omega
   subst e;rw[out1,cF,cF,w_succ (by omega)]
   exact hk out queue mp hC ha
theorem both_out {f:Int} {l:Lt} (hl:IsL l) {gs:List Mo} (hg:∀ m∈gs,OkM f l m) (hgn:gs.length≤1000) {r:List Mo}:∀ (n a:Nat) (out queue:List Mo) (mp:List (Mo×Bool)),Bo f l out queue mp→a≤queue.length →
   f30_l17 KK l gs n (a:Int) out queue=some r→f18_l12 KK l gs n (a:Int) mp queue=some r
 | 0,a,_,_,_,_,_=>fun h=>by cases h
 | n+1,a,out,queue,mp,hC,ha=>by
  have hlen:=hC.cl.pre.len hl;have hql:=hC.cl.len;show f30_b17 KK l gs (fun c0 c1 d0 d1 d2=>f30_l21 KK l gs c0 c1 (fun v0 v1 v2=>f30_l17 KK l gs n v0 v1 v2) KK d0 d1 d2) (fun v0 v1 v2=>f30_l17 KK l gs n v0 v1 v2) (a:Int) out queue=some r→f18_b12 KK l gs (fun c0 c1 d0 d1 d2=>f18_l16 KK l gs c0 c1 (fun v0 v1 v2=>f18_l12 KK l gs n v0 v1 v2) KK d0 d1 d2) (fun v0 v1 v2=>f18_l12 KK l gs n v0 v1 v2) (a:Int) mp queue=some r;unfold f30_b17 f18_b12;by_cases hlt:a<queue.length
  ·rw[in1 hlt,cT,cT];exact both_in hl hg hgn (L:=fun v0 v1 v2=>f30_l17 KK l gs n v0 v1 v2) (L':=fun v0 v1 v2=>f18_l12 KK l gs n v0 v1 v2) (fun o q m hB hq h=>both_out hl hg hgn n (a+1) o q m hB (by omega) h) KK 0 out queue mp hC hlt (by omega) (by simp only[KK];omega)
  ·have e:a=queue.length:=by omega
   subst e;rw[out1,cF,cF,sortMo_eq (by omega),oB]
   intro h;rw[← h];refine congrArg some (SM_unique (mergeMo_SM hC.nd) hC.cl.pre.pw fun x=>?_);rw[List.mem_mergeSort,hC.cl.mem]
theorem closeI_g (l:Lt) (gs:List Mo):f18G KK l gs=f18_l12 KK l gs KK 0 (mput (eqSh shMo) [] uMo true) [uMo]:=by
 have h1:f48G KK=some (1,0,0,1):=rfl;have h2:(decide (0≤(0:Int))&&decide ((0:Int)<([(((1,0,0,1),(0:Int),(0:Int)):Mo)].length:Int)))=true:=rfl;have h3:([(((1,0,0,1),(0:Int),(0:Int)):Mo)].getD ((0:Int)+(0:Int)).toNat (((0:Int),((0:Int),((0:Int),(0:Int)))),((0:Int),(0:Int))))=uMo:=rfl;unfold f18G f18_g;rw[h1,oB,h2,cT,h3];rfl
theorem close_same {f:Int} {l:Lt} (hl:IsL l) {gs:List Mo} (hg:∀ m∈gs,OkM f l m) (hgn:gs.length≤1000):f18G KK l gs=f30G KK l gs:=by
 obtain⟨g,e,_⟩:=close_ok hl hg hgn;rw[e];have hu:=uMo_ok (f:=f) hl;have hB:Bo f l [uMo] [uMo] (mput (eqSh shMo) [] uMo true):=⟨⟨pre_pw (fun m hm=>by rw[mS] at hm;rw[hm];exact hu) (by simp),fun x=>Iff.rfl,rfl⟩,by simp,fun x=>by
  refine (congrArg (fun z=>Option.getD z false) (mfind_mput (K:=shMo) rfl [] uMo x true)).trans ?_;cases hx:eqSh shMo x uMo
  ·have hne:x≠uMo:=fun e=>by rw[(eqSh_iff shMo rfl x uMo).2 e] at hx;cases hx
   rw[cF];refine Eq.symm ?_;show [uMo].contains x=false;rw[Bool.eq_false_iff];intro h;exact hne (List.mem_singleton.1 (List.contains_iff_mem.1 h))
  ·rw[cT];exact (List.contains_iff_mem.2 (List.mem_singleton.2 ((eqSh_iff shMo rfl x uMo).1 hx))).symm⟩
 have h:=both_out hl hg hgn (r:=g) KK 0 [uMo] [uMo] _ hB (by omega)
 have z:((0:Nat):Int)=0:=rfl;rw[z] at h;exact (closeI_g l gs).trans (h ((close_g l gs).symm.trans e))
def stdT (n:Int):List (Int×List Mo) :=
 [(0,[]),(0,[((-1,0,0,-1),0,0)]),(0,[((1,0,0,-1),0,0)]),(0,[((1,0,0,-1),n,0)]),(0,[((0,1,1,0),0,0)]),
 (0,[((1,0,0,-1),0,0),((-1,0,0,-1),0,0)]),(0,[((1,0,0,-1),n,0),((-1,0,0,-1),0,0)]),(0,[((1,0,0,-1),n,n),((-1,0,0,-1),0,0)]),
 (0,[((0,1,1,0),0,0),((-1,0,0,-1),0,0)]),(0,[((0,-1,1,0),0,0)]),(0,[((0,-1,1,0),0,0),((1,0,0,-1),0,0)]),(0,[((0,-1,1,0),0,0),((1,0,0,-1),n,n)]),
 (1,[((-1,-1,1,0),0,0)]),(1,[((-1,-1,1,0),0,0),((0,1,1,0),0,0)]),(1,[((-1,-1,1,0),0,0),((1,1,0,-1),0,0)]),(1,[((0,-1,1,1),0,0)]),(1,[((0,-1,1,1),0,0),((0,1,1,0),0,0)])]
def stdL (n:Int):Lt:=(w ((2:Int)*n),0,w ((2:Int)*n))
def stdOk (n:Int) (m:Int×List Mo):Bool:=(m.2.all fun x=>(stabS m.1 (stdL n)).contains x.1&&cellB (stdL n) x.2)&&(okF m.1&&okL (stdL n))
def stdP (n:Int) (o:Option (Int×List Mo×Bool)):Prop:=(∃ m∈stdT n,o=some (m.1,m.2,true))∨o=some (0,[],false)
abbrev Sgr:=Int×Lt×List Mo×Int
end Go.Proofs.YtelgaemfnhnbmaaGreatDoor.X
