/- The plain law of FnShortPrograms: a short program tells the lean pattern and its group. -/
import Derived.Test.YtelgaemfnhnbmaaGreatDoorQtSJ
namespace Go.Proofs.YtelgaemfnhnbmaaGreatDoor.X
open Go
set_option linter.unusedSimpArgs false
set_option linter.unusedVariables false
theorem told_all {f:Int} {l:Lt} {G:List Mo} (hG:OrbG f l G) (h12:G.length≤12):∀ (L:List Mo) (s:Sp),(∀ m∈L,m∈G)→Iv4 f l G s→s.1=headL f l++joinL (s.2.1.map lnM) →
  Iv4 f l G (L.foldl (stpM l) s)∧(L.foldl (stpM l) s).1=headL f l++joinL ((L.foldl (stpM l) s).2.1.map lnM)∧(∀ x∈s.2.2,x∈(L.foldl (stpM l) s).2.2)∧∀ m∈L,m∈(L.foldl (stpM l) s).2.2
 | [],s,_,hi,ht=>⟨hi,ht,fun x hx=>hx,fun m hm=>by cases hm⟩
 | m :: L,s,hL,hi,ht=>by
  have hl:=hG.la;have hm:m∈G:=hL m (by simp)
  have hfew:=hi.few hG h12;have hn:=hi.next hG h12 hm;have hok:∀ x∈s.2.1++[m],OkM f l x:=fun x hx=>by
   rcases List.mem_append.1 hx with hx | hx
   ·exact hG.pr.mem x (hi.tl x hx)
   ·rw[mS] at hx;rw[hx];exact hG.pr.mem _ hm
  have ht':(stpM l s m).1=headL f l++joinL ((stpM l s m).2.1.map lnM):=by
   unfold stpM;cases s.2.2.contains m
   ·simp only[cF];rw[List.map_append,joinL_app,mln_ln,ht,List.append_assoc];rfl
   ·exact ht
  have hup:(∀ x∈s.2.2,x∈(stpM l s m).2.2)∧m∈(stpM l s m).2.2:=by
   unfold stpM;cases hc:s.2.2.contains m
   ·have hgd:=(clS_eq hl hok (by simp;omega)).2.2
    simp only[cF];exact⟨fun x hx=>hgd.all x ((hi.gd.gen x hx).mono fun y hy=>List.mem_append.2 (.inl hy)),hgd.all m (Gn.self hl hok (by simp))⟩
   ·exact⟨fun x hx=>hx,List.contains_iff_mem.1 hc⟩
  obtain⟨r1,r2,r3,r4⟩:=told_all hG h12 L (stpM l s m) (fun x hx=>hL x (List.mem_cons_of_mem _ hx)) hn ht';rw[List.foldl_cons];refine⟨r1,r2,fun x hx=>r3 x (hup.1 x hx),fun x hx=>?_⟩;rcases List.mem_cons.1 hx with rfl | hx
  ·exact r3 _ hup.2
  ·exact r4 x hx
def mksS (p:Pt) (C:List Vc):List Ma:=(C.filter fun v=>!(atS p v==0)).map fun v=>(v,atS p v)
theorem mks_fold (p:Pt):∀ (C:List Vc) (s:List UInt8×Nat),C.foldl (stpP p) s=(s.1++joinL ((mksS p C).map lnK),s.2+(mksS p C).length)
 | [],s=>by simp[mksS,joinL]
 | v :: C,s=>by
  rw[List.foldl_cons,mks_fold p C];unfold stpP mksS;rw[List.filter_cons];cases h:atS p v==0
  ·simp only[cF,nF,if_true,List.map_cons,List.length_cons];rw[mark_ln,List.append_assoc,← joinL_app];refine Prod.ext rfl ?_;simp only;omega
  ·rfl
theorem mks_of {p:Pt} {C:List Vc} {x:Ma} (h:x∈mksS p C):x.1∈C∧x.2=atS p x.1:=by
 obtain⟨v,hv,rfl⟩:=List.mem_map.1 h;exact⟨(List.mem_filter.1 hv).1,rfl⟩
theorem cf_none {l:Lt} {ns:List Int} {ms:List Ma} (h:∀ x∈ms,∀ y∈ms,nmS l ns x=nmS l ns y→x.2=y.2):∀ (r:List Ma) (j:Nat),(∀ y∈r,y∈ms)→(cfO l ns ms j r).2.2=false
 | [],_,_=>rfl
 | y :: r,j,hr=>by
  have e:(ms.take j).any (cfB l ns y)=false:=by
   rw[List.any_eq_false];intro x hx hc;unfold cfB at hc;rw[aT,beq_iff_eq,bne_iff_ne] at hc;exact hc.2 (h x (List.mem_of_mem_take hx) y (hr y (by simp)) hc.1)
  unfold cfO;rw[e,cF];exact cf_none h r (j+1) fun z hz=>hr z (List.mem_cons_of_mem _ hz)
theorem last_at {l:Lt} {ns:List Int} {k a:Int}:∀ (ms:List Ma) (c:Int),(∀ x∈ms,nmS l ns x=k→x.2=a)→ms.foldl (fun c x=>bif nmS l ns x==k then x.2 else c) c=bif ms.any (fun x=>nmS l ns x==k) then a else c
 | [],c,_=>rfl
 | x :: ms,c,h=>by
  rw[List.foldl_cons,last_at ms _ fun y hy=>h y (List.mem_cons_of_mem _ hy),List.any_cons];cases hx:nmS l ns x==k
  ·rfl
  ·rw[h x (by simp) (beq_iff_eq.1 hx)]
   cases ms.any fun x=>nmS l ns x==k<;>rfl
theorem kept_grp {p:Pt} (hp:IsP p) {v u:Vc} (hv:cellB p.2.1 v=true) (hu:u∈orbS p.2.1 (groupS p) v):atS p u=atS p v:=by
 obtain⟨m,hm,rfl⟩:=orbS_mem.1 hu;exact keep_mv hp.l (groupS_iff.1 hm).2.2 hv
theorem same_ix {p:Pt} (hp:IsP p) {u v:Vc} (hu:cellB p.2.1 u=true) (hv:cellB p.2.1 v=true) (h:ixS p.2.1 (groupS p) v=ixS p.2.1 (groupS p) u):atS p u=atS p v:=by
 have:=ix_same (groupS_orb hp) hu hv;rw[beq_iff_eq.2 h] at this;exact kept_grp hp hv (List.contains_iff_mem.1 this.symm)
theorem mks_ix {p:Pt} (hp:IsP p) {x:Ma} (h:x∈mksS p (firS p.2.1 (groupS p))):cellB p.2.1 x.1=true∧x.2=atS p x.1∧nmS p.2.1 (numsF p.2.1 (groupS p)) x=ixS p.2.1 (groupS p) x.1:=by
 obtain⟨h1,h2⟩:=mks_of h;have hc:=fir_cell (groupS_orb hp) _ h1;exact⟨hc,h2,by rw[nm_ix hp.l,redS_cell hp.l hc]⟩
theorem mks_free {p:Pt} (hp:IsP p):cfS p.2.1 (groupS p) (mksS p (firS p.2.1 (groupS p)))=false:=by
 refine cf_none (fun x hx y hy e=>?_) _ 0 fun y hy=>hy;obtain⟨x1,x2,x3⟩:=mks_ix hp hx;obtain⟨y1,y2,y3⟩:=mks_ix hp hy;rw[x3,y3] at e;rw[x2,y2];exact same_ix hp x1 y1 e.symm
theorem mks_comp {p:Pt} (hp:IsP p):compS p.2.1 (groupS p) (mksS p (firS p.2.1 (groupS p))) 0=(cellsS p.2.1).map (atS p):=by
 have hG:=groupS_orb hp;unfold compS
 conv=>lhs;unfold numsF
 rw[List.map_map];refine List.map_congr_left fun v hv=>?_;have hc:cellB p.2.1 v=true:=cellsS_cell hv;show lastS p.2.1 (numsF p.2.1 (groupS p)) (mksS p (firS p.2.1 (groupS p))) 0 (ixS p.2.1 (groupS p) v)=atS p v;unfold lastS;rw[last_at (a:=atS p v) _ 0 fun x hx e=>by
  obtain⟨x1,x2,x3⟩:=mks_ix hp hx;rw[x3] at e;rw[x2];exact same_ix hp x1 hc e.symm]
 by_cases h0:atS p v=0
 ·rw[h0];cases (mksS p (firS p.2.1 (groupS p))).any fun x=>nmS p.2.1 (numsF p.2.1 (groupS p)) x==ixS p.2.1 (groupS p) v<;>rfl
 ·rw[List.any_eq_true.2,cT];obtain⟨o,ho,hvo⟩:=List.any_eq_true.1 (orbs_all hG hc);obtain⟨w,t,e,hw⟩:=orbs_ne hG ho;obtain⟨r,hr,hro⟩:=List.mem_map.1 ho;have hrc:cellB p.2.1 r=true:=cellsS_cell (List.mem_filter.1 hr).1;have hvr:v∈orbS p.2.1 (groupS p) r:=by rw[hro];exact List.contains_iff_mem.1 hvo
  have hwr:w∈orbS p.2.1 (groupS p) r:=by rw[hro,e];simp
  have hvw:v∈orbS p.2.1 (groupS p) w:=by rw[orb_eq hG hrc hwr];exact hvr
  have ha:atS p v=atS p w:=kept_grp hp hw hvw;have hf:w∈firS p.2.1 (groupS p):=List.mem_map.2 ⟨o,ho,by rw[e];rfl⟩
  have hx:(w,atS p w)∈mksS p (firS p.2.1 (groupS p)):=List.mem_map.2 ⟨w,List.mem_filter.2 ⟨hf,by rw[← ha];simp[h0]⟩,rfl⟩
  refine⟨_,hx,?_⟩;rw[(mks_ix hp hx).2.2,ix_same hG hc hw];exact List.contains_iff_mem.2 hvw
theorem cols_eq {p:Pt} (hp:IsP p):(cellsS p.2.1).map (atS p)=p.2.2:=by
 have hn:=hp.n;have hl:=cellsS_len hp.l;have hi:=idx_nat hp.l;refine List.ext_getElem (by rw[List.length_map];omega) fun i h1 h2=>?_
 rw[List.length_map] at h1;rw[List.getElem_map];unfold atS;rw[cellsS_num hp.l h1,List.getD_eq_getElem?_getD,List.getElem?_eq_getElem h2];rfl
theorem short_back {p:Pt} (h0:(resSh p).2=0):okP p=true∧∃ (T:List UInt8) (s:St),(resSh p).1=mk T∧T.length≤3000∧cmpS T=.inr s∧InvS s∧2≤s.1∧patS s=leanS p∧grS s=groupS (leanS p):=by
 unfold resSh at h0 ⊢;cases h:okP p
 ·rw[h] at h0;cases h0
 refine⟨rfl,?_⟩;rw[h] at h0;simp only[cT] at h0 ⊢;have hp:=okP_P h;have hf:=okF_of h;have hq:=leanS_P hp;have hG:=groupS_orb hq;have h12:=lean_group hp;have hc:=lean_c h;obtain⟨r1,r2,-,r4⟩:=told_all hG h12 (groupS (leanS p)) (headL p.1 (leanS p).2.1,[],[uMo]) (fun m hm=>hm) (Iv4_0 hf hq.l _) (by simp[joinL];rfl)
 generalize hs:(groupS (leanS p)).foldl (stpM (leanS p).2.1) (headL p.1 (leanS p).2.1,[],[uMo])=s at h0 r1 r2 r4 ⊢;have hmf:=mks_fold (leanS p) (firS (leanS p).2.1 (groupS (leanS p))) ([],0);have hfl:=fir_len hq.l (groupS (leanS p));unfold endS endT at h0 ⊢;rw[hmf] at h0 ⊢;simp only[List.nil_append,Nat.zero_add] at h0 ⊢;have hbd:=fold_len hc (firS (leanS p).2.1 (groupS (leanS p))) ([],0) fun v hv=>cell_vecB hq.l (fir_cell hG v hv);rw[hmf] at hbd;simp only[List.nil_append,List.length_nil] at hbd;generalize hM:mksS (leanS p) (firS (leanS p).2.1 (groupS (leanS p)))=M at h0 hbd ⊢;have h40:M.length≤40:=by
  rcases Nat.lt_or_ge 40 M.length with hk | hk
  ·rw[dT hk] at h0;cases h0
  ·exact hk
 rw[dF (by omega),cF]
 have hMv:∀ x∈M,vecB x.1=true∧0≤x.2∧x.2≤9:=fun x hx=>by
  rw[← hM] at hx;obtain⟨x1,x2,_⟩:=mks_ix hq hx;rw[x2];exact⟨cell_vecB hq.l x1,hc _⟩
 have hTv:∀ m∈s.2.1,(m.1∈pmQ++pmH∧vecB m.2=true)∧suitB p.1 (leanS p).2.1 m=true∧redS (leanS p).2.1 m.2=m.2:=fun m hm=>by
  have hmG:=r1.tl m hm;obtain⟨b1,b2⟩:=bm_ok hG hmG;refine⟨⟨b1,b2⟩,?_,redS_cell hq.l (hG.pr.mem m hmG).2⟩;unfold suitB;rw[b2,Bool.and_true];exact List.contains_iff_mem.2 (hG.stab hmG)
 have hfew:=r1.few hG h12;have htx:=r1.tx;have hT:s.1++joinL (M.map lnK)=joinL (lnF p.1 :: lnL (leanS p).2.1 :: (s.2.1.map lnM++M.map lnK)):=by
  rw[r2];show headL p.1 (leanS p).2.1++_++_=_;rw[head_ln,List.append_assoc,← joinL_app,← joinL_app];rfl
 have hlm:∀ x∈M,(lnK x).length≤30:=fun x hx=>by
  obtain⟨x1,x2,x3⟩:=hMv x hx;have:=markL_len x1 (c:=x.2) (by omega)
  rw[mark_ln,joinL_one,lA] at this;show (lnK (x.1,x.2)).length≤30;omega
 have hlK:∀ (M:List Ma),(∀ x∈M,(lnK x).length≤30)→(joinL (M.map lnK)).length≤31*M.length:=by
  intro M
  induction M with
  | nil=>intro _;simp[joinL]
  | cons x M ih =>
   intro hx;have h1:=hx x (by simp)
   have h2:=ih fun y hy=>hx y (List.mem_cons_of_mem _ hy);have e:joinL ((x :: M).map lnK)=lnK x++[10]++joinL (M.map lnK):=by simp[joinL]
   rw[e,lA,lA,List.length_singleton,List.length_cons];omega
 have hlK:=hlK M hlm;have hlen:(s.1++joinL (M.map lnK)).length≤3000:=by
  rw[lA];omega
 have hrun:runS (lnF p.1 :: lnL (leanS p).2.1 :: (s.2.1.map lnM++M.map lnK)) s0=((2+s.2.1.length+M.length,p.1,(leanS p).2.1,s.2.1,M),0):=by
  rw[run_F hf,run_L hq.l,run_M s.2.1 2 [] (by omega) hTv (by simp;omega),List.nil_append,run_K M _ [] (by omega) hMv (by simp;omega),List.nil_append]
 have hinv:InvS (2+s.2.1.length+M.length,p.1,(leanS p).2.1,s.2.1,M):=by
  have:=runS_inv (lnF p.1 :: lnL (leanS p).2.1 :: (s.2.1.map lnM++M.map lnK)) s0_inv (by simp[s0];omega) (by rw[hrun])
  rwa [hrun] at this
 have hg:grS (2+s.2.1.length+M.length,p.1,(leanS p).2.1,s.2.1,M)=groupS (leanS p):=by
  have g3:=(grS_ok hinv (by simp only;omega)).2.2
  rw[gd_unique g3 r1.gd];exact SM_unique r1.gd.orb.pr.pw hG.pr.pw fun x=>⟨fun hx=>(r1.gd.gen x hx).into hG.one r1.tl fun m hm n hn=>hG.mul hm hn,fun hx=>r4 x hx⟩
 have hend:endC (2+s.2.1.length+M.length,p.1,(leanS p).2.1,s.2.1,M)=0:=by
  unfold endC;rw[if_neg (by simp only;omega),hg,← hM]
  simp only;rw[mks_free hq];rfl
 refine⟨_,_,rfl,hlen,?_,hinv,by simp only;omega,?_,hg⟩
 ·rw[hT];refine cmp_lines (by simp) (fun x hx=>?_) (by rw[← hT];exact hlen) hrun hend
  simp only[List.mem_cons,List.mem_append,List.mem_map] at hx;rcases hx with rfl | rfl | ⟨m,hm,rfl⟩ | ⟨y,hy,rfl⟩
  ·exact no_ten w_no.1.2 (fr_no _).2
  ·exact no_ten w_no.2.1.2 (lat_no hq.l).2.2
  ·obtain⟨⟨b1,b2⟩,_⟩:=hTv m hm;exact no_ten w_no.2.2.1.2 (mot_no b1 b2).2
  ·obtain⟨y1,y2,y3⟩:=hMv y hy;exact no_ten w_no.2.2.2.2 (no_ten (vec_no y1).2.2 (dg_no (by omega)).2)
 ·unfold patS;rw[hg,← hM];simp only;rw[mks_comp hq,cols_eq hq];rfl
theorem drawn_loop {c:List Int} {y2:(Int×Int)×Int}:∀ (n q:Nat) (t:Int×Int) (cs:List Int),q≤41→cs.length=42→Src c t→42-q<n →
  ∃ p:Pt,f14_l5 KK c y2 n (q:Int) t.1 t.2 cs=some p∧p.2.2.length≤100
 | 0,q,_,_,_,_,_,h=>by omega
 | n+1,q,t,cs,hq,hcs,hS,hn=>by
  obtain⟨t',r,e,hS',r0,r1⟩:=next_pos hS (n:=3) (by omega)
  show ∃ p:Pt,f14_b5 KK c y2 (fun v0 v1 v2 v3=>f14_l5 KK c y2 n v0 v1 v2 v3) (q:Int) t.1 t.2 cs=some p∧_;unfold f14_b5;rw[show f39G KK (c,t.1,t.2) 3=some (t',r) from e,oB]
  simp only;rw[w_id (n:=39+r) (by omega) (by omega)]
  by_cases hlt:(q:Int)<39+r
  ·rw[dT hlt,cT,in0,in1 (show q<cs.length by omega),aS,cT,w_succ (by omega)]
   exact drawn_loop n (q+1) t' _ (by omega) (by rw[List.length_set];exact hcs) hS' (by omega)
  ·rw[dF hlt,cF];exact⟨_,rfl,by simp only;omega⟩
theorem drawn_ok {c:List Int} (hb:∀ i (h:i<c.length),0≤c[i]∧c[i]≤255) (hl:c.length≤4096):∃ p:Pt,f5G KK c=some p∧p.2.2.length≤100:=by
 obtain⟨t0,s0,e0⟩:=from_ok hb hl;obtain⟨t1,r,e1,s1,_⟩:=next_ok s0 20;unfold f5G f14G f14_g;rw[e0,oB,e1,oB];simp only;cases r==0
 ·rw[cF];obtain⟨t2,p,e2,_,hp⟩:=dpat_ok s1;rw[e2,oB,oB];exact⟨p,rfl,hp⟩
 ·rw[cT,show (decide (0≤(42:Int))&&Nat.ble 42 (lim 8)&&((42:Int)==(42:Int)))=true from rfl,cT]
  obtain⟨p,e,hp⟩:=drawn_loop (y2:=(t1,r)) KK 0 t1 (List.replicate 42 0) (by omega) (by simp) s1 (by simp only[KK];omega)
  exact⟨p,by rw[show f14_l5 KK c (t1,r) KK 0 t1.1 t1.2 (List.replicate 42 0)=some p from e];rfl,hp⟩
theorem leanP_eq {p:Pt} (h:okP p=true):f9G KK p=some (leanS p,0):=by
 unfold f9G;rw[isPattern_eq,h,oB];simp only[nT,cF];rw[lean_eq (okP_P h),oB]
theorem grpP_eq {p:Pt} (h:okP p=true):f11G KK p=some (groupS (leanS p),0):=by
 unfold f11G;rw[isPattern_eq,h,oB];simp only[nT,cF];rw[lean_eq (okP_P h),oB,groupOf_eq (leanS_P (okP_P h)),oB]
theorem FnShortPrograms_pure (a0:List Int) (h:WfA [(.list 5 (.int .u8))] (a0,())):∃ K,f3G K a0=some true:=by
 refine⟨KK,?_⟩;have hw:Wf (.list 5 (.int .u8)) a0:=h.1;unfold f3G;rw[big_eq,oB];by_cases hb:(a0.length:Int)>4096
 ·rw[dT hb];rfl
 ·rw[dF hb,cF];obtain⟨p,eP,hp⟩:=drawn_ok (code_ok hw) (by omega)
  rw[eP,oB,implSh_eq,oB,specSh_eq,oB,ba_eq];simp only[bne_self_eq_false,cF];cases h0:(resSh p).2 != 0
  ·have h1:(resSh p).2=0:=by simpa using h0
   obtain⟨hok,T,s,e1,e2,e3,e4,e5,e6,e7⟩:=short_back h1;have ec:f35G KK (mk T)=some (some (tupI s),patS s,0,0):=by
    rw[implC_eq T (by omega),e3]
   have hq:=leanS_P (okP_P hok);have hlen:(leanS p).2.2.length≤64:=by
    have:=cellsS_le hq.l;rw[← cols_eq hq,List.length_map];exact this
   have hgl:=(groupS_orb hq).len;have ecp:f8G KK (mk T)=some (leanS p,0,0):=by
    unfold f8G;rw[ec,oB,e6];rfl
   have egp:f10G KK (mk T)=some (groupS (leanS p),0):=by
    unfold f10G;rw[ec,oB];show (f36G KK (tupI s)).bind _=_;unfold f36G;rw[show f18G KK (tupI s).2.2.1 (tupI s).2.2.2.1=some (grS s) from (grS_ok e4 (by omega)).2.1,e7]
    rfl
   rw[cF,e1,ecp,oB,leanP_eq hok,oB,egp,oB,grpP_eq hok,oB];simp only[beq_self_eq_true,cT];rw[likePatterns_eq (by omega),oB]
   simp only[cT];rw[likeMotions_eq (by omega),oB]
  ·rfl
end Go.Proofs.YtelgaemfnhnbmaaGreatDoor.X
