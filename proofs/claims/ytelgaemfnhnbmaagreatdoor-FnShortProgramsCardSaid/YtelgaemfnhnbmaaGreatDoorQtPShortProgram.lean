/- The plain law of ShortProgram: both sides tell the motions that the group needs, and then the first cell of each orbit. -/
import Derived.Test.YtelgaemfnhnbmaaGreatDoorQtSD
namespace Go.Proofs.YtelgaemfnhnbmaaGreatDoor.X
open Go
set_option linter.unusedSimpArgs false
set_option linter.unusedVariables false
noncomputable def clS (l:Lt) (gs:List Mo):List Mo:=(f30G KK l gs).getD []
theorem clS_eq {f:Int} {l:Lt} (hl:IsL l) {gs:List Mo} (hg:∀ m∈gs,OkM f l m) (hgn:gs.length≤1000):f30G KK l gs=some (clS l gs)∧f18G KK l gs=some (clS l gs)∧Gd' f l gs (clS l gs):=by
 obtain⟨g,e1,e2,h⟩:=close_gen hl hg hgn;unfold clS;rw[e1];exact⟨rfl,e2,h⟩
theorem gd_nil {f:Int} (hf:okF f=true) {l:Lt} (hl:IsL l):Gd' f l [] [uMo]:=by
 refine⟨one_orb hf hl,fun x hx=>by rw[mS] at hx;rw[hx];exact .one,fun x hx=>?_⟩
 cases hx with
 | one=>simp
 | mul m x hm _=>cases hm
theorem gd_unique {f:Int} {l:Lt} {gs g g':List Mo} (h:Gd' f l gs g) (h':Gd' f l gs g'):g=g' :=
 SM_unique h.orb.pr.pw h'.orb.pr.pw fun x=>⟨fun hx=>h'.all x (h.gen x hx),fun hx=>h.all x (h'.gen x hx)⟩
theorem close_nil {f:Int} (hf:okF f=true) {l:Lt} (hl:IsL l):f18G KK l []=some [uMo]:=by
 obtain⟨_,e2,h⟩:=clS_eq (f:=f) hl (gs:=[]) (by simp) (by simp)
 rw[e2,gd_unique h (gd_nil hf hl)]
abbrev Sp:=List UInt8×List Mo×List Mo
noncomputable def stpM (l:Lt) (s:Sp) (m:Mo):Sp:=bif s.2.2.contains m then s else (s.1++mlnL m,s.2.1++[m],clS l (s.2.1++[m]))
structure Iv4 (f:Int) (l:Lt) (G:List Mo) (s:Sp):Prop where
 tl:∀ m∈s.2.1,m∈G
 gd:Gd' f l s.2.1 s.2.2
 pw:2 ^ s.2.1.length≤s.2.2.length
 tx:s.1.length≤100+60*s.2.1.length
theorem Iv4.few {f:Int} {l:Lt} {G:List Mo} (hG:OrbG f l G) (h12:G.length≤12) {s:Sp} (h:Iv4 f l G s):s.2.1.length≤3:=by
 have h1:=nodup_len s.2.2 G h.gd.orb.pr.nodup fun x hx=>(h.gd.gen x hx).into hG.one h.tl fun m hm n hn=>hG.mul hm hn;rcases Nat.lt_or_ge s.2.1.length 4 with h2 | h2
 ·omega
 ·have h3:2 ^ 4≤2 ^ s.2.1.length:=Nat.pow_le_pow_right (by omega) h2
  have:=h.pw;have e:(2:Nat) ^ 4=16:=by decide
  omega
theorem Iv4.next {f:Int} {l:Lt} {G:List Mo} (hG:OrbG f l G) (h12:G.length≤12) {s:Sp} (h:Iv4 f l G s) {m:Mo} (hm:m∈G):Iv4 f l G (stpM l s m):=by
 have hl:=hG.la;have hfew:=h.few hG h12;unfold stpM;cases hc:s.2.2.contains m
 ·have hmn:m ∉ s.2.2:=fun e=>by rw[List.contains_iff_mem.2 e] at hc;cases hc
  have htl:∀ x∈s.2.1++[m],x∈G:=fun x hx=>by
   rcases List.mem_append.1 hx with hx | hx
   ·exact h.tl x hx
   ·rw[mS] at hx;rw[hx];exact hm
  have hok:∀ x∈s.2.1++[m],OkM f l x:=fun x hx=>hG.pr.mem x (htl x hx);have hgd:=(clS_eq hl hok (by simp;omega)).2.2
  have ht:=close_twice hl hok h.gd hgd hmn;have hml:=motL_len (stab_mem (hG.pr.mem m hm).1) (cell_vecB hl (hG.pr.mem m hm).2);have hx:=h.tx;refine⟨htl,hgd,?_,?_⟩
  ·simp only[cF,lA,List.length_singleton];rw[Nat.pow_succ];have:=h.pw;omega
  ·simp only[cF,lA,List.length_cons,List.length_nil,mlnL];omega
 ·exact h
def firS (l:Lt) (g:List Mo):List Vc:=(orbsS l g).map fun o=>o.headD (0,0)
theorem fir_len {l:Lt} (hl:IsL l) (g:List Mo):(firS l g).length≤64:=by
 unfold firS;rw[List.length_map];exact orbs_len hl g
theorem fir_cell {f:Int} {l:Lt} {g:List Mo} (h:OrbG f l g):∀ v∈firS l g,cellB l v=true:=fun v hv=>by
 obtain⟨o,ho,rfl⟩:=List.mem_map.1 hv;obtain⟨x,t,rfl,hx⟩:=orbs_ne h ho;exact hx
theorem fir_get {f:Int} {l:Lt} {g:List Mo} (h:OrbG f l g) {q:Nat} (hq:q<(orbsS l g).length):0<(orbsS l g)[q].length∧(orbsS l g)[q].getD ((0:Int)+(0:Int)).toNat ((0:Int),(0:Int))=(orbsS l g)[q].headD (0,0):=by
 obtain⟨x,t,e,_⟩:=orbs_ne h (gM hq);rw[e];exact⟨by simp,rfl⟩
theorem gB0 {n:Nat} (h:0<n):(decide (0≤(0:Int))&&decide ((0:Int)<(n:Int)))=true:=by
 rw[dT (show (0:Int)<(n:Int) by omega)]
 rfl
noncomputable def endS (p:Pt) (g:List Mo) (s:Sp):ByteArray×Int:=endT s.1 ((firS p.2.1 g).foldl (stpP p) ([],0))
theorem simp_few {q:Nat} (h:q≤3):decide ((q:Int)>(8:Int))=false:=dF (by omega)
theorem sshort_22 {p a0:Pt} (hp:IsP p) (hc:∀ v,0≤atS p v∧atS p v≤9) {g:List Mo} (hG:OrbG p.1 p.2.1 g) {s:Sp} {q12:Int} {y1:Bool} {y3:List Mo} (h3:s.2.1.length≤3) (htx:s.1.length≤1000) :
  f7_l22 KK a0 q12 s.2.1 s.2.2 y1 p y3 (orbsS p.2.1 g) KK (mk s.1) (0:Int) (0:Int)=some (endS p g s):=by
 have hl:=hp.l;have hN:=orbs_len hl g;have hN2:(firS p.2.1 g).length=(orbsS p.2.1 g).length:=List.length_map _;have hh:=iter_fold (R:=ByteArray×Int) (body:=fun L x=>f7_b22 KK a0 q12 s.2.1 s.2.2 y1 p y3 (orbsS p.2.1 g) (fun v0 v1 v2=>L (v0,v1,v2)) x.1 x.2.1 x.2.2) (firS p.2.1 g) (fun q (t:List UInt8×Nat)=>(mk t.1,((t.2:Nat):Int),(q:Int))) (stpP p) (fun t=>some (bif decide (40<t.2) then (ByteArray.empty,3) else (mk t.1,0))) (fun q t=>t.1.length≤1000+30*q∧t.2≤q)
  (fun L q t hq hi=>by
   have hcell:=fir_cell hG _ (gM hq);have hvb:=cell_vecB hl hcell;have hb:=stp_bd hc hvb (s:=t);refine⟨by omega,?_⟩
   show f7_b22 KK a0 q12 s.2.1 s.2.2 y1 p y3 (orbsS p.2.1 g) (fun v0 v1 v2=>L (v0,v1,v2)) (mk t.1) ((t.2:Nat):Int) (q:Int)=_;unfold f7_b22;have hq':q<(orbsS p.2.1 g).length:=by omega
   obtain⟨k1,k2⟩:=fir_get hG hq';have ef:(firS p.2.1 g)[q]=(orbsS p.2.1 g)[q].headD (0,0):=List.getElem_map ..;have ha:=hc (firS p.2.1 g)[q];have hm:=markL_len hvb (c:=atS p (firS p.2.1 g)[q]) (by omega)
   have hcb:=cell_bounds hl hcell;rw[in1 hq',in0,gd hq',gB0 k1,k2,← ef,l09At_eq hp (v:=(firS p.2.1 g)[q]) (by unfold Sm;omega),w_succ (by omega),w_succ (by omega)]
   simp only[aS,cT,oB];rw[specMark_eq hvb ha.1 ha.2];simp only[oB];rw[mk_size,mk_size,okSize (by omega),mk_app]
   unfold stpP;have e3:decide (atS p (firS p.2.1 g)[q]>(0:Int))=!(atS p (firS p.2.1 g)[q]==0):=by
    rw[Bool.eq_iff_iff,dE,Bool.not_eq_true',bN];omega
   rw[e3];cases atS p (firS p.2.1 g)[q]==0<;>rfl)
  (fun L t hi=>by
   show f7_b22 KK a0 q12 s.2.1 s.2.2 y1 p y3 (orbsS p.2.1 g) (fun v0 v1 v2=>L (v0,v1,v2)) (mk t.1) ((t.2:Nat):Int) ((firS p.2.1 g).length:Int)=_;unfold f7_b22;rw[hN2,out1,cF,g40,simp_few h3];cases decide (40<t.2)<;>rfl) KK 0 (s.1,0) (by omega) (by simp only[KK];omega) (by simp;omega)
 rw[List.drop_zero] at hh;have hpre:=stpP_pre p s.1 (firS p.2.1 g) ([],0);rw[List.append_nil] at hpre;rw[hpre] at hh;exact hh
noncomputable def resSh (p:Pt):ByteArray×Int:=bif okP p then endS (leanS p) (groupS (leanS p)) ((groupS (leanS p)).foldl (stpM (leanS p).2.1) (headL p.1 (leanS p).2.1,[],[uMo])) else (ByteArray.empty,1)
theorem Iv4_0 {f:Int} (hf:okF f=true) {l:Lt} (hl:IsL l) (G:List Mo):Iv4 f l G (headL f l,[],[uMo]) :=
 ⟨by simp,gd_nil hf hl,by simp,by have:=headL_len f hl;simp only[List.length_nil];omega⟩
theorem bm_ok {f:Int} {l:Lt} {G:List Mo} (hG:OrbG f l G) {m:Mo} (hm:m∈G):m.1∈pmQ++pmH∧vecB m.2=true:=⟨stab_mem (hG.pr.mem m hm).1,cell_vecB hG.la (hG.pr.mem m hm).2⟩
theorem okF_of {p:Pt} (h:okP p=true):okF p.1=true:=by
 unfold okP at h;simp only[aT] at h;exact h.1.1.1
theorem lean_c {p:Pt} (h:okP p=true) (v:Vc):0≤atS (leanS p) v∧atS (leanS p) v≤9:=by
 rw[lean_at (okP_P h)];exact atC h v
theorem specSh_eq (p:Pt):f7G KK p=some (resSh p):=by
 unfold f7G f7_g resSh;rw[specIsPattern_eq,oB];cases h:okP p
 ·rfl
 ·have hp:=okP_P h;have hf:=okF_of h;have hq:=leanS_P hp;have hG:=groupS_orb hq;have h12:=lean_group hp;simp only[nT,cF,cT];rw[l09Lean_eq hp,oB,l10Group_eq hq,oB,specHead_eq (p:=leanS p) hf hq.l,oB];have hu:f28G KK=some uMo:=rfl;rw[hu,oB];have hh:=iter_fold (R:=ByteArray×Int) (X:=ByteArray×Int×List Mo×List Mo) (body:=fun L x=>f7_b10 KK p true (leanS p) (groupS (leanS p)) (fun c0 c1 c2 c3 c4 c5 c6 d0 d1 d2=>f7_l22 KK p c0 c1 c2 c3 c4 c5 c6 KK d0 d1 d2) (fun v0 v1 v2 v3=>L (v0,v1,v2,v3)) x.1 x.2.1 x.2.2.1 x.2.2.2) (groupS (leanS p)) (fun q (s:Sp)=>(mk s.1,(q:Int),s.2.1,s.2.2)) (stpM (leanS p).2.1) (fun s=>some (endS (leanS p) (groupS (leanS p)) s)) (fun q s=>Iv4 (leanS p).1 (leanS p).2.1 (groupS (leanS p)) s)
   (fun L q s hq' hi=>by
    have hmem:=gM hq';obtain⟨b1,b2⟩:=bm_ok hG hmem;have hfew:=hi.few hG h12;have htx:=hi.tx;have hml:=motL_len b1 b2;refine⟨hi.next hG h12 hmem,?_⟩;show f7_b10 KK p true (leanS p) (groupS (leanS p)) (fun c0 c1 c2 c3 c4 c5 c6 d0 d1 d2=>f7_l22 KK p c0 c1 c2 c3 c4 c5 c6 KK d0 d1 d2) (fun v0 v1 v2 v3=>L (v0,v1,v2,v3)) (mk s.1) (q:Int) s.2.1 s.2.2=_;unfold f7_b10;rw[in1 hq',in0,gd hq'];simp only[aS,cT];rw[l06Has_eq (f:=(leanS p).1) (l:=(leanS p).2.1) hi.gd.orb.pr (by have:=hi.gd.orb.len;omega),oB,w_succ (by omega)]
    unfold stpM;cases hc:s.2.2.contains (groupS (leanS p))[q]
    ·have hok:∀ x∈s.2.1++[(groupS (leanS p))[q]],OkM (leanS p).1 (leanS p).2.1 x:=fun x hx=>by
      rcases List.mem_append.1 hx with hx | hx
      ·exact hG.pr.mem x (hi.tl x hx)
      ·rw[mS] at hx;rw[hx];exact hG.pr.mem _ hmem
     simp only[nF,cT];rw[blim48 (by simp;omega),cT,(clS_eq hq.l hok (by simp;omega)).1,oB,specMo_eq b1 b2,bs_motion,bs_nl,mk_app,oB,mk_app,mk_app]
     simp only[mk_size,lA,List.length_cons,List.length_nil];rw[okSize (by omega),okSize (by omega),okSize (by omega)]
     simp only[cT,cF,mlnL,List.append_assoc]
    ·rfl)
   (fun L s hi=>by
    have hfew:=hi.few hG h12;have htx:=hi.tx;show f7_b10 KK p true (leanS p) (groupS (leanS p)) (fun c0 c1 c2 c3 c4 c5 c6 d0 d1 d2=>f7_l22 KK p c0 c1 c2 c3 c4 c5 c6 KK d0 d1 d2) (fun v0 v1 v2 v3=>L (v0,v1,v2,v3)) (mk s.1) ((groupS (leanS p)).length:Int) s.2.1 s.2.2=_;unfold f7_b10;rw[out1,cF,l07Orbits_eq hG,oB];exact sshort_22 hq (lean_c h) hG hfew (by omega)) KK 0 (headL p.1 (leanS p).2.1,[],[uMo]) (by omega) (by simp only[KK];omega) (Iv4_0 hf hq.l _)
  rw[List.drop_zero] at hh;exact hh
theorem ishort_20 {p a0:Pt} (hp:IsP p) (hc:∀ v,0≤atS p v∧atS p v≤9) {g:List Mo} (hG:OrbG p.1 p.2.1 g) {s:Sp} {q12:Int} {y1:Bool} {y5:List Mo} {ns:List Int} (htx:s.1.length≤1000) :
  f6_l20 KK a0 (mk s.1) q12 s.2.1 s.2.2 y1 p y5 (orbsS p.2.1 g,ns) KK (0:Int) []=some (endS p g s):=by
 have hl:=hp.l;have hN:=orbs_len hl g;have hh:=iter_fold (R:=ByteArray×Int) (body:=fun L x=>f6_b20 KK a0 (mk s.1) q12 s.2.1 s.2.2 y1 p y5 (orbsS p.2.1 g,ns) (fun v0 v1=>L (v0,v1)) x.1 x.2) (orbsS p.2.1 g) (fun q (t:List Vc)=>((q:Int),t)) (fun t o=>t++[o.headD (0,0)]) (fun t=>(f23G KK p t).bind fun y23=>(bif (y23.2 != (0:Int)) then some (ByteArray.empty,y23.2) else (bif (Nat.ble ((mk s.1).size+y23.1.size) 9223372036854775807) then some ((mk s.1++y23.1),(0:Int)) else none))) (fun q t=>t.length=q)
  (fun L q t hq hi=>by
   refine⟨by rw[lA,hi];rfl,?_⟩
   show f6_b20 KK a0 (mk s.1) q12 s.2.1 s.2.2 y1 p y5 (orbsS p.2.1 g,ns) (fun v0 v1=>L (v0,v1)) (q:Int) t=_;unfold f6_b20;obtain⟨k1,k2⟩:=fir_get hG hq;simp only;rw[in1 hq,in0,gd hq,gB0 k1,k2,blim16 (by simp;omega),w_succ (by omega)]
   rfl)
  (fun L t hi=>by
   show f6_b20 KK a0 (mk s.1) q12 s.2.1 s.2.2 y1 p y5 (orbsS p.2.1 g,ns) (fun v0 v1=>L (v0,v1)) ((orbsS p.2.1 g).length:Int) t=_;unfold f6_b20;simp only;rw[out1,cF]) KK 0 [] (by omega) (by simp only[KK];omega) rfl
 rw[List.drop_zero] at hh;have hfold:∀ (O:List (List Vc)) (t:List Vc),O.foldl (fun t o=>t++[o.headD (0,0)]) t=t++O.map fun o=>o.headD (0,0):=by
  intro O
  induction O with
  | nil=>intro t;simp
  | cons o O ih=>intro t;rw[List.foldl_cons,ih,List.map_cons];simp
 rw[hfold,List.nil_append] at hh;have hfc:=fir_cell hG;have hfl:=fir_len hl g;have hlen:=fold_len hc (firS p.2.1 g) ([],0) fun v hv=>cell_vecB hl (hfc v hv);have hm:=imark_eq hp hc hfc (by omega)
 refine Eq.trans hh ?_;refine (congrArg (fun z:Option (ByteArray×Int)=>z.bind fun y23=>(bif (y23.2 != (0:Int)) then some (ByteArray.empty,y23.2) else (bif (Nat.ble ((mk s.1).size+y23.1.size) 9223372036854775807) then some ((mk s.1++y23.1),(0:Int)) else none))) hm).trans ?_;simp only[List.length_nil] at hlen;unfold endS endT;simp only[oB];cases hk:decide (40<((firS p.2.1 g).foldl (stpP p) ([],0)).2)
 ·simp only[cF,bne_self_eq_false,List.nil_append];rw[mk_size,mk_size,okSize (by omega),cT,mk_app]
 ·rfl
theorem implSh_eq (p:Pt):f6G KK p=some (resSh p):=by
 unfold f6G f6_g resSh;rw[isPattern_eq,oB];cases h:okP p
 ·rfl
 ·have hp:=okP_P h;have hf:=okF_of h;have hq:=leanS_P hp;have hG:=groupS_orb hq;have h12:=lean_group hp;simp only[nT,cF,cT];rw[lean_eq hp,oB,implHead_eq (p:=leanS p) hf hq.l,oB,close_nil (f:=p.1) hf hq.l,oB,groupOf_eq hq,oB];have hh:=iter_fold (R:=ByteArray×Int) (X:=ByteArray×Int×List Mo×List Mo) (body:=fun L x=>f6_b10 KK p true (leanS p) (groupS (leanS p)) (fun c0 c1 c2 c3 c4 c5 c6 c7 d0 d1=>f6_l20 KK p c0 c1 c2 c3 c4 c5 c6 c7 KK d0 d1) (fun v0 v1 v2 v3=>L (v0,v1,v2,v3)) x.1 x.2.1 x.2.2.1 x.2.2.2) (groupS (leanS p)) (fun q (s:Sp)=>(mk s.1,(q:Int),s.2.1,s.2.2)) (stpM (leanS p).2.1) (fun s=>some (endS (leanS p) (groupS (leanS p)) s)) (fun q s=>Iv4 (leanS p).1 (leanS p).2.1 (groupS (leanS p)) s)
   (fun L q s hq' hi=>by
    have hmem:=gM hq';obtain⟨b1,b2⟩:=bm_ok hG hmem;have hfew:=hi.few hG h12;have htx:=hi.tx;have hml:=motL_len b1 b2;refine⟨hi.next hG h12 hmem,?_⟩;show f6_b10 KK p true (leanS p) (groupS (leanS p)) (fun c0 c1 c2 c3 c4 c5 c6 c7 d0 d1=>f6_l20 KK p c0 c1 c2 c3 c4 c5 c6 c7 KK d0 d1) (fun v0 v1 v2 v3=>L (v0,v1,v2,v3)) (mk s.1) (q:Int) s.2.1 s.2.2=_;unfold f6_b10;rw[in1 hq',in0,gd hq'];simp only[aS,cT];rw[containsMo_eq (by have:=hi.gd.orb.len;omega),oB,w_succ (by omega)]
    unfold stpM;cases hc:s.2.2.contains (groupS (leanS p))[q]
    ·have hok:∀ x∈s.2.1++[(groupS (leanS p))[q]],OkM (leanS p).1 (leanS p).2.1 x:=fun x hx=>by
      rcases List.mem_append.1 hx with hx | hx
      ·exact hG.pr.mem x (hi.tl x hx)
      ·rw[mS] at hx;rw[hx];exact hG.pr.mem _ hmem
     simp only[nF,cT];rw[implMo_eq b1 b2,oB,bs_motion,bs_nl,mk_app,mk_app,mk_app,blim48 (by simp;omega),(clS_eq hq.l hok (by simp;omega)).2.1,oB]
     simp only[mk_size,lA,List.length_cons,List.length_nil];rw[okSize (by omega),okSize (by omega),okSize (by omega)]
     simp only[cT,cF,mlnL]
    ·rfl)
   (fun L s hi=>by
    have hfew:=hi.few hG h12;have htx:=hi.tx;show f6_b10 KK p true (leanS p) (groupS (leanS p)) (fun c0 c1 c2 c3 c4 c5 c6 c7 d0 d1=>f6_l20 KK p c0 c1 c2 c3 c4 c5 c6 c7 KK d0 d1) (fun v0 v1 v2 v3=>L (v0,v1,v2,v3)) (mk s.1) ((groupS (leanS p)).length:Int) s.2.1 s.2.2=_;unfold f6_b10;rw[out1,cF,orbitsOf_eq hG,oB];exact ishort_20 hq (lean_c h) hG (by omega)) KK 0 (headL p.1 (leanS p).2.1,[],[uMo]) (by omega) (by simp only[KK];omega) (Iv4_0 hf hq.l _)
  rw[List.drop_zero] at hh;exact hh
end Go.Proofs.YtelgaemfnhnbmaaGreatDoor.X
