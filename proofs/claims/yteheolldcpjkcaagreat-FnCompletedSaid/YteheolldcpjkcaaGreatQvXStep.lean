/- An operation, whatever it is. -/
import Derived.Test.YteheolldcpjkcaaGreatQvXAft
import Derived.Test.YteheolldcpjkcaaGreatQvXSt
set_option linter.unusedSimpArgs false
set_option linter.unusedVariables false
set_option linter.unusedSectionVars false
namespace Go.Proofs.YteheolldcpjkcaaGreat.X
open Go Go.RowKit
variable [CW]
variable {C:Cx} {fr:Fr} {big:FF} {g:Sg} {a:Act} {w w':World} {ch:List (Nat×Bool)} {E:Env}
theorem Sub.took (hsub:Sub fr big):AX none big.rw (at? fr.rw):=by
 refine⟨fun j r' hj=>.inl (hsub.rw j r' hj),fun j r p pa hj e=>.inl ⟨hsub.rw j r hj,fun r0 h0 _=>hsub.par j r p pa hj e r0 h0⟩⟩
theorem ZW:∀ {vs:List (Bool×List Lf)} {us:List Value},B1 C g vs us→us.length=vs.length
 | [],_,h=>by cases h;rfl
 | _ :: _,_,⟨u,t,e,_,h⟩=>by subst e;simp[ZW h]
theorem Hp {vs:List (Bool×List Lf)} {us:List Value} (h:B1 C g vs us):AVR C g a (one vs) (FQ us):=by
 have hl:=ZW h
 match vs,us,hl with
 | [],[],_=>exact⟨[],rfl,rfl⟩
 | [(ag,cs)],[u],_ =>
  obtain⟨u',t,e,hv,ht⟩:=h;cases ht;cases e;exact hv
 | v1 :: v2 :: r,u1 :: u2 :: t,_=>exact⟨u1 :: u2 :: t,rfl,h⟩
theorem Abt (hE:AG C.P E) (hC:A9 C) (hs:Sim C big g a w) (hsub:Sub fr big) {m:Mdl} {vs:List (Bool×List Lf)} {us:List Value} (hvs:B1 C g vs us) {f:Nat} {args:Array Value} (hS:∀ x Fs,(∀ k,hands m.ps Fs k→gN≤k)→Dy C.P w m.ps x us Fs→Es m.ps Fs→∀ y,m.F x=some y→Calls C.P f args w fun e w'=>∃ u,e=.returned u∧NO w m us Fs y u w')
  (o:Oper) (hrun:(execOp a.eval o).run C.P w=.ok (.enter f args) w) {m':Mdl} {x:Option (RT (BG m'.ps++m'.rs))} {vs':List (Bool×List Lf)} {rw1:List (Option Ac)} {quiet:Bool} (hcall:Db E fr m vs=.call m' x vs' rw1 quiet) {y:RT (BG m'.ps++m'.rs)} (hx:x=some y)
  (hfull:quiet=false→fr.f=big) (hfree:NP fr (Am fr m' vs' rw1 quiet y).2.1 [] g) {K:Act→World→Prop} {Q:Exit→Act→World→Prop}
  (hK:∀ u w',Out C g a fr (Am fr m' vs' rw1 quiet y).2.1 [] (grow fr big (Am fr m' vs' rw1 quiet y).2.1 [] (Am fr m' vs' rw1 quiet y).2.2) (some (Am fr m' vs' rw1 quiet y).1) u w'→K (a.put o.dst u) w'):o.wp C.P a w K Q:=by
 unfold Db at hcall;split at hcall
 ·rename_i rw0 h1;split at hcall
  ·rename_i xs h2;cases hd:m.rs.all Sh.data
   ·rw[hd] at hcall;cases hcall
   ·rw[hd,cond_true] at hcall;cases hcall;have hdata:∀ s∈m.rs,s.data=true:=fun s hs=>Aqn.1 hd s hs;have hT0:=hsub.took;have htab:Tab (at? fr.rw) g w:=hs.tab.took hT0;obtain⟨hT1,hlen⟩:=Cy (g:=g) (w:=w) (C:=C) hvs htab h1;obtain⟨Fs,eF,hA,hap,hh,hr⟩:=C5 (g:=g) hE hC hs hsub (.inr rfl) hvs hT0 h1 (hT0.trans hT1) h2;obtain⟨FL,eL,_,hapL,_,_⟩:=C5 (g:=g) hE hC hs hsub (T:=fun _=>True) (.inl fun _=>trivial) hvs hT0 h1 (hT0.trans hT1) h2;unfold Oper.wp;rw[hrun,Oper.upon_enter];refine (hS xs Fs (fun k hk=>hC.free (Own.zone hs ((hh k hk).1.took hT0)).1) hA hap y hx).mono fun e w' ⟨u,eu,vr,Gs,er,hM,hO⟩=>?_;subst eu;refine hK u w' ?_;have hO':=hO;rw[eF] at hO';have hB0:Dj (hio m.ps FL) fr.f g w' rw1 rw1:=⟨fun j r h=>.inl h,fun j r h=>h,rfl⟩;obtain⟨hB,hV,hG⟩:=EW (w':=w') (hs.sub hsub) hs hT0 hvs (AX.refl _ _) h1 hO' (fun k hk=>by rw[eL];exact hk) hB0
    rw[← eF] at hG;have hgz:∀ k,Er m.ps Fs k→Own big.rw g k∧¬ Own (at? rw1) g k:=fun k hk=>by
     obtain⟨h3,h4⟩:=hh k (Cw hk);exact⟨h3.took hT0,h4⟩
    subst er
    -- the frame behind the call
    have fin:∀ (base:Nat→Option Ac),Sim C { big with rw:=base } g a w'→(∀ k,Er m.ps Fs k→¬ Own base g k)→(∀ k,Own base g k→k<w.heap.size) →
      Out C g a fr (Am fr m vs rw1 (m.ps.all fun p=>p.1==.ro||p.1==.cap) y).2.1 [] { big with rw:=more fr.rw.length (Am fr m vs rw1 (m.ps.all fun p=>p.1==.ro||p.1==.cap) y).2.1 base } (some (Am fr m vs rw1 (m.ps.all fun p=>p.1==.ro||p.1==.cap) y).1) (FQ vr) w':=by
     intro base hsim hgb hold;obtain⟨g',le,out,hβ,hsim',ht⟩:=BK (n:=fr.rw.length) hsim hdata hV (fun G hGm k hk=>by
      obtain⟨h3,h4⟩:=hG G hGm k hk;refine⟨h4,?_,fun ho=>?_,fun j b hb hbo hjk=>?_⟩
      ·rcases h3 with h3 | h3
       ·exact .inl (AqE hs.kept.size h3)
       ·exact (Own.zone hs (hgz k h3).1).1
      ·rcases h3 with h3 | h3
       ·exact absurd (hold k ho) (Aq1.2 h3)
       ·exact hgb k h3 ho
      ·rcases h3 with h3 | h3
       ·exact absurd (hs.box_lt hb hjk) (Aq1.2 h3)
       ·exact Own.notBox hs (hgz k h3).1 hb hbo hjk) (fun j h1 h2=>hfree.ρ j h1 h2)
     exact⟨g',⟨le,fun j _=>by rw[hβ],out⟩,hsim',fun av hav=>by cases hav;exact Hp ht⟩
    cases hq:(m.ps.all fun p=>p.1==.ro||p.1==.cap) with
    | true =>
     have hro:∀ p∈m.ps,p.1=.cap∨p.1=.ro:=fun p hp=>by
      have:=Aqn.1 hq p hp;simp only[ArQ,beq_iff_eq] at this;exact this.symm
     have hM':AE (fun _=>False) w w':=⟨hM.drawn,hM.os,hM.tape,hM.output,hM.size,fun k hk _=>hM.block k hk (Du hro Fs k)⟩;have:=fin big.rw (hs.quiet hC hM') (fun k hk=>absurd (Cw hk) (Du hro Fs k)) (fun k hk=>(Own.zone hs hk).2);rw[hq] at this;simpa only[grow,Ah,BL,B2,Am,cond_true] using this
    | false =>
     have hfb:=hfull hq;subst hfb;have hsim:=hs.afterCall hC hT1 hM (fun k hk=>hh k hk) hB.b hB.k;have:=fin (at? (N0 fr.rw m.ps vs y rw1).1) hsim (fun k hk ho=>?_) (fun k hk=>?_)
     ·rw[hq] at this;simpa only[grow,Ah,BL,B2,Am,cond_false] using this
     ·-- what was given isn't in a row that was put back
      obtain⟨j,r,q,hj,hm,hq',hF⟩:=ho;rcases hB.b j r hj with h3 | ⟨r0,q0,_,_,_,_,hq0,_,hV0⟩
      ·exact (hgz k hk).2 ⟨j,r,q,h3,hm,hq',hF⟩
      ·rw[hq'] at hq0;cases hq0;exact ZF hapL (hV0 k hF) (by rw[eL];rw[eF] at hk;exact Dw hk)
     ·obtain⟨j,r,q,hj,hm,hq',hF⟩:=hk;rcases hB.b j r hj with h3 | ⟨r0,q0,h3,_,_,_,_,_,_⟩
      ·exact hs.row_lt (hT1.mine h3 hm) hq' k hF
      ·exact hs.row_lt h3 hq' k hF
  ·cases hcall
 ·cases hcall
theorem Abu (hE:AG C.P E) (hC:A9 C) (hs:Sim C big g a w) (hsub:Sub fr big) {m:Mdl} {vs:List (Bool×List Lf)} {us:List Value} (hvs:B1 C g vs us) {f:Nat} {args:Array Value} (hS:∀ x Fs,(∀ k,hands m.ps Fs k→gN≤k)→Dy C.P w m.ps x us Fs→Es m.ps Fs→∀ y,m.F x=some y→Calls C.P f args w fun e w'=>∃ u,e=.returned u∧NO w m us Fs y u w')
  (o:Oper) (hrun:(execOp a.eval o).run C.P w=.ok (.enter f args) w) {m':Mdl} {x:Option (RT (BG m'.ps++m'.rs))} {vs':List (Bool×List Lf)} {rw1:List (Option Ac)} {quiet:Bool} (hcall:Db E fr m vs=.call m' x vs' rw1 quiet) {y:RT (BG m'.ps++m'.rs)} (hx:x=some y)
  (hmo:PQ m'.ps=true) (hfree:NP fr (Am fr m' vs' rw1 true y).2.1 [] g) {K:Act→World→Prop} {Q:Exit→Act→World→Prop}
  (hK:∀ u w',Out C g a fr (Am fr m' vs' rw1 true y).2.1 [] (grow fr big (Am fr m' vs' rw1 true y).2.1 [] (.gone (D0 fr.rw rw1))) (some (Am fr m' vs' rw1 true y).1) u w'→K (a.put o.dst u) w'):o.wp C.P a w K Q:=by
 unfold Db at hcall;split at hcall
 ·rename_i rw0 h1;split at hcall
  ·rename_i xs h2;cases hd:m.rs.all Sh.data
   ·rw[hd] at hcall;cases hcall
   ·rw[hd,cond_true] at hcall;cases hcall;have hdata:∀ s∈m.rs,s.data=true:=fun s hs=>Aqn.1 hd s hs;have hT0:=hsub.took;have htab:Tab (at? fr.rw) g w:=hs.tab.took hT0;obtain⟨hT1,hlen⟩:=Cy (g:=g) (w:=w) (C:=C) hvs htab h1;obtain⟨Fs,eF,hA,hap,hh,hr⟩:=C5 (g:=g) hE hC hs hsub (.inr rfl) hvs hT0 h1 (hT0.trans hT1) h2;obtain⟨FL,eL,_,hapL,_,_⟩:=C5 (g:=g) hE hC hs hsub (T:=fun _=>True) (.inl fun _=>trivial) hvs hT0 h1 (hT0.trans hT1) h2;unfold Oper.wp;rw[hrun,Oper.upon_enter];refine (hS xs Fs (fun k hk=>hC.free (Own.zone hs ((hh k hk).1.took hT0)).1) hA hap y hx).mono fun e w' ⟨u,eu,vr,Gs,er,hM,hO⟩=>?_;subst eu;refine hK u w' ?_;have hO':=hO;rw[eF] at hO';have hB0:Dj (hio m.ps FL) fr.f g w' rw1 rw1:=⟨fun j r h=>.inl h,fun j r h=>h,rfl⟩;obtain⟨hB,hV,hG⟩:=EW (w':=w') (hs.sub hsub) hs hT0 hvs (AX.refl _ _) h1 hO' (fun k hk=>by rw[eL];exact hk) hB0
    rw[← eF] at hG;have hgz:∀ k,Er m.ps Fs k→Own big.rw g k∧¬ Own (at? rw1) g k:=fun k hk=>by
     obtain⟨h3,h4⟩:=hh k (Cw hk);exact⟨h3.took hT0,h4⟩
    subst er
    -- the frame behind the call
    have fin:∀ (base:Nat→Option Ac),Sim C { big with rw:=base } g a w'→(∀ k,Er m.ps Fs k→¬ Own base g k)→(∀ k,Own base g k→k<w.heap.size) →
      Out C g a fr (Am fr m vs rw1 true y).2.1 [] { big with rw:=more fr.rw.length (Am fr m vs rw1 true y).2.1 base } (some (Am fr m vs rw1 true y).1) (FQ vr) w':=by
     intro base hsim hgb hold;obtain⟨g',le,out,hβ,hsim',ht⟩:=BK (n:=fr.rw.length) hsim hdata hV (fun G hGm k hk=>by
      obtain⟨h3,h4⟩:=hG G hGm k hk;refine⟨h4,?_,fun ho=>?_,fun j b hb hbo hjk=>?_⟩
      ·rcases h3 with h3 | h3
       ·exact .inl (AqE hs.kept.size h3)
       ·exact (Own.zone hs (hgz k h3).1).1
      ·rcases h3 with h3 | h3
       ·exact absurd (hold k ho) (Aq1.2 h3)
       ·exact hgb k h3 ho
      ·rcases h3 with h3 | h3
       ·exact absurd (hs.box_lt hb hjk) (Aq1.2 h3)
       ·exact Own.notBox hs (hgz k h3).1 hb hbo hjk) (fun j h1 h2=>hfree.ρ j h1 h2)
     exact⟨g',⟨le,fun j _=>by rw[hβ],out⟩,hsim',fun av hav=>by cases hav;exact Hp ht⟩
    have hTb:=Wn big.rw (D0 fr.rw rw1);have hD:∀ k,hands m.ps Fs k→Own big.rw g k∧¬ Own (fun n=>GP (D0 fr.rw rw1) n (big.rw n)) g k:=fun k hk=>by
     obtain⟨⟨j,r,q,hj,hm,hq',hF⟩,hno⟩:=hh k hk;have hn:at? rw1 j=none:=by
      cases hx1:at? rw1 j with
      | none=>rfl
      | some r' =>
       exfalso;rcases hT1.row j r' hx1 with h3 | ⟨q0,_,h3,_⟩
       ·rw[hj] at h3;cases h3;exact hno ⟨j,r,q,hx1,hm,hq',hF⟩
       ·cases h3
     have hmem:j∈D0 fr.rw rw1:=Ns.2 ⟨⟨r,hj⟩,hn⟩;exact Own.gone hs.tab hTb (hsub.rw j r hj) hm hq' (fun r' hr'=>absurd rfl ((Bf.1 hr').2 j hmem).1) hF
    have hsim:=hs.afterCall (V:=fun _=>False) hC hTb hM hD (fun j r h=>.inl h) (fun j r h=>h);have:=fin _ hsim (fun k hk=>(hD k (Cw hk)).2) (fun k hk=>by
     obtain⟨j,r,q,hj,hm,hq',hF⟩:=hk;exact hs.row_lt (Bf.1 hj).1 hq' k hF)
    simpa only[grow,Ah,BL,B2,Am,cond_true] using this
  ·cases hcall
 ·cases hcall
theorem Af4 (hE:AG C.P E) (hC:A9 C) (hs:Sim C big g a w) (hsub:Sub fr big) {m:Mdl} {vs:List (Bool×List Lf)} {us:List Value} (hvs:B1 C g vs us) {f:Nat} {args:Array Value} (hS:∀ x Fs,(∀ k,hands m.ps Fs k→gN≤k)→Dy C.P w m.ps x us Fs→Es m.ps Fs→∀ y,m.F x=some y→Calls C.P f args w fun e w'=>∃ u,e=.returned u∧NO w m us Fs y u w')
  (o:Oper) (hrun:(execOp a.eval o).run C.P w=.ok (.enter f args) w) {rs':List Sh} {x:Option (RT rs')} {z0:Option (RT rs')} {fn:RT rs'→NZ} (hcall:J8 E fr m vs=.callE rs' x z0 fn) {y:RT rs'} (hx:x=some y) {K:Act→World→Prop} {Q:Exit→Act→World→Prop}
  (hK:∀ u w',Out C g a fr (fn y).nr (fn y).nb (grow fr big (fn y).nr (fn y).nb (fn y).ef) (some (fn y).v) u w'→K (a.put o.dst u) w'):o.wp C.P a w K Q:=by
 unfold J8 at hcall;cases hcall
theorem PB {m:Mdl} {vs:List (Bool×List Lf)}:(∀ req v nr nb ef,J8 E fr m vs≠.done req v nr nb ef)∧∀ m' o vs' rw q,J8 E fr m vs≠.call m' o vs' rw q:=by
 unfold J8;exact⟨fun _ _ _ _ _ h=>(by cases h),fun _ _ _ _ _ h=>(by cases h)⟩
def Ck (C:Cx) (g:Sg) (a:Act) (w:World) (fr:Fr) (big:FF) (o:Oper) (Q:Exit→Act→World→Prop):Res→Prop
 | .fail=>True
 | .done req v nr nb ef=>req=true→(ef.isTab=true→fr.f=big)→NP fr nr nb g→∀ K:Act→World→Prop,(∀ u w',Out C g a fr nr nb (grow fr big nr nb ef) v u w'→K (a.put o.dst u) w')→o.wp C.P a w K Q
 | .call m x vs rw quiet=>(∀ y,x=some y→(quiet=false→fr.f=big)→NP fr (Am fr m vs rw quiet y).2.1 [] g →
   ∀ K:Act→World→Prop,(∀ u w',Out C g a fr (Am fr m vs rw quiet y).2.1 [] (grow fr big (Am fr m vs rw quiet y).2.1 [] (Am fr m vs rw quiet y).2.2) (some (Am fr m vs rw quiet y).1) u w'→K (a.put o.dst u) w')→o.wp C.P a w K Q) ∧
   ∀ y,x=some y→PQ m.ps=true→NP fr (Am fr m vs rw true y).2.1 [] g →
   ∀ K:Act→World→Prop,(∀ u w',Out C g a fr (Am fr m vs rw true y).2.1 [] (grow fr big (Am fr m vs rw true y).2.1 [] (.gone (D0 fr.rw rw))) (some (Am fr m vs rw true y).1) u w'→K (a.put o.dst u) w')→o.wp C.P a w K Q
 | .callE _ x z f=>∀ y,x=some y→NP fr (f y).nr (f y).nb g→∀ K:Act→World→Prop,(∀ u w',Out C g a fr (f y).nr (f y).nb (grow fr big (f y).nr (f y).nb (f y).ef) (some (f y).v) u w'→K (a.put o.dst u) w')→o.wp C.P a w K Q
theorem Ck.ofGood {o:Oper} {Q:Exit→Act→World→Prop} {r:Res} (h:AU C g a fr big ((execOp a.eval o).run C.P w) r):Ck C g a w fr big o Q r:=by
 cases r with
 | fail=>trivial
 | done req v nr nb ef =>
  intro hreq hfull hfree K hK;obtain⟨n,u,w',hr,hn,hO⟩:=h hreq hfull hfree;unfold Oper.wp;rw[hr];rcases hn with rfl | ⟨rfl,rfl⟩
  ·exact hK u w' hO
  ·exact hK undef w' hO
 | call m x vs rw q=>exact h.elim
 | callE m x z f=>exact h.elim
theorem B1.append:∀ {vs ws:List (Bool×List Lf)} {us ts:List Value},B1 C g vs us→B1 C g ws ts→B1 C g (vs++ws) (us++ts)
 | [],_,_,_,h,k=>by cases h;exact k
 | _ :: _,_,_,_,⟨u,t,e,hv,h⟩,k=>by subst e;exact⟨u,_,rfl,hv,B1.append h k⟩
theorem NA:∀ {bs:List Nat} {us:List Value},GW g.β bs us→B1 C g (bs.map fun b=>(false,[Lf.box b 0])) us
 | [],_,h=>by cases h;rfl
 | b :: bs,_,⟨k,r,e,hk,h⟩=>⟨_,r,e,VR.of1 ⟨k,hk,rfl⟩,NA h⟩
theorem BF {P:Program} {f:Nat} (hR:Cs P f) (o:Oper) (c:Call) (ho:o.op=.call c) {x:Operand} (hx:c.callee=.value x) {caps:Array Value} (hv:a.eval x=.func (.func f) #[] caps):(execOp a.eval o).run P w=.ok (.enter f ((c.args.toList.map a.eval)++caps.toList).toArray) w:=by
 obtain⟨fn,hf,hb,hn⟩:=hR;have hb':fn.body.isNone=false:=by cases h:fn.body<;>simp_all
 have e:(((c.args.toList.map a.eval)++caps.toList).toArray)=c.args.map a.eval++caps:=by
  rw[← Asj];simp
 simp only[execOp,ho,resolve,hx,hv,Deferred.ofValue,Aqu,AqO,Aqp,invoke,callFunc,run_program,hf,hn,hb',Bool.false_eq_true,if_false,e,Array.empty_append]
theorem Wt {m:Mdl} {vs:List (Bool×List Lf)} {req v nr nb ef}:Db E fr m vs≠.done req v nr nb ef:=by
 unfold Db;split
 ·split
  ·cases m.rs.all Sh.data<;>simp
  ·simp
 ·simp
theorem Uy {m:Mdl} {vs:List (Bool×List Lf)} {rs' o z f}:Db E fr m vs≠.callE rs' o z f:=by
 unfold Db;split
 ·split
  ·cases m.rs.all Sh.data<;>simp
  ·simp
 ·simp
theorem G1:∀ {ps:List (PM×Sh)} {vs:List (Bool×List Lf)} {rw rc:List (Option Ac)} {xs:AT ps},ps.all (fun p=>p.1==.ro)=true→CL E fr rw ps vs rc=some xs→BZ ps vs rc=some rc
 | [],[],_,_,_,_,_=>rfl
 | [],_ :: _,_,_,_,_,h=>by simp[CL] at h
 | _ :: _,[],_,_,_,_,h=>by simp[CL] at h
 | (m,s) :: ps,(ag,cs) :: vs,rw,rc,xs,hp,h=>by
  simp only[Asn,Aql,beq_iff_eq] at hp;obtain⟨hm,hp⟩:=hp;subst hm;simp only[CL] at h;cases hb:(s.agg==ag)
  ·rw[hb] at h;cases h
  ·rw[hb,cond_true] at h;split at h
   ·rename_i x xs' h1 h2;show BZ ps vs rc=some rc;exact G1 hp h2
   ·cases h
theorem J3:∀ {ps:List (PM×Sh)} {Fs:List FP} {F:FP} {k:Nat},ps.all (fun p=>p.1==.ro)=true→Fs.length=ps.length→F∈Fs→F k→reads ps Fs k
 | [],Fs,F,k,_,hl,hF,_=>by
  have:Fs=[]:=ArY.1 hl;subst this;cases hF
 | (m,s) :: ps,[],F,k,_,hl,hF,_=>by cases hF
 | (m,s) :: ps,G :: Fs,F,k,hp,hl,hF,hk=>by
  simp only[Asn,Aql,beq_iff_eq] at hp;rcases AqA.1 hF with e | hF
  ·exact .inl ⟨by rw[hp.1];rfl,e▸hk⟩
  ·exact .inr (J3 hp.2 (by simpa using hl) hF hk)
theorem NB {P:Program} {w:World}:∀ {ps:List (PM×Sh)} {x:AT ps} {us:List Value} {Fs:List FP},Dy P w ps x us Fs→Fs.length=ps.length
 | [],_,_,_,⟨_,h2⟩=>by subst h2;rfl
 | _ :: _,_,_,_,⟨_,_,_,_,_,e2,_,_,h⟩=>by subst e2;simp[NB h]
theorem Sim.dropBox (h:Sim C big g a w) (i:Nat):Sim C { big with bx:=fun j=>if j=i then none else big.bx j } g a w:=by
 have old:∀ j b,(if j=i then none else big.bx j)=some b→big.bx j=some b:=fun j b hb=>by
  split at hb
  ·cases hb
  ·exact hb
 exact { h with boxes:=fun j b hb=>h.boxes j b (old j b hb),bdisj:=fun j j' b b' k h1 h2=>h.bdisj j j' b b' k (old j b h1) (old j' b' h2),rbox:=fun j r q j' b k h1 m1 hq hb=>h.rbox j r q j' b k h1 m1 hq (old j' b hb) }
theorem Sub.dropBox (h:Sub fr big) (i:Nat):Sub { fr with bx:=AL fr.bx i none } { big with bx:=fun j=>if j=i then none else big.bx j }:=by
 refine { h with bx:=fun j b hb=>?_ }
 change at? (AL fr.bx i none) j=some b at hb;rw[AK] at hb;show (if j=i then none else big.bx j)=some b;split at hb
 ·cases hb
 ·rename_i hn;by_cases e:j=i
  ·subst e;have:=A4 hb;exact absurd ⟨rfl,this⟩ hn
  ·rw[if_neg e];exact h.bx j b hb
theorem Uz (hE:AG C.P E) (hC:A9 C) (hs:Sim C big g a w) (hsub:Sub fr big) {m:DY} {vs:List (Bool×List Lf)} {us:List Value} (hvs:B1 C g vs us) {f:Nat} (hS:BU C.P f m)
  (o:Oper) (hrun:(execOp a.eval o).run C.P w=.ok (.enter f us.toArray) w) {rs':List Sh} {x:Option (RT rs')} {z0:Option (RT rs')} {fn:RT rs'→NZ} (hcall:FS E fr m vs=.callE rs' x z0 fn) {y:RT rs'} (hx:x=some y) (hfree:NP fr (fn y).nr (fn y).nb g) {K:Act→World→Prop} {Q:Exit→Act→World→Prop}
  (hK:∀ u w',Out C g a fr (fn y).nr (fn y).nb (grow fr big (fn y).nr (fn y).nb (fn y).ef) (some (fn y).v) u w'→K (a.put o.dst u) w'):o.wp C.P a w K Q:=by
 unfold FS at hcall;split at hcall
 ·rename_i i vs';split at hcall
  ·rename_i b hb;split at hcall
   ·rename_i l cs hcs;cases hcond:(b.own&&m.ps.all (fun p=>p.1==.ro)&&m.rs.all Sh.data&&m.r.flat)
    ·rw[hcond] at hcall;cases hcall
    ·rw[hcond,cond_true] at hcall;simp only[Aql] at hcond;obtain⟨⟨⟨hown,hro⟩,hdata⟩,hflat⟩:=hcond;split at hcall
     ·rename_i xs y0 aa h1 h2 h3;cases hcall;obtain⟨u0,t0,rfl,hu0,ht0⟩:=hvs;obtain⟨k,hk,rfl⟩:=(hu0.to1:LfR C g (.box i 0) u0);have hbb:=hsub.bx i b hb;have hpl:Bz b.cs=true:=by
       rw[hcs];cases l<;>cases cs<;>first | rfl | (cases h1;done)
      obtain⟨k',cur,t,hk',hh,hcr,hz,_⟩:=(hs.boxes i b hbb).toCells hpl;rw[hk] at hk';cases hk';rw[hcs] at hcr;obtain⟨ul,ucs,ecur,hul,hucs⟩:=hcr;have hz:=hz hown;have hs2:=hs.dropBox i;have hsub2:=hsub.dropBox i;have hT0:=hsub2.took;have hRd:∀ j,Rd C { big with bx:=fun j=>if j=i then none else big.bx j } (at? fr.rw) g j→j≠k:=by
       rintro j hj rfl
       rcases hj with hj | hj | ⟨i',b',hb',ho',hk'⟩
       ·obtain⟨h5,h6⟩:=hC.R_lt j hj;exact hz.elim (fun h=>absurd h5 (Aq1.2 h)) h6
       ·obtain⟨i',r,q,a1,a2,a3,a4⟩:=hj;exact hs.rbox i' r q i b j (hsub.rw _ _ a1) a2 a3 hbb hown hk a4
       ·change (if i'=i then none else big.bx i')=some b' at hb';split at hb'
        ·cases hb'
        ·rename_i hne;exact hne (hs.bdisj i' i b' b j hb' hbb ho' hk' hk)
      have hZR:=JQ hs2 hT0 hul h1 (Z:=Rd C { big with bx:=fun j=>if j=i then none else big.bx j } (at? fr.rw) g) (fun k hk=>hk.elim .inl fun h=>.inr (.inl h))
      have hrest:=I1 hs2 hT0 (Z:=Rd C { big with bx:=fun j=>if j=i then none else big.bx j } (at? fr.rw) g) (fun k hk=>hk.elim .inl fun h=>.inr (.inl h)) h2 hucs
      have hcells:=RC.cellsF m.r hflat hrest;subst hcells;obtain⟨Fs,eF,hA,_,_,hrd⟩:=C5 (g:=g) hE hC hs2 hsub2 (.inr rfl) ht0 hT0 (G1 hro h3) hT0 h3;have ecur':cur=(ul :: cellsF m.r y0).toArray:=by rw[← ecur]
      unfold Oper.wp;rw[hrun,Oper.upon_enter];refine (hS w k ul t ((xs,y0),aa) t0 Fs _ (hs.kept.tabs hC) (hC.free hz) (by rw[hh,ecur']) hZR (fun j hj=>⟨Rd.lt hC hs2 hT0 hj,hRd j hj⟩) hA (fun F hF hFk=>hRd k (hrd k (J3 hro (NB hA) hF hFk)) rfl) y hx).mono fun e w' ⟨vs2,Gs,t',ee,hM,hh',hV,hG⟩=>?_
      subst ee;refine hK (FQ vs2) w' ?_;have hsim:=Sim.setBox hC hs hbb hown (b':={ b with cs:=l :: (Aa .own m.r (RT.hd y) 0).1 }) hown hk hM hh' ⟨rfl,ul,_,rfl,hul,CC .own m.r hflat _ _⟩
      obtain⟨g',le,out,hβ,hsim',ht⟩:=BK (n:=fr.rw.length) hsim (fun s hs=>Aqn.1 hdata s hs) hV (fun G hGm j hj=>by
       obtain⟨h5,h6⟩:=hG G hGm j hj;refine⟨h6,.inl (AqE hs.kept.size h5),fun ho=>?_,fun j2 b2 hb2 ho2 hk2=>?_⟩
       ·have:j<w.heap.size:=by
         obtain⟨i',r,q,a1,a2,a3,a4⟩:=ho;exact hs.row_lt a1 a3 j a4
        omega
       ·change (if j2=i then some { b with cs:=l :: (Aa .own m.r (RT.hd y) 0).1 } else big.bx j2)=some b2 at hb2
        have:j<w.heap.size:=by
         split at hb2
         ·rename_i e2;subst e2;exact hs.box_lt hbb hk2
         ·exact hs.box_lt hb2 hk2
        omega) (fun j h5 h6=>hfree.ρ j h5 h6)
      refine⟨g',⟨le,fun j _=>by rw[hβ],out⟩,(by simpa only[grow,Ah,BL,B2] using hsim':Sim C (grow fr big (Av m.rs (RT.tl y) fr.rw.length).2 [] (.box i { b with cs:=l :: (Aa .own m.r (RT.hd y) 0).1 })) g' a w'),fun av hav=>?_⟩
      cases hav;exact Hp ht
     ·cases hcall
   ·cases hcall
  ·cases hcall
 ·cases hcall
theorem Af5 (hE:AG C.P E) (hC:A9 C) (hs:Sim C big g a w) (hsub:Sub fr big) {m:PE} {vs:List (Bool×List Lf)} {us:List Value} (hvs:B1 C g vs us) {f:Nat} (hS:GN C.P f m)
  (o:Oper) (hrun:(execOp a.eval o).run C.P w=.ok (.enter f us.toArray) w) {rs':List Sh} {x:Option (RT rs')} {z0:Option (RT rs')} {fn:RT rs'→NZ} (hcall:LJ E fr m vs=.callE rs' x z0 fn) {y:RT rs'} (hx:x=some y) (hfree:NP fr (fn y).nr (fn y).nb g) {K:Act→World→Prop} {Q:Exit→Act→World→Prop}
  (hK:∀ u w',Out C g a fr (fn y).nr (fn y).nb (grow fr big (fn y).nr (fn y).nb (fn y).ef) (some (fn y).v) u w'→K (a.put o.dst u) w'):o.wp C.P a w K Q:=by
 unfold LJ at hcall;split at hcall
 ·rename_i i vs';cases hcond:(m.ps.all (fun p=>p.1==.ro)&&m.r.flat)
  ·rw[hcond] at hcall;cases hcall
  ·rw[hcond,cond_true] at hcall;simp only[Aql] at hcond;obtain⟨hro,hflat⟩:=hcond;split at hcall
   ·rename_i xs aa h1 h3;cases hcall;obtain⟨u0,t0,rfl,hu0,ht0⟩:=hvs;have hul:LfR C g (.row i) u0:=hu0.to1;have hT0:=hsub.took;have hZR:=JQ hs hT0 hul h1 (Z:=Rd C big (at? fr.rw) g) (fun k hk=>hk.elim .inl fun h=>.inr (.inl h));obtain⟨Fs,eF,hA,_,_,hrd⟩:=C5 (g:=g) hE hC hs hsub (.inr rfl) ht0 hT0 (G1 hro h3) hT0 h3;unfold Oper.wp;rw[hrun,Oper.upon_enter];refine (hS w u0 (xs,aa) t0 Fs _ (hs.kept.tabs hC) hZR (fun j hj=>Rd.lt hC hs hT0 hj) hA y hx).mono fun e w' ⟨k,t,ee,hk,hM,hh⟩=>?_;subst ee;refine hK _ w' ?_;have hi:=hfree.β fr.bx.length (Aqr _) (by simp)
    have h':=hs.quiet hC hM;have hsim:=h'.newBox (i:=fr.bx.length) (b:=⟨true,.row i :: (Aa .own m.r y 0).1⟩) (k:=k) hi (fun _=>rfl) (Ch.ofCells ⟨k,_,t,Sg.box_at _ _ _,hh,(AC.mono (Sg.le_box hi k) ⟨u0,_,rfl,hul,CC .own m.r hflat y 0⟩),fun _=>.inl (AqE hs.kept.size hk),fun e=>by cases e⟩) ⟨fun j b hb hjk=>by have:=hs.box_lt hb hjk;omega,fun _ j r q hr hm hq hF=>by have:=hs.row_lt hr hq k hF;omega⟩
    refine⟨g.box fr.bx.length k,Hn fr hi rfl,(by simpa only[grow,Ah,BE,BL,B2] using hsim:Sim C (grow fr big [] [⟨true,.row i :: (Aa .own m.r y 0).1⟩] .pure) (g.box fr.bx.length k) a w'),fun av hav=>?_⟩
    cases hav;exact VR.of1 ⟨k,Sg.box_at _ _ _,rfl⟩
   ·cases hcall
 ·cases hcall
theorem Hq {m:DY} {vs:List (Bool×List Lf)}:(∀ req v nr nb ef,FS E fr m vs≠.done req v nr nb ef)∧∀ m' o vs' rw q,FS E fr m vs≠.call m' o vs' rw q:=by
 unfold FS;constructor<;>intros<;>(repeat' split)<;>first | (intro h;cases h;done) | skip
 all_goals (generalize (_&&_&&_&&_)=b;cases b<;>simp only[cond_true,cond_false]<;>(repeat' split)<;>(intro h;cases h))
theorem PC {m:PE} {vs:List (Bool×List Lf)}:(∀ req v nr nb ef,LJ E fr m vs≠.done req v nr nb ef)∧∀ m' o vs' rw q,LJ E fr m vs≠.call m' o vs' rw q:=by
 unfold LJ;constructor<;>intros<;>(repeat' split)<;>first | (intro h;cases h;done) | skip
 all_goals (generalize (_&&_)=b;cases b<;>simp only[cond_true,cond_false]<;>(repeat' split)<;>(intro h;cases h))
theorem J4 {rw:List (Option Ac)} {n:Nat}:∀ {s:Sh},s.flat=true→∀ {ls:List Lf} {x:s.T} {r:List Lf},Az rw s ls=some (x,r)→ls=(Aa .own s x n).1++r
 | .int k,_,ls,x,r,h=>by
  unfold Az at h;split at h
  ·split at h
   ·rename_i e;subst e;cases h;rfl
   ·cases h
  ·cases h
 | .bool,_,ls,x,r,h=>by
  unfold Az at h;split at h
  ·cases h;rfl
  ·cases h
 | .str,_,ls,x,r,h=>by
  unfold Az at h;split at h
  ·cases h;rfl
  ·cases h
 | .list _ _,hf,_,_,_,_=>by cases hf
 | .fn1 _ _,hf,_,_,_,_=>by cases hf
 | .fn2 _ _ _,hf,_,_,_,_=>by cases hf
 | .ol _ _,hf,_,_,_,_=>by cases hf
 | .cons a b,hf,ls,x,r,h=>by
  simp only[Sh.flat,Aql] at hf;unfold Az at h;split at h
  ·rename_i y l1 h1;split at h
   ·rename_i z l2 h2;cases h;rw[J4 (n:=n) hf.1 h1,J4 (n:=n+(Aa .own a y n).2.length) hf.2 h2];simp[Aa]
   ·cases h
  ·cases h
theorem Wu {m:DY} {vs:List (Bool×List Lf)} {rs':List Sh} {x z:Option (RT rs')} {f:RT rs'→NZ} (h:FS E fr m vs=.callE rs' x z f) {y:RT rs'} (hy:z=some y):(f y).nb=[]∧∃ i b,(f y).ef=.box i b∧at? fr.bx i=some b:=by
 unfold FS at h;split at h
 ·rename_i i vs';split at h
  ·rename_i b hb;split at h
   ·rename_i l cs hcs;cases hc:(b.own&&m.ps.all (fun p=>p.1==.ro)&&m.rs.all Sh.data&&m.r.flat)
    ·rw[hc] at h;cases h
    ·rw[hc,cond_true] at h;simp only[Aql] at hc;split at h
     ·rename_i xs y0 a h1 h2 h3;cases h;cases hy;refine⟨rfl,i,_,rfl,?_⟩;have hw:cs=(Aa .own m.r y0 0).1:=by
       unfold DZ at h2;split at h2
       ·rename_i z hz;cases h2;have:=J4 (n:=0) hc.2 hz;simpa using this
       ·cases h2
      have e:RT.hd (RT.mk (l:=m.rs) y0 (RT.dfl m.rs))=y0:=by
       obtain⟨e1,s1,r1,p1,rs1,F1⟩:=m;cases rs1<;>rfl
      rw[hb];show some b=some { b with cs:=l :: (Aa .own m.r (RT.hd (RT.mk (l:=m.rs) y0 (RT.dfl m.rs))) 0).1 }
      rw[e,← hw,← hcs]
     ·cases h
   ·cases h
  ·cases h
 ·cases h
theorem Abv (hE:AG C.P E) (hC:A9 C) (hs:Sim C big g a w) (hsub:Sub fr big) (hc:Holds a ch) (o:Oper) (c:Call) (ho:o.op=.call c) (x:Operand) (hx:c.callee=.value x) {Q:Exit→Act→World→Prop}:Ck C g a w fr big o Q (UM E fr ch x c.args.toList):=by
 have key:∀ (m:Mdl) (vs:List (Bool×List Lf)) (us:List Value) (f:Nat) (args:Array Value),B1 C g vs us→(∀ x Fs,(∀ k,hands m.ps Fs k→gN≤k)→Dy C.P w m.ps x us Fs→Es m.ps Fs→∀ y,m.F x=some y→Calls C.P f args w fun e w'=>∃ u,e=.returned u∧NO w m us Fs y u w') →
   (execOp a.eval o).run C.P w=.ok (.enter f args) w→Ck C g a w fr big o Q (Db E fr m vs):=by
  intro m vs us f args hvs hS hrun;cases hcall:Db E fr m vs with
  | fail=>trivial
  | done req v nr nb ef=>exact absurd hcall Wt
  | call m' x' vs' rw q =>
   exact⟨fun y hy hfull hfree K hK=>Abt hE hC hs hsub hvs hS o hrun hcall hy hfull hfree hK,fun y hy hmo hfree K hK=>Abu hE hC hs hsub hvs hS o hrun hcall hy hmo hfree hK⟩
  | callE m' x' z' f=>exact absurd hcall Uy
 have keyB:∀ (m:Mdl) (vs:List (Bool×List Lf)) (us:List Value) (f:Nat) (args:Array Value),B1 C g vs us→(∀ x Fs,(∀ k,hands m.ps Fs k→gN≤k)→Dy C.P w m.ps x us Fs→Es m.ps Fs→∀ y,m.F x=some y→Calls C.P f args w fun e w'=>∃ u,e=.returned u∧NO w m us Fs y u w') →
   (execOp a.eval o).run C.P w=.ok (.enter f args) w→Ck C g a w fr big o Q (J8 E fr m vs):=by
  intro m vs us f args hvs hS hrun;cases hcall:J8 E fr m vs with
  | fail=>trivial
  | done req v nr nb ef=>exact absurd hcall (PB.1 _ _ _ _ _)
  | call m' x' vs' rw q=>exact absurd hcall (PB.2 _ _ _ _ _)
  | callE m' x' z' fn =>
   intro y hy _ K hK;exact Af4 hE hC hs hsub hvs hS o hrun hcall hy hK
 have hs0:Ed C.R C.w0 w:=⟨hs.kept.size,fun k hk=>hs.kept.block k (hC.R_lt k hk).1 (hC.R_lt k hk).2⟩;have post:∀ {m:Mdl} {us:List Value} {Fs:List FP} {r:Sh} (hm:m.rs=[r]) (hf:r.flat=true) {y:RT (BG m.ps++m.rs)} {cr:List Value} {w'':World} {z:RT m.rs},RC C.P r w'' (fun _=>False) (hm▸z:RT [r]) cr→Ni w w''→(∀ K:RT m.rs→Prop,K z→Wd w'' m.ps m.rs us Fs y K)→NO w m us Fs y (EB r cr) w'':=by
  intro m us Fs r hm hf y cr w'' z hr hb hO;obtain⟨ps,rs,F⟩:=m;simp only at hm;subst hm;refine⟨[EB r cr],[fun _=>False],rfl,⟨CW.mono (show w.drawn≤w''.drawn from hb.drawn),hb.os,hb.tape,hb.output,hb.size,fun k hk _=>hb.block k hk⟩,hO _ ⟨⟨_,[],_,[],cr,rfl,rfl,rfl,RC.flatOC r hf hr,fun _ h=>h.elim,rfl,rfl⟩,?_⟩⟩
  intro G hG k hk;rcases Ara.1 hG with rfl;exact hk.elim
 unfold UM;split
 ·rename_i f caps vs h1 h2;split
  ·rename_i m hm;obtain⟨hS,hR⟩:=hE.fs f m hm;obtain⟨us,e,hcap⟩:=As (hs.sub hsub) hc h1;have hrun:(execOp a.eval o).run C.P w=.ok (.enter f (c.args.toList.map a.eval++us).toArray) w:=by
    have:=BF (w:=w) hR o c ho hx e;simpa using this
   have k1:=key m _ _ f _ ((C6 (hs.sub hsub) hc h2).append (NA hcap)) (fun x Fs hg hA hap y hy=>hS w x _ Fs (hs.kept.tabs hC) hg hA hap y hy) hrun;split
   ·exact keyB m _ _ f _ ((C6 (hs.sub hsub) hc h2).append (NA hcap)) (fun x Fs hg hA hap y hy=>hS w x _ Fs (hs.kept.tabs hC) hg hA hap y hy) hrun
   ·exact k1
  ·split
   ·obtain⟨us,e,hcap⟩:=As (hs.sub hsub) hc h1;cases (hcap:us=[]);have hvs:=C6 (hs.sub hsub) hc h2;split
    ·rename_i m hm;obtain⟨hS,hR⟩:=hE.pf f m hm;have hrun:(execOp a.eval o).run C.P w=.ok (.enter f (c.args.toList.map a.eval).toArray) w:=by
      have:=BF (w:=w) hR o c ho hx e;simpa using this
     cases hcall:FS E fr m vs with
     | fail=>trivial
     | done req v nr nb ef=>exact absurd hcall (Hq.1 _ _ _ _ _)
     | call m' x' vs' rw q=>exact absurd hcall (Hq.2 _ _ _ _ _)
     | callE rs' x' z' fn =>
      intro y hy hfree K hK;exact Uz hE hC hs hsub hvs hS o hrun hcall hy hfree hK
    ·split
     ·rename_i m hm;obtain⟨hS,hR⟩:=hE.nf f m hm;have hrun:(execOp a.eval o).run C.P w=.ok (.enter f (c.args.toList.map a.eval).toArray) w:=by
       have:=BF (w:=w) hR o c ho hx e;simpa using this
      cases hcall:LJ E fr m vs with
      | fail=>trivial
      | done req v nr nb ef=>exact absurd hcall (PC.1 _ _ _ _ _)
      | call m' x' vs' rw q=>exact absurd hcall (PC.2 _ _ _ _ _)
      | callE rs' x' z' fn =>
       intro y hy hfree K hK;exact Af5 hE hC hs hsub hvs hS o hrun hcall hy hfree hK
     ·trivial
   ·trivial
 ·rename_i s r φ vs h1 h2;have hr:=As (hs.sub hsub) hc h1;obtain⟨hf,f,caps,e,hR,hcall⟩:=(hr:RC C.P (.fn1 s r) C.w0 C.R φ [a.eval x]);injection e with e;refine key _ _ _ f _ (C6 (hs.sub hsub) hc h2) (fun xx Fs _ hA hap y hy=>?_) (BF (w:=w) hR o c ho hx e);obtain⟨u,us',F,Fs',e1,e2,hlt,⟨cs,eu,hrc⟩,hnil⟩:=hA;obtain⟨rfl,rfl⟩:=hnil;have ea:(([Ay s.agg cs]:List Value)++caps.toList).toArray=#[EB s cs]++caps:=by simp[EB]
  rw[e1,eu,ea];refine (hcall w hs0 xx.1 cs F hlt hrc y hy).mono fun e' w'' ⟨cr,ee,hcr,hb⟩=>⟨_,ee,?_⟩;subst e2;exact post (m:=⟨[(.ro,s)],[r],fun x=>φ x.1⟩) rfl hf (z:=y) hcr hb (fun K hK=>hK)
 ·rename_i s t r φ vs h1 h2;have hr:=As (hs.sub hsub) hc h1;obtain⟨hf,f,caps,e,hR,hcall⟩:=(hr:RC C.P (.fn2 s t r) C.w0 C.R φ [a.eval x]);injection e with e;refine key _ _ _ f _ (C6 (hs.sub hsub) hc h2) (fun xx Fs _ hA hap y hy=>?_) (BF (w:=w) hR o c ho hx e);obtain⟨u,us',F,Fs',e1,e2,hlt,⟨cs,eu,hrc⟩,u2,us2,F2,Fs2,e3,e4,hlt2,⟨cs2,eu2,hrc2⟩,hnil⟩:=hA;obtain⟨rfl,rfl⟩:=hnil;subst e3;have ea:(([Ay s.agg cs,Ay t.agg cs2]:List Value)++caps.toList).toArray=#[EB s cs,EB t cs2]++caps:=by simp[EB]
  rw[e1,eu,eu2,ea];refine (hcall w hs0 xx.1 cs F hlt hrc xx.2.1 cs2 F2 hlt2 hrc2 y hy).mono fun e' w'' ⟨cr,ee,hcr,hb⟩=>⟨_,ee,?_⟩;subst e4;subst e2;exact post (m:=⟨[(.ro,s),(.ro,t)],[r],fun x=>φ x.1 x.2.1⟩) rfl hf (z:=y) hcr hb (fun K hK=>hK)
 ·trivial
theorem Ry {rs':List Sh} {x z:Option (RT rs')} {f:RT rs'→NZ} {o:Oper} (h:H8 E fr ch o=.callE rs' x z f) {y:RT rs'} (hy:z=some y):(f y).nb=[]∧∃ i b,(f y).ef=.box i b∧at? fr.bx i=some b:=by
 unfold H8 at h
 repeat' split at h
 all_goals first | (cases h;done) | exact Wu h hy
theorem Wv (hE:AG C.P E) (hC:A9 C) (hs:Sim C big g a w) (hsub:Sub fr big) (hc:Holds a ch) (o:Oper) {Q:Exit→Act→World→Prop}:Ck C g a w fr big o Q (H8 E fr ch o):=by
 unfold H8;split
 ·rename_i c ho;split
  ·rename_i x hx;split
   ·rename_i f vs h1 h2;split
    ·rename_i m hm;obtain⟨us,e,hcap⟩:=As (hs.sub hsub) hc h1;cases (hcap:us=[]);have hvs:=C6 (hs.sub hsub) hc h2;obtain⟨hS,hR⟩:=hE.pf f m hm;have hrun:(execOp a.eval o).run C.P w=.ok (.enter f (c.args.toList.map a.eval).toArray) w:=by
      have:=BF (w:=w) hR o c ho hx e;simpa using this
     cases hcall:FS E fr m vs with
     | fail=>trivial
     | done req v nr nb ef=>exact absurd hcall (Hq.1 _ _ _ _ _)
     | call m' x' vs' rw q=>exact absurd hcall (Hq.2 _ _ _ _ _)
     | callE rs' x' z' fn =>
      intro y hy hfree K hK;exact Uz hE hC hs hsub hvs hS o hrun hcall hy hfree hK
    ·trivial
   ·trivial
  ·trivial
 ·trivial
theorem DS (hE:AG C.P E) (hC:A9 C) (hs:Sim C big g a w) (hsub:Sub fr big) (hc:Holds a ch) (o:Oper) {Q:Exit→Act→World→Prop}:Ck C g a w fr big o Q (FN E fr ch o):=by
 obtain⟨dst,op,type,pos,after,guard⟩:=o;unfold FN;cases op
 case call c =>
  simp only;cases hcal:c.callee with
  | value x=>exact Abv hE hC hs hsub hc _ c rfl x hcal
  | builtin b =>
   cases b<;>simp only
   case len=>exact Ck.ofGood (Abs hE hs hsub hc _ c rfl hcal)
   case append=>exact Ck.ofGood (Uo hE hC hs hsub hc _ c rfl hcal)
   case copy=>exact Ck.ofGood (Aa1 hE hC hs hsub hc _ c rfl hcal)
   case clear=>exact Ck.ofGood (V3 hE hC hs hsub hc _ c rfl hcal)
   case max=>exact Ck.ofGood (Ui hs hsub hc _ c rfl true hcal)
   case min=>exact Ck.ofGood (Ui hs hsub hc _ c rfl false hcal)
   all_goals trivial
  | invoke r m=>trivial
 case move x=>exact Ck.ofGood (Pq (E:=E) hs hsub hc ⟨dst,.move x,type,pos,after,guard⟩ x rfl)
 case assign x=>exact Ck.ofGood (Pq (E:=E) hs hsub hc ⟨dst,.assign x,type,pos,after,guard⟩ x rfl)
 case binOp op t x y p=>exact Ck.ofGood (AfR hE hs hsub hc _ op t x y p rfl)
 case unOp op t x=>exact Ck.ofGood (Aj3 hs hsub hc _ op t x rfl)
 case pick c x y=>exact Ck.ofGood (Abf hs hsub hc _ c x y rfl)
 case box t x=>exact Ck.ofGood (AfJ hC hs hsub hc _ t x rfl)
 case alloc t=>exact Ck.ofGood (V4 hE hC hs _ t rfl)
 case nilCheck x=>exact Ck.ofGood (AfN hs hsub hc _ x rfl)
 case fieldAddr s x f=>exact Ck.ofGood (Nm hE hs hsub hc _ s x f rfl)
 case field t x f=>exact Ck.ofGood (Wk hE hs hsub hc _ t x f rfl)
 case load t x=>exact Ck.ofGood (Abe hE hs hsub hc _ t x rfl)
 case store t x y=>exact Ck.ofGood (Wq hE hC hs hsub hc _ t x y rfl)
 case indexAddr t x i=>exact Ck.ofGood (Np hE hs hsub hc _ t x i rfl)
 case index t x i=>exact Ck.ofGood (Wj hE hs hsub hc _ t x i rfl)
 case slice t x lo hi mx =>
  cases mx with
  | none=>exact Ck.ofGood (Wl hE hs hsub hc _ t x lo hi rfl)
  | some _=>trivial
 case build t parts=>exact Ck.ofGood (V5 hE hC hs hsub hc _ t parts rfl)
 case buildSlice t n parts=>exact Ck.ofGood (KH hE hC hs hsub hc _ t n parts rfl)
 case makeSlice t x y=>exact Ck.ofGood (Abk hE hC hs hsub hc _ t x y rfl)
 case makeFunc f first captured=>exact Ck.ofGood (Abg hs hsub hc _ f first captured rfl)
 case convert s t x=>exact Ck.ofGood (Rs hE hs hsub hc _ s t x rfl)
 case makeMap t r=>exact Ck.ofGood (Rx hE hC hs _ t r rfl)
 case lookup t x ix ok=>exact Ck.ofGood (Uw hE hs hsub hc _ t x ix ok rfl)
 case mapUpdate t m k x=>exact Ck.ofGood (FK hE hC hs hsub hc ⟨dst,.mapUpdate t m k x,type,pos,after,guard⟩ t m k x rfl)
 case insert t m k x=>exact Ck.ofGood (FK hE hC hs hsub hc ⟨dst,.insert t m k x,type,pos,after,guard⟩ t m k x rfl)
 case extract x i=>exact Ck.ofGood (Rr hs hsub hc _ x i rfl)
 all_goals trivial
end Go.Proofs.YteheolldcpjkcaaGreat.X
