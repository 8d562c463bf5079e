/- An operation, whatever it is. -/
import Derived.Test.YtelgaemfnhnbmaaGreatDoorQzXAft
import Derived.Test.YtelgaemfnhnbmaaGreatDoorQzXSt
set_option linter.unusedSimpArgs false
set_option linter.unusedVariables false
set_option linter.unusedSectionVars false
namespace Go.Proofs.YtelgaemfnhnbmaaGreatDoor.X
open Go Go.RowKit
variable [CW]
variable {C:Cx} {fr:Fr} {big:FF} {g:Sg} {a:Act} {w w':World} {ch:List (Nat×Bool)} {E:Env}
theorem Sub.took (hsub:Sub fr big):Took none big.rw (at? fr.rw):=by
 refine⟨fun j r' hj=>.inl (hsub.rw j r' hj),fun j r p pa hj e=>.inl ⟨hsub.rw j r hj,fun r0 h0 _=>hsub.par j r p pa hj e r0 h0⟩⟩
theorem tup_len:∀ {vs:List (Bool×List Lf)} {us:List Value},TupR C g vs us→us.length=vs.length
 | [],_,h=>by cases h;rfl
 | _ :: _,_,⟨u,t,e,_,h⟩=>by subst e;simp[tup_len h]
theorem one_rel {vs:List (Bool×List Lf)} {us:List Value} (h:TupR C g vs us):AVR C g a (one vs) (retV us):=by
 have hl:=tup_len h
 match vs,us,hl with
 | [],[],_=>exact⟨[],rfl,rfl⟩
 | [(ag,cs)],[u],_ =>
  obtain⟨u',t,e,hv,ht⟩:=h;cases ht;cases e;exact hv
 | v1 :: v2 :: r,u1 :: u2 :: t,_=>exact⟨u1 :: u2 :: t,rfl,h⟩
theorem callTo_ok (hE:EnvOK C.P E) (hC:CxOK C) (hs:Sim C big g a w) (hsub:Sub fr big) {m:Mdl} {vs:List (Bool×List Lf)} {us:List Value} (hvs:TupR C g vs us) {f:Nat} {args:Array Value} (hS:∀ x Fs,(∀ k,hands m.ps Fs k→gN≤k)→Args C.P w m.ps x us Fs→Apart m.ps Fs→∀ y,m.F x=some y→Calls C.P f args w fun e w'=>∃ u,e=.returned u∧Post w m us Fs y u w')
  (o:Oper) (hrun:(execOp a.eval o).run C.P w=.ok (.enter f args) w) {m':Mdl} {x:Option (RT (outs m'.ps++m'.rs))} {vs':List (Bool×List Lf)} {rw1:List (Option RowE)} {quiet:Bool} (hcall:callTo E fr m vs=.call m' x vs' rw1 quiet) {y:RT (outs m'.ps++m'.rs)} (hx:x=some y)
  (hfull:quiet=false→fr.f=big) (hfree:Free fr (callEnd fr m' vs' rw1 quiet y).2.1 [] g) {K:Act→World→Prop} {Q:Exit→Act→World→Prop}
  (hK:∀ u w',Out C g a fr (callEnd fr m' vs' rw1 quiet y).2.1 [] (grow fr big (callEnd fr m' vs' rw1 quiet y).2.1 [] (callEnd fr m' vs' rw1 quiet y).2.2) (some (callEnd fr m' vs' rw1 quiet y).1) u w'→K (a.put o.dst u) w'):o.wp C.P a w K Q:=by
 unfold callTo at hcall;split at hcall
 ·rename_i rw0 h1;split at hcall
  ·rename_i xs h2;cases hd:m.rs.all Sh.data
   ·rw[hd] at hcall;cases hcall
   ·rw[hd,cond_true] at hcall;cases hcall;have hdata:∀ s∈m.rs,s.data=true:=fun s hs=>List.all_eq_true.1 hd s hs;have hT0:=hsub.took;have htab:Tab (at? fr.rw) g w:=hs.tab.took hT0;obtain⟨hT1,hlen⟩:=args1_took (g:=g) (w:=w) (C:=C) hvs htab h1;obtain⟨Fs,eF,hA,hap,hh,hr⟩:=args_ok (g:=g) hE hC hs hsub (.inr rfl) hvs hT0 h1 (hT0.trans hT1) h2;obtain⟨FL,eL,_,hapL,_,_⟩:=args_ok (g:=g) hE hC hs hsub (T:=fun _=>True) (.inl fun _=>trivial) hvs hT0 h1 (hT0.trans hT1) h2;unfold Oper.wp;rw[hrun,Oper.upon_enter];refine (hS xs Fs (fun k hk=>hC.free (Own.zone hs ((hh k hk).1.took hT0)).1) hA hap y hx).mono fun e w' ⟨u,eu,vr,Gs,er,hM,hO⟩=>?_;subst eu;refine hK u w' ?_;have hO':=hO;rw[eF] at hO';have hB0:BackInv (hio m.ps FL) fr.f g w' rw1 rw1:=⟨fun j r h=>.inl h,fun j r h=>h,rfl⟩;obtain⟨hB,hV,hG⟩:=backs_ok (w':=w') (hs.sub hsub) hs hT0 hvs (Took.refl _ _) h1 hO' (fun k hk=>by rw[eL];exact hk) hB0
    rw[← eF] at hG;have hgz:∀ k,gives m.ps Fs k→Own big.rw g k∧¬ Own (at? rw1) g k:=fun k hk=>by
     obtain⟨h3,h4⟩:=hh k (gives_hands hk);exact⟨h3.took hT0,h4⟩
    subst er
    -- the frame behind the call
    have fin:∀ (base:Nat→Option RowE),Sim C { big with rw:=base } g a w'→(∀ k,gives m.ps Fs k→¬ Own base g k)→(∀ k,Own base g k→k<w.heap.size) →
      Out C g a fr (callEnd fr m vs rw1 (m.ps.all fun p=>p.1==.ro||p.1==.cap) y).2.1 [] { big with rw:=more fr.rw.length (callEnd fr m vs rw1 (m.ps.all fun p=>p.1==.ro||p.1==.cap) y).2.1 base } (some (callEnd fr m vs rw1 (m.ps.all fun p=>p.1==.ro||p.1==.cap) y).1) (retV vr) w':=by
     intro base hsim hgb hold;obtain⟨g',le,out,hβ,hsim',ht⟩:=expandRs_ok (n:=fr.rw.length) hsim hdata hV (fun G hGm k hk=>by
      obtain⟨h3,h4⟩:=hG G hGm k hk;refine⟨h4,?_,fun ho=>?_,fun j b hb hbo hjk=>?_⟩
      ·rcases h3 with h3 | h3
       ·exact .inl (Nat.le_trans hs.kept.size h3)
       ·exact (Own.zone hs (hgz k h3).1).1
      ·rcases h3 with h3 | h3
       ·exact absurd (hold k ho) (Nat.not_lt.2 h3)
       ·exact hgb k h3 ho
      ·rcases h3 with h3 | h3
       ·exact absurd (hs.box_lt hb hjk) (Nat.not_lt.2 h3)
       ·exact Own.notBox hs (hgz k h3).1 hb hbo hjk) (fun j h1 h2=>hfree.ρ j h1 h2)
     exact⟨g',⟨le,fun j _=>by rw[hβ],out⟩,hsim',fun av hav=>by cases hav;exact one_rel ht⟩
    cases hq:(m.ps.all fun p=>p.1==.ro||p.1==.cap) with
    | true =>
     have hro:∀ p∈m.ps,p.1=.cap∨p.1=.ro:=fun p hp=>by
      have:=List.all_eq_true.1 hq p hp;simp only[Bool.or_eq_true,beq_iff_eq] at this;exact this.symm
     have hM':Moves (fun _=>False) w w':=⟨hM.drawn,hM.os,hM.tape,hM.output,hM.size,fun k hk _=>hM.block k hk (hands_ro hro Fs k)⟩;have:=fin big.rw (hs.quiet hC hM') (fun k hk=>absurd (gives_hands hk) (hands_ro hro Fs k)) (fun k hk=>(Own.zone hs hk).2);rw[hq] at this;simpa only[grow,more_nil,effB,effR,callEnd,cond_true] using this
    | false =>
     have hfb:=hfull hq;subst hfb;have hsim:=hs.afterCall hC hT1 hM (fun k hk=>hh k hk) hB.b hB.k;have:=fin (at? (backs fr.rw m.ps vs y rw1).1) hsim (fun k hk ho=>?_) (fun k hk=>?_)
     ·rw[hq] at this;simpa only[grow,more_nil,effB,effR,callEnd,cond_false] using this
     ·-- what was given isn't in a row that was put back
      obtain⟨j,r,q,hj,hm,hq',hF⟩:=ho;rcases hB.b j r hj with h3 | ⟨r0,q0,_,_,_,_,hq0,_,hV0⟩
      ·exact (hgz k hk).2 ⟨j,r,q,h3,hm,hq',hF⟩
      ·rw[hq'] at hq0;cases hq0;exact hio_not hapL (hV0 k hF) (by rw[eL];rw[eF] at hk;exact gives_argFs hk)
     ·obtain⟨j,r,q,hj,hm,hq',hF⟩:=hk;rcases hB.b j r hj with h3 | ⟨r0,q0,h3,_,_,_,_,_,_⟩
      ·exact hs.row_lt (hT1.mine h3 hm) hq' k hF
      ·exact hs.row_lt h3 hq' k hF
  ·cases hcall
 ·cases hcall
theorem callTo_mv (hE:EnvOK C.P E) (hC:CxOK C) (hs:Sim C big g a w) (hsub:Sub fr big) {m:Mdl} {vs:List (Bool×List Lf)} {us:List Value} (hvs:TupR C g vs us) {f:Nat} {args:Array Value} (hS:∀ x Fs,(∀ k,hands m.ps Fs k→gN≤k)→Args C.P w m.ps x us Fs→Apart m.ps Fs→∀ y,m.F x=some y→Calls C.P f args w fun e w'=>∃ u,e=.returned u∧Post w m us Fs y u w')
  (o:Oper) (hrun:(execOp a.eval o).run C.P w=.ok (.enter f args) w) {m':Mdl} {x:Option (RT (outs m'.ps++m'.rs))} {vs':List (Bool×List Lf)} {rw1:List (Option RowE)} {quiet:Bool} (hcall:callTo E fr m vs=.call m' x vs' rw1 quiet) {y:RT (outs m'.ps++m'.rs)} (hx:x=some y)
  (hmo:mvOnly m'.ps=true) (hfree:Free fr (callEnd fr m' vs' rw1 true y).2.1 [] g) {K:Act→World→Prop} {Q:Exit→Act→World→Prop}
  (hK:∀ u w',Out C g a fr (callEnd fr m' vs' rw1 true y).2.1 [] (grow fr big (callEnd fr m' vs' rw1 true y).2.1 [] (.gone (goneOf fr.rw rw1))) (some (callEnd fr m' vs' rw1 true y).1) u w'→K (a.put o.dst u) w'):o.wp C.P a w K Q:=by
 unfold callTo at hcall;split at hcall
 ·rename_i rw0 h1;split at hcall
  ·rename_i xs h2;cases hd:m.rs.all Sh.data
   ·rw[hd] at hcall;cases hcall
   ·rw[hd,cond_true] at hcall;cases hcall;have hdata:∀ s∈m.rs,s.data=true:=fun s hs=>List.all_eq_true.1 hd s hs;have hT0:=hsub.took;have htab:Tab (at? fr.rw) g w:=hs.tab.took hT0;obtain⟨hT1,hlen⟩:=args1_took (g:=g) (w:=w) (C:=C) hvs htab h1;obtain⟨Fs,eF,hA,hap,hh,hr⟩:=args_ok (g:=g) hE hC hs hsub (.inr rfl) hvs hT0 h1 (hT0.trans hT1) h2;obtain⟨FL,eL,_,hapL,_,_⟩:=args_ok (g:=g) hE hC hs hsub (T:=fun _=>True) (.inl fun _=>trivial) hvs hT0 h1 (hT0.trans hT1) h2;unfold Oper.wp;rw[hrun,Oper.upon_enter];refine (hS xs Fs (fun k hk=>hC.free (Own.zone hs ((hh k hk).1.took hT0)).1) hA hap y hx).mono fun e w' ⟨u,eu,vr,Gs,er,hM,hO⟩=>?_;subst eu;refine hK u w' ?_;have hO':=hO;rw[eF] at hO';have hB0:BackInv (hio m.ps FL) fr.f g w' rw1 rw1:=⟨fun j r h=>.inl h,fun j r h=>h,rfl⟩;obtain⟨hB,hV,hG⟩:=backs_ok (w':=w') (hs.sub hsub) hs hT0 hvs (Took.refl _ _) h1 hO' (fun k hk=>by rw[eL];exact hk) hB0
    rw[← eF] at hG;have hgz:∀ k,gives m.ps Fs k→Own big.rw g k∧¬ Own (at? rw1) g k:=fun k hk=>by
     obtain⟨h3,h4⟩:=hh k (gives_hands hk);exact⟨h3.took hT0,h4⟩
    subst er
    -- the frame behind the call
    have fin:∀ (base:Nat→Option RowE),Sim C { big with rw:=base } g a w'→(∀ k,gives m.ps Fs k→¬ Own base g k)→(∀ k,Own base g k→k<w.heap.size) →
      Out C g a fr (callEnd fr m vs rw1 true y).2.1 [] { big with rw:=more fr.rw.length (callEnd fr m vs rw1 true y).2.1 base } (some (callEnd fr m vs rw1 true y).1) (retV vr) w':=by
     intro base hsim hgb hold;obtain⟨g',le,out,hβ,hsim',ht⟩:=expandRs_ok (n:=fr.rw.length) hsim hdata hV (fun G hGm k hk=>by
      obtain⟨h3,h4⟩:=hG G hGm k hk;refine⟨h4,?_,fun ho=>?_,fun j b hb hbo hjk=>?_⟩
      ·rcases h3 with h3 | h3
       ·exact .inl (Nat.le_trans hs.kept.size h3)
       ·exact (Own.zone hs (hgz k h3).1).1
      ·rcases h3 with h3 | h3
       ·exact absurd (hold k ho) (Nat.not_lt.2 h3)
       ·exact hgb k h3 ho
      ·rcases h3 with h3 | h3
       ·exact absurd (hs.box_lt hb hjk) (Nat.not_lt.2 h3)
       ·exact Own.notBox hs (hgz k h3).1 hb hbo hjk) (fun j h1 h2=>hfree.ρ j h1 h2)
     exact⟨g',⟨le,fun j _=>by rw[hβ],out⟩,hsim',fun av hav=>by cases hav;exact one_rel ht⟩
    have hTb:=dropL_took big.rw (goneOf fr.rw rw1);have hD:∀ k,hands m.ps Fs k→Own big.rw g k∧¬ Own (fun n=>dropL (goneOf fr.rw rw1) n (big.rw n)) g k:=fun k hk=>by
     obtain⟨⟨j,r,q,hj,hm,hq',hF⟩,hno⟩:=hh k hk;have hn:at? rw1 j=none:=by
      cases hx1:at? rw1 j with
      | none=>rfl
      | some r' =>
       exfalso;rcases hT1.row j r' hx1 with h3 | ⟨q0,_,h3,_⟩
       ·rw[hj] at h3;cases h3;exact hno ⟨j,r,q,hx1,hm,hq',hF⟩
       ·cases h3
     have hmem:j∈goneOf fr.rw rw1:=goneOf_mem.2 ⟨⟨r,hj⟩,hn⟩;exact Own.gone hs.tab hTb (hsub.rw j r hj) hm hq' (fun r' hr'=>absurd rfl ((dropL_some.1 hr').2 j hmem).1) hF
    have hsim:=hs.afterCall (V:=fun _=>False) hC hTb hM hD (fun j r h=>.inl h) (fun j r h=>h);have:=fin _ hsim (fun k hk=>(hD k (gives_hands hk)).2) (fun k hk=>by
     obtain⟨j,r,q,hj,hm,hq',hF⟩:=hk;exact hs.row_lt (dropL_some.1 hj).1 hq' k hF)
    simpa only[grow,more_nil,effB,effR,callEnd,cond_true] using this
  ·cases hcall
 ·cases hcall
theorem none_hands:∀ (ps:List (PM×Sh)) (k:Nat),¬ hands ps (ps.map fun _ _=>False) k∧¬ reads ps (ps.map fun _ _=>False) k
 | [],k=>⟨fun h=>h.elim,fun h=>h.elim⟩
 | (m,s) :: ps,k=>by
  obtain⟨h1,h2⟩:=none_hands ps k;exact⟨fun h=>h.elim (fun h=>h.2.elim) h1,fun h=>h.elim (fun h=>h.2.elim) h2⟩
theorem none_apart:∀ (ps:List (PM×Sh)),Apart ps (ps.map fun _ _=>False)
 | []=>trivial
 | (m,s) :: ps=>⟨fun k h=>h.elim,none_apart ps⟩
theorem args_flat (hE:EnvOK C.P E) (hC:CxOK C) (hs:Sim C big g a w) (hsub:Sub fr big):∀ {ps:List (PM×Sh)} {vs:List (Bool×List Lf)} {us:List Value} {rc:List (Option RowE)} {xs:AT ps},ps.all (fun p=>p.1==.ro&&p.2.flat)=true→TupR C g vs us→args2 E fr fr.rw ps vs rc=some xs→Args C.P w ps xs us (ps.map fun _ _=>False)
 | [],[],_,_,_,_,hv,_=>⟨hv,rfl⟩
 | [],_ :: _,_,_,_,_,_,h=>by simp[args2] at h
 | _ :: _,[],_,_,_,_,_,h=>by simp[args2] at h
 | (m,s) :: ps,(ag,cs) :: vs,us,rc,xs,hp,⟨u,t,e,⟨us',eu,hl,_⟩,ht⟩,h=>by
  subst e;simp only[List.all_cons,Bool.and_eq_true,beq_iff_eq] at hp;obtain⟨⟨rfl,hf⟩,hp⟩:=hp;simp only[args2] at h;cases hag:s.agg==ag
  ·rw[hag] at h;cases h
  ·rw[hag,cond_true] at h;split at h
   ·rename_i x xs' h1 h2;cases h;have hr:=roArg_ok hE hC hs hsub hsub.took h1 hl;refine⟨u,t,fun _=>False,_,rfl,rfl,fun _ h=>h.elim,⟨us',by rw[eu,beq_iff_eq.1 hag],RC.flat s hf hr⟩,args_flat hE hC hs hsub hp ht h2⟩
   ·cases h
theorem outs_roC {w':World} {rs:List Sh}:∀ (ps:List (PM×Sh)) {t:List Value} {Fs:List FP} (hro:ps.all (fun p=>p.1==.ro&&p.2.flat)=true) (he:outs ps++rs=rs) {y:RT (outs ps++rs)} {Kx:RT rs→Prop},Outs w' ps rs t Fs y Kx→Kx (cast (congrArg RT he) y)
 | [],t,Fs,_,he,y,Kx,h=>h
 | (m,s) :: ps,t,Fs,hro,he,y,Kx,h=>by
  simp only[List.all_cons,Bool.and_eq_true,beq_iff_eq] at hro;obtain⟨⟨rfl,_⟩,hro⟩:=hro
  match t,Fs,h with
  | _ :: t,_ :: Fs,h=>exact outs_roC ps (t:=t) (Fs:=Fs) hro he (y:=y) h
theorem outs_none:∀ {ps:List (PM×Sh)},ps.all (fun p=>p.1==.ro&&p.2.flat)=true→outs ps=[]
 | [],_=>rfl
 | (m,s) :: ps,h=>by
  simp only[List.all_cons,Bool.and_eq_true,beq_iff_eq] at h;obtain⟨⟨rfl,_⟩,h⟩:=h;exact outs_none (ps:=ps) h
theorem vals_flat {w':World}:∀ {rs:List Sh} {z:RT rs} {vr:List Value} {Gs:List FP} {n:Nat},rs.all Sh.flat=true→Vals w' rs z vr Gs→TupR C g (expandRs rs z n).1 vr
 | [],_,_,_,_,_,h=>h.1
 | s :: rs,z,vr,Gs,n,hf,⟨u,us',F,Fs',cs,e1,e2,eu,hO,_,hV⟩=>by
  simp only[List.all_cons,Bool.and_eq_true] at hf;subst e1;have hc:cs=cellsF s (RT.hd z):=RC.cellsF (P:=C.P) s hf.1 (OC.read s hO);refine⟨u,us',rfl,⟨cs,eu,?_,fun hag=>?_⟩,vals_flat hf.2 hV⟩
  ·rw[hc];exact expand_flat .own s hf.1 _ _
  ·rw[← (expand_flat (C:=C) (g:=g) .own s hf.1 (RT.hd z) n).len,cellsF_len s hf.1,Sh.n_one hag]
theorem shSub_part {s:Sh}:∀ {off n:Nat} {u:Sh} {f:s.T→u.T} {gg:s.T→u.T→s.T},shSub s off n=some ⟨u,f,gg⟩→∀ {w:World} {F:FP} {x cs},OC s w F x cs →
  ∃ G:FP,(∀ k,G k→F k)∧OC u w G (f x) ((cs.drop off).take n)∧∀ {w':World} {y},(∀ k,F k→¬ G k→w'.heap[k]? = w.heap[k]?)→OC u w' G y ((cs.drop off).take n)→OC s w' F (gg x y) cs:=by
 induction s with
 | cons a b iha ihb =>
  intro off n u f gg h w F x cs hO;have hl0:=OC.len _ hO;simp only[shSub] at h;cases h1:(Nat.beq off 0&&Nat.beq n (a.n+b.n))
  ·rw[h1,cond_false] at h;cases h2:(Nat.beq off 0&&Nat.beq n a.n)
   ·rw[h2,cond_false] at h;cases h3:Nat.ble a.n off
    ·rw[h3,cond_false] at h;have hlt:off<a.n:=by
      rcases Nat.lt_or_ge off a.n with hh | hh
      ·exact hh
      ·rw[Nat.ble_eq_true_of_le hh] at h3;cases h3
     split at h
     ·rename_i t f' g' hb;cases h;obtain⟨hn,hle,_⟩:=shSub_ok hb;obtain⟨c1,c2,rfl,G,H,hG,hH,hd,o1,o2⟩:=hO;have l1:c1.length=a.n:=OC.len a o1;have e:((c1++c2).drop off).take n=(c1.drop off).take n:=by
       rw[List.drop_append_of_le_length (by omega),List.take_append_of_le_length (by rw[List.length_drop];omega)]
      obtain⟨G',hG',p1,p2⟩:=iha hb o1;rw[e];refine⟨G',fun k hk=>hG k (hG' k hk),p1,fun hk hy=>⟨c1,c2,rfl,G,H,hG,hH,hd,p2 (fun k h1 h2=>hk k (hG k h1) h2) hy,OC.same b (fun k h1=>hk k (hH k h1) fun h2=>hd k (hG' k h2) h1) o2⟩⟩
     ·cases h
    ·rw[h3,cond_true] at h;have hge:a.n≤off:=Nat.le_of_ble_eq_true h3;split at h
     ·rename_i t f' g' hb;cases h;obtain⟨c1,c2,rfl,G,H,hG,hH,hd,o1,o2⟩:=hO;have l1:c1.length=a.n:=OC.len a o1;have e:(c1++c2).drop off=c2.drop (off-a.n):=by
       rw[List.drop_append,List.drop_eq_nil_of_le (by omega),List.nil_append,l1]
      obtain⟨G',hG',p1,p2⟩:=ihb hb o2;rw[e];refine⟨G',fun k hk=>hH k (hG' k hk),p1,fun hk hy=>⟨c1,c2,rfl,G,H,hG,hH,hd,OC.same a (fun k h1=>hk k (hG k h1) fun h2=>hd k h1 (hG' k h2)) o1,p2 (fun k h1 h2=>hk k (hH k h1) h2) hy⟩⟩
     ·cases h
   ·rw[h2] at h;cases h;simp only[Bool.and_eq_true] at h2;have e0:off=0:=Nat.eq_of_beq_eq_true h2.1;have e:n=a.n:=Nat.eq_of_beq_eq_true h2.2;subst e0;obtain⟨c1,c2,rfl,G,H,hG,hH,hd,o1,o2⟩:=hO;have e':((c1++c2).drop 0).take n=c1:=by rw[List.drop_zero,e,← OC.len a o1,List.take_left]
    rw[e'];exact⟨G,hG,o1,fun hk hy=>⟨c1,c2,rfl,G,H,hG,hH,hd,hy,OC.same b (fun k h1=>hk k (hH k h1) fun h2=>hd k h2 h1) o2⟩⟩
  ·rw[h1] at h;cases h;simp only[Bool.and_eq_true] at h1;have e0:off=0:=Nat.eq_of_beq_eq_true h1.1;have e:n=a.n+b.n:=Nat.eq_of_beq_eq_true h1.2;subst e0;have e':(cs.drop 0).take n=cs:=by rw[List.drop_zero,List.take_of_length_le (by rw[hl0,e];exact Nat.le_refl _)]
   rw[e'];exact⟨F,fun k hk=>hk,hO,fun _ hy=>hy⟩
 | _ =>
  intro off n u f gg h w F x cs hO;have hl0:=OC.len _ hO;simp only[shSub] at h;cases h1:(Nat.beq off 0&&Nat.beq n 1)
  ·rw[h1] at h;cases h
  ·rw[h1] at h;cases h;simp only[Bool.and_eq_true] at h1;have e0:off=0:=Nat.eq_of_beq_eq_true h1.1;have e:n=1:=Nat.eq_of_beq_eq_true h1.2;subst e0;have e':(cs.drop 0).take n=cs:=by
    rw[List.drop_zero,List.take_of_length_le (by rw[hl0,e];simp[Sh.n])]
   rw[e'];exact⟨F,fun k hk=>hk,hO,fun _ hy=>hy⟩
theorem callB_ok (hE:EnvOK C.P E) (hC:CxOK C) (hs:Sim C big g a w) (hsub:Sub fr big) {m:Mdl} {vs:List (Bool×List Lf)} {us:List Value} (hvs:TupR C g vs us) {f:Nat} {args:Array Value} (hS:∀ x Fs,(∀ k,hands m.ps Fs k→gN≤k)→Args C.P w m.ps x us Fs→Apart m.ps Fs→∀ y,m.F x=some y→Calls C.P f args w fun e w'=>∃ u,e=.returned u∧Post w m us Fs y u w')
  (o:Oper) (hrun:(execOp a.eval o).run C.P w=.ok (.enter f args) w) {rs':List Sh} {x:Option (RT rs')} {z0:Option (RT rs')} {fn:RT rs'→After} (hcall:callB E fr m vs=.callE rs' x z0 fn) {y:RT rs'} (hx:x=some y) {K:Act→World→Prop} {Q:Exit→Act→World→Prop}
  (hK:∀ u w',Out C g a fr (fn y).nr (fn y).nb (grow fr big (fn y).nr (fn y).nb (fn y).ef) (some (fn y).v) u w'→K (a.put o.dst u) w'):o.wp C.P a w K Q:=by
 unfold callB at hcall;split at hcall
 ·rename_i n vs';split at hcall
  ·rename_i q hq0;split at hcall
   ·rename_i p j off hqm;split at hcall
    ·rename_i r hr0;obtain⟨re,rsh,rxs,rm⟩:=r;cases hcond:(rm.mine&&m.rs.all Sh.flat&&m.ps.tail.all (fun p=>p.1==.ro&&p.2.flat))
     ·simp only[hcond] at hcall;cases hcall
     ·simp only[hcond,cond_true] at hcall;simp only[Bool.and_eq_true] at hcond;obtain⟨⟨hm,hflat⟩,hro⟩:=hcond;split at hcall
      case h_2=>cases hcall
      rename_i u f gg hsb;split at hcall
      ·rename_i hsh;subst hsh;split at hcall
       ·rename_i h1;split at hcall
        ·rename_i h2;split at hcall
         ·rename_i aa ha2;obtain⟨mps,mrs,mF⟩:=m;simp only at h1 h2 hflat hro ha2;obtain⟨ps',rfl⟩:∃ ps',mps=(.io,.list q.e q.s) :: ps':=⟨_,h1⟩;cases hcall;simp only[List.tail_cons] at hro ha2;obtain⟨u,t,rfl,hu,ht⟩:=hvs;have hu:=hu.to1
          -- the row, and the one that it lies in
          obtain⟨qn,A0,n0,c0,hqn,hqv,_,_,hZ⟩:=hs.rows n q (hsub.rw _ _ hq0);rw[Zone,hqm] at hZ;obtain⟨_,r',q',hr',hmi',hq',hFq,hcellq⟩:=hZ;have hbp:=hsub.rw _ _ hr0;rw[hbp] at hr';cases hr';obtain⟨A,nn,cc,hqv',hj0,hjn,hoff,hcell⟩:=hcellq j off rfl;have hO:=((hs.rows p _ hbp).mine hm hq').1;obtain⟨css,how,hlen,hcl,hblk,G,hG,hd,hMm⟩:=id hO;simp only at hlen hMm how;obtain⟨A1,c1,e1,_⟩:=ownsRow_form how;rw[hqv'] at e1;injection e1 with e1 e2 _;have hjl:j.toNat<rxs.length:=by omega
          have hjc:j.toNat<css.length:=by omega
          have hgx:rxs[j.toNat]? = some rxs[j.toNat]:=List.getElem?_eq_getElem hjl;have hgc:css[j.toNat]? = some css[j.toNat]:=List.getElem?_eq_getElem hjc;obtain⟨Gp,hGp,hOp,hback⟩:=shSub_part hsb (hMm _ _ _ hgx hgc);obtain⟨v',ecs,hOv⟩:=hOp;have hev:(css[j.toNat])[off]? = some v':=by
           have h0:((css[j.toNat].drop off).take 1)[0]? = some v':=by rw[ecs];rfl
           rw[List.getElem?_take,List.getElem?_drop] at h0;simpa using h0
          -- the element is the slice that is handed over
          have hcv:v'=qn.v:=by
           obtain⟨gb,hgb⟩:∃ gb,q'.v.ownBlock=some gb:=⟨A.block,by rw[hqv'];rfl⟩
           rcases how.2 with ⟨e3,_⟩ | ⟨gb,cap,cur,e3,_⟩
           ·rw[hqv'] at e3;cases e3
           ·have hcs:=how.cells (g:=gb) (by rw[e3];rfl) _ _ (flatten_get (fun d hd=>(hcl d hd).1) hgc off v' hev)
            rw[hqv'] at e3;injection e3 with e3 _ _;injection e3 with e3;subst e3;have hcs:w.cell? ((⟨gb,0,none⟩:Addr).add (j.toNat*rsh.n+off))=some v':=hcs;rw[hcs] at hcell;exact Option.some.inj hcell
          obtain⟨qq,A2,n2,c2,hqq,hqv2,hu2⟩:=hu;rw[hqn] at hqq;cases hqq;have huv:u=v':=by rw[hcv,hqv2,hu2]
          have hgd:rxs.getD j.toNat rsh.dfl=rxs[j.toNat]:=by rw[List.getD_eq_getElem?_getD,hgx];rfl
          have hA:=args_flat hE hC hs hsub hro ht ha2;have hAA:Args C.P w ((.io,.list q.e q.s) :: ps') (f (rxs.getD j.toNat rsh.dfl),aa) (u :: t) (Gp :: ps'.map fun _ _=>False):=by
           refine⟨u,t,Gp,_,rfl,rfl,fun k hk=>hs.row_lt hbp hq' k (hG _ k (hGp k hk)).1,⟨[v'],by rw[huv];rfl,v',rfl,?_⟩,hA⟩
           show OwnsL _ _ _ _ _ _ _;rw[hgd];exact hOv
          have hap:Apart ((.io,.list q.e q.s) :: ps') (Gp :: ps'.map fun _ _=>False):=⟨fun k _=>⟨(none_hands ps' k).1,fun _=>(none_hands ps' k).2⟩,none_apart ps'⟩;unfold Oper.wp;rw[hrun,Oper.upon_enter];have hgn:∀ k,hands ((PM.io,Sh.list q.e q.s) :: ps') (Gp :: ps'.map fun _ _=>False) k→gN≤k:=fun k hk=>Or.elim hk (fun h=>hC.free (((hs.rows p _ hbp).mine hm hq').2 k (hG _ k (hGp k h.2)).1)) fun h=>absurd h (none_hands ps' k).1;refine (hS _ _ hgn hAA hap y hx).mono fun e w' ⟨ur,eu,vr,Gs,er,hMv,hOut⟩=>?_;subst eu;refine hK ur w' ?_;obtain⟨⟨cs',ecs',v2,ev2,hO2⟩,hOut2⟩:=hOut;have e5:outs ps'++mrs=mrs:=by rw[outs_none hro];rfl
          have hV:=outs_roC ps' hro e5 hOut2;have hv2:v2=v':=by
           subst ev2;have:u=v2:=ecs';rw[← this,huv]
          subst hv2;have hM2:Moves Gp w w':=⟨hMv.drawn,hMv.os,hMv.tape,hMv.output,hMv.size,fun k hk hn=>hMv.block k hk fun hh=>hh.elim (fun h=>hn h.2) fun h=>(none_hands ps' k).1 h⟩
          -- the parts of what came back
          have hhd:RT.hd (l:=mrs) (cast (congrArg RT h2) y)=RT.hd (l:=outs ps'++mrs) y:=by
           have gen:∀ (l:List Sh) (h:(Sh.list q.e q.s :: l)=Sh.list q.e q.s :: mrs) (y:RT (Sh.list q.e q.s :: l)),RT.hd (l:=mrs) (cast (congrArg RT h) y)=RT.hd (l:=l) y:=by
            intro l h y;cases h;rfl
           exact gen _ h2 y
          have htl:RT.tl (l:=mrs) (cast (congrArg RT h2) y)=cast (congrArg RT e5) (RT.tl (l:=outs ps'++mrs) y):=by
           have gen:∀ (l:List Sh) (h:(Sh.list q.e q.s :: l)=Sh.list q.e q.s :: mrs) (h':l=mrs) (y:RT (Sh.list q.e q.s :: l)),RT.tl (l:=mrs) (cast (congrArg RT h) y)=cast (congrArg RT h') (RT.tl (l:=l) y):=by
            intro l h h' y;subst h';rfl
           exact gen _ h2 e5 y
          have hnew:OwnL re rsh w' q'.F q'.v (rxs.set j.toNat (gg (rxs.getD j.toNat rsh.dfl) (RT.hd (l:=mrs) (cast (congrArg RT h2) y)))):=by
           have hkeep:∀ k,q'.F k→¬ Gp k→w'.heap[k]? = w.heap[k]?:=fun k hk hn=>hM2.block k (hs.row_lt hbp hq' k hk) hn;refine⟨css,?_,by rw[List.length_set];exact hlen,hcl,hblk,G,hG,hd,fun i x c hxi hci=>?_⟩
           ·rw[List.length_set];refine⟨how.1,?_⟩;rcases how.2 with h0 | ⟨gb,cap,cur,e3,hb0,hh,rest⟩
            ·exact .inl h0
            ·refine .inr ⟨gb,cap,cur,e3,hb0,?_,rest⟩;have hob:q'.v.ownBlock=some gb:=by rw[e3];rfl
             rw[hkeep gb (hblk gb hob) fun hg=>(hG _ _ (hGp _ hg)).2 hob];exact hh
           ·by_cases hij:i=j.toNat
            ·subst hij;rw[List.getElem?_set_self hjl] at hxi;cases hxi;rw[hgc] at hci;cases hci;rw[hhd,hgd];exact hback (fun k hk hn=>hkeep k (hG _ k hk).1 hn) ⟨v2,ecs,hO2⟩
            ·rw[List.getElem?_set_ne (fun e=>hij e.symm)] at hxi;exact OC.same _ (fun k hk=>hkeep k (hG i k hk).1 fun hg=>hd i _ k hij hk (hGp k hg)) (hMm i x c hxi hci)
          have hsim:=hs.setRow hC hbp (r':=⟨re,rsh,rxs.set j.toNat (gg (rxs.getD j.toNat rsh.dfl) (RT.hd (l:=mrs) (cast (congrArg RT h2) y))),rm⟩) hm hq' rfl rfl hM2 (fun k hk=>(hG _ k (hGp k hk)).1) hnew (set_conds hbp).1 (set_conds hbp).2;refine⟨g,⟨Sg.Le.refl g,fun _ _=>rfl,fun _ _=>rfl⟩,(by simpa only[grow,more_nil,effB,effR] using hsim:Sim C (grow fr big [] [] (.set p re rsh (rxs.set j.toNat (gg (rxs.getD j.toNat rsh.dfl) (RT.hd (l:=mrs) (cast (congrArg RT h2) y)))))) g a w'),fun av hav=>?_⟩
          cases hav;rw[er];refine one_rel ?_;rw[htl];exact vals_flat hflat hV.1
         ·cases hcall
        ·cases hcall
       ·cases hcall
      ·cases hcall
    ·cases hcall
   ·cases hcall
  ·cases hcall
 ·cases hcall
theorem callB_not {m:Mdl} {vs:List (Bool×List Lf)}:(∀ req v nr nb ef,callB E fr m vs≠.done req v nr nb ef)∧∀ m' o vs' rw q,callB E fr m vs≠.call m' o vs' rw q:=by
 unfold callB;constructor<;>intros<;>(repeat' split)<;>first | (intro h;cases h;done) | skip
 all_goals (generalize (Md.mine _&&_&&_)=b;cases b<;>simp only[cond_true,cond_false]<;>(repeat' split)<;>(intro h;cases h))
def OpOK (C:Cx) (g:Sg) (a:Act) (w:World) (fr:Fr) (big:FF) (o:Oper) (Q:Exit→Act→World→Prop):Res→Prop
 | .fail=>True
 | .done req v nr nb ef=>req=true→(ef.isTab=true→fr.f=big)→Free fr nr nb g→∀ K:Act→World→Prop,(∀ u w',Out C g a fr nr nb (grow fr big nr nb ef) v u w'→K (a.put o.dst u) w')→o.wp C.P a w K Q
 | .call m x vs rw quiet=>(∀ y,x=some y→(quiet=false→fr.f=big)→Free fr (callEnd fr m vs rw quiet y).2.1 [] g →
   ∀ K:Act→World→Prop,(∀ u w',Out C g a fr (callEnd fr m vs rw quiet y).2.1 [] (grow fr big (callEnd fr m vs rw quiet y).2.1 [] (callEnd fr m vs rw quiet y).2.2) (some (callEnd fr m vs rw quiet y).1) u w'→K (a.put o.dst u) w')→o.wp C.P a w K Q) ∧
   ∀ y,x=some y→mvOnly m.ps=true→Free fr (callEnd fr m vs rw true y).2.1 [] g →
   ∀ K:Act→World→Prop,(∀ u w',Out C g a fr (callEnd fr m vs rw true y).2.1 [] (grow fr big (callEnd fr m vs rw true y).2.1 [] (.gone (goneOf fr.rw rw))) (some (callEnd fr m vs rw true y).1) u w'→K (a.put o.dst u) w')→o.wp C.P a w K Q
 | .callE _ x z f=>∀ y,x=some y→Free fr (f y).nr (f y).nb g→∀ K:Act→World→Prop,(∀ u w',Out C g a fr (f y).nr (f y).nb (grow fr big (f y).nr (f y).nb (f y).ef) (some (f y).v) u w'→K (a.put o.dst u) w')→o.wp C.P a w K Q
theorem OpOK.ofGood {o:Oper} {Q:Exit→Act→World→Prop} {r:Res} (h:Good C g a fr big ((execOp a.eval o).run C.P w) r):OpOK C g a w fr big o Q r:=by
 cases r with
 | fail=>trivial
 | done req v nr nb ef =>
  intro hreq hfull hfree K hK;obtain⟨n,u,w',hr,hn,hO⟩:=h hreq hfull hfree;unfold Oper.wp;rw[hr];rcases hn with rfl | ⟨rfl,rfl⟩
  ·exact hK u w' hO
  ·exact hK undef w' hO
 | call m x vs rw q=>exact h.elim
 | callE m x z f=>exact h.elim
theorem TupR.append:∀ {vs ws:List (Bool×List Lf)} {us ts:List Value},TupR C g vs us→TupR C g ws ts→TupR C g (vs++ws) (us++ts)
 | [],_,_,_,h,k=>by cases h;exact k
 | _ :: _,_,_,_,⟨u,t,e,hv,h⟩,k=>by subst e;exact⟨u,_,rfl,hv,TupR.append h k⟩
theorem caps_tup:∀ {bs:List Nat} {us:List Value},capsR g.β bs us→TupR C g (bs.map fun b=>(false,[Lf.box b 0])) us
 | [],_,h=>by cases h;rfl
 | b :: bs,_,⟨k,r,e,hk,h⟩=>⟨_,r,e,VR.of1 ⟨k,hk,rfl⟩,caps_tup h⟩
theorem run_call_value {P:Program} {f:Nat} (hR:Runs P f) (o:Oper) (c:Call) (ho:o.op=.call c) {x:Operand} (hx:c.callee=.value x) {caps:Array Value} (hv:a.eval x=.func (.func f) #[] caps):(execOp a.eval o).run P w=.ok (.enter f ((c.args.toList.map a.eval)++caps.toList).toArray) w:=by
 obtain⟨fn,hf,hb,hn⟩:=hR;have hb':fn.body.isNone=false:=by cases h:fn.body<;>simp_all
 have e:(((c.args.toList.map a.eval)++caps.toList).toArray)=c.args.map a.eval++caps:=by
  rw[← Array.toList_map];simp
 simp only[execOp,ho,resolve,hx,hv,Deferred.ofValue,Sem.run_bind,Sem.run_pure,Result.andThen_ok,invoke,callFunc,run_program,hf,hn,hb',Bool.false_eq_true,if_false,e,Array.empty_append]
theorem callTo_not {m:Mdl} {vs:List (Bool×List Lf)} {req v nr nb ef}:callTo E fr m vs≠.done req v nr nb ef:=by
 unfold callTo;split
 ·split
  ·cases m.rs.all Sh.data<;>simp
  ·simp
 ·simp
theorem callTo_not2 {m:Mdl} {vs:List (Bool×List Lf)} {rs' o z f}:callTo E fr m vs≠.callE rs' o z f:=by
 unfold callTo;split
 ·split
  ·cases m.rs.all Sh.data<;>simp
  ·simp
 ·simp
theorem args1_ro:∀ {ps:List (PM×Sh)} {vs:List (Bool×List Lf)} {rw rc:List (Option RowE)} {xs:AT ps},ps.all (fun p=>p.1==.ro)=true→args2 E fr rw ps vs rc=some xs→args1 ps vs rc=some rc
 | [],[],_,_,_,_,_=>rfl
 | [],_ :: _,_,_,_,_,h=>by simp[args2] at h
 | _ :: _,[],_,_,_,_,h=>by simp[args2] at h
 | (m,s) :: ps,(ag,cs) :: vs,rw,rc,xs,hp,h=>by
  simp only[List.all_cons,Bool.and_eq_true,beq_iff_eq] at hp;obtain⟨hm,hp⟩:=hp;subst hm;simp only[args2] at h;cases hb:(s.agg==ag)
  ·rw[hb] at h;cases h
  ·rw[hb,cond_true] at h;split at h
   ·rename_i x xs' h1 h2;show args1 ps vs rc=some rc;exact args1_ro hp h2
   ·cases h
theorem reads_mem:∀ {ps:List (PM×Sh)} {Fs:List FP} {F:FP} {k:Nat},ps.all (fun p=>p.1==.ro)=true→Fs.length=ps.length→F∈Fs→F k→reads ps Fs k
 | [],Fs,F,k,_,hl,hF,_=>by
  have:Fs=[]:=List.length_eq_zero_iff.1 hl;subst this;cases hF
 | (m,s) :: ps,[],F,k,_,hl,hF,_=>by cases hF
 | (m,s) :: ps,G :: Fs,F,k,hp,hl,hF,hk=>by
  simp only[List.all_cons,Bool.and_eq_true,beq_iff_eq] at hp;rcases List.mem_cons.1 hF with e | hF
  ·exact .inl ⟨by rw[hp.1];rfl,e▸hk⟩
  ·exact .inr (reads_mem hp.2 (by simpa using hl) hF hk)
theorem args_len {P:Program} {w:World}:∀ {ps:List (PM×Sh)} {x:AT ps} {us:List Value} {Fs:List FP},Args P w ps x us Fs→Fs.length=ps.length
 | [],_,_,_,⟨_,h2⟩=>by subst h2;rfl
 | _ :: _,_,_,_,⟨_,_,_,_,_,e2,_,_,h⟩=>by subst e2;simp[args_len h]
theorem Sim.dropBox (h:Sim C big g a w) (i:Nat):Sim C { big with bx:=fun j=>if j=i then none else big.bx j } g a w:=by
 have old:∀ j b,(if j=i then none else big.bx j)=some b→big.bx j=some b:=fun j b hb=>by
  split at hb
  ·cases hb
  ·exact hb
 exact { h with boxes:=fun j b hb=>h.boxes j b (old j b hb),bdisj:=fun j j' b b' k h1 h2=>h.bdisj j j' b b' k (old j b h1) (old j' b' h2),rbox:=fun j r q j' b k h1 m1 hq hb=>h.rbox j r q j' b k h1 m1 hq (old j' b hb) }
theorem Sub.dropBox (h:Sub fr big) (i:Nat):Sub { fr with bx:=put? fr.bx i none } { big with bx:=fun j=>if j=i then none else big.bx j }:=by
 refine { h with bx:=fun j b hb=>?_ }
 change at? (put? fr.bx i none) j=some b at hb;rw[at?_put] at hb;show (if j=i then none else big.bx j)=some b;split at hb
 ·cases hb
 ·rename_i hn;by_cases e:j=i
  ·subst e;have:=at?_lt hb;exact absurd ⟨rfl,this⟩ hn
  ·rw[if_neg e];exact h.bx j b hb
theorem callP_ok (hE:EnvOK C.P E) (hC:CxOK C) (hs:Sim C big g a w) (hsub:Sub fr big) {m:PMdl} {vs:List (Bool×List Lf)} {us:List Value} (hvs:TupR C g vs us) {f:Nat} (hS:SoundP C.P f m)
  (o:Oper) (hrun:(execOp a.eval o).run C.P w=.ok (.enter f us.toArray) w) {rs':List Sh} {x:Option (RT rs')} {z0:Option (RT rs')} {fn:RT rs'→After} (hcall:callP E fr m vs=.callE rs' x z0 fn) {y:RT rs'} (hx:x=some y) (hfree:Free fr (fn y).nr (fn y).nb g) {K:Act→World→Prop} {Q:Exit→Act→World→Prop}
  (hK:∀ u w',Out C g a fr (fn y).nr (fn y).nb (grow fr big (fn y).nr (fn y).nb (fn y).ef) (some (fn y).v) u w'→K (a.put o.dst u) w'):o.wp C.P a w K Q:=by
 unfold callP at hcall;split at hcall
 ·rename_i i vs';split at hcall
  ·rename_i b hb;split at hcall
   ·rename_i l cs hcs;cases hcond:(b.own&&m.ps.all (fun p=>p.1==.ro)&&m.rs.all Sh.data&&m.r.flat)
    ·rw[hcond] at hcall;cases hcall
    ·rw[hcond,cond_true] at hcall;simp only[Bool.and_eq_true] at hcond;obtain⟨⟨⟨hown,hro⟩,hdata⟩,hflat⟩:=hcond;split at hcall
     ·rename_i xs y0 aa h1 h2 h3;cases hcall;obtain⟨u0,t0,rfl,hu0,ht0⟩:=hvs;obtain⟨k,hk,rfl⟩:=(hu0.to1:LfR C g (.box i 0) u0);have hbb:=hsub.bx i b hb;have hpl:plainB b.cs=true:=by
       rw[hcs];cases l<;>cases cs<;>first | rfl | (cases h1;done)
      obtain⟨k',cur,t,hk',hh,hcr,hz,_⟩:=(hs.boxes i b hbb).toCells hpl;rw[hk] at hk';cases hk';rw[hcs] at hcr;obtain⟨ul,ucs,ecur,hul,hucs⟩:=hcr;have hz:=hz hown;have hs2:=hs.dropBox i;have hsub2:=hsub.dropBox i;have hT0:=hsub2.took;have hRd:∀ j,Rd C { big with bx:=fun j=>if j=i then none else big.bx j } (at? fr.rw) g j→j≠k:=by
       rintro j hj rfl
       rcases hj with hj | hj | ⟨i',b',hb',ho',hk'⟩
       ·obtain⟨h5,h6⟩:=hC.R_lt j hj;exact hz.elim (fun h=>absurd h5 (Nat.not_lt.2 h)) h6
       ·obtain⟨i',r,q,a1,a2,a3,a4⟩:=hj;exact hs.rbox i' r q i b j (hsub.rw _ _ a1) a2 a3 hbb hown hk a4
       ·change (if i'=i then none else big.bx i')=some b' at hb';split at hb'
        ·cases hb'
        ·rename_i hne;exact hne (hs.bdisj i' i b' b j hb' hbb ho' hk' hk)
      have hZR:=listOf_ok hs2 hT0 hul h1 (Z:=Rd C { big with bx:=fun j=>if j=i then none else big.bx j } (at? fr.rw) g) (fun k hk=>hk.elim .inl fun h=>.inr (.inl h))
      have hrest:=whole_ok hs2 hT0 (Z:=Rd C { big with bx:=fun j=>if j=i then none else big.bx j } (at? fr.rw) g) (fun k hk=>hk.elim .inl fun h=>.inr (.inl h)) h2 hucs
      have hcells:=RC.cellsF m.r hflat hrest;subst hcells;obtain⟨Fs,eF,hA,_,_,hrd⟩:=args_ok (g:=g) hE hC hs2 hsub2 (.inr rfl) ht0 hT0 (args1_ro hro h3) hT0 h3;have ecur':cur=(ul :: cellsF m.r y0).toArray:=by rw[← ecur]
      unfold Oper.wp;rw[hrun,Oper.upon_enter];refine (hS w k ul t ((xs,y0),aa) t0 Fs _ (hs.kept.tabs hC) (hC.free hz) (by rw[hh,ecur']) hZR (fun j hj=>⟨Rd.lt hC hs2 hT0 hj,hRd j hj⟩) hA (fun F hF hFk=>hRd k (hrd k (reads_mem hro (args_len hA) hF hFk)) rfl) y hx).mono fun e w' ⟨vs2,Gs,t',ee,hM,hh',hV,hG⟩=>?_
      subst ee;refine hK (retV vs2) w' ?_;have hsim:=Sim.setBox hC hs hbb hown (b':={ b with cs:=l :: (expand .own m.r (RT.hd y) 0).1 }) hown hk hM hh' ⟨rfl,ul,_,rfl,hul,expand_flat .own m.r hflat _ _⟩
      obtain⟨g',le,out,hβ,hsim',ht⟩:=expandRs_ok (n:=fr.rw.length) hsim (fun s hs=>List.all_eq_true.1 hdata s hs) hV (fun G hGm j hj=>by
       obtain⟨h5,h6⟩:=hG G hGm j hj;refine⟨h6,.inl (Nat.le_trans hs.kept.size h5),fun ho=>?_,fun j2 b2 hb2 ho2 hk2=>?_⟩
       ·have:j<w.heap.size:=by
         obtain⟨i',r,q,a1,a2,a3,a4⟩:=ho;exact hs.row_lt a1 a3 j a4
        omega
       ·change (if j2=i then some { b with cs:=l :: (expand .own m.r (RT.hd y) 0).1 } else big.bx j2)=some b2 at hb2
        have:j<w.heap.size:=by
         split at hb2
         ·rename_i e2;subst e2;exact hs.box_lt hbb hk2
         ·exact hs.box_lt hb2 hk2
        omega) (fun j h5 h6=>hfree.ρ j h5 h6)
      refine⟨g',⟨le,fun j _=>by rw[hβ],out⟩,(by simpa only[grow,more_nil,effB,effR] using hsim':Sim C (grow fr big (expandRs m.rs (RT.tl y) fr.rw.length).2 [] (.box i { b with cs:=l :: (expand .own m.r (RT.hd y) 0).1 })) g' a w'),fun av hav=>?_⟩
      cases hav;exact one_rel ht
     ·cases hcall
   ·cases hcall
  ·cases hcall
 ·cases hcall
theorem callN_ok (hE:EnvOK C.P E) (hC:CxOK C) (hs:Sim C big g a w) (hsub:Sub fr big) {m:NMdl} {vs:List (Bool×List Lf)} {us:List Value} (hvs:TupR C g vs us) {f:Nat} (hS:SoundN C.P f m)
  (o:Oper) (hrun:(execOp a.eval o).run C.P w=.ok (.enter f us.toArray) w) {rs':List Sh} {x:Option (RT rs')} {z0:Option (RT rs')} {fn:RT rs'→After} (hcall:callN E fr m vs=.callE rs' x z0 fn) {y:RT rs'} (hx:x=some y) (hfree:Free fr (fn y).nr (fn y).nb g) {K:Act→World→Prop} {Q:Exit→Act→World→Prop}
  (hK:∀ u w',Out C g a fr (fn y).nr (fn y).nb (grow fr big (fn y).nr (fn y).nb (fn y).ef) (some (fn y).v) u w'→K (a.put o.dst u) w'):o.wp C.P a w K Q:=by
 unfold callN at hcall;split at hcall
 ·rename_i i vs';cases hcond:(m.ps.all (fun p=>p.1==.ro)&&m.r.flat)
  ·rw[hcond] at hcall;cases hcall
  ·rw[hcond,cond_true] at hcall;simp only[Bool.and_eq_true] at hcond;obtain⟨hro,hflat⟩:=hcond;split at hcall
   ·rename_i xs aa h1 h3;cases hcall;obtain⟨u0,t0,rfl,hu0,ht0⟩:=hvs;have hul:LfR C g (.row i) u0:=hu0.to1;have hT0:=hsub.took;have hZR:=listOf_ok hs hT0 hul h1 (Z:=Rd C big (at? fr.rw) g) (fun k hk=>hk.elim .inl fun h=>.inr (.inl h));obtain⟨Fs,eF,hA,_,_,hrd⟩:=args_ok (g:=g) hE hC hs hsub (.inr rfl) ht0 hT0 (args1_ro hro h3) hT0 h3;unfold Oper.wp;rw[hrun,Oper.upon_enter];refine (hS w u0 (xs,aa) t0 Fs _ (hs.kept.tabs hC) hZR (fun j hj=>Rd.lt hC hs hT0 hj) hA y hx).mono fun e w' ⟨k,t,ee,hk,hM,hh⟩=>?_;subst ee;refine hK _ w' ?_;have hi:=hfree.β fr.bx.length (Nat.le_refl _) (by simp)
    have h':=hs.quiet hC hM;have hsim:=h'.newBox (i:=fr.bx.length) (b:=⟨true,.row i :: (expand .own m.r y 0).1⟩) (k:=k) hi (fun _=>rfl) (BoxOK.ofCells ⟨k,_,t,Sg.box_at _ _ _,hh,(LfsR.mono (Sg.le_box hi k) ⟨u0,_,rfl,hul,expand_flat .own m.r hflat y 0⟩),fun _=>.inl (Nat.le_trans hs.kept.size hk),fun e=>by cases e⟩) ⟨fun j b hb hjk=>by have:=hs.box_lt hb hjk;omega,fun _ j r q hr hm hq hF=>by have:=hs.row_lt hr hq k hF;omega⟩
    refine⟨g.box fr.bx.length k,fresh_box fr hi rfl,(by simpa only[grow,more_nil,more_one,effB,effR] using hsim:Sim C (grow fr big [] [⟨true,.row i :: (expand .own m.r y 0).1⟩] .pure) (g.box fr.bx.length k) a w'),fun av hav=>?_⟩
    cases hav;exact VR.of1 ⟨k,Sg.box_at _ _ _,rfl⟩
   ·cases hcall
 ·cases hcall
theorem callP_not {m:PMdl} {vs:List (Bool×List Lf)}:(∀ req v nr nb ef,callP E fr m vs≠.done req v nr nb ef)∧∀ m' o vs' rw q,callP E fr m vs≠.call m' o vs' rw q:=by
 unfold callP;constructor<;>intros<;>(repeat' split)<;>first | (intro h;cases h;done) | skip
 all_goals (generalize (_&&_&&_&&_)=b;cases b<;>simp only[cond_true,cond_false]<;>(repeat' split)<;>(intro h;cases h))
theorem callN_not {m:NMdl} {vs:List (Bool×List Lf)}:(∀ req v nr nb ef,callN E fr m vs≠.done req v nr nb ef)∧∀ m' o vs' rw q,callN E fr m vs≠.call m' o vs' rw q:=by
 unfold callN;constructor<;>intros<;>(repeat' split)<;>first | (intro h;cases h;done) | skip
 all_goals (generalize (_&&_)=b;cases b<;>simp only[cond_true,cond_false]<;>(repeat' split)<;>(intro h;cases h))
theorem flat_back {rw:List (Option RowE)} {n:Nat}:∀ {s:Sh},s.flat=true→∀ {ls:List Lf} {x:s.T} {r:List Lf},compress rw s ls=some (x,r)→ls=(expand .own s x n).1++r
 | .int k,_,ls,x,r,h=>by
  unfold compress at h;split at h
  ·split at h
   ·rename_i e;subst e;cases h;rfl
   ·cases h
  ·cases h
 | .bool,_,ls,x,r,h=>by
  unfold compress at h;split at h
  ·cases h;rfl
  ·cases h
 | .str,_,ls,x,r,h=>by
  unfold compress at h;split at h
  ·cases h;rfl
  ·cases h
 | .list _ _,hf,_,_,_,_=>by cases hf
 | .fn1 _ _,hf,_,_,_,_=>by cases hf
 | .fn2 _ _ _,hf,_,_,_,_=>by cases hf
 | .cons a b,hf,ls,x,r,h=>by
  simp only[Sh.flat,Bool.and_eq_true] at hf;unfold compress at h;split at h
  ·rename_i y l1 h1;split at h
   ·rename_i z l2 h2;cases h;rw[flat_back (n:=n) hf.1 h1,flat_back (n:=n+(expand .own a y n).2.length) hf.2 h2];simp[expand]
   ·cases h
  ·cases h
theorem callP_idle {m:PMdl} {vs:List (Bool×List Lf)} {rs':List Sh} {x z:Option (RT rs')} {f:RT rs'→After} (h:callP E fr m vs=.callE rs' x z f) {y:RT rs'} (hy:z=some y):(f y).nb=[]∧∃ i b,(f y).ef=.box i b∧at? fr.bx i=some b:=by
 unfold callP at h;split at h
 ·rename_i i vs';split at h
  ·rename_i b hb;split at h
   ·rename_i l cs hcs;cases hc:(b.own&&m.ps.all (fun p=>p.1==.ro)&&m.rs.all Sh.data&&m.r.flat)
    ·rw[hc] at h;cases h
    ·rw[hc,cond_true] at h;simp only[Bool.and_eq_true] at hc;split at h
     ·rename_i xs y0 a h1 h2 h3;cases h;cases hy;refine⟨rfl,i,_,rfl,?_⟩;have hw:cs=(expand .own m.r y0 0).1:=by
       unfold whole at h2;split at h2
       ·rename_i z hz;cases h2;have:=flat_back (n:=0) hc.2 hz;simpa using this
       ·cases h2
      have e:RT.hd (RT.mk (l:=m.rs) y0 (RT.dfl m.rs))=y0:=by
       obtain⟨e1,s1,r1,p1,rs1,F1⟩:=m;cases rs1<;>rfl
      rw[hb];show some b=some { b with cs:=l :: (expand .own m.r (RT.hd (RT.mk (l:=m.rs) y0 (RT.dfl m.rs))) 0).1 }
      rw[e,← hw,← hcs]
     ·cases h
   ·cases h
  ·cases h
 ·cases h
theorem stCall_ok (hE:EnvOK C.P E) (hC:CxOK C) (hs:Sim C big g a w) (hsub:Sub fr big) (hc:Holds a ch) (o:Oper) (c:Call) (ho:o.op=.call c) (x:Operand) (hx:c.callee=.value x) {Q:Exit→Act→World→Prop}:OpOK C g a w fr big o Q (stCall E fr ch x c.args.toList):=by
 have key:∀ (m:Mdl) (vs:List (Bool×List Lf)) (us:List Value) (f:Nat) (args:Array Value),TupR C g vs us→(∀ x Fs,(∀ k,hands m.ps Fs k→gN≤k)→Args C.P w m.ps x us Fs→Apart m.ps Fs→∀ y,m.F x=some y→Calls C.P f args w fun e w'=>∃ u,e=.returned u∧Post w m us Fs y u w') →
   (execOp a.eval o).run C.P w=.ok (.enter f args) w→OpOK C g a w fr big o Q (callTo E fr m vs):=by
  intro m vs us f args hvs hS hrun;cases hcall:callTo E fr m vs with
  | fail=>trivial
  | done req v nr nb ef=>exact absurd hcall callTo_not
  | call m' x' vs' rw q =>
   exact⟨fun y hy hfull hfree K hK=>callTo_ok hE hC hs hsub hvs hS o hrun hcall hy hfull hfree hK,fun y hy hmo hfree K hK=>callTo_mv hE hC hs hsub hvs hS o hrun hcall hy hmo hfree hK⟩
  | callE m' x' z' f=>exact absurd hcall callTo_not2
 have keyB:∀ (m:Mdl) (vs:List (Bool×List Lf)) (us:List Value) (f:Nat) (args:Array Value),TupR C g vs us→(∀ x Fs,(∀ k,hands m.ps Fs k→gN≤k)→Args C.P w m.ps x us Fs→Apart m.ps Fs→∀ y,m.F x=some y→Calls C.P f args w fun e w'=>∃ u,e=.returned u∧Post w m us Fs y u w') →
   (execOp a.eval o).run C.P w=.ok (.enter f args) w→OpOK C g a w fr big o Q (callB E fr m vs):=by
  intro m vs us f args hvs hS hrun;cases hcall:callB E fr m vs with
  | fail=>trivial
  | done req v nr nb ef=>exact absurd hcall (callB_not.1 _ _ _ _ _)
  | call m' x' vs' rw q=>exact absurd hcall (callB_not.2 _ _ _ _ _)
  | callE m' x' z' fn =>
   intro y hy _ K hK;exact callB_ok hE hC hs hsub hvs hS o hrun hcall hy hK
 have hs0:Same C.R C.w0 w:=⟨hs.kept.size,fun k hk=>hs.kept.block k (hC.R_lt k hk).1 (hC.R_lt k hk).2⟩;have post:∀ {m:Mdl} {us:List Value} {Fs:List FP} {r:Sh} (hm:m.rs=[r]) (hf:r.flat=true) {y:RT (outs m.ps++m.rs)} {cr:List Value} {w'':World} {z:RT m.rs},RC C.P r w'' (fun _=>False) (hm▸z:RT [r]) cr→Past w w''→(∀ K:RT m.rs→Prop,K z→Outs w'' m.ps m.rs us Fs y K)→Post w m us Fs y (pack r cr) w'':=by
  intro m us Fs r hm hf y cr w'' z hr hb hO;obtain⟨ps,rs,F⟩:=m;simp only at hm;subst hm;refine⟨[pack r cr],[fun _=>False],rfl,⟨CW.mono (show w.drawn≤w''.drawn from hb.drawn),hb.os,hb.tape,hb.output,hb.size,fun k hk _=>hb.block k hk⟩,hO _ ⟨⟨_,[],_,[],cr,rfl,rfl,rfl,RC.flatOC r hf hr,fun _ h=>h.elim,rfl,rfl⟩,?_⟩⟩
  intro G hG k hk;rcases List.mem_singleton.1 hG with rfl;exact hk.elim
 unfold stCall;split
 ·rename_i f caps vs h1 h2;split
  ·rename_i m hm;obtain⟨hS,hR⟩:=hE.fs f m hm;obtain⟨us,e,hcap⟩:=op1_rel (hs.sub hsub) hc h1;have hrun:(execOp a.eval o).run C.P w=.ok (.enter f (c.args.toList.map a.eval++us).toArray) w:=by
    have:=run_call_value (w:=w) hR o c ho hx e;simpa using this
   have k1:=key m _ _ f _ ((opls_rel (hs.sub hsub) hc h2).append (caps_tup hcap)) (fun x Fs hg hA hap y hy=>hS w x _ Fs (hs.kept.tabs hC) hg hA hap y hy) hrun;split
   ·exact keyB m _ _ f _ ((opls_rel (hs.sub hsub) hc h2).append (caps_tup hcap)) (fun x Fs hg hA hap y hy=>hS w x _ Fs (hs.kept.tabs hC) hg hA hap y hy) hrun
   ·exact k1
  ·split
   ·obtain⟨us,e,hcap⟩:=op1_rel (hs.sub hsub) hc h1;cases (hcap:us=[]);have hvs:=opls_rel (hs.sub hsub) hc h2;split
    ·rename_i m hm;obtain⟨hS,hR⟩:=hE.pf f m hm;have hrun:(execOp a.eval o).run C.P w=.ok (.enter f (c.args.toList.map a.eval).toArray) w:=by
      have:=run_call_value (w:=w) hR o c ho hx e;simpa using this
     cases hcall:callP E fr m vs with
     | fail=>trivial
     | done req v nr nb ef=>exact absurd hcall (callP_not.1 _ _ _ _ _)
     | call m' x' vs' rw q=>exact absurd hcall (callP_not.2 _ _ _ _ _)
     | callE rs' x' z' fn =>
      intro y hy hfree K hK;exact callP_ok hE hC hs hsub hvs hS o hrun hcall hy hfree hK
    ·split
     ·rename_i m hm;obtain⟨hS,hR⟩:=hE.nf f m hm;have hrun:(execOp a.eval o).run C.P w=.ok (.enter f (c.args.toList.map a.eval).toArray) w:=by
       have:=run_call_value (w:=w) hR o c ho hx e;simpa using this
      cases hcall:callN E fr m vs with
      | fail=>trivial
      | done req v nr nb ef=>exact absurd hcall (callN_not.1 _ _ _ _ _)
      | call m' x' vs' rw q=>exact absurd hcall (callN_not.2 _ _ _ _ _)
      | callE rs' x' z' fn =>
       intro y hy hfree K hK;exact callN_ok hE hC hs hsub hvs hS o hrun hcall hy hfree hK
     ·trivial
   ·trivial
 ·rename_i s r φ vs h1 h2;have hr:=op1_rel (hs.sub hsub) hc h1;obtain⟨hf,f,caps,e,hR,hcall⟩:=(hr:RC C.P (.fn1 s r) C.w0 C.R φ [a.eval x]);injection e with e;refine key _ _ _ f _ (opls_rel (hs.sub hsub) hc h2) (fun xx Fs _ hA hap y hy=>?_) (run_call_value (w:=w) hR o c ho hx e);obtain⟨u,us',F,Fs',e1,e2,hlt,⟨cs,eu,hrc⟩,hnil⟩:=hA;obtain⟨rfl,rfl⟩:=hnil;have ea:(([packB s.agg cs]:List Value)++caps.toList).toArray=#[pack s cs]++caps:=by simp[pack]
  rw[e1,eu,ea];refine (hcall w hs0 xx.1 cs F hlt hrc y hy).mono fun e' w'' ⟨cr,ee,hcr,hb⟩=>⟨_,ee,?_⟩;subst e2;exact post (m:=⟨[(.ro,s)],[r],fun x=>φ x.1⟩) rfl hf (z:=y) hcr hb (fun K hK=>hK)
 ·rename_i s t r φ vs h1 h2;have hr:=op1_rel (hs.sub hsub) hc h1;obtain⟨hf,f,caps,e,hR,hcall⟩:=(hr:RC C.P (.fn2 s t r) C.w0 C.R φ [a.eval x]);injection e with e;refine key _ _ _ f _ (opls_rel (hs.sub hsub) hc h2) (fun xx Fs _ hA hap y hy=>?_) (run_call_value (w:=w) hR o c ho hx e);obtain⟨u,us',F,Fs',e1,e2,hlt,⟨cs,eu,hrc⟩,u2,us2,F2,Fs2,e3,e4,hlt2,⟨cs2,eu2,hrc2⟩,hnil⟩:=hA;obtain⟨rfl,rfl⟩:=hnil;subst e3;have ea:(([packB s.agg cs,packB t.agg cs2]:List Value)++caps.toList).toArray=#[pack s cs,pack t cs2]++caps:=by simp[pack]
  rw[e1,eu,eu2,ea];refine (hcall w hs0 xx.1 cs F hlt hrc xx.2.1 cs2 F2 hlt2 hrc2 y hy).mono fun e' w'' ⟨cr,ee,hcr,hb⟩=>⟨_,ee,?_⟩;subst e4;subst e2;exact post (m:=⟨[(.ro,s),(.ro,t)],[r],fun x=>φ x.1 x.2.1⟩) rfl hf (z:=y) hcr hb (fun K hK=>hK)
 ·trivial
theorem ptrCall_idle {rs':List Sh} {x z:Option (RT rs')} {f:RT rs'→After} {o:Oper} (h:ptrCall E fr ch o=.callE rs' x z f) {y:RT rs'} (hy:z=some y):(f y).nb=[]∧∃ i b,(f y).ef=.box i b∧at? fr.bx i=some b:=by
 unfold ptrCall at h
 repeat' split at h
 all_goals first | (cases h;done) | exact callP_idle h hy
theorem ptrCall_ok (hE:EnvOK C.P E) (hC:CxOK C) (hs:Sim C big g a w) (hsub:Sub fr big) (hc:Holds a ch) (o:Oper) {Q:Exit→Act→World→Prop}:OpOK C g a w fr big o Q (ptrCall E fr ch o):=by
 unfold ptrCall;split
 ·rename_i c ho;split
  ·rename_i x hx;split
   ·rename_i f vs h1 h2;split
    ·rename_i m hm;obtain⟨us,e,hcap⟩:=op1_rel (hs.sub hsub) hc h1;cases (hcap:us=[]);have hvs:=opls_rel (hs.sub hsub) hc h2;obtain⟨hS,hR⟩:=hE.pf f m hm;have hrun:(execOp a.eval o).run C.P w=.ok (.enter f (c.args.toList.map a.eval).toArray) w:=by
      have:=run_call_value (w:=w) hR o c ho hx e;simpa using this
     cases hcall:callP E fr m vs with
     | fail=>trivial
     | done req v nr nb ef=>exact absurd hcall (callP_not.1 _ _ _ _ _)
     | call m' x' vs' rw q=>exact absurd hcall (callP_not.2 _ _ _ _ _)
     | callE rs' x' z' fn =>
      intro y hy hfree K hK;exact callP_ok hE hC hs hsub hvs hS o hrun hcall hy hfree hK
    ·trivial
   ·trivial
  ·trivial
 ·trivial
theorem step_ok (hE:EnvOK C.P E) (hC:CxOK C) (hs:Sim C big g a w) (hsub:Sub fr big) (hc:Holds a ch) (o:Oper) {Q:Exit→Act→World→Prop}:OpOK C g a w fr big o Q (step E fr ch o):=by
 obtain⟨dst,op,type,pos,after,guard⟩:=o;unfold step;cases op
 case call c =>
  simp only;cases hcal:c.callee with
  | value x=>exact stCall_ok hE hC hs hsub hc _ c rfl x hcal
  | builtin b =>
   cases b<;>simp only
   case len=>exact OpOK.ofGood (stLenM_ok hE hs hsub hc _ c rfl hcal)
   case append=>exact OpOK.ofGood (stAppend_ok hE hC hs hsub hc _ c rfl hcal)
   case copy=>exact OpOK.ofGood (stCopy_ok hE hC hs hsub hc _ c rfl hcal)
   case clear=>exact OpOK.ofGood (stClear_ok hE hC hs hsub hc _ c rfl hcal)
   case max=>exact OpOK.ofGood (stMax_ok hs hsub hc _ c rfl true hcal)
   case min=>exact OpOK.ofGood (stMax_ok hs hsub hc _ c rfl false hcal)
   all_goals trivial
  | invoke r m=>trivial
 case move x=>exact OpOK.ofGood (stMove_ok (E:=E) hs hsub hc ⟨dst,.move x,type,pos,after,guard⟩ x rfl)
 case assign x=>exact OpOK.ofGood (stMove_ok (E:=E) hs hsub hc ⟨dst,.assign x,type,pos,after,guard⟩ x rfl)
 case binOp op t x y p=>exact OpOK.ofGood (stBin_ok hE hs hsub hc _ op t x y p rfl)
 case unOp op t x=>exact OpOK.ofGood (stUn_ok hs hsub hc _ op t x rfl)
 case pick c x y=>exact OpOK.ofGood (stPick_ok hs hsub hc _ c x y rfl)
 case box t x=>exact OpOK.ofGood (stBox_ok hC hs hsub hc _ t x rfl)
 case alloc t=>exact OpOK.ofGood (stAlloc_ok hE hC hs _ t rfl)
 case nilCheck x=>exact OpOK.ofGood (stNil_ok hs hsub hc _ x rfl)
 case fieldAddr s x f=>exact OpOK.ofGood (stFieldAddr_ok hE hs hsub hc _ s x f rfl)
 case field t x f=>exact OpOK.ofGood (stField_ok hE hs hsub hc _ t x f rfl)
 case load t x=>exact OpOK.ofGood (stLoad_ok hE hs hsub hc _ t x rfl)
 case store t x y=>exact OpOK.ofGood (stStore_ok hE hC hs hsub hc _ t x y rfl)
 case indexAddr t x i=>exact OpOK.ofGood (stIndexAddr_ok hE hs hsub hc _ t x i rfl)
 case index t x i=>exact OpOK.ofGood (stIndex_ok hE hs hsub hc _ t x i rfl)
 case slice t x lo hi mx =>
  cases mx with
  | none=>exact OpOK.ofGood (stSlice_ok hE hs hsub hc _ t x lo hi rfl)
  | some _=>trivial
 case build t parts=>exact OpOK.ofGood (stBuild_ok hE hC hs hsub hc _ t parts rfl)
 case buildSlice t n parts=>exact OpOK.ofGood (stBuildSlice_ok hE hC hs hsub hc _ t n parts rfl)
 case makeSlice t x y=>exact OpOK.ofGood (stMake_ok hE hC hs hsub hc _ t x y rfl)
 case makeFunc f first captured=>exact OpOK.ofGood (stFunc_ok hs hsub hc _ f first captured rfl)
 case convert s t x=>exact OpOK.ofGood (stConvert_ok hE hs hsub hc _ s t x rfl)
 case makeMap t r=>exact OpOK.ofGood (stMakeMap_ok hE hC hs _ t r rfl)
 case lookup t x ix ok=>exact OpOK.ofGood (stLookup_ok hE hs hsub hc _ t x ix ok rfl)
 case mapUpdate t m k x=>exact OpOK.ofGood (stMapUpdate_run hE hC hs hsub hc ⟨dst,.mapUpdate t m k x,type,pos,after,guard⟩ t m k x rfl)
 case insert t m k x=>exact OpOK.ofGood (stMapUpdate_run hE hC hs hsub hc ⟨dst,.insert t m k x,type,pos,after,guard⟩ t m k x rfl)
 case extract x i=>exact OpOK.ofGood (stExtract_ok hs hsub hc _ x i rfl)
 all_goals trivial
end Go.Proofs.YtelgaemfnhnbmaaGreatDoor.X
