/- An operation, whatever it is. -/
import Derived.Test.YteheolldcpjkcaaGreatQzXAft
import Derived.Test.YteheolldcpjkcaaGreatQzXSt
set_option linter.unusedSimpArgs false
set_option linter.unusedVariables false
set_option linter.unusedSectionVars false
namespace Go.Proofs.YteheolldcpjkcaaGreat.X
open Go Go.RowKit
variable [CW]
variable {C:Cx} {fr:Fr} {big:FF} {g:Sg} {a:Act} {w w':World} {ch:List (Nat×Bool)} {E:Env}
theorem Sub.took (hsub:Sub fr big):AK none big.rw (at? fr.rw):=by
 refine⟨fun j r' hj=>.inl (hsub.rw j r' hj),fun j r p pa hj e=>.inl ⟨hsub.rw j r hj,fun r0 h0 _=>hsub.par j r p pa hj e r0 h0⟩⟩
theorem UB:∀ {vs:List (Bool×List Lf)} {us:List Value},Bu C g vs us→us.length=vs.length
 | [],_,h=>by cases h;rfl
 | _ :: _,_,⟨u,t,e,_,h⟩=>by subst e;simp[UB h]
theorem FH {vs:List (Bool×List Lf)} {us:List Value} (h:Bu C g vs us):AVR C g a (one vs) (FI us):=by
 have hl:=UB h
 match vs,us,hl with
 | [],[],_=>exact⟨[],rfl,rfl⟩
 | [(ag,cs)],[u],_ =>
  obtain⟨u',t,e,hv,ht⟩:=h;cases ht;cases e;exact hv
 | v1 :: v2 :: r,u1 :: u2 :: t,_=>exact⟨u1 :: u2 :: t,rfl,h⟩
theorem VO (hE:AA C.P E) (hC:AQ C) (hs:Sim C big g a w) (hsub:Sub fr big) {m:Mdl} {vs:List (Bool×List Lf)} {us:List Value} (hvs:Bu C g vs us) {f:Nat} {args:Array Value} (hS:∀ x Fs,(∀ k,hands m.ps Fs k→gN≤k)→Cu C.P w m.ps x us Fs→CX m.ps Fs→∀ y,m.F x=some y→Calls C.P f args w fun e w'=>∃ u,e=.returned u∧KT w m us Fs y u w')
  (o:Oper) (hrun:(execOp a.eval o).run C.P w=.ok (.enter f args) w) {m':Mdl} {x:Option (RT (AU m'.ps++m'.rs))} {vs':List (Bool×List Lf)} {rw1:List (Option Ab)} {quiet:Bool} (hcall:Cv E fr m vs=.call m' x vs' rw1 quiet) {y:RT (AU m'.ps++m'.rs)} (hx:x=some y)
  (hfull:quiet=false→fr.f=big) (hfree:KU fr (Ah fr m' vs' rw1 quiet y).2.1 [] g) {K:Act→World→Prop} {Q:Exit→Act→World→Prop}
  (hK:∀ u w',Out C g a fr (Ah fr m' vs' rw1 quiet y).2.1 [] (grow fr big (Ah fr m' vs' rw1 quiet y).2.1 [] (Ah fr m' vs' rw1 quiet y).2.2) (some (Ah fr m' vs' rw1 quiet y).1) u w'→K (a.put o.dst u) w'):o.wp C.P a w K Q:=by
 unfold Cv at hcall;split at hcall
 ·rename_i rw0 h1;split at hcall
  ·rename_i xs h2;cases hd:m.rs.all Sh.data
   ·rw[hd] at hcall;cases hcall
   ·rw[hd,cond_true] at hcall;cases hcall;have hdata:∀ s∈m.rs,s.data=true:=fun s hs=>AiL.1 hd s hs;have hT0:=hsub.took;have htab:Tab (at? fr.rw) g w:=hs.tab.took hT0;obtain⟨hT1,hlen⟩:=B3 (g:=g) (w:=w) (C:=C) hvs htab h1;obtain⟨Fs,eF,hA,hap,hh,hr⟩:=C2 (g:=g) hE hC hs hsub (.inr rfl) hvs hT0 h1 (hT0.trans hT1) h2;obtain⟨FL,eL,_,hapL,_,_⟩:=C2 (g:=g) hE hC hs hsub (T:=fun _=>True) (.inl fun _=>trivial) hvs hT0 h1 (hT0.trans hT1) h2;unfold Oper.wp;rw[hrun,Oper.upon_enter];refine (hS xs Fs (fun k hk=>hC.free (Own.zone hs ((hh k hk).1.took hT0)).1) hA hap y hx).mono fun e w' ⟨u,eu,vr,Gs,er,hM,hO⟩=>?_;subst eu;refine hK u w' ?_;have hO':=hO;rw[eF] at hO';have hB0:CC (hio m.ps FL) fr.f g w' rw1 rw1:=⟨fun j r h=>.inl h,fun j r h=>h,rfl⟩;obtain⟨hB,hV,hG⟩:=DV (w':=w') (hs.sub hsub) hs hT0 hvs (AK.refl _ _) h1 hO' (fun k hk=>by rw[eL];exact hk) hB0
    rw[← eF] at hG;have hgz:∀ k,DA m.ps Fs k→Own big.rw g k∧¬ Own (at? rw1) g k:=fun k hk=>by
     obtain⟨h3,h4⟩:=hh k (B2 hk);exact⟨h3.took hT0,h4⟩
    subst er
    -- the frame behind the call
    have fin:∀ (base:Nat→Option Ab),Sim C { big with rw:=base } g a w'→(∀ k,DA m.ps Fs k→¬ Own base g k)→(∀ k,Own base g k→k<w.heap.size) →
      Out C g a fr (Ah fr m vs rw1 (m.ps.all fun p=>p.1==.ro||p.1==.cap) y).2.1 [] { big with rw:=more fr.rw.length (Ah fr m vs rw1 (m.ps.all fun p=>p.1==.ro||p.1==.cap) y).2.1 base } (some (Ah fr m vs rw1 (m.ps.all fun p=>p.1==.ro||p.1==.cap) y).1) (FI vr) w':=by
     intro base hsim hgb hold;obtain⟨g',le,out,hβ,hsim',ht⟩:=BG (n:=fr.rw.length) hsim hdata hV (fun G hGm k hk=>by
      obtain⟨h3,h4⟩:=hG G hGm k hk;refine⟨h4,?_,fun ho=>?_,fun j b hb hbo hjk=>?_⟩
      ·rcases h3 with h3 | h3
       ·exact .inl (AiX hs.kept.size h3)
       ·exact (Own.zone hs (hgz k h3).1).1
      ·rcases h3 with h3 | h3
       ·exact absurd (hold k ho) (Ajn.2 h3)
       ·exact hgb k h3 ho
      ·rcases h3 with h3 | h3
       ·exact absurd (hs.box_lt hb hjk) (Ajn.2 h3)
       ·exact Own.notBox hs (hgz k h3).1 hb hbo hjk) (fun j h1 h2=>hfree.ρ j h1 h2)
     exact⟨g',⟨le,fun j _=>by rw[hβ],out⟩,hsim',fun av hav=>by cases hav;exact FH ht⟩
    cases hq:(m.ps.all fun p=>p.1==.ro||p.1==.cap) with
    | true =>
     have hro:∀ p∈m.ps,p.1=.cap∨p.1=.ro:=fun p hp=>by
      have:=AiL.1 hq p hp;simp only[Aj5,beq_iff_eq] at this;exact this.symm
     have hM':Av (fun _=>False) w w':=⟨hM.drawn,hM.os,hM.tape,hM.output,hM.size,fun k hk _=>hM.block k hk (DU hro Fs k)⟩;have:=fin big.rw (hs.quiet hC hM') (fun k hk=>absurd (B2 hk) (DU hro Fs k)) (fun k hk=>(Own.zone hs hk).2);rw[hq] at this;simpa only[grow,Ag,Bs,BL,Ah,cond_true] using this
    | false =>
     have hfb:=hfull hq;subst hfb;have hsim:=hs.afterCall hC hT1 hM (fun k hk=>hh k hk) hB.b hB.k;have:=fin (at? (K5 fr.rw m.ps vs y rw1).1) hsim (fun k hk ho=>?_) (fun k hk=>?_)
     ·rw[hq] at this;simpa only[grow,Ag,Bs,BL,Ah,cond_false] using this
     ·-- what was given isn't in a row that was put back
      obtain⟨j,r,q,hj,hm,hq',hF⟩:=ho;rcases hB.b j r hj with h3 | ⟨r0,q0,_,_,_,_,hq0,_,hV0⟩
      ·exact (hgz k hk).2 ⟨j,r,q,h3,hm,hq',hF⟩
      ·rw[hq'] at hq0;cases hq0;exact Ui hapL (hV0 k hF) (by rw[eL];rw[eF] at hk;exact CJ hk)
     ·obtain⟨j,r,q,hj,hm,hq',hF⟩:=hk;rcases hB.b j r hj with h3 | ⟨r0,q0,h3,_,_,_,_,_,_⟩
      ·exact hs.row_lt (hT1.mine h3 hm) hq' k hF
      ·exact hs.row_lt h3 hq' k hF
  ·cases hcall
 ·cases hcall
theorem VP (hE:AA C.P E) (hC:AQ C) (hs:Sim C big g a w) (hsub:Sub fr big) {m:Mdl} {vs:List (Bool×List Lf)} {us:List Value} (hvs:Bu C g vs us) {f:Nat} {args:Array Value} (hS:∀ x Fs,(∀ k,hands m.ps Fs k→gN≤k)→Cu C.P w m.ps x us Fs→CX m.ps Fs→∀ y,m.F x=some y→Calls C.P f args w fun e w'=>∃ u,e=.returned u∧KT w m us Fs y u w')
  (o:Oper) (hrun:(execOp a.eval o).run C.P w=.ok (.enter f args) w) {m':Mdl} {x:Option (RT (AU m'.ps++m'.rs))} {vs':List (Bool×List Lf)} {rw1:List (Option Ab)} {quiet:Bool} (hcall:Cv E fr m vs=.call m' x vs' rw1 quiet) {y:RT (AU m'.ps++m'.rs)} (hx:x=some y)
  (hmo:MD m'.ps=true) (hfree:KU fr (Ah fr m' vs' rw1 true y).2.1 [] g) {K:Act→World→Prop} {Q:Exit→Act→World→Prop}
  (hK:∀ u w',Out C g a fr (Ah fr m' vs' rw1 true y).2.1 [] (grow fr big (Ah fr m' vs' rw1 true y).2.1 [] (.gone (C9 fr.rw rw1))) (some (Ah fr m' vs' rw1 true y).1) u w'→K (a.put o.dst u) w'):o.wp C.P a w K Q:=by
 unfold Cv at hcall;split at hcall
 ·rename_i rw0 h1;split at hcall
  ·rename_i xs h2;cases hd:m.rs.all Sh.data
   ·rw[hd] at hcall;cases hcall
   ·rw[hd,cond_true] at hcall;cases hcall;have hdata:∀ s∈m.rs,s.data=true:=fun s hs=>AiL.1 hd s hs;have hT0:=hsub.took;have htab:Tab (at? fr.rw) g w:=hs.tab.took hT0;obtain⟨hT1,hlen⟩:=B3 (g:=g) (w:=w) (C:=C) hvs htab h1;obtain⟨Fs,eF,hA,hap,hh,hr⟩:=C2 (g:=g) hE hC hs hsub (.inr rfl) hvs hT0 h1 (hT0.trans hT1) h2;obtain⟨FL,eL,_,hapL,_,_⟩:=C2 (g:=g) hE hC hs hsub (T:=fun _=>True) (.inl fun _=>trivial) hvs hT0 h1 (hT0.trans hT1) h2;unfold Oper.wp;rw[hrun,Oper.upon_enter];refine (hS xs Fs (fun k hk=>hC.free (Own.zone hs ((hh k hk).1.took hT0)).1) hA hap y hx).mono fun e w' ⟨u,eu,vr,Gs,er,hM,hO⟩=>?_;subst eu;refine hK u w' ?_;have hO':=hO;rw[eF] at hO';have hB0:CC (hio m.ps FL) fr.f g w' rw1 rw1:=⟨fun j r h=>.inl h,fun j r h=>h,rfl⟩;obtain⟨hB,hV,hG⟩:=DV (w':=w') (hs.sub hsub) hs hT0 hvs (AK.refl _ _) h1 hO' (fun k hk=>by rw[eL];exact hk) hB0
    rw[← eF] at hG;have hgz:∀ k,DA m.ps Fs k→Own big.rw g k∧¬ Own (at? rw1) g k:=fun k hk=>by
     obtain⟨h3,h4⟩:=hh k (B2 hk);exact⟨h3.took hT0,h4⟩
    subst er
    -- the frame behind the call
    have fin:∀ (base:Nat→Option Ab),Sim C { big with rw:=base } g a w'→(∀ k,DA m.ps Fs k→¬ Own base g k)→(∀ k,Own base g k→k<w.heap.size) →
      Out C g a fr (Ah fr m vs rw1 true y).2.1 [] { big with rw:=more fr.rw.length (Ah fr m vs rw1 true y).2.1 base } (some (Ah fr m vs rw1 true y).1) (FI vr) w':=by
     intro base hsim hgb hold;obtain⟨g',le,out,hβ,hsim',ht⟩:=BG (n:=fr.rw.length) hsim hdata hV (fun G hGm k hk=>by
      obtain⟨h3,h4⟩:=hG G hGm k hk;refine⟨h4,?_,fun ho=>?_,fun j b hb hbo hjk=>?_⟩
      ·rcases h3 with h3 | h3
       ·exact .inl (AiX hs.kept.size h3)
       ·exact (Own.zone hs (hgz k h3).1).1
      ·rcases h3 with h3 | h3
       ·exact absurd (hold k ho) (Ajn.2 h3)
       ·exact hgb k h3 ho
      ·rcases h3 with h3 | h3
       ·exact absurd (hs.box_lt hb hjk) (Ajn.2 h3)
       ·exact Own.notBox hs (hgz k h3).1 hb hbo hjk) (fun j h1 h2=>hfree.ρ j h1 h2)
     exact⟨g',⟨le,fun j _=>by rw[hβ],out⟩,hsim',fun av hav=>by cases hav;exact FH ht⟩
    have hTb:=RV big.rw (C9 fr.rw rw1);have hD:∀ k,hands m.ps Fs k→Own big.rw g k∧¬ Own (fun n=>E9 (C9 fr.rw rw1) n (big.rw n)) g k:=fun k hk=>by
     obtain⟨⟨j,r,q,hj,hm,hq',hF⟩,hno⟩:=hh k hk;have hn:at? rw1 j=none:=by
      cases hx1:at? rw1 j with
      | none=>rfl
      | some r' =>
       exfalso;rcases hT1.row j r' hx1 with h3 | ⟨q0,_,h3,_⟩
       ·rw[hj] at h3;cases h3;exact hno ⟨j,r,q,hx1,hm,hq',hF⟩
       ·cases h3
     have hmem:j∈C9 fr.rw rw1:=Kt.2 ⟨⟨r,hj⟩,hn⟩;exact Own.gone hs.tab hTb (hsub.rw j r hj) hm hq' (fun r' hr'=>absurd rfl ((AR.1 hr').2 j hmem).1) hF
    have hsim:=hs.afterCall (V:=fun _=>False) hC hTb hM hD (fun j r h=>.inl h) (fun j r h=>h);have:=fin _ hsim (fun k hk=>(hD k (B2 hk)).2) (fun k hk=>by
     obtain⟨j,r,q,hj,hm,hq',hF⟩:=hk;exact hs.row_lt (AR.1 hj).1 hq' k hF)
    simpa only[grow,Ag,Bs,BL,Ah,cond_true] using this
  ·cases hcall
 ·cases hcall
theorem Dk:∀ (ps:List (PM×Sh)) (k:Nat),¬ hands ps (ps.map fun _ _=>False) k∧¬ reads ps (ps.map fun _ _=>False) k
 | [],k=>⟨fun h=>h.elim,fun h=>h.elim⟩
 | (m,s) :: ps,k=>by
  obtain⟨h1,h2⟩:=Dk ps k;exact⟨fun h=>h.elim (fun h=>h.2.elim) h1,fun h=>h.elim (fun h=>h.2.elim) h2⟩
theorem KC:∀ (ps:List (PM×Sh)),CX ps (ps.map fun _ _=>False)
 | []=>trivial
 | (m,s) :: ps=>⟨fun k h=>h.elim,KC ps⟩
theorem Mj (hE:AA C.P E) (hC:AQ C) (hs:Sim C big g a w) (hsub:Sub fr big):∀ {ps:List (PM×Sh)} {vs:List (Bool×List Lf)} {us:List Value} {rc:List (Option Ab)} {xs:AT ps},ps.all (fun p=>p.1==.ro&&p.2.flat)=true→Bu C g vs us→BW E fr fr.rw ps vs rc=some xs→Cu C.P w ps xs us (ps.map fun _ _=>False)
 | [],[],_,_,_,_,hv,_=>⟨hv,rfl⟩
 | [],_ :: _,_,_,_,_,_,h=>by simp[BW] at h
 | _ :: _,[],_,_,_,_,_,h=>by simp[BW] at h
 | (m,s) :: ps,(ag,cs) :: vs,us,rc,xs,hp,⟨u,t,e,⟨us',eu,hl,_⟩,ht⟩,h=>by
  subst e;simp only[AjO,AiG,beq_iff_eq] at hp;obtain⟨⟨rfl,hf⟩,hp⟩:=hp;simp only[BW] at h;cases hag:s.agg==ag
  ·rw[hag] at h;cases h
  ·rw[hag,cond_true] at h;split at h
   ·rename_i x xs' h1 h2;cases h;have hr:=PO hE hC hs hsub hsub.took h1 hl;refine⟨u,t,fun _=>False,_,rfl,rfl,fun _ h=>h.elim,⟨us',by rw[eu,beq_iff_eq.1 hag],RC.flat s hf hr⟩,Mj hE hC hs hsub hp ht h2⟩
   ·cases h
theorem Qm {w':World} {rs:List Sh}:∀ (ps:List (PM×Sh)) {t:List Value} {Fs:List FP} (hro:ps.all (fun p=>p.1==.ro&&p.2.flat)=true) (he:AU ps++rs=rs) {y:RT (AU ps++rs)} {Kx:RT rs→Prop},P2 w' ps rs t Fs y Kx→Kx (cast (congrArg RT he) y)
 | [],t,Fs,_,he,y,Kx,h=>h
 | (m,s) :: ps,t,Fs,hro,he,y,Kx,h=>by
  simp only[AjO,AiG,beq_iff_eq] at hro;obtain⟨⟨rfl,_⟩,hro⟩:=hro
  match t,Fs,h with
  | _ :: t,_ :: Fs,h=>exact Qm ps (t:=t) (Fs:=Fs) hro he (y:=y) h
theorem Mk:∀ {ps:List (PM×Sh)},ps.all (fun p=>p.1==.ro&&p.2.flat)=true→AU ps=[]
 | [],_=>rfl
 | (m,s) :: ps,h=>by
  simp only[AjO,AiG,beq_iff_eq] at h;obtain⟨⟨rfl,_⟩,h⟩:=h;exact Mk (ps:=ps) h
theorem Ml {w':World}:∀ {rs:List Sh} {z:RT rs} {vr:List Value} {Gs:List FP} {n:Nat},rs.all Sh.flat=true→KS w' rs z vr Gs→Bu C g (Al rs z n).1 vr
 | [],_,_,_,_,_,h=>h.1
 | s :: rs,z,vr,Gs,n,hf,⟨u,us',F,Fs',cs,e1,e2,eu,hO,_,hV⟩=>by
  simp only[AjO,AiG] at hf;subst e1;have hc:cs=cellsF s (RT.hd z):=RC.cellsF (P:=C.P) s hf.1 (OC.read s hO);refine⟨u,us',rfl,⟨cs,eu,?_,fun hag=>?_⟩,Ml hf.2 hV⟩
  ·rw[hc];exact Cl .own s hf.1 _ _
  ·rw[← (Cl (C:=C) (g:=g) .own s hf.1 (RT.hd z) n).len,Bv s hf.1,Sh.n_one hag]
theorem R1 {s:Sh}:∀ {off n:Nat} {u:Sh} {f:s.T→u.T} {gg:s.T→u.T→s.T},Dm s off n=some ⟨u,f,gg⟩→∀ {w:World} {F:FP} {x cs},OC s w F x cs →
  ∃ G:FP,(∀ k,G k→F k)∧OC u w G (f x) ((cs.drop off).take n)∧∀ {w':World} {y},(∀ k,F k→¬ G k→w'.heap[k]? = w.heap[k]?)→OC u w' G y ((cs.drop off).take n)→OC s w' F (gg x y) cs:=by
 induction s with
 | cons a b iha ihb =>
  intro off n u f gg h w F x cs hO;have hl0:=OC.len _ hO;simp only[Dm] at h;cases h1:(Nat.beq off 0&&Nat.beq n (a.n+b.n))
  ·rw[h1,cond_false] at h;cases h2:(Nat.beq off 0&&Nat.beq n a.n)
   ·rw[h2,cond_false] at h;cases h3:Nat.ble a.n off
    ·rw[h3,cond_false] at h;have hlt:off<a.n:=by
      rcases AjA off a.n with hh | hh
      ·exact hh
      ·rw[AkS hh] at h3;cases h3
     split at h
     ·rename_i t f' g' hb;cases h;obtain⟨hn,hle,_⟩:=G7 hb;obtain⟨c1,c2,rfl,G,H,hG,hH,hd,o1,o2⟩:=hO;have l1:c1.length=a.n:=OC.len a o1;have e:((c1++c2).drop off).take n=(c1.drop off).take n:=by
       rw[Akf (by omega),Ajq (by rw[AkU];omega)]
      obtain⟨G',hG',p1,p2⟩:=iha hb o1;rw[e];refine⟨G',fun k hk=>hG k (hG' k hk),p1,fun hk hy=>⟨c1,c2,rfl,G,H,hG,hH,hd,p2 (fun k h1 h2=>hk k (hG k h1) h2) hy,OC.same b (fun k h1=>hk k (hH k h1) fun h2=>hd k (hG' k h2) h1) o2⟩⟩
     ·cases h
    ·rw[h3,cond_true] at h;have hge:a.n≤off:=AkT h3;split at h
     ·rename_i t f' g' hb;cases h;obtain⟨c1,c2,rfl,G,H,hG,hH,hd,o1,o2⟩:=hO;have l1:c1.length=a.n:=OC.len a o1;have e:(c1++c2).drop off=c2.drop (off-a.n):=by
       rw[Ajz,Ajh (by omega),Ai3,l1]
      obtain⟨G',hG',p1,p2⟩:=ihb hb o2;rw[e];refine⟨G',fun k hk=>hH k (hG' k hk),p1,fun hk hy=>⟨c1,c2,rfl,G,H,hG,hH,hd,OC.same a (fun k h1=>hk k (hG k h1) fun h2=>hd k h1 (hG' k h2)) o1,p2 (fun k h1 h2=>hk k (hH k h1) h2) hy⟩⟩
     ·cases h
   ·rw[h2] at h;cases h;simp only[AiG] at h2;have e0:off=0:=AiH h2.1;have e:n=a.n:=AiH h2.2;subst e0;obtain⟨c1,c2,rfl,G,H,hG,hH,hd,o1,o2⟩:=hO;have e':((c1++c2).drop 0).take n=c1:=by rw[AiR,e,← OC.len a o1,Akv]
    rw[e'];exact⟨G,hG,o1,fun hk hy=>⟨c1,c2,rfl,G,H,hG,hH,hd,hy,OC.same b (fun k h1=>hk k (hH k h1) fun h2=>hd k h2 h1) o2⟩⟩
  ·rw[h1] at h;cases h;simp only[AiG] at h1;have e0:off=0:=AiH h1.1;have e:n=a.n+b.n:=AiH h1.2;subst e0;have e':(cs.drop 0).take n=cs:=by rw[AiR,Ai2 (by rw[hl0,e];exact AiK _)]
   rw[e'];exact⟨F,fun k hk=>hk,hO,fun _ hy=>hy⟩
 | _ =>
  intro off n u f gg h w F x cs hO;have hl0:=OC.len _ hO;simp only[Dm] at h;cases h1:(Nat.beq off 0&&Nat.beq n 1)
  ·rw[h1] at h;cases h
  ·rw[h1] at h;cases h;simp only[AiG] at h1;have e0:off=0:=AiH h1.1;have e:n=1:=AiH h1.2;subst e0;have e':(cs.drop 0).take n=cs:=by
    rw[AiR,Ai2 (by rw[hl0,e];simp[Sh.n])]
   rw[e'];exact⟨F,fun k hk=>hk,hO,fun _ hy=>hy⟩
theorem Zr (hE:AA C.P E) (hC:AQ C) (hs:Sim C big g a w) (hsub:Sub fr big) {m:Mdl} {vs:List (Bool×List Lf)} {us:List Value} (hvs:Bu C g vs us) {f:Nat} {args:Array Value} (hS:∀ x Fs,(∀ k,hands m.ps Fs k→gN≤k)→Cu C.P w m.ps x us Fs→CX m.ps Fs→∀ y,m.F x=some y→Calls C.P f args w fun e w'=>∃ u,e=.returned u∧KT w m us Fs y u w')
  (o:Oper) (hrun:(execOp a.eval o).run C.P w=.ok (.enter f args) w) {rs':List Sh} {x:Option (RT rs')} {z0:Option (RT rs')} {fn:RT rs'→N8} (hcall:HV E fr m vs=.callE rs' x z0 fn) {y:RT rs'} (hx:x=some y) {K:Act→World→Prop} {Q:Exit→Act→World→Prop}
  (hK:∀ u w',Out C g a fr (fn y).nr (fn y).nb (grow fr big (fn y).nr (fn y).nb (fn y).ef) (some (fn y).v) u w'→K (a.put o.dst u) w'):o.wp C.P a w K Q:=by
 unfold HV at hcall;split at hcall
 ·rename_i n vs';split at hcall
  ·rename_i q hq0;split at hcall
   ·rename_i p j off hqm;split at hcall
    ·rename_i r hr0;obtain⟨re,rsh,rxs,rm⟩:=r;cases hcond:(rm.mine&&m.rs.all Sh.flat&&m.ps.tail.all (fun p=>p.1==.ro&&p.2.flat))
     ·simp only[hcond] at hcall;cases hcall
     ·simp only[hcond,cond_true] at hcall;simp only[AiG] at hcond;obtain⟨⟨hm,hflat⟩,hro⟩:=hcond;split at hcall
      case h_2=>cases hcall
      rename_i u f gg hsb;split at hcall
      ·rename_i hsh;subst hsh;split at hcall
       ·rename_i h1;split at hcall
        ·rename_i h2;split at hcall
         ·rename_i aa ha2;obtain⟨mps,mrs,mF⟩:=m;simp only at h1 h2 hflat hro ha2;obtain⟨ps',rfl⟩:∃ ps',mps=(.io,.list q.e q.s) :: ps':=⟨_,h1⟩;cases hcall;simp only[List.tail_cons] at hro ha2;obtain⟨u,t,rfl,hu,ht⟩:=hvs;have hu:=hu.to1
          -- the row, and the one that it lies in
          obtain⟨qn,A0,n0,c0,hqn,hqv,_,_,hZ⟩:=hs.rows n q (hsub.rw _ _ hq0);rw[BC,hqm] at hZ;obtain⟨_,r',q',hr',hmi',hq',hFq,hcellq⟩:=hZ;have hbp:=hsub.rw _ _ hr0;rw[hbp] at hr';cases hr';obtain⟨A,nn,cc,hqv',hj0,hjn,hoff,hcell⟩:=hcellq j off rfl;have hO:=((hs.rows p _ hbp).mine hm hq').1;obtain⟨css,how,hlen,hcl,hblk,G,hG,hd,hMm⟩:=id hO;simp only at hlen hMm how;obtain⟨A1,c1,e1,_⟩:=Be how;rw[hqv'] at e1;injection e1 with e1 e2 _;have hjl:j.toNat<rxs.length:=by omega
          have hjc:j.toNat<css.length:=by omega
          have hgx:rxs[j.toNat]? = some rxs[j.toNat]:=AiI hjl;have hgc:css[j.toNat]? = some css[j.toNat]:=AiI hjc;obtain⟨Gp,hGp,hOp,hback⟩:=R1 hsb (hMm _ _ _ hgx hgc);obtain⟨v',ecs,hOv⟩:=hOp;have hev:(css[j.toNat])[off]? = some v':=by
           have h0:((css[j.toNat].drop off).take 1)[0]? = some v':=by rw[ecs];rfl
           rw[Ai6,Ajm] at h0;simpa using h0
          -- the element is the slice that is handed over
          have hcv:v'=qn.v:=by
           obtain⟨gb,hgb⟩:∃ gb,q'.v.ownBlock=some gb:=⟨A.block,by rw[hqv'];rfl⟩
           rcases how.2 with ⟨e3,_⟩ | ⟨gb,cap,cur,e3,_⟩
           ·rw[hqv'] at e3;cases e3
           ·have hcs:=how.cells (g:=gb) (by rw[e3];rfl) _ _ (CO (fun d hd=>(hcl d hd).1) hgc off v' hev)
            rw[hqv'] at e3;injection e3 with e3 _ _;injection e3 with e3;subst e3;have hcs:w.cell? ((⟨gb,0,none⟩:Addr).add (j.toNat*rsh.n+off))=some v':=hcs;rw[hcs] at hcell;exact Option.some.inj hcell
          obtain⟨qq,A2,n2,c2,hqq,hqv2,hu2⟩:=hu;rw[hqn] at hqq;cases hqq;have huv:u=v':=by rw[hcv,hqv2,hu2]
          have hgd:rxs.getD j.toNat rsh.dfl=rxs[j.toNat]:=by rw[AiZ,hgx];rfl
          have hA:=Mj hE hC hs hsub hro ht ha2;have hAA:Cu C.P w ((.io,.list q.e q.s) :: ps') (f (rxs.getD j.toNat rsh.dfl),aa) (u :: t) (Gp :: ps'.map fun _ _=>False):=by
           refine⟨u,t,Gp,_,rfl,rfl,fun k hk=>hs.row_lt hbp hq' k (hG _ k (hGp k hk)).1,⟨[v'],by rw[huv];rfl,v',rfl,?_⟩,hA⟩
           show Cb _ _ _ _ _ _ _;rw[hgd];exact hOv
          have hap:CX ((.io,.list q.e q.s) :: ps') (Gp :: ps'.map fun _ _=>False):=⟨fun k _=>⟨(Dk ps' k).1,fun _=>(Dk ps' k).2⟩,KC ps'⟩;unfold Oper.wp;rw[hrun,Oper.upon_enter];have hgn:∀ k,hands ((PM.io,Sh.list q.e q.s) :: ps') (Gp :: ps'.map fun _ _=>False) k→gN≤k:=fun k hk=>Or.elim hk (fun h=>hC.free (((hs.rows p _ hbp).mine hm hq').2 k (hG _ k (hGp k h.2)).1)) fun h=>absurd h (Dk ps' k).1;refine (hS _ _ hgn hAA hap y hx).mono fun e w' ⟨ur,eu,vr,Gs,er,hMv,hOut⟩=>?_;subst eu;refine hK ur w' ?_;obtain⟨⟨cs',ecs',v2,ev2,hO2⟩,hOut2⟩:=hOut;have e5:AU ps'++mrs=mrs:=by rw[Mk hro];rfl
          have hV:=Qm ps' hro e5 hOut2;have hv2:v2=v':=by
           subst ev2;have:u=v2:=ecs';rw[← this,huv]
          subst hv2;have hM2:Av Gp w w':=⟨hMv.drawn,hMv.os,hMv.tape,hMv.output,hMv.size,fun k hk hn=>hMv.block k hk fun hh=>hh.elim (fun h=>hn h.2) fun h=>(Dk ps' k).1 h⟩
          -- the parts of what came back
          have hhd:RT.hd (l:=mrs) (cast (congrArg RT h2) y)=RT.hd (l:=AU ps'++mrs) y:=by
           have gen:∀ (l:List Sh) (h:(Sh.list q.e q.s :: l)=Sh.list q.e q.s :: mrs) (y:RT (Sh.list q.e q.s :: l)),RT.hd (l:=mrs) (cast (congrArg RT h) y)=RT.hd (l:=l) y:=by
            intro l h y;cases h;rfl
           exact gen _ h2 y
          have htl:RT.tl (l:=mrs) (cast (congrArg RT h2) y)=cast (congrArg RT e5) (RT.tl (l:=AU ps'++mrs) y):=by
           have gen:∀ (l:List Sh) (h:(Sh.list q.e q.s :: l)=Sh.list q.e q.s :: mrs) (h':l=mrs) (y:RT (Sh.list q.e q.s :: l)),RT.tl (l:=mrs) (cast (congrArg RT h) y)=cast (congrArg RT h') (RT.tl (l:=l) y):=by
            intro l h h' y;subst h';rfl
           exact gen _ h2 e5 y
          have hnew:A5 re rsh w' q'.F q'.v (rxs.set j.toNat (gg (rxs.getD j.toNat rsh.dfl) (RT.hd (l:=mrs) (cast (congrArg RT h2) y)))):=by
           have hkeep:∀ k,q'.F k→¬ Gp k→w'.heap[k]? = w.heap[k]?:=fun k hk hn=>hM2.block k (hs.row_lt hbp hq' k hk) hn;refine⟨css,?_,by rw[Ajd];exact hlen,hcl,hblk,G,hG,hd,fun i x c hxi hci=>?_⟩
           ·rw[Ajd];refine⟨how.1,?_⟩;rcases how.2 with h0 | ⟨gb,cap,cur,e3,hb0,hh,rest⟩
            ·exact .inl h0
            ·refine .inr ⟨gb,cap,cur,e3,hb0,?_,rest⟩;have hob:q'.v.ownBlock=some gb:=by rw[e3];rfl
             rw[hkeep gb (hblk gb hob) fun hg=>(hG _ _ (hGp _ hg)).2 hob];exact hh
           ·by_cases hij:i=j.toNat
            ·subst hij;rw[AjI hjl] at hxi;cases hxi;rw[hgc] at hci;cases hci;rw[hhd,hgd];exact hback (fun k hk hn=>hkeep k (hG _ k hk).1 hn) ⟨v2,ecs,hO2⟩
            ·rw[Aj7 (fun e=>hij e.symm)] at hxi;exact OC.same _ (fun k hk=>hkeep k (hG i k hk).1 fun hg=>hd i _ k hij hk (hGp k hg)) (hMm i x c hxi hci)
          have hsim:=hs.setRow hC hbp (r':=⟨re,rsh,rxs.set j.toNat (gg (rxs.getD j.toNat rsh.dfl) (RT.hd (l:=mrs) (cast (congrArg RT h2) y))),rm⟩) hm hq' rfl rfl hM2 (fun k hk=>(hG _ k (hGp k hk)).1) hnew (C6 hbp).1 (C6 hbp).2;refine⟨g,⟨Sg.Le.refl g,fun _ _=>rfl,fun _ _=>rfl⟩,(by simpa only[grow,Ag,Bs,BL] using hsim:Sim C (grow fr big [] [] (.set p re rsh (rxs.set j.toNat (gg (rxs.getD j.toNat rsh.dfl) (RT.hd (l:=mrs) (cast (congrArg RT h2) y)))))) g a w'),fun av hav=>?_⟩
          cases hav;rw[er];refine FH ?_;rw[htl];exact Ml hflat hV.1
         ·cases hcall
        ·cases hcall
       ·cases hcall
      ·cases hcall
    ·cases hcall
   ·cases hcall
  ·cases hcall
 ·cases hcall
theorem Mm {m:Mdl} {vs:List (Bool×List Lf)}:(∀ req v nr nb ef,HV E fr m vs≠.done req v nr nb ef)∧∀ m' o vs' rw q,HV E fr m vs≠.call m' o vs' rw q:=by
 unfold HV;constructor<;>intros<;>(repeat' split)<;>first | (intro h;cases h;done) | skip
 all_goals (generalize (Md.mine _&&_&&_)=b;cases b<;>simp only[cond_true,cond_false]<;>(repeat' split)<;>(intro h;cases h))
def BR (C:Cx) (g:Sg) (a:Act) (w:World) (fr:Fr) (big:FF) (o:Oper) (Q:Exit→Act→World→Prop):Res→Prop
 | .fail=>True
 | .done req v nr nb ef=>req=true→(ef.isTab=true→fr.f=big)→KU fr nr nb g→∀ K:Act→World→Prop,(∀ u w',Out C g a fr nr nb (grow fr big nr nb ef) v u w'→K (a.put o.dst u) w')→o.wp C.P a w K Q
 | .call m x vs rw quiet=>(∀ y,x=some y→(quiet=false→fr.f=big)→KU fr (Ah fr m vs rw quiet y).2.1 [] g →
   ∀ K:Act→World→Prop,(∀ u w',Out C g a fr (Ah fr m vs rw quiet y).2.1 [] (grow fr big (Ah fr m vs rw quiet y).2.1 [] (Ah fr m vs rw quiet y).2.2) (some (Ah fr m vs rw quiet y).1) u w'→K (a.put o.dst u) w')→o.wp C.P a w K Q) ∧
   ∀ y,x=some y→MD m.ps=true→KU fr (Ah fr m vs rw true y).2.1 [] g →
   ∀ K:Act→World→Prop,(∀ u w',Out C g a fr (Ah fr m vs rw true y).2.1 [] (grow fr big (Ah fr m vs rw true y).2.1 [] (.gone (C9 fr.rw rw))) (some (Ah fr m vs rw true y).1) u w'→K (a.put o.dst u) w')→o.wp C.P a w K Q
 | .callE _ x z f=>∀ y,x=some y→KU fr (f y).nr (f y).nb g→∀ K:Act→World→Prop,(∀ u w',Out C g a fr (f y).nr (f y).nb (grow fr big (f y).nr (f y).nb (f y).ef) (some (f y).v) u w'→K (a.put o.dst u) w')→o.wp C.P a w K Q
theorem BR.ofGood {o:Oper} {Q:Exit→Act→World→Prop} {r:Res} (h:AJ C g a fr big ((execOp a.eval o).run C.P w) r):BR C g a w fr big o Q r:=by
 cases r with
 | fail=>trivial
 | done req v nr nb ef =>
  intro hreq hfull hfree K hK;obtain⟨n,u,w',hr,hn,hO⟩:=h hreq hfull hfree;unfold Oper.wp;rw[hr];rcases hn with rfl | ⟨rfl,rfl⟩
  ·exact hK u w' hO
  ·exact hK undef w' hO
 | call m x vs rw q=>exact h.elim
 | callE m x z f=>exact h.elim
theorem Bu.append:∀ {vs ws:List (Bool×List Lf)} {us ts:List Value},Bu C g vs us→Bu C g ws ts→Bu C g (vs++ws) (us++ts)
 | [],_,_,_,h,k=>by cases h;exact k
 | _ :: _,_,_,_,⟨u,t,e,hv,h⟩,k=>by subst e;exact⟨u,_,rfl,hv,Bu.append h k⟩
theorem KD:∀ {bs:List Nat} {us:List Value},Fh g.β bs us→Bu C g (bs.map fun b=>(false,[Lf.box b 0])) us
 | [],_,h=>by cases h;rfl
 | b :: bs,_,⟨k,r,e,hk,h⟩=>⟨_,r,e,VR.of1 ⟨k,hk,rfl⟩,KD h⟩
theorem BD {P:Program} {f:Nat} (hR:BZ P f) (o:Oper) (c:Call) (ho:o.op=.call c) {x:Operand} (hx:c.callee=.value x) {caps:Array Value} (hv:a.eval x=.func (.func f) #[] caps):(execOp a.eval o).run P w=.ok (.enter f ((c.args.toList.map a.eval)++caps.toList).toArray) w:=by
 obtain⟨fn,hf,hb,hn⟩:=hR;have hb':fn.body.isNone=false:=by cases h:fn.body<;>simp_all
 have e:(((c.args.toList.map a.eval)++caps.toList).toArray)=c.args.map a.eval++caps:=by
  rw[← Akz];simp
 simp only[execOp,ho,resolve,hx,hv,Deferred.ofValue,AiN,Ai4,AiJ,invoke,callFunc,run_program,hf,hn,hb',Bool.false_eq_true,if_false,e,Array.empty_append]
theorem R2 {m:Mdl} {vs:List (Bool×List Lf)} {req v nr nb ef}:Cv E fr m vs≠.done req v nr nb ef:=by
 unfold Cv;split
 ·split
  ·cases m.rs.all Sh.data<;>simp
  ·simp
 ·simp
theorem Qn {m:Mdl} {vs:List (Bool×List Lf)} {rs' o z f}:Cv E fr m vs≠.callE rs' o z f:=by
 unfold Cv;split
 ·split
  ·cases m.rs.all Sh.data<;>simp
  ·simp
 ·simp
theorem KE:∀ {ps:List (PM×Sh)} {vs:List (Bool×List Lf)} {rw rc:List (Option Ab)} {xs:AT ps},ps.all (fun p=>p.1==.ro)=true→BW E fr rw ps vs rc=some xs→BB ps vs rc=some rc
 | [],[],_,_,_,_,_=>rfl
 | [],_ :: _,_,_,_,_,h=>by simp[BW] at h
 | _ :: _,[],_,_,_,_,h=>by simp[BW] at h
 | (m,s) :: ps,(ag,cs) :: vs,rw,rc,xs,hp,h=>by
  simp only[AjO,AiG,beq_iff_eq] at hp;obtain⟨hm,hp⟩:=hp;subst hm;simp only[BW] at h;cases hb:(s.agg==ag)
  ·rw[hb] at h;cases h
  ·rw[hb,cond_true] at h;split at h
   ·rename_i x xs' h1 h2;show BB ps vs rc=some rc;exact KE hp h2
   ·cases h
theorem Mn:∀ {ps:List (PM×Sh)} {Fs:List FP} {F:FP} {k:Nat},ps.all (fun p=>p.1==.ro)=true→Fs.length=ps.length→F∈Fs→F k→reads ps Fs k
 | [],Fs,F,k,_,hl,hF,_=>by
  have:Fs=[]:=Akd.1 hl;subst this;cases hF
 | (m,s) :: ps,[],F,k,_,hl,hF,_=>by cases hF
 | (m,s) :: ps,G :: Fs,F,k,hp,hl,hF,hk=>by
  simp only[AjO,AiG,beq_iff_eq] at hp;rcases AiS.1 hF with e | hF
  ·exact .inl ⟨by rw[hp.1];rfl,e▸hk⟩
  ·exact .inr (Mn hp.2 (by simpa using hl) hF hk)
theorem Qo {P:Program} {w:World}:∀ {ps:List (PM×Sh)} {x:AT ps} {us:List Value} {Fs:List FP},Cu P w ps x us Fs→Fs.length=ps.length
 | [],_,_,_,⟨_,h2⟩=>by subst h2;rfl
 | _ :: _,_,_,_,⟨_,_,_,_,_,e2,_,_,h⟩=>by subst e2;simp[Qo h]
theorem Sim.dropBox (h:Sim C big g a w) (i:Nat):Sim C { big with bx:=fun j=>if j=i then none else big.bx j } g a w:=by
 have old:∀ j b,(if j=i then none else big.bx j)=some b→big.bx j=some b:=fun j b hb=>by
  split at hb
  ·cases hb
  ·exact hb
 exact { h with boxes:=fun j b hb=>h.boxes j b (old j b hb),bdisj:=fun j j' b b' k h1 h2=>h.bdisj j j' b b' k (old j b h1) (old j' b' h2),rbox:=fun j r q j' b k h1 m1 hq hb=>h.rbox j r q j' b k h1 m1 hq (old j' b hb) }
theorem Sub.dropBox (h:Sub fr big) (i:Nat):Sub { fr with bx:=AC fr.bx i none } { big with bx:=fun j=>if j=i then none else big.bx j }:=by
 refine { h with bx:=fun j b hb=>?_ }
 change at? (AC fr.bx i none) j=some b at hb;rw[Ay] at hb;show (if j=i then none else big.bx j)=some b;split at hb
 ·cases hb
 ·rename_i hn;by_cases e:j=i
  ·subst e;have:=AM hb;exact absurd ⟨rfl,this⟩ hn
  ·rw[if_neg e];exact h.bx j b hb
theorem Zs (hE:AA C.P E) (hC:AQ C) (hs:Sim C big g a w) (hsub:Sub fr big) {m:N6} {vs:List (Bool×List Lf)} {us:List Value} (hvs:Bu C g vs us) {f:Nat} (hS:Kf C.P f m)
  (o:Oper) (hrun:(execOp a.eval o).run C.P w=.ok (.enter f us.toArray) w) {rs':List Sh} {x:Option (RT rs')} {z0:Option (RT rs')} {fn:RT rs'→N8} (hcall:I5 E fr m vs=.callE rs' x z0 fn) {y:RT rs'} (hx:x=some y) (hfree:KU fr (fn y).nr (fn y).nb g) {K:Act→World→Prop} {Q:Exit→Act→World→Prop}
  (hK:∀ u w',Out C g a fr (fn y).nr (fn y).nb (grow fr big (fn y).nr (fn y).nb (fn y).ef) (some (fn y).v) u w'→K (a.put o.dst u) w'):o.wp C.P a w K Q:=by
 unfold I5 at hcall;cases hcall
theorem Zt (hE:AA C.P E) (hC:AQ C) (hs:Sim C big g a w) (hsub:Sub fr big) {m:N7} {vs:List (Bool×List Lf)} {us:List Value} (hvs:Bu C g vs us) {f:Nat} (hS:Kg C.P f m)
  (o:Oper) (hrun:(execOp a.eval o).run C.P w=.ok (.enter f us.toArray) w) {rs':List Sh} {x:Option (RT rs')} {z0:Option (RT rs')} {fn:RT rs'→N8} (hcall:Ja E fr m vs=.callE rs' x z0 fn) {y:RT rs'} (hx:x=some y) (hfree:KU fr (fn y).nr (fn y).nb g) {K:Act→World→Prop} {Q:Exit→Act→World→Prop}
  (hK:∀ u w',Out C g a fr (fn y).nr (fn y).nb (grow fr big (fn y).nr (fn y).nb (fn y).ef) (some (fn y).v) u w'→K (a.put o.dst u) w'):o.wp C.P a w K Q:=by
 unfold Ja at hcall;cases hcall
theorem Mp {m:N6} {vs:List (Bool×List Lf)}:(∀ req v nr nb ef,I5 E fr m vs≠.done req v nr nb ef)∧∀ m' o vs' rw q,I5 E fr m vs≠.call m' o vs' rw q:=by
 unfold I5;exact⟨fun _ _ _ _ _ h=>(by cases h),fun _ _ _ _ _ h=>(by cases h)⟩
theorem Mq {m:N7} {vs:List (Bool×List Lf)}:(∀ req v nr nb ef,Ja E fr m vs≠.done req v nr nb ef)∧∀ m' o vs' rw q,Ja E fr m vs≠.call m' o vs' rw q:=by
 unfold Ja;exact⟨fun _ _ _ _ _ h=>(by cases h),fun _ _ _ _ _ h=>(by cases h)⟩
theorem VQ (hE:AA C.P E) (hC:AQ C) (hs:Sim C big g a w) (hsub:Sub fr big) (hc:Holds a ch) (o:Oper) (c:Call) (ho:o.op=.call c) (x:Operand) (hx:c.callee=.value x) {Q:Exit→Act→World→Prop}:BR C g a w fr big o Q (QB E fr ch x c.args.toList):=by
 have key:∀ (m:Mdl) (vs:List (Bool×List Lf)) (us:List Value) (f:Nat) (args:Array Value),Bu C g vs us→(∀ x Fs,(∀ k,hands m.ps Fs k→gN≤k)→Cu C.P w m.ps x us Fs→CX m.ps Fs→∀ y,m.F x=some y→Calls C.P f args w fun e w'=>∃ u,e=.returned u∧KT w m us Fs y u w') →
   (execOp a.eval o).run C.P w=.ok (.enter f args) w→BR C g a w fr big o Q (Cv E fr m vs):=by
  intro m vs us f args hvs hS hrun;cases hcall:Cv E fr m vs with
  | fail=>trivial
  | done req v nr nb ef=>exact absurd hcall R2
  | call m' x' vs' rw q =>
   exact⟨fun y hy hfull hfree K hK=>VO hE hC hs hsub hvs hS o hrun hcall hy hfull hfree hK,fun y hy hmo hfree K hK=>VP hE hC hs hsub hvs hS o hrun hcall hy hmo hfree hK⟩
  | callE m' x' z' f=>exact absurd hcall Qn
 have keyB:∀ (m:Mdl) (vs:List (Bool×List Lf)) (us:List Value) (f:Nat) (args:Array Value),Bu C g vs us→(∀ x Fs,(∀ k,hands m.ps Fs k→gN≤k)→Cu C.P w m.ps x us Fs→CX m.ps Fs→∀ y,m.F x=some y→Calls C.P f args w fun e w'=>∃ u,e=.returned u∧KT w m us Fs y u w') →
   (execOp a.eval o).run C.P w=.ok (.enter f args) w→BR C g a w fr big o Q (HV E fr m vs):=by
  intro m vs us f args hvs hS hrun;cases hcall:HV E fr m vs with
  | fail=>trivial
  | done req v nr nb ef=>exact absurd hcall (Mm.1 _ _ _ _ _)
  | call m' x' vs' rw q=>exact absurd hcall (Mm.2 _ _ _ _ _)
  | callE m' x' z' fn =>
   intro y hy _ K hK;exact Zr hE hC hs hsub hvs hS o hrun hcall hy hK
 have hs0:Dg C.R C.w0 w:=⟨hs.kept.size,fun k hk=>hs.kept.block k (hC.R_lt k hk).1 (hC.R_lt k hk).2⟩;have post:∀ {m:Mdl} {us:List Value} {Fs:List FP} {r:Sh} (hm:m.rs=[r]) (hf:r.flat=true) {y:RT (AU m.ps++m.rs)} {cr:List Value} {w'':World} {z:RT m.rs},RC C.P r w'' (fun _=>False) (hm▸z:RT [r]) cr→Km w w''→(∀ K:RT m.rs→Prop,K z→P2 w'' m.ps m.rs us Fs y K)→KT w m us Fs y (DG r cr) w'':=by
  intro m us Fs r hm hf y cr w'' z hr hb hO;obtain⟨ps,rs,F⟩:=m;simp only at hm;subst hm;refine⟨[DG r cr],[fun _=>False],rfl,⟨CW.mono (show w.drawn≤w''.drawn from hb.drawn),hb.os,hb.tape,hb.output,hb.size,fun k hk _=>hb.block k hk⟩,hO _ ⟨⟨_,[],_,[],cr,rfl,rfl,rfl,RC.flatOC r hf hr,fun _ h=>h.elim,rfl,rfl⟩,?_⟩⟩
  intro G hG k hk;rcases Ajp.1 hG with rfl;exact hk.elim
 unfold QB;split
 ·rename_i f caps vs h1 h2;split
  ·rename_i m hm;obtain⟨hS,hR⟩:=hE.fs f m hm;obtain⟨us,e,hcap⟩:=Am (hs.sub hsub) hc h1;have hrun:(execOp a.eval o).run C.P w=.ok (.enter f (c.args.toList.map a.eval++us).toArray) w:=by
    have:=BD (w:=w) hR o c ho hx e;simpa using this
   have k1:=key m _ _ f _ ((CM (hs.sub hsub) hc h2).append (KD hcap)) (fun x Fs hg hA hap y hy=>hS w x _ Fs (hs.kept.tabs hC) hg hA hap y hy) hrun;split
   ·exact keyB m _ _ f _ ((CM (hs.sub hsub) hc h2).append (KD hcap)) (fun x Fs hg hA hap y hy=>hS w x _ Fs (hs.kept.tabs hC) hg hA hap y hy) hrun
   ·exact k1
  ·split
   ·obtain⟨us,e,hcap⟩:=Am (hs.sub hsub) hc h1;cases (hcap:us=[]);have hvs:=CM (hs.sub hsub) hc h2;split
    ·rename_i m hm;obtain⟨hS,hR⟩:=hE.pf f m hm;have hrun:(execOp a.eval o).run C.P w=.ok (.enter f (c.args.toList.map a.eval).toArray) w:=by
      have:=BD (w:=w) hR o c ho hx e;simpa using this
     cases hcall:I5 E fr m vs with
     | fail=>trivial
     | done req v nr nb ef=>exact absurd hcall (Mp.1 _ _ _ _ _)
     | call m' x' vs' rw q=>exact absurd hcall (Mp.2 _ _ _ _ _)
     | callE rs' x' z' fn =>
      intro y hy hfree K hK;exact Zs hE hC hs hsub hvs hS o hrun hcall hy hfree hK
    ·split
     ·rename_i m hm;obtain⟨hS,hR⟩:=hE.nf f m hm;have hrun:(execOp a.eval o).run C.P w=.ok (.enter f (c.args.toList.map a.eval).toArray) w:=by
       have:=BD (w:=w) hR o c ho hx e;simpa using this
      cases hcall:Ja E fr m vs with
      | fail=>trivial
      | done req v nr nb ef=>exact absurd hcall (Mq.1 _ _ _ _ _)
      | call m' x' vs' rw q=>exact absurd hcall (Mq.2 _ _ _ _ _)
      | callE rs' x' z' fn =>
       intro y hy hfree K hK;exact Zt hE hC hs hsub hvs hS o hrun hcall hy hfree hK
     ·trivial
   ·trivial
 ·rename_i s r φ vs h1 h2;have hr:=Am (hs.sub hsub) hc h1;obtain⟨hf,f,caps,e,hR,hcall⟩:=(hr:RC C.P (.fn1 s r) C.w0 C.R φ [a.eval x]);injection e with e;refine key _ _ _ f _ (CM (hs.sub hsub) hc h2) (fun xx Fs _ hA hap y hy=>?_) (BD (w:=w) hR o c ho hx e);obtain⟨u,us',F,Fs',e1,e2,hlt,⟨cs,eu,hrc⟩,hnil⟩:=hA;obtain⟨rfl,rfl⟩:=hnil;have ea:(([Ao s.agg cs]:List Value)++caps.toList).toArray=#[DG s cs]++caps:=by simp[DG]
  rw[e1,eu,ea];refine (hcall w hs0 xx.1 cs F hlt hrc y hy).mono fun e' w'' ⟨cr,ee,hcr,hb⟩=>⟨_,ee,?_⟩;subst e2;exact post (m:=⟨[(.ro,s)],[r],fun x=>φ x.1⟩) rfl hf (z:=y) hcr hb (fun K hK=>hK)
 ·rename_i s t r φ vs h1 h2;have hr:=Am (hs.sub hsub) hc h1;obtain⟨hf,f,caps,e,hR,hcall⟩:=(hr:RC C.P (.fn2 s t r) C.w0 C.R φ [a.eval x]);injection e with e;refine key _ _ _ f _ (CM (hs.sub hsub) hc h2) (fun xx Fs _ hA hap y hy=>?_) (BD (w:=w) hR o c ho hx e);obtain⟨u,us',F,Fs',e1,e2,hlt,⟨cs,eu,hrc⟩,u2,us2,F2,Fs2,e3,e4,hlt2,⟨cs2,eu2,hrc2⟩,hnil⟩:=hA;obtain⟨rfl,rfl⟩:=hnil;subst e3;have ea:(([Ao s.agg cs,Ao t.agg cs2]:List Value)++caps.toList).toArray=#[DG s cs,DG t cs2]++caps:=by simp[DG]
  rw[e1,eu,eu2,ea];refine (hcall w hs0 xx.1 cs F hlt hrc xx.2.1 cs2 F2 hlt2 hrc2 y hy).mono fun e' w'' ⟨cr,ee,hcr,hb⟩=>⟨_,ee,?_⟩;subst e4;subst e2;exact post (m:=⟨[(.ro,s),(.ro,t)],[r],fun x=>φ x.1 x.2.1⟩) rfl hf (z:=y) hcr hb (fun K hK=>hK)
 ·trivial
theorem N5 {rs':List Sh} {x z:Option (RT rs')} {f:RT rs'→N8} {o:Oper} (h:Gk E fr ch o=.callE rs' x z f) {y:RT rs'} (hy:z=some y):(f y).nb=[]∧∃ i b,(f y).ef=.box i b∧at? fr.bx i=some b:=by
 unfold Gk at h;cases h
theorem R3 (hE:AA C.P E) (hC:AQ C) (hs:Sim C big g a w) (hsub:Sub fr big) (hc:Holds a ch) (o:Oper) {Q:Exit→Act→World→Prop}:BR C g a w fr big o Q (Gk E fr ch o):=by
 unfold Gk;trivial
theorem C4 (hE:AA C.P E) (hC:AQ C) (hs:Sim C big g a w) (hsub:Sub fr big) (hc:Holds a ch) (o:Oper) {Q:Exit→Act→World→Prop}:BR C g a w fr big o Q (Ey E fr ch o):=by
 obtain⟨dst,op,type,pos,after,guard⟩:=o;unfold Ey;cases op
 case call c =>
  simp only;cases hcal:c.callee with
  | value x=>exact VQ hE hC hs hsub hc _ c rfl x hcal
  | builtin b =>
   cases b<;>simp only
   case len=>exact BR.ofGood (VN hE hs hsub hc _ c rfl hcal)
   case append=>exact BR.ofGood (Qc hE hC hs hsub hc _ c rfl hcal)
   case copy=>exact BR.ofGood (Vm hE hC hs hsub hc _ c rfl hcal)
   case clear=>exact BR.ofGood (RB hE hC hs hsub hc _ c rfl hcal)
   case max=>exact BR.ofGood (P7 hs hsub hc _ c rfl true hcal)
   case min=>exact BR.ofGood (P7 hs hsub hc _ c rfl false hcal)
   all_goals trivial
  | invoke r m=>trivial
 case move x=>exact BR.ofGood (L0 (E:=E) hs hsub hc ⟨dst,.move x,type,pos,after,guard⟩ x rfl)
 case assign x=>exact BR.ofGood (L0 (E:=E) hs hsub hc ⟨dst,.assign x,type,pos,after,guard⟩ x rfl)
 case binOp op t x y p=>exact BR.ofGood (Zg hE hs hsub hc _ op t x y p rfl)
 case unOp op t x=>exact BR.ofGood (AcA hs hsub hc _ op t x rfl)
 case pick c x y=>exact BR.ofGood (VA hs hsub hc _ c x y rfl)
 case box t x=>exact BR.ofGood (Y8 hC hs hsub hc _ t x rfl)
 case alloc t=>exact BR.ofGood (RD hE hC hs _ t rfl)
 case nilCheck x=>exact BR.ofGood (Zc hs hsub hc _ x rfl)
 case fieldAddr s x f=>exact BR.ofGood (Ko hE hs hsub hc _ s x f rfl)
 case field t x f=>exact BR.ofGood (RR hE hs hsub hc _ t x f rfl)
 case load t x=>exact BR.ofGood (Vz hE hs hsub hc _ t x rfl)
 case store t x y=>exact BR.ofGood (RY hE hC hs hsub hc _ t x y rfl)
 case indexAddr t x i=>exact BR.ofGood (Kq hE hs hsub hc _ t x i rfl)
 case index t x i=>exact BR.ofGood (RQ hE hs hsub hc _ t x i rfl)
 case slice t x lo hi mx =>
  cases mx with
  | none=>exact BR.ofGood (RS hE hs hsub hc _ t x lo hi rfl)
  | some _=>trivial
 case build t parts=>exact BR.ofGood (RE hE hC hs hsub hc _ t parts rfl)
 case buildSlice t n parts=>exact BR.ofGood (Io hE hC hs hsub hc _ t n parts rfl)
 case makeSlice t x y=>exact BR.ofGood (VF hE hC hs hsub hc _ t x y rfl)
 case makeFunc f first captured=>exact BR.ofGood (VB hs hsub hc _ f first captured rfl)
 case convert s t x=>exact BR.ofGood (NZ hE hs hsub hc _ s t x rfl)
 case makeMap t r=>exact BR.ofGood (N4 hE hC hs _ t r rfl)
 case lookup t x ix ok=>exact BR.ofGood (Qk hE hs hsub hc _ t x ix ok rfl)
 case mapUpdate t m k x=>exact BR.ofGood (Ev hE hC hs hsub hc ⟨dst,.mapUpdate t m k x,type,pos,after,guard⟩ t m k x rfl)
 case insert t m k x=>exact BR.ofGood (Ev hE hC hs hsub hc ⟨dst,.insert t m k x,type,pos,after,guard⟩ t m k x rfl)
 case extract x i=>exact BR.ofGood (NY hs hsub hc _ x i rfl)
 all_goals trivial
end Go.Proofs.YteheolldcpjkcaaGreat.X
