/- Functions over pointers to structs of lists: the callee's side. -/
import Derived.Test.YtkemdhpdfaejgaaGreatDoorQzXRes
import Derived.Test.YtkemdhpdfaejgaaGreatDoorQzXCall
set_option linter.unusedSimpArgs false
set_option linter.unusedVariables false
set_option linter.unusedSectionVars false
namespace Go.Proofs.YtkemdhpdfaejgaaGreatDoor.X
open Go Go.RowKit
variable [CW]
variable {C:Cx} {fr:Fr} {g:Sg} {a:Act} {w:World} {E:Env}
theorem Yf:∀ {ps:List (PM×Sh)} {Fs:List FP} {j:Nat},reads ps Fs j→∃ F∈Fs,F j
 | [],_,_,h=>by cases h
 | (m,s) :: ps,[],_,h=>by cases h
 | (m,s) :: ps,F :: Fs,j,h=>by
  rcases h with h | h
  ·exact⟨F,by simp,h.2⟩
  ·obtain⟨F',h1,h2⟩:=Yf h;exact⟨F',by simp[h1],h2⟩
theorem Qr {P:Program} {E:Env} (hE:AF P E) {f:Nat} {fn:Func} (hfn:P.funcs[f]? = some fn) {c:Sh} {ps:List (PM×Sh)} {rs:List Sh} {F:c.T×AT ps→Option (RT (c :: rs))} (hF:∀ x y,F x=some y→Aub E fn c ps rs x=some y):Fv P f ⟨c,ps,rs,F⟩:=by
 intro w k cs t x us Fs F0 hW hgk hgF hk hO hF0 hA hFk y hy;have h:=hF x y hy;unfold Aub at h;cases hg:(Nat.ble (ps.length+1) fn.ntmps&&Fo ps&&(c.data&&c.agg))
 ·rw[hg] at h;cases h
 ·rw[hg,cond_true] at h;simp only[AA1] at hg;obtain⟨⟨hnt,hro⟩,hdata,hagg⟩:=hg;have hnt:=Ct hnt;obtain⟨hro,hpar,hroB⟩:=ER hro;split at h
  ·rename_i code hb;have hul:us.length=ps.length:=hA.len.1
   let C:Cx:=⟨P,w,fun j=>j=k∨F0 j,fun j=>reads ps Fs j∨j<gN,fun _=>none,some k⟩
   have hklt:k<w.heap.size:=(ABC.1 hk).1;have hC:Bf C:=⟨fun j hj=>hj.elim (fun e=>e▸hklt) (fun h=>(hF0 j h).1),fun j hj=>by
    rcases hj with hj | hj
    ·obtain⟨F',h1,h2⟩:=Yf hj;exact⟨D8 hA j (.inr hj),fun h=>h.elim (hFk F' h1 j h2).1 (hFk F' h1 j h2).2⟩
    ·refine⟨ABB hj hW.1,fun h=>?_⟩;rcases h with e | h
     ·exact absurd hgk (e▸AEo.2 hj)
     ·exact absurd (hgF j h) (AEo.2 hj),hW,fun j hj=>.inr hj⟩
   let vs:List Value:=.pointer (some ⟨k,0,none⟩) :: us
   let a0:Act:={ tmps:=vs.toArray++Array.replicate (fn.ntmps-vs.toArray.size) undef,defers:=[] }
   have hvl:vs.length=ps.length+1:=by simp[vs,hul]
   have hsz:a0.tmps.size=fn.ntmps:=by simp[a0];omega
   have hu0:∀ j u,vs[j]? = some u→a0.tmps.getD (0+j) undef=u:=fun j u hj=>by
    have hjl:=(ABd.1 hj).1;simp only[a0,ABw,ABq];rw[ABX (by simpa using hjl)]
    simp[hj]
   let fe:Fr:=⟨fn.ntmps,[],[none],[]⟩
   let ge:Sg:=⟨fun i=>if i=0 then some k else none,fun _=>none⟩
   have be:∀ i,at? fe.bx i=none:=fun i=>by cases i<;>simp[fe,at?]
   have hse:Sim C fe.f ge a0 w:=by
    refine⟨rfl,hsz,List.Pairwise.nil,GN.refl _ _,fun t v h=>(by cases h),fun i b h=>?_,fun i j b b' k h=>?_,fun i r h=>?_,fun i j r r' q q' k h=>?_,fun i r q j b k h=>?_,fun i q h=>(by cases h),fun i h=>(by cases h;rfl)⟩
    ·rw[show fe.f.bx i=none from be i] at h;cases h
    ·rw[show fe.f.bx i=none from be i] at h;cases h
    all_goals simp[fe,Fr.f,at?] at h
   obtain⟨g1,le1,AO,hβ1,s1,l1,o1,_⟩:=Sim.expandO c (n:=0) (fr:=fe.f) (x:=x.1) hse hdata hO (fun j hj=>⟨(hF0 j hj).1,.inr (.inr hj),fun⟨i,r,q,h,_⟩=>by simp[fe,Fr.f,at?] at h,fun j2 b hb2=>by rw[show fe.f.bx j2=none from be j2] at hb2;cases hb2⟩) (fun j _ _=>rfl)
   have hk1:g1.β 0=some k:=by rw[hβ1];rfl
   have s2:=s1.putBox (i:=0) (b:=⟨true,(Ab .own c x.1 0).1⟩) (k:=k) (be 0) rfl hk1 (Cd.ofCells ⟨k,cs,t,hk1,hk,l1,fun _=>.inr (.inl rfl),fun e=>by cases e⟩) (fun j b' hb'=>by
    rw[show fe.f.bx j=none from be j] at hb';cases hb') (fun j r q hr hm hq hF=>by
    rcases o1 k ⟨j,r,q,hr,hm,hq,hF⟩ with ⟨i,r,q,h,_⟩ | h5
    ·simp[fe,Fr.f,at?] at h
    ·exact (hF0 k h5).2 rfl)
   let fr0:Fr:=⟨fn.ntmps,[(0,.l (.box 0 0))],[some ⟨true,(Ab .own c x.1 0).1⟩],(Ab .own c x.1 0).2.map some⟩
   have hs0:Sim C fr0.f g1 a0 w:=by
    have h3:=s2.addSlot (i:=0) (v:=.l (.box 0 0)) (by
     have:=hu0 0 _ (show vs[0]? = some (.pointer (some ⟨k,0,none⟩)) from rfl)
     rw[ABw] at this;rw[this];exact VR.of1 ⟨k,hk1,rfl⟩)
    have e1:at? ((Ab .own c x.1 0).2.map some)=more 0 (Ab .own c x.1 0).2 fe.f.rw:=DP [] _;have e2:at? [some (⟨true,(Ab .own c x.1 0).1⟩:BD)]=fun j=>if j=0 then some ⟨true,(Ab .own c x.1 0).1⟩ else fe.f.bx j:=by
     funext j;cases j with
     | zero=>rfl
     | succ j =>
      rw[if_neg (by omega),show fe.f.bx (j+1)=none from be _]
      simp[at?]
    show Sim C ⟨fn.ntmps,[(0,.l (.box 0 0))],at? [some (⟨true,(Ab .own c x.1 0).1⟩:BD)],at? ((Ab .own c x.1 0).2.map some)⟩ g1 a0 w;rw[e1,e2];exact h3
   have hf0:Fit fr0 g1:=⟨fun i hi=>by
    have:1≤i:=hi;rw[hβ1];exact if_neg (by omega),fun i hi=>by
    have:(Ab .own c x.1 0).2.length≤i:=by simpa[fr0] using hi
    rw[AO i (by omega)]⟩
   have hroc:∀ p∈ps,p.1=.cap∨p.1=.ro:=fun p hp=>.inr (hro p hp);obtain⟨g2,_,s3,f3,_⟩:=Fj (C:=C) rfl ps (i:=1) (fr:=fr0) hpar hA (EM hroc Fs) (fun j hj=>absurd hj (BT hroc Fs j)) (fun j hj=>.inl hj) hs0 hf0 (.inr hro) (fun j u hj=>by
    have:=hu0 (j+1) u (by simpa[vs] using hj)
    rw[← this];congr 1;omega) (fun j _=>BT hroc Fs j)
   refine calls_of_wp hfn hb (C7 (C:=C) (n0:=(frQ fn.ntmps c ps x).rw.length) hE hC (fun i q hi=>by cases hi) code h s3 f3 fun ex fr' g' a' w' hk' hs' hf'=>?_)
   have fin:Ani E fn c rs .ret fr'=some y→a'.defers=[]∧∃ v,(results fn a'.tmps).run P w'=.ok v w'∧∃ vs Gs cs' t' G0,Ending.returned v=.returned (Fu vs)∧Ao (fun j=>j=k∨F0 j) w w'∧w'.heap[k]? = some (.cells cs' t' (0,0))∧OC c w' G0 (RT.hd y) cs'.toList ∧
     (∀ j,G0 j→(w.heap.size≤j∨F0 j)∧j<w'.heap.size∧j≠k∧∀ G∈Gs,¬ G j)∧LE w' rs (RT.tl y) vs Gs∧∀ G∈Gs,∀ j,G j→(w.heap.size≤j∨F0 j)∧j<w'.heap.size∧j≠k:=by
    intro hk';unfold Ani at hk';simp only at hk';split at hk'
    ·rename_i b hbx;cases hob:(b.own&&Bv b.cs)
     ·rw[hob] at hk';cases hk'
     ·rw[hob,cond_true] at hk';simp only[AA1] at hob;obtain⟨hown,hpl⟩:=hob;split at hk'
      ·rename_i z rw1 htk;split at hk'
       ·rename_i yy rww hres;cases hk';obtain⟨k',cur,t',hk1,hh,hcr,_,_⟩:=(hs'.boxes 0 b hbx).toCells hpl;have hk2:=hs'.tie k rfl;rw[hk1] at hk2;cases hk2;obtain⟨_,t1,c1,c2,e12,hr2,hO'⟩:=Bg (g:=g') (w:=w') (C:=C) (U7 (m:=none)) c htk hcr hs'.tab;cases hr2;have e12':cur.toList=c1:=by rw[e12,ABD]
        subst e12';obtain⟨vs',Gs,h1,h2,h3,h4⟩:=D6 (C:=C) hE hs' hres t1;have zone:∀ j,Own fr'.f.rw g' j→(w.heap.size≤j∨F0 j)∧j<w'.heap.size∧j≠k:=fun j hj=>by
         have hne:j≠k:=fun e=>by
          subst e;exact absurd hk1 (Own.notBox hs' hj hbx hown)
         obtain⟨h6,h7⟩:=Own.zone hs' hj;refine⟨?_,h7,hne⟩;rcases h6 with h6 | h6 | h6
         ·exact .inl h6
         ·exact absurd h6 hne
         ·exact .inr h6
        refine⟨hs'.nodef,_,Cf h1,vs',Gs,cur,t',fun j=>Own fr'.f.rw g' j∧¬ Own (at? rw1) g' j,rfl,⟨hs'.kept.drawn,hs'.kept.os,hs'.kept.tape,hs'.kept.output,hs'.kept.size,hs'.kept.block⟩,hh,by rw[AeV];exact hO',fun j hj=>?_,by rw[AeW];exact h2,fun G hG j hj=>zone j ((h4 G hG j hj).1.took t1)⟩
        obtain⟨z1,z2,z3⟩:=zone j hj.1;exact⟨z1,z2,z3,fun G hG hGj=>hj.2 (h4 G hG j hGj).1⟩
       ·cases hk'
      ·cases hk'
    ·cases hk'
   cases ex with
   | exit id=>cases hk'
   | normal=>exact fin hk'
   | ret=>exact fin hk'
  ·cases h
theorem Qs {P:Program} {E:Env} (hE:AF P E) {f:Nat} {fn:Func} (hfn:P.funcs[f]? = some fn) {c:Sh} {ps:List (PM×Sh)} {rs:List Sh} {F:AT ps→Option (Option c.T×RT rs)} (hF:∀ x y,F x=some y→Ae6 E fn c ps rs x=some y):HS P f ⟨c,ps,rs,F⟩:=by
 intro w x us Fs hW hA y hy;have h:=hF x y hy;unfold Ae6 at h;cases hg:(Nat.ble ps.length fn.ntmps&&Fo ps&&(c.data&&c.agg))
 ·rw[hg] at h;cases h
 ·rw[hg,cond_true] at h;simp only[AA1] at hg;obtain⟨⟨hnt,hro⟩,hdata,hagg⟩:=hg;have hnt:=Ct hnt;obtain⟨hro,hpar,hroB⟩:=ER hro;split at h
  ·rename_i code hb;have hul:us.length=ps.length:=hA.len.1
   let C:Cx:=⟨P,w,fun _=>False,fun j=>reads ps Fs j∨j<gN,fun _=>none,none⟩
   have hC:Bf C:=⟨fun j hj=>hj.elim,fun j hj=>by
    rcases hj with hj | hj
    ·exact⟨D8 hA j (.inr hj),id⟩
    ·exact⟨ABB hj hW.1,id⟩,hW,fun j hj=>.inr hj⟩
   let a0:Act:={ tmps:=us.toArray++Array.replicate (fn.ntmps-us.toArray.size) undef,defers:=[] }
   have hsz:a0.tmps.size=fn.ntmps:=by simp[a0];omega
   have hs0:Sim C (⟨fn.ntmps,[],[],[]⟩:Fr).f ⟨fun _=>none,fun _=>none⟩ a0 w:=by
    refine⟨rfl,hsz,List.Pairwise.nil,GN.refl _ _,fun t v h=>(by cases h),fun i b h=>?_,fun i j b b' k h=>?_,fun i r h=>?_,fun i j r r' q q' k h=>?_,fun i r q j b k h=>?_,fun i q h=>(by cases h),fun i h=>(by cases h)⟩<;>simp[Fr.f,at?] at h
   have hu0:∀ j u,us[j]? = some u→a0.tmps.getD (0+j) undef=u:=fun j u hj=>by
    have hjl:=(ABd.1 hj).1;simp only[a0,ABw,ABq];rw[ABX (by simpa using hjl)]
    simp[hj]
   have hroc:∀ p∈ps,p.1=.cap∨p.1=.ro:=fun p hp=>.inr (hro p hp);obtain⟨g1,_,s1,f1,_⟩:=Fj (C:=C) rfl ps (i:=0) (fr:=⟨fn.ntmps,[],[],[]⟩) hpar hA (EM hroc Fs) (fun j hj=>absurd hj (BT hroc Fs j)) (fun _ h=>.inl h) hs0 ⟨fun _ _=>rfl,fun _ _=>rfl⟩ (.inl fun j b h=>by simp[at?] at h) hu0 (fun j _=>BT hroc Fs j)
   refine calls_of_wp hfn hb (C7 (C:=C) hE hC (fun i q hi=>by cases hi) code h s1 f1 fun ex fr' g' a' w' hk' hs' hf'=>?_)
   have fin:Ahm E fn c rs .ret fr'=some y→a'.defers=[]∧∃ v,(results fn a'.tmps).run P w'=.ok v w'∧∃ u vs Gs,u.oneCell'=true∧Ending.returned v=.returned (Fu (u :: vs))∧Ao (fun _=>False) w w'∧LE w' rs y.2 vs Gs∧(∀ G∈Gs,∀ j,G j→w.heap.size≤j∧j<w'.heap.size) ∧
     ∀ z,y.1=some z→∃ k cs t G0,u=.pointer (some ⟨k,0,none⟩)∧w.heap.size≤k∧w'.heap[k]? = some (.cells cs t (0,0))∧OC c w' G0 z cs.toList∧(∀ j,G0 j→w.heap.size≤j∧j<w'.heap.size∧j≠k∧∀ G∈Gs,¬ G j)∧∀ G∈Gs,¬ G k:=by
    intro hk';have hM:Ao (fun _=>False) w w':=⟨hs'.kept.drawn,hs'.kept.os,hs'.kept.tape,hs'.kept.output,hs'.kept.size,hs'.kept.block⟩;have zone:∀ j,Own fr'.f.rw g' j→w.heap.size≤j∧j<w'.heap.size:=fun j hj=>by
     obtain⟨h6,h7⟩:=Own.zone hs' hj;exact⟨h6.elim id fun h=>h.elim,h7⟩
    unfold Ahm at hk';simp only at hk';split at hk'
    ·rename_i t l hrl;split at hk'
     ·rename_i i hsl;have hu:=(hs'.slots t _ hsl:VR C g' false [.box i 0] _).to1;obtain⟨k,hki,hup⟩:=(hu:LfR C g' (.box i 0) _);split at hk'
      ·rename_i b hbx;cases hob:(b.own&&Bv b.cs)
       ·rw[hob] at hk';cases hk'
       ·rw[hob,cond_true] at hk';simp only[AA1] at hob;obtain⟨hown,hpl⟩:=hob;split at hk'
        ·rename_i z rw1 htk;split at hk'
         ·rename_i yy rww hres;cases hk';obtain⟨k',cur,t',hk1,hh,hcr,hz,_⟩:=(hs'.boxes i b hbx).toCells hpl;rw[hki] at hk1;cases hk1;obtain⟨_,t1,c1,c2,e12,hr2,hO'⟩:=Bg (g:=g') (w:=w') (C:=C) (U7 (m:=none)) c htk hcr hs'.tab;cases hr2;have e12':cur.toList=c1:=by rw[e12,ABD]
          subst e12';obtain⟨vs',Gs,h1,h2,h3,h4⟩:=D6 (C:=C) hE hs' hres t1;have hne:∀ j,Own fr'.f.rw g' j→j≠k:=fun j hj e=>by
           subst e;exact absurd hki (Own.notBox hs' hj hbx hown)
          refine⟨hs'.nodef,_,Cf (vs:=_ :: vs') (by rw[hrl];exact⟨_,vs',rfl,rfl,h1⟩),_,vs',Gs,by rw[hup];rfl,rfl,hM,h2,fun G hG j hj=>zone j ((h4 G hG j hj).1.took t1),fun z' hz'=>?_⟩
          cases hz';refine⟨k,cur,t',fun j=>Own fr'.f.rw g' j∧¬ Own (at? rw1) g' j,hup,(hz hown).elim id fun h=>h.elim,hh,hO',fun j hj=>⟨(zone j hj.1).1,(zone j hj.1).2,hne j hj.1,fun G hG hGj=>hj.2 (h4 G hG j hGj).1⟩,fun G hG hGk=>hne k ((h4 G hG k hGk).1.took t1) rfl⟩
         ·cases hk'
        ·cases hk'
      ·cases hk'
     ·rename_i hsl;have hu:=(hs'.slots t _ hsl:VR C g' false [.und] _).to1;split at hk'
      ·rename_i yy rww hres;cases hk';obtain⟨vs',Gs,h1,h2,h3,h4⟩:=D6 (C:=C) hE hs' hres (A6.refl _ _);exact⟨hs'.nodef,_,Cf (vs:=_ :: vs') (by rw[hrl];exact⟨_,vs',rfl,rfl,h1⟩),_,vs',Gs,hu,rfl,hM,h2,fun G hG j hj=>zone j (h4 G hG j hj).1,fun z' hz'=>by cases hz'⟩
      ·cases hk'
     ·cases hk'
    ·cases hk'
   cases ex with
   | exit id=>cases hk'
   | normal=>exact fin hk'
   | ret=>exact fin hk'
  ·cases h
theorem AD.ones:∀ {ls:List Lf} {us:List Value},AD C g ls us→∀ u∈us,u.oneCell'=true
 | [],_,h,u,hu=>by cases h;cases hu
 | l :: ls,_,⟨v,t,e,h1,h2⟩,u,hu=>by
  subst e;rcases AA4.1 hu with rfl | hu
  ·exact h1.one
  ·exact h2.ones u hu
theorem Qt {P:Program} {E:Env} (hE:AF P E) {f:Nat} {fn:Func} (hfn:P.funcs[f]? = some fn) {c:Sh} {ps:List (PM×Sh)} {rs:List Sh} {F:AT ps→Option (Option c.T×RT rs)} (hF:∀ x y,F x=some y→Ae7 E fn c ps rs x=some y):HT P f ⟨c,ps,rs,F⟩:=by
 intro w x us Fs hW hA y hy;have h:=hF x y hy;unfold Ae7 at h;cases hg:(Nat.ble ps.length fn.ntmps&&Fo ps&&(c.data&&c.agg))
 ·rw[hg] at h;cases h
 ·rw[hg,cond_true] at h;simp only[AA1] at hg;obtain⟨⟨hnt,hro⟩,hdata,hagg⟩:=hg;have hnt:=Ct hnt;obtain⟨hro,hpar,hroB⟩:=ER hro;split at h
  ·rename_i code hb;have hul:us.length=ps.length:=hA.len.1
   let C:Cx:=⟨P,w,fun _=>False,fun j=>reads ps Fs j∨j<gN,fun _=>none,none⟩
   have hC:Bf C:=⟨fun j hj=>hj.elim,fun j hj=>by
    rcases hj with hj | hj
    ·exact⟨D8 hA j (.inr hj),id⟩
    ·exact⟨ABB hj hW.1,id⟩,hW,fun j hj=>.inr hj⟩
   let a0:Act:={ tmps:=us.toArray++Array.replicate (fn.ntmps-us.toArray.size) undef,defers:=[] }
   have hsz:a0.tmps.size=fn.ntmps:=by simp[a0];omega
   have hs0:Sim C (⟨fn.ntmps,[],[],[]⟩:Fr).f ⟨fun _=>none,fun _=>none⟩ a0 w:=by
    refine⟨rfl,hsz,List.Pairwise.nil,GN.refl _ _,fun t v h=>(by cases h),fun i b h=>?_,fun i j b b' k h=>?_,fun i r h=>?_,fun i j r r' q q' k h=>?_,fun i r q j b k h=>?_,fun i q h=>(by cases h),fun i h=>(by cases h)⟩<;>simp[Fr.f,at?] at h
   have hu0:∀ j u,us[j]? = some u→a0.tmps.getD (0+j) undef=u:=fun j u hj=>by
    have hjl:=(ABd.1 hj).1;simp only[a0,ABw,ABq];rw[ABX (by simpa using hjl)]
    simp[hj]
   have hroc:∀ p∈ps,p.1=.cap∨p.1=.ro:=fun p hp=>.inr (hro p hp);obtain⟨g1,_,s1,f1,_⟩:=Fj (C:=C) rfl ps (i:=0) (fr:=⟨fn.ntmps,[],[],[]⟩) hpar hA (EM hroc Fs) (fun j hj=>absurd hj (BT hroc Fs j)) (fun _ h=>.inl h) hs0 ⟨fun _ _=>rfl,fun _ _=>rfl⟩ (.inl fun j b h=>by simp[at?] at h) hu0 (fun j _=>BT hroc Fs j)
   refine calls_of_wp hfn hb (C7 (C:=C) hE hC (fun i q hi=>by cases hi) code h s1 f1 fun ex fr' g' a' w' hk' hs' hf'=>?_)
   have fin:Ahn E fn c rs .ret fr'=some y→a'.defers=[]∧∃ v,(results fn a'.tmps).run P w'=.ok v w'∧∃ cs vs Gs,cs.length=c.n∧(∀ u∈cs,u.oneCell'=true)∧Ending.returned v=.returned (Fu (Aw true cs :: vs))∧Ao (fun _=>False) w w'∧LE w' rs y.2 vs Gs∧(∀ G∈Gs,∀ j,G j→w.heap.size≤j∧j<w'.heap.size) ∧
     ∀ z,y.1=some z→∃ G0,OC c w' G0 z cs∧∀ j,G0 j→w.heap.size≤j∧j<w'.heap.size∧∀ G∈Gs,¬ G j:=by
    intro hk';have hM:Ao (fun _=>False) w w':=⟨hs'.kept.drawn,hs'.kept.os,hs'.kept.tape,hs'.kept.output,hs'.kept.size,hs'.kept.block⟩;have zone:∀ j,Own fr'.f.rw g' j→w.heap.size≤j∧j<w'.heap.size:=fun j hj=>by
     obtain⟨h6,h7⟩:=Own.zone hs' hj;exact⟨h6.elim id fun h=>h.elim,h7⟩
    unfold Ahn at hk';simp only at hk';split at hk'
    ·rename_i r l hrl;split at hk'
     ·rename_i ls hls;obtain⟨us',hv,hlf⟩:=AeU hE hs' hls;rw[hagg] at hv;have hone:∀ u∈us',u.oneCell'=true:=AD.ones hlf;cases hbn:Nat.beq ls.length c.n
      ·rw[hbn] at hk';cases hk'
      rw[hbn,cond_true] at hk';have hn:us'.length=c.n:=(AD.len hlf).trans (AA2 hbn);split at hk'
      ·rename_i z rw1 htk;split at hk'
       ·rename_i yy rww hres;cases hk';obtain⟨_,t1,c1,c2,e12,hr2,hO'⟩:=Bg (g:=g') (w:=w') (C:=C) (U7 (m:=none)) c htk hlf hs'.tab;cases hr2;have e12':us'=c1:=by rw[e12,ABD]
        subst e12';obtain⟨vs',Gs,h1,h2,h3,h4⟩:=D6 (C:=C) hE hs' hres t1;refine⟨hs'.nodef,_,Cf (vs:=_ :: vs') (by rw[hrl];exact⟨_,vs',rfl,hv,h1⟩),us',vs',Gs,hn,hone,rfl,hM,h2,fun G hG j hj=>zone j ((h4 G hG j hj).1.took t1),fun z' hz'=>?_⟩
        cases hz';exact⟨fun j=>Own fr'.f.rw g' j∧¬ Own (at? rw1) g' j,hO',fun j hj=>⟨(zone j hj.1).1,(zone j hj.1).2,fun G hG hGj=>hj.2 (h4 G hG j hGj).1⟩⟩
       ·cases hk'
      ·split at hk'
       ·rename_i yy rww hres;cases hk';obtain⟨vs',Gs,h1,h2,h3,h4⟩:=D6 (C:=C) hE hs' hres (A6.refl _ _);exact⟨hs'.nodef,_,Cf (vs:=_ :: vs') (by rw[hrl];exact⟨_,vs',rfl,hv,h1⟩),us',vs',Gs,hn,hone,rfl,hM,h2,fun G hG j hj=>zone j (h4 G hG j hj).1,fun z' hz'=>by cases hz'⟩
       ·cases hk'
     ·cases hk'
    ·cases hk'
   cases ex with
   | exit id=>cases hk'
   | normal=>exact fin hk'
   | ret=>exact fin hk'
  ·cases h
end Go.Proofs.YtkemdhpdfaejgaaGreatDoor.X
