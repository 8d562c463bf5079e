/- Calls over pointers to structs of lists: the caller's side. -/
import Derived.Test.YtkemdhpdfaejgaaGreatDoorQzXStep
set_option linter.unusedSimpArgs false
set_option linter.unusedVariables false
set_option linter.unusedSectionVars false
namespace Go.Proofs.YtkemdhpdfaejgaaGreatDoor.X
open Go Go.RowKit
variable [CW]
variable {C:Cx} {fr:Fr} {big:FF} {g:Sg} {a:Act} {w w':World} {ch:List (Nat×Bool)} {E:Env}
theorem Sim.rest (hC:Bf C) (h:Sim C big g a w) {rw':Nat→Option Ad} (hT:A6 none big.rw rw'):Sim C { big with rw:=rw' } g a w :=
 h.afterCall (V:=fun _=>False) hC hT (D:=fun _=>False) (Ao.refl _ _) (fun _ h=>h.elim) (fun j r h=>.inl h) (fun j r h=>h)
theorem Sim.putBox (h:Sim C big g a w) {i:Nat} {b:BD} {k:Nat} (hi:big.bx i=none) (hown:b.own=true) (hk:g.β i=some k) (hb:Cd C g w b i)
  (hd:∀ j b',big.bx j=some b'→g.β j≠some k) (hr:∀ j r q,big.rw j=some r→r.m.mine=true→g.ρ j=some q→¬ q.F k) :
  Sim C { big with bx:=fun j=>if j=i then some b else big.bx j } g a w:=by
 refine { h with boxes:=?_,bdisj:=?_,rbox:=?_ }
 ·intro j b' hj;change (if j=i then some b else big.bx j)=some b' at hj;split at hj
  ·rename_i e;subst e;cases hj;exact hb
  ·exact h.boxes j b' hj
 ·intro i1 j1 b1 b2 k1 h1 h2 ho hk1 hk2;change (if i1=i then some b else big.bx i1)=some b1 at h1;change (if j1=i then some b else big.bx j1)=some b2 at h2;split at h1
  ·rename_i e1;subst e1;rw[hk] at hk1;cases hk1;split at h2
   ·rename_i e2;exact e2.symm
   ·exact absurd hk2 (hd _ _ h2)
  ·rename_i e1;split at h2
   ·rename_i e2;subst e2;rw[hk] at hk2;cases hk2;exact absurd hk1 (hd _ _ h1)
   ·exact h.bdisj i1 j1 b1 b2 k1 h1 h2 ho hk1 hk2
 ·intro j r q j' b' k' h1 m1 hq hb' ho' hk';change (if j'=i then some b else big.bx j')=some b' at hb';split at hb'
  ·rename_i e;subst e;rw[hk] at hk';cases hk';exact hr j r q h1 m1 hq
  ·exact h.rbox j r q j' b' k' h1 m1 hq hb' ho' hk'
theorem AaF {s:Sh} {l:List Sh} (x:s.T) (y:RT l):(RT.mk x y).hd=x:=by cases l<;>rfl
theorem AaG {s:Sh} {l:List Sh} (x:s.T) (y:RT l):(RT.mk x y).tl=y:=by cases l<;>rfl
theorem AtW (cs:List Value):Aw true cs=.agg cs.toArray:=rfl
theorem UW {R:Type} {d:Option Nat} {v:AV} {u:Value} {k:Fr→Option R} {r:R} (hs:Sim C fr.f g a w) (hfit:Fit fr g) (hv:AVR C g a v u) (h:KZ fr d v k=some r) :
  ∃ fr',Sim C fr'.f g (a.put d u) w∧Fit fr' g∧k fr'=some r:=by
 unfold KZ at h;split at h
 ·rename_i fr' hp;obtain⟨sl,hsl,rfl⟩:∃ sl,Qb fr.nt fr.sl d (some v)=some sl∧fr'={ fr with sl:=sl }:=by
   unfold Fy at hp;split at hp
   ·rename_i sl hs';cases hp;exact⟨sl,hs',rfl⟩
   ·cases hp
  exact⟨{ fr with sl:=sl },hs.put (d:=d) (v:=some v) (u:=u) (sl':=sl) hsl (fun av e=>by cases e;exact hv),⟨hfit.β,hfit.ρ⟩,h⟩
 ·cases h
theorem DP {α:Type} (l:List (Option α)) (r:List α):at? (l++r.map some)=more l.length r (at? l):=by
 funext j;rw[GM];unfold more;by_cases h:j<l.length
 ·rw[if_pos h,if_neg (by omega)]
 ·rw[if_neg h];by_cases h2:l.length≤j∧j<l.length+r.length
  ·rw[if_pos h2,CT,ABn];cases r[j-l.length]?<;>rfl
  ·have:at? (r.map some) (j-l.length)=none:=by
    rw[CT,ABu (by simp;omega)]
    rfl
   rw[if_neg h2,this];cases hj:at? l j with
   | none=>rfl
   | some x=>exact absurd (Bq hj) h
theorem Amt {R:Type} (hE:AF C.P E) (hC:Bf C) (hs:Sim C fr.f g a w) (hfit:Fit fr g) {m:Qa} {vs:List (Bool×List Lf)} {us:List Value} (hvs:Cs C g vs us) {f:Nat} (hS:Fv C.P f m)
  (o:Oper) (hrun:(execOp a.eval o).run C.P w=.ok (.enter f us.toArray) w) {k:Fr→Option R} {r:R} (h:Ahh E fr m vs o.dst k=some r) {K:Act→World→Prop} {Q:Exit→Act→World→Prop}
  (hK:∀ fr' g' a' w',Sim C fr'.f g' a' w'→Fit fr' g'→k fr'=some r→K a' w'):o.wp C.P a w K Q:=by
 unfold Ahh at h;split at h
 ·rename_i i vs';split at h
  ·rename_i b hb;cases hcond:(b.own&&(Bv b.cs&&(m.c.agg&&(m.c.data&&(m.ps.all (fun p=>p.1==.ro)&&m.rs.all Sh.data)))))
   ·rw[hcond] at h;cases h
   ·rw[hcond,cond_true] at h;simp only[AA1] at hcond;obtain⟨hown,hpl,hagg,hdata,hro,hrs⟩:=hcond;split at h
    ·rename_i rw1 h1;split at h
     ·rename_i x h2;obtain⟨y,hy,hput⟩:=ABQ.1 h;obtain⟨u0,t0,rfl,hu0,ht0⟩:=hvs;obtain⟨k0,hk,rfl⟩:=(hu0.to1:LfR C g (.box i 0) u0);have hbb:fr.f.bx i=some b:=hb;obtain⟨k',cur,t,hk',hh,hcr,hz,_⟩:=(hs.boxes i b hbb).toCells hpl;rw[hk] at hk';cases hk';have hz:=hz hown;have hs2:=hs.dropBox i;have hsub2:=(Sub.refl hs.up:Sub fr fr.f).dropBox i;have htup:Cs C g ((true,b.cs) :: vs') (Aw true cur.toList :: t0):=⟨_,_,rfl,⟨cur.toList,rfl,hcr,fun e=>by cases e⟩,ht0⟩
      have hT0:=hsub2.took;obtain⟨hT1,hlen⟩:=CL htup (hs2.tab.took hT0) h1;obtain⟨Fs,eF,hA,hap,hh',hrd⟩:=Dp (g:=g) hE hC hs2 hsub2 (.inr rfl) htup hT0 h1 (hT0.trans hT1) h2;have hh'':∀ j,hands ((.mv,m.c) :: m.ps) Fs j→Own (at? fr.rw) g j∧¬ Own (at? rw1) g j:=hh';obtain⟨z,xs⟩:=x;obtain⟨u',us',F0,Fs',e1,e2,hlt,⟨cs,eu,hOC⟩,hA'⟩:=hA;injection e1 with e1 e3;subst e3;subst e2;have ecs:cs=cur.toList:=by
       rw[← e1,hagg,AtW,AtW] at eu;injection eu with eu;have:=congrArg Array.toList eu;simpa using this.symm
      subst ecs;have hF0:∀ j,F0 j→Own (at? fr.rw) g j∧¬ Own (at? rw1) g j:=fun j hj=>hh'' j (.inl ⟨rfl,hj⟩);have hF0k:∀ j,F0 j→j≠k0:=fun j hj e=>by
       subst e;exact Own.notBox hs (hF0 j hj).1 hbb hown hk
      have hF0z:∀ j,F0 j→C.w0.heap.size≤j∨C.S j:=fun j hj=>(Own.zone hs (hF0 j hj).1).1;have hRd:∀ j,Rd C { fr.f with bx:=fun j=>if j=i then none else fr.f.bx j } (at? rw1) g j→j≠k0∧¬ F0 j:=by
       intro j hj;refine⟨?_,fun hf=>(hF0 j hf).2 (Rd.not hC hs2 hj (hF0 j hf).1)⟩
       rintro rfl
       rcases hj with hj | hj | ⟨i',b',hb',ho',hk'⟩
       ·obtain⟨h5,h6⟩:=hC.R_lt j hj;exact hz.elim (fun h=>absurd h5 (ABP.2 h)) h6
       ·exact Own.notBox hs (hj.took hT1) hbb hown hk
       ·change (if i'=i then none else fr.f.bx i')=some b' at hb';split at hb'
        ·cases hb'
        ·rename_i hne;exact hne (hs.bdisj i' i b' b j hb' hbb ho' hk' hk)
      unfold Oper.wp;rw[hrun,Oper.upon_enter];refine (hS w k0 cur t (z,xs) t0 Fs' F0 (hs.kept.tabs hC) (hC.free hz) (fun j hj=>hC.free (hF0z j hj)) hh hOC (fun j hj=>⟨hlt j hj,hF0k j hj⟩) hA' (fun F hF j hj=>hRd j (hrd j (.inr (LM hro (P4 hA') hF hj)))) y hy).mono fun e w' ⟨vs2,Gs,cs',t',G0,ee,hM,hh2,hO2,hG0,hV,hGs⟩=>?_;subst ee;have hT2:A6 none (fr.f.rw) (at? rw1):=hT0.trans hT1;have s1:=hs2.rest hC hT2;have hDz:∀ j,(j=k0∨F0 j)→C.w0.heap.size≤j∨C.S j:=fun j hj=>hj.elim (fun e=>e▸hz) (hF0z j);have s2:=Sim.moves hC s1 hM hDz (fun i' r' q j hr' hm hq hF hj=>by
       have ho:Own (at? rw1) g j:=⟨i',r',q,hr',hm,hq,hF⟩;rcases hj with e | hj
       ·subst e;exact Own.notBox hs (ho.took hT1) hbb hown hk
       ·exact (hF0 j hj).2 ho) (fun i' b' j hb' ho' hk' hj=>by
       change (if i'=i then none else fr.f.bx i')=some b' at hb';split at hb'
       ·cases hb'
       ·rename_i hne;rcases hj with e | hj
        ·subst e;exact hne (hs.bdisj i' i b' b j hb' hbb ho' hk' hk)
        ·exact Own.notBox hs (hF0 j hj).1 hb' ho' hk')
      have old:∀ j,Own (at? rw1) g j→j<w.heap.size:=fun j hj=>(Own.zone hs (hj.took hT1)).2;have hbx:∀ j,(w.heap.size≤j∨F0 j)→∀ j2 b2,(if j2=i then none else fr.f.bx j2)=some b2→b2.own=true→g.β j2≠some j:=fun j h3 j2 b2 hb2 ho2 hk2=>by
       split at hb2
       ·cases hb2
       ·rcases h3 with h3 | h3
        ·exact absurd (hs.box_lt hb2 hk2) (ABP.2 h3)
        ·exact Own.notBox hs (hF0 j h3).1 hb2 ho2 hk2
      have hzz:∀ j,(w.heap.size≤j∨F0 j)→C.w0.heap.size≤j∨C.S j:=fun j h3=>h3.elim (fun h=>.inl (ABo hs.kept.size h)) (hF0z j);have hno:∀ j,(w.heap.size≤j∨F0 j)→¬ Own (at? rw1) g j:=fun j h3 ho=>by
       rcases h3 with h3 | h3
       ·exact absurd (old j ho) (ABP.2 h3)
       ·exact (hF0 j h3).2 ho
      obtain⟨g1,le1,AO,hβ1,s3,l1,o1,_⟩:=Sim.expandO m.c (n:=fr.rw.length) s2 hdata hO2 (fun j hj=>by
       obtain⟨h3,h4,h5,_⟩:=hG0 j hj;exact⟨h4,hzz j h3,hno j h3,hbx j h3⟩) (fun j h3 _=>hfit.ρ j h3)
      have hk2:g1.β i=some k0:=by rw[hβ1];exact hk
      have hk0n:¬ Own (at? rw1) g k0:=fun ho=>Own.notBox hs (ho.took hT1) hbb hown hk;have s4:=s3.putBox (i:=i) (b:=⟨true,(Ab .own m.c (RT.hd y) fr.rw.length).1⟩) (k:=k0) (if_pos rfl) rfl hk2 (Cd.ofCells ⟨k0,cs',t',hk2,hh2,l1,fun _=>hz,fun e=>by cases e⟩) (fun j b' hb' hk3=>by
       change (if j=i then none else fr.f.bx j)=some b' at hb';split at hb'
       ·cases hb'
       ·rename_i hne;rw[hβ1] at hk3;obtain⟨kk,oo,hkk,_,_,hoo,hnn⟩:=hs.boxes j b' hb';cases ho:b'.own with
        | true=>exact hne (hs.bdisj j i b' b k0 hb' hbb ho hk3 hk)
        | false =>
         rw[hk3] at hkk;cases hkk;obtain⟨h5,h6⟩:=hC.R_lt k0 (hnn ho);exact hz.elim (fun h=>absurd h5 (ABP.2 h)) h6) (fun j r' q hr' hm hq hF=>by
       rcases o1 k0 ⟨j,r',q,hr',hm,hq,hF⟩ with h5 | h5
       ·exact hk0n h5
       ·exact (hG0 k0 h5).2.2.1 rfl)
      obtain⟨g2,le2,out2,hβ2,s5,ht⟩:=BU (rs:=m.rs) (n:=fr.rw.length+(Ab .own m.c (RT.hd y) fr.rw.length).2.length) s4 (fun s hs=>AA3.1 hrs s hs) hV (fun G hGm j hj=>by
       obtain⟨h3,h4,h5⟩:=hGs G hGm j hj;refine⟨h4,hzz j h3,fun ho=>?_,fun j2 b2 hb2 ho2 hk3=>?_⟩
       ·rcases o1 j ho with h6 | h6
        ·exact hno j h3 h6
        ·exact (hG0 j h6).2.2.2 G hGm hj
       ·rw[hβ1] at hk3;change (if j2=i then some (⟨true,(Ab .own m.c (RT.hd y) fr.rw.length).1⟩:BD) else (if j2=i then none else fr.f.bx j2))=some b2 at hb2;split at hb2
        ·rename_i e;subst e;rw[hk] at hk3;cases hk3;exact h5 rfl
        ·rename_i e;exact hbx j h3 j2 b2 (by rw[if_neg e];exact hb2) ho2 hk3) (fun j h3 _=>by rw[AO j (by omega)];exact hfit.ρ j (by omega))
      have hlen':rw1.length=fr.rw.length:=hlen;have eq1:(Ar (m.c :: m.rs) y fr.rw.length).2=(Ab .own m.c (RT.hd y) fr.rw.length).2++(Ar m.rs (RT.tl y) (fr.rw.length+(Ab .own m.c (RT.hd y) fr.rw.length).2.length)).2:=rfl;have eq2:(Ar (m.c :: m.rs) y fr.rw.length).1.tail=(Ar m.rs (RT.tl y) (fr.rw.length+(Ab .own m.c (RT.hd y) fr.rw.length).2.length)).1:=rfl;have hfr:Sim C ({ nt:=fr.nt,sl:=fr.sl,bx:=Bn fr.bx i (some ⟨true,(Ab .own m.c (RT.hd y) fr.rw.length).1⟩),rw:=rw1++(Ar (m.c :: m.rs) y fr.rw.length).2.map some }:Fr).f g2 a w':=by
       have e1:at? (rw1++(Ar (m.c :: m.rs) y fr.rw.length).2.map some)=more (fr.rw.length+(Ab .own m.c (RT.hd y) fr.rw.length).2.length) (Ar m.rs (RT.tl y) (fr.rw.length+(Ab .own m.c (RT.hd y) fr.rw.length).2.length)).2 (more fr.rw.length (Ab .own m.c (RT.hd y) fr.rw.length).2 (at? rw1)):=by
        rw[DP,hlen',eq1,Dd]
       have e2:at? (Bn fr.bx i (some ⟨true,(Ab .own m.c (RT.hd y) fr.rw.length).1⟩))=fun j=>if j=i then some (⟨true,(Ab .own m.c (RT.hd y) fr.rw.length).1⟩:BD) else (if j=i then none else fr.f.bx j):=by
        funext j;rw[A4];have hi:i<fr.bx.length:=Bq hb;by_cases e:i=j
        ·subst e;rw[if_pos ⟨rfl,hi⟩,if_pos rfl]
        ·rw[if_neg (fun h=>e h.1),if_neg (fun h=>e h.symm),if_neg (fun h=>e h.symm)];rfl
       unfold Fr.f;rw[e1,e2];exact s5
      have hfit2:Fit ({ nt:=fr.nt,sl:=fr.sl,bx:=Bn fr.bx i (some ⟨true,(Ab .own m.c (RT.hd y) fr.rw.length).1⟩),rw:=rw1++(Ar (m.c :: m.rs) y fr.rw.length).2.map some }:Fr) g2:=by
       refine⟨fun j hj=>?_,fun j hj=>?_⟩
       ·rw[Bm] at hj;rw[hβ2,hβ1];exact hfit.β j hj
       ·simp only[ABh,ABf,hlen',eq1] at hj;rw[out2 j (by omega),AO j (by omega)]
        exact hfit.ρ j (by omega)
      obtain⟨fr',q1,q2,q3⟩:=UW (u:=Fu vs2) hfr hfit2 (IE ht) (by rw[← eq2];exact hput)
      exact hK _ _ _ _ q1 q2 q3
     ·cases h
    ·cases h
  ·cases h
 ·cases h
theorem Amu {R:Type} (hE:AF C.P E) (hC:Bf C) (hs:Sim C fr.f g a w) (hfit:Fit fr g) {m:IG} {vs:List (Bool×List Lf)} {us:List Value} (hvs:Cs C g vs us) {f:Nat} (hS:HS C.P f m)
  (o:Oper) (hrun:(execOp a.eval o).run C.P w=.ok (.enter f us.toArray) w) {k:Fr→Option R} {r:R} (h:Ahi E fr m vs o.dst k=some r) {K:Act→World→Prop} {Q:Exit→Act→World→Prop}
  (hK:∀ fr' g' a' w',Sim C fr'.f g' a' w'→Fit fr' g'→k fr'=some r→K a' w'):o.wp C.P a w K Q:=by
 unfold Ahi at h;cases hcond:(m.c.data&&(m.ps.all (fun p=>p.1==.ro)&&m.rs.all Sh.data))
 ·rw[hcond] at h;cases h
 ·rw[hcond,cond_true] at h;simp only[AA1] at hcond;obtain⟨hdata,hro,hrs⟩:=hcond;split at h
  ·rename_i x h3;obtain⟨y,hy,h⟩:=ABQ.1 h;have hsub:Sub fr fr.f:=Sub.refl hs.up;have hT0:=hsub.took;obtain⟨Fs,eF,hA,_,_,hrd⟩:=Dp (g:=g) hE hC hs hsub (.inr rfl) hvs hT0 (H5 hro h3) hT0 h3;unfold Oper.wp;rw[hrun,Oper.upon_enter];refine (hS w x us Fs (hs.kept.tabs hC) hA y hy).mono fun e w' ⟨u,vs2,Gs,hone,ee,hM,hV,hG,hz⟩=>?_;subst ee;have h':=hs.quiet hC hM;have old:∀ j,Own fr.f.rw g j→j<w.heap.size:=fun j hj=>(Own.zone hs hj).2;have hfin:∀ {bx:List (Option BD)} {g1:Sg} {nr:List Ad} {g2:Sg} {vs3:List (Bool×List Lf)},(∀ j,fr.rw.length+nr.length≤j→g2.ρ j=none)→(∀ j,bx.length≤j→g2.β j=none)→Sim C ({ nt:=fr.nt,sl:=fr.sl,bx:=bx,rw:=fr.rw++nr.map some }:Fr).f g2 a w'→Cs C g2 vs3 (u :: vs2) →
     KZ { nt:=fr.nt,sl:=fr.sl,bx:=bx,rw:=fr.rw++nr.map some } o.dst (one vs3) k=some r→K (a.put o.dst (Fu (u :: vs2))) w':=by
    intro bx g1 nr g2 vs3 f1 f2 hsim ht hput;obtain⟨fr',q1,q2,q3⟩:=UW (u:=Fu (u :: vs2)) hsim ⟨f2,fun j hj=>f1 j (by simpa using hj)⟩ (IE ht) hput
    exact hK _ _ _ _ q1 q2 q3
   cases hy1:y.1 with
   | none =>
    rw[hy1] at h;change KZ _ _ _ _=some r at h;obtain⟨g',le,out,hβ,hsim',ht⟩:=BU (n:=fr.rw.length) h' (fun s hs=>AA3.1 hrs s hs) hV (fun G hGm j hj=>by
     obtain⟨h5,h6⟩:=hG G hGm j hj;exact⟨h6,.inl (ABo hs.kept.size h5),fun ho=>absurd (old j ho) (ABP.2 h5),fun j2 b2 hb2 ho2 hk2=>absurd (hs.box_lt hb2 hk2) (ABP.2 h5)⟩) (fun j h5 h6=>hfit.ρ j h5)
    refine hfin (g1:=g') (fun j hj=>?_) (fun j hj=>by rw[hβ];exact hfit.β j hj) (by unfold Fr.f;rw[DP];exact hsim') (show Cs C g' ((false,[.und]) :: (Ar m.rs y.2 fr.rw.length).1) (u :: vs2) from⟨u,vs2,rfl,VR.of1 hone,ht⟩) h
    rw[out j (by omega)]
    exact hfit.ρ j (by omega)
   | some z =>
    rw[hy1] at h;change KZ _ _ _ _=some r at h;obtain⟨k0,cs,t,G0,eu,hk0,hheap,hO,hG0,hGk⟩:=hz z hy1;have hi:g.β fr.bx.length=none:=hfit.β _ (AA9 _);obtain⟨g1,le1,AO,hβ1,s3,l1,o1,_⟩:=Sim.expandO m.c (n:=fr.rw.length) h' hdata hO (fun j hj=>by
     obtain⟨h5,h6,_,_⟩:=hG0 j hj;exact⟨h6,.inl (ABo hs.kept.size h5),fun ho=>absurd (old j ho) (ABP.2 h5),fun j2 b2 hb2 ho2 hk2=>absurd (hs.box_lt hb2 hk2) (ABP.2 h5)⟩) (fun j h5 _=>hfit.ρ j h5)
    have hi1:g1.β fr.bx.length=none:=by rw[hβ1];exact hi
    have s4:=s3.newBox (i:=fr.bx.length) (b:=⟨true,(Ab .own m.c z fr.rw.length).1⟩) (k:=k0) hi1 (bx':=fun j=>if j=fr.bx.length then some ⟨true,(Ab .own m.c z fr.rw.length).1⟩ else fr.f.bx j) (fun _=>rfl)
     (Cd.ofCells ⟨k0,cs,t,Sg.box_at _ _ _,hheap,AD.mono (Sg.le_box hi1 k0) l1,fun _=>.inl (ABo hs.kept.size hk0),fun e=>by cases e⟩)
     ⟨fun j b hb hjk=>by rw[hβ1] at hjk;have:=hs.box_lt hb hjk;omega,fun _ j r' q hr' hm hq hF=>by
      rcases o1 k0 ⟨j,r',q,hr',hm,hq,hF⟩ with h5 | h5
      ·have:=old k0 h5;omega
      ·exact (hG0 k0 h5).2.2.1 rfl⟩
    have le12:=Sg.le_box hi1 k0;obtain⟨g2,le2,out2,hβ2,s5,ht⟩:=BU (rs:=m.rs) (n:=fr.rw.length+(Ab .own m.c z fr.rw.length).2.length) s4 (fun s hs=>AA3.1 hrs s hs) hV (fun G hGm j hj=>by
     obtain⟨h5,h6⟩:=hG G hGm j hj;refine⟨h6,.inl (ABo hs.kept.size h5),fun ho=>?_,fun j2 b2 hb2 ho2 hk2=>?_⟩
     ·have ho':Own (more fr.rw.length (Ab .own m.c z fr.rw.length).2 fr.f.rw) g1 j:=by
       obtain⟨i',r',q,a1,a2,a3,a4⟩:=ho;exact⟨i',r',q,a1,a2,a3,a4⟩
      rcases o1 j ho' with h7 | h7
      ·exact absurd (old j h7) (ABP.2 h5)
      ·exact (hG0 j h7).2.2.2 G hGm hj
     ·change (if j2=fr.bx.length then some (⟨true,(Ab .own m.c z fr.rw.length).1⟩:BD) else fr.f.bx j2)=some b2 at hb2;split at hb2
      ·rename_i e;subst e;rw[Sg.box_at] at hk2;cases hk2;exact hGk G hGm hj
      ·rename_i e;rw[show (g1.box fr.bx.length k0).β j2=g1.β j2 from if_neg e,hβ1] at hk2
       exact absurd (hs.box_lt hb2 hk2) (ABP.2 h5)) (fun j h5 _=>by
      show g1.ρ j=none;rw[AO j (by omega)]
      exact hfit.ρ j (by omega))
    have eq1:(Ar (m.c :: m.rs) (RT.mk z y.2) fr.rw.length).2=(Ab .own m.c z fr.rw.length).2++(Ar m.rs y.2 (fr.rw.length+(Ab .own m.c z fr.rw.length).2.length)).2:=by
     simp only[Ar,AaF,AaG]
    have eq2:(Ar (m.c :: m.rs) (RT.mk z y.2) fr.rw.length).1.tail=(Ar m.rs y.2 (fr.rw.length+(Ab .own m.c z fr.rw.length).2.length)).1:=by
     simp only[Ar,AaF,AaG,List.tail_cons]
    simp only[eq1,eq2] at h;refine hfin (g1:=g2) (fun j hj=>?_) (fun j hj=>?_) ?_ (show Cs C g2 ((false,[.box fr.bx.length 0]) :: (Ar m.rs y.2 (fr.rw.length+(Ab .own m.c z fr.rw.length).2.length)).1) (u :: vs2) from⟨u,vs2,rfl,VR.of1 ⟨k0,by rw[hβ2];exact Sg.box_at _ _ _,eu⟩,ht⟩) h
    ·simp only[ABh] at hj;rw[out2 j (by omega)]
     show g1.ρ j=none;rw[AO j (by omega)]
     exact hfit.ρ j (by omega)
    ·simp only[ABh,ABc,ABm] at hj;rw[hβ2];show (g1.box fr.bx.length k0).β j=none;rw[show (g1.box fr.bx.length k0).β j=g1.β j from if_neg (by omega),hβ1]
     exact hfit.β j (by omega)
    ·have e1:at? (fr.rw++((Ab .own m.c z fr.rw.length).2++(Ar m.rs y.2 (fr.rw.length+(Ab .own m.c z fr.rw.length).2.length)).2).map some)=more (fr.rw.length+(Ab .own m.c z fr.rw.length).2.length) (Ar m.rs y.2 (fr.rw.length+(Ab .own m.c z fr.rw.length).2.length)).2 (more fr.rw.length (Ab .own m.c z fr.rw.length).2 (at? fr.rw)):=by
      rw[DP,Dd]
     have e2:at? (fr.bx++[some (⟨true,(Ab .own m.c z fr.rw.length).1⟩:BD)])=fun j=>if j=fr.bx.length then some ⟨true,(Ab .own m.c z fr.rw.length).1⟩ else fr.f.bx j:=by
      have:=DP fr.bx [(⟨true,(Ab .own m.c z fr.rw.length).1⟩:BD)];simp only[ABH,List.map_nil] at this;rw[this,BJ];rfl
     unfold Fr.f;rw[e1,e2];exact s5
  ·cases h
theorem Amv {R:Type} (hE:AF C.P E) (hC:Bf C) (hs:Sim C fr.f g a w) (hfit:Fit fr g) {m:IG} {vs:List (Bool×List Lf)} {us:List Value} (hvs:Cs C g vs us) {f:Nat} (hS:HT C.P f m)
  (o:Oper) (hrun:(execOp a.eval o).run C.P w=.ok (.enter f us.toArray) w) {k:Fr→Option R} {r:R} (h:Ahj E fr m vs o.dst k=some r) {K:Act→World→Prop} {Q:Exit→Act→World→Prop}
  (hK:∀ fr' g' a' w',Sim C fr'.f g' a' w'→Fit fr' g'→k fr'=some r→K a' w'):o.wp C.P a w K Q:=by
 unfold Ahj at h;cases hcond:(m.c.data&&m.c.agg&&(m.ps.all (fun p=>p.1==.ro)&&m.rs.all Sh.data))
 ·rw[hcond] at h;cases h
 ·rw[hcond,cond_true] at h;simp only[AA1] at hcond;obtain⟨⟨hdata,hagg⟩,hro,hrs⟩:=hcond;split at h
  ·rename_i x h3;obtain⟨y,hy,h⟩:=ABQ.1 h;have hsub:Sub fr fr.f:=Sub.refl hs.up;have hT0:=hsub.took;obtain⟨Fs,eF,hA,_,_,hrd⟩:=Dp (g:=g) hE hC hs hsub (.inr rfl) hvs hT0 (H5 hro h3) hT0 h3;unfold Oper.wp;rw[hrun,Oper.upon_enter];refine (hS w x us Fs (hs.kept.tabs hC) hA y hy).mono fun e w' ⟨cs,vs2,Gs,hlen,hone,ee,hM,hV,hG,hz⟩=>?_;subst ee;have h':=hs.quiet hC hM;have old:∀ j,Own fr.f.rw g j→j<w.heap.size:=fun j hj=>(Own.zone hs hj).2;have hfin:∀ {bx:List (Option BD)} {g1:Sg} {nr:List Ad} {g2:Sg} {vs3:List (Bool×List Lf)},(∀ j,fr.rw.length+nr.length≤j→g2.ρ j=none)→(∀ j,bx.length≤j→g2.β j=none)→Sim C ({ nt:=fr.nt,sl:=fr.sl,bx:=bx,rw:=fr.rw++nr.map some }:Fr).f g2 a w'→Cs C g2 vs3 (Aw true cs :: vs2) →
     KZ { nt:=fr.nt,sl:=fr.sl,bx:=bx,rw:=fr.rw++nr.map some } o.dst (one vs3) k=some r→K (a.put o.dst (Fu (Aw true cs :: vs2))) w':=by
    intro bx g1 nr g2 vs3 f1 f2 hsim ht hput;obtain⟨fr',q1,q2,q3⟩:=UW (u:=Fu (Aw true cs :: vs2)) hsim ⟨f2,fun j hj=>f1 j (by simpa using hj)⟩ (IE ht) hput
    exact hK _ _ _ _ q1 q2 q3
   cases hy1:y.1 with
   | none =>
    rw[hy1] at h;change KZ _ _ _ _=some r at h;obtain⟨g',le,out,hβ,hsim',ht⟩:=BU (n:=fr.rw.length) h' (fun s hs=>AA3.1 hrs s hs) hV (fun G hGm j hj=>by
     obtain⟨h5,h6⟩:=hG G hGm j hj;exact⟨h6,.inl (ABo hs.kept.size h5),fun ho=>absurd (old j ho) (ABP.2 h5),fun j2 b2 hb2 ho2 hk2=>absurd (hs.box_lt hb2 hk2) (ABP.2 h5)⟩) (fun j h5 h6=>hfit.ρ j h5)
    have hund:∀ (cs:List Value),(∀ u∈cs,u.oneCell'=true)→AD C g' (List.replicate cs.length .und) cs:=by
     intro cs
     induction cs with
     | nil=>intro _;rfl
     | cons u cs ih=>intro h;exact⟨u,cs,rfl,h u (by simp),ih fun v hv=>h v (by simp[hv])⟩
    refine hfin (g1:=g') (fun j hj=>?_) (fun j hj=>by rw[hβ];exact hfit.β j hj) (by unfold Fr.f;rw[DP];exact hsim') (show Cs C g' ((true,List.replicate m.c.n .und) :: (Ar m.rs y.2 fr.rw.length).1) (Aw true cs :: vs2) from⟨_,vs2,rfl,⟨cs,rfl,by rw[← hlen];exact hund cs hone,fun e=>by cases e⟩,ht⟩) h
    rw[out j (by omega)]
    exact hfit.ρ j (by omega)
   | some z =>
    rw[hy1] at h;change KZ _ _ _ _=some r at h;obtain⟨G0,hO,hG0⟩:=hz z hy1;have hV2:LE w' (m.c :: m.rs) (RT.mk z y.2) (Aw true cs :: vs2) (G0 :: Gs):=⟨_,vs2,G0,Gs,cs,rfl,rfl,by rw[hagg],by rw[AaF];exact hO,fun j hj=>(hG0 j hj).2.2,by rw[AaG];exact hV⟩
    obtain⟨g',le,out,hβ,hsim',ht⟩:=BU (n:=fr.rw.length) h' (fun s hs=>by
     rcases AA4.1 hs with rfl | hs
     ·exact hdata
     ·exact AA3.1 hrs s hs) hV2 (fun G hGm j hj=>by
     have h56:w.heap.size≤j∧j<w'.heap.size:=by
      rcases AA4.1 hGm with rfl | hGm
      ·exact⟨(hG0 j hj).1,(hG0 j hj).2.1⟩
      ·exact hG G hGm j hj
     obtain⟨h5,h6⟩:=h56;exact⟨h6,.inl (ABo hs.kept.size h5),fun ho=>absurd (old j ho) (ABP.2 h5),fun j2 b2 hb2 ho2 hk2=>absurd (hs.box_lt hb2 hk2) (ABP.2 h5)⟩) (fun j h5 h6=>hfit.ρ j h5)
    refine hfin (g1:=g') (fun j hj=>?_) (fun j hj=>by rw[hβ];exact hfit.β j hj) (by unfold Fr.f;rw[DP];exact hsim') ht h
    rw[out j (by omega)]
    exact hfit.ρ j (by omega)
  ·cases h
theorem AwM {R:Type} (hE:AF C.P E) (hC:Bf C) {o:Oper} {k:Fr→Option R} {r:R} (hs:Sim C fr.f g a w) (hfit:Fit fr g) (h:opX E o fr k=some r) {K:Act→World→Prop} {Q:Exit→Act→World→Prop}
  (hK:∀ fr' g' a' w',Sim C fr'.f g' a' w'→Fit fr' g'→k fr'=some r→K a' w'):o.wp C.P a w K Q:=by
 unfold opX at h;split at h
 ·rename_i c ho;split at h
  ·rename_i x hx;split at h
   ·rename_i f vs h1 h2;have hc:AZ a []:=fun p hp=>by cases hp
    obtain⟨us,e,hcap⟩:=Av hs hc h1;cases (hcap:us=[]);have hvs:=Dw hs hc h2;have hrun:CG C.P f→(execOp a.eval o).run C.P w=.ok (.enter f (c.args.toList.map a.eval).toArray) w:=fun hR=>by
     have:=BK (w:=w) hR o c ho hx e;simpa using this
    split at h
    ·rename_i m hm;obtain⟨hS,hR⟩:=hE.qf f m hm;exact Amt hE hC hs hfit hvs hS o (hrun hR) h hK
    ·split at h
     ·rename_i m hm;obtain⟨hS,hR⟩:=hE.cf f m hm;exact Amu hE hC hs hfit hvs hS o (hrun hR) h hK
     ·split at h
      ·rename_i m hm;obtain⟨hS,hR⟩:=hE.xf f m hm;exact Amv hE hC hs hfit hvs hS o (hrun hR) h hK
      ·cases h
   ·cases h
  ·cases h
 ·cases h
end Go.Proofs.YtkemdhpdfaejgaaGreatDoor.X
