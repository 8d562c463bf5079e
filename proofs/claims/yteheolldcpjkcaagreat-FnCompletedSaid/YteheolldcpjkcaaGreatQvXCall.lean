/- Calls over pointers to structs of lists: the caller's side. -/
import Derived.Test.YteheolldcpjkcaaGreatQvXStep
set_option linter.unusedSimpArgs false
set_option linter.unusedVariables false
set_option linter.unusedSectionVars false
namespace Go.Proofs.YteheolldcpjkcaaGreat.X
open Go Go.RowKit
variable [CW]
variable {C:Cx} {fr:Fr} {big:FF} {g:Sg} {a:Act} {w w':World} {ch:List (Nat×Bool)} {E:Env}
theorem Sim.rest (hC:A9 C) (h:Sim C big g a w) {rw':Nat→Option Ac} (hT:AX none big.rw rw'):Sim C { big with rw:=rw' } g a w :=
 h.afterCall (V:=fun _=>False) hC hT (D:=fun _=>False) (AE.refl _ _) (fun _ h=>h.elim) (fun j r h=>.inl h) (fun j r h=>h)
theorem Afi {e e1:Nat} {s1:Sh} {F:FP} {v:Value} {xs:List (List s1.T)} (h:Bq e (.list e1 s1) w F v xs):Bq e (.ol e1 s1) w F v (xs.map some):=by
 obtain⟨css,ho,hl,hc,hb,G,hG,hd,hm⟩:=h;refine⟨css,by rw[AqD];exact ho,by rw[AqD];exact hl,hc,hb,G,hG,hd,fun j x c hx hc'=>?_⟩
 rw[Aqt] at hx;cases hy:xs[j]? with
 | none=>rw[hy] at hx;cases hx
 | some y =>
  rw[hy] at hx;cases hx;exact hm j y c hy hc'
theorem Sim.weak {f:FF} (h:Sim C f g a w) {i e e1:Nat} {s1:Sh} {xs:List (List s1.T)} (hi:f.rw i=some ⟨e,.list e1 s1,xs,.own⟩) :
  Sim C { f with rw:=fun j=>if j=i then some ⟨e,.ol e1 s1,xs.map some,.own⟩ else f.rw j } g a w:=by
 have old:∀ {j r},(if j=i then some (⟨e,.ol e1 s1,xs.map some,.own⟩:Ac) else f.rw j)=some r→r.m.mine=true→∃ r0,f.rw j=some r0∧r0.m.mine=true:=by
  intro j r hj hm;split at hj
  ·rename_i ej;subst ej;exact⟨_,hi,rfl⟩
  ·exact⟨r,hj,hm⟩
 refine { h with rows:=?_,rdisj:=?_,rbox:=?_ }
 ·intro j r hj;change (if j=i then some (⟨e,.ol e1 s1,xs.map some,.own⟩:Ac) else f.rw j)=some r at hj;split at hj
  ·rename_i ej;subst ej;cases hj;obtain⟨q,A,n,c,hq,hv,hz,hl,hZ⟩:=h.rows j _ hi;exact⟨q,A,n,c,hq,hv,hz,hl,⟨Afi hZ.1,hZ.2⟩⟩
  ·refine (h.rows j r hj).moves (D:=fun _=>False) (AE.refl _ _) (fun _ _ _ _ h=>h) (fun p pa _ r' hr' hmi=>⟨?_,fun _ _ _ _ h=>h⟩) (fun p pa r' q' _ hr' hmi hq' A n c hv _=>((h.rows p r' hr').mine hmi hq').1.block hv);by_cases hp:p=i
   ·subst hp;rw[hi] at hr';cases hr';exact⟨_,if_pos rfl,rfl,rfl⟩
   ·exact⟨r',(if_neg hp).trans hr',hmi,rfl⟩
 ·intro i1 j1 r1 r2 q1 q2 k h1 h2 m1 m2;obtain⟨r1',h1',m1'⟩:=old h1 m1;obtain⟨r2',h2',m2'⟩:=old h2 m2;exact h.rdisj i1 j1 r1' r2' q1 q2 k h1' h2' m1' m2'
 ·intro i1 r1 q1 j b k h1 m1;obtain⟨r1',h1',m1'⟩:=old h1 m1;exact h.rbox i1 r1' q1 j b k h1' m1'
theorem Afj {nt:Nat} {sl:List (Nat×AV)} {bx:Nat→Option Bn} {rw:List (Option Ac)} (h:Sim C ⟨nt,sl,bx,at? rw⟩ g a w) (v:AV):Sim C ⟨nt,sl,bx,at? (Wz rw v)⟩ g a w∧(Wz rw v).length=rw.length:=by
 unfold Wz;split
 ·rename_i i;split
  ·rename_i e e1 s1 xs hi;refine⟨?_,AR _ _ _⟩;have e:at? (AL rw i (some ⟨e,.ol e1 s1,xs.map some,.own⟩))=fun j=>if j=i then some ⟨e,.ol e1 s1,xs.map some,.own⟩ else at? rw j:=by
    funext j;rw[AK];by_cases hj:j=i
    ·rw[if_pos hj,if_pos ⟨hj.symm,A4 hi⟩]
    ·rw[if_neg hj,if_neg fun h=>hj h.1.symm]
   rw[e];exact h.weak hi
  ·exact⟨h,rfl⟩
 ·exact⟨h,rfl⟩
theorem Fp {nt:Nat} {sl sl0:List (Nat×AV)} {bx:Nat→Option Bn}:∀ (kp:List Nat) {rw:List (Option Ac)},Sim C ⟨nt,sl,bx,at? rw⟩ g a w→Sim C ⟨nt,sl,bx,at? (KM kp sl0 rw)⟩ g a w∧(KM kp sl0 rw).length=rw.length
 | [],rw,h=>⟨h,rfl⟩
 | n :: kp,rw,h=>by
  unfold KM;rw[Aq8];cases Nat.ble 1000000 n
  ·exact Fp kp h
  ·rw[cond_true];cases lkp sl0 (n-1000000) with
   | none=>exact Fp kp h
   | some v =>
    obtain⟨h1,h2⟩:=Afj h v;obtain⟨h3,h4⟩:=Fp (sl0:=sl0) kp h1;exact⟨h3,h4.trans h2⟩
theorem AjV {p n:Nat} {q q':B3} (hq:g.ρ p=some q) (hq':g.ρ n=some q') (hv:q'.v=q.v) (hz:q'.sz=q.sz):∀ {l u},LfR C g l u→LfR C g (NG p n l) u
 | .row i,u,h=>by
  obtain⟨q0,A,m,c,h1,h2,h3⟩:=h;show LfR C g (.row (bif Nat.beq i p then n else i)) u;by_cases e:i=p
  ·subst e;rw[hq] at h1;cases h1;rw[Bs,cond_true];exact⟨q',A,m,c,hq',hv.trans h2,h3⟩
  ·rw[C8 e,cond_false];exact⟨q0,A,m,c,h1,h2,h3⟩
 | .view i lo hi,u,h=>by
  obtain⟨q0,A,m,c,A',n',c',h1,h2,h3⟩:=h;show LfR C g (.view (bif Nat.beq i p then n else i) lo hi) u;by_cases e:i=p
  ·subst e;rw[hq] at h1;cases h1;rw[Bs,cond_true];exact⟨q',A,m,c,A',n',c',hq',hv.trans h2,by rw[hz];exact h3⟩
  ·rw[C8 e,cond_false];exact⟨q0,A,m,c,A',n',c',h1,h2,h3⟩
 | .elem i j off,u,h=>by
  obtain⟨q0,A,m,c,h1,h2,h3⟩:=h;show LfR C g (.elem (bif Nat.beq i p then n else i) j off) u;by_cases e:i=p
  ·subst e;rw[hq] at h1;cases h1;rw[Bs,cond_true];exact⟨q',A,m,c,hq',hv.trans h2,by rw[hz];exact h3⟩
  ·rw[C8 e,cond_false];exact⟨q0,A,m,c,h1,h2,h3⟩
 | .int _ _,_,h | .bool _,_,h | .str _,_,h | .nil,_,h | .box _ _,_,h | .fn _ _,_,h | .fv1 _ _ _,_,h | .fv2 _ _ _ _,_,h | .mp _,_,h | .bsl _ _ _,_,h | .und,_,h=>h
 | .mc _ _ _,_,h=>h
theorem Ri {p n:Nat} {q q':B3} (hq:g.ρ p=some q) (hq':g.ρ n=some q') (hv:q'.v=q.v) (hz:q'.sz=q.sz):∀ {l us},AC C g l us→AC C g (l.map (NG p n)) us
 | [],_,h=>h
 | _ :: _,_,⟨u,t,e,h,r⟩=>⟨u,t,e,AjV hq hq' hv hz h,Ri hq hq' hv hz r⟩
theorem V6 {p n:Nat} {q q':B3} (hq:g.ρ p=some q) (hq':g.ρ n=some q') (hv:q'.v=q.v) (hz:q'.sz=q.sz) {ag cs u} (h:VR C g ag cs u):VR C g ag (cs.map (NG p n)) u:=by
 obtain⟨us,e,r,l⟩:=h;exact⟨us,e,Ri hq hq' hv hz r,fun hb=>by rw[AqD];exact l hb⟩
theorem Afk {p n:Nat} {q q':B3} (hq:g.ρ p=some q) (hq':g.ρ n=some q') (hv:q'.v=q.v) (hz:q'.sz=q.sz):∀ {vs us},B1 C g vs us→B1 C g (vs.map fun x=>(x.1,x.2.map (NG p n))) us
 | [],_,h=>h
 | _ :: _,_,⟨u,t,e,h,r⟩=>⟨u,t,e,V6 hq hq' hv hz h,Afk hq hq' hv hz r⟩
theorem ZG {f:AV→AV}:∀ (l:List (Nat×AV)) (t:Nat),lkp (l.map fun q=>(q.1,f q.2)) t=(lkp l t).map f
 | [],_=>rfl
 | (i,v) :: r,t=>by
  rw[Arh,Cj,Cj];split
  ·rfl
  ·exact ZG r t
theorem Sim.mvFr {p n:Nat} {q q':B3} (h:Sim C fr.f g a w) (hq:g.ρ p=some q) (hq':g.ρ n=some q') (hv:q'.v=q.v) (hz:q'.sz=q.sz):Sim C (mvFr p n fr).f g a w:=by
 have hbx:∀ {i b'},at? (fr.bx.map fun b=>b.map fun b=>({ b with cs:=b.cs.map (NG p n) }:Bn)) i=some b'→∃ b,at? fr.bx i=some b∧b'={ b with cs:=b.cs.map (NG p n) }:=by
  intro i b' hb;rw[BQ,Aqt] at hb;cases e:fr.bx[i]? with
  | none=>rw[e] at hb;cases hb
  | some o =>
   rw[e] at hb;cases o with
   | none=>cases hb
   | some b =>
    cases hb;exact⟨b,by rw[BQ,e];rfl,rfl⟩
 refine { h with up:=?_,slots:=?_,boxes:=?_,bdisj:=?_,rbox:=?_ }
 ·have:=h.up;unfold Up at this ⊢;simp only[Fr.f,X.mvFr,AsR] at this ⊢;exact this
 ·intro t v hv';simp only[Fr.f,X.mvFr] at hv';rw[ZG] at hv';cases e:lkp fr.sl t with
  | none=>rw[e] at hv';cases hv'
  | some v0 =>
   rw[e] at hv';cases hv';have h1:=h.slots t v0 e;cases v0 with
   | v ag cs=>exact V6 hq hq' hv hz h1
   | tup vs =>
    obtain⟨us,e1,h2⟩:=h1;exact⟨us,e1,Afk hq hq' hv hz h2⟩
   | grd c b ag cs =>
    obtain⟨k1,k2,k3⟩:=h1;exact⟨fun hb=>V6 hq hq' hv hz (k1 hb),k2,k3⟩
 ·intro i b' hb;obtain⟨b,hb0,rfl⟩:=hbx hb;obtain⟨k,o,h1,h2,h3,h4⟩:=h.boxes i b hb0;refine⟨k,o,h1,h2,?_,h4⟩;cases o with
  | cells c t z=>exact⟨h3.1,Ri hq hq' hv hz h3.2⟩
  | map es cl =>
   obtain⟨K,V,xs,e,r⟩:=h3;exact⟨K,V,xs,by simp only[e];rfl,r⟩
  | _=>exact h3.elim
 ·intro i j b1 b2 k h1 h2 ho;obtain⟨b1',h1',rfl⟩:=hbx h1;obtain⟨b2',h2',rfl⟩:=hbx h2;exact h.bdisj i j b1' b2' k h1' h2' ho
 ·intro i r qi j b k h1 h2 h3 h4 ho;obtain⟨b',h4',rfl⟩:=hbx h4;exact h.rbox i r qi j b' k h1 h2 h3 h4' ho
theorem Sim.putBox (h:Sim C big g a w) {i:Nat} {b:Bn} {k:Nat} (hi:big.bx i=none) (hown:b.own=true) (hk:g.β i=some k) (hb:Ch C g w b i)
  (hd:∀ j b',big.bx j=some b'→g.β j≠some k) (hr:∀ j r q,big.rw j=some r→r.m.mine=true→g.ρ j=some q→¬ q.F k) :
  Sim C { big with bx:=fun j=>if j=i then some b else big.bx j } g a w:=by
 refine { h with boxes:=?_,bdisj:=?_,rbox:=?_ }
 ·intro j b' hj;change (if j=i then some b else big.bx j)=some b' at hj;split at hj
  ·rename_i e;subst e;cases hj;exact hb
  ·exact h.boxes j b' hj
 ·intro i1 j1 b1 b2 k1 h1 h2 ho hk1 hk2;change (if i1=i then some b else big.bx i1)=some b1 at h1;change (if j1=i then some b else big.bx j1)=some b2 at h2;split at h1
  ·rename_i e1;subst e1;rw[hk] at hk1;cases hk1;split at h2
   ·rename_i e2;exact e2.symm
   ·exact absurd hk2 (hd _ _ h2)
  ·rename_i e1;split at h2
   ·rename_i e2;subst e2;rw[hk] at hk2;cases hk2;exact absurd hk1 (hd _ _ h1)
   ·exact h.bdisj i1 j1 b1 b2 k1 h1 h2 ho hk1 hk2
 ·intro j r q j' b' k' h1 m1 hq hb' ho' hk';change (if j'=i then some b else big.bx j')=some b' at hb';split at hb'
  ·rename_i e;subst e;rw[hk] at hk';cases hk';exact hr j r q h1 m1 hq
  ·exact h.rbox j r q j' b' k' h1 m1 hq hb' ho' hk'
theorem V7 {s:Sh} {l:List Sh} (x:s.T) (y:RT l):(RT.mk x y).hd=x:=by cases l<;>rfl
theorem V8 {s:Sh} {l:List Sh} (x:s.T) (y:RT l):(RT.mk x y).tl=y:=by cases l<;>rfl
theorem Alx (cs:List Value):Ay true cs=.agg cs.toArray:=rfl
theorem Lx {R:Type} {d:Option Nat} {v:AV} {u:Value} {k:Fr→Option R} {r:R} (hs:Sim C fr.f g a w) (hfit:Fit fr g) (hv:AVR C g a v u) (h:H9 fr d v k=some r) :
  ∃ fr',Sim C fr'.f g (a.put d u) w∧Fit fr' g∧k fr'=some r:=by
 unfold H9 at h;split at h
 ·rename_i fr' hp;obtain⟨sl,hsl,rfl⟩:∃ sl,NF fr.nt fr.sl d (some v)=some sl∧fr'={ fr with sl:=sl }:=by
   unfold EC at hp;split at hp
   ·rename_i sl hs';cases hp;exact⟨sl,hs',rfl⟩
   ·cases hp
  exact⟨{ fr with sl:=sl },hs.put (d:=d) (v:=some v) (u:=u) (sl':=sl) hsl (fun av e=>by cases e;exact hv),⟨hfit.β,hfit.ρ⟩,h⟩
 ·cases h
theorem DW {α:Type} (l:List (Option α)) (r:List α):at? (l++r.map some)=more l.length r (at? l):=by
 funext j;rw[Ef];unfold more;by_cases h:j<l.length
 ·rw[if_pos h,if_neg (by omega)]
 ·rw[if_neg h];by_cases h2:l.length≤j∧j<l.length+r.length
  ·rw[if_pos h2,BQ,Aqt];cases r[j-l.length]?<;>rfl
  ·have:at? (r.map some) (j-l.length)=none:=by
    rw[BQ,AqC (by simp;omega)]
    rfl
   rw[if_neg h2,this];cases hj:at? l j with
   | none=>rfl
   | some x=>exact absurd (A4 hj) h
theorem Afl {R:Type} (hE:AG C.P E) (hC:A9 C) (hs:Sim C fr.f g a w) (hfit:Fit fr g) {m:UD} {vs:List (Bool×List Lf)} {us:List Value} (hvs:B1 C g vs us) {f:Nat} (hS:Nd C.P f m)
  (o:Oper) (hrun:(execOp a.eval o).run C.P w=.ok (.enter f us.toArray) w) {k:Fr→Option R} {r:R} (h:AbC E fr m vs o.dst k=some r) {K:Act→World→Prop} {Q:Exit→Act→World→Prop}
  (hK:∀ fr' g' a' w',Sim C fr'.f g' a' w'→Fit fr' g'→k fr'=some r→K a' w'):o.wp C.P a w K Q:=by
 unfold AbC at h;split at h
 ·rename_i i vs';split at h
  ·rename_i b hb;cases hcond:(b.own&&(Bz b.cs&&(m.c.agg&&(m.c.data&&(m.ps.all (fun p=>p.1==.ro)&&m.rs.all Sh.data)))))
   ·rw[hcond] at h;cases h
   ·rw[hcond,cond_true] at h;simp only[Aql] at hcond;obtain⟨hown,hpl,hagg,hdata,hro,hrs⟩:=hcond;split at h
    ·rename_i rw1 h1;split at h
     ·rename_i x h2;obtain⟨y,hy,hput⟩:=Aq2.1 h;obtain⟨u0,t0,rfl,hu0,ht0⟩:=hvs;obtain⟨k0,hk,rfl⟩:=(hu0.to1:LfR C g (.box i 0) u0);have hbb:fr.f.bx i=some b:=hb;obtain⟨k',cur,t,hk',hh,hcr,hz,_⟩:=(hs.boxes i b hbb).toCells hpl;rw[hk] at hk';cases hk';have hz:=hz hown;have hs2:=hs.dropBox i;have hsub2:=(Sub.refl hs.up:Sub fr fr.f).dropBox i;have htup:B1 C g ((true,b.cs) :: vs') (Ay true cur.toList :: t0):=⟨_,_,rfl,⟨cur.toList,rfl,hcr,fun e=>by cases e⟩,ht0⟩
      have hT0:=hsub2.took;obtain⟨hT1,hlen⟩:=Cy htup (hs2.tab.took hT0) h1;obtain⟨Fs,eF,hA,hap,hh',hrd⟩:=C5 (g:=g) hE hC hs2 hsub2 (.inr rfl) htup hT0 h1 (hT0.trans hT1) h2;have hh'':∀ j,hands ((.mv,m.c) :: m.ps) Fs j→Own (at? fr.rw) g j∧¬ Own (at? rw1) g j:=hh';obtain⟨z,xs⟩:=x;obtain⟨u',us',F0,Fs',e1,e2,hlt,⟨cs,eu,hOC⟩,hA'⟩:=hA;injection e1 with e1 e3;subst e3;subst e2;have ecs:cs=cur.toList:=by
       rw[← e1,hagg,Alx,Alx] at eu;injection eu with eu;have:=congrArg Array.toList eu;simpa using this.symm
      subst ecs;have hF0:∀ j,F0 j→Own (at? fr.rw) g j∧¬ Own (at? rw1) g j:=fun j hj=>hh'' j (.inl ⟨rfl,hj⟩);have hF0k:∀ j,F0 j→j≠k0:=fun j hj e=>by
       subst e;exact Own.notBox hs (hF0 j hj).1 hbb hown hk
      have hF0z:∀ j,F0 j→C.w0.heap.size≤j∨C.S j:=fun j hj=>(Own.zone hs (hF0 j hj).1).1;have hRd:∀ j,Rd C { fr.f with bx:=fun j=>if j=i then none else fr.f.bx j } (at? rw1) g j→j≠k0∧¬ F0 j:=by
       intro j hj;refine⟨?_,fun hf=>(hF0 j hf).2 (Rd.not hC hs2 hj (hF0 j hf).1)⟩
       rintro rfl
       rcases hj with hj | hj | ⟨i',b',hb',ho',hk'⟩
       ·obtain⟨h5,h6⟩:=hC.R_lt j hj;exact hz.elim (fun h=>absurd h5 (Aq1.2 h)) h6
       ·exact Own.notBox hs (hj.took hT1) hbb hown hk
       ·change (if i'=i then none else fr.f.bx i')=some b' at hb';split at hb'
        ·cases hb'
        ·rename_i hne;exact hne (hs.bdisj i' i b' b j hb' hbb ho' hk' hk)
      unfold Oper.wp;rw[hrun,Oper.upon_enter];refine (hS w k0 cur t (z,xs) t0 Fs' F0 (hs.kept.tabs hC) (hC.free hz) (fun j hj=>hC.free (hF0z j hj)) hh hOC (fun j hj=>⟨hlt j hj,hF0k j hj⟩) hA' (fun F hF j hj=>hRd j (hrd j (.inr (J3 hro (NB hA') hF hj)))) y hy).mono fun e w' ⟨vs2,Gs,cs',t',G0,ee,hM,hh2,hO2,hG0,hV,hGs⟩=>?_;subst ee;have hT2:AX none (fr.f.rw) (at? rw1):=hT0.trans hT1;have s1:=hs2.rest hC hT2;have hDz:∀ j,(j=k0∨F0 j)→C.w0.heap.size≤j∨C.S j:=fun j hj=>hj.elim (fun e=>e▸hz) (hF0z j);have s2:=Sim.moves hC s1 hM hDz (fun i' r' q j hr' hm hq hF hj=>by
       have ho:Own (at? rw1) g j:=⟨i',r',q,hr',hm,hq,hF⟩;rcases hj with e | hj
       ·subst e;exact Own.notBox hs (ho.took hT1) hbb hown hk
       ·exact (hF0 j hj).2 ho) (fun i' b' j hb' ho' hk' hj=>by
       change (if i'=i then none else fr.f.bx i')=some b' at hb';split at hb'
       ·cases hb'
       ·rename_i hne;rcases hj with e | hj
        ·subst e;exact hne (hs.bdisj i' i b' b j hb' hbb ho' hk' hk)
        ·exact Own.notBox hs (hF0 j hj).1 hb' ho' hk')
      have old:∀ j,Own (at? rw1) g j→j<w.heap.size:=fun j hj=>(Own.zone hs (hj.took hT1)).2;have hbx:∀ j,(w.heap.size≤j∨F0 j)→∀ j2 b2,(if j2=i then none else fr.f.bx j2)=some b2→b2.own=true→g.β j2≠some j:=fun j h3 j2 b2 hb2 ho2 hk2=>by
       split at hb2
       ·cases hb2
       ·rcases h3 with h3 | h3
        ·exact absurd (hs.box_lt hb2 hk2) (Aq1.2 h3)
        ·exact Own.notBox hs (hF0 j h3).1 hb2 ho2 hk2
      have hzz:∀ j,(w.heap.size≤j∨F0 j)→C.w0.heap.size≤j∨C.S j:=fun j h3=>h3.elim (fun h=>.inl (AqE hs.kept.size h)) (hF0z j);have hno:∀ j,(w.heap.size≤j∨F0 j)→¬ Own (at? rw1) g j:=fun j h3 ho=>by
       rcases h3 with h3 | h3
       ·exact absurd (old j ho) (Aq1.2 h3)
       ·exact (hF0 j h3).2 ho
      obtain⟨g1,le1,AS,hβ1,s3,l1,o1,_⟩:=Sim.expandO m.c (n:=fr.rw.length) s2 hdata hO2 (fun j hj=>by
       obtain⟨h3,h4,h5,_⟩:=hG0 j hj;exact⟨h4,hzz j h3,hno j h3,hbx j h3⟩) (fun j h3 _=>hfit.ρ j h3)
      have hk2:g1.β i=some k0:=by rw[hβ1];exact hk
      have hk0n:¬ Own (at? rw1) g k0:=fun ho=>Own.notBox hs (ho.took hT1) hbb hown hk;have s4:=s3.putBox (i:=i) (b:=⟨true,(Aa .own m.c (RT.hd y) fr.rw.length).1⟩) (k:=k0) (if_pos rfl) rfl hk2 (Ch.ofCells ⟨k0,cs',t',hk2,hh2,l1,fun _=>hz,fun e=>by cases e⟩) (fun j b' hb' hk3=>by
       change (if j=i then none else fr.f.bx j)=some b' at hb';split at hb'
       ·cases hb'
       ·rename_i hne;rw[hβ1] at hk3;obtain⟨kk,oo,hkk,_,_,hoo,hnn⟩:=hs.boxes j b' hb';cases ho:b'.own with
        | true=>exact hne (hs.bdisj j i b' b k0 hb' hbb ho hk3 hk)
        | false =>
         rw[hk3] at hkk;cases hkk;obtain⟨h5,h6⟩:=hC.R_lt k0 (hnn ho);exact hz.elim (fun h=>absurd h5 (Aq1.2 h)) h6) (fun j r' q hr' hm hq hF=>by
       rcases o1 k0 ⟨j,r',q,hr',hm,hq,hF⟩ with h5 | h5
       ·exact hk0n h5
       ·exact (hG0 k0 h5).2.2.1 rfl)
      obtain⟨g2,le2,out2,hβ2,s5,ht⟩:=BK (rs:=m.rs) (n:=fr.rw.length+(Aa .own m.c (RT.hd y) fr.rw.length).2.length) s4 (fun s hs=>Aqn.1 hrs s hs) hV (fun G hGm j hj=>by
       obtain⟨h3,h4,h5⟩:=hGs G hGm j hj;refine⟨h4,hzz j h3,fun ho=>?_,fun j2 b2 hb2 ho2 hk3=>?_⟩
       ·rcases o1 j ho with h6 | h6
        ·exact hno j h3 h6
        ·exact (hG0 j h6).2.2.2 G hGm hj
       ·rw[hβ1] at hk3;change (if j2=i then some (⟨true,(Aa .own m.c (RT.hd y) fr.rw.length).1⟩:Bn) else (if j2=i then none else fr.f.bx j2))=some b2 at hb2;split at hb2
        ·rename_i e;subst e;rw[hk] at hk3;cases hk3;exact h5 rfl
        ·rename_i e;exact hbx j h3 j2 b2 (by rw[if_neg e];exact hb2) ho2 hk3) (fun j h3 _=>by rw[AS j (by omega)];exact hfit.ρ j (by omega))
      have hlen':rw1.length=fr.rw.length:=hlen;have eq1:(Av (m.c :: m.rs) y fr.rw.length).2=(Aa .own m.c (RT.hd y) fr.rw.length).2++(Av m.rs (RT.tl y) (fr.rw.length+(Aa .own m.c (RT.hd y) fr.rw.length).2.length)).2:=rfl;have eq2:(Av (m.c :: m.rs) y fr.rw.length).1.tail=(Av m.rs (RT.tl y) (fr.rw.length+(Aa .own m.c (RT.hd y) fr.rw.length).2.length)).1:=rfl;have hfr:Sim C ({ nt:=fr.nt,sl:=fr.sl,bx:=AL fr.bx i (some ⟨true,(Aa .own m.c (RT.hd y) fr.rw.length).1⟩),rw:=rw1++(Av (m.c :: m.rs) y fr.rw.length).2.map some }:Fr).f g2 a w':=by
       have e1:at? (rw1++(Av (m.c :: m.rs) y fr.rw.length).2.map some)=more (fr.rw.length+(Aa .own m.c (RT.hd y) fr.rw.length).2.length) (Av m.rs (RT.tl y) (fr.rw.length+(Aa .own m.c (RT.hd y) fr.rw.length).2.length)).2 (more fr.rw.length (Aa .own m.c (RT.hd y) fr.rw.length).2 (at? rw1)):=by
        rw[DW,hlen',eq1,CY]
       have e2:at? (AL fr.bx i (some ⟨true,(Aa .own m.c (RT.hd y) fr.rw.length).1⟩))=fun j=>if j=i then some (⟨true,(Aa .own m.c (RT.hd y) fr.rw.length).1⟩:Bn) else (if j=i then none else fr.f.bx j):=by
        funext j;rw[AK];have hi:i<fr.bx.length:=A4 hb;by_cases e:i=j
        ·subst e;rw[if_pos ⟨rfl,hi⟩,if_pos rfl]
        ·rw[if_neg (fun h=>e h.1),if_neg (fun h=>e h.symm),if_neg (fun h=>e h.symm)];rfl
       unfold Fr.f;rw[e1,e2];exact s5
      have hfit2:Fit ({ nt:=fr.nt,sl:=fr.sl,bx:=AL fr.bx i (some ⟨true,(Aa .own m.c (RT.hd y) fr.rw.length).1⟩),rw:=rw1++(Av (m.c :: m.rs) y fr.rw.length).2.map some }:Fr) g2:=by
       refine⟨fun j hj=>?_,fun j hj=>?_⟩
       ·rw[AR] at hj;rw[hβ2,hβ1];exact hfit.β j hj
       ·simp only[Aqs,AqD,hlen',eq1] at hj;rw[out2 j (by omega),AS j (by omega)]
        exact hfit.ρ j (by omega)
      obtain⟨fr',q1,q2,q3⟩:=Lx (u:=FQ vs2) hfr hfit2 (Hp ht) (by rw[← eq2];exact hput)
      exact hK _ _ _ _ q1 q2 q3
     ·cases h
    ·cases h
  ·cases h
 ·cases h
theorem Afm {R:Type} (hE:AG C.P E) (hC:A9 C) (hs:Sim C fr.f g a w) (hfit:Fit fr g) {m:H7} {vs:List (Bool×List Lf)} {us:List Value} (hvs:B1 C g vs us) {f:Nat} (hS:Nf C.P f m)
  (o:Oper) (hrun:(execOp a.eval o).run C.P w=.ok (.enter f us.toArray) w) {k:Fr→Option R} {r:R} (h:AbD E fr m vs o.dst k=some r) {K:Act→World→Prop} {Q:Exit→Act→World→Prop}
  (hK:∀ fr' g' a' w',Sim C fr'.f g' a' w'→Fit fr' g'→k fr'=some r→K a' w'):o.wp C.P a w K Q:=by
 unfold AbD at h;cases hcond:(m.c.data&&(m.ps.all (fun p=>p.1==.ro)&&m.rs.all Sh.data))
 ·rw[hcond] at h;cases h
 ·rw[hcond,cond_true] at h;simp only[Aql] at hcond;obtain⟨hdata,hro,hrs⟩:=hcond;split at h
  ·rename_i x h3;obtain⟨y,hy,h⟩:=Aq2.1 h;have hsub:Sub fr fr.f:=Sub.refl hs.up;have hT0:=hsub.took;obtain⟨Fs,eF,hA,_,_,hrd⟩:=C5 (g:=g) hE hC hs hsub (.inr rfl) hvs hT0 (G1 hro h3) hT0 h3;unfold Oper.wp;rw[hrun,Oper.upon_enter];refine (hS w x us Fs (hs.kept.tabs hC) hA y hy).mono fun e w' ⟨u,vs2,Gs,hone,ee,hM,hV,hG,hz⟩=>?_;subst ee;have h':=hs.quiet hC hM;have old:∀ j,Own fr.f.rw g j→j<w.heap.size:=fun j hj=>(Own.zone hs hj).2;have hfin:∀ {bx:List (Option Bn)} {g1:Sg} {nr:List Ac} {g2:Sg} {vs3:List (Bool×List Lf)},(∀ j,fr.rw.length+nr.length≤j→g2.ρ j=none)→(∀ j,bx.length≤j→g2.β j=none)→Sim C ({ nt:=fr.nt,sl:=fr.sl,bx:=bx,rw:=fr.rw++nr.map some }:Fr).f g2 a w'→B1 C g2 vs3 (u :: vs2) →
     H9 { nt:=fr.nt,sl:=fr.sl,bx:=bx,rw:=fr.rw++nr.map some } o.dst (one vs3) k=some r→K (a.put o.dst (FQ (u :: vs2))) w':=by
    intro bx g1 nr g2 vs3 f1 f2 hsim ht hput;obtain⟨fr',q1,q2,q3⟩:=Lx (u:=FQ (u :: vs2)) hsim ⟨f2,fun j hj=>f1 j (by simpa using hj)⟩ (Hp ht) hput
    exact hK _ _ _ _ q1 q2 q3
   cases hy1:y.1 with
   | none =>
    rw[hy1] at h;change H9 _ _ _ _=some r at h;obtain⟨g',le,out,hβ,hsim',ht⟩:=BK (n:=fr.rw.length) h' (fun s hs=>Aqn.1 hrs s hs) hV (fun G hGm j hj=>by
     obtain⟨h5,h6⟩:=hG G hGm j hj;exact⟨h6,.inl (AqE hs.kept.size h5),fun ho=>absurd (old j ho) (Aq1.2 h5),fun j2 b2 hb2 ho2 hk2=>absurd (hs.box_lt hb2 hk2) (Aq1.2 h5)⟩) (fun j h5 h6=>hfit.ρ j h5)
    refine hfin (g1:=g') (fun j hj=>?_) (fun j hj=>by rw[hβ];exact hfit.β j hj) (by unfold Fr.f;rw[DW];exact hsim') (show B1 C g' ((false,[.und]) :: (Av m.rs y.2 fr.rw.length).1) (u :: vs2) from⟨u,vs2,rfl,VR.of1 hone,ht⟩) h
    rw[out j (by omega)]
    exact hfit.ρ j (by omega)
   | some z =>
    rw[hy1] at h;change H9 _ _ _ _=some r at h;obtain⟨k0,cs,t,G0,eu,hk0,hheap,hO,hG0,hGk⟩:=hz z hy1;have hi:g.β fr.bx.length=none:=hfit.β _ (Aqr _);obtain⟨g1,le1,AS,hβ1,s3,l1,o1,_⟩:=Sim.expandO m.c (n:=fr.rw.length) h' hdata hO (fun j hj=>by
     obtain⟨h5,h6,_,_⟩:=hG0 j hj;exact⟨h6,.inl (AqE hs.kept.size h5),fun ho=>absurd (old j ho) (Aq1.2 h5),fun j2 b2 hb2 ho2 hk2=>absurd (hs.box_lt hb2 hk2) (Aq1.2 h5)⟩) (fun j h5 _=>hfit.ρ j h5)
    have hi1:g1.β fr.bx.length=none:=by rw[hβ1];exact hi
    have s4:=s3.newBox (i:=fr.bx.length) (b:=⟨true,(Aa .own m.c z fr.rw.length).1⟩) (k:=k0) hi1 (bx':=fun j=>if j=fr.bx.length then some ⟨true,(Aa .own m.c z fr.rw.length).1⟩ else fr.f.bx j) (fun _=>rfl)
     (Ch.ofCells ⟨k0,cs,t,Sg.box_at _ _ _,hheap,AC.mono (Sg.le_box hi1 k0) l1,fun _=>.inl (AqE hs.kept.size hk0),fun e=>by cases e⟩)
     ⟨fun j b hb hjk=>by rw[hβ1] at hjk;have:=hs.box_lt hb hjk;omega,fun _ j r' q hr' hm hq hF=>by
      rcases o1 k0 ⟨j,r',q,hr',hm,hq,hF⟩ with h5 | h5
      ·have:=old k0 h5;omega
      ·exact (hG0 k0 h5).2.2.1 rfl⟩
    have le12:=Sg.le_box hi1 k0;obtain⟨g2,le2,out2,hβ2,s5,ht⟩:=BK (rs:=m.rs) (n:=fr.rw.length+(Aa .own m.c z fr.rw.length).2.length) s4 (fun s hs=>Aqn.1 hrs s hs) hV (fun G hGm j hj=>by
     obtain⟨h5,h6⟩:=hG G hGm j hj;refine⟨h6,.inl (AqE hs.kept.size h5),fun ho=>?_,fun j2 b2 hb2 ho2 hk2=>?_⟩
     ·have ho':Own (more fr.rw.length (Aa .own m.c z fr.rw.length).2 fr.f.rw) g1 j:=by
       obtain⟨i',r',q,a1,a2,a3,a4⟩:=ho;exact⟨i',r',q,a1,a2,a3,a4⟩
      rcases o1 j ho' with h7 | h7
      ·exact absurd (old j h7) (Aq1.2 h5)
      ·exact (hG0 j h7).2.2.2 G hGm hj
     ·change (if j2=fr.bx.length then some (⟨true,(Aa .own m.c z fr.rw.length).1⟩:Bn) else fr.f.bx j2)=some b2 at hb2;split at hb2
      ·rename_i e;subst e;rw[Sg.box_at] at hk2;cases hk2;exact hGk G hGm hj
      ·rename_i e;rw[show (g1.box fr.bx.length k0).β j2=g1.β j2 from if_neg e,hβ1] at hk2
       exact absurd (hs.box_lt hb2 hk2) (Aq1.2 h5)) (fun j h5 _=>by
      show g1.ρ j=none;rw[AS j (by omega)]
      exact hfit.ρ j (by omega))
    have eq1:(Av (m.c :: m.rs) (RT.mk z y.2) fr.rw.length).2=(Aa .own m.c z fr.rw.length).2++(Av m.rs y.2 (fr.rw.length+(Aa .own m.c z fr.rw.length).2.length)).2:=by
     simp only[Av,V7,V8]
    have eq2:(Av (m.c :: m.rs) (RT.mk z y.2) fr.rw.length).1.tail=(Av m.rs y.2 (fr.rw.length+(Aa .own m.c z fr.rw.length).2.length)).1:=by
     simp only[Av,V7,V8,List.tail_cons]
    simp only[eq1,eq2] at h;refine hfin (g1:=g2) (fun j hj=>?_) (fun j hj=>?_) ?_ (show B1 C g2 ((false,[.box fr.bx.length 0]) :: (Av m.rs y.2 (fr.rw.length+(Aa .own m.c z fr.rw.length).2.length)).1) (u :: vs2) from⟨u,vs2,rfl,VR.of1 ⟨k0,by rw[hβ2];exact Sg.box_at _ _ _,eu⟩,ht⟩) h
    ·simp only[Aqs] at hj;rw[out2 j (by omega)]
     show g1.ρ j=none;rw[AS j (by omega)]
     exact hfit.ρ j (by omega)
    ·simp only[Aqs,Aq3,Ar5] at hj;rw[hβ2];show (g1.box fr.bx.length k0).β j=none;rw[show (g1.box fr.bx.length k0).β j=g1.β j from if_neg (by omega),hβ1]
     exact hfit.β j (by omega)
    ·have e1:at? (fr.rw++((Aa .own m.c z fr.rw.length).2++(Av m.rs y.2 (fr.rw.length+(Aa .own m.c z fr.rw.length).2.length)).2).map some)=more (fr.rw.length+(Aa .own m.c z fr.rw.length).2.length) (Av m.rs y.2 (fr.rw.length+(Aa .own m.c z fr.rw.length).2.length)).2 (more fr.rw.length (Aa .own m.c z fr.rw.length).2 (at? fr.rw)):=by
      rw[DW,CY]
     have e2:at? (fr.bx++[some (⟨true,(Aa .own m.c z fr.rw.length).1⟩:Bn)])=fun j=>if j=fr.bx.length then some ⟨true,(Aa .own m.c z fr.rw.length).1⟩ else fr.f.bx j:=by
      have:=DW fr.bx [(⟨true,(Aa .own m.c z fr.rw.length).1⟩:Bn)];simp only[Arh,List.map_nil] at this;rw[this,BE];rfl
     unfold Fr.f;rw[e1,e2];exact s5
  ·cases h
theorem Afn {R:Type} (hE:AG C.P E) (hC:A9 C) (hs:Sim C fr.f g a w) (hfit:Fit fr g) {m:H7} {vs:List (Bool×List Lf)} {us:List Value} (hvs:B1 C g vs us) {f:Nat} (hS:Ng C.P f m)
  (o:Oper) (hrun:(execOp a.eval o).run C.P w=.ok (.enter f us.toArray) w) {k:Fr→Option R} {r:R} (h:AbE E fr m vs o.dst k=some r) {K:Act→World→Prop} {Q:Exit→Act→World→Prop}
  (hK:∀ fr' g' a' w',Sim C fr'.f g' a' w'→Fit fr' g'→k fr'=some r→K a' w'):o.wp C.P a w K Q:=by
 unfold AbE at h;cases hcond:(m.c.data&&m.c.agg&&(m.ps.all (fun p=>p.1==.ro)&&m.rs.all Sh.data))
 ·rw[hcond] at h;cases h
 ·rw[hcond,cond_true] at h;simp only[Aql] at hcond;obtain⟨⟨hdata,hagg⟩,hro,hrs⟩:=hcond;split at h
  ·rename_i x h3;obtain⟨y,hy,h⟩:=Aq2.1 h;have hsub:Sub fr fr.f:=Sub.refl hs.up;have hT0:=hsub.took;obtain⟨Fs,eF,hA,_,_,hrd⟩:=C5 (g:=g) hE hC hs hsub (.inr rfl) hvs hT0 (G1 hro h3) hT0 h3;unfold Oper.wp;rw[hrun,Oper.upon_enter];refine (hS w x us Fs (hs.kept.tabs hC) hA y hy).mono fun e w' ⟨cs,vs2,Gs,hlen,hone,ee,hM,hV,hG,hz⟩=>?_;subst ee;have h':=hs.quiet hC hM;have old:∀ j,Own fr.f.rw g j→j<w.heap.size:=fun j hj=>(Own.zone hs hj).2;have hfin:∀ {bx:List (Option Bn)} {g1:Sg} {nr:List Ac} {g2:Sg} {vs3:List (Bool×List Lf)},(∀ j,fr.rw.length+nr.length≤j→g2.ρ j=none)→(∀ j,bx.length≤j→g2.β j=none)→Sim C ({ nt:=fr.nt,sl:=fr.sl,bx:=bx,rw:=fr.rw++nr.map some }:Fr).f g2 a w'→B1 C g2 vs3 (Ay true cs :: vs2) →
     H9 { nt:=fr.nt,sl:=fr.sl,bx:=bx,rw:=fr.rw++nr.map some } o.dst (one vs3) k=some r→K (a.put o.dst (FQ (Ay true cs :: vs2))) w':=by
    intro bx g1 nr g2 vs3 f1 f2 hsim ht hput;obtain⟨fr',q1,q2,q3⟩:=Lx (u:=FQ (Ay true cs :: vs2)) hsim ⟨f2,fun j hj=>f1 j (by simpa using hj)⟩ (Hp ht) hput
    exact hK _ _ _ _ q1 q2 q3
   cases hy1:y.1 with
   | none =>
    rw[hy1] at h;change H9 _ _ _ _=some r at h;obtain⟨g',le,out,hβ,hsim',ht⟩:=BK (n:=fr.rw.length) h' (fun s hs=>Aqn.1 hrs s hs) hV (fun G hGm j hj=>by
     obtain⟨h5,h6⟩:=hG G hGm j hj;exact⟨h6,.inl (AqE hs.kept.size h5),fun ho=>absurd (old j ho) (Aq1.2 h5),fun j2 b2 hb2 ho2 hk2=>absurd (hs.box_lt hb2 hk2) (Aq1.2 h5)⟩) (fun j h5 h6=>hfit.ρ j h5)
    have hund:∀ (cs:List Value),(∀ u∈cs,u.oneCell'=true)→AC C g' (List.replicate cs.length .und) cs:=by
     intro cs
     induction cs with
     | nil=>intro _;rfl
     | cons u cs ih=>intro h;exact⟨u,cs,rfl,h u (by simp),ih fun v hv=>h v (by simp[hv])⟩
    refine hfin (g1:=g') (fun j hj=>?_) (fun j hj=>by rw[hβ];exact hfit.β j hj) (by unfold Fr.f;rw[DW];exact hsim') (show B1 C g' ((true,List.replicate m.c.n .und) :: (Av m.rs y.2 fr.rw.length).1) (Ay true cs :: vs2) from⟨_,vs2,rfl,⟨cs,rfl,by rw[← hlen];exact hund cs hone,fun e=>by cases e⟩,ht⟩) h
    rw[out j (by omega)]
    exact hfit.ρ j (by omega)
   | some z =>
    rw[hy1] at h;change H9 _ _ _ _=some r at h;obtain⟨G0,hO,hG0⟩:=hz z hy1;have hV2:NN w' (m.c :: m.rs) (RT.mk z y.2) (Ay true cs :: vs2) (G0 :: Gs):=⟨_,vs2,G0,Gs,cs,rfl,rfl,by rw[hagg],by rw[V7];exact hO,fun j hj=>(hG0 j hj).2.2,by rw[V8];exact hV⟩
    obtain⟨g',le,out,hβ,hsim',ht⟩:=BK (n:=fr.rw.length) h' (fun s hs=>by
     rcases AqA.1 hs with rfl | hs
     ·exact hdata
     ·exact Aqn.1 hrs s hs) hV2 (fun G hGm j hj=>by
     have h56:w.heap.size≤j∧j<w'.heap.size:=by
      rcases AqA.1 hGm with rfl | hGm
      ·exact⟨(hG0 j hj).1,(hG0 j hj).2.1⟩
      ·exact hG G hGm j hj
     obtain⟨h5,h6⟩:=h56;exact⟨h6,.inl (AqE hs.kept.size h5),fun ho=>absurd (old j ho) (Aq1.2 h5),fun j2 b2 hb2 ho2 hk2=>absurd (hs.box_lt hb2 hk2) (Aq1.2 h5)⟩) (fun j h5 h6=>hfit.ρ j h5)
    refine hfin (g1:=g') (fun j hj=>?_) (fun j hj=>by rw[hβ];exact hfit.β j hj) (by unfold Fr.f;rw[DW];exact hsim') ht h
    rw[out j (by omega)]
    exact hfit.ρ j (by omega)
  ·cases h
theorem Rj {α:Type} (l:List (Option α)) (x:α):at? (l++[some x])=fun j=>if j=l.length then some x else at? l j:=by
 funext j;rw[Ef];by_cases h:j<l.length
 ·rw[if_pos h,if_neg (by omega)]
 ·rw[if_neg h];by_cases h2:j=l.length
  ·subst h2;rw[if_pos rfl,Ate];rfl
  ·rw[if_neg h2,BQ,BQ,AqC (by simp;omega),AqC (by omega)]
theorem AjW {e e1:Nat} {s1:Sh} {F:FP} {v:Value} {ps:List (Option (List s1.T))} (h:Bq e (.ol e1 s1) w F v ps) {k:Nat} {ys:List s1.T} (hk:ps[k]? = some (some ys)) :
  ∃ G u,Bq e (.ol e1 s1) w (fun b=>F b∧¬ G b) v (ps.set k none)∧Bq e1 s1 w G u ys∧(∀ b,G b→F b)∧∀ g0,v.ownBlock=some g0→w.cell? ⟨g0,k,none⟩=some u:=by
 obtain⟨css,ho,hl,hc,hb,G,hG,hd,hm⟩:=h;have hlt:k<css.length:=by rw[hl];exact (Aqz.1 hk).1
 have hck:css[k]? = some css[k]:=Aqo hlt;obtain⟨u,hu,hO⟩:=hm k _ _ hk hck;refine⟨G k,u,⟨css,by rw[Aq4];exact ho,by rw[Aq4];exact hl,hc,fun g0 hg=>⟨hb g0 hg,fun h=>(hG k g0 h).2 hg⟩,fun j b=>j≠k∧G j b,fun j b h=>⟨⟨(hG j b h.2).1,hd j k b h.1 h.2⟩,(hG j b h.2).2⟩,fun i j b hij h1 h2=>hd i j b hij h1.2 h2.2,fun j x c hx hcj=>?_⟩,hO,fun b h=>(hG k b h).1,fun g0 hg=>?_⟩
 ·by_cases hj:j=k
  ·subst hj;rw[Asw (by rw[← hl];exact hlt)] at hx
   cases hx;rw[hck] at hcj;cases hcj;obtain⟨h1,h2⟩:=hc _ (ArV hlt);exact⟨u,hu,h2 u (by rw[hu];simp)⟩
  ·rw[AsJ (fun e=>hj e.symm)] at hx;exact OC.mono (.ol e1 s1) (fun b h=>⟨hj,h⟩) (hm j x c hx hcj)
 ·rcases ho.2 with ⟨e0,_⟩ | ⟨g1,cap,cur,e0,_⟩
  ·rw[e0] at hg;cases hg
  ·rw[e0] at hg;cases hg;have:=ho.cells (g:=g1) (by rw[e0];rfl) (k*1+0) u (Et (fun c hc'=>(hc c hc').1) hck 0 u (by rw[hu];rfl))
   simpa[C1] using this
theorem T3 {R:Type} (hE:AG C.P E) (hC:A9 C) (hs:Sim C fr.f g a w) (hfit:Fit fr g) (o:Oper) (c:Call) (ho:o.op=.call c) (hb:c.callee=.builtin .append) (t:TypeId) (x y:Operand) (ha:c.args=#[x,y]) (hat:c.argTypes=#[t,t]) {lx ly:Lf} (hx:LfR C g lx (a.eval x)) (hy:LfR C g ly (a.eval y))
  {k:Fr→Option R} {r:R} (h:LN E fr t lx ly o.dst k=some r) {K:Act→World→Prop} {Q:Exit→Act→World→Prop}
  (hK:∀ fr' g' a' w',Sim C fr'.f g' a' w'→Fit fr' g'→k fr'=some r→K a' w'):o.wp C.P a w K Q:=by
 have run:∀ {v' w'},(Builtin.append_ #[t,t] o.type #[a.eval x,a.eval y]).run C.P w=.ok v' w'→(execOp a.eval o).run C.P w=.ok (.value v') w':=fun h=>by
  simp[execOp,ho,resolve,hb,ha,hat,invoke,builtin,h]
 unfold LN at h;split at h
 ·rename_i e s b i bb n0 hsl;obtain⟨hund,hT,hbb⟩:=GR hE hsl;split at h
  ·rename_i ei e1 s1 xs ow j hi hbx;split at h
   ·rename_i ej sj yj p kk hj;split at h
    ·rename_i ep e2 s2 ps hp;split at h
     ·rename_i h1;split at h
      ·rename_i h2;subst h1;subst h2;cases hc:(Nat.beq ei e&&Nat.beq e2 e1&&(ps.getD kk.toNat none).isSome&&Nat.ble (xs.length+1) (lim b))
       ·rw[hc] at h;cases h
       ·rw[hc,cond_true] at h;simp only[Aql] at hc;obtain⟨⟨⟨ce,ce1⟩,hsome⟩,hlim⟩:=hc;have ce:=Aqm ce;have ce1:=Aqm ce1;subst ce;subst ce1;have hlim:=CB hlim;obtain⟨ys,hys⟩:=Option.isSome_iff_exists.1 hsome;simp only[hys,ArD,E2] at h
        -- the rows
        obtain⟨qi,Ai,ni,ci,hqi,hvi,hzi,hli,hOi,hzoi⟩:=hs.rows i _ hi;obtain⟨qp,Ap,np,cp,hqp,hvp,hzp,hlp,hOp,hzop⟩:=hs.rows p _ hp;have hux:a.eval x=qi.v:=by
         obtain⟨q,A,n,c,hq,hv,hu⟩:=hx;have hq':g.ρ i=some q:=hq;rw[hqi] at hq';cases hq';rw[hu,hv]
        have hpi:i≠p:=fun e=>by
         subst e;rw[hi] at hp;cases hp
        -- the element
        obtain⟨qj,Aj,nj,cj,hqj,hvj,hzj,hlj,hZj⟩:=hs.rows j _ hj;obtain⟨_,r',q',hr',_,hq',_,hpath⟩:=hZj;have hr'':at? fr.rw p=some r':=hr';rw[hp] at hr'';cases hr'';rw[hqp] at hq';cases hq';obtain⟨A',n',c',ev,hk0,hkn,_,hcell⟩:=hpath kk 0 rfl;obtain⟨A'',c'',ev2,_⟩:=BO (Sim.expandO.OwnL_owns hOp);have hn':n'=ps.length:=by rw[ev] at ev2;injection ev2
        have hkl:kk.toNat<ps.length:=by omega
        have hkk:ps[kk.toNat]? = some (some ys):=by
         rw[← hys];exact getD_some ps kk.toNat none hkl
        obtain⟨G,u,hO1,hO2,hGF,hcu⟩:=AjW hOp hkk;have hA':∃ g0,A'=⟨g0,0,none⟩∧qp.v.ownBlock=some g0:=by
         rcases (Sim.expandO.OwnL_owns hOp).2 with ⟨e0,_⟩ | ⟨g1,cap,cur,e0,_⟩
         ·rw[ev] at e0;cases e0
         ·rw[ev] at e0;injection e0 with e0 _ _;injection e0 with e0;exact⟨g1,e0,by rw[ev,e0];rfl⟩
        obtain⟨g0,eA,hg0⟩:=hA';have huj:u=qj.v:=by
         have h1:=hcu g0 hg0;rw[eA,show kk.toNat*(Sh.ol e2 s2).n+0=kk.toNat by simp[Sh.n],C1,h1] at hcell
         cases hcell;rfl
        -- the box
        obtain⟨kb,cs,ty,hβ,hheap,hL,_⟩:=(hs.boxes bb _ hbx).toCells rfl;have hcs:cs.toList=[u]:=by
         obtain⟨u',t',e',⟨q,A,n,c,hq,hv,hu⟩,ht⟩:=hL;cases ht;rw[hqj] at hq;cases hq;rw[e',hu,← hv,huj]
        have huy:a.eval y=.slice (some ⟨kb,0,none⟩) 1 1:=by
         obtain⟨k',hk',hu⟩:=hy;have hk'':g.β bb=some k':=hk';rw[hβ] at hk'';cases hk'';exact hu
        have hdij:∀ b,qp.F b→¬ qi.F b:=fun b h1 h2=>hpi (hs.rdisj i p _ _ qi qp b hi hp rfl rfl hqi hqp h2 h1);have hu1:u.oneCell'=true:=by
         obtain⟨A,c,e,_⟩:=BO (Sim.expandO.OwnL_owns hO2);rw[e];rfl
        -- the machine's FN
        obtain⟨v',w',hr,hmv,hsl',hO⟩:=DG (C:=C) (ty:=o.type) hund hT hbb hOi (A:=some ⟨kb,0,none⟩) (c:=1) (css:=[[u]]) (ys:=[ys]) rfl
         (fun d hd=>by rw[Ara.1 hd];exact⟨rfl,fun x hx=>by rw[Ara.1 hx];exact hu1⟩)
         (fun _=>⟨_,rfl,fun j x hx=>by
          cases j with
          | zero =>
           have hx:u=x:=by simpa using hx
           subst hx;rw[C1,cell_of_row w kb 0 cs ty (0,0) hheap];have:cs.toList[0]? = some u:=by rw[hcs];rfl
           simpa using this
          | succ j=>simp at hx⟩) hlim G (fun j b=>j=0∧G b) (fun j b h=>⟨h.2,hlp b (hGF b h.2),hdij b (hGF b h.2)⟩) (fun i j b hij h1 h2=>hij (h1.1.trans h2.1.symm))
         (fun j z d hz hd=>by
          cases j with
          | zero =>
           have hz:ys=z:=by simpa using hz
           have hd:[u]=d:=by simpa using hd
           subst hz;subst hd;exact OC.mono (.list e2 s2) (fun b h=>⟨rfl,h⟩) ⟨u,rfl,hO2⟩
          | succ j=>simp at hz) (fun b hb=>hli b hb)
        rw[← hux,show Value.slice (some ⟨kb,0,none⟩) [ys].length 1=a.eval y from huy.symm] at hr
        -- the row is divided
        have hN:g.ρ fr.rw.length=none:=hfit.ρ _ (Aqr _);have hN1:g.ρ (fr.rw.length+1)=none:=hfit.ρ _ (by omega)
        have hN2:g.ρ (fr.rw.length+2)=none:=hfit.ρ _ (by omega)
        have hT0:AX none (at? fr.rw) (at? (Ae p (AL fr.rw p none))):=BN hp rfl _ (.inl rfl);have l0:(Ae p (AL fr.rw p none)).length=fr.rw.length:=by rw[Bh,AR]
        have gp:∀ r',at? (Ae p (AL fr.rw p none)) p=some r'→r'.m.mine=false:=by
         intro r' h;rw[Aq,AK,if_pos ⟨rfl,A4 hp⟩] at h;cases h.1
        have ownp:∀ {b},qp.F b→Own (at? fr.rw) g b∧¬ Own (at? (Ae p (AL fr.rw p none))) g b:=fun hb=>Own.gone hs.tab hT0 hp rfl hqp gp hb;have z1:=Sim.rest hC hs hT0;have hi0:at? (Ae p (AL fr.rw p none)) i=some ⟨ei,.list e2 s2,xs,.own⟩:=by
         rw[Aq,AK,if_neg (fun h=>hpi h.1.symm)];exact⟨hi,fun _ _ e=>by cases e⟩
        have hiN:i<fr.rw.length:=A4 hi;generalize hrw0:Ae p (AL fr.rw p none)=rw0 at *;have z2:=z1.newRow (i:=fr.rw.length) (rw':=fun j=>if j=fr.rw.length then some ⟨ep,.ol e2 s2,ps.set kk.toNat none,.own⟩ else at? rw0 j) (q:=⟨qp.v,fun b=>qp.F b∧¬ G b,1⟩) hN (fun _=>rfl)
         ⟨_,_,_,_,Sg.row_at _ _ _,ev,rfl,fun b hb=>hlp b hb.1,⟨hO1,fun b hb=>hzop b hb.1⟩⟩
         (fun _ b hb=>⟨fun j r' q' hj hm hq hk'=>(ownp hb.1).2 ⟨j,r',q',hj,hm,hq,hk'⟩,fun j b' hb' ho'=>Own.notBox hs (ownp hb.1).1 hb' ho'⟩)
        obtain⟨Au,cu,evu,_⟩:=BO (Sim.expandO.OwnL_owns hO2);have z3:=z2.newRow (i:=fr.rw.length+1) (rw':=fun j=>if j=fr.rw.length+1 then some ⟨e2,s2,ys,.own⟩ else if j=fr.rw.length then some ⟨ep,.ol e2 s2,ps.set kk.toNat none,.own⟩ else at? rw0 j) (q:=⟨u,G,s2.n⟩) (by rw[Sg.row_ne _ _ (by omega)];exact hN1) (fun _=>rfl)
         ⟨_,_,_,_,Sg.row_at _ _ _,evu,rfl,fun b hb=>hlp b (hGF b hb),⟨hO2,fun b hb=>hzop b (hGF b hb)⟩⟩
         (fun _ b hb=>⟨fun j r' q' hj hm hq hk'=>by
          change (if j=fr.rw.length then some _ else at? rw0 j)=some r' at hj;split at hj
          ·rename_i ej;subst ej;rw[Sg.row_at] at hq;cases hq;exact hk'.2 hb
          ·rename_i ej;rw[Sg.row_ne _ _ ej] at hq;exact (ownp (hGF b hb)).2 ⟨j,r',q',hj,hm,hq,hk'⟩,fun j b' hb' ho'=>Own.notBox hs (ownp (hGF b hb)).1 hb' ho'⟩)
        have eA:at? (rw0++[some ⟨ep,.ol e2 s2,ps.set kk.toNat none,.own⟩,some ⟨e2,s2,ys,.own⟩])=fun j=>if j=fr.rw.length+1 then some ⟨e2,s2,ys,.own⟩ else if j=fr.rw.length then some ⟨ep,.ol e2 s2,ps.set kk.toNat none,.own⟩ else at? rw0 j:=by
         have:rw0++[some ⟨ep,.ol e2 s2,ps.set kk.toNat none,.own⟩,some ⟨e2,s2,ys,.own⟩]=(rw0++[some (⟨ep,.ol e2 s2,ps.set kk.toNat none,.own⟩:Ac)])++[some ⟨e2,s2,ys,.own⟩]:=by simp
         rw[this,Rj,Rj,Aqs,l0];rfl
        have lA:(rw0++[some (⟨ep,.ol e2 s2,ps.set kk.toNat none,.own⟩:Ac),some ⟨e2,s2,ys,.own⟩]).length=fr.rw.length+2:=by simp[l0]
        rw[← eA] at z3;generalize hrwA:rw0++[some (⟨ep,.ol e2 s2,ps.set kk.toNat none,.own⟩:Ac),some ⟨e2,s2,ys,.own⟩]=rwA at *;have hiA:at? rwA i=some ⟨ei,.list e2 s2,xs,.own⟩:=by rw[eA];simp only[if_neg (show ¬ i=fr.rw.length+1 by omega),if_neg (show ¬ i=fr.rw.length by omega)];exact hi0
        have hnA:at? rwA (fr.rw.length+1)=some ⟨e2,s2,ys,.own⟩:=by rw[eA];simp only[if_true]
        have hT1:AX none (at? rwA) (at? (Ae i (AL rwA i none))):=BN hiA rfl _ (.inl rfl);have hp1:at? (Ae i (AL rwA i none)) (fr.rw.length+1)=some ⟨e2,s2,ys,.own⟩:=by
         rw[Aq,AK,if_neg (fun h=>by omega)]
         exact⟨hnA,fun _ _ e=>by cases e⟩
        have hT2:=hT1.trans (BN hp1 rfl _ (.inl rfl):AX none _ (at? (Ae (fr.rw.length+1) (AL (Ae i (AL rwA i none)) (fr.rw.length+1) none))));have gone1:at? (Ae (fr.rw.length+1) (AL (Ae i (AL rwA i none)) (fr.rw.length+1) none)) i=none:=by
         cases h:at? (Ae (fr.rw.length+1) (AL (Ae i (AL rwA i none)) (fr.rw.length+1) none)) i with
         | none=>rfl
         | some r =>
          rw[Aq,AK,if_neg (fun h=>by omega),Aq,AK,if_pos ⟨rfl,A4 hiA⟩] at h
          cases h.1.1
        have gone2:∀ r',at? (Ae (fr.rw.length+1) (AL (Ae i (AL rwA i none)) (fr.rw.length+1) none)) (fr.rw.length+1)=some r'→r'.m.mine=false:=by
         intro r' h;rw[Aq,AK,if_pos ⟨rfl,A4 hp1⟩] at h;cases h.1
        have lB:(Ae (fr.rw.length+1) (AL (Ae i (AL rwA i none)) (fr.rw.length+1) none)).length=fr.rw.length+2:=by rw[Bh,AR,Bh,AR,lA]
        have qi3:((g.row fr.rw.length ⟨qp.v,fun b=>qp.F b∧¬ G b,1⟩).row (fr.rw.length+1) ⟨u,G,s2.n⟩).ρ i=some qi:=by rw[Sg.row_ne _ _ (by omega),Sg.row_ne _ _ (by omega)];exact hqi
        have z4:=H3 (rw':=at? (Ae (fr.rw.length+1) (AL (Ae i (AL rwA i none)) (fr.rw.length+1) none))) (N:=fr.rw.length+2) hC z3 hiA rfl (by rw[Sg.row_ne _ _ (by omega),Sg.row_ne _ _ (by omega)];exact hN2) hT2 gone1 qi3 hmv hsl' (FF:=G)
         (fun b hb=>Own.gone z3.tab hT2 hnA rfl (Sg.row_at _ _ _) gone2 hb) hO
        generalize Ae (fr.rw.length+1) (AL (Ae i (AL rwA i none)) (fr.rw.length+1) none)=rwB at *;generalize hg4:((g.row fr.rw.length ⟨qp.v,fun b=>qp.F b∧¬ G b,1⟩).row (fr.rw.length+1) ⟨u,G,s2.n⟩).row (fr.rw.length+2) _=g4 at z4;have ρ4:∀ j,j<fr.rw.length→g4.ρ j=g.ρ j:=fun j hj=>by rw[← hg4,Sg.row_ne _ _ (by omega),Sg.row_ne _ _ (by omega),Sg.row_ne _ _ (by omega)]
        have z5:Sim C ({ nt:=fr.nt,sl:=fr.sl,bx:=fr.bx,rw:=rwB++[some ⟨ei,.list e2 s2,xs++[ys],.own⟩] }:Fr).f g4 a w':=by
         unfold Fr.f;rw[Rj,lB];exact z4
        have z6:=z5.mvFr (p:=p) (n:=fr.rw.length) (q:=qp) (q':=⟨qp.v,fun b=>qp.F b∧¬ G b,1⟩) (by rw[ρ4 p (A4 hp)];exact hqp) (by rw[← hg4,Sg.row_ne _ _ (by omega),Sg.row_ne _ _ (by omega),Sg.row_at]) rfl hzp.symm
        have f6:Fit (X.mvFr p fr.rw.length { nt:=fr.nt,sl:=fr.sl,bx:=fr.bx,rw:=rwB++[some ⟨ei,.list e2 s2,xs++[ys],.own⟩] }) g4:=by
         refine⟨fun j hj=>?_,fun j hj=>?_⟩
         ·simp only[X.mvFr,AqD] at hj;rw[← hg4];exact hfit.β j hj
         ·simp only[X.mvFr,Aqs,lB,Ar9] at hj;rw[← hg4,Sg.row_ne _ _ (by omega),Sg.row_ne _ _ (by omega),Sg.row_ne _ _ (by omega)]
          exact hfit.ρ j (by omega)
        obtain⟨A3,m3,c3,e3⟩:=hsl';have hv:AVR C g4 a (.l (.row (fr.rw.length+2))) v':=VR.of1 ⟨_,A3,m3,c3,by rw[← hg4];exact Sg.row_at _ _ _,e3,e3⟩
        obtain⟨fr',t1,t2,t3⟩:=Lx z6 f6 hv h;unfold Oper.wp;rw[run hr];exact hK _ _ _ _ t1 t2 t3
      ·cases h
     ·cases h
    ·cases h
   ·cases h
  ·cases h
 ·cases h
theorem Am6 {R:Type} (hE:AG C.P E) (hC:A9 C) {o:Oper} {k:Fr→Option R} {r:R} (hs:Sim C fr.f g a w) (hfit:Fit fr g) (h:opX E o fr k=some r) {K:Act→World→Prop} {Q:Exit→Act→World→Prop}
  (hK:∀ fr' g' a' w',Sim C fr'.f g' a' w'→Fit fr' g'→k fr'=some r→K a' w'):o.wp C.P a w K Q:=by
 unfold opX at h;split at h
 ·rename_i c ho;split at h
  ·rename_i x hx;split at h
   ·rename_i f vs h1 h2;have hc:Holds a []:=fun p hp=>by cases hp
    obtain⟨us,e,hcap⟩:=As hs hc h1;cases (hcap:us=[]);have hvs:=C6 hs hc h2;have hrun:Cs C.P f→(execOp a.eval o).run C.P w=.ok (.enter f (c.args.toList.map a.eval).toArray) w:=fun hR=>by
     have:=BF (w:=w) hR o c ho hx e;simpa using this
    split at h
    ·rename_i m hm;obtain⟨hS,hR⟩:=hE.qf f m hm;exact Afl hE hC hs hfit hvs hS o (hrun hR) h hK
    ·split at h
     ·rename_i m hm;obtain⟨hS,hR⟩:=hE.cf f m hm;exact Afm hE hC hs hfit hvs hS o (hrun hR) h hK
     ·split at h
      ·rename_i m hm;obtain⟨hS,hR⟩:=hE.xf f m hm;exact Afn hE hC hs hfit hvs hS o (hrun hR) h hK
      ·cases h
   ·cases h
  ·rename_i hcal;split at h
   ·rename_i x y t t' hxs hts;split at h
    ·rename_i v u h1 h2;have hc:Holds a []:=fun p hp=>by cases hp
     cases ht:Nat.beq t t'
     ·rw[ht] at h;cases h
     ·rw[ht,cond_true] at h;have:=Aqm ht;subst this;exact T3 hE hC hs hfit o c ho hcal t x y (by rw[← Aqw (xs:=c.args),hxs]) (by rw[← Aqw (xs:=c.argTypes),hts]) (As hs hc h1) (As hs hc h2) h hK
    ·cases h
   ·cases h
  ·cases h
 ·cases h
end Go.Proofs.YteheolldcpjkcaaGreat.X
