/- A function's end: its results, and what was written in place. -/
import Derived.Test.YteheolldcpjkcaaGreatQzXFun
import Derived.Laws.Sem
set_option linter.unusedSimpArgs false
set_option linter.unusedVariables false
set_option linter.unusedSectionVars false
namespace Go.Proofs.YteheolldcpjkcaaGreat.X
open Go Go.RowKit
variable [CW]
variable {C:Cx} {fr:Fr} {big:FF} {g:Sg} {a:Act} {w w':World} {E:Env}
def AcE (P:Program) (a:Act) (w:World) (r:ResultVar) (v:Value):Prop :=
 match r with
 | .tmp t=>v=a.tmps.getD t undef
 | .cell b t=>∃ A,a.tmps.getD b undef=.pointer (some A)∧(loadVar t A).run P w=.ok v w
def Uw (P:Program) (a:Act) (w:World):List ResultVar→List Value→Prop
 | [],vs=>vs=[]
 | r :: l,vs=>∃ v vs',vs=v :: vs'∧AcE P a w r v∧Uw P a w l vs'
theorem Qd {P:Program} {f:ResultVar→Sem Value} {w:World}:∀ {l:List ResultVar} {vs:List Value},Uw P a w l vs→(∀ x v,AcE P a w x v→(f x).run P w=.ok v w)→(l.mapM f).run P w=.ok vs w
 | [],_,h,_=>by cases h;simp
 | r :: l,_,⟨v,vs',e,h1,h2⟩,hf=>by
  subst e;rw[Ale];simp only[AiN,hf r v h1,AiJ,Qd h2 hf,Ai4]
theorem Qe {P:Program} {fn:Func} {vs:List Value} (h:Uw P a w fn.results.toList vs):(results fn a.tmps).run P w=.ok (FI vs) w:=by
 have key:∀ {f:ResultVar→Sem Value},(∀ x v,AcE P a w x v→(f x).run P w=.ok v w)→(fn.results.mapM f).run P w=.ok vs.toArray w:=by
  intro f hf;have:=Qd (f:=f) h hf;rw[← AiO (xs:=fn.results),List.mapM_toArray,map_eq_pure_bind];simp only[AiN,this,AiJ,Ai4]
 unfold results;simp only[AiN];rw[key (fun x v hv=>?_)]
 ·simp only[AiJ,Ai4];cases vs with
  | nil=>rfl
  | cons v vs =>
   cases vs with
   | nil=>simp[FI]
   | cons u us=>simp[FI]
 ·cases x with
  | tmp t=>cases hv;simp
  | cell b t =>
   obtain⟨A,h5,h6⟩:=hv;have h7:a.tmps[b]?.getD undef=.pointer (some A):=by rw[← h5];simp
   simp[h7,asAddr,h6]
theorem AfM {m:Option Nat}:∀ x:Md,((x==Md.own)=true)→x.mine=true∧(m≠none→x=.own):=fun x h=>by
 have:x=.own:=by simpa using h
 subst this;exact⟨rfl,fun _=>rfl⟩
theorem AcF (hE:AA C.P E) (hs:Sim C fr.f g a w) {s:Sh} {r:ResultVar} {cs:List Lf} (h:V3 E fr s r=some cs):∃ us,AcE C.P a w r (Ao s.agg us)∧Aq C g cs us:=by
 cases r with
 | tmp t =>
  simp only[V3] at h;split at h
  ·rename_i ag cs' hl;cases hag:(s.agg==ag)
   ·rw[hag] at h;cases h
   ·rw[hag,cond_true] at h;cases h;have hag':s.agg=ag:=by simpa using hag
    subst hag';obtain⟨us,e,hr,_⟩:=hs.slots t _ hl;exact⟨us,e.symm,hr⟩
  ·cases h
 | cell b t =>
  simp only[V3] at h;split at h
  ·rename_i i tt hl hty;cases hd:decide (tt.sh=s)
   ·rw[hd] at h;cases h
   ·rw[hd,cond_true] at h;have hd':tt.sh=s:=by simpa using hd
    subst hd';split at h
    ·rename_i bx hb;cases hln:(BA bx.cs&&Nat.beq bx.cs.length tt.sh.n)
     ·rw[hln] at h;cases h
     ·rw[hln,cond_true] at h;cases h;simp only[AiG] at hln;have hln':=AiH hln.2;obtain⟨us,e,hr,_⟩:=hs.slots b _ hl;obtain⟨u,t',rfl,⟨k,hk,rfl⟩,ht⟩:=hr;cases ht;obtain⟨k',us',t',hk',hh,hr',_⟩:=(hs.boxes i bx hb).toCells hln.1;rw[hk] at hk';cases hk';have hT:=(hE.ty _ _ hty).ok;refine⟨us'.toList,⟨⟨k,0,none⟩,e,?_⟩,hr'⟩;exact CA hT w _ _ (by rw[hr'.len,hln']) (fun i u hu=>by
       rw[Addr.add_mid k 0 i,cell_of_row w k (0+i) us' t' (0,0) hh];rw[← hu];simp)
    ·cases h
  ·cases h
theorem AdW {s:Sh} {l:List Sh} (x:s.T) (y:RT l):(RT.mk x y).hd=x:=by cases l<;>rfl
theorem AdX {s:Sh} {l:List Sh} (x:s.T) (y:RT l):(RT.mk x y).tl=y:=by cases l<;>rfl
theorem Qf (hE:AA C.P E) (hs:Sim C fr.f g a w):∀ {l:List ResultVar} {rs:List Sh} {rw rw':List (Option Ab)} {z:RT rs},Er E fr l rs rw=some (z,rw')→AK none (at? fr.rw) (at? rw) →
  ∃ vs Gs,Uw C.P a w l vs∧KS w rs z vs Gs∧AK none (at? rw) (at? rw')∧∀ G∈Gs,∀ k,G k→Own (at? rw) g k∧¬ Own (at? rw') g k
 | [],[],rw,rw',z,h,hT=>by
  cases h;exact⟨[],[],rfl,⟨rfl,rfl⟩,AK.refl _ _,by simp⟩
 | r :: l,s :: rs,rw,rw',z,h,hT=>by
  simp only[Er] at h;split at h
  ·rename_i cs hr;split at h
   ·rename_i x rw1 ht;split at h
    ·rename_i y rw2 ho;cases h;obtain⟨us,h1,h2⟩:=AcF hE hs hr;obtain⟨_,t1,c1,c2,e,hr2,hO⟩:=AS (AfM (m:=none)) s ht h2 (hs.tab.took hT);cases hr2;have e':us=c1:=by simpa using e
     subst e';obtain⟨vs,Gs,h3,h4,t2,h5⟩:=Qf hE hs ho (hT.trans t1);refine⟨_ :: vs,(fun k=>Own (at? rw) g k∧¬ Own (at? rw1) g k) :: Gs,⟨_,vs,rfl,h1,h3⟩,⟨_,vs,_,Gs,us,rfl,rfl,rfl,?_,?_,?_⟩,t1.trans t2,?_⟩
     ·rw[AdW];exact hO
     ·exact fun k hk G hG hk'=>hk.2 (h5 G hG k hk').1
     ·rw[AdX];exact h4
     ·intro G hG k hk;rcases AiS.1 hG with rfl | hG
      ·exact⟨hk.1,fun h6=>hk.2 (h6.took t2)⟩
      ·obtain⟨h6,h7⟩:=h5 G hG k hk;exact⟨h6.took t1,h7⟩
    ·cases h
   ·cases h
  ·cases h
 | [],_ :: _,_,_,_,h,_=>by cases h
 | _ :: _,[],_,_,_,h,_=>by cases h
theorem CP {rw:List (Option Ab)}:(s:Sh)→∀ {n:Nat} {x y:s.T},Gr rw s n x=some y→∀ j,n≤j→j<n+AY s→∃ r,at? rw j=some r∧r.m=.io
 | .int _,n,x,y,h,j,h1,h2 | .bool,n,x,y,h,j,h1,h2 | .str,n,x,y,h,j,h1,h2=>by simp[AY] at h2;omega
 | .fn1 _ _,n,x,y,h,j,h1,h2 | .fn2 _ _ _,n,x,y,h,j,h1,h2 | .ol _ _,n,x,y,h,j,h1,h2=>by cases h
 | .list e s,n,x,y,h,j,h1,h2=>by
  have:j=n:=by simp[AY] at h2;omega
  subst this;simp only[Gr] at h;split at h
  ·rename_i q hq;split at h
   ·cases hm:(q.m==Md.io)
    ·rw[hm] at h;cases h
    ·exact⟨q,hq,by simpa using hm⟩
   ·cases h
  ·cases h
 | .cons a b,n,x,y,h,j,h1,h2=>by
  simp only[Gr] at h;split at h
  ·rename_i x1 y1 e1 e2;simp only[AY] at h2;by_cases hj:j<n+AY a
   ·exact CP a e1 j h1 hj
   ·exact CP b e2 j (by omega) (by omega)
  ·cases h
def IoZ (C:Cx) (n m:Nat):FP:=fun k=>∃ j q,n≤j∧j<n+m∧C.io j=some q∧q.F k
theorem Ku (hs:Sim C fr.f g a w) {rw:List (Option Ab)} (hT:AK none (at? fr.rw) (at? rw)) {C0:Cx} {g0:Sg} (hJ:∀ j q,C.io j=some q→g0.ρ j=some q):(s:Sh)→∀ {n:Nat} {x y:s.T} {cs:List Value},Gr rw s n x=some y→Aq C0 g0 (Aa .io s x n).1 cs→OC s w (IoZ C n (AY s)) y cs
 | .int _,n,x,y,cs,h,hl | .bool,n,x,y,cs,h,hl | .str,n,x,y,cs,h,hl=>by
  cases h;obtain⟨u,t,rfl,hu,ht⟩:=hl;cases hu;cases ht;rfl
 | .fn1 _ _,n,x,y,cs,h,hl | .fn2 _ _ _,n,x,y,cs,h,hl | .ol _ _,n,x,y,cs,h,hl=>by cases h
 | .list e s,n,x,y,cs,h,hl=>by
  obtain⟨u,t,rfl,⟨q0,A0,n0,c0,hq0,hv0,hu0⟩,ht⟩:=hl;cases ht;simp only[Gr] at h;split at h
  ·rename_i r hr;split at h
   ·rename_i he;cases hm:(r.m==Md.io)
    ·rw[hm] at h;cases h
    ·rw[hm,cond_true] at h;split at h
     ·rename_i hs';cases h;have hm':r.m=.io:=by simpa using hm
      have hr':=hT.mine hr (by rw[hm'];rfl)
      obtain⟨q,A,m,c,hq,hv,hz,hlt,hZ⟩:=hs.rows n r hr';rw[BC,hm'] at hZ;obtain⟨hO,_,hio⟩:=hZ;have:=hJ n q hio;rw[hq0] at this;cases this;obtain⟨e0,s0,xs0,m0⟩:=r;simp only at he hs' hO;subst he;subst hs';refine⟨u,rfl,?_⟩;rw[hu0,← hv0];exact A5.mono (fun k hk=>⟨n,q0,AiK _,by simp[AY],hio,hk⟩) hO
     ·cases h
   ·cases h
  ·cases h
 | .cons s t,n,x,y,cs,h,hl=>by
  simp only[Gr] at h;split at h
  ·rename_i x1 y1 e1 e2;cases h;obtain⟨c1,c2,rfl,l1,l2⟩:=Aq.split hl;rw[Bt s] at l2;refine⟨c1,c2,rfl,IoZ C n (AY s),IoZ C (n+AY s) (AY t),?_,?_,?_,Ku hs hT hJ s e1 l1,Ku hs hT hJ t e2 l2⟩
   ·rintro k ⟨j,q,h1,h2,h3,h4⟩
    exact⟨j,q,h1,by simp[AY];omega,h3,h4⟩
   ·rintro k ⟨j,q,h1,h2,h3,h4⟩
    exact⟨j,q,by omega,by simp[AY];omega,h3,h4⟩
   ·rintro k ⟨j,q,h1,h2,h3,h4⟩ ⟨j',q',h1',h2',h3',h4'⟩
    obtain⟨r,a1,a2⟩:=CP s e1 j h1 h2;obtain⟨r',b1,b2⟩:=CP t e2 j' h1' h2';have a3:=hT.mine a1 (by rw[a2];rfl)
    have b3:=hT.mine b1 (by rw[b2];rfl)
    obtain⟨qa,_,_,_,hqa,_,_,_,hZa⟩:=hs.rows j r a3;rw[BC,a2] at hZa;have:=hZa.2.2;rw[h3] at this;cases this;obtain⟨qb,_,_,_,hqb,_,_,_,hZb⟩:=hs.rows j' r' b3;rw[BC,b2] at hZb;have:=hZb.2.2;rw[h3'] at this;cases this;have:=hs.rdisj j j' r r' q q' k a3 b3 (by rw[a2];rfl) (by rw[b2];rfl) hqa hqb h4 h4'
    omega
  ·cases h
theorem Zj:∀ (ps:List (PM×Sh)) {Fs:List FP} {n j k:Nat},At ps Fs n j k→n≤j
 | [],_,_,_,_,h=>by cases h
 | _ :: _,[],_,_,_,h=>by cases h
 | (_,s) :: ps,F :: Fs,n,j,k,h=>by
  rcases h with h | h
  ·exact h.1
  ·have:=Zj ps h;omega
def IoL (C:Cx) (g:Sg):(ps:List (PM×Sh))→Nat→AT ps→List Value→Prop
 | [],_,_,_=>True
 | (.io,s) :: ps,n,x,u :: us=>(∃ cs,u=Ao s.agg cs∧Aq C g (Aa .io s x.1 n).1 cs)∧IoL C g ps (n+AY s) x.2 us
 | (_,s) :: ps,n,x,_ :: us=>IoL C g ps (n+AY s) x.2 us
 | _ :: _,_,_,[]=>False
theorem G8 (hs:Sim C fr.f g a w') {rw:List (Option Ab)} (hT:AK none (at? fr.rw) (at? rw)) {C0:Cx} {g0:Sg} (hJ:∀ j q,C.io j=some q→g0.ρ j=some q) {rs:List Sh} {z:RT rs} {K:RT rs→Prop} (hK:K z):∀ (ps:List (PM×Sh)) {n:Nat} {us:List Value} {Fs:List FP} {x:AT ps} {y:RT (AU ps++rs)},Ji rw ps n rs x z=some y→us.length=ps.length→Fs.length=ps.length →
  IoL C0 g0 ps n x us→(∀ j q k,n≤j→C.io j=some q→q.F k→At ps Fs n j k)→P2 w' ps rs us Fs y K
 | [],n,us,Fs,x,y,h,hu,hF,hI,hA=>by cases h;exact hK
 | (m,s) :: ps,n,[],Fs,x,y,h,hu,hF,hI,hA=>by simp at hu
 | (m,s) :: ps,n,_ :: _,[],x,y,h,hu,hF,hI,hA=>by simp at hF
 | (m,s) :: ps,n,u :: us,F :: Fs,x,y,h,hu,hF,hI,hA=>by
  have hu':us.length=ps.length:=by simpa using hu
  have hF':Fs.length=ps.length:=by simpa using hF
  have hA':∀ j q k,n+AY s≤j→C.io j=some q→q.F k→At ps Fs (n+AY s) j k:=fun j q k h1 h2 h3=>by
   rcases hA j q k (by omega) h2 h3 with h4 | h4
   ·omega
   ·exact h4
  cases m with
  | io =>
   simp only[Ji] at h;split at h
   ·rename_i x1 z1 e1 e2;cases h;obtain⟨⟨cs,eu,hl⟩,hI'⟩:=hI;refine⟨⟨cs,eu,?_⟩,?_⟩
    ·rw[AdW];refine OC.mono s ?_ (Ku hs hT hJ s e1 hl)
     rintro k ⟨j,q,h1,h2,h3,h4⟩
     rcases hA j q k h1 h3 h4 with h5 | h5
     ·exact h5.2.2
     ·exact absurd (Zj ps h5) (by omega)
    ·rw[AdX];exact G8 hs hT hJ hK ps e2 hu' hF' hI' hA'
   ·cases h
  | ro=>exact G8 hs hT hJ hK ps h hu' hF' hI hA'
  | mv=>exact G8 hs hT hJ hK ps h hu' hF' hI hA'
  | cap=>exact G8 hs hT hJ hK ps h hu' hF' hI hA'
def Zk:PM→Md | .mv=>.own | .io=>.io | .ro | .cap=>.ro
def Mc:List (PM×Sh)→Nat→Nat→Md→Prop
 | (m,s) :: ps,n,j,x=>(n≤j∧j<n+AY s∧x=Zk m)∨Mc ps (n+AY s) j x
 | [],_,_,_=>False
theorem D2:∀ (ps:List (PM×Sh)) {i:Nat} {fr:Fr} {x:AT ps} {j:Nat} {r:Ab},at? (Ae .io ps i fr x).rw j=some r→at? fr.rw j=some r∨Mc ps fr.rw.length j r.m
 | [],i,fr,x,j,r,h=>.inl h
 | (m,s) :: ps,i,fr,x,j,r,h=>by
  have key:∀ {md:Md} {fr':Fr},fr'.rw=fr.rw++(Aa md s x.1 fr.rw.length).2.map some→md=Zk m→at? (Ae .io ps (i+1) fr' x.2).rw j=some r→at? fr.rw j=some r∨Mc ((m,s) :: ps) fr.rw.length j r.m:=by
   intro md fr' e hm h;rcases D2 ps h with h1 | h1
   ·rw[e,Bo] at h1;unfold more at h1;split at h1
    ·rename_i hin;rw[Bt s] at hin;exact .inr (.inl ⟨hin.1,hin.2,by rw[Bm s r (Ai0 h1)];exact hm⟩)
    ·exact .inl h1
   ·rw[e,AiM,Ai1,Bt s] at h1;exact .inr (.inr h1)
  cases m with
  | ro=>exact key (fr':={ fr with sl:=ins fr.sl i (.v s.agg (Aa .ro s x.1 fr.rw.length).1),rw:=fr.rw++(Aa .ro s x.1 fr.rw.length).2.map some }) rfl rfl h
  | mv=>exact key (fr':={ fr with sl:=ins fr.sl i (.v s.agg (Aa .own s x.1 fr.rw.length).1),rw:=fr.rw++(Aa .own s x.1 fr.rw.length).2.map some }) rfl rfl h
  | io=>exact key (fr':={ fr with sl:=ins fr.sl i (.v s.agg (Aa .io s x.1 fr.rw.length).1),rw:=fr.rw++(Aa .io s x.1 fr.rw.length).2.map some }) rfl rfl h
  | cap=>exact key (fr':={ nt:=fr.nt,sl:=ins fr.sl i (.l (.box fr.bx.length 0)),bx:=fr.bx++[some ⟨false,(Aa .ro s x.1 fr.rw.length).1⟩],rw:=fr.rw++(Aa .ro s x.1 fr.rw.length).2.map some }) rfl rfl h
theorem Qg:∀ (ps:List (PM×Sh)) {n j:Nat} {x:Md},Mc ps n j x→n≤j
 | [],_,_,_,h=>by cases h
 | (_,s) :: ps,n,j,x,h=>by
  rcases h with h | h
  ·exact h.1
  ·have:=Qg ps h;omega
theorem N2:∀ (ps:List (PM×Sh)) {Fs:List FP} {n j k:Nat} {x:Md},Mc ps n j x→At ps Fs n j k→(x=.own→DA ps Fs k)∧(x=.io→hands ps Fs k)
 | [],_,_,_,_,_,h,_=>by cases h
 | _ :: _,[],_,_,_,_,_,h=>by cases h
 | (m,s) :: ps,F :: Fs,n,j,k,x,h,h'=>by
  rcases h with h | h<;>rcases h' with h' | h'
  ·refine⟨fun e=>.inl ⟨?_,h'.2.2⟩,fun e=>.inl ⟨?_,h'.2.2⟩⟩
   ·have:=h.2.2.symm.trans e;cases m<;>first | rfl | cases this
   ·have:=h.2.2.symm.trans e;cases m<;>first | rfl | cases this
  ·have:=Zj ps h';omega
  ·have:=Qg ps h;omega
  ·obtain⟨h1,h2⟩:=N2 ps h h';exact⟨fun e=>.inr (h1 e),fun e=>.inr (h2 e)⟩
theorem Cu.len {P:Program}:∀ {ps:List (PM×Sh)} {x:AT ps} {us:List Value} {Fs:List FP},Cu P w ps x us Fs→us.length=ps.length∧Fs.length=ps.length
 | [],_,_,_,⟨h1,h2⟩=>by subst h1;subst h2;exact⟨rfl,rfl⟩
 | _ :: _,_,_,_,⟨_,_,_,_,e1,e2,_,_,h⟩=>by subst e1;subst e2;simp[h.len]
theorem Kw {P:Program}:∀ {ps:List (PM×Sh)} {x:AT ps} {us:List Value} {Fs:List FP},Cu P w ps x us Fs→∀ k,(hands ps Fs k∨reads ps Fs k)→k<w.heap.size
 | [],_,_,_,_,k,h=>by rcases h with h | h<;>cases h
 | (m,s) :: ps,_,_,_,⟨_,_,_,_,e1,e2,hlt,_,hA⟩,k,h=>by
  subst e2;rcases h with (h | h) | (h | h)
  ·exact hlt k h.2
  ·exact Kw hA k (.inl h)
  ·exact hlt k h.2
  ·exact Kw hA k (.inr h)
theorem Me:∀ {ps:List (PM×Sh)} {Fs:List FP} {k:Nat},CX ps Fs→reads ps Fs k→¬ hands ps Fs k
 | [],_,_,_,h=>by cases h
 | (m,s) :: ps,[],_,_,h=>by cases h
 | (m,s) :: ps,F :: Fs,k,hap,h=>by
  rintro (h' | h')
  ·rcases h with h | h
   ·rw[h.1] at h';cases h'.1
   ·exact (hap.1 k h'.2).2 h'.1 h
  ·rcases h with h | h
   ·exact (hap.1 k h.2).1 h'
   ·exact Me hap.2 h h'
theorem Ux {D:Cx} {f:FF} {g':Sg} (hs:Sim D f g' a w):∀ (ps:List (PM×Sh)) {i:Nat} {fr:Fr} {x:AT ps} {us:List Value},(∀ t v,lkp (Ae .io ps i fr x).sl t=some v→lkp f.sl t=some v)→(∀ p∈ps,p.1=.io→p.2.n=p.2.n)→us.length=ps.length→(∀ j u,us[j]? = some u→a.tmps.getD (i+j) undef=u)→Up fr.sl→IoL D g' ps fr.rw.length x us
 | [],i,fr,x,us,hl,_,hn,hu,hup=>trivial
 | (m,s) :: ps,i,fr,x,[],hl,_,hn,hu,hup=>by simp at hn
 | (m,s) :: ps,i,fr,x,u :: us,hl,h0,hn,hu,hup=>by
  have hu':∀ j v,us[j]? = some v→a.tmps.getD (i+1+j) undef=v:=fun j v hv=>by
   rw[← hu (j+1) v (by simpa using hv)]
   congr 1;omega
  have hn':us.length=ps.length:=by simpa using hn
  have key:∀ {md:Md} {fr':Fr} {v:AV},fr'.rw=fr.rw++(Aa md s x.1 fr.rw.length).2.map some→fr'.sl=ins fr.sl i v→(∀ t v,lkp (Ae .io ps (i+1) fr' x.2).sl t=some v→lkp f.sl t=some v)→IoL D g' ps (fr.rw.length+AY s) x.2 us:=by
   intro md fr' v e1 e2 h;have:=Ux hs ps (i:=i+1) (fr:=fr') (x:=x.2) h (fun p hp=>h0 p (AjT _ hp)) hn' hu' (by rw[e2];exact hup.ins _ _)
   rw[e1,AiM,Ai1,Bt s] at this;exact this
  cases m with
  | ro=>exact key (fr':={ fr with sl:=ins fr.sl i (.v s.agg (Aa .ro s x.1 fr.rw.length).1),rw:=fr.rw++(Aa .ro s x.1 fr.rw.length).2.map some }) rfl rfl hl
  | mv=>exact key (fr':={ fr with sl:=ins fr.sl i (.v s.agg (Aa .own s x.1 fr.rw.length).1),rw:=fr.rw++(Aa .own s x.1 fr.rw.length).2.map some }) rfl rfl hl
  | cap=>exact key (fr':={ nt:=fr.nt,sl:=ins fr.sl i (.l (.box fr.bx.length 0)),bx:=fr.bx++[some ⟨false,(Aa .ro s x.1 fr.rw.length).1⟩],rw:=fr.rw++(Aa .ro s x.1 fr.rw.length).2.map some }) rfl rfl hl
  | io =>
   refine⟨?_,key (fr':={ fr with sl:=ins fr.sl i (.v s.agg (Aa .io s x.1 fr.rw.length).1),rw:=fr.rw++(Aa .io s x.1 fr.rw.length).2.map some }) rfl rfl hl⟩
   have h1:=hl i (.v s.agg (Aa .io s x.1 fr.rw.length).1) (by
    refine stays ps (i:=i+1) (Nat.lt_succ_self i) ?_;show lkp (ins fr.sl i _) i=_;rw[El,if_pos rfl])
   obtain⟨cs,e,hr,_⟩:=hs.slots _ _ h1;have h2:=hu 0 u rfl;rw[AjF] at h2;rw[h2] at e;exact⟨cs,e,hr⟩
 where
 stays:∀ (ps:List (PM×Sh)) {i:Nat} {fr:Fr} {x:AT ps} {t:Nat} {v:AV},t<i→lkp fr.sl t=some v→lkp (Ae .io ps i fr x).sl t=some v
  | [],_,_,_,_,_,_,h=>h
  | (m,s) :: ps,i,fr,x,t,v,ht,h=>by
   have h':∀ u,lkp (ins fr.sl i u) t=some v:=fun u=>by rw[El,if_neg (by omega)];exact h
   cases m<;>exact stays ps (by omega) (h' _)
theorem VI (ps:List (PM×Sh)) (n:Nat) (x:AT ps):LW (Ae .io ps 0 ⟨n,[],[],[]⟩ x) (Ae .own ps 0 ⟨n,[],[],[]⟩ x):=Fc ps ⟨rfl,rfl,rfl,rfl,fun _=>.inl rfl⟩
theorem KX {P:Program} {E:Env} (hE:AA P E) {f:Nat} {fn:Func} (hfn:P.funcs[f]? = some fn) {ps:List (PM×Sh)} {rs:List Sh} {F:AT ps→Option (RT (AU ps++rs))} (hF:∀ x y,F x=some y→Od E fn ps rs x=some y):Bk P f ⟨ps,rs,F⟩:=by
 intro w x us Fs hW hfree hA hap y hy;have h:=hF x y hy;unfold Od at h;cases hg:(Nat.ble ps.length fn.ntmps&&ps.all Jh)
 ·rw[hg] at h;cases h
 ·rw[hg,cond_true] at h;simp only[AiG] at hg;have hnt:=Cf hg.1;split at h
  ·rename_i c hb;have hul:us.length=ps.length:=hA.len.1;have hFl:Fs.length=ps.length:=hA.len.2
   let C0:Cx:=⟨P,w,hands ps Fs,fun k=>reads ps Fs k∨k<gN,fun _=>none,none⟩
   have hlt:=fun k hk=>Kw (P:=P) hA k hk;have hC0:AQ C0:=⟨fun k hk=>hlt k (.inl hk),fun k hk=>by
    rcases hk with hk | hk
    ·exact⟨hlt k (.inr hk),Me hap hk⟩
    ·exact⟨Aja hk hW.1,fun h=>absurd (hfree k h) (Nat.not_le.2 hk)⟩,hW,fun k hk=>.inr hk⟩
   let a0:Act:={ tmps:=us.toArray++Array.replicate (fn.ntmps-us.toArray.size) undef,defers:=[] }
   have hsz:a0.tmps.size=fn.ntmps:=by simp[a0];omega
   have hs0:Sim C0 (⟨fn.ntmps,[],[],[]⟩:Fr).f ⟨fun _=>none,fun _=>none⟩ a0 w:=by
    refine⟨rfl,hsz,List.Pairwise.nil,G9.refl _ _,fun t v h=>(by cases h),fun i b h=>?_,fun i j b b' k h=>?_,fun i r h=>?_,fun i j r r' q q' k h=>?_,fun i r q j b k h=>?_,fun i q h=>(by cases h),fun i h=>(by cases h)⟩<;>simp[Fr.f,at?] at h
   have hu0:∀ j u,us[j]? = some u→a0.tmps.getD (0+j) undef=u:=fun j u hj=>by
    have hjl:=(AiU.1 hj).1;simp only[a0,Ajj,Aje];rw[Aku (by simpa using hjl)]
    simp[hj]
   obtain⟨g1,_,s1,f1,i1⟩:=NX (C:=C0) rfl ps (i:=0) (fr:=⟨fn.ntmps,[],[],[]⟩) hg.2 hA hap (fun _ h=>h) (fun _ h=>.inl h) hs0 ⟨fun _ _=>rfl,fun _ _=>rfl⟩ (.inl fun j b h=>by simp[at?] at h) hu0 (fun k hk=>by obtain⟨i,r,q,h,_⟩:=hk;simp[at?] at h)
   have hrel:=VI ps fn.ntmps x
   let A:=Ae .io ps 0 ⟨fn.ntmps,[],[],[]⟩ x
   let J:Nat→Option BV:=fun j=>match at? A.rw j with | some r=>if r.m=.io then g1.ρ j else none | none=>none
   have hJ:∀ j q,J j=some q→g1.ρ j=some q∧∃ r,at? A.rw j=some r∧r.m=.io:=fun j q h=>by
    simp only[J] at h;split at h
    ·rename_i r hr;split at h
     ·exact⟨h,r,hr,by assumption⟩
     ·cases h
    ·cases h
   let S:FP:=fun k=>DA ps Fs k∨∃ j q,J j=some q∧q.F k
   have hAt:∀ j q k,J j=some q→q.F k→At ps Fs 0 j k:=fun j q k h hk=>by
    obtain⟨h1,r,h2,h3⟩:=hJ j q h;rcases hrel.rw j with e | ⟨r0,e1,e2,e3⟩
    ·rcases D2 ps h2 with h4 | h4
     ·simp[at?] at h4
     ·exact absurd e (by
       intro e;have h5:at? (Ae .own ps 0 ⟨fn.ntmps,[],[],[]⟩ x).rw j=some r:=e▸h2;exact noIo ps h5 h3)
    ·rcases i1 j r0 q k e2 e3 h1 hk with h5 | h5
     ·exact h5
     ·simp[at?] at h5
   have hS:∀ k,S k→hands ps Fs k:=by
    rintro k (hk | ⟨j,q,h1,h2⟩)
    ·exact B2 hk
    ·obtain⟨_,r,h3,h4⟩:=hJ j q h1;rcases D2 ps h3 with h5 | h5
     ·simp[at?] at h5
     ·exact (N2 ps h5 (hAt j q k h1 h2)).2 h4
   let C:Cx:=C0.withIo S J
   have hC:AQ C:=⟨fun k hk=>hC0.S_lt k (hS k hk),fun k hk=>⟨(hC0.R_lt k hk).1,fun h=>(hC0.R_lt k hk).2 (hS k h)⟩,hC0.tabs,hC0.glR⟩;have s2:Sim C A.f g1 a0 w:=s1.toIo (G9.refl _ _) (fun j r q k h1 h2 h3 h4=>by
    refine .inr ?_;rcases hrel.rw j with e | ⟨r0,e1,e2,e3⟩
    ·have h5:at? A.rw j=some r:=e.trans h1;have h6:r.m=.own:=by
      cases hm:r.m with
      | own=>rfl
      | io=>exact absurd hm (noIo ps h1)
      | ro=>rw[hm] at h2;cases h2
      | bor=>rw[hm] at h2;cases h2
     rcases i1 j r q k h1 h6 h3 h4 with h7 | h7
     ·rcases D2 ps h5 with h8 | h8
      ·simp[at?] at h8
      ·exact .inl ((N2 ps h8 h7).1 h6)
     ·simp[at?] at h7
    ·refine .inr ⟨j,q,?_,h4⟩;simp only[J];rw[show at? A.rw j=some { r0 with m:=.io } from e1]
     exact h3) hrel (fun j r q h1 h2 h3=>by
    simp only[J];rw[h1];simp only;rw[if_pos h2];exact h3) (fun j q h=>(hJ j q h).1) (De ps (fun j b h=>by simp[at?] at h))
   have f2:Fit A g1:=⟨fun i hi=>f1.β i (by rw[← hrel.bx];exact hi),fun i hi=>f1.ρ i (by rw[← hrel.len];exact hi)⟩
   have hio:∀ i q,C.io i=some q→i<A.rw.length:=fun i q hi=>by
    obtain⟨_,r,hr,_⟩:=hJ i q hi;exact AM hr
   have hIoL:IoL C0 g1 ps 0 x us:=Ux s1 ps (i:=0) (fr:=⟨fn.ntmps,[],[],[]⟩) (fun t v h=>by
    show lkp (Ae .own ps 0 ⟨fn.ntmps,[],[],[]⟩ x).sl t=some v;rw[← hrel.sl];exact h) (fun _ _ _=>rfl) hul hu0 List.Pairwise.nil
   refine calls_of_wp hfn hb (Eg (C:=C) hE hC hio c h s2 f2 fun e fr' g' a' w' hk hs' hf'=>?_);have fin:∀ {z:Option (RT (AU ps++rs))},(match Er E fr' fn.results.toList rs fr'.rw with | some (z,rw)=>Ji rw ps 0 rs x z | none=>none)=some y→a'.defers=[]∧∃ v,(results fn a'.tmps).run P w'=.ok v w'∧∃ u,Ending.returned v=.returned u∧KT w ⟨ps,rs,F⟩ us Fs y u w':=by
    intro _ hk;split at hk
    ·rename_i z rw hres;obtain⟨vs,Gs,h1,h2,h3,h4⟩:=Qf (C:=C) hE hs' hres (AK.refl _ _);refine⟨hs'.nodef,_,Qe h1,_,rfl,vs,Gs,rfl,?_,?_⟩
     ·exact⟨hs'.kept.drawn,hs'.kept.os,hs'.kept.tape,hs'.kept.output,hs'.kept.size,fun k h5 h6=>hs'.kept.block k h5 fun h7=>h6 (hS k h7)⟩
     ·refine G8 hs' h3 (g0:=g1) (fun j q h=>(hJ j q h).1) ⟨h2,fun G hG k hk'=>?_⟩ ps hk hul hFl hIoL (fun j q k _ h5 h6=>hAt j q k h5 h6);obtain⟨h5,h6⟩:=h4 G hG k hk';obtain⟨h7,h8⟩:=Own.zone hs' h5;refine⟨?_,h8⟩;rcases h7 with h7 | h7 | ⟨j,q,h7,h9⟩
      ·exact .inl h7
      ·exact .inr h7
      ·refine absurd ?_ h6;obtain⟨_,r,a1,a2⟩:=hJ j q h7;rcases D2 ps a1 with a3 | a3
       ·simp[at?] at a3
       ·rw[a2] at a3;obtain⟨r',b1,b2⟩:=ioAlive ps hk a3;have b3:=h3.mine b1 (by rw[b2];rfl)
        obtain⟨qb,_,_,_,hqb,_,_,_,hZb⟩:=hs'.rows j r' b3;rw[BC,b2] at hZb;have:=hZb.2.2;rw[show C.io j=some q from h7] at this
        cases this;exact⟨j,r',q,b1,by rw[b2];rfl,hqb,h9⟩
    ·cases hk
   cases e with
   | exit id=>cases hk
   | normal=>exact fin (z:=none) hk
   | ret=>exact fin (z:=none) hk
  ·cases h
 where
 noIo:∀ (ps:List (PM×Sh)) {i n:Nat} {x:AT ps} {j:Nat} {r:Ab},at? (Ae .own ps i ⟨n,[],[],[]⟩ x).rw j=some r→r.m≠.io:=by
  intro ps i n x j r h;have:∀ (ps:List (PM×Sh)) {i:Nat} {fr:Fr} {x:AT ps},(∀ r,at? fr.rw j=some r→r.m≠.io)→∀ r,at? (Ae .own ps i fr x).rw j=some r→r.m≠.io:=by
   intro ps
   induction ps with
   | nil=>intro i fr x h r hr;exact h r hr
   | cons p ps ih =>
    obtain⟨m,s⟩:=p;intro i fr x h r hr;have key:∀ {md:Md} {fr':Fr},md≠.io→fr'.rw=fr.rw++(Aa md s x.1 fr.rw.length).2.map some→at? (Ae .own ps (i+1) fr' x.2).rw j=some r→r.m≠.io:=by
     intro md fr' hmd e hr;refine ih (fun r hr=>?_) r hr;rw[e,Bo] at hr;unfold more at hr;split at hr
     ·rw[Bm s r (Ai0 hr)];exact hmd
     ·exact h r hr
    cases m with
    | ro=>exact key (md:=.ro) (fr':={ fr with sl:=ins fr.sl i (.v s.agg (Aa .ro s x.1 fr.rw.length).1),rw:=fr.rw++(Aa .ro s x.1 fr.rw.length).2.map some }) (by simp) rfl hr
    | mv=>exact key (md:=.own) (fr':={ fr with sl:=ins fr.sl i (.v s.agg (Aa .own s x.1 fr.rw.length).1),rw:=fr.rw++(Aa .own s x.1 fr.rw.length).2.map some }) (by simp) rfl hr
    | io=>exact key (md:=.own) (fr':={ fr with sl:=ins fr.sl i (.v s.agg (Aa .own s x.1 fr.rw.length).1),rw:=fr.rw++(Aa .own s x.1 fr.rw.length).2.map some }) (by simp) rfl hr
    | cap=>exact key (md:=.ro) (fr':={ nt:=fr.nt,sl:=ins fr.sl i (.l (.box fr.bx.length 0)),bx:=fr.bx++[some ⟨false,(Aa .ro s x.1 fr.rw.length).1⟩],rw:=fr.rw++(Aa .ro s x.1 fr.rw.length).2.map some }) (by simp) rfl hr
  exact this ps (fun r h=>by simp[at?] at h) r h
 ioAlive:∀ (ps:List (PM×Sh)) {rw:List (Option Ab)} {n:Nat} {rs:List Sh} {x:AT ps} {z:RT rs} {y:RT (AU ps++rs)} {j:Nat},Ji rw ps n rs x z=some y→Mc ps n j .io→∃ r,at? rw j=some r∧r.m=.io
  | [],_,_,_,_,_,_,_,_,h=>by cases h
  | (m,s) :: ps,rw,n,rs,x,z,y,j,h,hr=>by
   cases m with
   | io =>
    simp only[Ji] at h;split at h
    ·rename_i x1 z1 e1 e2;rcases hr with hr | hr
     ·exact CP s e1 j hr.1 hr.2.1
     ·exact ioAlive ps e2 hr
    ·cases h
   | ro=>rcases hr with hr | hr;(cases hr.2.2);exact ioAlive ps h hr
   | mv=>rcases hr with hr | hr;(cases hr.2.2);exact ioAlive ps h hr
   | cap=>rcases hr with hr | hr;(cases hr.2.2);exact ioAlive ps h hr
end Go.Proofs.YteheolldcpjkcaaGreat.X
