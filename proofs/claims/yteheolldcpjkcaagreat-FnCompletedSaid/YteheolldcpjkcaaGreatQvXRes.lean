/- A function's end: its results, and what was written in place. -/
import Derived.Test.YteheolldcpjkcaaGreatQvXFun
import Derived.Laws.Sem
set_option linter.unusedSimpArgs false
set_option linter.unusedVariables false
set_option linter.unusedSectionVars false
namespace Go.Proofs.YteheolldcpjkcaaGreat.X
open Go Go.RowKit
variable [CW]
variable {C:Cx} {fr:Fr} {big:FF} {g:Sg} {a:Act} {w w':World} {E:Env}
def Aj7 (P:Program) (a:Act) (w:World) (r:ResultVar) (v:Value):Prop :=
 match r with
 | .tmp t=>v=a.tmps.getD t undef
 | .cell b t=>∃ A,a.tmps.getD b undef=.pointer (some A)∧(loadVar t A).run P w=.ok v w
def ZR (P:Program) (a:Act) (w:World):List ResultVar→List Value→Prop
 | [],vs=>vs=[]
 | r :: l,vs=>∃ v vs',vs=v :: vs'∧Aj7 P a w r v∧ZR P a w l vs'
theorem Uq {P:Program} {f:ResultVar→Sem Value} {w:World}:∀ {l:List ResultVar} {vs:List Value},ZR P a w l vs→(∀ x v,Aj7 P a w x v→(f x).run P w=.ok v w)→(l.mapM f).run P w=.ok vs w
 | [],_,h,_=>by cases h;simp
 | r :: l,_,⟨v,vs',e,h1,h2⟩,hf=>by
  subst e;rw[AsZ];simp only[Aqu,hf r v h1,Aqp,Uq h2 hf,AqO]
theorem GU {P:Program} {fn:Func} {vs:List Value} (h:ZR P a w fn.results.toList vs):(results fn a.tmps).run P w=.ok (FQ vs) w:=by
 have key:∀ {f:ResultVar→Sem Value},(∀ x v,Aj7 P a w x v→(f x).run P w=.ok v w)→(fn.results.mapM f).run P w=.ok vs.toArray w:=by
  intro f hf;have:=Uq (f:=f) h hf;rw[← Aqw (xs:=fn.results),List.mapM_toArray,map_eq_pure_bind];simp only[Aqu,this,Aqp,AqO]
 unfold results;simp only[Aqu];rw[key (fun x v hv=>?_)]
 ·simp only[Aqp,AqO];cases vs with
  | nil=>rfl
  | cons v vs =>
   cases vs with
   | nil=>simp[FQ]
   | cons u us=>simp[FQ]
 ·cases x with
  | tmp t=>cases hv;simp
  | cell b t =>
   obtain⟨A,h5,h6⟩:=hv;have h7:a.tmps[b]?.getD undef=.pointer (some A):=by rw[← h5];simp
   simp[h7,asAddr,h6]
theorem Ane {m:Option Nat}:∀ x:Md,((x==Md.own)=true)→x.mine=true∧(m≠none→x=.own):=fun x h=>by
 have:x=.own:=by simpa using h
 subst this;exact⟨rfl,fun _=>rfl⟩
theorem Aj8 (hE:AG C.P E) (hs:Sim C fr.f g a w) {s:Sh} {r:ResultVar} {cs:List Lf} (h:AbH E fr s r=some cs):∃ us,Aj7 C.P a w r (Ay s.agg us)∧AC C g cs us:=by
 cases r with
 | tmp t =>
  simp only[AbH] at h;split at h
  ·rename_i ag cs' hl;cases hag:(s.agg==ag)
   ·rw[hag] at h;cases h
   ·rw[hag,cond_true] at h;cases h;have hag':s.agg=ag:=by simpa using hag
    subst hag';obtain⟨us,e,hr,_⟩:=hs.slots t _ hl;exact⟨us,e.symm,hr⟩
  ·cases h
 | cell b t =>
  simp only[AbH] at h;split at h
  ·rename_i i tt hl hty;cases hd:decide (tt.sh=s)
   ·rw[hd] at h;cases h
   ·rw[hd,cond_true] at h;have hd':tt.sh=s:=by simpa using hd
    subst hd';split at h
    ·rename_i bx hb;cases hln:(Bz bx.cs&&Nat.beq bx.cs.length tt.sh.n)
     ·rw[hln] at h;cases h
     ·rw[hln,cond_true] at h;cases h;simp only[Aql] at hln;have hln':=Aqm hln.2;obtain⟨us,e,hr,_⟩:=hs.slots b _ hl;obtain⟨u,t',rfl,⟨k,hk,rfl⟩,ht⟩:=hr;cases ht;obtain⟨k',us',t',hk',hh,hr',_⟩:=(hs.boxes i bx hb).toCells hln.1;rw[hk] at hk';cases hk';have hT:=(hE.ty _ _ hty).ok;refine⟨us'.toList,⟨⟨k,0,none⟩,e,?_⟩,hr'⟩;exact Dh hT w _ _ (by rw[hr'.len,hln']) (fun i u hu=>by
       rw[Addr.add_mid k 0 i,cell_of_row w k (0+i) us' t' (0,0) hh];rw[← hu];simp)
    ·cases h
  ·cases h
theorem AfU {s:Sh} {l:List Sh} (x:s.T) (y:RT l):(RT.mk x y).hd=x:=by cases l<;>rfl
theorem AfV {s:Sh} {l:List Sh} (x:s.T) (y:RT l):(RT.mk x y).tl=y:=by cases l<;>rfl
theorem Nt (hE:AG C.P E) (hs:Sim C fr.f g a w):∀ {l:List ResultVar} {rs:List Sh} {rw rw':List (Option Ac)} {z:RT rs},EE E fr l rs rw=some (z,rw')→AX none (at? fr.rw) (at? rw) →
  ∃ vs Gs,ZR C.P a w l vs∧NN w rs z vs Gs∧AX none (at? rw) (at? rw')∧∀ G∈Gs,∀ k,G k→Own (at? rw) g k∧¬ Own (at? rw') g k
 | [],[],rw,rw',z,h,hT=>by
  cases h;exact⟨[],[],rfl,⟨rfl,rfl⟩,AX.refl _ _,by simp⟩
 | r :: l,s :: rs,rw,rw',z,h,hT=>by
  simp only[EE] at h;split at h
  ·rename_i cs hr;split at h
   ·rename_i x rw1 ht;split at h
    ·rename_i y rw2 ho;cases h;obtain⟨us,h1,h2⟩:=Aj8 hE hs hr;obtain⟨_,t1,c1,c2,e,hr2,hO⟩:=Bg (Ane (m:=none)) s ht h2 (hs.tab.took hT);cases hr2;have e':us=c1:=by simpa using e
     subst e';obtain⟨vs,Gs,h3,h4,t2,h5⟩:=Nt hE hs ho (hT.trans t1);refine⟨_ :: vs,(fun k=>Own (at? rw) g k∧¬ Own (at? rw1) g k) :: Gs,⟨_,vs,rfl,h1,h3⟩,⟨_,vs,_,Gs,us,rfl,rfl,rfl,?_,?_,?_⟩,t1.trans t2,?_⟩
     ·rw[AfU];exact hO
     ·exact fun k hk G hG hk'=>hk.2 (h5 G hG k hk').1
     ·rw[AfV];exact h4
     ·intro G hG k hk;rcases AqA.1 hG with rfl | hG
      ·exact⟨hk.1,fun h6=>hk.2 (h6.took t2)⟩
      ·obtain⟨h6,h7⟩:=h5 G hG k hk;exact⟨h6.took t1,h7⟩
    ·cases h
   ·cases h
  ·cases h
 | [],_ :: _,_,_,_,h,_=>by cases h
 | _ :: _,[],_,_,_,h,_=>by cases h
theorem DB {rw:List (Option Ac)}:(s:Sh)→∀ {n:Nat} {x y:s.T},Id rw s n x=some y→∀ j,n≤j→j<n+Bi s→∃ r,at? rw j=some r∧r.m=.io
 | .int _,n,x,y,h,j,h1,h2 | .bool,n,x,y,h,j,h1,h2 | .str,n,x,y,h,j,h1,h2=>by simp[Bi] at h2;omega
 | .fn1 _ _,n,x,y,h,j,h1,h2 | .fn2 _ _ _,n,x,y,h,j,h1,h2 | .ol _ _,n,x,y,h,j,h1,h2=>by cases h
 | .list e s,n,x,y,h,j,h1,h2=>by
  have:j=n:=by simp[Bi] at h2;omega
  subst this;simp only[Id] at h;split at h
  ·rename_i q hq;split at h
   ·cases hm:(q.m==Md.io)
    ·rw[hm] at h;cases h
    ·exact⟨q,hq,by simpa using hm⟩
   ·cases h
  ·cases h
 | .cons a b,n,x,y,h,j,h1,h2=>by
  simp only[Id] at h;split at h
  ·rename_i x1 y1 e1 e2;simp only[Bi] at h2;by_cases hj:j<n+Bi a
   ·exact DB a e1 j h1 hj
   ·exact DB b e2 j (by omega) (by omega)
  ·cases h
def IoZ (C:Cx) (n m:Nat):FP:=fun k=>∃ j q,n≤j∧j<n+m∧C.io j=some q∧q.F k
theorem Nu (hs:Sim C fr.f g a w) {rw:List (Option Ac)} (hT:AX none (at? fr.rw) (at? rw)) {C0:Cx} {g0:Sg} (hJ:∀ j q,C.io j=some q→g0.ρ j=some q):(s:Sh)→∀ {n:Nat} {x y:s.T} {cs:List Value},Id rw s n x=some y→AC C0 g0 (Aa .io s x n).1 cs→OC s w (IoZ C n (Bi s)) y cs
 | .int _,n,x,y,cs,h,hl | .bool,n,x,y,cs,h,hl | .str,n,x,y,cs,h,hl=>by
  cases h;obtain⟨u,t,rfl,hu,ht⟩:=hl;cases hu;cases ht;rfl
 | .fn1 _ _,n,x,y,cs,h,hl | .fn2 _ _ _,n,x,y,cs,h,hl | .ol _ _,n,x,y,cs,h,hl=>by cases h
 | .list e s,n,x,y,cs,h,hl=>by
  obtain⟨u,t,rfl,⟨q0,A0,n0,c0,hq0,hv0,hu0⟩,ht⟩:=hl;cases ht;simp only[Id] at h;split at h
  ·rename_i r hr;split at h
   ·rename_i he;cases hm:(r.m==Md.io)
    ·rw[hm] at h;cases h
    ·rw[hm,cond_true] at h;split at h
     ·rename_i hs';cases h;have hm':r.m=.io:=by simpa using hm
      have hr':=hT.mine hr (by rw[hm'];rfl)
      obtain⟨q,A,m,c,hq,hv,hz,hlt,hZ⟩:=hs.rows n r hr';rw[B4,hm'] at hZ;obtain⟨hO,_,hio⟩:=hZ;have:=hJ n q hio;rw[hq0] at this;cases this;obtain⟨e0,s0,xs0,m0⟩:=r;simp only at he hs' hO;subst he;subst hs';refine⟨u,rfl,?_⟩;rw[hu0,← hv0];exact Bq.mono (fun k hk=>⟨n,q0,Aqr _,by simp[Bi],hio,hk⟩) hO
     ·cases h
   ·cases h
  ·cases h
 | .cons s t,n,x,y,cs,h,hl=>by
  simp only[Id] at h;split at h
  ·rename_i x1 y1 e1 e2;cases h;obtain⟨c1,c2,rfl,l1,l2⟩:=AC.split hl;rw[BV s] at l2;refine⟨c1,c2,rfl,IoZ C n (Bi s),IoZ C (n+Bi s) (Bi t),?_,?_,?_,Nu hs hT hJ s e1 l1,Nu hs hT hJ t e2 l2⟩
   ·rintro k ⟨j,q,h1,h2,h3,h4⟩
    exact⟨j,q,h1,by simp[Bi];omega,h3,h4⟩
   ·rintro k ⟨j,q,h1,h2,h3,h4⟩
    exact⟨j,q,by omega,by simp[Bi];omega,h3,h4⟩
   ·rintro k ⟨j,q,h1,h2,h3,h4⟩ ⟨j',q',h1',h2',h3',h4'⟩
    obtain⟨r,a1,a2⟩:=DB s e1 j h1 h2;obtain⟨r',b1,b2⟩:=DB t e2 j' h1' h2';have a3:=hT.mine a1 (by rw[a2];rfl)
    have b3:=hT.mine b1 (by rw[b2];rfl)
    obtain⟨qa,_,_,_,hqa,_,_,_,hZa⟩:=hs.rows j r a3;rw[B4,a2] at hZa;have:=hZa.2.2;rw[h3] at this;cases this;obtain⟨qb,_,_,_,hqb,_,_,_,hZb⟩:=hs.rows j' r' b3;rw[B4,b2] at hZb;have:=hZb.2.2;rw[h3'] at this;cases this;have:=hs.rdisj j j' r r' q q' k a3 b3 (by rw[a2];rfl) (by rw[b2];rfl) hqa hqb h4 h4'
    omega
  ·cases h
theorem AfW:∀ (ps:List (PM×Sh)) {Fs:List FP} {n j k:Nat},At ps Fs n j k→n≤j
 | [],_,_,_,_,h=>by cases h
 | _ :: _,[],_,_,_,h=>by cases h
 | (_,s) :: ps,F :: Fs,n,j,k,h=>by
  rcases h with h | h
  ·exact h.1
  ·have:=AfW ps h;omega
def IoL (C:Cx) (g:Sg):(ps:List (PM×Sh))→Nat→AT ps→List Value→Prop
 | [],_,_,_=>True
 | (.io,s) :: ps,n,x,u :: us=>(∃ cs,u=Ay s.agg cs∧AC C g (Aa .io s x.1 n).1 cs)∧IoL C g ps (n+Bi s) x.2 us
 | (_,s) :: ps,n,x,_ :: us=>IoL C g ps (n+Bi s) x.2 us
 | _ :: _,_,_,[]=>False
theorem Jk (hs:Sim C fr.f g a w') {rw:List (Option Ac)} (hT:AX none (at? fr.rw) (at? rw)) {C0:Cx} {g0:Sg} (hJ:∀ j q,C.io j=some q→g0.ρ j=some q) {rs:List Sh} {z:RT rs} {K:RT rs→Prop} (hK:K z):∀ (ps:List (PM×Sh)) {n:Nat} {us:List Value} {Fs:List FP} {x:AT ps} {y:RT (BG ps++rs)},LQ rw ps n rs x z=some y→us.length=ps.length→Fs.length=ps.length →
  IoL C0 g0 ps n x us→(∀ j q k,n≤j→C.io j=some q→q.F k→At ps Fs n j k)→Wd w' ps rs us Fs y K
 | [],n,us,Fs,x,y,h,hu,hF,hI,hA=>by cases h;exact hK
 | (m,s) :: ps,n,[],Fs,x,y,h,hu,hF,hI,hA=>by simp at hu
 | (m,s) :: ps,n,_ :: _,[],x,y,h,hu,hF,hI,hA=>by simp at hF
 | (m,s) :: ps,n,u :: us,F :: Fs,x,y,h,hu,hF,hI,hA=>by
  have hu':us.length=ps.length:=by simpa using hu
  have hF':Fs.length=ps.length:=by simpa using hF
  have hA':∀ j q k,n+Bi s≤j→C.io j=some q→q.F k→At ps Fs (n+Bi s) j k:=fun j q k h1 h2 h3=>by
   rcases hA j q k (by omega) h2 h3 with h4 | h4
   ·omega
   ·exact h4
  cases m with
  | io =>
   simp only[LQ] at h;split at h
   ·rename_i x1 z1 e1 e2;cases h;obtain⟨⟨cs,eu,hl⟩,hI'⟩:=hI;refine⟨⟨cs,eu,?_⟩,?_⟩
    ·rw[AfU];refine OC.mono s ?_ (Nu hs hT hJ s e1 hl)
     rintro k ⟨j,q,h1,h2,h3,h4⟩
     rcases hA j q k h1 h3 h4 with h5 | h5
     ·exact h5.2.2
     ·exact absurd (AfW ps h5) (by omega)
    ·rw[AfV];exact Jk hs hT hJ hK ps e2 hu' hF' hI' hA'
   ·cases h
  | ro=>exact Jk hs hT hJ hK ps h hu' hF' hI hA'
  | mv=>exact Jk hs hT hJ hK ps h hu' hF' hI hA'
  | cap=>exact Jk hs hT hJ hK ps h hu' hF' hI hA'
def AfX:PM→Md | .mv=>.own | .io=>.io | .ro | .cap=>.ro
def Pv:List (PM×Sh)→Nat→Nat→Md→Prop
 | (m,s) :: ps,n,j,x=>(n≤j∧j<n+Bi s∧x=AfX m)∨Pv ps (n+Bi s) j x
 | [],_,_,_=>False
theorem E3:∀ (ps:List (PM×Sh)) {i:Nat} {fr:Fr} {x:AT ps} {j:Nat} {r:Ac},at? (Af .io ps i fr x).rw j=some r→at? fr.rw j=some r∨Pv ps fr.rw.length j r.m
 | [],i,fr,x,j,r,h=>.inl h
 | (m,s) :: ps,i,fr,x,j,r,h=>by
  have key:∀ {md:Md} {fr':Fr},fr'.rw=fr.rw++(Aa md s x.1 fr.rw.length).2.map some→md=AfX m→at? (Af .io ps (i+1) fr' x.2).rw j=some r→at? fr.rw j=some r∨Pv ((m,s) :: ps) fr.rw.length j r.m:=by
   intro md fr' e hm h;rcases E3 ps h with h1 | h1
   ·rw[e,BP] at h1;unfold more at h1;split at h1
    ·rename_i hin;rw[BV s] at hin;exact .inr (.inl ⟨hin.1,hin.2,by rw[BM s r (AqH h1)];exact hm⟩)
    ·exact .inl h1
   ·rw[e,Aqs,AqD,BV s] at h1;exact .inr (.inr h1)
  cases m with
  | ro=>exact key (fr':={ fr with sl:=ins fr.sl i (.v s.agg (Aa .ro s x.1 fr.rw.length).1),rw:=fr.rw++(Aa .ro s x.1 fr.rw.length).2.map some }) rfl rfl h
  | mv=>exact key (fr':={ fr with sl:=ins fr.sl i (.v s.agg (Aa .own s x.1 fr.rw.length).1),rw:=fr.rw++(Aa .own s x.1 fr.rw.length).2.map some }) rfl rfl h
  | io=>exact key (fr':={ fr with sl:=ins fr.sl i (.v s.agg (Aa .io s x.1 fr.rw.length).1),rw:=fr.rw++(Aa .io s x.1 fr.rw.length).2.map some }) rfl rfl h
  | cap=>exact key (fr':={ nt:=fr.nt,sl:=ins fr.sl i (.l (.box fr.bx.length 0)),bx:=fr.bx++[some ⟨false,(Aa .ro s x.1 fr.rw.length).1⟩],rw:=fr.rw++(Aa .ro s x.1 fr.rw.length).2.map some }) rfl rfl h
theorem Ur:∀ (ps:List (PM×Sh)) {n j:Nat} {x:Md},Pv ps n j x→n≤j
 | [],_,_,_,h=>by cases h
 | (_,s) :: ps,n,j,x,h=>by
  rcases h with h | h
  ·exact h.1
  ·have:=Ur ps h;omega
theorem Rv:∀ (ps:List (PM×Sh)) {Fs:List FP} {n j k:Nat} {x:Md},Pv ps n j x→At ps Fs n j k→(x=.own→Er ps Fs k)∧(x=.io→hands ps Fs k)
 | [],_,_,_,_,_,h,_=>by cases h
 | _ :: _,[],_,_,_,_,_,h=>by cases h
 | (m,s) :: ps,F :: Fs,n,j,k,x,h,h'=>by
  rcases h with h | h<;>rcases h' with h' | h'
  ·refine⟨fun e=>.inl ⟨?_,h'.2.2⟩,fun e=>.inl ⟨?_,h'.2.2⟩⟩
   ·have:=h.2.2.symm.trans e;cases m<;>first | rfl | cases this
   ·have:=h.2.2.symm.trans e;cases m<;>first | rfl | cases this
  ·have:=AfW ps h';omega
  ·have:=Ur ps h;omega
  ·obtain⟨h1,h2⟩:=Rv ps h h';exact⟨fun e=>.inr (h1 e),fun e=>.inr (h2 e)⟩
theorem Dy.len {P:Program}:∀ {ps:List (PM×Sh)} {x:AT ps} {us:List Value} {Fs:List FP},Dy P w ps x us Fs→us.length=ps.length∧Fs.length=ps.length
 | [],_,_,_,⟨h1,h2⟩=>by subst h1;subst h2;exact⟨rfl,rfl⟩
 | _ :: _,_,_,_,⟨_,_,_,_,e1,e2,_,_,h⟩=>by subst e1;subst e2;simp[h.len]
theorem GV {P:Program}:∀ {ps:List (PM×Sh)} {x:AT ps} {us:List Value} {Fs:List FP},Dy P w ps x us Fs→∀ k,(hands ps Fs k∨reads ps Fs k)→k<w.heap.size
 | [],_,_,_,_,k,h=>by rcases h with h | h<;>cases h
 | (m,s) :: ps,_,_,_,⟨_,_,_,_,e1,e2,hlt,_,hA⟩,k,h=>by
  subst e2;rcases h with (h | h) | (h | h)
  ·exact hlt k h.2
  ·exact GV hA k (.inl h)
  ·exact hlt k h.2
  ·exact GV hA k (.inr h)
theorem Pw:∀ {ps:List (PM×Sh)} {Fs:List FP} {k:Nat},Es ps Fs→reads ps Fs k→¬ hands ps Fs k
 | [],_,_,_,h=>by cases h
 | (m,s) :: ps,[],_,_,h=>by cases h
 | (m,s) :: ps,F :: Fs,k,hap,h=>by
  rintro (h' | h')
  ·rcases h with h | h
   ·rw[h.1] at h';cases h'.1
   ·exact (hap.1 k h'.2).2 h'.1 h
  ·rcases h with h | h
   ·exact (hap.1 k h.2).1 h'
   ·exact Pw hap.2 h h'
theorem ZS {D:Cx} {f:FF} {g':Sg} (hs:Sim D f g' a w):∀ (ps:List (PM×Sh)) {i:Nat} {fr:Fr} {x:AT ps} {us:List Value},(∀ t v,lkp (Af .io ps i fr x).sl t=some v→lkp f.sl t=some v)→(∀ p∈ps,p.1=.io→p.2.n=p.2.n)→us.length=ps.length→(∀ j u,us[j]? = some u→a.tmps.getD (i+j) undef=u)→Up fr.sl→IoL D g' ps fr.rw.length x us
 | [],i,fr,x,us,hl,_,hn,hu,hup=>trivial
 | (m,s) :: ps,i,fr,x,[],hl,_,hn,hu,hup=>by simp at hn
 | (m,s) :: ps,i,fr,x,u :: us,hl,h0,hn,hu,hup=>by
  have hu':∀ j v,us[j]? = some v→a.tmps.getD (i+1+j) undef=v:=fun j v hv=>by
   rw[← hu (j+1) v (by simpa using hv)]
   congr 1;omega
  have hn':us.length=ps.length:=by simpa using hn
  have key:∀ {md:Md} {fr':Fr} {v:AV},fr'.rw=fr.rw++(Aa md s x.1 fr.rw.length).2.map some→fr'.sl=ins fr.sl i v→(∀ t v,lkp (Af .io ps (i+1) fr' x.2).sl t=some v→lkp f.sl t=some v)→IoL D g' ps (fr.rw.length+Bi s) x.2 us:=by
   intro md fr' v e1 e2 h;have:=ZS hs ps (i:=i+1) (fr:=fr') (x:=x.2) h (fun p hp=>h0 p (Arl _ hp)) hn' hu' (by rw[e2];exact hup.ins _ _)
   rw[e1,Aqs,AqD,BV s] at this;exact this
  cases m with
  | ro=>exact key (fr':={ fr with sl:=ins fr.sl i (.v s.agg (Aa .ro s x.1 fr.rw.length).1),rw:=fr.rw++(Aa .ro s x.1 fr.rw.length).2.map some }) rfl rfl hl
  | mv=>exact key (fr':={ fr with sl:=ins fr.sl i (.v s.agg (Aa .own s x.1 fr.rw.length).1),rw:=fr.rw++(Aa .own s x.1 fr.rw.length).2.map some }) rfl rfl hl
  | cap=>exact key (fr':={ nt:=fr.nt,sl:=ins fr.sl i (.l (.box fr.bx.length 0)),bx:=fr.bx++[some ⟨false,(Aa .ro s x.1 fr.rw.length).1⟩],rw:=fr.rw++(Aa .ro s x.1 fr.rw.length).2.map some }) rfl rfl hl
  | io =>
   refine⟨?_,key (fr':={ fr with sl:=ins fr.sl i (.v s.agg (Aa .io s x.1 fr.rw.length).1),rw:=fr.rw++(Aa .io s x.1 fr.rw.length).2.map some }) rfl rfl hl⟩
   have h1:=hl i (.v s.agg (Aa .io s x.1 fr.rw.length).1) (by
    refine stays ps (i:=i+1) (Nat.lt_succ_self i) ?_;show lkp (ins fr.sl i _) i=_;rw[Fx,if_pos rfl])
   obtain⟨cs,e,hr,_⟩:=hs.slots _ _ h1;have h2:=hu 0 u rfl;rw[Aro] at h2;rw[h2] at e;exact⟨cs,e,hr⟩
 where
 stays:∀ (ps:List (PM×Sh)) {i:Nat} {fr:Fr} {x:AT ps} {t:Nat} {v:AV},t<i→lkp fr.sl t=some v→lkp (Af .io ps i fr x).sl t=some v
  | [],_,_,_,_,_,_,h=>h
  | (m,s) :: ps,i,fr,x,t,v,ht,h=>by
   have h':∀ u,lkp (ins fr.sl i u) t=some v:=fun u=>by rw[Fx,if_neg (by omega)];exact h
   cases m<;>exact stays ps (by omega) (h' _)
theorem Abn (ps:List (PM×Sh)) (n:Nat) (x:AT ps):Pl (Af .io ps 0 ⟨n,[],[],[]⟩ x) (Af .own ps 0 ⟨n,[],[],[]⟩ x):=GQ ps ⟨rfl,rfl,rfl,rfl,fun _=>.inl rfl⟩
theorem NR {P:Program} {E:Env} (hE:AG P E) {f:Nat} {fn:Func} (hfn:P.funcs[f]? = some fn) {ps:List (PM×Sh)} {rs:List Sh} {F:AT ps→Option (RT (BG ps++rs))} (hF:∀ x y,F x=some y→RE E fn ps rs x=some y):Br P f ⟨ps,rs,F⟩:=by
 intro w x us Fs hW hfree hA hap y hy;have h:=hF x y hy;unfold RE at h;cases hg:(Nat.ble ps.length fn.ntmps&&ps.all J9)
 ·rw[hg] at h;cases h
 ·rw[hg,cond_true] at h;simp only[Aql] at hg;have hnt:=CB hg.1;split at h
  ·rename_i c hb;have hul:us.length=ps.length:=hA.len.1;have hFl:Fs.length=ps.length:=hA.len.2
   let C0:Cx:=⟨P,w,hands ps Fs,fun k=>reads ps Fs k∨k<gN,fun _=>none,none⟩
   have hlt:=fun k hk=>GV (P:=P) hA k hk;have hC0:A9 C0:=⟨fun k hk=>hlt k (.inl hk),fun k hk=>by
    rcases hk with hk | hk
    ·exact⟨hlt k (.inr hk),Pw hap hk⟩
    ·exact⟨AqN hk hW.1,fun h=>absurd (hfree k h) (Nat.not_le.2 hk)⟩,hW,fun k hk=>.inr hk⟩
   let a0:Act:={ tmps:=us.toArray++Array.replicate (fn.ntmps-us.toArray.size) undef,defers:=[] }
   have hsz:a0.tmps.size=fn.ntmps:=by simp[a0];omega
   have hs0:Sim C0 (⟨fn.ntmps,[],[],[]⟩:Fr).f ⟨fun _=>none,fun _=>none⟩ a0 w:=by
    refine⟨rfl,hsz,List.Pairwise.nil,Hx.refl _ _,fun t v h=>(by cases h),fun i b h=>?_,fun i j b b' k h=>?_,fun i r h=>?_,fun i j r r' q q' k h=>?_,fun i r q j b k h=>?_,fun i q h=>(by cases h),fun i h=>(by cases h)⟩<;>simp[Fr.f,at?] at h
   have hu0:∀ j u,us[j]? = some u→a0.tmps.getD (0+j) undef=u:=fun j u hj=>by
    have hjl:=(Aqz.1 hj).1;simp only[a0,AqQ,AqL];rw[Ary (by simpa using hjl)]
    simp[hj]
   obtain⟨g1,_,s1,f1,i1⟩:=Jj (C:=C0) rfl ps (i:=0) (fr:=⟨fn.ntmps,[],[],[]⟩) hg.2 hA hap (fun _ h=>h) (fun _ h=>.inl h) hs0 ⟨fun _ _=>rfl,fun _ _=>rfl⟩ (.inl fun j b h=>by simp[at?] at h) hu0 (fun k hk=>by obtain⟨i,r,q,h,_⟩:=hk;simp[at?] at h)
   have hrel:=Abn ps fn.ntmps x
   let A:=Af .io ps 0 ⟨fn.ntmps,[],[],[]⟩ x
   let J:Nat→Option B3:=fun j=>match at? A.rw j with | some r=>if r.m=.io then g1.ρ j else none | none=>none
   have hJ:∀ j q,J j=some q→g1.ρ j=some q∧∃ r,at? A.rw j=some r∧r.m=.io:=fun j q h=>by
    simp only[J] at h;split at h
    ·rename_i r hr;split at h
     ·exact⟨h,r,hr,by assumption⟩
     ·cases h
    ·cases h
   let S:FP:=fun k=>Er ps Fs k∨∃ j q,J j=some q∧q.F k
   have hAt:∀ j q k,J j=some q→q.F k→At ps Fs 0 j k:=fun j q k h hk=>by
    obtain⟨h1,r,h2,h3⟩:=hJ j q h;rcases hrel.rw j with e | ⟨r0,e1,e2,e3⟩
    ·rcases E3 ps h2 with h4 | h4
     ·simp[at?] at h4
     ·exact absurd e (by
       intro e;have h5:at? (Af .own ps 0 ⟨fn.ntmps,[],[],[]⟩ x).rw j=some r:=e▸h2;exact noIo ps h5 h3)
    ·rcases i1 j r0 q k e2 e3 h1 hk with h5 | h5
     ·exact h5
     ·simp[at?] at h5
   have hS:∀ k,S k→hands ps Fs k:=by
    rintro k (hk | ⟨j,q,h1,h2⟩)
    ·exact Cw hk
    ·obtain⟨_,r,h3,h4⟩:=hJ j q h1;rcases E3 ps h3 with h5 | h5
     ·simp[at?] at h5
     ·exact (Rv ps h5 (hAt j q k h1 h2)).2 h4
   let C:Cx:=C0.withIo S J
   have hC:A9 C:=⟨fun k hk=>hC0.S_lt k (hS k hk),fun k hk=>⟨(hC0.R_lt k hk).1,fun h=>(hC0.R_lt k hk).2 (hS k h)⟩,hC0.tabs,hC0.glR⟩;have s2:Sim C A.f g1 a0 w:=s1.toIo (Hx.refl _ _) (fun j r q k h1 h2 h3 h4=>by
    refine .inr ?_;rcases hrel.rw j with e | ⟨r0,e1,e2,e3⟩
    ·have h5:at? A.rw j=some r:=e.trans h1;have h6:r.m=.own:=by
      cases hm:r.m with
      | own=>rfl
      | io=>exact absurd hm (noIo ps h1)
      | ro=>rw[hm] at h2;cases h2
      | bor=>rw[hm] at h2;cases h2
     rcases i1 j r q k h1 h6 h3 h4 with h7 | h7
     ·rcases E3 ps h5 with h8 | h8
      ·simp[at?] at h8
      ·exact .inl ((Rv ps h8 h7).1 h6)
     ·simp[at?] at h7
    ·refine .inr ⟨j,q,?_,h4⟩;simp only[J];rw[show at? A.rw j=some { r0 with m:=.io } from e1]
     exact h3) hrel (fun j r q h1 h2 h3=>by
    simp only[J];rw[h1];simp only;rw[if_pos h2];exact h3) (fun j q h=>(hJ j q h).1) (Ec ps (fun j b h=>by simp[at?] at h))
   have f2:Fit A g1:=⟨fun i hi=>f1.β i (by rw[← hrel.bx];exact hi),fun i hi=>f1.ρ i (by rw[← hrel.len];exact hi)⟩
   have hio:∀ i q,C.io i=some q→i<A.rw.length:=fun i q hi=>by
    obtain⟨_,r,hr,_⟩:=hJ i q hi;exact A4 hr
   have hIoL:IoL C0 g1 ps 0 x us:=ZS s1 ps (i:=0) (fr:=⟨fn.ntmps,[],[],[]⟩) (fun t v h=>by
    show lkp (Af .own ps 0 ⟨fn.ntmps,[],[],[]⟩ x).sl t=some v;rw[← hrel.sl];exact h) (fun _ _ _=>rfl) hul hu0 List.Pairwise.nil
   refine calls_of_wp hfn hb (DQ (C:=C) hE hC hio c h s2 f2 fun e fr' g' a' w' hk hs' hf'=>?_);have fin:∀ {z:Option (RT (BG ps++rs))},(match EE E fr' fn.results.toList rs fr'.rw with | some (z,rw)=>LQ rw ps 0 rs x z | none=>none)=some y→a'.defers=[]∧∃ v,(results fn a'.tmps).run P w'=.ok v w'∧∃ u,Ending.returned v=.returned u∧NO w ⟨ps,rs,F⟩ us Fs y u w':=by
    intro _ hk;split at hk
    ·rename_i z rw hres;obtain⟨vs,Gs,h1,h2,h3,h4⟩:=Nt (C:=C) hE hs' hres (AX.refl _ _);refine⟨hs'.nodef,_,GU h1,_,rfl,vs,Gs,rfl,?_,?_⟩
     ·exact⟨hs'.kept.drawn,hs'.kept.os,hs'.kept.tape,hs'.kept.output,hs'.kept.size,fun k h5 h6=>hs'.kept.block k h5 fun h7=>h6 (hS k h7)⟩
     ·refine Jk hs' h3 (g0:=g1) (fun j q h=>(hJ j q h).1) ⟨h2,fun G hG k hk'=>?_⟩ ps hk hul hFl hIoL (fun j q k _ h5 h6=>hAt j q k h5 h6);obtain⟨h5,h6⟩:=h4 G hG k hk';obtain⟨h7,h8⟩:=Own.zone hs' h5;refine⟨?_,h8⟩;rcases h7 with h7 | h7 | ⟨j,q,h7,h9⟩
      ·exact .inl h7
      ·exact .inr h7
      ·refine absurd ?_ h6;obtain⟨_,r,a1,a2⟩:=hJ j q h7;rcases E3 ps a1 with a3 | a3
       ·simp[at?] at a3
       ·rw[a2] at a3;obtain⟨r',b1,b2⟩:=ioAlive ps hk a3;have b3:=h3.mine b1 (by rw[b2];rfl)
        obtain⟨qb,_,_,_,hqb,_,_,_,hZb⟩:=hs'.rows j r' b3;rw[B4,b2] at hZb;have:=hZb.2.2;rw[show C.io j=some q from h7] at this
        cases this;exact⟨j,r',q,b1,by rw[b2];rfl,hqb,h9⟩
    ·cases hk
   cases e with
   | exit id=>cases hk
   | normal=>exact fin (z:=none) hk
   | ret=>exact fin (z:=none) hk
  ·cases h
 where
 noIo:∀ (ps:List (PM×Sh)) {i n:Nat} {x:AT ps} {j:Nat} {r:Ac},at? (Af .own ps i ⟨n,[],[],[]⟩ x).rw j=some r→r.m≠.io:=by
  intro ps i n x j r h;have:∀ (ps:List (PM×Sh)) {i:Nat} {fr:Fr} {x:AT ps},(∀ r,at? fr.rw j=some r→r.m≠.io)→∀ r,at? (Af .own ps i fr x).rw j=some r→r.m≠.io:=by
   intro ps
   induction ps with
   | nil=>intro i fr x h r hr;exact h r hr
   | cons p ps ih =>
    obtain⟨m,s⟩:=p;intro i fr x h r hr;have key:∀ {md:Md} {fr':Fr},md≠.io→fr'.rw=fr.rw++(Aa md s x.1 fr.rw.length).2.map some→at? (Af .own ps (i+1) fr' x.2).rw j=some r→r.m≠.io:=by
     intro md fr' hmd e hr;refine ih (fun r hr=>?_) r hr;rw[e,BP] at hr;unfold more at hr;split at hr
     ·rw[BM s r (AqH hr)];exact hmd
     ·exact h r hr
    cases m with
    | ro=>exact key (md:=.ro) (fr':={ fr with sl:=ins fr.sl i (.v s.agg (Aa .ro s x.1 fr.rw.length).1),rw:=fr.rw++(Aa .ro s x.1 fr.rw.length).2.map some }) (by simp) rfl hr
    | mv=>exact key (md:=.own) (fr':={ fr with sl:=ins fr.sl i (.v s.agg (Aa .own s x.1 fr.rw.length).1),rw:=fr.rw++(Aa .own s x.1 fr.rw.length).2.map some }) (by simp) rfl hr
    | io=>exact key (md:=.own) (fr':={ fr with sl:=ins fr.sl i (.v s.agg (Aa .own s x.1 fr.rw.length).1),rw:=fr.rw++(Aa .own s x.1 fr.rw.length).2.map some }) (by simp) rfl hr
    | cap=>exact key (md:=.ro) (fr':={ nt:=fr.nt,sl:=ins fr.sl i (.l (.box fr.bx.length 0)),bx:=fr.bx++[some ⟨false,(Aa .ro s x.1 fr.rw.length).1⟩],rw:=fr.rw++(Aa .ro s x.1 fr.rw.length).2.map some }) (by simp) rfl hr
  exact this ps (fun r h=>by simp[at?] at h) r h
 ioAlive:∀ (ps:List (PM×Sh)) {rw:List (Option Ac)} {n:Nat} {rs:List Sh} {x:AT ps} {z:RT rs} {y:RT (BG ps++rs)} {j:Nat},LQ rw ps n rs x z=some y→Pv ps n j .io→∃ r,at? rw j=some r∧r.m=.io
  | [],_,_,_,_,_,_,_,_,h=>by cases h
  | (m,s) :: ps,rw,n,rs,x,z,y,j,h,hr=>by
   cases m with
   | io =>
    simp only[LQ] at h;split at h
    ·rename_i x1 z1 e1 e2;rcases hr with hr | hr
     ·exact DB s e1 j hr.1 hr.2.1
     ·exact ioAlive ps e2 hr
    ·cases h
   | ro=>rcases hr with hr | hr;(cases hr.2.2);exact ioAlive ps h hr
   | mv=>rcases hr with hr | hr;(cases hr.2.2);exact ioAlive ps h hr
   | cap=>rcases hr with hr | hr;(cases hr.2.2);exact ioAlive ps h hr
theorem Nv {ps:List (PM×Sh)} (h:Hr ps=true):(∀ p∈ps,p.1=.ro)∧ps.all J9=true∧ps.all (fun p=>p.1==.ro)=true:=by
 unfold Hr at h;rw[Aqn] at h;refine⟨fun p hp=>?_,Aqn.2 fun p hp=>?_,Aqn.2 fun p hp=>?_⟩
 all_goals have:=h p hp;simp only[Aql,beq_iff_eq] at this;first | exact this.1 | exact this.2 | simpa using this.1
theorem Us {P:Program} {w:World} {F:FP} {e:Nat} {s:Sh} {xs:List s.T} {u:Value} (h:RC P (.list e s) w F xs [u]):∃ A n c,u=.slice A n c:=by
 obtain⟨A,n,c,e,_⟩:=h;exact⟨A,n,c,List.cons.inj e |>.1⟩
theorem Jl {rw':List (Option Ac)} {r:Sh} (hf:r.flat=true) {cs:List Lf} {z:r.T} (hz:DZ (Az rw' r cs)=some z) {q0:B3} {u:Value} (hq:g.ρ 0=some q0) {A:Option Addr} {n c:Nat} (hv:q0.v=.slice A n c) (hu:u=.slice A n c) {us:List Value} (h:AC C g (.row 0 :: cs) us):us=u :: cellsF r z:=by
 obtain⟨u1,t,e,⟨q,A1,n1,c1,hq1,hv1,hu1⟩,ht⟩:=h;rw[hq] at hq1;cases hq1;rw[hv] at hv1;cases hv1;unfold DZ at hz;split at hz
 ·rename_i x hc;cases hz;obtain⟨t',et,ht'⟩:=Dk rw' r hf hc ht;cases ht';rw[e,hu1,hu,et,Aq9]
 ·cases hz
theorem NS {P:Program} {E:Env} (hE:AG P E) {f:Nat} {fn:Func} (hfn:P.funcs[f]? = some fn) {e:Nat} {s r:Sh} {ps:List (PM×Sh)} {rs:List Sh} {F:(List s.T×r.T)×AT ps→Option (RT (r :: rs))} (hF:∀ x y,F x=some y→NH E fn e s r ps rs x=some y):BU P f ⟨e,s,r,ps,rs,F⟩:=by
 intro w k u t x us Fs Z hW hgk hk hl hZ hA hFk y hy;have h:=hF x y hy;unfold NH at h;cases hg:(Nat.ble (ps.length+1) fn.ntmps&&Hr ps&&r.flat&&s.data)
 ·rw[hg] at h;cases h
 ·rw[hg,cond_true] at h;simp only[Aql] at hg;obtain⟨⟨⟨hnt,hro⟩,hflat⟩,_⟩:=hg;have hnt:=CB hnt;obtain⟨hro,hpar,hroB⟩:=Nv hro;split at h
  ·rename_i c hb;have hul:us.length=ps.length:=hA.len.1;have hFl:Fs.length=ps.length:=hA.len.2;obtain⟨A0,n0,c0,hu⟩:=Us hl
   let q0:B3:=⟨u,Z,s.n⟩
   let C:Cx:=⟨P,w,fun j=>j=k,fun j=>(Z j∨reads ps Fs j)∨j<gN,fun i=>if i=0 then some q0 else none,some k⟩
   have hklt:k<w.heap.size:=(AqP.1 hk).1;have hrd:∀ j,reads ps Fs j→j<w.heap.size∧j≠k:=fun j hj=>by
    refine⟨GV hA j (.inr hj),fun e=>?_⟩;subst e;have:∀ {ps:List (PM×Sh)} {Fs:List FP},reads ps Fs j→∃ F∈Fs,F j:=by
     intro ps
     induction ps with
     | nil=>intro Fs h;cases h
     | cons p ps ih =>
      intro Fs h;cases Fs with
      | nil=>cases h
      | cons F Fs =>
       rcases h with h | h
       ·exact⟨F,by simp,h.2⟩
       ·obtain⟨F',h1,h2⟩:=ih h;exact⟨F',by simp[h1],h2⟩
    obtain⟨F',h1,h2⟩:=this hj;exact hFk F' h1 h2
   have hC:A9 C:=⟨fun j hj=>hj▸hklt,fun j hj=>by
    rcases hj with (hj | hj) | hj
    ·exact hZ j hj
    ·exact hrd j hj
    ·exact⟨AqN hj hW.1,fun h:j=k=>absurd hgk (h▸Nat.not_le.2 hj)⟩,hW,fun j hj=>.inr hj⟩
   let vs:List Value:=.pointer (some ⟨k,0,none⟩) :: us
   let a0:Act:={ tmps:=vs.toArray++Array.replicate (fn.ntmps-vs.toArray.size) undef,defers:=[] }
   have hvl:vs.length=ps.length+1:=by simp[vs,hul]
   have hsz:a0.tmps.size=fn.ntmps:=by simp[a0];omega
   have hu0:∀ j u,vs[j]? = some u→a0.tmps.getD (0+j) undef=u:=fun j u hj=>by
    have hjl:=(Aqz.1 hj).1;simp only[a0,AqQ,AqL];rw[Ary (by simpa using hjl)]
    simp[hj]
   let fr0:Fr:=⟨fn.ntmps,[(0,.l (.box 0 0))],[some ⟨true,.row 0 :: (Aa .own r x.1.2 0).1⟩],[some ⟨e,s,x.1.1,.ro⟩]⟩
   let g0:Sg:=⟨fun i=>if i=0 then some k else none,fun i=>if i=0 then some q0 else none⟩
   have bx0:∀ i b,at? fr0.bx i=some b→i=0∧b=⟨true,.row 0 :: (Aa .own r x.1.2 0).1⟩:=fun i b hb=>by
    cases i with
    | zero=>exact⟨rfl,(Option.some.inj hb).symm⟩
    | succ i=>simp[fr0,at?] at hb
   have rw0:∀ i r',at? fr0.rw i=some r'→i=0∧r'=⟨e,s,x.1.1,.ro⟩:=fun i r' hb=>by
    cases i with
    | zero=>exact⟨rfl,(Option.some.inj hb).symm⟩
    | succ i=>simp[fr0,at?] at hb
   have hs0:Sim C fr0.f g0 a0 w:=by
    refine⟨rfl,hsz,by simp[Up,fr0,Fr.f],Hx.refl _ _,fun t v hv=>?_,fun i b hb=>?_,fun i j b b' j' h1 h2 _ _ _=>?_,fun i r' hr=>?_,fun i j r1 r2 q1 q2 j' h1 _ m1=>?_,fun i r1 q1 j b j' h1 m1=>?_,fun i q hi=>hi,fun j hj=>?_⟩
    ·have hv':lkp [(0,AV.l (.box 0 0))] t=some v:=hv;rw[Cj] at hv';split at hv'
     ·rename_i e0;subst e0;cases hv';have:=hu0 0 _ (show vs[0]? = some (.pointer (some ⟨k,0,none⟩)) from rfl)
      rw[AqQ] at this;rw[this];exact VR.of1 ⟨k,rfl,rfl⟩
     ·cases hv'
    ·obtain⟨rfl,rfl⟩:=bx0 i b hb;exact Ch.ofCells ⟨k,_,t,rfl,hk,⟨u,_,rfl,⟨q0,A0,n0,c0,rfl,hu,hu⟩,CC .own r hflat x.1.2 0⟩,fun _=>.inr rfl,fun e=>by cases e⟩
    ·rw[(bx0 i b h1).1,(bx0 j b' h2).1]
    ·obtain⟨rfl,rfl⟩:=rw0 i r' hr;exact⟨q0,A0,n0,c0,rfl,hu,rfl,fun j hj=>(hZ j hj).1,hl,fun j hj=>.inl (.inl hj)⟩
    ·obtain⟨rfl,rfl⟩:=rw0 i r1 h1;cases m1
    ·obtain⟨rfl,rfl⟩:=rw0 i r1 h1;cases m1
    ·cases hj;rfl
   have hf0:Fit fr0 g0:=⟨fun i hi=>if_neg (by simp[fr0] at hi;omega),fun i hi=>if_neg (by simp[fr0] at hi;omega)⟩
   have hroc:∀ p∈ps,p.1=.cap∨p.1=.ro:=fun p hp=>.inr (hro p hp);obtain⟨g1,_,s1,f1,_⟩:=Jj (C:=C) rfl ps (i:=1) (fr:=fr0) hpar hA (Ja hroc Fs) (fun j hj=>absurd hj (Du hroc Fs j)) (fun j hj=>.inl (.inr hj)) hs0 hf0 (.inr hro) (fun j u hj=>by
    have:=hu0 (j+1) u (by simpa[vs] using hj)
    rw[← this];congr 1;omega) (fun j hj=>by
     obtain⟨i,r1,q1,h1,m1,_⟩:=hj;obtain⟨rfl,rfl⟩:=rw0 i r1 h1;cases m1)
   have hio:∀ i q,C.io i=some q→i<(frP fn.ntmps e s r ps x).rw.length:=fun i q hi=>by
    have h0:i=0:=by
     simp only[C] at hi;split at hi
     ·assumption
     ·cases hi
    subst h0;have hr0:=s1.tied 0 q0 rfl;rcases Arf 0 (frP fn.ntmps e s r ps x).rw.length with h1 | h1
    ·exact h1
    ·rw[f1.ρ 0 h1] at hr0;cases hr0
   refine calls_of_wp hfn hb (DQ (C:=C) hE hC hio c h s1 f1 fun ex fr' g' a' w' hk' hs' hf'=>?_);have fin:∀ {zz:Option (RT (r :: rs))},(match EE E fr' fn.results.toList rs fr'.rw,AlG fr' r with | some (y,_),some z=>some (RT.mk z y) | _,_=>none)=some y→a'.defers=[]∧∃ v,(results fn a'.tmps).run P w'=.ok v w'∧∃ vs Gs t',Ending.returned v=.returned (FQ vs)∧AE (fun j=>j=k) w w'∧w'.heap[k]? = some (.cells (u :: cellsF r (RT.hd y)).toArray t' (0,0))∧NN w' rs (RT.tl y) vs Gs∧∀ G∈Gs,∀ j,G j→w.heap.size≤j∧j<w'.heap.size:=by
    intro _ hk';split at hk'
    ·rename_i yy rww z hres hend;cases hk';unfold AlG at hend;split at hend
     ·rename_i b hbx;split at hend
      ·rename_i cs hcs;cases hown:b.own
       ·rw[hown] at hend;cases hend
       ·rw[hown,cond_true] at hend;have hpl:Bz b.cs=true:=by rw[hcs];cases cs<;>rfl
        obtain⟨k',cur,t',hk1,hh,hcr,_,_⟩:=(hs'.boxes 0 b hbx).toCells hpl;have hk2:=hs'.tie k rfl;rw[hk1] at hk2;cases hk2;rw[hcs] at hcr;have hcells:=Jl hflat hend (hs'.tied 0 q0 rfl) hu hu hcr;obtain⟨vs',Gs,h1,h2,h3,h4⟩:=Nt (C:=C) hE hs' hres (AX.refl _ _);refine⟨hs'.nodef,_,GU h1,vs',Gs,t',rfl,⟨hs'.kept.drawn,hs'.kept.os,hs'.kept.tape,hs'.kept.output,hs'.kept.size,hs'.kept.block⟩,?_,?_,?_⟩
        ·rw[AfU,hh];have:cur=(u :: cellsF r z).toArray:=by rw[← hcells]
         rw[this]
        ·rw[AfV];exact h2
        ·intro G hG j hj;obtain⟨h5,_⟩:=h4 G hG j hj;obtain⟨h6,h7⟩:=Own.zone hs' h5;refine⟨h6.elim id fun h8=>?_,h7⟩;have h8:j=k:=h8;subst h8;exact absurd hk1 (Own.notBox hs' h5 hbx hown)
      ·cases hend
     ·cases hend
    ·cases hk'
   cases ex with
   | exit id=>cases hk'
   | normal=>exact fin (zz:=none) hk'
   | ret=>exact fin (zz:=none) hk'
  ·cases h
theorem NT {P:Program} {E:Env} (hE:AG P E) {f:Nat} {fn:Func} (hfn:P.funcs[f]? = some fn) {e:Nat} {s r:Sh} {ps:List (PM×Sh)} {F:List s.T×AT ps→Option (RT [r])} (hF:∀ x y,F x=some y→ZZ E fn e s r ps x=some y):GN P f ⟨e,s,r,ps,F⟩:=by
 intro w u x us Fs Z hW hl hZ hA y hy;have h:=hF x y hy;unfold ZZ at h;cases hg:(Nat.ble (ps.length+1) fn.ntmps&&Hr ps&&r.flat&&s.data)
 ·rw[hg] at h;cases h
 ·rw[hg,cond_true] at h;simp only[Aql] at hg;obtain⟨⟨⟨hnt,hro⟩,hflat⟩,_⟩:=hg;have hnt:=CB hnt;obtain⟨hro,hpar,hroB⟩:=Nv hro;split at h
  ·rename_i c hb;have hul:us.length=ps.length:=hA.len.1;obtain⟨A0,n0,c0,hu⟩:=Us hl
   let q0:B3:=⟨u,Z,s.n⟩
   let C:Cx:=⟨P,w,fun _=>False,fun j=>(Z j∨reads ps Fs j)∨j<gN,fun i=>if i=0 then some q0 else none,none⟩
   have hC:A9 C:=⟨fun j hj=>hj.elim,fun j hj=>by
    rcases hj with (hj | hj) | hj
    ·exact⟨hZ j hj,id⟩
    ·exact⟨GV hA j (.inr hj),id⟩
    ·exact⟨AqN hj hW.1,id⟩,hW,fun j hj=>.inr hj⟩
   let vs:List Value:=u :: us
   let a0:Act:={ tmps:=vs.toArray++Array.replicate (fn.ntmps-vs.toArray.size) undef,defers:=[] }
   have hvl:vs.length=ps.length+1:=by simp[vs,hul]
   have hsz:a0.tmps.size=fn.ntmps:=by simp[a0];omega
   have hu0:∀ j u,vs[j]? = some u→a0.tmps.getD (0+j) undef=u:=fun j u hj=>by
    have hjl:=(Aqz.1 hj).1;simp only[a0,AqQ,AqL];rw[Ary (by simpa using hjl)]
    simp[hj]
   let fr0:Fr:=⟨fn.ntmps,[(0,.l (.row 0))],[],[some ⟨e,s,x.1,.ro⟩]⟩
   let g0:Sg:=⟨fun _=>none,fun i=>if i=0 then some q0 else none⟩
   have rw0:∀ i r',at? fr0.rw i=some r'→i=0∧r'=⟨e,s,x.1,.ro⟩:=fun i r' hb=>by
    cases i with
    | zero=>exact⟨rfl,(Option.some.inj hb).symm⟩
    | succ i=>simp[fr0,at?] at hb
   have hs0:Sim C fr0.f g0 a0 w:=by
    refine⟨rfl,hsz,by simp[Up,fr0,Fr.f],Hx.refl _ _,fun t v hv=>?_,fun i b hb=>?_,fun i j b b' j' h1 h2 _ _ _=>?_,fun i r' hr=>?_,fun i j r1 r2 q1 q2 j' h1 _ m1=>?_,fun i r1 q1 j b j' h1 m1=>?_,fun i q hi=>hi,fun j hj=>?_⟩
    ·have hv':lkp [(0,AV.l (.row 0))] t=some v:=hv;rw[Cj] at hv';split at hv'
     ·rename_i e0;subst e0;cases hv';have:=hu0 0 _ (show vs[0]? = some u from rfl)
      rw[AqQ] at this;rw[this];exact VR.of1 ⟨q0,A0,n0,c0,rfl,hu,hu⟩
     ·cases hv'
    ·simp[fr0,Fr.f,at?] at hb
    ·simp[fr0,Fr.f,at?] at h1
    ·obtain⟨rfl,rfl⟩:=rw0 i r' hr;exact⟨q0,A0,n0,c0,rfl,hu,rfl,fun j hj=>hZ j hj,hl,fun j hj=>.inl (.inl hj)⟩
    ·obtain⟨rfl,rfl⟩:=rw0 i r1 h1;cases m1
    ·obtain⟨rfl,rfl⟩:=rw0 i r1 h1;cases m1
    ·cases hj
   have hf0:Fit fr0 g0:=⟨fun i hi=>rfl,fun i hi=>if_neg (by simp[fr0] at hi;omega)⟩
   have hroc:∀ p∈ps,p.1=.cap∨p.1=.ro:=fun p hp=>.inr (hro p hp);obtain⟨g1,_,s1,f1,_⟩:=Jj (C:=C) rfl ps (i:=1) (fr:=fr0) hpar hA (Ja hroc Fs) (fun j hj=>absurd hj (Du hroc Fs j)) (fun j hj=>.inl (.inr hj)) hs0 hf0 (.inr hro) (fun j u hj=>by
    have:=hu0 (j+1) u (by simpa[vs] using hj)
    rw[← this];congr 1;omega) (fun j hj=>by
     obtain⟨i,r1,q1,h1,m1,_⟩:=hj;obtain⟨rfl,rfl⟩:=rw0 i r1 h1;cases m1)
   have hio:∀ i q,C.io i=some q→i<(frN fn.ntmps e s ps x).rw.length:=fun i q hi=>by
    have h0:i=0:=by
     simp only[C] at hi;split at hi
     ·assumption
     ·cases hi
    subst h0;have hr0:=s1.tied 0 q0 rfl;rcases Arf 0 (frN fn.ntmps e s ps x).rw.length with h1 | h1
    ·exact h1
    ·rw[f1.ρ 0 h1] at hr0;cases hr0
   refine calls_of_wp hfn hb (DQ (C:=C) hE hC hio c h s1 f1 fun ex fr' g' a' w' hk' hs' hf'=>?_);have fin:AlH fr' r fn.results.toList=some y→a'.defers=[]∧∃ v,(results fn a'.tmps).run P w'=.ok v w'∧∃ k t,Ending.returned v=.returned (.pointer (some ⟨k,0,none⟩))∧w.heap.size≤k∧AE (fun _=>False) w w'∧w'.heap[k]? = some (.cells (u :: cellsF r y).toArray t (0,0)):=by
    intro hend;unfold AlH at hend;split at hend
    ·rename_i tt hrs;split at hend
     ·rename_i i hsl;split at hend
      ·rename_i b hbx;split at hend
       ·rename_i cs hcs;cases hown:b.own
        ·rw[hown] at hend;cases hend
        ·rw[hown,cond_true] at hend;have hpl:Bz b.cs=true:=by rw[hcs];cases cs<;>rfl
         obtain⟨k',cur,t',hk1,hh,hcr,hz,_⟩:=(hs'.boxes i b hbx).toCells hpl;rw[hcs] at hcr;have hcells:=Jl hflat hend (hs'.tied 0 q0 rfl) hu hu hcr;obtain⟨k2,hk2,hv2⟩:=(VR.to1 (hs'.slots tt _ hsl):LfR C g' (.box i 0) _);rw[hk1] at hk2;cases hk2;refine⟨hs'.nodef,_,GU (vs:=[.pointer (some ⟨k',0,none⟩)]) (by rw[hrs];exact⟨_,[],rfl,hv2.symm,rfl⟩),k',t',rfl,(hz hown).elim id (fun h=>h.elim),⟨hs'.kept.drawn,hs'.kept.os,hs'.kept.tape,hs'.kept.output,hs'.kept.size,hs'.kept.block⟩,?_⟩
         rw[hh];have:cur=(u :: cellsF r y).toArray:=by rw[← hcells]
         rw[this]
       ·cases hend
      ·cases hend
     ·cases hend
    ·cases hend
   cases ex with
   | exit id=>cases hk'
   | normal=>exact fin hk'
   | ret=>exact fin hk'
  ·cases h
end Go.Proofs.YteheolldcpjkcaaGreat.X
