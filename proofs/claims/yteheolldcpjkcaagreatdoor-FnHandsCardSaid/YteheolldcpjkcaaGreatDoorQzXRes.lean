/- A function's end: its results, and what was written in place. -/
import Derived.Test.YteheolldcpjkcaaGreatDoorQzXFun
import Derived.Laws.Sem
set_option linter.unusedSimpArgs false
set_option linter.unusedVariables false
set_option linter.unusedSectionVars false
namespace Go.Proofs.YteheolldcpjkcaaGreatDoor.X
open Go Go.RowKit
variable [CW]
variable {C:Cx} {fr:Fr} {big:FF} {g:Sg} {a:Act} {w w':World} {E:Env}
def Ai6 (P:Program) (a:Act) (w:World) (r:ResultVar) (v:Value):Prop :=
 match r with
 | .tmp t=>v=a.tmps.getD t undef
 | .cell b t=>∃ A,a.tmps.getD b undef=.pointer (some A)∧(loadVar t A).run P w=.ok v w
def Yz (P:Program) (a:Act) (w:World):List ResultVar→List Value→Prop
 | [],vs=>vs=[]
 | r :: l,vs=>∃ v vs',vs=v :: vs'∧Ai6 P a w r v∧Yz P a w l vs'
theorem Tg {P:Program} {f:ResultVar→Sem Value} {w:World}:∀ {l:List ResultVar} {vs:List Value},Yz P a w l vs→(∀ x v,Ai6 P a w x v→(f x).run P w=.ok v w)→(l.mapM f).run P w=.ok vs w
 | [],_,h,_=>by cases h;simp
 | r :: l,_,⟨v,vs',e,h1,h2⟩,hf=>by
  subst e;rw[Ats];simp only[AqP,hf r v h1,AqM,Tg h2 hf,Ara]
theorem GD {P:Program} {fn:Func} {vs:List Value} (h:Yz P a w fn.results.toList vs):(results fn a.tmps).run P w=.ok (FA vs) w:=by
 have key:∀ {f:ResultVar→Sem Value},(∀ x v,Ai6 P a w x v→(f x).run P w=.ok v w)→(fn.results.mapM f).run P w=.ok vs.toArray w:=by
  intro f hf;have:=Tg (f:=f) h hf;rw[← AqU (xs:=fn.results),List.mapM_toArray,map_eq_pure_bind];simp only[AqP,this,AqM,Ara]
 unfold results;simp only[AqP];rw[key (fun x v hv=>?_)]
 ·simp only[AqM,Ara];cases vs with
  | nil=>rfl
  | cons v vs =>
   cases vs with
   | nil=>simp[FA]
   | cons u us=>simp[FA]
 ·cases x with
  | tmp t=>cases hv;simp
  | cell b t =>
   obtain⟨A,h5,h6⟩:=hv;have h7:a.tmps[b]?.getD undef=.pointer (some A):=by rw[← h5];simp
   simp[h7,asAddr,h6]
theorem AmR {m:Option Nat}:∀ x:Md,((x==Md.own)=true)→x.mine=true∧(m≠none→x=.own):=fun x h=>by
 have:x=.own:=by simpa using h
 subst this;exact⟨rfl,fun _=>rfl⟩
theorem Ai7 (hE:AE C.P E) (hs:Sim C fr.f g a w) {s:Sh} {r:ResultVar} {cs:List Lf} (h:Aax E fr s r=some cs):∃ us,Ai6 C.P a w r (Aw s.agg us)∧Az C g cs us:=by
 cases r with
 | tmp t =>
  simp only[Aax] at h;split at h
  ·rename_i ag cs' hl;cases hag:(s.agg==ag)
   ·rw[hag] at h;cases h
   ·rw[hag,cond_true] at h;cases h;have hag':s.agg=ag:=by simpa using hag
    subst hag';obtain⟨us,e,hr,_⟩:=hs.slots t _ hl;exact⟨us,e.symm,hr⟩
  ·cases h
 | cell b t =>
  simp only[Aax] at h;split at h
  ·rename_i i tt hl hty;cases hd:decide (tt.sh=s)
   ·rw[hd] at h;cases h
   ·rw[hd,cond_true] at h;have hd':tt.sh=s:=by simpa using hd
    subst hd';split at h
    ·rename_i bx hb;cases hln:(Bs bx.cs&&Nat.beq bx.cs.length tt.sh.n)
     ·rw[hln] at h;cases h
     ·rw[hln,cond_true] at h;cases h;simp only[AqJ] at hln;have hln':=AqK hln.2;obtain⟨us,e,hr,_⟩:=hs.slots b _ hl;obtain⟨u,t',rfl,⟨k,hk,rfl⟩,ht⟩:=hr;cases ht;obtain⟨k',us',t',hk',hh,hr',_⟩:=(hs.boxes i bx hb).toCells hln.1;rw[hk] at hk';cases hk';have hT:=(hE.ty _ _ hty).ok;refine⟨us'.toList,⟨⟨k,0,none⟩,e,?_⟩,hr'⟩;exact Dj hT w _ _ (by rw[hr'.len,hln']) (fun i u hu=>by
       rw[Addr.add_mid k 0 i,cell_of_row w k (0+i) us' t' (0,0) hh];rw[← hu];simp)
    ·cases h
  ·cases h
theorem AeE {s:Sh} {l:List Sh} (x:s.T) (y:RT l):(RT.mk x y).hd=x:=by cases l<;>rfl
theorem AeF {s:Sh} {l:List Sh} (x:s.T) (y:RT l):(RT.mk x y).tl=y:=by cases l<;>rfl
theorem MK (hE:AE C.P E) (hs:Sim C fr.f g a w):∀ {l:List ResultVar} {rs:List Sh} {rw rw':List (Option Ac)} {z:RT rs},Ew E fr l rs rw=some (z,rw')→AW none (at? fr.rw) (at? rw) →
  ∃ vs Gs,Yz C.P a w l vs∧M8 w rs z vs Gs∧AW none (at? rw) (at? rw')∧∀ G∈Gs,∀ k,G k→Own (at? rw) g k∧¬ Own (at? rw') g k
 | [],[],rw,rw',z,h,hT=>by
  cases h;exact⟨[],[],rfl,⟨rfl,rfl⟩,AW.refl _ _,by simp⟩
 | r :: l,s :: rs,rw,rw',z,h,hT=>by
  simp only[Ew] at h;split at h
  ·rename_i cs hr;split at h
   ·rename_i x rw1 ht;split at h
    ·rename_i y rw2 ho;cases h;obtain⟨us,h1,h2⟩:=Ai7 hE hs hr;obtain⟨_,t1,c1,c2,e,hr2,hO⟩:=Be (AmR (m:=none)) s ht h2 (hs.tab.took hT);cases hr2;have e':us=c1:=by simpa using e
     subst e';obtain⟨vs,Gs,h3,h4,t2,h5⟩:=MK hE hs ho (hT.trans t1);refine⟨_ :: vs,(fun k=>Own (at? rw) g k∧¬ Own (at? rw1) g k) :: Gs,⟨_,vs,rfl,h1,h3⟩,⟨_,vs,_,Gs,us,rfl,rfl,rfl,?_,?_,?_⟩,t1.trans t2,?_⟩
     ·rw[AeE];exact hO
     ·exact fun k hk G hG hk'=>hk.2 (h5 G hG k hk').1
     ·rw[AeF];exact h4
     ·intro G hG k hk;rcases AqQ.1 hG with rfl | hG
      ·exact⟨hk.1,fun h6=>hk.2 (h6.took t2)⟩
      ·obtain⟨h6,h7⟩:=h5 G hG k hk;exact⟨h6.took t1,h7⟩
    ·cases h
   ·cases h
  ·cases h
 | [],_ :: _,_,_,_,h,_=>by cases h
 | _ :: _,[],_,_,_,h,_=>by cases h
theorem DD {rw:List (Option Ac)}:(s:Sh)→∀ {n:Nat} {x y:s.T},HW rw s n x=some y→∀ j,n≤j→j<n+Bg s→∃ r,at? rw j=some r∧r.m=.io
 | .int _,n,x,y,h,j,h1,h2 | .bool,n,x,y,h,j,h1,h2 | .str,n,x,y,h,j,h1,h2=>by simp[Bg] at h2;omega
 | .fn1 _ _,n,x,y,h,j,h1,h2 | .fn2 _ _ _,n,x,y,h,j,h1,h2=>by cases h
 | .list e s,n,x,y,h,j,h1,h2=>by
  have:j=n:=by simp[Bg] at h2;omega
  subst this;simp only[HW] at h;split at h
  ·rename_i q hq;split at h
   ·cases hm:(q.m==Md.io)
    ·rw[hm] at h;cases h
    ·exact⟨q,hq,by simpa using hm⟩
   ·cases h
  ·cases h
 | .cons a b,n,x,y,h,j,h1,h2=>by
  simp only[HW] at h;split at h
  ·rename_i x1 y1 e1 e2;simp only[Bg] at h2;by_cases hj:j<n+Bg a
   ·exact DD a e1 j h1 hj
   ·exact DD b e2 j (by omega) (by omega)
  ·cases h
def IoZ (C:Cx) (n m:Nat):FP:=fun k=>∃ j q,n≤j∧j<n+m∧C.io j=some q∧q.F k
theorem ML (hs:Sim C fr.f g a w) {rw:List (Option Ac)} (hT:AW none (at? fr.rw) (at? rw)) {C0:Cx} {g0:Sg} (hJ:∀ j q,C.io j=some q→g0.ρ j=some q):(s:Sh)→∀ {n:Nat} {x y:s.T} {cs:List Value},HW rw s n x=some y→Az C0 g0 (Aa .io s x n).1 cs→OC s w (IoZ C n (Bg s)) y cs
 | .int _,n,x,y,cs,h,hl | .bool,n,x,y,cs,h,hl | .str,n,x,y,cs,h,hl=>by
  cases h;obtain⟨u,t,rfl,hu,ht⟩:=hl;cases hu;cases ht;rfl
 | .fn1 _ _,n,x,y,cs,h,hl | .fn2 _ _ _,n,x,y,cs,h,hl=>by cases h
 | .list e s,n,x,y,cs,h,hl=>by
  obtain⟨u,t,rfl,⟨q0,A0,n0,c0,hq0,hv0,hu0⟩,ht⟩:=hl;cases ht;simp only[HW] at h;split at h
  ·rename_i r hr;split at h
   ·rename_i he;cases hm:(r.m==Md.io)
    ·rw[hm] at h;cases h
    ·rw[hm,cond_true] at h;split at h
     ·rename_i hs';cases h;have hm':r.m=.io:=by simpa using hm
      have hr':=hT.mine hr (by rw[hm'];rfl)
      obtain⟨q,A,m,c,hq,hv,hz,hlt,hZ⟩:=hs.rows n r hr';rw[BZ,hm'] at hZ;obtain⟨hO,_,hio⟩:=hZ;have:=hJ n q hio;rw[hq0] at this;cases this;obtain⟨e0,s0,xs0,m0⟩:=r;simp only at he hs' hO;subst he;subst hs';refine⟨u,rfl,?_⟩;rw[hu0,← hv0];exact BF.mono (fun k hk=>⟨n,q0,AqO _,by simp[Bg],hio,hk⟩) hO
     ·cases h
   ·cases h
  ·cases h
 | .cons s t,n,x,y,cs,h,hl=>by
  simp only[HW] at h;split at h
  ·rename_i x1 y1 e1 e2;cases h;obtain⟨c1,c2,rfl,l1,l2⟩:=Az.split hl;rw[BQ s] at l2;refine⟨c1,c2,rfl,IoZ C n (Bg s),IoZ C (n+Bg s) (Bg t),?_,?_,?_,ML hs hT hJ s e1 l1,ML hs hT hJ t e2 l2⟩
   ·rintro k ⟨j,q,h1,h2,h3,h4⟩
    exact⟨j,q,h1,by simp[Bg];omega,h3,h4⟩
   ·rintro k ⟨j,q,h1,h2,h3,h4⟩
    exact⟨j,q,by omega,by simp[Bg];omega,h3,h4⟩
   ·rintro k ⟨j,q,h1,h2,h3,h4⟩ ⟨j',q',h1',h2',h3',h4'⟩
    obtain⟨r,a1,a2⟩:=DD s e1 j h1 h2;obtain⟨r',b1,b2⟩:=DD t e2 j' h1' h2';have a3:=hT.mine a1 (by rw[a2];rfl)
    have b3:=hT.mine b1 (by rw[b2];rfl)
    obtain⟨qa,_,_,_,hqa,_,_,_,hZa⟩:=hs.rows j r a3;rw[BZ,a2] at hZa;have:=hZa.2.2;rw[h3] at this;cases this;obtain⟨qb,_,_,_,hqb,_,_,_,hZb⟩:=hs.rows j' r' b3;rw[BZ,b2] at hZb;have:=hZb.2.2;rw[h3'] at this;cases this;have:=hs.rdisj j j' r r' q q' k a3 b3 (by rw[a2];rfl) (by rw[b2];rfl) hqa hqb h4 h4'
    omega
  ·cases h
theorem AeG:∀ (ps:List (PM×Sh)) {Fs:List FP} {n j k:Nat},At ps Fs n j k→n≤j
 | [],_,_,_,_,h=>by cases h
 | _ :: _,[],_,_,_,h=>by cases h
 | (_,s) :: ps,F :: Fs,n,j,k,h=>by
  rcases h with h | h
  ·exact h.1
  ·have:=AeG ps h;omega
def IoL (C:Cx) (g:Sg):(ps:List (PM×Sh))→Nat→AT ps→List Value→Prop
 | [],_,_,_=>True
 | (.io,s) :: ps,n,x,u :: us=>(∃ cs,u=Aw s.agg cs∧Az C g (Aa .io s x.1 n).1 cs)∧IoL C g ps (n+Bg s) x.2 us
 | (_,s) :: ps,n,x,_ :: us=>IoL C g ps (n+Bg s) x.2 us
 | _ :: _,_,_,[]=>False
theorem IZ (hs:Sim C fr.f g a w') {rw:List (Option Ac)} (hT:AW none (at? fr.rw) (at? rw)) {C0:Cx} {g0:Sg} (hJ:∀ j q,C.io j=some q→g0.ρ j=some q) {rs:List Sh} {z:RT rs} {K:RT rs→Prop} (hK:K z):∀ (ps:List (PM×Sh)) {n:Nat} {us:List Value} {Fs:List FP} {x:AT ps} {y:RT (BD ps++rs)},K5 rw ps n rs x z=some y→us.length=ps.length→Fs.length=ps.length →
  IoL C0 g0 ps n x us→(∀ j q k,n≤j→C.io j=some q→q.F k→At ps Fs n j k)→Va w' ps rs us Fs y K
 | [],n,us,Fs,x,y,h,hu,hF,hI,hA=>by cases h;exact hK
 | (m,s) :: ps,n,[],Fs,x,y,h,hu,hF,hI,hA=>by simp at hu
 | (m,s) :: ps,n,_ :: _,[],x,y,h,hu,hF,hI,hA=>by simp at hF
 | (m,s) :: ps,n,u :: us,F :: Fs,x,y,h,hu,hF,hI,hA=>by
  have hu':us.length=ps.length:=by simpa using hu
  have hF':Fs.length=ps.length:=by simpa using hF
  have hA':∀ j q k,n+Bg s≤j→C.io j=some q→q.F k→At ps Fs (n+Bg s) j k:=fun j q k h1 h2 h3=>by
   rcases hA j q k (by omega) h2 h3 with h4 | h4
   ·omega
   ·exact h4
  cases m with
  | io =>
   simp only[K5] at h;split at h
   ·rename_i x1 z1 e1 e2;cases h;obtain⟨⟨cs,eu,hl⟩,hI'⟩:=hI;refine⟨⟨cs,eu,?_⟩,?_⟩
    ·rw[AeE];refine OC.mono s ?_ (ML hs hT hJ s e1 hl)
     rintro k ⟨j,q,h1,h2,h3,h4⟩
     rcases hA j q k h1 h3 h4 with h5 | h5
     ·exact h5.2.2
     ·exact absurd (AeG ps h5) (by omega)
    ·rw[AeF];exact IZ hs hT hJ hK ps e2 hu' hF' hI' hA'
   ·cases h
  | ro=>exact IZ hs hT hJ hK ps h hu' hF' hI hA'
  | mv=>exact IZ hs hT hJ hK ps h hu' hF' hI hA'
  | cap=>exact IZ hs hT hJ hK ps h hu' hF' hI hA'
def AeH:PM→Md | .mv=>.own | .io=>.io | .ro | .cap=>.ro
def OE:List (PM×Sh)→Nat→Nat→Md→Prop
 | (m,s) :: ps,n,j,x=>(n≤j∧j<n+Bg s∧x=AeH m)∨OE ps (n+Bg s) j x
 | [],_,_,_=>False
theorem EW:∀ (ps:List (PM×Sh)) {i:Nat} {fr:Fr} {x:AT ps} {j:Nat} {r:Ac},at? (Ah .io ps i fr x).rw j=some r→at? fr.rw j=some r∨OE ps fr.rw.length j r.m
 | [],i,fr,x,j,r,h=>.inl h
 | (m,s) :: ps,i,fr,x,j,r,h=>by
  have key:∀ {md:Md} {fr':Fr},fr'.rw=fr.rw++(Aa md s x.1 fr.rw.length).2.map some→md=AeH m→at? (Ah .io ps (i+1) fr' x.2).rw j=some r→at? fr.rw j=some r∨OE ((m,s) :: ps) fr.rw.length j r.m:=by
   intro md fr' e hm h;rcases EW ps h with h1 | h1
   ·rw[e,BN] at h1;unfold more at h1;split at h1
    ·rename_i hin;rw[BQ s] at hin;exact .inr (.inl ⟨hin.1,hin.2,by rw[BM s r (Aq4 h1)];exact hm⟩)
    ·exact .inl h1
   ·rw[e,AqS,AqZ,BQ s] at h1;exact .inr (.inr h1)
  cases m with
  | ro=>exact key (fr':={ fr with sl:=ins fr.sl i (.v s.agg (Aa .ro s x.1 fr.rw.length).1),rw:=fr.rw++(Aa .ro s x.1 fr.rw.length).2.map some }) rfl rfl h
  | mv=>exact key (fr':={ fr with sl:=ins fr.sl i (.v s.agg (Aa .own s x.1 fr.rw.length).1),rw:=fr.rw++(Aa .own s x.1 fr.rw.length).2.map some }) rfl rfl h
  | io=>exact key (fr':={ fr with sl:=ins fr.sl i (.v s.agg (Aa .io s x.1 fr.rw.length).1),rw:=fr.rw++(Aa .io s x.1 fr.rw.length).2.map some }) rfl rfl h
  | cap=>exact key (fr':={ nt:=fr.nt,sl:=ins fr.sl i (.l (.box fr.bx.length 0)),bx:=fr.bx++[some ⟨false,(Aa .ro s x.1 fr.rw.length).1⟩],rw:=fr.rw++(Aa .ro s x.1 fr.rw.length).2.map some }) rfl rfl h
theorem Th:∀ (ps:List (PM×Sh)) {n j:Nat} {x:Md},OE ps n j x→n≤j
 | [],_,_,_,h=>by cases h
 | (_,s) :: ps,n,j,x,h=>by
  rcases h with h | h
  ·exact h.1
  ·have:=Th ps h;omega
theorem QW:∀ (ps:List (PM×Sh)) {Fs:List FP} {n j k:Nat} {x:Md},OE ps n j x→At ps Fs n j k→(x=.own→Eh ps Fs k)∧(x=.io→hands ps Fs k)
 | [],_,_,_,_,_,h,_=>by cases h
 | _ :: _,[],_,_,_,_,_,h=>by cases h
 | (m,s) :: ps,F :: Fs,n,j,k,x,h,h'=>by
  rcases h with h | h<;>rcases h' with h' | h'
  ·refine⟨fun e=>.inl ⟨?_,h'.2.2⟩,fun e=>.inl ⟨?_,h'.2.2⟩⟩
   ·have:=h.2.2.symm.trans e;cases m<;>first | rfl | cases this
   ·have:=h.2.2.symm.trans e;cases m<;>first | rfl | cases this
  ·have:=AeG ps h';omega
  ·have:=Th ps h;omega
  ·obtain⟨h1,h2⟩:=QW ps h h';exact⟨fun e=>.inr (h1 e),fun e=>.inr (h2 e)⟩
theorem Dz.len {P:Program}:∀ {ps:List (PM×Sh)} {x:AT ps} {us:List Value} {Fs:List FP},Dz P w ps x us Fs→us.length=ps.length∧Fs.length=ps.length
 | [],_,_,_,⟨h1,h2⟩=>by subst h1;subst h2;exact⟨rfl,rfl⟩
 | _ :: _,_,_,_,⟨_,_,_,_,e1,e2,_,_,h⟩=>by subst e1;subst e2;simp[h.len]
theorem GE {P:Program}:∀ {ps:List (PM×Sh)} {x:AT ps} {us:List Value} {Fs:List FP},Dz P w ps x us Fs→∀ k,(hands ps Fs k∨reads ps Fs k)→k<w.heap.size
 | [],_,_,_,_,k,h=>by rcases h with h | h<;>cases h
 | (m,s) :: ps,_,_,_,⟨_,_,_,_,e1,e2,hlt,_,hA⟩,k,h=>by
  subst e2;rcases h with (h | h) | (h | h)
  ·exact hlt k h.2
  ·exact GE hA k (.inl h)
  ·exact hlt k h.2
  ·exact GE hA k (.inr h)
theorem OG:∀ {ps:List (PM×Sh)} {Fs:List FP} {k:Nat},Ei ps Fs→reads ps Fs k→¬ hands ps Fs k
 | [],_,_,_,h=>by cases h
 | (m,s) :: ps,[],_,_,h=>by cases h
 | (m,s) :: ps,F :: Fs,k,hap,h=>by
  rintro (h' | h')
  ·rcases h with h | h
   ·rw[h.1] at h';cases h'.1
   ·exact (hap.1 k h'.2).2 h'.1 h
  ·rcases h with h | h
   ·exact (hap.1 k h.2).1 h'
   ·exact OG hap.2 h h'
theorem YA {D:Cx} {f:FF} {g':Sg} (hs:Sim D f g' a w):∀ (ps:List (PM×Sh)) {i:Nat} {fr:Fr} {x:AT ps} {us:List Value},(∀ t v,lkp (Ah .io ps i fr x).sl t=some v→lkp f.sl t=some v)→(∀ p∈ps,p.1=.io→p.2.n=p.2.n)→us.length=ps.length→(∀ j u,us[j]? = some u→a.tmps.getD (i+j) undef=u)→Up fr.sl→IoL D g' ps fr.rw.length x us
 | [],i,fr,x,us,hl,_,hn,hu,hup=>trivial
 | (m,s) :: ps,i,fr,x,[],hl,_,hn,hu,hup=>by simp at hn
 | (m,s) :: ps,i,fr,x,u :: us,hl,h0,hn,hu,hup=>by
  have hu':∀ j v,us[j]? = some v→a.tmps.getD (i+1+j) undef=v:=fun j v hv=>by
   rw[← hu (j+1) v (by simpa using hv)]
   congr 1;omega
  have hn':us.length=ps.length:=by simpa using hn
  have key:∀ {md:Md} {fr':Fr} {v:AV},fr'.rw=fr.rw++(Aa md s x.1 fr.rw.length).2.map some→fr'.sl=ins fr.sl i v→(∀ t v,lkp (Ah .io ps (i+1) fr' x.2).sl t=some v→lkp f.sl t=some v)→IoL D g' ps (fr.rw.length+Bg s) x.2 us:=by
   intro md fr' v e1 e2 h;have:=YA hs ps (i:=i+1) (fr:=fr') (x:=x.2) h (fun p hp=>h0 p (ArC _ hp)) hn' hu' (by rw[e2];exact hup.ins _ _)
   rw[e1,AqS,AqZ,BQ s] at this;exact this
  cases m with
  | ro=>exact key (fr':={ fr with sl:=ins fr.sl i (.v s.agg (Aa .ro s x.1 fr.rw.length).1),rw:=fr.rw++(Aa .ro s x.1 fr.rw.length).2.map some }) rfl rfl hl
  | mv=>exact key (fr':={ fr with sl:=ins fr.sl i (.v s.agg (Aa .own s x.1 fr.rw.length).1),rw:=fr.rw++(Aa .own s x.1 fr.rw.length).2.map some }) rfl rfl hl
  | cap=>exact key (fr':={ nt:=fr.nt,sl:=ins fr.sl i (.l (.box fr.bx.length 0)),bx:=fr.bx++[some ⟨false,(Aa .ro s x.1 fr.rw.length).1⟩],rw:=fr.rw++(Aa .ro s x.1 fr.rw.length).2.map some }) rfl rfl hl
  | io =>
   refine⟨?_,key (fr':={ fr with sl:=ins fr.sl i (.v s.agg (Aa .io s x.1 fr.rw.length).1),rw:=fr.rw++(Aa .io s x.1 fr.rw.length).2.map some }) rfl rfl hl⟩
   have h1:=hl i (.v s.agg (Aa .io s x.1 fr.rw.length).1) (by
    refine stays ps (i:=i+1) (Nat.lt_succ_self i) ?_;show lkp (ins fr.sl i _) i=_;rw[Fi,if_pos rfl])
   obtain⟨cs,e,hr,_⟩:=hs.slots _ _ h1;have h2:=hu 0 u rfl;rw[ArJ] at h2;rw[h2] at e;exact⟨cs,e,hr⟩
 where
 stays:∀ (ps:List (PM×Sh)) {i:Nat} {fr:Fr} {x:AT ps} {t:Nat} {v:AV},t<i→lkp fr.sl t=some v→lkp (Ah .io ps i fr x).sl t=some v
  | [],_,_,_,_,_,_,h=>h
  | (m,s) :: ps,i,fr,x,t,v,ht,h=>by
   have h':∀ u,lkp (ins fr.sl i u) t=some v:=fun u=>by rw[Fi,if_neg (by omega)];exact h
   cases m<;>exact stays ps (by omega) (h' _)
theorem Aad (ps:List (PM×Sh)) (n:Nat) (x:AT ps):Ov (Ah .io ps 0 ⟨n,[],[],[]⟩ x) (Ah .own ps 0 ⟨n,[],[],[]⟩ x):=Gz ps ⟨rfl,rfl,rfl,rfl,fun _=>.inl rfl⟩
theorem Nb {P:Program} {E:Env} (hE:AE P E) {f:Nat} {fn:Func} (hfn:P.funcs[f]? = some fn) {ps:List (PM×Sh)} {rs:List Sh} {F:AT ps→Option (RT (BD ps++rs))} (hF:∀ x y,F x=some y→Q4 E fn ps rs x=some y):Ck P f ⟨ps,rs,F⟩:=by
 intro w x us Fs hW hfree hA hap y hy;have h:=hF x y hy;unfold Q4 at h;cases hg:(Nat.ble ps.length fn.ntmps&&ps.all JO)
 ·rw[hg] at h;cases h
 ·rw[hg,cond_true] at h;simp only[AqJ] at hg;have hnt:=CI hg.1;split at h
  ·rename_i c hb;have hul:us.length=ps.length:=hA.len.1;have hFl:Fs.length=ps.length:=hA.len.2
   let C0:Cx:=⟨P,w,hands ps Fs,fun k=>reads ps Fs k∨k<gN,fun _=>none,none⟩
   have hlt:=fun k hk=>GE (P:=P) hA k hk;have hC0:A6 C0:=⟨fun k hk=>hlt k (.inl hk),fun k hk=>by
    rcases hk with hk | hk
    ·exact⟨hlt k (.inr hk),OG hap hk⟩
    ·exact⟨Ard hk hW.1,fun h=>absurd (hfree k h) (Nat.not_le.2 hk)⟩,hW,fun k hk=>.inr hk⟩
   let a0:Act:={ tmps:=us.toArray++Array.replicate (fn.ntmps-us.toArray.size) undef,defers:=[] }
   have hsz:a0.tmps.size=fn.ntmps:=by simp[a0];omega
   have hs0:Sim C0 (⟨fn.ntmps,[],[],[]⟩:Fr).f ⟨fun _=>none,fun _=>none⟩ a0 w:=by
    refine⟨rfl,hsz,List.Pairwise.nil,Hc.refl _ _,fun t v h=>(by cases h),fun i b h=>?_,fun i j b b' k h=>?_,fun i r h=>?_,fun i j r r' q q' k h=>?_,fun i r q j b k h=>?_,fun i q h=>(by cases h),fun i h=>(by cases h)⟩<;>simp[Fr.f,at?] at h
   have hu0:∀ j u,us[j]? = some u→a0.tmps.getD (0+j) undef=u:=fun j u hj=>by
    have hjl:=(Aq2.1 hj).1;simp only[a0,Ari,Aq7];rw[Asa (by simpa using hjl)]
    simp[hj]
   obtain⟨g1,_,s1,f1,i1⟩:=IX (C:=C0) rfl ps (i:=0) (fr:=⟨fn.ntmps,[],[],[]⟩) hg.2 hA hap (fun _ h=>h) (fun _ h=>.inl h) hs0 ⟨fun _ _=>rfl,fun _ _=>rfl⟩ (.inl fun j b h=>by simp[at?] at h) hu0 (fun k hk=>by obtain⟨i,r,q,h,_⟩:=hk;simp[at?] at h)
   have hrel:=Aad ps fn.ntmps x
   let A:=Ah .io ps 0 ⟨fn.ntmps,[],[],[]⟩ x
   let J:Nat→Option Cv:=fun j=>match at? A.rw j with | some r=>if r.m=.io then g1.ρ j else none | none=>none
   have hJ:∀ j q,J j=some q→g1.ρ j=some q∧∃ r,at? A.rw j=some r∧r.m=.io:=fun j q h=>by
    simp only[J] at h;split at h
    ·rename_i r hr;split at h
     ·exact⟨h,r,hr,by assumption⟩
     ·cases h
    ·cases h
   let S:FP:=fun k=>Eh ps Fs k∨∃ j q,J j=some q∧q.F k
   have hAt:∀ j q k,J j=some q→q.F k→At ps Fs 0 j k:=fun j q k h hk=>by
    obtain⟨h1,r,h2,h3⟩:=hJ j q h;rcases hrel.rw j with e | ⟨r0,e1,e2,e3⟩
    ·rcases EW ps h2 with h4 | h4
     ·simp[at?] at h4
     ·exact absurd e (by
       intro e;have h5:at? (Ah .own ps 0 ⟨fn.ntmps,[],[],[]⟩ x).rw j=some r:=e▸h2;exact noIo ps h5 h3)
    ·rcases i1 j r0 q k e2 e3 h1 hk with h5 | h5
     ·exact h5
     ·simp[at?] at h5
   have hS:∀ k,S k→hands ps Fs k:=by
    rintro k (hk | ⟨j,q,h1,h2⟩)
    ·exact Cs hk
    ·obtain⟨_,r,h3,h4⟩:=hJ j q h1;rcases EW ps h3 with h5 | h5
     ·simp[at?] at h5
     ·exact (QW ps h5 (hAt j q k h1 h2)).2 h4
   let C:Cx:=C0.withIo S J
   have hC:A6 C:=⟨fun k hk=>hC0.S_lt k (hS k hk),fun k hk=>⟨(hC0.R_lt k hk).1,fun h=>(hC0.R_lt k hk).2 (hS k h)⟩,hC0.tabs,hC0.glR⟩;have s2:Sim C A.f g1 a0 w:=s1.toIo (Hc.refl _ _) (fun j r q k h1 h2 h3 h4=>by
    refine .inr ?_;rcases hrel.rw j with e | ⟨r0,e1,e2,e3⟩
    ·have h5:at? A.rw j=some r:=e.trans h1;have h6:r.m=.own:=by
      cases hm:r.m with
      | own=>rfl
      | io=>exact absurd hm (noIo ps h1)
      | ro=>rw[hm] at h2;cases h2
      | bor=>rw[hm] at h2;cases h2
     rcases i1 j r q k h1 h6 h3 h4 with h7 | h7
     ·rcases EW ps h5 with h8 | h8
      ·simp[at?] at h8
      ·exact .inl ((QW ps h8 h7).1 h6)
     ·simp[at?] at h7
    ·refine .inr ⟨j,q,?_,h4⟩;simp only[J];rw[show at? A.rw j=some { r0 with m:=.io } from e1]
     exact h3) hrel (fun j r q h1 h2 h3=>by
    simp only[J];rw[h1];simp only;rw[if_pos h2];exact h3) (fun j q h=>(hJ j q h).1) (D3 ps (fun j b h=>by simp[at?] at h))
   have f2:Fit A g1:=⟨fun i hi=>f1.β i (by rw[← hrel.bx];exact hi),fun i hi=>f1.ρ i (by rw[← hrel.len];exact hi)⟩
   have hio:∀ i q,C.io i=some q→i<A.rw.length:=fun i q hi=>by
    obtain⟨_,r,hr,_⟩:=hJ i q hi;exact Bb hr
   have hIoL:IoL C0 g1 ps 0 x us:=YA s1 ps (i:=0) (fr:=⟨fn.ntmps,[],[],[]⟩) (fun t v h=>by
    show lkp (Ah .own ps 0 ⟨fn.ntmps,[],[],[]⟩ x).sl t=some v;rw[← hrel.sl];exact h) (fun _ _ _=>rfl) hul hu0 List.Pairwise.nil
   refine calls_of_wp hfn hb (DM (C:=C) hE hC hio c h s2 f2 fun e fr' g' a' w' hk hs' hf'=>?_);have fin:∀ {z:Option (RT (BD ps++rs))},(match Ew E fr' fn.results.toList rs fr'.rw with | some (z,rw)=>K5 rw ps 0 rs x z | none=>none)=some y→a'.defers=[]∧∃ v,(results fn a'.tmps).run P w'=.ok v w'∧∃ u,Ending.returned v=.returned u∧QR w ⟨ps,rs,F⟩ us Fs y u w':=by
    intro _ hk;split at hk
    ·rename_i z rw hres;obtain⟨vs,Gs,h1,h2,h3,h4⟩:=MK (C:=C) hE hs' hres (AW.refl _ _);refine⟨hs'.nodef,_,GD h1,_,rfl,vs,Gs,rfl,?_,?_⟩
     ·exact⟨hs'.kept.drawn,hs'.kept.os,hs'.kept.tape,hs'.kept.output,hs'.kept.size,fun k h5 h6=>hs'.kept.block k h5 fun h7=>h6 (hS k h7)⟩
     ·refine IZ hs' h3 (g0:=g1) (fun j q h=>(hJ j q h).1) ⟨h2,fun G hG k hk'=>?_⟩ ps hk hul hFl hIoL (fun j q k _ h5 h6=>hAt j q k h5 h6);obtain⟨h5,h6⟩:=h4 G hG k hk';obtain⟨h7,h8⟩:=Own.zone hs' h5;refine⟨?_,h8⟩;rcases h7 with h7 | h7 | ⟨j,q,h7,h9⟩
      ·exact .inl h7
      ·exact .inr h7
      ·refine absurd ?_ h6;obtain⟨_,r,a1,a2⟩:=hJ j q h7;rcases EW ps a1 with a3 | a3
       ·simp[at?] at a3
       ·rw[a2] at a3;obtain⟨r',b1,b2⟩:=ioAlive ps hk a3;have b3:=h3.mine b1 (by rw[b2];rfl)
        obtain⟨qb,_,_,_,hqb,_,_,_,hZb⟩:=hs'.rows j r' b3;rw[BZ,b2] at hZb;have:=hZb.2.2;rw[show C.io j=some q from h7] at this
        cases this;exact⟨j,r',q,b1,by rw[b2];rfl,hqb,h9⟩
    ·cases hk
   cases e with
   | exit id=>cases hk
   | normal=>exact fin (z:=none) hk
   | ret=>exact fin (z:=none) hk
  ·cases h
 where
 noIo:∀ (ps:List (PM×Sh)) {i n:Nat} {x:AT ps} {j:Nat} {r:Ac},at? (Ah .own ps i ⟨n,[],[],[]⟩ x).rw j=some r→r.m≠.io:=by
  intro ps i n x j r h;have:∀ (ps:List (PM×Sh)) {i:Nat} {fr:Fr} {x:AT ps},(∀ r,at? fr.rw j=some r→r.m≠.io)→∀ r,at? (Ah .own ps i fr x).rw j=some r→r.m≠.io:=by
   intro ps
   induction ps with
   | nil=>intro i fr x h r hr;exact h r hr
   | cons p ps ih =>
    obtain⟨m,s⟩:=p;intro i fr x h r hr;have key:∀ {md:Md} {fr':Fr},md≠.io→fr'.rw=fr.rw++(Aa md s x.1 fr.rw.length).2.map some→at? (Ah .own ps (i+1) fr' x.2).rw j=some r→r.m≠.io:=by
     intro md fr' hmd e hr;refine ih (fun r hr=>?_) r hr;rw[e,BN] at hr;unfold more at hr;split at hr
     ·rw[BM s r (Aq4 hr)];exact hmd
     ·exact h r hr
    cases m with
    | ro=>exact key (md:=.ro) (fr':={ fr with sl:=ins fr.sl i (.v s.agg (Aa .ro s x.1 fr.rw.length).1),rw:=fr.rw++(Aa .ro s x.1 fr.rw.length).2.map some }) (by simp) rfl hr
    | mv=>exact key (md:=.own) (fr':={ fr with sl:=ins fr.sl i (.v s.agg (Aa .own s x.1 fr.rw.length).1),rw:=fr.rw++(Aa .own s x.1 fr.rw.length).2.map some }) (by simp) rfl hr
    | io=>exact key (md:=.own) (fr':={ fr with sl:=ins fr.sl i (.v s.agg (Aa .own s x.1 fr.rw.length).1),rw:=fr.rw++(Aa .own s x.1 fr.rw.length).2.map some }) (by simp) rfl hr
    | cap=>exact key (md:=.ro) (fr':={ nt:=fr.nt,sl:=ins fr.sl i (.l (.box fr.bx.length 0)),bx:=fr.bx++[some ⟨false,(Aa .ro s x.1 fr.rw.length).1⟩],rw:=fr.rw++(Aa .ro s x.1 fr.rw.length).2.map some }) (by simp) rfl hr
  exact this ps (fun r h=>by simp[at?] at h) r h
 ioAlive:∀ (ps:List (PM×Sh)) {rw:List (Option Ac)} {n:Nat} {rs:List Sh} {x:AT ps} {z:RT rs} {y:RT (BD ps++rs)} {j:Nat},K5 rw ps n rs x z=some y→OE ps n j .io→∃ r,at? rw j=some r∧r.m=.io
  | [],_,_,_,_,_,_,_,_,h=>by cases h
  | (m,s) :: ps,rw,n,rs,x,z,y,j,h,hr=>by
   cases m with
   | io =>
    simp only[K5] at h;split at h
    ·rename_i x1 z1 e1 e2;rcases hr with hr | hr
     ·exact DD s e1 j hr.1 hr.2.1
     ·exact ioAlive ps e2 hr
    ·cases h
   | ro=>rcases hr with hr | hr;(cases hr.2.2);exact ioAlive ps h hr
   | mv=>rcases hr with hr | hr;(cases hr.2.2);exact ioAlive ps h hr
   | cap=>rcases hr with hr | hr;(cases hr.2.2);exact ioAlive ps h hr
theorem MM {ps:List (PM×Sh)} (h:Ha ps=true):(∀ p∈ps,p.1=.ro)∧ps.all JO=true∧ps.all (fun p=>p.1==.ro)=true:=by
 unfold Ha at h;rw[AqL] at h;refine⟨fun p hp=>?_,AqL.2 fun p hp=>?_,AqL.2 fun p hp=>?_⟩
 all_goals have:=h p hp;simp only[AqJ,beq_iff_eq] at this;first | exact this.1 | exact this.2 | simpa using this.1
theorem Ti {P:Program} {w:World} {F:FP} {e:Nat} {s:Sh} {xs:List s.T} {u:Value} (h:RC P (.list e s) w F xs [u]):∃ A n c,u=.slice A n c:=by
 obtain⟨A,n,c,e,_⟩:=h;exact⟨A,n,c,List.cons.inj e |>.1⟩
theorem I0 {rw':List (Option Ac)} {r:Sh} (hf:r.flat=true) {cs:List Lf} {z:r.T} (hz:whole (Av rw' r cs)=some z) {q0:Cv} {u:Value} (hq:g.ρ 0=some q0) {A:Option Addr} {n c:Nat} (hv:q0.v=.slice A n c) (hu:u=.slice A n c) {us:List Value} (h:Az C g (.row 0 :: cs) us):us=u :: cellsF r z:=by
 obtain⟨u1,t,e,⟨q,A1,n1,c1,hq1,hv1,hu1⟩,ht⟩:=h;rw[hq] at hq1;cases hq1;rw[hv] at hv1;cases hv1;unfold whole at hz;split at hz
 ·rename_i x hc;cases hz;obtain⟨t',et,ht'⟩:=Dp rw' r hf hc ht;cases ht';rw[e,hu1,hu,et,Arx]
 ·cases hz
theorem Nc {P:Program} {E:Env} (hE:AE P E) {f:Nat} {fn:Func} (hfn:P.funcs[f]? = some fn) {e:Nat} {s r:Sh} {ps:List (PM×Sh)} {rs:List Sh} {F:(List s.T×r.T)×AT ps→Option (RT (r :: rs))} (hF:∀ x y,F x=some y→YH E fn e s r ps rs x=some y):CQ P f ⟨e,s,r,ps,rs,F⟩:=by
 intro w k u t x us Fs Z hW hgk hk hl hZ hA hFk y hy;have h:=hF x y hy;unfold YH at h;cases hg:(Nat.ble (ps.length+1) fn.ntmps&&Ha ps&&r.flat&&s.data)
 ·rw[hg] at h;cases h
 ·rw[hg,cond_true] at h;simp only[AqJ] at hg;obtain⟨⟨⟨hnt,hro⟩,hflat⟩,_⟩:=hg;have hnt:=CI hnt;obtain⟨hro,hpar,hroB⟩:=MM hro;split at h
  ·rename_i c hb;have hul:us.length=ps.length:=hA.len.1;have hFl:Fs.length=ps.length:=hA.len.2;obtain⟨A0,n0,c0,hu⟩:=Ti hl
   let q0:Cv:=⟨u,Z,s.n⟩
   let C:Cx:=⟨P,w,fun j=>j=k,fun j=>(Z j∨reads ps Fs j)∨j<gN,fun i=>if i=0 then some q0 else none,some k⟩
   have hklt:k<w.heap.size:=(Arb.1 hk).1;have hrd:∀ j,reads ps Fs j→j<w.heap.size∧j≠k:=fun j hj=>by
    refine⟨GE hA j (.inr hj),fun e=>?_⟩;subst e;have:∀ {ps:List (PM×Sh)} {Fs:List FP},reads ps Fs j→∃ F∈Fs,F j:=by
     intro ps
     induction ps with
     | nil=>intro Fs h;cases h
     | cons p ps ih =>
      intro Fs h;cases Fs with
      | nil=>cases h
      | cons F Fs =>
       rcases h with h | h
       ·exact⟨F,by simp,h.2⟩
       ·obtain⟨F',h1,h2⟩:=ih h;exact⟨F',by simp[h1],h2⟩
    obtain⟨F',h1,h2⟩:=this hj;exact hFk F' h1 h2
   have hC:A6 C:=⟨fun j hj=>hj▸hklt,fun j hj=>by
    rcases hj with (hj | hj) | hj
    ·exact hZ j hj
    ·exact hrd j hj
    ·exact⟨Ard hj hW.1,fun h:j=k=>absurd hgk (h▸Nat.not_le.2 hj)⟩,hW,fun j hj=>.inr hj⟩
   let vs:List Value:=.pointer (some ⟨k,0,none⟩) :: us
   let a0:Act:={ tmps:=vs.toArray++Array.replicate (fn.ntmps-vs.toArray.size) undef,defers:=[] }
   have hvl:vs.length=ps.length+1:=by simp[vs,hul]
   have hsz:a0.tmps.size=fn.ntmps:=by simp[a0];omega
   have hu0:∀ j u,vs[j]? = some u→a0.tmps.getD (0+j) undef=u:=fun j u hj=>by
    have hjl:=(Aq2.1 hj).1;simp only[a0,Ari,Aq7];rw[Asa (by simpa using hjl)]
    simp[hj]
   let fr0:Fr:=⟨fn.ntmps,[(0,.l (.box 0 0))],[some ⟨true,.row 0 :: (Aa .own r x.1.2 0).1⟩],[some ⟨e,s,x.1.1,.ro⟩]⟩
   let g0:Sg:=⟨fun i=>if i=0 then some k else none,fun i=>if i=0 then some q0 else none⟩
   have bx0:∀ i b,at? fr0.bx i=some b→i=0∧b=⟨true,.row 0 :: (Aa .own r x.1.2 0).1⟩:=fun i b hb=>by
    cases i with
    | zero=>exact⟨rfl,(Option.some.inj hb).symm⟩
    | succ i=>simp[fr0,at?] at hb
   have rw0:∀ i r',at? fr0.rw i=some r'→i=0∧r'=⟨e,s,x.1.1,.ro⟩:=fun i r' hb=>by
    cases i with
    | zero=>exact⟨rfl,(Option.some.inj hb).symm⟩
    | succ i=>simp[fr0,at?] at hb
   have hs0:Sim C fr0.f g0 a0 w:=by
    refine⟨rfl,hsz,by simp[Up,fr0,Fr.f],Hc.refl _ _,fun t v hv=>?_,fun i b hb=>?_,fun i j b b' j' h1 h2 _ _ _=>?_,fun i r' hr=>?_,fun i j r1 r2 q1 q2 j' h1 _ m1=>?_,fun i r1 q1 j b j' h1 m1=>?_,fun i q hi=>hi,fun j hj=>?_⟩
    ·have hv':lkp [(0,AV.l (.box 0 0))] t=some v:=hv;rw[CL] at hv';split at hv'
     ·rename_i e0;subst e0;cases hv';have:=hu0 0 _ (show vs[0]? = some (.pointer (some ⟨k,0,none⟩)) from rfl)
      rw[Ari] at this;rw[this];exact VR.of1 ⟨k,rfl,rfl⟩
     ·cases hv'
    ·obtain⟨rfl,rfl⟩:=bx0 i b hb;exact Cf.ofCells ⟨k,_,t,rfl,hk,⟨u,_,rfl,⟨q0,A0,n0,c0,rfl,hu,hu⟩,Cz .own r hflat x.1.2 0⟩,fun _=>.inr rfl,fun e=>by cases e⟩
    ·rw[(bx0 i b h1).1,(bx0 j b' h2).1]
    ·obtain⟨rfl,rfl⟩:=rw0 i r' hr;exact⟨q0,A0,n0,c0,rfl,hu,rfl,fun j hj=>(hZ j hj).1,hl,fun j hj=>.inl (.inl hj)⟩
    ·obtain⟨rfl,rfl⟩:=rw0 i r1 h1;cases m1
    ·obtain⟨rfl,rfl⟩:=rw0 i r1 h1;cases m1
    ·cases hj;rfl
   have hf0:Fit fr0 g0:=⟨fun i hi=>if_neg (by simp[fr0] at hi;omega),fun i hi=>if_neg (by simp[fr0] at hi;omega)⟩
   have hroc:∀ p∈ps,p.1=.cap∨p.1=.ro:=fun p hp=>.inr (hro p hp);obtain⟨g1,_,s1,f1,_⟩:=IX (C:=C) rfl ps (i:=1) (fr:=fr0) hpar hA (IK hroc Fs) (fun j hj=>absurd hj (Dw hroc Fs j)) (fun j hj=>.inl (.inr hj)) hs0 hf0 (.inr hro) (fun j u hj=>by
    have:=hu0 (j+1) u (by simpa[vs] using hj)
    rw[← this];congr 1;omega) (fun j hj=>by
     obtain⟨i,r1,q1,h1,m1,_⟩:=hj;obtain⟨rfl,rfl⟩:=rw0 i r1 h1;cases m1)
   have hio:∀ i q,C.io i=some q→i<(frP fn.ntmps e s r ps x).rw.length:=fun i q hi=>by
    have h0:i=0:=by
     simp only[C] at hi;split at hi
     ·assumption
     ·cases hi
    subst h0;have hr0:=s1.tied 0 q0 rfl;rcases Arv 0 (frP fn.ntmps e s r ps x).rw.length with h1 | h1
    ·exact h1
    ·rw[f1.ρ 0 h1] at hr0;cases hr0
   refine calls_of_wp hfn hb (DM (C:=C) hE hC hio c h s1 f1 fun ex fr' g' a' w' hk' hs' hf'=>?_);have fin:∀ {zz:Option (RT (r :: rs))},(match Ew E fr' fn.results.toList rs fr'.rw,AkS fr' r with | some (y,_),some z=>some (RT.mk z y) | _,_=>none)=some y→a'.defers=[]∧∃ v,(results fn a'.tmps).run P w'=.ok v w'∧∃ vs Gs t',Ending.returned v=.returned (FA vs)∧AG (fun j=>j=k) w w'∧w'.heap[k]? = some (.cells (u :: cellsF r (RT.hd y)).toArray t' (0,0))∧M8 w' rs (RT.tl y) vs Gs∧∀ G∈Gs,∀ j,G j→w.heap.size≤j∧j<w'.heap.size:=by
    intro _ hk';split at hk'
    ·rename_i yy rww z hres hend;cases hk';unfold AkS at hend;split at hend
     ·rename_i b hbx;split at hend
      ·rename_i cs hcs;cases hown:b.own
       ·rw[hown] at hend;cases hend
       ·rw[hown,cond_true] at hend;have hpl:Bs b.cs=true:=by rw[hcs];cases cs<;>rfl
        obtain⟨k',cur,t',hk1,hh,hcr,_,_⟩:=(hs'.boxes 0 b hbx).toCells hpl;have hk2:=hs'.tie k rfl;rw[hk1] at hk2;cases hk2;rw[hcs] at hcr;have hcells:=I0 hflat hend (hs'.tied 0 q0 rfl) hu hu hcr;obtain⟨vs',Gs,h1,h2,h3,h4⟩:=MK (C:=C) hE hs' hres (AW.refl _ _);refine⟨hs'.nodef,_,GD h1,vs',Gs,t',rfl,⟨hs'.kept.drawn,hs'.kept.os,hs'.kept.tape,hs'.kept.output,hs'.kept.size,hs'.kept.block⟩,?_,?_,?_⟩
        ·rw[AeE,hh];have:cur=(u :: cellsF r z).toArray:=by rw[← hcells]
         rw[this]
        ·rw[AeF];exact h2
        ·intro G hG j hj;obtain⟨h5,_⟩:=h4 G hG j hj;obtain⟨h6,h7⟩:=Own.zone hs' h5;refine⟨h6.elim id fun h8=>?_,h7⟩;have h8:j=k:=h8;subst h8;exact absurd hk1 (Own.notBox hs' h5 hbx hown)
      ·cases hend
     ·cases hend
    ·cases hk'
   cases ex with
   | exit id=>cases hk'
   | normal=>exact fin (zz:=none) hk'
   | ret=>exact fin (zz:=none) hk'
  ·cases h
theorem Nd {P:Program} {E:Env} (hE:AE P E) {f:Nat} {fn:Func} (hfn:P.funcs[f]? = some fn) {e:Nat} {s r:Sh} {ps:List (PM×Sh)} {F:List s.T×AT ps→Option (RT [r])} (hF:∀ x y,F x=some y→YI E fn e s r ps x=some y):Gw P f ⟨e,s,r,ps,F⟩:=by
 intro w u x us Fs Z hW hl hZ hA y hy;have h:=hF x y hy;unfold YI at h;cases hg:(Nat.ble (ps.length+1) fn.ntmps&&Ha ps&&r.flat&&s.data)
 ·rw[hg] at h;cases h
 ·rw[hg,cond_true] at h;simp only[AqJ] at hg;obtain⟨⟨⟨hnt,hro⟩,hflat⟩,_⟩:=hg;have hnt:=CI hnt;obtain⟨hro,hpar,hroB⟩:=MM hro;split at h
  ·rename_i c hb;have hul:us.length=ps.length:=hA.len.1;obtain⟨A0,n0,c0,hu⟩:=Ti hl
   let q0:Cv:=⟨u,Z,s.n⟩
   let C:Cx:=⟨P,w,fun _=>False,fun j=>(Z j∨reads ps Fs j)∨j<gN,fun i=>if i=0 then some q0 else none,none⟩
   have hC:A6 C:=⟨fun j hj=>hj.elim,fun j hj=>by
    rcases hj with (hj | hj) | hj
    ·exact⟨hZ j hj,id⟩
    ·exact⟨GE hA j (.inr hj),id⟩
    ·exact⟨Ard hj hW.1,id⟩,hW,fun j hj=>.inr hj⟩
   let vs:List Value:=u :: us
   let a0:Act:={ tmps:=vs.toArray++Array.replicate (fn.ntmps-vs.toArray.size) undef,defers:=[] }
   have hvl:vs.length=ps.length+1:=by simp[vs,hul]
   have hsz:a0.tmps.size=fn.ntmps:=by simp[a0];omega
   have hu0:∀ j u,vs[j]? = some u→a0.tmps.getD (0+j) undef=u:=fun j u hj=>by
    have hjl:=(Aq2.1 hj).1;simp only[a0,Ari,Aq7];rw[Asa (by simpa using hjl)]
    simp[hj]
   let fr0:Fr:=⟨fn.ntmps,[(0,.l (.row 0))],[],[some ⟨e,s,x.1,.ro⟩]⟩
   let g0:Sg:=⟨fun _=>none,fun i=>if i=0 then some q0 else none⟩
   have rw0:∀ i r',at? fr0.rw i=some r'→i=0∧r'=⟨e,s,x.1,.ro⟩:=fun i r' hb=>by
    cases i with
    | zero=>exact⟨rfl,(Option.some.inj hb).symm⟩
    | succ i=>simp[fr0,at?] at hb
   have hs0:Sim C fr0.f g0 a0 w:=by
    refine⟨rfl,hsz,by simp[Up,fr0,Fr.f],Hc.refl _ _,fun t v hv=>?_,fun i b hb=>?_,fun i j b b' j' h1 h2 _ _ _=>?_,fun i r' hr=>?_,fun i j r1 r2 q1 q2 j' h1 _ m1=>?_,fun i r1 q1 j b j' h1 m1=>?_,fun i q hi=>hi,fun j hj=>?_⟩
    ·have hv':lkp [(0,AV.l (.row 0))] t=some v:=hv;rw[CL] at hv';split at hv'
     ·rename_i e0;subst e0;cases hv';have:=hu0 0 _ (show vs[0]? = some u from rfl)
      rw[Ari] at this;rw[this];exact VR.of1 ⟨q0,A0,n0,c0,rfl,hu,hu⟩
     ·cases hv'
    ·simp[fr0,Fr.f,at?] at hb
    ·simp[fr0,Fr.f,at?] at h1
    ·obtain⟨rfl,rfl⟩:=rw0 i r' hr;exact⟨q0,A0,n0,c0,rfl,hu,rfl,fun j hj=>hZ j hj,hl,fun j hj=>.inl (.inl hj)⟩
    ·obtain⟨rfl,rfl⟩:=rw0 i r1 h1;cases m1
    ·obtain⟨rfl,rfl⟩:=rw0 i r1 h1;cases m1
    ·cases hj
   have hf0:Fit fr0 g0:=⟨fun i hi=>rfl,fun i hi=>if_neg (by simp[fr0] at hi;omega)⟩
   have hroc:∀ p∈ps,p.1=.cap∨p.1=.ro:=fun p hp=>.inr (hro p hp);obtain⟨g1,_,s1,f1,_⟩:=IX (C:=C) rfl ps (i:=1) (fr:=fr0) hpar hA (IK hroc Fs) (fun j hj=>absurd hj (Dw hroc Fs j)) (fun j hj=>.inl (.inr hj)) hs0 hf0 (.inr hro) (fun j u hj=>by
    have:=hu0 (j+1) u (by simpa[vs] using hj)
    rw[← this];congr 1;omega) (fun j hj=>by
     obtain⟨i,r1,q1,h1,m1,_⟩:=hj;obtain⟨rfl,rfl⟩:=rw0 i r1 h1;cases m1)
   have hio:∀ i q,C.io i=some q→i<(frN fn.ntmps e s ps x).rw.length:=fun i q hi=>by
    have h0:i=0:=by
     simp only[C] at hi;split at hi
     ·assumption
     ·cases hi
    subst h0;have hr0:=s1.tied 0 q0 rfl;rcases Arv 0 (frN fn.ntmps e s ps x).rw.length with h1 | h1
    ·exact h1
    ·rw[f1.ρ 0 h1] at hr0;cases hr0
   refine calls_of_wp hfn hb (DM (C:=C) hE hC hio c h s1 f1 fun ex fr' g' a' w' hk' hs' hf'=>?_);have fin:AkT fr' r fn.results.toList=some y→a'.defers=[]∧∃ v,(results fn a'.tmps).run P w'=.ok v w'∧∃ k t,Ending.returned v=.returned (.pointer (some ⟨k,0,none⟩))∧w.heap.size≤k∧AG (fun _=>False) w w'∧w'.heap[k]? = some (.cells (u :: cellsF r y).toArray t (0,0)):=by
    intro hend;unfold AkT at hend;split at hend
    ·rename_i tt hrs;split at hend
     ·rename_i i hsl;split at hend
      ·rename_i b hbx;split at hend
       ·rename_i cs hcs;cases hown:b.own
        ·rw[hown] at hend;cases hend
        ·rw[hown,cond_true] at hend;have hpl:Bs b.cs=true:=by rw[hcs];cases cs<;>rfl
         obtain⟨k',cur,t',hk1,hh,hcr,hz,_⟩:=(hs'.boxes i b hbx).toCells hpl;rw[hcs] at hcr;have hcells:=I0 hflat hend (hs'.tied 0 q0 rfl) hu hu hcr;obtain⟨k2,hk2,hv2⟩:=(VR.to1 (hs'.slots tt _ hsl):LfR C g' (.box i 0) _);rw[hk1] at hk2;cases hk2;refine⟨hs'.nodef,_,GD (vs:=[.pointer (some ⟨k',0,none⟩)]) (by rw[hrs];exact⟨_,[],rfl,hv2.symm,rfl⟩),k',t',rfl,(hz hown).elim id (fun h=>h.elim),⟨hs'.kept.drawn,hs'.kept.os,hs'.kept.tape,hs'.kept.output,hs'.kept.size,hs'.kept.block⟩,?_⟩
         rw[hh];have:cur=(u :: cellsF r y).toArray:=by rw[← hcells]
         rw[this]
       ·cases hend
      ·cases hend
     ·cases hend
    ·cases hend
   cases ex with
   | exit id=>cases hk'
   | normal=>exact fin hk'
   | ret=>exact fin hk'
  ·cases h
end Go.Proofs.YteheolldcpjkcaaGreatDoor.X
