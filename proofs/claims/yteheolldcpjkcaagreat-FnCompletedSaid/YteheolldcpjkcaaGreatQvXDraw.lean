/- Regions that draw their order. -/
import Derived.Test.YteheolldcpjkcaaGreatQvXRun
import Derived.Orders
set_option linter.unusedSimpArgs false
set_option linter.unusedVariables false
set_option linter.unusedSectionVars false
namespace Go.Proofs.YteheolldcpjkcaaGreat.X
open Go Go.RowKit
variable [CW]
variable {C:Cx} {fr s:Fr} {big:FF} {g:Sg} {a:Act} {w w':World} {ch:List (Nat×Bool)} {E:Env}
structure Ent where
 d:Option Nat
 v:Option AV
 nr:List Ac
 nb:List Bn
 ef:Eff
 r0:Nat
 b0:Nat
def slE (sl:List (Nat×AV)):Option Nat→Option AV→List (Nat×AV)
 | some t,some v=>ins sl t v
 | _,_=>sl
def gnE:Eff→Nat→Option Ac→Option Ac
 | .gone is,n,x=>GP is n x
 | .set i e s xs,n,x=>Nh i e s xs n x
 | _,_,x=>x
def Apc (ef:Eff) (n:Nat) (r:Ac):Prop:=∀ is,ef=.gone is→∀ i∈is,Off i n r
def Pd (ef:Eff):Prop:=∀ i e s xs,ef≠.set i e s xs
theorem EY {ef:Eff} (hns:Pd ef) {n:Nat} {x:Option Ac} {r:Ac}:gnE ef n x=some r↔x=some r∧Apc ef n r:=by
 cases ef with
 | gone is=>exact Bf.trans ⟨fun h=>⟨h.1,fun _ e=>by cases e;exact h.2⟩,fun h=>⟨h.1,h.2 is rfl⟩⟩
 | set i e s xs=>exact absurd rfl (hns i e s xs)
 | _=>exact⟨fun h=>⟨h,fun _ e=>by cases e⟩,fun h=>h.1⟩
theorem Aft (ef:Eff) (n:Nat):gnE ef n none=none:=by
 have hd:∀ i,GO i n none=none:=fun i=>by unfold GO;split<;>rfl
 cases ef with
 | gone is =>
  cases h:GP is n none with
  | none=>exact h
  | some r=>exact absurd (Bf.1 h).1 (by simp)
 | set i e s xs=>unfold gnE Nh;simp only;split;rfl;exact hd i
 | _=>rfl
theorem ZK {ef:Eff} {n:Nat} {r:Ac} (h:∀ i,((∃ is,ef=.gone is∧i∈is)∨∃ e s xs,ef=.set i e s xs)→Off i n r):gnE ef n (some r)=some r:=by
 cases ef with
 | gone is=>exact Bf.2 ⟨rfl,fun i hi=>h i (.inl ⟨is,rfl,hi⟩)⟩
 | set i e s xs =>
  have ho:=h i (.inr ⟨e,s,xs,rfl⟩);unfold gnE Nh;simp only;rw[if_neg ho.1];exact Bm.2 ⟨rfl,ho⟩
 | _=>rfl
theorem Afu {ef:Eff} {n:Nat} {x x':Option Ac} {m:Md} (h:∀ r,r.m=m→x'=some r→x=some r):∀ r,r.m=m→gnE ef n x'=some r→gnE ef n x=some r:=by
 intro r hr hx;cases ef with
 | gone is =>
  obtain⟨h1,h2⟩:=Bf.1 hx;exact Bf.2 ⟨h r hr h1,h2⟩
 | set i e s xs =>
  unfold gnE Nh at hx ⊢;simp only at hx ⊢;split at hx
  ·rename_i hn;rw[if_pos hn];obtain⟨r0,h0,rfl⟩:=AqF.1 hx;rw[h r0 hr h0];rfl
  ·rename_i hn;rw[if_neg hn];obtain⟨h1,h2⟩:=Bm.1 hx;exact Bm.2 ⟨h r hr h1,h2⟩
 | _=>exact h r hr hx
theorem Afv {ef ef':Eff} (h1:Pd ef) (h2:Pd ef') (n:Nat) (x:Option Ac):gnE ef n (gnE ef' n x)=gnE ef' n (gnE ef n x) :=
 Option.ext fun r=>by
  rw[EY h1,EY h2,EY h2,EY h1];exact⟨fun⟨⟨h1,h2⟩,h3⟩=>⟨⟨h1,h3⟩,h2⟩,fun⟨⟨h1,h2⟩,h3⟩=>⟨⟨h1,h3⟩,h2⟩⟩
def BW (e:Ent) (f:FF):FF:={ nt:=f.nt,sl:=slE f.sl e.d e.v,bx:=more e.b0 e.nb (BL f.bx e.ef),rw:=more e.r0 e.nr fun n=>gnE e.ef n (f.rw n) }
structure Aly (e:Ent) (g:Sg):Prop where
 β:∀ j,e.b0≤j→j<e.b0+e.nb.length→g.β j=none
 ρ:∀ j,e.r0≤j→j<e.r0+e.nr.length→g.ρ j=none
structure Am9 (e:Ent) (g g':Sg):Prop where
 le:g.Le g'
 β:∀ j,¬ (e.b0≤j∧j<e.b0+e.nb.length)→g'.β j=g.β j
 ρ:∀ j,¬ (e.r0≤j∧j<e.r0+e.nr.length)→g'.ρ j=g.ρ j
def Kt (f:FF) (d:Option Nat):Prop:=∀ t v,lkp f.sl t=some v→FZ v d=false
def Alz (C:Cx) (ops:Array Oper) (o:Oper) (s:Fr) (e:Ent):Prop :=
 ∀ {big:FF} {g:Sg} {a:Act} {w:World},Sim C big g a w→Sub s big→Aly e g→Kt big o.dst→∀ {K:Act→World→Prop} {Q:Exit→Act→World→Prop},
  (∀ g' a' w',Am9 e g g'→Sim C (BW e big) g' a' w'→K a' w')→if Region.wanted o (yielded ops a.tmps) then o.wp C.P a w K Q else K (a.put o.dst undef) w
theorem M6 {α:Type} {p:α→Bool}:∀ {l:List α},(∀ x∈l,p x=true)→l.filter p=l
 | [],_=>rfl
 | x :: l,h=>by rw[List.filter_cons,if_pos (h x (by simp)),M6 fun y hy=>h y (by simp[hy])]
theorem Jc {f:FF} (hu:Up f.sl) {t:Nat} (h:Kt f (some t)):(f.sl.filter fun p=>!p.2.waits t)=f.sl :=
 M6 fun p hp=>by
  have:=h p.1 p.2 (hu.of_mem hp);simp only[FZ] at this;rw[this];rfl
theorem Wa {f:FF} (hu:Up f.sl) {d:Option Nat} {v:Option AV} (hq:Kt f d) (hd:∀ t,d=some t→Nat.blt t f.nt=true∧∃ x,v=some x∧x.waits t=false):NF f.nt f.sl d v=some (slE f.sl d v):=by
 cases d with
 | none=>rfl
 | some t =>
  obtain⟨h1,x,rfl,h2⟩:=hd t rfl;simp only[NF,h1,cond_true,h2,cond_false,Jc hu hq,slE]
theorem Sim.putE (h:Sim C big g a w) {d:Option Nat} {v:Option AV} {u:Value} (hq:Kt big d) (hd:∀ t,d=some t→Nat.blt t big.nt=true∧∃ x,v=some x∧x.waits t=false) (hv:∀ av,v=some av→AVR C g a av u):Sim C { big with sl:=slE big.sl d v } g (a.put d u) w :=
 h.put (Wa h.up hq hd) hv
theorem Aa6 {fr fr':Fr} {d:Option Nat} {v:Option AV} (h:EC fr d v=some fr') (hf:d=none∨∃ x,v=some x):(∀ t,d=some t→Nat.blt t fr.nt=true∧∃ x,v=some x∧x.waits t=false)∧(Up fr.sl→Kt fr.f d→fr'={ fr with sl:=slE fr.sl d v }):=by
 obtain⟨sl,hsl,rfl⟩:=Py h;cases d with
 | none =>
  simp only[NF] at hsl;cases hsl;exact⟨fun t e=>(by cases e),fun _ _=>rfl⟩
 | some t =>
  rcases hf with hf | ⟨x,rfl⟩
  ·cases hf
  ·simp only[NF] at hsl;cases hb:Nat.blt t fr.nt
   ·rw[hb] at hsl;cases hsl
   ·rw[hb,cond_true] at hsl;cases hw:x.waits t
    ·rw[hw,cond_false] at hsl;cases hsl;refine⟨fun t' e=>by cases e;exact⟨hb,x,rfl,hw⟩,fun hu hq=>?_⟩
     have:=Jc (f:=fr.f) hu hq;show ({ fr with sl:=ins (fr.sl.filter fun p=>!p.2.waits t) t x }:Fr)=_
     rw[show (fr.sl.filter fun p=>!p.2.waits t)=fr.sl from this]
     rfl
    ·rw[hw] at hsl;cases hsl
structure OpD (C:Cx) (ops:Array Oper) (o:Oper) (tg:Option Nat) (lo:Nat→Bool) (al:Bool) (ws:List (Option Nat)) (s fr fr':Fr) (e:Ent):Prop where
 ent:Alz C ops o s e
 d:e.d=o.dst
 dv:∀ t,e.d=some t→∃ v,e.v=some v
 r0:e.r0=fr.rw.length
 b0:e.b0=fr.bx.length
 f:fr'.f=BW e fr.f
 rl:fr'.rw.length=fr.rw.length+e.nr.length
 bl:fr'.bx.length=fr.bx.length+e.nb.length
 ef:∀ k b,e.ef=.box k b→tg=some k∧∃ b',at? s.bx k=some b'
 gn:∀ is,e.ef=.gone is→∀ i∈is,(lo i=true∨al=true)∧∃ r,at? s.rw i=some r
 st:∀ i e0 s0 xs,e.ef=.set i e0 s0 xs→al=true∧∃ r,at? s.rw i=some r
 rwl:AP o=true→e.ef=.pure
 par:∀ r∈e.nr,∀ p pa,r.m=.bor p pa→∃ r',at? s.rw p=some r'
 ws:∀ v,e.v=some v→∀ x∈ws,FZ v x=false
theorem Hi {req:Bool} {ws:List (Option Nat)} {d:Option Nat} {v:Option AV} (h:Ib req ws d v=true):req=true∧(d=none∨∃ x,v=some x)∧∀ x,v=some x→∀ y∈ws,FZ x y=false:=by
 simp only[Ib,Aql] at h;refine⟨h.2,?_,?_⟩
 ·cases v with
  | some x=>exact .inr ⟨x,rfl⟩
  | none=>cases d with
   | none=>exact .inl rfl
   | some t=>simp at h
 ·rintro x rfl y hy
  have:=Aqn.1 h.1 y hy;simpa using this
theorem DX {e0 r0:Nat} (hb:s.bx.length=e0) (hr:s.rw.length=r0) {nr:List Ac} {nb:List Bn} {ef:Eff} (ht:∀ rw,ef≠.tab rw) (d:Option Nat) (v:Option AV):({ grow s big nr nb ef with sl:=slE big.sl d v }:FF)=BW ⟨d,v,nr,nb,ef,r0,e0⟩ big:=by
 subst hb;subst hr;cases ef with
 | tab rw=>exact absurd rfl (ht rw)
 | _=>rfl
theorem EZ {nr:List Ac} (h:nr.all (B6 s)=true):∀ r∈nr,∀ p pa,r.m=.bor p pa→∃ r',at? s.rw p=some r':=by
 intro r hr p pa hm;have:=Aqn.1 h r hr;unfold B6 at this;rw[hm] at this;simp only at this;split at this
 ·rename_i r' h';exact⟨r',h'⟩
 ·cases this
theorem T6 {nr:List Ac} {b:Bool} (h:nr.all (B6 s)=true):∀ r∈nr.map (AO b),∀ p pa,r.m=.bor p pa→∃ r',at? s.rw p=some r':=by
 intro r hr p pa hm;obtain⟨r0,hr0,rfl⟩:=AqG.1 hr;cases hm0:r0.m with
 | bor p0 pa0 =>
  simp only[AO,hm0] at hm;cases hm;exact EZ h r0 hr0 _ _ hm0
 | own | io | ro=>simp only[AO,hm0] at hm;cases hm
theorem Ana {R:Type} (hE:AG C.P E) (hC:A9 C) {ops:Array Oper} {o:Oper} {tg:Option Nat} {lo:Nat→Bool} {al:Bool} {ws:List (Option Nat)} {k:Fr→Option R} {r:R} (hbl:s.bx.length=fr.bx.length) (hrl:s.rw.length=fr.rw.length) (hnt:s.nt=fr.nt) (hup:Up fr.sl) (hqt:Kt fr.f o.dst)
  (h:opD E ops.toList o tg lo al ws s fr k=some r):∃ e fr',OpD C ops o tg lo al ws s fr fr' e∧Up fr'.sl∧fr'.nt=fr.nt∧k fr'=some r:=by
 -- the frame behind
 have mk:∀ {v:Option AV} {nr:List Ac} {nb:List Bn} {ef:Eff} {fr':Fr},Dl fr ef=true→(∀ rw,ef≠.tab rw)→(∀ k b,ef=.box k b→tg=some k∧∃ b',at? s.bx k=some b')→(∀ is,ef=.gone is→∀ i∈is,(lo i=true∨al=true)∧∃ r,at? s.rw i=some r)→(∀ i e0 s0 xs,ef=.set i e0 s0 xs→al=true∧∃ r,at? s.rw i=some r)→(AP o=true→ef=.pure)→(∀ r∈nr,∀ p pa,r.m=.bor p pa→∃ r',at? s.rw p=some r')→(o.dst=none∨∃ x,v=some x)→(∀ x,v=some x→∀ y∈ws,FZ x y=false)→EC (upd fr nr nb ef) o.dst v=some fr' →
   ((∀ t,o.dst=some t→Nat.blt t fr.nt=true∧∃ x,v=some x∧x.waits t=false)→Alz C ops o s ⟨o.dst,v,nr,nb,ef,fr.rw.length,fr.bx.length⟩)→k fr'=some r→∃ e fr',OpD C ops o tg lo al ws s fr fr' e∧Up fr'.sl∧fr'.nt=fr.nt∧k fr'=some r:=by
  intro v nr nb ef fr' ht hnt' hef hgn hst hrwl hpr hdv hws hp hent hk;have e1:(upd fr nr nb ef).nt=fr.nt∧(upd fr nr nb ef).sl=fr.sl:=by cases ef<;>exact⟨rfl,rfl⟩
  obtain⟨h1,h2⟩:=Aa6 hp hdv;have h3:=h2 (by rw[e1.2];exact hup) (fun t v hv=>hqt t v (by change lkp (upd fr nr nb ef).sl t=some v at hv;rw[e1.2] at hv;exact hv))
  obtain⟨l1,l2⟩:=ZU (nr:=nr) (nb:=nb) ht;refine⟨_,fr',⟨hent (fun t e=>by rw[← e1.1];exact h1 t e),rfl,fun t e=>?_,rfl,rfl,?_,?_,?_,hef,hgn,hst,hrwl,hpr,hws⟩,?_,?_,hk⟩
  ·rcases hdv with h | ⟨x,h⟩
   ·rw[h] at e;cases e
   ·exact⟨x,h⟩
  ·rw[h3,e1.2];have:=AlD (nr:=nr) (nb:=nb) ht;rw[← DX (big:=fr.f) (s:=fr) rfl rfl hnt',← this];rfl
  ·rw[h3];exact l2
  ·rw[h3];exact l1
  ·rw[h3,e1.2];show Up (slE fr.sl o.dst v);unfold slE;split
   ·exact hup.ins _ _
   ·exact hup
  ·rw[h3];exact e1.1
 unfold opD at h;split at h
 ·rename_i hg;split at h
  ·cases h
  ·rename_i req v nr nb ef hst;cases hc:(FB s fr.rw fr.bx.length lo al tg nb ef&&(!AP o||FY ef)&&nr.all (B6 s)&&Ib req ws o.dst v)
   ·rw[hc] at h;cases h
   ·rw[hc,cond_true] at h;simp only[Aql] at hc;obtain⟨⟨⟨he,hrwl⟩,hpa⟩,hfi⟩:=hc;obtain⟨hreq,hdv,hws⟩:=Hi hfi;split at h
    ·rename_i fr' hp;have hnt':∀ rw,ef≠.tab rw:=fun rw e=>by subst e;cases he
     refine mk (by cases ef<;>simp_all [FB,Dl]) hnt' (fun j b e=>by
       subst e;simp only[FB,Aql] at he;refine⟨?_,?_⟩
       ·cases tg with
        | none=>simp at he
        | some k=>rw[Aqm he.1.2]
       ·cases hx:at? s.bx j with
        | none=>rw[hx] at he;simp at he
        | some b'=>exact⟨b',rfl⟩) (fun is e i hi=>by
       subst e;simp only[FB,Aql] at he;have he2:=Aqn.1 he.2 i hi;rw[Aql] at he2;refine⟨by simpa using he2.1,?_⟩
       cases hx:at? s.rw i with
       | none=>rw[hx] at he2;simp at he2
       | some b'=>exact⟨b',rfl⟩) (fun i e0 s0 xs e=>by
       subst e;simp only[FB,Aql] at he;refine⟨he.1.1.2,?_⟩;cases hx:at? s.rw i with
       | none=>rw[hx] at he;simp at he
       | some b'=>exact⟨b',rfl⟩) (fun hr=>by
       rw[hr] at hrwl;cases ef<;>first | rfl | cases hrwl) (EZ hpa) hdv hws hp (fun hd=>?_) h
     intro big g a w hs hsub hfree hq K Q hK;have hw:Region.wanted o (yielded ops a.tmps)=true:=by simp[Region.wanted,hg]
     rw[if_pos hw];have hok:=DS hE hC hs hsub (ch:=[]) (fun p hp=>by cases hp) o (Q:=Q)
     rw[hst] at hok;refine hok hreq (fun e=>by cases ef<;>first | (cases e;done) | exact absurd rfl (hnt' _)) ⟨fun j h1 h2=>hfree.β j (by rw[← hbl];exact h1) (by rw[← hbl];exact h2),fun j h1 h2=>hfree.ρ j (by rw[← hrl];exact h1) (by rw[← hrl];exact h2)⟩ K fun u w' ⟨g',hf,hs',hv⟩=>?_
     refine hK g' _ w' ⟨hf.le,fun j hj=>hf.β j (by rw[hbl];exact hj),fun j hj=>hf.ρ j (by rw[hrl];exact hj)⟩ ?_
     rw[← DX hbl hrl hnt'];exact hs'.putE (d:=o.dst) (v:=v) hq (fun t e=>by obtain⟨a1,a2⟩:=hd t e;exact⟨by rw[show (grow s big nr nb ef).nt=fr.nt from by rw[← hnt];exact hsub.nt.symm];exact a1,a2⟩) hv
    ·cases h
  ·rename_i m x vs rw quiet hst;cases hqu:quiet
   ·rw[hqu,cond_false] at h;cases hmv:(PQ m.ps&&!AP o&&((D0 s.rw rw).all fun i=>lo i||al))
    ·simp only[hmv] at h;cases h
    ·simp only[hmv,cond_true] at h;simp only[Aql] at hmv;obtain⟨⟨hmo,hrl0⟩,hlo⟩:=hmv;cases hx:x with
     | none=>rw[hx] at h;cases h
     | some y =>
      rw[hx,Arw] at h;cases hfi:((Am s m vs rw true y).2.1.all (B6 s)&&Ib true ws o.dst (some (Am s m vs rw true y).1))
      ·simp only[hfi] at h;cases h
      ·simp only[hfi,cond_true] at h;simp only[Aql] at hfi;obtain⟨hpa,hfi⟩:=hfi;obtain⟨_,hdv,hws⟩:=Hi hfi;split at h
       ·rename_i fr' hp;refine mk rfl (fun rw e=>by cases e) (fun _ _ e=>by cases e) (fun is e i hi=>by
          cases e;refine⟨by simpa using Aqn.1 hlo i hi,(Ns.1 hi).1⟩) (fun _ _ _ _ e=>by cases e) (fun hr=>by rw[hr] at hrl0;cases hrl0) (EZ hpa) hdv hws hp (fun hd=>?_) h
        intro big g a w hs hsub hfree hq K Q hK;have hw:Region.wanted o (yielded ops a.tmps)=true:=by simp[Region.wanted,hg]
        rw[if_pos hw];have hok:=DS hE hC hs hsub (ch:=[]) (fun p hp=>by cases hp) o (Q:=Q)
        rw[hst,hqu] at hok;refine hok.2 y hx hmo ⟨fun j h1 h2=>absurd h2 (by simp;omega),fun j h1 h2=>hfree.ρ j (by rw[← hrl];exact h1) (by rw[← hrl];exact h2)⟩ K fun u w' ⟨g',hf,hs',hv⟩=>?_
        refine hK g' _ w' ⟨hf.le,fun j hj=>hf.β j (by rw[hbl];exact hj),fun j hj=>hf.ρ j (by rw[hrl];exact hj)⟩ ?_
        rw[← DX hbl hrl (fun rw e=>by cases e)]
        exact hs'.putE (d:=o.dst) (v:=some (Am s m vs rw true y).1) hq (fun t e=>by obtain⟨a1,a2⟩:=hd t e;exact⟨by rw[show (grow s big (Am s m vs rw true y).2.1 [] (.gone (D0 s.rw rw))).nt=fr.nt from by rw[← hnt];exact hsub.nt.symm];exact a1,a2⟩) hv
       ·cases h
   ·rw[hqu,cond_true] at h;cases hx:x with
    | none=>rw[hx] at h;cases h
    | some y =>
     rw[hx,Arw] at h;cases hfi:((Am s m vs rw true y).2.1.all (B6 s)&&Ib true ws o.dst (some (Am s m vs rw true y).1))
     ·simp only[hfi] at h;cases h
     ·simp only[hfi,cond_true] at h;simp only[Aql] at hfi;obtain⟨hpa,hfi⟩:=hfi;obtain⟨_,hdv,hws⟩:=Hi hfi;split at h
      ·rename_i fr' hp;refine mk rfl (fun rw e=>by cases e) (fun _ _ e=>by cases e) (fun _ e=>by cases e) (fun _ _ _ _ e=>by cases e) (fun _=>rfl) (EZ hpa) hdv hws hp (fun hd=>?_) h
       intro big g a w hs hsub hfree hq K Q hK;have hw:Region.wanted o (yielded ops a.tmps)=true:=by simp[Region.wanted,hg]
       rw[if_pos hw];have hok:=DS hE hC hs hsub (ch:=[]) (fun p hp=>by cases hp) o (Q:=Q)
       rw[hst,hqu] at hok;refine hok.1 y hx (fun e=>by cases e) ⟨fun j h1 h2=>absurd h2 (by simp;omega),fun j h1 h2=>hfree.ρ j (by rw[← hrl];exact h1) (by rw[← hrl];exact h2)⟩ K fun u w' ⟨g',hf,hs',hv⟩=>?_
       refine hK g' _ w' ⟨hf.le,fun j hj=>hf.β j (by rw[hbl];exact hj),fun j hj=>hf.ρ j (by rw[hrl];exact hj)⟩ ?_
       rw[← DX hbl hrl (fun rw e=>by cases e)]
       exact hs'.putE (d:=o.dst) (v:=some (Am s m vs rw true y).1) hq (fun t e=>by obtain⟨a1,a2⟩:=hd t e;exact⟨by rw[show (grow s big (Am s m vs rw true y).2.1 [] (Am s m vs rw true y).2.2).nt=fr.nt from by rw[← hnt];exact hsub.nt.symm];exact a1,a2⟩) hv
      ·cases h
  ·rename_i rs' x z0 f hst;cases hx:x with
   | none=>rw[hx] at h;cases h
   | some y =>
    rw[hx,Arw] at h;have hokAll:=fun {big:FF} {g:Sg} {a:Act} {w:World} (hs:Sim C big g a w) (hsub:Sub s big) (Q:Exit→Act→World→Prop)=>DS hE hC hs hsub (ch:=[]) (fun p hp=>by cases hp) o (Q:=Q)
    rw[hst] at hokAll;have hok2:=fun {big:FF} {g:Sg} {a:Act} {w:World} (hs:Sim C big g a w) (hsub:Sub s big) (Q:Exit→Act→World→Prop)=>hokAll hs hsub Q y hx;clear hokAll;revert h hok2;generalize f y=z;intro h hok2;cases hc:(FB s fr.rw fr.bx.length lo al tg z.nb z.ef&&(!AP o||FY z.ef)&&z.nr.all (B6 s)&&Ib true ws o.dst (some z.v))
    ·simp only[hc] at h;cases h
    ·simp only[hc,cond_true] at h;simp only[Aql] at hc;obtain⟨⟨⟨he,hrwl⟩,hpa⟩,hfi⟩:=hc;obtain⟨_,hdv,hws⟩:=Hi hfi;split at h
     ·rename_i fr' hp;have hnt':∀ rw,z.ef≠.tab rw:=fun rw e=>by rw[e] at he;cases he
      refine mk (by revert he;cases z.ef<;>intro he<;>simp_all [FB,Dl]) hnt' (fun j b e=>by
        rw[e] at he;simp only[FB,Aql] at he;refine⟨?_,?_⟩
        ·cases tg with
         | none=>simp at he
         | some k=>rw[Aqm he.1.2]
        ·cases hx:at? s.bx j with
         | none=>rw[hx] at he;simp at he
         | some b'=>exact⟨b',rfl⟩) (fun is e i hi=>by
        rw[e] at he;simp only[FB,Aql] at he;have he2:=Aqn.1 he.2 i hi;rw[Aql] at he2;refine⟨by simpa using he2.1,?_⟩
        cases hx:at? s.rw i with
        | none=>rw[hx] at he2;simp at he2
        | some b'=>exact⟨b',rfl⟩) (fun i e0 s0 xs e=>by
        rw[e] at he;simp only[FB,Aql] at he;refine⟨he.1.1.2,?_⟩;cases hx:at? s.rw i with
        | none=>rw[hx] at he;simp at he
        | some b'=>exact⟨b',rfl⟩) (fun hr=>by
        rw[hr] at hrwl;revert hrwl;cases z.ef<;>intro hrwl<;>first | rfl | cases hrwl) (EZ hpa) hdv hws hp (fun hd=>?_) h
      intro big g a w hs hsub hfree hq K Q hK;have hw:Region.wanted o (yielded ops a.tmps)=true:=by simp[Region.wanted,hg]
      rw[if_pos hw];refine hok2 hs hsub Q ⟨fun j h1 h2=>hfree.β j (by rw[← hbl];exact h1) (by rw[← hbl];exact h2),fun j h1 h2=>hfree.ρ j (by rw[← hrl];exact h1) (by rw[← hrl];exact h2)⟩ K fun u w' ⟨g',hf,hs',hv⟩=>?_
      refine hK g' _ w' ⟨hf.le,fun j hj=>hf.β j (by rw[hbl];exact hj),fun j hj=>hf.ρ j (by rw[hrl];exact hj)⟩ ?_
      rw[← DX hbl hrl hnt'];exact hs'.putE (d:=o.dst) (v:=some z.v) hq (fun t e=>by obtain⟨a1,a2⟩:=hd t e;exact⟨by rw[show (grow s big z.nr z.nb z.ef).nt=fr.nt from by rw[← hnt];exact hsub.nt.symm];exact a1,a2⟩) hv
     ·cases h
 ·rename_i i want hg;split at h
  ·cases h
  ·rename_i ch g0 hgo
   -- a guarded operation, carried out or not
   have gd:∀ {v0 v':AV} {nr:List Ac} {fr':Fr},FX ch g0 v0=some v'→nr.all (B6 s)=true→(o.dst=none∨∃ x,(some v':Option AV)=some x)→(∀ x,(some v':Option AV)=some x→∀ y∈ws,FZ x y=false)→EC (upd fr (nr.map (AO g0)) [] .pure) o.dst (some v')=some fr'→k fr'=some r →
     (g0=true→∀ {big:FF} {g:Sg} {a:Act} {w:World},Sim C big g a w→Sub s big→Holds a ch→(∀ j,s.rw.length≤j→j<s.rw.length+nr.length→g.ρ j=none)→∀ {K:Act→World→Prop} {Q:Exit→Act→World→Prop},(∀ u w',Out C g a s nr [] (grow s big nr [] .pure) (some v0) u w'→K (a.put o.dst u) w')→o.wp C.P a w K Q) →
     ∃ e fr',OpD C ops o tg lo al ws s fr fr' e∧Up fr'.sl∧fr'.nt=fr.nt∧k fr'=some r:=by
    intro v0 v' nr fr' hgv hpar hdv hws hp hk hrun;refine mk rfl (fun rw e=>by cases e) (fun _ _ e=>by cases e) (fun _ e=>by cases e) (fun _ _ _ _ e=>by cases e) (fun _=>rfl) (T6 hpar) hdv hws hp (fun hd=>?_) hk
    intro big g a w hs hsub hfree hq K Q hK;obtain⟨hch,hy⟩:=Nx (hs.sub hsub) hgo;have hw:Region.wanted o (yielded ops a.tmps)=g0:=by simp only[Region.wanted,hg];exact hy
    rw[hw];have hfr:∀ j,s.rw.length≤j→j<s.rw.length+nr.length→g.ρ j=none:=fun j h1 h2=>hfree.ρ j (by rw[← hrl];exact h1) (by rw[← hrl];simpa using h2)
    have fin:∀ {g':Sg} {u:Value} {w':World},Kw s (nr.map (AO g0)) [] g g'→Sim C (grow s big (nr.map (AO g0)) [] .pure) g' a w'→AVR C g' a v' u→K (a.put o.dst u) w':=by
     intro g' u w' hf hs' hv;refine hK g' _ w' ⟨hf.le,fun j hj=>hf.β j (by rw[hbl];exact hj),fun j hj=>hf.ρ j (by rw[hrl];exact hj)⟩ ?_
     rw[← DX hbl hrl (fun rw e=>by cases e)]
     exact hs'.putE (d:=o.dst) (v:=some v') hq (fun t e=>by obtain⟨a1,a2⟩:=hd t e;exact⟨by rw[show (grow s big (nr.map (AO g0)) [] .pure).nt=fr.nt from by rw[← hnt];exact hsub.nt.symm];exact a1,a2⟩) (fun av e=>by cases e;exact hv)
    cases hg0:g0 with
    | true =>
     rw[if_pos rfl];refine hrun hg0 hs hsub (hch.2 hg0) hfr fun u w' ⟨g',hf,hs',hv⟩=>?_;have hs2:Sim C (grow s big (nr.map (AO g0)) [] .pure) g' a w':=by
      have:=Fw (nr:=nr) (nr':=nr.map (AO true)) (n:=s.rw.length) (big:=big) (by simpa only[grow,Ah,BL,B2] using hs') rfl
      rw[hg0];simpa only[grow,Ah,BL,B2] using this
     exact fin ⟨hf.le,hf.β,fun j hj=>hf.ρ j (by simpa using hj)⟩ hs2 (AVR.guard hgv hch (fun _=>hv _ rfl) (fun e=>by rw[hg0] at e;cases e))
    | false =>
     rw[if_neg (by simp)]
     obtain⟨g',hf,hs'⟩:=Eu hs hsub hfr hpar;rw[hg0] at fin;exact fin hf hs' (AVR.guard hgv hch (fun e=>by rw[hg0] at e;cases e) (fun _=>rfl))
   split at h
   ·cases h
   ·rename_i req v nr nb ef hst;cases hc:(nb.isEmpty&&FY ef&&nr.all (B6 s))
    ·rw[hc] at h;cases h
    ·rw[hc,cond_true] at h;simp only[Aql] at hc;obtain⟨⟨hnb,hpu⟩,hpar⟩:=hc;have hnb:nb=[]:=by simpa using hnb
     subst hnb;have hpu:ef=.pure:=by cases ef<;>first | rfl | cases hpu
     subst hpu;split at h
     ·rename_i v' hv';obtain⟨v0,rfl,hgv⟩:=Aq2.1 hv';cases hfi:Ib (req||!g0) ws o.dst (some v')
      ·rw[hfi] at h;cases h
      ·rw[hfi,cond_true] at h;obtain⟨hrq,hdv,hws⟩:=Hi hfi;split at h
       ·rename_i fr' hp;refine gd hgv hpar hdv hws hp h fun hg0 {big g a w} hs hsub hh hfr {K Q} hK=>?_;have hreq:req=true:=by rw[hg0] at hrq;simpa using hrq
        have hok:=DS hE hC hs hsub hh o (Q:=Q);rw[hst] at hok;exact hok hreq (fun e=>by cases e) ⟨fun j h1 h2=>absurd h2 (by simp;omega),hfr⟩ K hK
       ·cases h
     ·cases h
   ·rename_i m x vs rw quiet hst;cases hq:quiet
    ·rw[hq] at h;cases h
    ·rw[hq,cond_true] at h;obtain⟨y,hy,h⟩:=Aq2.1 h;simp only at h;cases hpar:(Am s m vs rw true y).2.1.all (B6 s)
     ·simp only[hpar] at h;cases h
     ·simp only[hpar,cond_true] at h;split at h
      ·rename_i v' hgv;cases hfi:Ib true ws o.dst (some v')
       ·rw[hfi] at h;cases h
       ·rw[hfi,cond_true] at h;obtain⟨_,hdv,hws⟩:=Hi hfi;split at h
        ·rename_i fr' hp;refine gd hgv hpar hdv hws hp h fun hg0 {big g a w} hs hsub hh hfr {K Q} hK=>?_;have hok:=DS hE hC hs hsub hh o (Q:=Q);rw[hst,hq] at hok;rw[hg0,cond_true] at hy;exact hok.1 y hy (fun e=>by cases e) ⟨fun j h1 h2=>absurd h2 (by simp;omega),hfr⟩ K hK
        ·cases h
      ·cases h
   ·cases h
end Go.Proofs.YteheolldcpjkcaaGreat.X
namespace Go.Proofs.YteheolldcpjkcaaGreat.X
open Go Go.RowKit
variable [CW]
variable {C:Cx} {fr s:Fr} {big:FF} {g:Sg} {a:Act} {w w':World} {ch:List (Nat×Bool)} {E:Env}
structure FEq (f f':FF):Prop where
 nt:f.nt=f'.nt
 bx:∀ n,f.bx n=f'.bx n
 rw:∀ n,f.rw n=f'.rw n
 sl:∀ t,lkp f.sl t=lkp f'.sl t
theorem FEq.refl (f:FF):FEq f f:=⟨rfl,fun _=>rfl,fun _=>rfl,fun _=>rfl⟩
theorem FEq.symm {f f':FF} (h:FEq f f'):FEq f' f:=⟨h.nt.symm,fun n=>(h.bx n).symm,fun n=>(h.rw n).symm,fun t=>(h.sl t).symm⟩
theorem FEq.trans {f f' f'':FF} (h:FEq f f') (k:FEq f' f''):FEq f f'':=⟨h.nt.trans k.nt,fun n=>(h.bx n).trans (k.bx n),fun n=>(h.rw n).trans (k.rw n),fun t=>(h.sl t).trans (k.sl t)⟩
theorem Sim.feq {f f':FF} (h:Sim C f g a w) (he:FEq f f') (hu:Up f'.sl):Sim C f' g a w:=by
 have e1:f.bx=f'.bx:=funext he.bx;have e2:f.rw=f'.rw:=funext he.rw;refine⟨h.nodef,h.size.trans he.nt,hu,h.kept,fun t v hv=>h.slots t v (by rw[he.sl];exact hv),fun i b hb=>h.boxes i b (by rw[e1];exact hb),?_,?_,?_,?_,h.tied,h.tie⟩
 ·rw[← e1];exact h.bdisj
 ·rw[← e2];exact h.rows
 ·rw[← e2];exact h.rdisj
 ·rw[← e1,← e2];exact h.rbox
theorem Lz {sl:List (Nat×AV)} {d:Option Nat} {v:Option AV} {t:Nat}:lkp (slE sl d v) t=(match d,v with | some d,some v=>if d=t then some v else lkp sl t | _,_=>lkp sl t):=by
 cases d with
 | none=>cases v<;>rfl
 | some d=>cases v with
  | none=>rfl
  | some v=>exact Fx _ _ _ _
theorem Anb {sl:List (Nat×AV)} (h:Up sl) (d:Option Nat) (v:Option AV):Up (slE sl d v):=by
 unfold slE;split
 ·exact h.ins _ _
 ·exact h
def wB (e:Ent) (n:Nat):Prop:=(e.b0≤n∧n<e.b0+e.nb.length)∨∃ b,e.ef=.box n b
def wR (e:Ent) (n:Nat):Prop:=e.r0≤n∧n<e.r0+e.nr.length
theorem Rn {e:Ent} {f f':FF} {n:Nat} (h:f.bx n=f'.bx n):(BW e f).bx n=(BW e f').bx n:=by
 simp only[BW,more];split
 ·rfl
 ·cases e.ef<;>simp only[BL,h]
theorem Fq {e:Ent} {f:FF} {n:Nat} (h:¬ wB e n):(BW e f).bx n=f.bx n:=by
 simp only[BW,more];rw[if_neg (fun h'=>h (.inl h'))];cases he:e.ef with
 | box i b =>
  simp only[BL];rw[if_neg (fun e'=>h (.inr ⟨b,by rw[he,e']⟩))]
 | _=>rfl
theorem T7 {e:Ent} {f f':FF} {n:Nat} (h:wB e n):(BW e f).bx n=(BW e f').bx n:=by
 simp only[BW,more];split
 ·rfl
 ·rcases h with h | ⟨b,h⟩
  ·contradiction
  ·simp only[h,BL,if_true]
theorem ZL {e:Ent} {f f':FF} {n:Nat} (h:f.rw n=f'.rw n):(BW e f).rw n=(BW e f').rw n:=by
 simp only[BW,more];split
 ·rfl
 ·rw[h]
theorem BD {e:Ent} {f:FF} {n:Nat} (h:¬ wR e n):(BW e f).rw n=gnE e.ef n (f.rw n):=if_neg h
theorem T8 {e:Ent} {f f':FF} {n:Nat} (h:wR e n):(BW e f).rw n=(BW e f').rw n:=by
 have h':e.r0≤n∧n<e.r0+e.nr.length:=h;simp only[BW,more];rw[if_pos h',if_pos h']
theorem LA {e:Ent} {f f':FF} {t:Nat} (h:lkp f.sl t=lkp f'.sl t):lkp (BW e f).sl t=lkp (BW e f').sl t:=by
 simp only[BW,Lz];split
 ·split
  ·rfl
  ·exact h
 ·exact h
theorem Eb {e:Ent} {f:FF} {t:Nat} (h:e.d≠some t):lkp (BW e f).sl t=lkp f.sl t:=by
 simp only[BW,Lz];split
 ·rename_i d v hd hv;rw[if_neg (fun e'=>h (by rw[hd,e']))]
 ·rfl
theorem Wb {e:Ent} {f f':FF} (h:FEq f f'):FEq (BW e f) (BW e f'):=⟨h.nt,fun n=>Rn (h.bx n),fun n=>ZL (h.rw n),fun t=>LA (h.sl t)⟩
structure T9 (e e':Ent):Prop where
 d:∀ t,e.d=some t→e'.d≠some t
 b:∀ n,wB e n→¬ wB e' n
 r:∀ n,wR e n→¬ wR e' n
 g:∀ n r,wR e n→e.nr[n-e.r0]? = some r→gnE e'.ef n (some r)=some r
 g':∀ n r,wR e' n→e'.nr[n-e'.r0]? = some r→gnE e.ef n (some r)=some r
 c:∀ n x,gnE e.ef n (gnE e'.ef n x)=gnE e'.ef n (gnE e.ef n x)
theorem Hj {e:Ent} {f:FF} {n:Nat} (h:wR e n):∃ r,e.nr[n-e.r0]? = some r∧(BW e f).rw n=some r:=by
 have h':e.r0≤n∧n<e.r0+e.nr.length:=h;have hl:n-e.r0<e.nr.length:=by omega
 refine⟨e.nr[n-e.r0],Aqo hl,?_⟩;simp only[BW,more];rw[if_pos h',Aqo hl]
theorem Aa7 {e e':Ent} (h:T9 e e') (f:FF):FEq (BW e (BW e' f)) (BW e' (BW e f)):=by
 refine⟨rfl,fun n=>?_,fun n=>?_,fun t=>?_⟩
 ·by_cases h1:wB e n
  ·rw[Fq (e:=e') (h.b n h1)];exact T7 h1
  ·rw[Fq h1];exact Rn (Fq h1).symm
 ·by_cases h1:wR e n
  ·obtain⟨r,hr,_⟩:=Hj (f:=f) h1;obtain⟨r1,hr1,e1⟩:=Hj (f:=f) h1;obtain⟨r2,hr2,e2⟩:=Hj (f:=BW e' f) h1;rw[hr] at hr1 hr2;cases hr1;cases hr2;rw[BD (e:=e') (h.r n h1),e1,e2];exact (h.g n r h1 hr).symm
  ·by_cases h2:wR e' n
   ·obtain⟨r,hr,_⟩:=Hj (f:=f) h2;obtain⟨r1,hr1,e1⟩:=Hj (f:=f) h2;obtain⟨r2,hr2,e2⟩:=Hj (f:=BW e f) h2;rw[hr] at hr1 hr2;cases hr1;cases hr2;rw[BD (e:=e) h1,e1,e2];exact h.g' n r h2 hr
   ·rw[BD h1,BD h2,BD h2,BD h1,h.c]
 ·by_cases h1:e.d=some t
  ·rw[Eb (e:=e') (h.d t h1)];exact LA (Eb (h.d t h1))
  ·rw[Eb h1];exact LA (Eb h1).symm
def Bl:List Ent→(Nat→Bool)→Nat→FF→FF
 | [],_,_,f=>f
 | e :: es,L,p,f=>Bl es L (p+1) (bif L p then BW e f else f)
theorem M7:∀ (es:List Ent) {L:Nat→Bool} {p:Nat} {f f':FF},FEq f f'→FEq (Bl es L p f) (Bl es L p f')
 | [],_,_,_,_,h=>h
 | e :: es,L,p,f,f',h=>by
  refine M7 es ?_;cases L p
  ·exact h
  ·exact Wb h
theorem Ro:∀ (es:List Ent) {L:Nat→Bool} {p:Nat} {f:FF},Up f.sl→Up (Bl es L p f).sl
 | [],_,_,_,h=>h
 | e :: es,L,p,f,h=>by
  refine Ro es ?_;cases L p
  ·exact h
  ·exact Anb h _ _
theorem Jd:∀ (es:List Ent) {L:Nat→Bool} {p:Nat} {f:FF},(Bl es L p f).nt=f.nt
 | [],_,_,_=>rfl
 | e :: es,L,p,f=>by
  unfold Bl;rw[Jd es];cases L p<;>rfl
theorem M8:∀ (es:List Ent) {L:Nat→Bool} {p:Nat} {e:Ent} {f:FF},(∀ q e',es[q]? = some e'→L (p+q)=true→T9 e e')→FEq (Bl es L p (BW e f)) (BW e (Bl es L p f))
 | [],_,_,_,_,_=>FEq.refl _
 | e1 :: es,L,p,e,f,h=>by
  have h':∀ q e',es[q]? = some e'→L (p+1+q)=true→T9 e e':=fun q e' hq hl=>h (q+1) e' (by simpa using hq) (by rw[← hl];congr 1;omega)
  unfold Bl;cases hp:L p
  ·exact M8 es h'
  ·rw[cond_true,cond_true];exact (M7 es (Aa7 (h 0 e1 rfl hp) f).symm).trans (M8 es h')
theorem Ua:∀ (es:List Ent) {L L':Nat→Bool} {p i:Nat} {e:Ent} {f:FF},es[i]? = some e→L (p+i)=false→L' (p+i)=true→(∀ j,j≠p+i→L' j=L j)→(∀ q e',i<q→es[q]? = some e'→L (p+q)=true→T9 e e')→FEq (Bl es L' p f) (BW e (Bl es L p f))
 | [],_,_,_,_,_,_,h,_,_,_,_=>by simp at h
 | e1 :: es,L,L',p,0,e,f,h,h0,h1,h2,h3=>by
  simp only[Aq6,AqV] at h;subst h;rw[Aro] at h0 h1;unfold Bl;rw[h0,h1,cond_true,cond_false];have e1':Bl es L' (p+1) (BW e1 f)=Bl es L (p+1) (BW e1 f):=runL_ext es fun q hq=>h2 _ (by omega)
  rw[e1'];exact M8 es fun q e' hq hl=>h3 (q+1) e' (by omega) (by simpa using hq) (by rw[← hl];congr 1;omega)
 | e1 :: es,L,L',p,i+1,e,f,h,h0,h1,h2,h3=>by
  have hp:L' p=L p:=h2 p (by omega)
  unfold Bl;rw[hp];refine Ua es (i:=i) (by simpa using h) (by rw[← h0];congr 1;omega) (by rw[← h1];congr 1;omega) (fun j hj=>h2 j (by omega)) fun q e' hq he hl=>h3 (q+1) e' (by omega) (by simpa using he) (by rw[← hl];congr 1;omega)
 where
 runL_ext:∀ (es:List Ent) {L L':Nat→Bool} {p:Nat} {f:FF},(∀ q,p≤q→L' q=L q)→Bl es L' p f=Bl es L p f
  | [],_,_,_,_,_=>rfl
  | e :: es,L,L',p,f,h=>by
   unfold Bl;rw[h p (Aqr _),runL_ext es fun q hq=>h q (by omega)]
theorem Rp:∀ (es:List Ent) {L L':Nat→Bool} {p:Nat} {f f':FF} {n:Nat},f.bx n=f'.bx n→(∀ q e,es[q]? = some e→L (p+q)≠L' (p+q)→¬ wB e n)→(Bl es L p f).bx n=(Bl es L' p f').bx n
 | [],_,_,_,_,_,_,h,_=>h
 | e :: es,L,L',p,f,f',n,h,hd=>by
  unfold Bl;refine Rp es ?_ fun q e' hq hl=>hd (q+1) e' (by simpa using hq) (by rw[show p+(q+1)=p+1+q by omega];exact hl)
  by_cases hp:L p=L' p
  ·rw[hp];cases L' p
   ·exact h
   ·exact Rn h
  ·have:=hd 0 e rfl hp;cases h1:L p<;>cases h2:L' p<;>simp only[cond_true,cond_false,Fq this,h]
theorem ZM:∀ (es:List Ent) {L L':Nat→Bool} {p:Nat} {f f':FF} {n:Nat},f.rw n=f'.rw n→(∀ q e,es[q]? = some e→L (p+q)=L' (p+q))→(Bl es L p f).rw n=(Bl es L' p f').rw n
 | [],_,_,_,_,_,_,h,_=>h
 | e :: es,L,L',p,f,f',n,h,hd=>by
  unfold Bl;refine ZM es ?_ fun q e' hq=>by rw[show p+1+q=p+(q+1) by omega];exact hd (q+1) e' (by simpa using hq)
  rw[show L p=L' p from hd 0 e rfl]
  cases L' p
  ·exact h
  ·exact ZL h
theorem Ub:∀ (es:List Ent) {L L':Nat→Bool} {p:Nat} {f f':FF} {n:Nat} {m:Md},(∀ r,r.m=m→f'.rw n=some r→f.rw n=some r)→(∀ q e,es[q]? = some e→L (p+q)≠L' (p+q)→¬ wR e n∧Pd e.ef∧(L (p+q)=true→∀ r,r.m=m→Apc e.ef n r))→∀ r,r.m=m→(Bl es L' p f').rw n=some r→(Bl es L p f).rw n=some r
 | [],_,_,_,_,_,_,_,h,_,r,hr,h'=>h r hr h'
 | e :: es,L,L',p,f,f',n,m,h,hd,r,hr,h'=>by
  unfold Bl at h' ⊢;refine Ub es (m:=m) (fun r hr hx=>?_) (fun q e' hq hl=>?_) r hr h'
  ·by_cases hp:L p=L' p
   ·rw[hp];cases h2:L' p
    ·rw[h2] at hx;exact h r hr hx
    ·rw[h2] at hx;simp only[cond_true] at hx ⊢;by_cases hw:wR e n
     ·rw[← hx];exact T8 hw
     ·rw[BD hw] at hx ⊢;exact Afu h r hr hx
   ·obtain⟨hw,hns,ho⟩:=hd 0 e rfl hp;cases h1:L p<;>cases h2:L' p
    ·exact absurd (h1.trans h2.symm) hp
    ·rw[h2,cond_true,BD hw] at hx;exact h r hr ((EY hns).1 hx).1
    ·rw[h2] at hx;rw[cond_true,BD hw];exact (EY hns).2 ⟨h r hr hx,ho h1 r hr⟩
    ·exact absurd (h1.trans h2.symm) hp
  ·rw[show p+1+q=p+(q+1) by omega] at hl ⊢
   exact hd (q+1) e' (by simpa using hq) hl
theorem Uc:∀ (es:List Ent) {L:Nat→Bool} {p:Nat} {f:FF} {n:Nat},f.rw n=none→(∀ (q:Nat) (e:Ent),es[q]? = some e→¬ wR e n)→(Bl es L p f).rw n=none
 | [],_,_,_,_,h,_=>h
 | e :: es,L,p,f,n,h,hd=>by
  unfold Bl;refine Uc es ?_ fun q e' hq=>hd (q+1) e' (by simpa using hq)
  cases L p
  ·exact h
  ·rw[cond_true,BD (hd 0 e rfl),h];exact Aft _ _
theorem Pe:∀ (es:List Ent) {L:Nat→Bool} {b p i:Nat} {is:List Nat} {e:Ent} {f:FF},es[p]? = some e→L (b+p)=true→e.ef=.gone is→i∈is→(∀ q e',p≤q→es[q]? = some e'→¬ wR e' i)→(Bl es L b f).rw i=none
 | [],_,_,_,_,_,_,_,h,_,_,_,_=>by simp at h
 | e1 :: es,L,b,0,i,is,e,f,h,hl,he,hi,hd=>by
  simp only[Aq6,AqV] at h;subst h;rw[Aro] at hl;unfold Bl;rw[hl,cond_true];refine Uc es ?_ fun q e' hq=>hd (q+1) e' (by omega) (by simpa using hq)
  rw[BD (hd 0 e1 (Aqr _) rfl),he];show GP is i (f.rw i)=none;cases hx:GP is i (f.rw i) with
  | none=>rfl
  | some r=>exact absurd rfl ((Bf.1 hx).2 i hi).1
 | e1 :: es,L,b,p+1,i,is,e,f,h,hl,he,hi,hd=>by
  unfold Bl;exact Pe es (p:=p) (e:=e) (by simpa using h) (by rw[← hl];congr 1;omega) he hi fun q e' hpq hq=>hd (q+1) e' (by omega) (by simpa using hq)
theorem Rq:∀ (es:List Ent) {L L':Nat→Bool} {p:Nat} {f f':FF} {t:Nat},lkp f.sl t=lkp f'.sl t→(∀ q e,es[q]? = some e→L (p+q)≠L' (p+q)→e.d≠some t)→lkp (Bl es L p f).sl t=lkp (Bl es L' p f').sl t
 | [],_,_,_,_,_,_,h,_=>h
 | e :: es,L,L',p,f,f',n,h,hd=>by
  unfold Bl;refine Rq es ?_ fun q e' hq hl=>hd (q+1) e' (by simpa using hq) (by rw[show p+(q+1)=p+1+q by omega];exact hl)
  by_cases hp:L p=L' p
  ·rw[hp];cases L' p
   ·exact h
   ·exact LA h
  ·have:=hd 0 e rfl hp;cases h1:L p<;>cases h2:L' p<;>simp only[cond_true,cond_false,Eb this,h]
theorem Pf:∀ (es:List Ent) {L:Nat→Bool} {p:Nat} {f:FF} {t:Nat} {v:AV},lkp (Bl es L p f).sl t=some v→lkp f.sl t=some v∨∃ q e,es[q]? = some e∧L (p+q)=true∧e.d=some t∧e.v=some v
 | [],_,_,_,_,_,h=>.inl h
 | e :: es,L,p,f,t,v,h=>by
  unfold Bl at h;rcases Pf es h with h1 | ⟨q,e',h1,h2,h3,h4⟩
  ·cases hp:L p
   ·rw[hp] at h1;exact .inl h1
   ·rw[hp,cond_true] at h1;simp only[BW,Lz] at h1;split at h1
    ·rename_i d v' hd hv;split at h1
     ·rename_i ht;subst ht;cases h1;exact .inr ⟨0,e,rfl,hp,hd,hv⟩
     ·exact .inl h1
    ·exact .inl h1
  ·exact .inr ⟨q+1,e',by simpa using h1,by rw[← h2];congr 1;omega,h3,h4⟩
end Go.Proofs.YteheolldcpjkcaaGreat.X
namespace Go.Proofs.YteheolldcpjkcaaGreat.X
open Go Go.RowKit
variable [CW]
variable {C:Cx} {fr s:Fr} {big:FF} {g:Sg} {a:Act} {w w':World} {ch:List (Nat×Bool)} {E:Env}
theorem AjY {l:List Nat} {i:Nat}:has l i=true↔i∈l:=by
 simp only[has,Arb];constructor
 ·rintro⟨x,hx,h⟩
  rw[Aqm h];exact hx
 ·exact fun h=>⟨i,h,Bs i⟩
theorem Je {l:List Nat}:∀ (r:List Nat) {l:List Nat} {i:Nat},i∈HQ l r→i∈l∨i∈r
 | [],_,_,h=>.inl h
 | j :: r,l,i,h=>by
  simp only[HQ] at h;cases hj:l.any (Nat.beq j)
  ·rw[hj,cond_false] at h;rcases Je (l:=l++[j]) r h with h | h
   ·rcases Aqy.1 h with h | h
    ·exact .inl h
    ·exact .inr (by simp at h;simp[h])
   ·exact .inr (by simp[h])
  ·rw[hj,cond_true] at h;rcases Je (l:=l) r h with h | h
   ·exact .inl h
   ·exact .inr (by simp[h])
theorem Aa8 {bs:List (List Nat)} {o:Oper} {i:Nat} (h:i∈LP bs o):∃ e∈o.after,Region.binds .any e=true∧(i=e.on∨i∈bs.getD e.on []):=by
 unfold LP at h;have key:∀ (l:List Edge) (s:List Nat),i∈l.foldl (fun s e=>bif Region.binds .any e then HQ (HQ s [e.on]) (bs.getD e.on []) else s) s→i∈s∨∃ e∈l,Region.binds .any e=true∧(i=e.on∨i∈bs.getD e.on []):=by
  intro l
  induction l with
  | nil=>intro s h;exact .inl h
  | cons e l ih =>
   intro s h;rcases ih _ h with h | ⟨e',h1,h2⟩
   ·cases hb:Region.binds .any e
    ·simp only[hb,cond_false] at h;exact .inl h
    ·simp only[hb,cond_true] at h;rcases Je (l:=HQ s [e.on]) _ h with h | h
     ·rcases Je (l:=s) _ h with h | h
      ·exact .inl h
      ·exact .inr ⟨e,by simp,hb,.inl (by simpa using h)⟩
     ·exact .inr ⟨e,by simp,hb,.inr h⟩
   ·exact .inr ⟨e',by simp[h1],h2⟩
 rcases key _ _ h with h | ⟨e,h1,h2⟩
 ·simp at h
 ·exact⟨e,by simpa using h1,h2⟩
theorem Pg:∀ (l:List Oper) (bs:List (List Nat)),∃ t,PR l bs=bs++t∧t.length=l.length∧∀ (j:Nat) o,l[j]? = some o→∃ p,(PR l bs).take (bs.length+j)=p∧(PR l bs)[bs.length+j]? = some (LP p o)
 | [],bs=>⟨[],by simp[PR],rfl,fun j o h=>by simp at h⟩
 | o :: l,bs=>by
  obtain⟨t,h1,h2,h3⟩:=Pg l (bs++[LP bs o]);refine⟨LP bs o :: t,by simp[PR,h1],by simp[h2],fun j o' hj=>?_⟩
  cases j with
  | zero =>
   simp only[Aq6,AqV] at hj;subst hj;refine⟨bs,?_,?_⟩
   ·rw[PR,h1,Aqv,Aro,AsB]
   ·rw[PR,h1,Aro,Aqv,AqB (Aqr _)];simp
  | succ j =>
   obtain⟨p,h4,h5⟩:=h3 j o' (by simpa using hj)
   have e:(bs++[LP bs o]).length+j=bs.length+(j+1):=by simp;omega
   rw[e] at h4 h5;exact⟨p,h4,h5⟩
variable {ops:Array Oper}
theorem M9 {i j:Nat} (h:i∈(Dr.of ops.toList).bs.getD j []):∃ o,ops[j]? = some o∧∃ e∈o.after,Region.binds .any e=true∧(i=e.on∨i∈(Dr.of ops.toList).bs.getD e.on []):=by
 obtain⟨t,h1,h2,h3⟩:=Pg ops.toList [];simp only[Dr.of] at h ⊢;have hj:j<ops.toList.length:=by
  rcases Arf j ops.toList.length with h' | h'
  ·exact h'
  ·rw[AqJ,AqC (by rw[h1];simpa[h2] using h')] at h
   simp at h
 obtain⟨p,h4,h5⟩:=h3 j _ (Aqo hj);simp only[Ar5,AqQ] at h4 h5;rw[AqJ,h5,ArD] at h;obtain⟨e,a1,a2,a3⟩:=Aa8 h;refine⟨_,by rw[← Art];exact Aqo hj,e,by simpa using a1,a2,?_⟩
 rcases a3 with a3 | a3
 ·exact .inl a3
 ·refine .inr ?_;rw[← h4,AqJ,AqW] at a3;split at a3
  ·rw[AqJ];exact a3
  ·simp at a3
theorem GK:∀ (l:List Oper) {n j:Nat} {o:Oper},DM l n=true→l[j]? = some o→∀ e∈o.after,Region.binds .any e=true→e.on<n+j
 | [],_,_,_,_,h=>by simp at h
 | o :: l,n,j,o',h,hj=>by
  simp only[DM,Aql] at h;cases j with
  | zero =>
   simp only[Aq6,AqV] at hj;subst hj;intro e he hb;have:=Aqn.1 h.1.1 e (by simpa using he)
   simp only[hb,Bool.not_true,Arm,Nat.blt,ArB] at this;omega
  | succ j =>
   intro e he hb;have:=GK l h.2 (by simpa using hj) e he hb
   omega
theorem Ud (hed:DM ops.toList 0=true):∀ (j:Nat) {i:Nat},i∈(Dr.of ops.toList).bs.getD j []→i<j:=by
 intro j
 induction j using Nat.strongRecOn with
 | _ j ih =>
  intro i h;obtain⟨o,h1,e,h2,h3,h4⟩:=M9 h;have h5:=GK ops.toList hed (by simpa using h1) e h2 h3
  rcases h4 with h4 | h4
  ·omega
  ·have:=ih e.on (by omega) h4
   omega
def DC (ops:Array Oper) (listed:Array Bool):Prop:=∀ j o,ops[j]? = some o→listed.getD j false=true→∀ e∈o.after,Region.binds .any e=true→listed.getD e.on false=true
theorem Hk (hed:DM ops.toList 0=true) {listed:Array Bool} (hdc:DC ops listed):∀ (j:Nat) {o:Oper},ops[j]? = some o→(∀ e∈o.after,Region.binds .any e=true→listed.getD e.on false=true)→∀ i∈(Dr.of ops.toList).bs.getD j [],listed.getD i false=true:=by
 intro j
 induction j using Nat.strongRecOn with
 | _ j ih =>
  intro o ho hr i hi;obtain⟨o',h1,e,h2,h3,h4⟩:=M9 hi;rw[ho] at h1;cases h1;have h5:=GK ops.toList hed (by simpa using ho) e h2 h3
  have h6:=hr e h2 h3;rcases h4 with h4 | h4
  ·rw[h4];exact h6
  ·obtain⟨o2,h7,_⟩:=M9 h4;exact ih e.on (by omega) h7 (hdc e.on o2 h7 h6) i h4
theorem Cz {i j:Nat}:j∈Cf (Dr.of ops.toList) i↔j<ops.size∧i≠j∧i ∉ (Dr.of ops.toList).bs.getD j []∧j ∉ (Dr.of ops.toList).bs.getD i []:=by
 simp only[Cf,AqR,Asc,inc,Aql,ArJ];have hn:(Dr.of ops.toList).n=ops.size:=by simp[Dr.of]
 rw[hn];have e1:∀ (l:List Nat) (x:Nat),has l x=false↔x ∉ l:=fun l x=>by
  rw[← AjY];simp
 have e2:Nat.beq i j=false↔i≠j:=⟨fun h e=>(by rw[e,Bs] at h;cases h),C8⟩
 rw[e1,e1,e2];exact⟨fun⟨h1,⟨h2,h3⟩,h4⟩=>⟨h1,h2,h3,h4⟩,fun⟨h1,h2,h3,h4⟩=>⟨h1,⟨h2,h3⟩,h4⟩⟩
theorem Ph {α:Type}:∀ (is:List Nat) (l:List (Option α)),(F3 l is).length=l.length
 | [],_=>rfl
 | i :: is,l=>by
  show (F3 (AL l i none) is).length=l.length;rw[Ph is,AR]
theorem JU {α:Type} {n:Nat} {x:α}:∀ (is:List Nat) (l:List (Option α)),at? (F3 l is) n=some x→at? l n=some x∧n ∉ is
 | [],_,h=>⟨h,by simp⟩
 | i :: is,l,h=>by
  obtain⟨h1,h2⟩:=JU is (AL l i none) h;rw[AK] at h1;split at h1
  ·cases h1
  ·rename_i hc;refine⟨h1,fun hm=>?_⟩;rcases AqA.1 hm with e | e
   ·subst e;exact hc ⟨rfl,A4 h1⟩
   ·exact h2 e
theorem Pi {z:Bool} {ds:List (Option Nat)} {rs bs:List Nat}:(FA fr z ds rs bs).bx.length=fr.bx.length∧(FA fr z ds rs bs).rw.length=fr.rw.length:=by simp[FA,Ph]
theorem Jf {z:Bool} {ds:List (Option Nat)} {rs bs:List Nat} {n:Nat} {b:Bn} (h:at? (FA fr z ds rs bs).bx n=some b):at? fr.bx n=some b∧n ∉ bs:=JU _ _ h
theorem Jg {z:Bool} {ds:List (Option Nat)} {rs bs:List Nat} {n:Nat} {r:Ac} (h:at? (FA fr z ds rs bs).rw n=some r):z=false:=by
 cases z with
 | false=>rfl
 | true =>
  simp only[FA,BQ,Aqt,cond_true] at h;cases hx:(F3 fr.rw rs)[n]? with
  | none=>rw[hx] at h;cases h
  | some x=>rw[hx] at h;cases h
theorem Dx {z:Bool} {ds:List (Option Nat)} {rs bs:List Nat} {n:Nat} {r:Ac} (h:at? (FA fr z ds rs bs).rw n=some r):at? fr.rw n=some r∧n ∉ rs∧∀ p pa,r.m=.bor p pa→∃ r',at? (FA fr z ds rs bs).rw p=some r':=by
 have hz:=Jg h;subst hz;have get:∀ m,at? (FA fr false ds rs bs).rw m=PS (F3 fr.rw rs) (at? (F3 fr.rw rs) m):=fun m=>by
  simp only[FA,BQ,Aqt];cases (F3 fr.rw rs)[m]?<;>rfl
 rw[get] at h;have h1:at? (F3 fr.rw rs) n=some r∧∀ p pa,r.m=.bor p pa→∃ r',at? (F3 fr.rw rs) p=some r'∧r'.m.mine=true:=by
  unfold PS at h;split at h
  ·rename_i q hq;split at h
   ·rename_i p pa hm;split at h
    ·rename_i q' hq';cases hmi:q'.m.mine
     ·rw[hmi] at h;cases h
     ·rw[hmi,cond_true] at h;rw[hq] at h;cases h;refine⟨hq,fun p' pa' e=>?_⟩;rw[hm] at e;cases e;exact⟨q',hq',hmi⟩
    ·cases h
   ·rename_i hno;rw[hq] at h;cases h;exact⟨hq,fun p pa e=>absurd e (hno p pa)⟩
  ·cases h
 obtain⟨h2,h3⟩:=h1;obtain⟨h4,h5⟩:=JU _ _ h2;refine⟨h4,h5,fun p pa e=>?_⟩;obtain⟨r',h6,h7⟩:=h3 p pa e;refine⟨r',?_⟩;rw[get,h6];unfold PS;simp only;split
 ·rename_i e';rw[e'] at h7;cases h7
 ·rfl
theorem Afw (hu:Up fr.sl) {z:Bool} {ds:List (Option Nat)} {rs bs:List Nat} {t:Nat} {v:AV} (h:lkp (FA fr z ds rs bs).sl t=some v):lkp fr.sl t=some v∧some t ∉ ds:=by
 obtain⟨h1,h2⟩:=Ee hu h;refine⟨h1,fun hm=>?_⟩;simp only[inO,ArJ,Asz] at h2;exact h2 _ hm (Bs t)
theorem Ft (hu:Up fr.sl) {ds:List (Option Nat)} (h:Dc fr ds=true) {d:Option Nat} (hd:d∈ds):Kt fr.f d:=fun t v hv=>by
 have:=Aqn.1 h _ (Fy hv);cases d with
 | none=>rfl
 | some d =>
  cases v with
  | grd c b ag cs =>
   have h2:=Aqn.1 this _ hd;simpa using h2
  | _=>rfl
structure AlA (C:Cx) (ops:Array Oper) (i:Nat) (st:List HR) (fr fr1:Fr) (e:Ent) (o:Oper):Prop where
 op:ops[i]? = some o
 od:OpD C ops o (Ia (Dr.of ops.toList).ops (B8 (Dr.of ops.toList) (AP o) (Cf (Dr.of ops.toList) i) st fr) o) (Ank st (Cf (Dr.of ops.toList) i)) (Anl (Dr.of ops.toList) (Cf (Dr.of ops.toList) i)) ((Cf (Dr.of ops.toList) i).map fun j=>(Dr.of ops.toList).ds.getD j none) (B8 (Dr.of ops.toList) (AP o) (Cf (Dr.of ops.toList) i) st fr) fr fr1 e
 ne:∀ j∈Cf (Dr.of ops.toList) i,neO ((Dr.of ops.toList).ds.getD i none) ((Dr.of ops.toList).ds.getD j none)=true∧PT st i j (Ia (Dr.of ops.toList).ops (B8 (Dr.of ops.toList) (AP o) (Cf (Dr.of ops.toList) i) st fr) o)=true
 up0:Up fr.sl
 up:Up fr1.sl
 nt:fr1.nt=fr.nt
 nw:Dc fr1 ((Dr.of ops.toList).ds.drop (i+1))=true
 sl:st.length=i
inductive Jh (C:Cx) (ops:Array Oper):Nat→List HR→Fr→List Ent→Fr→Prop
 | nil {i st fr}:Jh C ops i st fr [] fr
 | cons {i st fr fr1 e o es fr2}:AlA C ops i st fr fr1 e o→Jh C ops (i+1) (st++[UN (Dr.of ops.toList) (Ia (Dr.of ops.toList).ops (B8 (Dr.of ops.toList) (AP o) (Cf (Dr.of ops.toList) i) st fr) o) fr fr1]) fr1 es fr2→Jh C ops i st fr (e :: es) fr2
theorem Na {j:Nat} {o:Oper} (h:ops[j]? = some o):(Dr.of ops.toList).ds.getD j none=o.dst∧o.dst∈(Dr.of ops.toList).ds.drop j:=by
 have h':ops.toList[j]? = some o:=by simpa using h
 refine⟨by simp[Dr.of,h],?_⟩
 simp only[Dr.of];refine AqH (i:=0) ?_;rw[Aq5,Aqt];simp[h]
theorem Ku {R:Type} (hE:AG C.P E) (hC:A9 C) {k:Fr→Option R} {r:R}:∀ (rest:List Oper) {i:Nat} {st:List HR} {fr:Fr},ops.toList.drop i=rest→st.length=i→Up fr.sl→Dc fr ((Dr.of ops.toList).ds.drop i)=true →
  Ic E (Dr.of ops.toList) rest i st fr k=some r→∃ es fr' st',Jh C ops i st fr es fr'∧st'.length=i+es.length∧Up fr'.sl∧Dc fr' ((Dr.of ops.toList).ds.drop (i+es.length))=true∧es.length≤rest.length ∧
   Ic E (Dr.of ops.toList) (ops.toList.drop (i+es.length)) (i+es.length) st' fr' k=some r∧∀ o r2,ops.toList.drop (i+es.length)=o :: r2→Cf (Dr.of ops.toList) (i+es.length)=[]
 | [],i,st,fr,hd,hst,hu,hw,h=>⟨[],fr,st,.nil,by simpa using hst,hu,hw,Aqr _,by rw[Ar5,Aro,hd];exact h,fun o r2 e=>by rw[Ar5,Aro,hd] at e;cases e⟩
 | o :: rest,i,st,fr,hd,hst,hu,hw,h=>by
  have hn:ops[i]? = some o:=by
   have:(ops.toList.drop i)[0]? = some o:=by rw[hd];rfl
   rw[Aq5] at this;simpa using this
  have hd':ops.toList.drop (i+1)=rest:=by
   have:(ops.toList.drop i).drop 1=rest:=by rw[hd];rfl
   rwa [ArH] at this
  cases hI:Cf (Dr.of ops.toList) i with
  | nil=>exact⟨[],fr,st,.nil,by simpa using hst,hu,hw,Ari _,by rw[Ar5,Aro,hd];exact h,fun _ _ _=>hI⟩
  | cons j0 I =>
   simp only[Ic] at h;split at h
   ·rename_i e;rw[hI] at e;cases e
   ·cases hc:((Cf (Dr.of ops.toList) i).all fun j=>neO ((Dr.of ops.toList).ds.getD i none) ((Dr.of ops.toList).ds.getD j none)&&PT st i j (Ia (Dr.of ops.toList).ops (B8 (Dr.of ops.toList) (AP o) (Cf (Dr.of ops.toList) i) st fr) o))
    ·rw[hc] at h;cases h
    ·rw[hc,cond_true] at h;obtain⟨ds1,ds2⟩:=Na hn;have l1:(B8 (Dr.of ops.toList) (AP o) (Cf (Dr.of ops.toList) i) st fr).bx.length=fr.bx.length:=Pi.1;have l2:(B8 (Dr.of ops.toList) (AP o) (Cf (Dr.of ops.toList) i) st fr).rw.length=fr.rw.length:=Pi.2;obtain⟨e,fr1,hod,hu1,hnt1,hk⟩:=Ana hE hC (s:=B8 (Dr.of ops.toList) (AP o) (Cf (Dr.of ops.toList) i) st fr) l1 l2 rfl hu (Ft hu hw ds2) h;cases hw1:Dc fr1 ((Dr.of ops.toList).ds.drop (i+1))
     ·rw[hw1] at hk;cases hk
     ·rw[hw1,cond_true] at hk;obtain⟨es,fr',st',c1,c2,c3,c4,c5,c6,c7⟩:=Ku hE hC rest hd' (by simp[hst]) hu1 hw1 hk
      have e1:i+1+es.length=i+(e :: es).length:=by simp;omega
      rw[e1] at c2 c4 c6 c7;refine⟨e :: es,fr',st',.cons ⟨hn,hod,fun j hj=>?_,hu,hu1,hnt1,hw1,hst⟩ c1,c2,c3,c4,by simpa using c5,c6,c7⟩
      have:=Aqn.1 hc j hj;simpa using this
theorem Aa9 {e:Ent} {es:List Ent} {L:Nat→Bool} {p:Nat} {f:FF}:Bl (e :: es) L p f=Bl es L (p+1) (bif L p then BW e f else f):=rfl
theorem JV:∀ (es:List Ent) {L:Nat→Bool} {p:Nat} {f:FF},(∀ q,p≤q→L q=false)→Bl es L p f=f
 | [],_,_,_,_=>rfl
 | e :: es,L,p,f,h=>by
  unfold Bl;rw[h p (Aqr _),cond_false];exact JV es fun q hq=>h q (by omega)
structure AtP (C:Cx) (ops:Array Oper) (i:Nat) (fr:Fr) (es:List Ent) (fr':Fr) (p0 p:Nat) (e:Ent) (o:Oper) (stp:List HR) (frp frq:Fr):Prop where
 st:AlA C ops (i+p) stp frp frq e o
 f:frp.f=Bl es (fun q=>decide (q<p0+p)) p0 fr.f
 sp:∀ q e',q<p→es[q]? = some e'→∃ s,stp[i+q]? = some s∧s.r0=e'.r0∧s.rn=e'.nr.length∧s.b0=e'.b0∧s.bn=e'.nb.length∧∀ n b,e'.ef=.box n b→s.et=some n
 later:∀ q e',p<q→es[q]? = some e'→i+p∈Cf (Dr.of ops.toList) (i+q)→∀ n b,e'.ef=.box n b→AbG (Dr.of ops.toList) frp (i+q)=some n∨e.b0≤n
 rlo:fr.rw.length≤e.r0
 blo:fr.bx.length≤e.b0
 rhi:e.r0+e.nr.length≤fr'.rw.length
 bhi:e.b0+e.nb.length≤fr'.bx.length
 r:∀ q e',q<p→es[q]? = some e'→e'.r0+e'.nr.length≤e.r0∧e'.b0+e'.nb.length≤e.b0
 val:∀ t v,e.d=some t→e.v=some v→lkp frq.sl t=some v
theorem JW {i:Nat} {st:List HR} {fr fr':Fr} {es:List Ent} (h:Jh C ops i st fr es fr'):∀ p0,fr'.f=Bl es (fun q=>decide (q<p0+es.length)) p0 fr.f∧fr.rw.length≤fr'.rw.length∧fr.bx.length≤fr'.bx.length∧fr'.nt=fr.nt:=by
 induction h with
 | nil=>exact fun p0=>⟨rfl,Aqr _,Aqr _,rfl⟩
 | @cons i st fr fr1 e o es fr2 hs hc ih =>
  intro p0;obtain⟨h1,h2,h3,h4⟩:=ih (p0+1);refine⟨?_,?_,?_,h4.trans hs.nt⟩
  ·unfold Bl;have e1:decide (p0<p0+(e :: es).length)=true:=by simp
   simp only[e1,cond_true];rw[← hs.od.f,h1];have:p0+1+es.length=p0+(e :: es).length:=by simp;omega
   rw[this]
  ·have:=hs.od.rl;omega
  ·have:=hs.od.bl;omega
theorem GL {i:Nat} {st:List HR} {fr fr':Fr} {es:List Ent} (h:Jh C ops i st fr es fr'):∀ p0 (p:Nat) e,es[p]? = some e→∃ o stp frp frq,AtP C ops i fr es fr' p0 p e o stp frp frq∧∃ t,stp=st++t:=by
 induction h with
 | nil=>intro p0 p e he;simp at he
 | @cons i st fr fr1 e o es fr2 hs hc ih =>
  intro p0 p e' he;have hl:=hs.sl;cases p with
  | zero =>
   simp only[Aq6,AqV] at he;subst he;obtain⟨_,b1,b2,_⟩:=JW hc 0;refine⟨o,st,fr,fr1,⟨by simpa using hs,?_,fun q e' hq=>absurd hq (by omega),fun q e' hq he' hin n b hb=>?_,by rw[hs.od.r0];exact Aqr _,by rw[hs.od.b0];exact Aqr _,?_,?_,fun q e' hq=>absurd hq (by omega),fun t v ht hv=>?_⟩,[],by simp⟩
   ·rw[JV _ fun q hq=>by simp;omega]
   ·obtain⟨q,rfl⟩:∃ q',q=q'+1:=⟨q-1,by omega⟩
    obtain⟨o',stq,frq1,frq2,ha,t,ht⟩:=ih (p0+1) q e' (by simpa using he')
    have e1:i+1+q=i+(q+1):=by omega
    have hne:=(ha.st.ne i (by rw[e1];simpa using hin)).2
    obtain⟨h2,_⟩:=ha.st.od.ef _ _ hb
    ·rw[h2] at hne;have hsp:stq[i]? = some (UN (Dr.of ops.toList) (Ia (Dr.of ops.toList).ops (B8 (Dr.of ops.toList) (AP o) (Cf (Dr.of ops.toList) i) st fr) o) fr fr1):=by
      rw[ht,Aqv,AqB (by omega),hl,Ate]
      rfl
     simp only[PT,hsp,UN,ArQ] at hne;rcases hne with h3 | h3
     ·left;rw[e1] at h3;unfold AbG;rw[Aro] at *;split at h3
      ·rename_i k' hk';rw[hk',Aqm h3]
      ·cases h3
     ·right;rw[hs.od.b0];exact CB h3
   ·have:=hs.od.rl;rw[hs.od.r0];omega
   ·have:=hs.od.bl;rw[hs.od.b0];omega
   ·have:lkp fr1.f.sl t=some v:=by
     rw[hs.od.f];simp only[BW,Lz,ht,hv,if_true]
    exact this
  | succ p =>
   obtain⟨o',stp,frp,frq,ha,t,ht⟩:=ih (p0+1) p e' (by simpa using he)
   have e1:i+1+p=i+(p+1):=by omega
   have hrl:=hs.od.rl;have hbl:=hs.od.bl;refine⟨o',stp,frp,frq,⟨by rw[← e1];exact ha.st,?_,fun q e2 hq he2=>?_,fun q e2 hq he2 hin n b hb=>?_,?_,?_,ha.rhi,ha.bhi,fun q e2 hq he2=>?_,ha.val⟩,UN (Dr.of ops.toList) (Ia (Dr.of ops.toList).ops (B8 (Dr.of ops.toList) (AP o) (Cf (Dr.of ops.toList) i) st fr) o) fr fr1 :: t,by rw[ht];simp⟩
   ·rw[ha.f,Aa9];have e2:decide (p0<p0+(p+1))=true:=by simp
    simp only[e2,cond_true];rw[← hs.od.f];have:p0+1+p=p0+(p+1):=by omega
    rw[this]
   ·cases q with
    | zero =>
     simp only[Aq6,AqV] at he2;subst he2;refine⟨_,by rw[ht,Aro,Aqv,AqB (by omega),hl,Ate];rfl,hs.od.r0.symm,by simp only[UN];omega,hs.od.b0.symm,by simp only[UN];omega,fun n b hb=>?_⟩
     exact (hs.od.ef _ _ hb).1
    | succ q =>
     have:=ha.sp q e2 (by omega) (by simpa using he2)
     rw[show i+(q+1)=i+1+q by omega]
     exact this
   ·obtain⟨q,rfl⟩:∃ q',q=q'+1:=⟨q-1,by omega⟩
    rw[show i+(q+1)=i+1+q by omega] at hin ⊢
    exact ha.later q e2 (by omega) (by simpa using he2) (by rw[e1];exact hin) n b hb
   ·have:=ha.rlo;omega
   ·have:=ha.blo;omega
   ·cases q with
    | zero =>
     simp only[Aq6,AqV] at he2;subst he2;have:=ha.rlo;have:=ha.blo;rw[hs.od.r0,hs.od.b0];omega
    | succ q=>exact ha.r q e2 (by omega) (by simpa using he2)
end Go.Proofs.YteheolldcpjkcaaGreat.X
namespace Go.Proofs.YteheolldcpjkcaaGreat.X
open Go Go.RowKit
variable [CW]
variable {C:Cx} {fr s:Fr} {big:FF} {g:Sg} {a:Act} {w w':World} {ch:List (Nat×Bool)} {E:Env} {ops:Array Oper}
def cnt (L:Nat→Bool):Nat→Nat
 | 0=>0
 | k+1=>cnt L k+(bif L k then 0 else 1)
theorem ZN {L L':Nat→Bool} {p:Nat} (h0:L p=false) (h1:L' p=true) (h2:∀ j,j≠p→L' j=L j):∀ k,p<k→cnt L k=cnt L' k+1
 | 0,h=>absurd h (by omega)
 | k+1,h=>by
  have same:∀ k,k≤p→cnt L k=cnt L' k:=by
   intro k
   induction k with
   | zero=>intro _;rfl
   | succ k ih=>intro hk;simp only[cnt,ih (by omega),h2 k (by omega)]
  by_cases hk:p=k
  ·subst hk;simp only[cnt,h0,h1,same p (Aqr _),cond_true,cond_false]
  ·simp only[cnt,ZN h0 h1 h2 k (by omega),h2 k (by omega)]
   omega
theorem Nb {L:Nat→Bool}:∀ k,cnt L k=0→∀ q,q<k→L q=true
 | 0,_,q,h=>absurd h (by omega)
 | k+1,hc,q,h=>by
  simp only[cnt] at hc;by_cases hq:q=k
  ·subst hq;cases hl:L q
   ·rw[hl,cond_false] at hc;omega
   ·rfl
  ·exact Nb k (by omega) q (by omega)
theorem ZO {L:Nat→Bool}:∀ k,0<cnt L k→∃ q,q<k∧L q=false∧∀ j,j<q→L j=true
 | 0,h=>absurd h (by simp[cnt])
 | k+1,h=>by
  by_cases hk:0<cnt L k
  ·obtain⟨q,h1,h2,h3⟩:=ZO k hk;exact⟨q,by omega,h2,h3⟩
  ·refine⟨k,by omega,?_,fun j hj=>Nb k (by omega) j hj⟩
   simp only[cnt] at h;cases hl:L k
   ·rfl
   ·rw[hl,cond_true] at h;omega
structure LI (ops:Array Oper) (m n:Nat) (L:Nat→Bool) (listed:Array Bool):Prop where
 size:listed.size=ops.size
 get:∀ j,j<ops.size→listed.getD j false=(decide (j<m)||(decide (j<m+n)&&L (j-m)))
theorem Ji {l:Array Bool} {j:Nat} (h:j<l.size):l.getD j true=l.getD j false:=by simp[Array.getD,h]
theorem LI.set {m n p:Nat} {L:Nat→Bool} {listed:Array Bool} (h:LI ops m n L listed) (hp:p<n) (hpo:m+p<ops.size):LI ops m n (fun q=>L q||Nat.beq q p) (listed.setIfInBounds (m+p) true):=by
 refine⟨by rw[As9];exact h.size,fun j hj=>?_⟩
 by_cases hjp:j=m+p
 ·subst hjp;have h1:(listed.setIfInBounds (m+p) true).getD (m+p) false=true:=by
   have:=h.size;simp only[AqL];rw[Asb (by omega)]
   rfl
  rw[h1];have e1:m+p-m=p:=by omega
  rw[e1,Bs];simp[hp]
 ·rw[getD_set_ne false (fun e=>hjp e.symm),h.get j hj];by_cases h1:j<m
  ·simp[h1]
  ·have:Nat.beq (j-m) p=false:=C8 (by omega)
   rw[this,ArF]
structure Inv (C:Cx) (m:Nat) (fr:Fr) (es:List Ent) (L:Nat→Bool) (g:Sg) (a:Act) (w:World):Prop where
 sim:Sim C (Bl es L 0 fr.f) g a w
 β:∀ n,fr.bx.length≤n→(∀ q e,es[q]? = some e→L q=true→¬ (e.b0≤n∧n<e.b0+e.nb.length))→g.β n=none
 ρ:∀ n,fr.rw.length≤n→(∀ q e,es[q]? = some e→L q=true→¬ (e.r0≤n∧n<e.r0+e.nr.length))→g.ρ n=none
theorem GM {m:Nat} {st:List HR} {fr fr':Fr} {es:List Ent} (hch:Jh C ops m st fr es fr') {p q:Nat} {e e':Ent} (hpq:p<q) (hp:es[p]? = some e) (hq:es[q]? = some e'):e.r0+e.nr.length≤e'.r0∧e.b0+e.nb.length≤e'.b0:=by
 obtain⟨_,_,_,_,h,_⟩:=GL hch 0 q e' hq;exact h.r p e hpq hp
theorem Afx {m:Nat} {st:List HR} {fr fr':Fr} {es:List Ent} (hch:Jh C ops m st fr es fr') (hst:st.length=m) (hu:Up fr.sl) (hnw:Dc fr ((Dr.of ops.toList).ds.drop m)=true)
  {L:Nat→Bool} {p:Nat} {e:Ent} (he:es[p]? = some e) (hL:L p=false)
  (hlow:∀ q,q<p→L q=false→m+q∈Cf (Dr.of ops.toList) (m+p)) (hhigh:∀ q,p<q→q<es.length→L q=true→m+q∈Cf (Dr.of ops.toList) (m+p)∧m+p∈Cf (Dr.of ops.toList) (m+q))
  {g:Sg} {a:Act} {w:World} (hI:Inv C m fr es L g a w) {o:Oper} (ho:ops[m+p]? = some o) {K:Act→World→Prop} {Q:Exit→Act→World→Prop} (hK:∀ g' a' w',Inv C m fr es (fun q=>L q||Nat.beq q p) g' a' w'→K a' w') :
  if Region.wanted o (yielded ops a.tmps) then o.wp C.P a w K Q else K (a.put o.dst undef) w:=by
 obtain⟨o',stp,frp,frq,hat,tt,htt⟩:=GL hch 0 p e he;have ho':=hat.st.op;rw[ho] at ho';cases ho';have hod:=hat.st.od;obtain⟨ds1,_⟩:=Na ho;have hfrpnt:frp.nt=fr.nt:=by
  have:=congrArg FF.nt hat.f;rw[Jd] at this;exact this
 -- what other entries write
 have other:∀ {q e'},es[q]? = some e'→∃ o' stq frq1 frq2,AtP C ops m fr es fr' 0 q e' o' stq frq1 frq2:=fun h=>by
  obtain⟨o',s1,f1,f2,h1,_⟩:=GL hch 0 _ _ h;exact⟨o',s1,f1,f2,h1⟩
 have dsq:∀ {q e'},es[q]? = some e'→(Dr.of ops.toList).ds.getD (m+q) none=e'.d:=fun h=>by
  obtain⟨o',s1,f1,f2,h1⟩:=other h;rw[(Na h1.st.op).1,h1.st.od.d]
 have lenp:∀ {q e'},es[q]? = some e'→q<es.length:=fun h=>(Aqz.1 h).1
 -- the part of the frame that the operation was looked at in
 have diff:∀ q e',es[q]? = some e'→decide (q<p)≠L q→m+q∈Cf (Dr.of ops.toList) (m+p)∧q≠p:=fun q e' hq hd=>by
  by_cases h1:q<p
  ·rw[decide_eq_true h1] at hd;exact⟨hlow q h1 (by cases h2:L q<;>simp_all),by omega⟩
  ·rw[decide_eq_false h1] at hd;have h2:L q=true:=by cases h2:L q<;>simp_all
   have h3:q≠p:=fun e=>by rw[e,hL] at h2;cases h2
   exact⟨(hhigh q (by omega) (lenp hq) h2).1,h3⟩
 have hsub:Sub (B8 (Dr.of ops.toList) (AP o) (Cf (Dr.of ops.toList) (m+p)) stp frp) (Bl es L 0 fr.f):=by
  have hbx:∀ i b,at? (B8 (Dr.of ops.toList) (AP o) (Cf (Dr.of ops.toList) (m+p)) stp frp).bx i=some b→(Bl es L 0 fr.f).bx i=some b:=fun i b hb=>by
   obtain⟨h1,h2⟩:=Jf hb;have h3:frp.f.bx i=some b:=h1;rw[hat.f] at h3;rw[← h3];refine (Rp es rfl fun q e' hq hd=>?_).symm;have hd':decide (q<p)≠L q:=by simpa using hd
   obtain⟨hin,hqp⟩:=diff q e' hq hd';have hil:=A4 h1;rw[← hod.b0] at hil
   rintro (hw | ⟨b',hw⟩)
   ·by_cases hlt:q<p
    ·refine h2 (Aqy.2 (.inl (ArL.2 ⟨m+q,hin,?_⟩)));obtain⟨sp,hs1,_,_,hs4,hs5,_⟩:=hat.sp q e' hlt hq;rw[hs1];exact AsO.2 ⟨i-e'.b0,(by rw[hs5];omega),(by rw[hs4];omega)⟩
    ·have:=(GM hch (show p<q by omega) he hq).2
     omega
   ·by_cases hlt:q<p
    ·refine h2 (Aqy.2 (.inr (Ar3.2 ⟨m+q,hin,?_⟩)));obtain⟨sp,hs1,_,_,_,_,hs6⟩:=hat.sp q e' hlt hq;rw[hs1];exact hs6 _ _ hw
    ·have hLq:L q=true:=by
      rw[decide_eq_false hlt] at hd';cases h3:L q<;>simp_all
     have hqp':p<q:=by omega
     rcases hat.later q e' hqp' hq (hhigh q hqp' (lenp hq) hLq).2 i b' hw with h4 | h4
     ·refine h2 (Aqy.2 (.inr (Ar3.2 ⟨m+q,hin,?_⟩)));have:stp[m+q]? = none:=AqC (by rw[hat.st.sl];omega)
      rw[this];exact h4
     ·omega
  have hrw:∀ i r,at? (B8 (Dr.of ops.toList) (AP o) (Cf (Dr.of ops.toList) (m+p)) stp frp).rw i=some r→(Bl es L 0 fr.f).rw i=some r:=fun i r hr=>by
   obtain⟨h1,h2,hrp⟩:=Dx hr;have h3:frp.f.rw i=some r:=h1;rw[hat.f] at h3;have hz:AP o=false:=Jg hr;refine Ub es (m:=r.m) (fun _ _ h=>h) (fun q e' hq hd=>?_) r rfl h3;have hd':decide (q<p)≠L q:=fun e=>hd (by simpa using e.symm)
   obtain⟨hin,hqp⟩:=diff q e' hq hd';have hil:=A4 h1;rw[← hod.r0] at hil;refine⟨fun hw=>?_,fun i0 e0 s0 xs hi0=>?_,fun hLq r1 hr1 is0 hi0 i0 hm0=>?_⟩
   case refine_2 =>
    obtain⟨o',s1,f1,f2,ha⟩:=other hq;have hin2:m+p∈Cf (Dr.of ops.toList) (m+q):=by
     obtain⟨a1,a2,a3,a4⟩:=Cz.1 hin;exact Cz.2 ⟨(AqP.1 ho).1,fun e=>a2 e.symm,a4,a3⟩
    have:=Aqn.1 (ha.st.od.st i0 e0 s0 xs hi0).1 _ hin2;have ho2:(Dr.of ops.toList).ops[m+p]? = some o:=by simpa[Dr.of] using ho
    rw[ho2] at this;have this:AP o=true:=this;rw[hz] at this;cases this
   case refine_3 =>
    rw[AqQ] at hLq;have hpq:p<q:=by
     rcases Arf q p with h4 | h4
     ·rw[decide_eq_true h4,hLq] at hd';exact absurd rfl hd'
     ·omega
    have h6:=(hhigh q hpq (lenp hq) hLq).2;obtain⟨o',s1,f1,f2,ha⟩:=other hq;obtain⟨sp,hs1,hs2,_⟩:=ha.sp p e hpq he;have hin2:m+p∈Cf (Dr.of ops.toList) (m+q):=by
     obtain⟨a1,a2,a3,a4⟩:=Cz.1 hin;exact Cz.2 ⟨(AqP.1 ho).1,fun e=>a2 e.symm,a4,a3⟩
    have hlo:=Aqn.1 ((ha.st.od.gn is0 hi0 i0 hm0).1.resolve_right fun hal=>by
     have:=Aqn.1 hal _ hin2;have ho2:(Dr.of ops.toList).ops[m+p]? = some o:=by simpa[Dr.of] using ho
     rw[ho2] at this;have this:AP o=true:=this;rw[hz] at this;cases this) _ h6
    rw[hs1] at hlo;have hlo:=CB hlo;rw[hs2] at hlo;refine⟨by omega,fun pp pa hm=>?_⟩
    obtain⟨r',hr'⟩:=hrp pp pa (hr1▸hm);have h7:=A4 (Dx hr').1;rw[← hod.r0] at h7;omega
   have hw':e'.r0≤i∧i<e'.r0+e'.nr.length:=hw;by_cases hlt:q<p
   ·refine h2 (ArL.2 ⟨m+q,hin,?_⟩);obtain⟨sp,hs1,hs2,hs3,_⟩:=hat.sp q e' hlt hq;rw[hs1];exact AsO.2 ⟨i-e'.r0,(by rw[hs3];omega),(by rw[hs2];omega)⟩
   ·have:=(GM hch (show p<q by omega) he hq).1
    omega
  refine⟨?_,hat.st.up0.filter _,fun t v ht=>?_,hbx,hrw,fun i r pp pa hr hm r' hr'=>?_⟩
  ·rw[Jd];exact hfrpnt
  ·obtain⟨h1,h2⟩:=Afw hat.st.up0 ht;have h3:lkp frp.f.sl t=some v:=h1;rw[hat.f] at h3;rw[← h3];refine (Rq es rfl fun q e' hq hd=>?_).symm;have hd':decide (q<p)≠L q:=by simpa using hd
   obtain⟨hin,_⟩:=diff q e' hq hd';intro hdt;refine h2 (AqG.2 ⟨m+q,hin,?_⟩);rw[dsq hq,hdt]
  ·obtain⟨_,_,h3⟩:=Dx hr;obtain⟨r2,h4⟩:=h3 pp pa hm;have h5:=hrw pp r2 h4;rw[hr'] at h5;cases h5;exact h4
 have hfree:Aly e g:=⟨fun j h1 h2=>hI.β j (AqE hat.blo h1) fun q e' hq hl hin=>by
   by_cases hqp:q=p
   ·rw[hqp,hL] at hl;cases hl
   ·rcases Arf q p with h3 | h3
    ·have:=(GM hch h3 hq he).2;omega
    ·have:=(GM hch (show p<q by omega) he hq).2;omega,fun j h1 h2=>hI.ρ j (AqE hat.rlo h1) fun q e' hq hl hin=>by
   by_cases hqp:q=p
   ·rw[hqp,hL] at hl;cases hl
   ·rcases Arf q p with h3 | h3
    ·have:=(GM hch h3 hq he).1;omega
    ·have:=(GM hch (show p<q by omega) he hq).1;omega⟩
 have hquiet:Kt (Bl es L 0 fr.f) o.dst:=fun t v hv=>by
  rcases Pf es hv with h1 | ⟨q,e',h1,h2,h3,h4⟩
  ·refine Ft hu hnw ?_ t v h1;have:=(Na ho).2;rw[← ArH] at this;exact ArT this
  ·rw[AqQ] at h2;have hqp:q≠p:=fun e=>by rw[e,hL] at h2;cases h2
   obtain⟨o',s1,f1,f2,ha⟩:=other h1;rcases Arf q p with h5 | h5
   ·refine Ft ha.st.up ha.st.nw ?_ t v (ha.val t v h3 h4);have:=(Na ho).2;rw[show m+p=(m+q+1)+(p-q-1) by omega,← ArH] at this
    exact ArT this
   ·have h6:=(hhigh q (by omega) (lenp h1) h2).2
    exact ha.st.od.ws v h4 _ (AqG.2 ⟨m+p,h6,ds1⟩)
 refine hod.ent hI.sim hsub hfree hquiet fun g' a' w' hf hs=>hK g' a' w' ?_;have hindep:∀ q e',p<q→es[q]? = some e'→L (0+q)=true→T9 e e':=fun q e' hpq hq hl=>by
  rw[AqQ] at hl;obtain⟨o',s1,f1,f2,ha⟩:=other hq;have h6:=(hhigh q hpq (lenp hq) hl).2;obtain⟨n1,n2⟩:=ha.st.ne _ h6;obtain⟨r1,r2⟩:=GM hch hpq he hq;have hin2:m+q∈Cf (Dr.of ops.toList) (m+p):=by
   obtain⟨a1,a2,a3,a4⟩:=Cz.1 h6;exact Cz.2 ⟨(AqP.1 ha.st.op).1,fun e=>a2 e.symm,a4,a3⟩
  have ho2:(Dr.of ops.toList).ops[m+p]? = some o:=by simpa[Dr.of] using ho
  have ho3:(Dr.of ops.toList).ops[m+q]? = some o':=by simpa[Dr.of] using ha.st.op
  -- where one sets a row, the other looks at none
  have set1':∀ i0 e0 s0 xs,e'.ef=.set i0 e0 s0 xs→AP o=true:=fun i0 e0 s0 xs h=>by
   have:=Aqn.1 (ha.st.od.st i0 e0 s0 xs h).1 _ h6;rw[ho2] at this;exact this
  have set2':∀ i0 e0 s0 xs,e.ef=.set i0 e0 s0 xs→AP o'=true:=fun i0 e0 s0 xs h=>by
   have:=Aqn.1 (hod.st i0 e0 s0 xs h).1 _ hin2;rw[ho3] at this;exact this
  refine⟨fun t ht ht'=>?_,fun n hn hn'=>?_,fun n hn hn'=>?_,fun n r hn hr=>ZK fun i0 hi0=>?_,fun n r hn hr=>ZK fun i0 hi0=>?_,fun n x=>?_⟩
  ·rw[dsq hq,dsq he,ht,ht'] at n1;simp[neO] at n1
  ·obtain⟨sp,hs1,_,_,hs4,hs5,hs6⟩:=ha.sp p e hpq he;rcases hn with hn | ⟨b,hn⟩<;>rcases hn' with hn' | ⟨b',hn'⟩
   ·omega
   ·obtain⟨_,b3,h8⟩:=ha.st.od.ef _ _ hn'
    ·obtain⟨_,h9⟩:=Jf h8;refine h9 (Aqy.2 (.inl (ArL.2 ⟨m+p,h6,?_⟩)));rw[hs1];exact AsO.2 ⟨n-e.b0,(by rw[hs5];omega),(by rw[hs4];omega)⟩
   ·obtain⟨_,b3,h8⟩:=hod.ef _ _ hn
    ·obtain⟨h9,_⟩:=Jf h8;have:=A4 h9;rw[← hod.b0] at this;omega
   ·obtain⟨_,b3,h8⟩:=ha.st.od.ef _ _ hn'
    ·obtain⟨_,h9⟩:=Jf h8;refine h9 (Aqy.2 (.inr (Ar3.2 ⟨m+p,h6,?_⟩)));rw[hs1];exact hs6 _ _ hn
  ·have h1:e.r0≤n∧n<e.r0+e.nr.length:=hn;have h2:e'.r0≤n∧n<e'.r0+e'.nr.length:=hn';omega
  ·have h1:e.r0≤n∧n<e.r0+e.nr.length:=hn;obtain⟨sp,hs1,hs2,hs3,_⟩:=ha.sp p e hpq he;have hne:(∃ r0,at? (B8 (Dr.of ops.toList) (AP o') (Cf (Dr.of ops.toList) (m+q)) s1 f1).rw i0=some r0)→n≠i0:=by
    rintro⟨r0,hr0⟩ e0
    subst e0;refine (Dx hr0).2.1 (ArL.2 ⟨m+p,h6,?_⟩);rw[hs1];exact AsO.2 ⟨n-e.r0,(by rw[hs3];omega),(by rw[hs2];omega)⟩
   rcases hi0 with ⟨is0,hi0,hm0⟩ | ⟨e0,s0,xs,hi0⟩
   ·obtain⟨hl0,r0,hr0⟩:=ha.st.od.gn is0 hi0 i0 hm0;refine⟨hne ⟨r0,hr0⟩,fun pp pa hm=>?_⟩;obtain⟨r',hr'⟩:=hod.par r (AqH hr) pp pa hm;rcases hl0 with hl0 | hl0
    ·have hlo:=Aqn.1 hl0 _ h6;rw[hs1] at hlo;have hlo:=CB hlo;rw[hs2] at hlo;have h7:=A4 (Dx hr').1;rw[← hod.r0] at h7;omega
    ·have h8:=Jg hr';have:=Aqn.1 hl0 _ h6;rw[ho2] at this;have this:AP o=true:=this;rw[this] at h8;cases h8
   ·refine⟨hne (ha.st.od.st i0 e0 s0 xs hi0).2,fun pp pa hm=>?_⟩;obtain⟨r',hr'⟩:=hod.par r (AqH hr) pp pa hm;have h8:=Jg hr';rw[set1' i0 e0 s0 xs hi0] at h8;cases h8
  ·have h2:e'.r0≤n∧n<e'.r0+e'.nr.length:=hn;rcases hi0 with ⟨is0,hi0,hm0⟩ | ⟨e0,s0,xs,hi0⟩
   ·obtain⟨_,r0,hr0⟩:=hod.gn is0 hi0 i0 hm0;have h7:=A4 (Dx hr0).1;rw[← hod.r0] at h7;refine⟨by omega,fun pp pa hm e0=>?_⟩
    subst e0;obtain⟨r',hr'⟩:=ha.st.od.par r (AqH hr) pp pa hm;have h8:f1.f.rw pp=some r':=(Dx hr').1;rw[ha.f,Pe es (p:=p) (e:=e) he (by simp;omega) hi0 hm0 fun q' e2 hq' he2 hw2=>?_] at h8
    ·cases h8
    ·have h9:e2.r0≤pp∧pp<e2.r0+e2.nr.length:=hw2;rcases Arf p q' with h10 | h10
     ·have:=(GM hch h10 he he2).1;omega
     ·have:q'=p:=by omega
      subst this;rw[he] at he2;cases he2;omega
   ·obtain⟨_,r0,hr0⟩:=hod.st i0 e0 s0 xs hi0;have h7:=A4 (Dx hr0).1;rw[← hod.r0] at h7;refine⟨by omega,fun pp pa hm=>?_⟩
    obtain⟨r',hr'⟩:=ha.st.od.par r (AqH hr) pp pa hm;have h8:=Jg hr';rw[set2' i0 e0 s0 xs hi0] at h8;cases h8
  ·by_cases hse:Pd e.ef
   ·by_cases hse':Pd e'.ef
    ·exact Afv hse hse' n x
    ·have hp:e.ef=.pure:=by
      obtain⟨i0,e0,s0,xs,h⟩:∃ i0 e0 s0 xs,e'.ef=.set i0 e0 s0 xs:=by
       cases h:e'.ef with
       | set i0 e0 s0 xs=>exact⟨i0,e0,s0,xs,rfl⟩
       | _=>exact absurd (fun _ _ _ _ h'=>by rw[h] at h';cases h') hse'
      exact hod.rwl (set1' i0 e0 s0 xs h)
     rw[hp];rfl
   ·have hp:e'.ef=.pure:=by
     obtain⟨i0,e0,s0,xs,h⟩:∃ i0 e0 s0 xs,e.ef=.set i0 e0 s0 xs:=by
      cases h:e.ef with
      | set i0 e0 s0 xs=>exact⟨i0,e0,s0,xs,rfl⟩
      | _=>exact absurd (fun _ _ _ _ h'=>by rw[h] at h';cases h') hse
     exact ha.st.od.rwl (set2' i0 e0 s0 xs h)
    rw[hp];rfl
 refine⟨hs.feq (Ua es (i:=p) (L:=L) (L':=fun q=>L q||Nat.beq q p) (p:=0) he (by rw[AqQ];exact hL) (by rw[AqQ];simp[Bs]) (fun j hj=>by rw[AqQ] at hj;rw[C8 hj,ArF]) hindep).symm (Ro es hu),fun n h1 h2=>?_,fun n h1 h2=>?_⟩
 ·have h3:=h2 p e he (by simp[Bs])
  rw[hf.β n h3];exact hI.β n h1 fun q e' hq hl=>h2 q e' hq (by simp[hl])
 ·have h3:=h2 p e he (by simp[Bs])
  rw[hf.ρ n h3];exact hI.ρ n h1 fun q e' hq hl=>h2 q e' hq (by simp[hl])
theorem Afy (hed:DM ops.toList 0=true) {m:Nat} {st:List HR} {fr fr':Fr} {es:List Ent} (hch:Jh C ops m st fr es fr') (hst:st.length=m) (hu:Up fr.sl) (hnw:Dc fr ((Dr.of ops.toList).ds.drop m)=true) (hlen:m+es.length≤ops.size)
  (hcut:m+es.length<ops.size→Cf (Dr.of ops.toList) (m+es.length)=[]) {N:Nat} {Q:Exit→Act→World→Prop}
  (hK:∀ g a w listed fuel,Sim C fr'.f g a w→Fit fr' g→LI ops (m+es.length) 0 (fun _=>false) listed→DC ops listed→N≤fuel→wpAny C.P .any ops Q fuel listed a w) :
  ∀ (n:Nat) {L:Nat→Bool} {listed:Array Bool} {g:Sg} {a:Act} {w:World} {fuel:Nat},cnt L es.length=n→n+N≤fuel→LI ops m es.length L listed→DC ops listed→Inv C m fr es L g a w→wpAny C.P .any ops Q fuel listed a w
 | 0,L,listed,g,a,w,fuel,hn,hfu,hLI,hdc,hI=>by
  have hall:=Nb _ hn;obtain⟨h1,h2,h3,_⟩:=JW hch 0;refine hK g a w listed fuel ?_ ?_ ⟨hLI.size,fun j hj=>?_⟩ hdc (by omega)
  ·refine hI.sim.feq ?_ (by rw[h1];exact Ro es hu)
   rw[h1];have hsame:∀ q e,es[q]? = some e→L (0+q)=(fun q=>decide (q<0+es.length)) (0+q):=fun q e hq=>by
    have hql:=(Aqz.1 hq).1;rw[AqQ,hall q hql];simp[hql]
   have:FEq (Bl es L 0 fr.f) (Bl es (fun q=>decide (q<0+es.length)) 0 fr.f) :=
    ⟨by rw[Jd,Jd],fun n=>Rp es rfl fun q e hq hd=>absurd (hsame q e hq) hd,fun n=>ZM es rfl hsame,fun t=>Rq es rfl fun q e hq hd=>absurd (hsame q e hq) hd⟩
   exact this
  ·refine⟨fun n hnn=>hI.β n (by omega) fun q e hq _ hin=>?_,fun n hnn=>hI.ρ n (by omega) fun q e hq _ hin=>?_⟩
   ·obtain⟨_,_,_,_,ha,_⟩:=GL hch 0 q e hq;have:=ha.bhi;omega
   ·obtain⟨_,_,_,_,ha,_⟩:=GL hch 0 q e hq;have:=ha.rhi;omega
  ·rw[hLI.get j hj];by_cases h4:j<m
   ·simp[h4];omega
   ·by_cases h5:j<m+es.length
    ·have:=hall (j-m) (by omega)
     simp[h4,h5,this]
    ·simp[h4,h5]
 | n+1,L,listed,g,a,w,fuel,hn,hfu,hLI,hdc,hI=>by
  obtain⟨fuel,rfl⟩:∃ k,fuel=k+1:=⟨fuel-1,by omega⟩
  obtain⟨q0,hq0,hq1,hq2⟩:=ZO _ (show 0<cnt L es.length by omega)
  have hsz:=hLI.size
  -- what may come up
  have hrd:∀ j,j∈Region.ready .any ops listed→∃ p e o,j=m+p∧es[p]? = some e∧ops[j]? = some o∧L p=false∧(∀ i∈(Dr.of ops.toList).bs.getD j [],listed.getD i false=true)∧∀ e∈o.after,Region.binds .any e=true→listed.getD e.on false=true:=by
   intro j hj;obtain⟨h1,o,h2,h3⟩:=mem_ready.1 hj;have hjs:j<ops.size:=(AqP.1 h2).1;have hbs:=Hk hed hdc j h2 h3;rw[Ji (by omega),hLI.get j hjs] at h1
   simp only[Asf,decide_eq_false_iff_not,Bool.and_eq_false_iff] at h1;obtain⟨h4,h5⟩:=h1;have hjl:j<m+es.length:=by
    apply Decidable.byContradiction
    intro hge
    -- the one that is comparable with all
    have hcs:m+es.length<ops.size:=by omega
    have hc:=hcut hcs;have hq0':m+q0≠m+es.length:=by omega
    have hun:listed.getD (m+q0) false=false:=by
     rw[hLI.get _ (by omega)]
     have:m+q0-m=q0:=by omega
     simp[this,hq1]
    have comp:∀ x,x<ops.size→x≠m+es.length→(m+es.length∈(Dr.of ops.toList).bs.getD x []∨x∈(Dr.of ops.toList).bs.getD (m+es.length) []):=by
     intro x hx hne;have:x ∉ Cf (Dr.of ops.toList) (m+es.length):=by rw[hc];simp
     rw[Cz] at this
     apply Decidable.byContradiction
     intro hno;exact this ⟨hx,fun e=>hne e.symm,fun h=>hno (.inl h),fun h=>hno (.inr h)⟩
    have c1:m+q0∈(Dr.of ops.toList).bs.getD (m+es.length) []:=by
     rcases comp (m+q0) (by omega) hq0' with h | h
     ·have:=Ud hed _ h;omega
     ·exact h
    by_cases hje:j=m+es.length
    ·subst hje;have:=hbs _ c1;rw[hun] at this;cases this
    ·have c2:m+es.length∈(Dr.of ops.toList).bs.getD j []:=by
      rcases comp j hjs hje with h | h
      ·exact h
      ·have:=Ud hed _ h;omega
     have h6:=hbs _ c2;obtain⟨oc,hoc,_⟩:=M9 c1;have h7:=Hk hed hdc _ hoc (hdc _ oc hoc h6) _ c1;rw[hun] at h7;cases h7
   have hpl:j-m<es.length:=by omega
   refine⟨j-m,es[j-m],o,by omega,Aqo hpl,h2,?_,hbs,h3⟩
   rcases h5 with h5 | h5
   ·exact absurd hjl h5
   ·exact h5
  refine⟨fun h0=>?_,fun j hj=>?_⟩
  ·-- the first that has not come up may come up
   exfalso;have hqo:m+q0<ops.size:=by omega
   have:m+q0∈Region.ready .any ops listed:=by
    refine mem_ready.2 ⟨?_,_,Arp hqo,fun e he hb=>?_⟩
    ·rw[Ji (by omega),hLI.get _ hqo]
     have:m+q0-m=q0:=by omega
     simp[this,hq1]
    ·have h1:=GK ops.toList hed (j:=m+q0) (by simp[hqo]) e he hb
     rw[hLI.get _ (by omega)]
     by_cases h2:e.on<m
     ·simp[h2]
     ·have:=hq2 (e.on-m) (by omega)
      simp[this]<;>omega
   rw[h0] at this;cases this
  ·obtain⟨p,e,o,rfl,he,ho,hLp,hbs,hrd3⟩:=hrd j hj;have hpl:p<es.length:=(Aqz.1 he).1;have hps:m+p<ops.size:=by omega
   have hlow:∀ q,q<p→L q=false→m+q∈Cf (Dr.of ops.toList) (m+p):=fun q hq hlq=>by
    refine Cz.2 ⟨by omega,by omega,fun h=>?_,fun h=>?_⟩
    ·have:=Ud hed _ h;omega
    ·have:=hbs _ h;rw[hLI.get _ (by omega)] at this
     have e1:m+q-m=q:=by omega
     simp[e1,hlq] at this<;>omega
   have hhigh:∀ q,p<q→q<es.length→L q=true→m+q∈Cf (Dr.of ops.toList) (m+p)∧m+p∈Cf (Dr.of ops.toList) (m+q):=fun q hq hql hlq=>by
    have n1:m+p ∉ (Dr.of ops.toList).bs.getD (m+q) []:=fun h=>by
     obtain⟨oq,hoq,_⟩:=M9 h;have h7:listed.getD (m+q) false=true:=by
      rw[hLI.get _ (by omega)]
      have e1:m+q-m=q:=by omega
      simp[e1,hlq]<;>omega
     have:=Hk hed hdc _ hoq (hdc _ oq hoq h7) _ h;rw[hLI.get _ hps] at this;have e1:m+p-m=p:=by omega
     simp[e1,hLp] at this<;>omega
    have n2:m+q ∉ (Dr.of ops.toList).bs.getD (m+p) []:=fun h=>by
     have:=Ud hed _ h;omega
    exact⟨Cz.2 ⟨by omega,by omega,n1,n2⟩,Cz.2 ⟨hps,by omega,n2,n1⟩⟩
   have hdc':DC ops (listed.setIfInBounds (m+p) true):=fun i oi hoi hli x hx hb=>by
    by_cases hi:i=m+p
    ·subst hi;rw[ho] at hoi;cases hoi;exact getD_set_true (hrd3 x hx hb)
    ·rw[getD_set_ne false (fun e=>hi e.symm)] at hli;exact getD_set_true (hdc i oi hoi hli x hx hb)
   have hc1:cnt (fun q=>L q||Nat.beq q p) es.length=n:=by
    have:=ZN (L:=L) (L':=fun q=>L q||Nat.beq q p) hLp (by simp[Bs]) (fun j hj=>by simp[C8 hj]) es.length hpl
    omega
   have:=Afx hch hst hu hnw he hLp hlow hhigh hI ho (K:=wpAny C.P .any ops Q fuel (listed.setIfInBounds (m+p) true)) (Q:=Q) fun g' a' w' hI'=>Afy hed hch hst hu hnw hlen hcut hK n hc1 (by omega) (hLI.set hpl hps) hdc' hI'
   unfold wpOp;rw[ho];simp only;split
   ·rename_i hw;rw[if_pos hw] at this;exact .inl this
   ·rename_i hw;rw[if_neg hw] at this;exact this
theorem Afz {R:Type} (hE:AG C.P E) (hC:A9 C) (hed:DM ops.toList 0=true) {k:Fr→Option R} {r:R} {Q:Exit→Act→World→Prop} (hQ:∀ fr' g' a' w',k fr'=some r→Sim C fr'.f g' a' w'→Fit fr' g'→Q .normal a' w') :
  ∀ (n i:Nat) {st:List HR} {fr:Fr} {g:Sg} {a:Act} {w:World} {listed:Array Bool} {fuel:Nat},ops.size-i=n→i≤ops.size→st.length=i→Dc fr ((Dr.of ops.toList).ds.drop i)=true→Ic E (Dr.of ops.toList) (ops.toList.drop i) i st fr k=some r →
   Sim C fr.f g a w→Fit fr g→LI ops i 0 (fun _=>false) listed→DC ops listed→n≤fuel→wpAny C.P .any ops Q fuel listed a w:=by
 intro n
 induction n using Nat.strongRecOn with
 | _ n ih =>
  intro i st fr g a w listed fuel hn hi hst hnw h hs hf hLI hdc hfu;obtain⟨es,fr',st',c1,c2,c3,c4,c5,c6,c7⟩:=Ku hE hC (ops.toList.drop i) rfl hst hs.up hnw h;have hel:i+es.length≤ops.size:=by simp at c5;omega
  obtain⟨b1,b2,b3,_⟩:=JW c1 0
  -- behind the run
  have cont:∀ g a w listed fuel,Sim C fr'.f g a w→Fit fr' g→LI ops (i+es.length) 0 (fun _=>false) listed→DC ops listed→ops.size-(i+es.length)≤fuel→wpAny C.P .any ops Q fuel listed a w:=by
   intro g a w listed fuel hs hf hLI hdc hfu;cases hd:ops.toList.drop (i+es.length) with
   | nil =>
    rw[hd] at c6;simp only[Ic] at c6;have hge:ops.size≤i+es.length:=by
     have:=congrArg List.length hd;simp at this;omega
    obtain⟨s1,s2⟩:=ZV (E:=E) hs hf;refine wpAny_done ?_ (hQ _ _ _ _ c6 s1 s2) fuel;cases hr:Region.ready .any ops listed with
    | nil=>rfl
    | cons j l =>
     exfalso;have hj:j∈Region.ready .any ops listed:=by rw[hr];simp
     obtain⟨h1,o,h2,_⟩:=mem_ready.1 hj;have hjs:j<ops.size:=(AqP.1 h2).1;rw[Ji (by rw[hLI.size];exact hjs),hLI.get j hjs] at h1
     simp at h1;omega
   | cons o r2 =>
    rw[hd] at c6;have hcut:=c7 o r2 hd;have hm:i+es.length<ops.size:=by
     have:=congrArg List.length hd;simp at this;omega
    have ho:ops[i+es.length]? = some o:=by
     have:(ops.toList.drop (i+es.length))[0]? = some o:=by rw[hd];rfl
     rw[Aq5] at this;simpa using this
    have hd':ops.toList.drop (i+es.length+1)=r2:=by
     have:(ops.toList.drop (i+es.length)).drop 1=r2:=by rw[hd];rfl
     rwa [ArH] at this
    obtain⟨fuel,rfl⟩:∃ k,fuel=k+1:=⟨fuel-1,by omega⟩
    have comp:∀ x,x<ops.size→x≠i+es.length→(i+es.length∈(Dr.of ops.toList).bs.getD x []∨x∈(Dr.of ops.toList).bs.getD (i+es.length) []):=by
     intro x hx hne;have:x ∉ Cf (Dr.of ops.toList) (i+es.length):=by rw[hcut];simp
     rw[Cz] at this
     apply Decidable.byContradiction
     intro hno;exact this ⟨hx,fun e=>hne e.symm,fun h=>hno (.inl h),fun h=>hno (.inr h)⟩
    have hrdy:i+es.length∈Region.ready .any ops listed:=by
     refine mem_ready.2 ⟨?_,o,ho,fun e he hb=>?_⟩
     ·rw[Ji (by rw[hLI.size];exact hm),hLI.get _ hm]
      simp
     ·have h1:=GK ops.toList hed (j:=i+es.length) (by simpa using ho) e he hb
      rw[hLI.get _ (by omega)]
      simp;omega
    refine⟨fun h0=>(by rw[h0] at hrdy;cases hrdy),fun j hj=>?_⟩
    obtain⟨h1,oj,h2,h3⟩:=mem_ready.1 hj;have hjs:j<ops.size:=(AqP.1 h2).1;rw[Ji (by rw[hLI.size];exact hjs),hLI.get j hjs] at h1
    have hji:i+es.length≤j:=by simp at h1;omega
    have hje:j=i+es.length:=by
     apply Decidable.byContradiction
     intro hne;rcases comp j hjs hne with h4 | h4
     ·have:=Hk hed hdc j h2 h3 _ h4;rw[hLI.get _ hm] at this;simp at this
     ·have:=Ud hed _ h4;omega
    subst hje;rw[ho] at h2;cases h2;simp only[Ic] at c6;split at c6
    ·have:=Af3 (Q:=Q) hE hC (fr:=fr') hs hf (show opK E ops.toList o fr' _=some r from c6) (K:=wpAny C.P .any ops Q fuel (listed.setIfInBounds (i+es.length) true)) fun fr2 g2 a2 w2 s1 s2 h'=>by
      cases hw0:(Nat.ble fr'.bx.length fr2.bx.length&&Dc fr2 ((Dr.of ops.toList).ds.drop (i+es.length+1)))
      ·rw[hw0] at h';cases h'
      ·rw[hw0,cond_true,← hd'] at h';simp only[Aql] at hw0;obtain⟨_,hw1⟩:=hw0;refine ih (ops.size-(i+es.length+1)) (by omega) (i+es.length+1) rfl (by omega) (by simp[c2]) hw1 h' s1 s2 ⟨by rw[As9];exact hLI.size,fun j hj=>?_⟩ ?_ (by omega)
       ·by_cases hj2:j=i+es.length
        ·subst hj2;simp only[AqL];rw[Asb (by rw[hLI.size];exact hm)]
         simp
        ·rw[getD_set_ne false (fun e=>hj2 e.symm),hLI.get j hj];simp;omega
       ·intro x ox hox hlx y hy hb;by_cases hx:x=i+es.length
        ·subst hx;rw[ho] at hox;cases hox;exact getD_set_true (h3 y hy hb)
        ·rw[getD_set_ne false (fun e=>hx e.symm)] at hlx;exact getD_set_true (hdc x ox hox hlx y hy hb)
     unfold wpOp;rw[ho];simp only;split
     ·rename_i hw;rw[if_pos hw] at this;exact .inl this
     ·rename_i hw;rw[if_neg hw] at this;exact this
    ·rename_i hne;exact absurd hcut hne
  refine Afy hed c1 hst hs.up hnw hel (fun h=>?_) cont (cnt (fun _=>false) es.length) (L:=fun _=>false) rfl ?_ ⟨hLI.size,fun j hj=>by rw[hLI.get j hj];simp⟩ hdc ⟨by rw[JV es fun _ _=>rfl];exact hs,fun n hn _=>hf.β n hn,fun n hn _=>hf.ρ n hn⟩
  ·have hlt:i+es.length<ops.toList.length:=by simpa using h
   exact c7 _ _ (ArN hlt)
  ·have:∀ k,cnt (fun _=>false) k=k:=by
    intro k
    induction k with
    | zero=>rfl
    | succ k ih=>simp[cnt,ih]
   rw[this];omega
theorem Wc {R:Type} (hE:AG C.P E) (hC:A9 C) (hm:C.P.follows .mixedOrders=true) {id:Nat} {k:Fr→Option R} {r:R} {Q:Exit→Act→World→Prop} (hQ:∀ fr' g' a' w',k fr'=some r→Sim C fr'.f g' a' w'→Fit fr' g'→Q .normal a' w')
  (h:KN E ops.toList fr k=some r) (hs:Sim C fr.f g a w) (hf:Fit fr g):(Code.region id ops true).wp C.P Q a w:=by
 unfold KN at h;cases hc:(DM ops.toList 0&&Dc fr (Dr.of ops.toList).ds)
 ·simp only[hc] at h;cases h
 ·simp only[hc,cond_true] at h;simp only[Aql] at hc;refine wp_region_any hm ?_;refine Afz hE hC hc.1 hQ ops.size 0 (by simp) (Ari _) rfl hc.2 (by simpa using h) (hs.quiet hC (w':={ w with drawn:=w.drawn+1 }) ⟨AfT w,rfl,rfl,rfl,Aqr _,fun _ _ _=>rfl⟩) hf ⟨by simp,fun j hj=>by simp[AqL,hj]⟩ (fun j o ho hl=>by
   have hj:j<ops.size:=(AqP.1 ho).1;simp[AqL,hj] at hl) (Aqr _)
end Go.Proofs.YteheolldcpjkcaaGreat.X
