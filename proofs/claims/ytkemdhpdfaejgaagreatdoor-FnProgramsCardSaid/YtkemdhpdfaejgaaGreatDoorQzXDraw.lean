/- Regions that draw their order. -/
import Derived.Test.YtkemdhpdfaejgaaGreatDoorQzXRun
import Derived.Orders
set_option linter.unusedSimpArgs false
set_option linter.unusedVariables false
set_option linter.unusedSectionVars false
namespace Go.Proofs.YtkemdhpdfaejgaaGreatDoor.X
open Go Go.RowKit
variable [CW]
variable {C:Cx} {fr s:Fr} {big:FF} {g:Sg} {a:Act} {w w':World} {ch:List (Nat×Bool)} {E:Env}
structure Ent where
 d:Option Nat
 v:Option AV
 nr:List Ad
 nb:List BD
 ef:Eff
 r0:Nat
 b0:Nat
def slE (sl:List (Nat×AV)):Option Nat→Option AV→List (Nat×AV)
 | some t,some v=>ins sl t v
 | _,_=>sl
def gnE:Eff→Nat→Option Ad→Option Ad
 | .gone is,n,x=>HV is n x
 | .set i e s xs,n,x=>PJ i e s xs n x
 | _,_,x=>x
def Azs (ef:Eff) (n:Nat) (r:Ad):Prop:=∀ is,ef=.gone is→∀ i∈is,Off i n r
def R2 (ef:Eff):Prop:=∀ i e s xs,ef≠.set i e s xs
theorem F4 {ef:Eff} (hns:R2 ef) {n:Nat} {x:Option Ad} {r:Ad}:gnE ef n x=some r↔x=some r∧Azs ef n r:=by
 cases ef with
 | gone is=>exact Bp.trans ⟨fun h=>⟨h.1,fun _ e=>by cases e;exact h.2⟩,fun h=>⟨h.1,h.2 is rfl⟩⟩
 | set i e s xs=>exact absurd rfl (hns i e s xs)
 | _=>exact⟨fun h=>⟨h,fun _ e=>by cases e⟩,fun h=>h.1⟩
theorem Amx (ef:Eff) (n:Nat):gnE ef n none=none:=by
 have hd:∀ i,HU i n none=none:=fun i=>by unfold HU;split<;>rfl
 cases ef with
 | gone is =>
  cases h:HV is n none with
  | none=>exact h
  | some r=>exact absurd (Bp.1 h).1 (by simp)
 | set i e s xs=>unfold gnE PJ;simp only;split;rfl;exact hd i
 | _=>rfl
theorem AeL {ef:Eff} {n:Nat} {r:Ad} (h:∀ i,((∃ is,ef=.gone is∧i∈is)∨∃ e s xs,ef=.set i e s xs)→Off i n r):gnE ef n (some r)=some r:=by
 cases ef with
 | gone is=>exact Bp.2 ⟨rfl,fun i hi=>h i (.inl ⟨is,rfl,hi⟩)⟩
 | set i e s xs =>
  have ho:=h i (.inr ⟨e,s,xs,rfl⟩);unfold gnE PJ;simp only;rw[if_neg ho.1];exact BA.2 ⟨rfl,ho⟩
 | _=>rfl
theorem Amy {ef:Eff} {n:Nat} {x x':Option Ad} {m:Md} (h:∀ r,r.m=m→x'=some r→x=some r):∀ r,r.m=m→gnE ef n x'=some r→gnE ef n x=some r:=by
 intro r hr hx;cases ef with
 | gone is =>
  obtain⟨h1,h2⟩:=Bp.1 hx;exact Bp.2 ⟨h r hr h1,h2⟩
 | set i e s xs =>
  unfold gnE PJ at hx ⊢;simp only at hx ⊢;split at hx
  ·rename_i hn;rw[if_pos hn];obtain⟨r0,h0,rfl⟩:=ABl.1 hx;rw[h r0 hr h0];rfl
  ·rename_i hn;rw[if_neg hn];obtain⟨h1,h2⟩:=BA.1 hx;exact BA.2 ⟨h r hr h1,h2⟩
 | _=>exact h r hr hx
theorem Amz {ef ef':Eff} (h1:R2 ef) (h2:R2 ef') (n:Nat) (x:Option Ad):gnE ef n (gnE ef' n x)=gnE ef' n (gnE ef n x) :=
 Option.ext fun r=>by
  rw[F4 h1,F4 h2,F4 h2,F4 h1];exact⟨fun⟨⟨h1,h2⟩,h3⟩=>⟨⟨h1,h3⟩,h2⟩,fun⟨⟨h1,h2⟩,h3⟩=>⟨⟨h1,h3⟩,h2⟩⟩
def B3 (e:Ent) (f:FF):FF:={ nt:=f.nt,sl:=slE f.sl e.d e.v,bx:=more e.b0 e.nb (BV f.bx e.ef),rw:=more e.r0 e.nr fun n=>gnE e.ef n (f.rw n) }
structure AtX (e:Ent) (g:Sg):Prop where
 β:∀ j,e.b0≤j→j<e.b0+e.nb.length→g.β j=none
 ρ:∀ j,e.r0≤j→j<e.r0+e.nr.length→g.ρ j=none
structure AwN (e:Ent) (g g':Sg):Prop where
 le:g.Le g'
 β:∀ j,¬ (e.b0≤j∧j<e.b0+e.nb.length)→g'.β j=g.β j
 ρ:∀ j,¬ (e.r0≤j∧j<e.r0+e.nr.length)→g'.ρ j=g.ρ j
def Mm (f:FF) (d:Option Nat):Prop:=∀ t v,lkp f.sl t=some v→Hh v d=false
def AtY (C:Cx) (ops:Array Oper) (o:Oper) (s:Fr) (e:Ent):Prop :=
 ∀ {big:FF} {g:Sg} {a:Act} {w:World},Sim C big g a w→Sub s big→AtX e g→Mm big o.dst→∀ {K:Act→World→Prop} {Q:Exit→Act→World→Prop},
  (∀ g' a' w',AwN e g g'→Sim C (B3 e big) g' a' w'→K a' w')→if Region.wanted o (yielded ops a.tmps) then o.wp C.P a w K Q else K (a.put o.dst undef) w
theorem PC {α:Type} {p:α→Bool}:∀ {l:List α},(∀ x∈l,p x=true)→l.filter p=l
 | [],_=>rfl
 | x :: l,h=>by rw[List.filter_cons,if_pos (h x (by simp)),PC fun y hy=>h y (by simp[hy])]
theorem KH {f:FF} (hu:Up f.sl) {t:Nat} (h:Mm f (some t)):(f.sl.filter fun p=>!p.2.waits t)=f.sl :=
 PC fun p hp=>by
  have:=h p.1 p.2 (hu.of_mem hp);simp only[Hh] at this;rw[this];rfl
theorem AaH {f:FF} (hu:Up f.sl) {d:Option Nat} {v:Option AV} (hq:Mm f d) (hd:∀ t,d=some t→Nat.blt t f.nt=true∧∃ x,v=some x∧x.waits t=false):Qb f.nt f.sl d v=some (slE f.sl d v):=by
 cases d with
 | none=>rfl
 | some t =>
  obtain⟨h1,x,rfl,h2⟩:=hd t rfl;simp only[Qb,h1,cond_true,h2,cond_false,KH hu hq,slE]
theorem Sim.putE (h:Sim C big g a w) {d:Option Nat} {v:Option AV} {u:Value} (hq:Mm big d) (hd:∀ t,d=some t→Nat.blt t big.nt=true∧∃ x,v=some x∧x.waits t=false) (hv:∀ av,v=some av→AVR C g a av u):Sim C { big with sl:=slE big.sl d v } g (a.put d u) w :=
 h.put (AaH h.up hq hd) hv
theorem AgF {fr fr':Fr} {d:Option Nat} {v:Option AV} (h:Fy fr d v=some fr') (hf:d=none∨∃ x,v=some x):(∀ t,d=some t→Nat.blt t fr.nt=true∧∃ x,v=some x∧x.waits t=false)∧(Up fr.sl→Mm fr.f d→fr'={ fr with sl:=slE fr.sl d v }):=by
 obtain⟨sl,hsl,rfl⟩:=Sq h;cases d with
 | none =>
  simp only[Qb] at hsl;cases hsl;exact⟨fun t e=>(by cases e),fun _ _=>rfl⟩
 | some t =>
  rcases hf with hf | ⟨x,rfl⟩
  ·cases hf
  ·simp only[Qb] at hsl;cases hb:Nat.blt t fr.nt
   ·rw[hb] at hsl;cases hsl
   ·rw[hb,cond_true] at hsl;cases hw:x.waits t
    ·rw[hw,cond_false] at hsl;cases hsl;refine⟨fun t' e=>by cases e;exact⟨hb,x,rfl,hw⟩,fun hu hq=>?_⟩
     have:=KH (f:=fr.f) hu hq;show ({ fr with sl:=ins (fr.sl.filter fun p=>!p.2.waits t) t x }:Fr)=_
     rw[show (fr.sl.filter fun p=>!p.2.waits t)=fr.sl from this]
     rfl
    ·rw[hw] at hsl;cases hsl
structure OpD (C:Cx) (ops:Array Oper) (o:Oper) (tg:Option Nat) (lo:Nat→Bool) (al:Bool) (ws:List (Option Nat)) (s fr fr':Fr) (e:Ent):Prop where
 ent:AtY C ops o s e
 d:e.d=o.dst
 dv:∀ t,e.d=some t→∃ v,e.v=some v
 r0:e.r0=fr.rw.length
 b0:e.b0=fr.bx.length
 f:fr'.f=B3 e fr.f
 rl:fr'.rw.length=fr.rw.length+e.nr.length
 bl:fr'.bx.length=fr.bx.length+e.nb.length
 ef:∀ k b,e.ef=.box k b→tg=some k∧∃ b',at? s.bx k=some b'
 gn:∀ is,e.ef=.gone is→∀ i∈is,(lo i=true∨al=true)∧∃ r,at? s.rw i=some r
 st:∀ i e0 s0 xs,e.ef=.set i e0 s0 xs→al=true∧∃ r,at? s.rw i=some r
 rwl:AW o=true→e.ef=.pure
 par:∀ r∈e.nr,∀ p pa,r.m=.bor p pa→∃ r',at? s.rw p=some r'
 ws:∀ v,e.v=some v→∀ x∈ws,Hh v x=false
theorem Iw {req:Bool} {ws:List (Option Nat)} {d:Option Nat} {v:Option AV} (h:JB req ws d v=true):req=true∧(d=none∨∃ x,v=some x)∧∀ x,v=some x→∀ y∈ws,Hh x y=false:=by
 simp only[JB,AA1] at h;refine⟨h.2,?_,?_⟩
 ·cases v with
  | some x=>exact .inr ⟨x,rfl⟩
  | none=>cases d with
   | none=>exact .inl rfl
   | some t=>simp at h
 ·rintro x rfl y hy
  have:=AA3.1 h.1 y hy;simpa using this
theorem Ew {e0 r0:Nat} (hb:s.bx.length=e0) (hr:s.rw.length=r0) {nr:List Ad} {nb:List BD} {ef:Eff} (ht:∀ rw,ef≠.tab rw) (d:Option Nat) (v:Option AV):({ grow s big nr nb ef with sl:=slE big.sl d v }:FF)=B3 ⟨d,v,nr,nb,ef,r0,e0⟩ big:=by
 subst hb;subst hr;cases ef with
 | tab rw=>exact absurd rfl (ht rw)
 | _=>rfl
theorem F5 {nr:List Ad} (h:nr.all (Cc s)=true):∀ r∈nr,∀ p pa,r.m=.bor p pa→∃ r',at? s.rw p=some r':=by
 intro r hr p pa hm;have:=AA3.1 h r hr;unfold Cc at this;rw[hm] at this;simp only at this;split at this
 ·rename_i r' h';exact⟨r',h'⟩
 ·cases this
theorem XY {nr:List Ad} {b:Bool} (h:nr.all (Cc s)=true):∀ r∈nr.map (AR b),∀ p pa,r.m=.bor p pa→∃ r',at? s.rw p=some r':=by
 intro r hr p pa hm;obtain⟨r0,hr0,rfl⟩:=ABe.1 hr;cases hm0:r0.m with
 | bor p0 pa0 =>
  simp only[AR,hm0] at hm;cases hm;exact F5 h r0 hr0 _ _ hm0
 | own | io | ro=>simp only[AR,hm0] at hm;cases hm
theorem AwO {R:Type} (hE:AF C.P E) (hC:Bf C) {ops:Array Oper} {o:Oper} {tg:Option Nat} {lo:Nat→Bool} {al:Bool} {ws:List (Option Nat)} {k:Fr→Option R} {r:R} (hbl:s.bx.length=fr.bx.length) (hrl:s.rw.length=fr.rw.length) (hnt:s.nt=fr.nt) (hup:Up fr.sl) (hqt:Mm fr.f o.dst)
  (h:opD E ops.toList o tg lo al ws s fr k=some r):∃ e fr',OpD C ops o tg lo al ws s fr fr' e∧Up fr'.sl∧fr'.nt=fr.nt∧k fr'=some r:=by
 -- the frame behind
 have mk:∀ {v:Option AV} {nr:List Ad} {nb:List BD} {ef:Eff} {fr':Fr},DW fr ef=true→(∀ rw,ef≠.tab rw)→(∀ k b,ef=.box k b→tg=some k∧∃ b',at? s.bx k=some b')→(∀ is,ef=.gone is→∀ i∈is,(lo i=true∨al=true)∧∃ r,at? s.rw i=some r)→(∀ i e0 s0 xs,ef=.set i e0 s0 xs→al=true∧∃ r,at? s.rw i=some r)→(AW o=true→ef=.pure)→(∀ r∈nr,∀ p pa,r.m=.bor p pa→∃ r',at? s.rw p=some r')→(o.dst=none∨∃ x,v=some x)→(∀ x,v=some x→∀ y∈ws,Hh x y=false)→Fy (upd fr nr nb ef) o.dst v=some fr' →
   ((∀ t,o.dst=some t→Nat.blt t fr.nt=true∧∃ x,v=some x∧x.waits t=false)→AtY C ops o s ⟨o.dst,v,nr,nb,ef,fr.rw.length,fr.bx.length⟩)→k fr'=some r→∃ e fr',OpD C ops o tg lo al ws s fr fr' e∧Up fr'.sl∧fr'.nt=fr.nt∧k fr'=some r:=by
  intro v nr nb ef fr' ht hnt' hef hgn hst hrwl hpr hdv hws hp hent hk;have e1:(upd fr nr nb ef).nt=fr.nt∧(upd fr nr nb ef).sl=fr.sl:=by cases ef<;>exact⟨rfl,rfl⟩
  obtain⟨h1,h2⟩:=AgF hp hdv;have h3:=h2 (by rw[e1.2];exact hup) (fun t v hv=>hqt t v (by change lkp (upd fr nr nb ef).sl t=some v at hv;rw[e1.2] at hv;exact hv))
  obtain⟨l1,l2⟩:=AeZ (nr:=nr) (nb:=nb) ht;refine⟨_,fr',⟨hent (fun t e=>by rw[← e1.1];exact h1 t e),rfl,fun t e=>?_,rfl,rfl,?_,?_,?_,hef,hgn,hst,hrwl,hpr,hws⟩,?_,?_,hk⟩
  ·rcases hdv with h | ⟨x,h⟩
   ·rw[h] at e;cases e
   ·exact⟨x,h⟩
  ·rw[h3,e1.2];have:=At4 (nr:=nr) (nb:=nb) ht;rw[← Ew (big:=fr.f) (s:=fr) rfl rfl hnt',← this];rfl
  ·rw[h3];exact l2
  ·rw[h3];exact l1
  ·rw[h3,e1.2];show Up (slE fr.sl o.dst v);unfold slE;split
   ·exact hup.ins _ _
   ·exact hup
  ·rw[h3];exact e1.1
 unfold opD at h;split at h
 ·rename_i hg;split at h
  ·cases h
  ·rename_i req v nr nb ef hst;cases hc:(GQ s fr.rw fr.bx.length lo al tg nb ef&&(!AW o||Hg ef)&&nr.all (Cc s)&&JB req ws o.dst v)
   ·rw[hc] at h;cases h
   ·rw[hc,cond_true] at h;simp only[AA1] at hc;obtain⟨⟨⟨he,hrwl⟩,hpa⟩,hfi⟩:=hc;obtain⟨hreq,hdv,hws⟩:=Iw hfi;split at h
    ·rename_i fr' hp;have hnt':∀ rw,ef≠.tab rw:=fun rw e=>by subst e;cases he
     refine mk (by cases ef<;>simp_all [GQ,DW]) hnt' (fun j b e=>by
       subst e;simp only[GQ,AA1] at he;refine⟨?_,?_⟩
       ·cases tg with
        | none=>simp at he
        | some k=>rw[AA2 he.1.2]
       ·cases hx:at? s.bx j with
        | none=>rw[hx] at he;simp at he
        | some b'=>exact⟨b',rfl⟩) (fun is e i hi=>by
       subst e;simp only[GQ,AA1] at he;have he2:=AA3.1 he.2 i hi;rw[AA1] at he2;refine⟨by simpa using he2.1,?_⟩
       cases hx:at? s.rw i with
       | none=>rw[hx] at he2;simp at he2
       | some b'=>exact⟨b',rfl⟩) (fun i e0 s0 xs e=>by
       subst e;simp only[GQ,AA1] at he;refine⟨he.1.1.2,?_⟩;cases hx:at? s.rw i with
       | none=>rw[hx] at he;simp at he
       | some b'=>exact⟨b',rfl⟩) (fun hr=>by
       rw[hr] at hrwl;cases ef<;>first | rfl | cases hrwl) (F5 hpa) hdv hws hp (fun hd=>?_) h
     intro big g a w hs hsub hfree hq K Q hK;have hw:Region.wanted o (yielded ops a.tmps)=true:=by simp[Region.wanted,hg]
     rw[if_pos hw];have hok:=Et hE hC hs hsub (ch:=[]) (fun p hp=>by cases hp) o (Q:=Q)
     rw[hst] at hok;refine hok hreq (fun e=>by cases ef<;>first | (cases e;done) | exact absurd rfl (hnt' _)) ⟨fun j h1 h2=>hfree.β j (by rw[← hbl];exact h1) (by rw[← hbl];exact h2),fun j h1 h2=>hfree.ρ j (by rw[← hrl];exact h1) (by rw[← hrl];exact h2)⟩ K fun u w' ⟨g',hf,hs',hv⟩=>?_
     refine hK g' _ w' ⟨hf.le,fun j hj=>hf.β j (by rw[hbl];exact hj),fun j hj=>hf.ρ j (by rw[hrl];exact hj)⟩ ?_
     rw[← Ew hbl hrl hnt'];exact hs'.putE (d:=o.dst) (v:=v) hq (fun t e=>by obtain⟨a1,a2⟩:=hd t e;exact⟨by rw[show (grow s big nr nb ef).nt=fr.nt from by rw[← hnt];exact hsub.nt.symm];exact a1,a2⟩) hv
    ·cases h
  ·rename_i m x vs rw quiet hst;cases hqu:quiet
   ·rw[hqu,cond_false] at h;cases hmv:(SN m.ps&&!AW o&&((Ez s.rw rw).all fun i=>lo i||al))
    ·simp only[hmv] at h;cases h
    ·simp only[hmv,cond_true] at h;simp only[AA1] at hmv;obtain⟨⟨hmo,hrl0⟩,hlo⟩:=hmv;cases hx:x with
     | none=>rw[hx] at h;cases h
     | some y =>
      rw[hx,ACb] at h;cases hfi:((Am s m vs rw true y).2.1.all (Cc s)&&JB true ws o.dst (some (Am s m vs rw true y).1))
      ·simp only[hfi] at h;cases h
      ·simp only[hfi,cond_true] at h;simp only[AA1] at hfi;obtain⟨hpa,hfi⟩:=hfi;obtain⟨_,hdv,hws⟩:=Iw hfi;split at h
       ·rename_i fr' hp;refine mk rfl (fun rw e=>by cases e) (fun _ _ e=>by cases e) (fun is e i hi=>by
          cases e;refine⟨by simpa using AA3.1 hlo i hi,(PV.1 hi).1⟩) (fun _ _ _ _ e=>by cases e) (fun hr=>by rw[hr] at hrl0;cases hrl0) (F5 hpa) hdv hws hp (fun hd=>?_) h
        intro big g a w hs hsub hfree hq K Q hK;have hw:Region.wanted o (yielded ops a.tmps)=true:=by simp[Region.wanted,hg]
        rw[if_pos hw];have hok:=Et hE hC hs hsub (ch:=[]) (fun p hp=>by cases hp) o (Q:=Q)
        rw[hst,hqu] at hok;refine hok.2 y hx hmo ⟨fun j h1 h2=>absurd h2 (by simp;omega),fun j h1 h2=>hfree.ρ j (by rw[← hrl];exact h1) (by rw[← hrl];exact h2)⟩ K fun u w' ⟨g',hf,hs',hv⟩=>?_
        refine hK g' _ w' ⟨hf.le,fun j hj=>hf.β j (by rw[hbl];exact hj),fun j hj=>hf.ρ j (by rw[hrl];exact hj)⟩ ?_
        rw[← Ew hbl hrl (fun rw e=>by cases e)]
        exact hs'.putE (d:=o.dst) (v:=some (Am s m vs rw true y).1) hq (fun t e=>by obtain⟨a1,a2⟩:=hd t e;exact⟨by rw[show (grow s big (Am s m vs rw true y).2.1 [] (.gone (Ez s.rw rw))).nt=fr.nt from by rw[← hnt];exact hsub.nt.symm];exact a1,a2⟩) hv
       ·cases h
   ·rw[hqu,cond_true] at h;cases hx:x with
    | none=>rw[hx] at h;cases h
    | some y =>
     rw[hx,ACb] at h;cases hfi:((Am s m vs rw true y).2.1.all (Cc s)&&JB true ws o.dst (some (Am s m vs rw true y).1))
     ·simp only[hfi] at h;cases h
     ·simp only[hfi,cond_true] at h;simp only[AA1] at hfi;obtain⟨hpa,hfi⟩:=hfi;obtain⟨_,hdv,hws⟩:=Iw hfi;split at h
      ·rename_i fr' hp;refine mk rfl (fun rw e=>by cases e) (fun _ _ e=>by cases e) (fun _ e=>by cases e) (fun _ _ _ _ e=>by cases e) (fun _=>rfl) (F5 hpa) hdv hws hp (fun hd=>?_) h
       intro big g a w hs hsub hfree hq K Q hK;have hw:Region.wanted o (yielded ops a.tmps)=true:=by simp[Region.wanted,hg]
       rw[if_pos hw];have hok:=Et hE hC hs hsub (ch:=[]) (fun p hp=>by cases hp) o (Q:=Q)
       rw[hst,hqu] at hok;refine hok.1 y hx (fun e=>by cases e) ⟨fun j h1 h2=>absurd h2 (by simp;omega),fun j h1 h2=>hfree.ρ j (by rw[← hrl];exact h1) (by rw[← hrl];exact h2)⟩ K fun u w' ⟨g',hf,hs',hv⟩=>?_
       refine hK g' _ w' ⟨hf.le,fun j hj=>hf.β j (by rw[hbl];exact hj),fun j hj=>hf.ρ j (by rw[hrl];exact hj)⟩ ?_
       rw[← Ew hbl hrl (fun rw e=>by cases e)]
       exact hs'.putE (d:=o.dst) (v:=some (Am s m vs rw true y).1) hq (fun t e=>by obtain⟨a1,a2⟩:=hd t e;exact⟨by rw[show (grow s big (Am s m vs rw true y).2.1 [] (Am s m vs rw true y).2.2).nt=fr.nt from by rw[← hnt];exact hsub.nt.symm];exact a1,a2⟩) hv
      ·cases h
  ·rename_i rs' x z0 f hst;cases hx:x with
   | none=>rw[hx] at h;cases h
   | some y =>
    rw[hx,ACb] at h;have hokAll:=fun {big:FF} {g:Sg} {a:Act} {w:World} (hs:Sim C big g a w) (hsub:Sub s big) (Q:Exit→Act→World→Prop)=>Et hE hC hs hsub (ch:=[]) (fun p hp=>by cases hp) o (Q:=Q)
    rw[hst] at hokAll;have hok2:=fun {big:FF} {g:Sg} {a:Act} {w:World} (hs:Sim C big g a w) (hsub:Sub s big) (Q:Exit→Act→World→Prop)=>hokAll hs hsub Q y hx;clear hokAll;revert h hok2;generalize f y=z;intro h hok2;cases hc:(GQ s fr.rw fr.bx.length lo al tg z.nb z.ef&&(!AW o||Hg z.ef)&&z.nr.all (Cc s)&&JB true ws o.dst (some z.v))
    ·simp only[hc] at h;cases h
    ·simp only[hc,cond_true] at h;simp only[AA1] at hc;obtain⟨⟨⟨he,hrwl⟩,hpa⟩,hfi⟩:=hc;obtain⟨_,hdv,hws⟩:=Iw hfi;split at h
     ·rename_i fr' hp;have hnt':∀ rw,z.ef≠.tab rw:=fun rw e=>by rw[e] at he;cases he
      refine mk (by revert he;cases z.ef<;>intro he<;>simp_all [GQ,DW]) hnt' (fun j b e=>by
        rw[e] at he;simp only[GQ,AA1] at he;refine⟨?_,?_⟩
        ·cases tg with
         | none=>simp at he
         | some k=>rw[AA2 he.1.2]
        ·cases hx:at? s.bx j with
         | none=>rw[hx] at he;simp at he
         | some b'=>exact⟨b',rfl⟩) (fun is e i hi=>by
        rw[e] at he;simp only[GQ,AA1] at he;have he2:=AA3.1 he.2 i hi;rw[AA1] at he2;refine⟨by simpa using he2.1,?_⟩
        cases hx:at? s.rw i with
        | none=>rw[hx] at he2;simp at he2
        | some b'=>exact⟨b',rfl⟩) (fun i e0 s0 xs e=>by
        rw[e] at he;simp only[GQ,AA1] at he;refine⟨he.1.1.2,?_⟩;cases hx:at? s.rw i with
        | none=>rw[hx] at he;simp at he
        | some b'=>exact⟨b',rfl⟩) (fun hr=>by
        rw[hr] at hrwl;revert hrwl;cases z.ef<;>intro hrwl<;>first | rfl | cases hrwl) (F5 hpa) hdv hws hp (fun hd=>?_) h
      intro big g a w hs hsub hfree hq K Q hK;have hw:Region.wanted o (yielded ops a.tmps)=true:=by simp[Region.wanted,hg]
      rw[if_pos hw];refine hok2 hs hsub Q ⟨fun j h1 h2=>hfree.β j (by rw[← hbl];exact h1) (by rw[← hbl];exact h2),fun j h1 h2=>hfree.ρ j (by rw[← hrl];exact h1) (by rw[← hrl];exact h2)⟩ K fun u w' ⟨g',hf,hs',hv⟩=>?_
      refine hK g' _ w' ⟨hf.le,fun j hj=>hf.β j (by rw[hbl];exact hj),fun j hj=>hf.ρ j (by rw[hrl];exact hj)⟩ ?_
      rw[← Ew hbl hrl hnt'];exact hs'.putE (d:=o.dst) (v:=some z.v) hq (fun t e=>by obtain⟨a1,a2⟩:=hd t e;exact⟨by rw[show (grow s big z.nr z.nb z.ef).nt=fr.nt from by rw[← hnt];exact hsub.nt.symm];exact a1,a2⟩) hv
     ·cases h
 ·rename_i i want hg;split at h
  ·cases h
  ·rename_i ch g0 hgo
   -- a guarded operation, carried out or not
   have gd:∀ {v0 v':AV} {nr:List Ad} {fr':Fr},Hf ch g0 v0=some v'→nr.all (Cc s)=true→(o.dst=none∨∃ x,(some v':Option AV)=some x)→(∀ x,(some v':Option AV)=some x→∀ y∈ws,Hh x y=false)→Fy (upd fr (nr.map (AR g0)) [] .pure) o.dst (some v')=some fr'→k fr'=some r →
     (g0=true→∀ {big:FF} {g:Sg} {a:Act} {w:World},Sim C big g a w→Sub s big→AZ a ch→(∀ j,s.rw.length≤j→j<s.rw.length+nr.length→g.ρ j=none)→∀ {K:Act→World→Prop} {Q:Exit→Act→World→Prop},(∀ u w',Out C g a s nr [] (grow s big nr [] .pure) (some v0) u w'→K (a.put o.dst u) w')→o.wp C.P a w K Q) →
     ∃ e fr',OpD C ops o tg lo al ws s fr fr' e∧Up fr'.sl∧fr'.nt=fr.nt∧k fr'=some r:=by
    intro v0 v' nr fr' hgv hpar hdv hws hp hk hrun;refine mk rfl (fun rw e=>by cases e) (fun _ _ e=>by cases e) (fun _ e=>by cases e) (fun _ _ _ _ e=>by cases e) (fun _=>rfl) (XY hpar) hdv hws hp (fun hd=>?_) hk
    intro big g a w hs hsub hfree hq K Q hK;obtain⟨hch,hy⟩:=P0 (hs.sub hsub) hgo;have hw:Region.wanted o (yielded ops a.tmps)=g0:=by simp only[Region.wanted,hg];exact hy
    rw[hw];have hfr:∀ j,s.rw.length≤j→j<s.rw.length+nr.length→g.ρ j=none:=fun j h1 h2=>hfree.ρ j (by rw[← hrl];exact h1) (by rw[← hrl];simpa using h2)
    have fin:∀ {g':Sg} {u:Value} {w':World},Mp s (nr.map (AR g0)) [] g g'→Sim C (grow s big (nr.map (AR g0)) [] .pure) g' a w'→AVR C g' a v' u→K (a.put o.dst u) w':=by
     intro g' u w' hf hs' hv;refine hK g' _ w' ⟨hf.le,fun j hj=>hf.β j (by rw[hbl];exact hj),fun j hj=>hf.ρ j (by rw[hrl];exact hj)⟩ ?_
     rw[← Ew hbl hrl (fun rw e=>by cases e)]
     exact hs'.putE (d:=o.dst) (v:=some v') hq (fun t e=>by obtain⟨a1,a2⟩:=hd t e;exact⟨by rw[show (grow s big (nr.map (AR g0)) [] .pure).nt=fr.nt from by rw[← hnt];exact hsub.nt.symm];exact a1,a2⟩) (fun av e=>by cases e;exact hv)
    cases hg0:g0 with
    | true =>
     rw[if_pos rfl];refine hrun hg0 hs hsub (hch.2 hg0) hfr fun u w' ⟨g',hf,hs',hv⟩=>?_;have hs2:Sim C (grow s big (nr.map (AR g0)) [] .pure) g' a w':=by
      have:=GJ (nr:=nr) (nr':=nr.map (AR true)) (n:=s.rw.length) (big:=big) (by simpa only[grow,Ai,BV,Ca] using hs') rfl
      rw[hg0];simpa only[grow,Ai,BV,Ca] using this
     exact fin ⟨hf.le,hf.β,fun j hj=>hf.ρ j (by simpa using hj)⟩ hs2 (AVR.guard hgv hch (fun _=>hv _ rfl) (fun e=>by rw[hg0] at e;cases e))
    | false =>
     rw[if_neg (by simp)]
     obtain⟨g',hf,hs'⟩:=Fl hs hsub hfr hpar;rw[hg0] at fin;exact fin hf hs' (AVR.guard hgv hch (fun e=>by rw[hg0] at e;cases e) (fun _=>rfl))
   split at h
   ·cases h
   ·rename_i req v nr nb ef hst;cases hc:(nb.isEmpty&&Hg ef&&nr.all (Cc s))
    ·rw[hc] at h;cases h
    ·rw[hc,cond_true] at h;simp only[AA1] at hc;obtain⟨⟨hnb,hpu⟩,hpar⟩:=hc;have hnb:nb=[]:=by simpa using hnb
     subst hnb;have hpu:ef=.pure:=by cases ef<;>first | rfl | cases hpu
     subst hpu;split at h
     ·rename_i v' hv';obtain⟨v0,rfl,hgv⟩:=ABQ.1 hv';cases hfi:JB (req||!g0) ws o.dst (some v')
      ·rw[hfi] at h;cases h
      ·rw[hfi,cond_true] at h;obtain⟨hrq,hdv,hws⟩:=Iw hfi;split at h
       ·rename_i fr' hp;refine gd hgv hpar hdv hws hp h fun hg0 {big g a w} hs hsub hh hfr {K Q} hK=>?_;have hreq:req=true:=by rw[hg0] at hrq;simpa using hrq
        have hok:=Et hE hC hs hsub hh o (Q:=Q);rw[hst] at hok;exact hok hreq (fun e=>by cases e) ⟨fun j h1 h2=>absurd h2 (by simp;omega),hfr⟩ K hK
       ·cases h
     ·cases h
   ·rename_i m x vs rw quiet hst;cases hq:quiet
    ·rw[hq] at h;cases h
    ·rw[hq,cond_true] at h;obtain⟨y,hy,h⟩:=ABQ.1 h;simp only at h;cases hpar:(Am s m vs rw true y).2.1.all (Cc s)
     ·simp only[hpar] at h;cases h
     ·simp only[hpar,cond_true] at h;split at h
      ·rename_i v' hgv;cases hfi:JB true ws o.dst (some v')
       ·rw[hfi] at h;cases h
       ·rw[hfi,cond_true] at h;obtain⟨_,hdv,hws⟩:=Iw hfi;split at h
        ·rename_i fr' hp;refine gd hgv hpar hdv hws hp h fun hg0 {big g a w} hs hsub hh hfr {K Q} hK=>?_;have hok:=Et hE hC hs hsub hh o (Q:=Q);rw[hst,hq] at hok;rw[hg0,cond_true] at hy;exact hok.1 y hy (fun e=>by cases e) ⟨fun j h1 h2=>absurd h2 (by simp;omega),hfr⟩ K hK
        ·cases h
      ·cases h
   ·cases h
end Go.Proofs.YtkemdhpdfaejgaaGreatDoor.X
namespace Go.Proofs.YtkemdhpdfaejgaaGreatDoor.X
open Go Go.RowKit
variable [CW]
variable {C:Cx} {fr s:Fr} {big:FF} {g:Sg} {a:Act} {w w':World} {ch:List (Nat×Bool)} {E:Env}
structure FEq (f f':FF):Prop where
 nt:f.nt=f'.nt
 bx:∀ n,f.bx n=f'.bx n
 rw:∀ n,f.rw n=f'.rw n
 sl:∀ t,lkp f.sl t=lkp f'.sl t
theorem FEq.refl (f:FF):FEq f f:=⟨rfl,fun _=>rfl,fun _=>rfl,fun _=>rfl⟩
theorem FEq.symm {f f':FF} (h:FEq f f'):FEq f' f:=⟨h.nt.symm,fun n=>(h.bx n).symm,fun n=>(h.rw n).symm,fun t=>(h.sl t).symm⟩
theorem FEq.trans {f f' f'':FF} (h:FEq f f') (k:FEq f' f''):FEq f f'':=⟨h.nt.trans k.nt,fun n=>(h.bx n).trans (k.bx n),fun n=>(h.rw n).trans (k.rw n),fun t=>(h.sl t).trans (k.sl t)⟩
theorem Sim.feq {f f':FF} (h:Sim C f g a w) (he:FEq f f') (hu:Up f'.sl):Sim C f' g a w:=by
 have e1:f.bx=f'.bx:=funext he.bx;have e2:f.rw=f'.rw:=funext he.rw;refine⟨h.nodef,h.size.trans he.nt,hu,h.kept,fun t v hv=>h.slots t v (by rw[he.sl];exact hv),fun i b hb=>h.boxes i b (by rw[e1];exact hb),?_,?_,?_,?_,h.tied,h.tie⟩
 ·rw[← e1];exact h.bdisj
 ·rw[← e2];exact h.rows
 ·rw[← e2];exact h.rdisj
 ·rw[← e1,← e2];exact h.rbox
theorem Nz {sl:List (Nat×AV)} {d:Option Nat} {v:Option AV} {t:Nat}:lkp (slE sl d v) t=(match d,v with | some d,some v=>if d=t then some v else lkp sl t | _,_=>lkp sl t):=by
 cases d with
 | none=>cases v<;>rfl
 | some d=>cases v with
  | none=>rfl
  | some v=>exact GK _ _ _ _
theorem AwP {sl:List (Nat×AV)} (h:Up sl) (d:Option Nat) (v:Option AV):Up (slE sl d v):=by
 unfold slE;split
 ·exact h.ins _ _
 ·exact h
def wB (e:Ent) (n:Nat):Prop:=(e.b0≤n∧n<e.b0+e.nb.length)∨∃ b,e.ef=.box n b
def wR (e:Ent) (n:Nat):Prop:=e.r0≤n∧n<e.r0+e.nr.length
theorem UZ {e:Ent} {f f':FF} {n:Nat} (h:f.bx n=f'.bx n):(B3 e f).bx n=(B3 e f').bx n:=by
 simp only[B3,more];split
 ·rfl
 ·cases e.ef<;>simp only[BV,h]
theorem GF {e:Ent} {f:FF} {n:Nat} (h:¬ wB e n):(B3 e f).bx n=f.bx n:=by
 simp only[B3,more];rw[if_neg (fun h'=>h (.inl h'))];cases he:e.ef with
 | box i b =>
  simp only[BV];rw[if_neg (fun e'=>h (.inr ⟨b,by rw[he,e']⟩))]
 | _=>rfl
theorem XZ {e:Ent} {f f':FF} {n:Nat} (h:wB e n):(B3 e f).bx n=(B3 e f').bx n:=by
 simp only[B3,more];split
 ·rfl
 ·rcases h with h | ⟨b,h⟩
  ·contradiction
  ·simp only[h,BV,if_true]
theorem AeM {e:Ent} {f f':FF} {n:Nat} (h:f.rw n=f'.rw n):(B3 e f).rw n=(B3 e f').rw n:=by
 simp only[B3,more];split
 ·rfl
 ·rw[h]
theorem BI {e:Ent} {f:FF} {n:Nat} (h:¬ wR e n):(B3 e f).rw n=gnE e.ef n (f.rw n):=if_neg h
theorem X0 {e:Ent} {f f':FF} {n:Nat} (h:wR e n):(B3 e f).rw n=(B3 e f').rw n:=by
 have h':e.r0≤n∧n<e.r0+e.nr.length:=h;simp only[B3,more];rw[if_pos h',if_pos h']
theorem NA {e:Ent} {f f':FF} {t:Nat} (h:lkp f.sl t=lkp f'.sl t):lkp (B3 e f).sl t=lkp (B3 e f').sl t:=by
 simp only[B3,Nz];split
 ·split
  ·rfl
  ·exact h
 ·exact h
theorem EN {e:Ent} {f:FF} {t:Nat} (h:e.d≠some t):lkp (B3 e f).sl t=lkp f.sl t:=by
 simp only[B3,Nz];split
 ·rename_i d v hd hv;rw[if_neg (fun e'=>h (by rw[hd,e']))]
 ·rfl
theorem AaI {e:Ent} {f f':FF} (h:FEq f f'):FEq (B3 e f) (B3 e f'):=⟨h.nt,fun n=>UZ (h.bx n),fun n=>AeM (h.rw n),fun t=>NA (h.sl t)⟩
structure X1 (e e':Ent):Prop where
 d:∀ t,e.d=some t→e'.d≠some t
 b:∀ n,wB e n→¬ wB e' n
 r:∀ n,wR e n→¬ wR e' n
 g:∀ n r,wR e n→e.nr[n-e.r0]? = some r→gnE e'.ef n (some r)=some r
 g':∀ n r,wR e' n→e'.nr[n-e'.r0]? = some r→gnE e.ef n (some r)=some r
 c:∀ n x,gnE e.ef n (gnE e'.ef n x)=gnE e'.ef n (gnE e.ef n x)
theorem Ix {e:Ent} {f:FF} {n:Nat} (h:wR e n):∃ r,e.nr[n-e.r0]? = some r∧(B3 e f).rw n=some r:=by
 have h':e.r0≤n∧n<e.r0+e.nr.length:=h;have hl:n-e.r0<e.nr.length:=by omega
 refine⟨e.nr[n-e.r0],AA7 hl,?_⟩;simp only[B3,more];rw[if_pos h',AA7 hl]
theorem AgG {e e':Ent} (h:X1 e e') (f:FF):FEq (B3 e (B3 e' f)) (B3 e' (B3 e f)):=by
 refine⟨rfl,fun n=>?_,fun n=>?_,fun t=>?_⟩
 ·by_cases h1:wB e n
  ·rw[GF (e:=e') (h.b n h1)];exact XZ h1
  ·rw[GF h1];exact UZ (GF h1).symm
 ·by_cases h1:wR e n
  ·obtain⟨r,hr,_⟩:=Ix (f:=f) h1;obtain⟨r1,hr1,e1⟩:=Ix (f:=f) h1;obtain⟨r2,hr2,e2⟩:=Ix (f:=B3 e' f) h1;rw[hr] at hr1 hr2;cases hr1;cases hr2;rw[BI (e:=e') (h.r n h1),e1,e2];exact (h.g n r h1 hr).symm
  ·by_cases h2:wR e' n
   ·obtain⟨r,hr,_⟩:=Ix (f:=f) h2;obtain⟨r1,hr1,e1⟩:=Ix (f:=f) h2;obtain⟨r2,hr2,e2⟩:=Ix (f:=B3 e f) h2;rw[hr] at hr1 hr2;cases hr1;cases hr2;rw[BI (e:=e) h1,e1,e2];exact h.g' n r h2 hr
   ·rw[BI h1,BI h2,BI h2,BI h1,h.c]
 ·by_cases h1:e.d=some t
  ·rw[EN (e:=e') (h.d t h1)];exact NA (EN (h.d t h1))
  ·rw[EN h1];exact NA (EN h1).symm
def Bz:List Ent→(Nat→Bool)→Nat→FF→FF
 | [],_,_,f=>f
 | e :: es,L,p,f=>Bz es L (p+1) (bif L p then B3 e f else f)
theorem PD:∀ (es:List Ent) {L:Nat→Bool} {p:Nat} {f f':FF},FEq f f'→FEq (Bz es L p f) (Bz es L p f')
 | [],_,_,_,_,h=>h
 | e :: es,L,p,f,f',h=>by
  refine PD es ?_;cases L p
  ·exact h
  ·exact AaI h
theorem U0:∀ (es:List Ent) {L:Nat→Bool} {p:Nat} {f:FF},Up f.sl→Up (Bz es L p f).sl
 | [],_,_,_,h=>h
 | e :: es,L,p,f,h=>by
  refine U0 es ?_;cases L p
  ·exact h
  ·exact AwP h _ _
theorem KI:∀ (es:List Ent) {L:Nat→Bool} {p:Nat} {f:FF},(Bz es L p f).nt=f.nt
 | [],_,_,_=>rfl
 | e :: es,L,p,f=>by
  unfold Bz;rw[KI es];cases L p<;>rfl
theorem PE:∀ (es:List Ent) {L:Nat→Bool} {p:Nat} {e:Ent} {f:FF},(∀ q e',es[q]? = some e'→L (p+q)=true→X1 e e')→FEq (Bz es L p (B3 e f)) (B3 e (Bz es L p f))
 | [],_,_,_,_,_=>FEq.refl _
 | e1 :: es,L,p,e,f,h=>by
  have h':∀ q e',es[q]? = some e'→L (p+1+q)=true→X1 e e':=fun q e' hq hl=>h (q+1) e' (by simpa using hq) (by rw[← hl];congr 1;omega)
  unfold Bz;cases hp:L p
  ·exact PE es h'
  ·rw[cond_true,cond_true];exact (PD es (AgG (h 0 e1 rfl hp) f).symm).trans (PE es h')
theorem X2:∀ (es:List Ent) {L L':Nat→Bool} {p i:Nat} {e:Ent} {f:FF},es[i]? = some e→L (p+i)=false→L' (p+i)=true→(∀ j,j≠p+i→L' j=L j)→(∀ q e',i<q→es[q]? = some e'→L (p+q)=true→X1 e e')→FEq (Bz es L' p f) (B3 e (Bz es L p f))
 | [],_,_,_,_,_,_,h,_,_,_,_=>by simp at h
 | e1 :: es,L,L',p,0,e,f,h,h0,h1,h2,h3=>by
  simp only[ABY,ABr] at h;subst h;rw[ACa] at h0 h1;unfold Bz;rw[h0,h1,cond_true,cond_false];have e1':Bz es L' (p+1) (B3 e1 f)=Bz es L (p+1) (B3 e1 f):=runL_ext es fun q hq=>h2 _ (by omega)
  rw[e1'];exact PE es fun q e' hq hl=>h3 (q+1) e' (by omega) (by simpa using hq) (by rw[← hl];congr 1;omega)
 | e1 :: es,L,L',p,i+1,e,f,h,h0,h1,h2,h3=>by
  have hp:L' p=L p:=h2 p (by omega)
  unfold Bz;rw[hp];refine X2 es (i:=i) (by simpa using h) (by rw[← h0];congr 1;omega) (by rw[← h1];congr 1;omega) (fun j hj=>h2 j (by omega)) fun q e' hq he hl=>h3 (q+1) e' (by omega) (by simpa using he) (by rw[← hl];congr 1;omega)
 where
 runL_ext:∀ (es:List Ent) {L L':Nat→Bool} {p:Nat} {f:FF},(∀ q,p≤q→L' q=L q)→Bz es L' p f=Bz es L p f
  | [],_,_,_,_,_=>rfl
  | e :: es,L,L',p,f,h=>by
   unfold Bz;rw[h p (AA9 _),runL_ext es fun q hq=>h q (by omega)]
theorem U1:∀ (es:List Ent) {L L':Nat→Bool} {p:Nat} {f f':FF} {n:Nat},f.bx n=f'.bx n→(∀ q e,es[q]? = some e→L (p+q)≠L' (p+q)→¬ wB e n)→(Bz es L p f).bx n=(Bz es L' p f').bx n
 | [],_,_,_,_,_,_,h,_=>h
 | e :: es,L,L',p,f,f',n,h,hd=>by
  unfold Bz;refine U1 es ?_ fun q e' hq hl=>hd (q+1) e' (by simpa using hq) (by rw[show p+(q+1)=p+1+q by omega];exact hl)
  by_cases hp:L p=L' p
  ·rw[hp];cases L' p
   ·exact h
   ·exact UZ h
  ·have:=hd 0 e rfl hp;cases h1:L p<;>cases h2:L' p<;>simp only[cond_true,cond_false,GF this,h]
theorem AeN:∀ (es:List Ent) {L L':Nat→Bool} {p:Nat} {f f':FF} {n:Nat},f.rw n=f'.rw n→(∀ q e,es[q]? = some e→L (p+q)=L' (p+q))→(Bz es L p f).rw n=(Bz es L' p f').rw n
 | [],_,_,_,_,_,_,h,_=>h
 | e :: es,L,L',p,f,f',n,h,hd=>by
  unfold Bz;refine AeN es ?_ fun q e' hq=>by rw[show p+1+q=p+(q+1) by omega];exact hd (q+1) e' (by simpa using hq)
  rw[show L p=L' p from hd 0 e rfl]
  cases L' p
  ·exact h
  ·exact AeM h
theorem X3:∀ (es:List Ent) {L L':Nat→Bool} {p:Nat} {f f':FF} {n:Nat} {m:Md},(∀ r,r.m=m→f'.rw n=some r→f.rw n=some r)→(∀ q e,es[q]? = some e→L (p+q)≠L' (p+q)→¬ wR e n∧R2 e.ef∧(L (p+q)=true→∀ r,r.m=m→Azs e.ef n r))→∀ r,r.m=m→(Bz es L' p f').rw n=some r→(Bz es L p f).rw n=some r
 | [],_,_,_,_,_,_,_,h,_,r,hr,h'=>h r hr h'
 | e :: es,L,L',p,f,f',n,m,h,hd,r,hr,h'=>by
  unfold Bz at h' ⊢;refine X3 es (m:=m) (fun r hr hx=>?_) (fun q e' hq hl=>?_) r hr h'
  ·by_cases hp:L p=L' p
   ·rw[hp];cases h2:L' p
    ·rw[h2] at hx;exact h r hr hx
    ·rw[h2] at hx;simp only[cond_true] at hx ⊢;by_cases hw:wR e n
     ·rw[← hx];exact X0 hw
     ·rw[BI hw] at hx ⊢;exact Amy h r hr hx
   ·obtain⟨hw,hns,ho⟩:=hd 0 e rfl hp;cases h1:L p<;>cases h2:L' p
    ·exact absurd (h1.trans h2.symm) hp
    ·rw[h2,cond_true,BI hw] at hx;exact h r hr ((F4 hns).1 hx).1
    ·rw[h2] at hx;rw[cond_true,BI hw];exact (F4 hns).2 ⟨h r hr hx,ho h1 r hr⟩
    ·exact absurd (h1.trans h2.symm) hp
  ·rw[show p+1+q=p+(q+1) by omega] at hl ⊢
   exact hd (q+1) e' (by simpa using hq) hl
theorem X4:∀ (es:List Ent) {L:Nat→Bool} {p:Nat} {f:FF} {n:Nat},f.rw n=none→(∀ (q:Nat) (e:Ent),es[q]? = some e→¬ wR e n)→(Bz es L p f).rw n=none
 | [],_,_,_,_,h,_=>h
 | e :: es,L,p,f,n,h,hd=>by
  unfold Bz;refine X4 es ?_ fun q e' hq=>hd (q+1) e' (by simpa using hq)
  cases L p
  ·exact h
  ·rw[cond_true,BI (hd 0 e rfl),h];exact Amx _ _
theorem R3:∀ (es:List Ent) {L:Nat→Bool} {b p i:Nat} {is:List Nat} {e:Ent} {f:FF},es[p]? = some e→L (b+p)=true→e.ef=.gone is→i∈is→(∀ q e',p≤q→es[q]? = some e'→¬ wR e' i)→(Bz es L b f).rw i=none
 | [],_,_,_,_,_,_,_,h,_,_,_,_=>by simp at h
 | e1 :: es,L,b,0,i,is,e,f,h,hl,he,hi,hd=>by
  simp only[ABY,ABr] at h;subst h;rw[ACa] at hl;unfold Bz;rw[hl,cond_true];refine X4 es ?_ fun q e' hq=>hd (q+1) e' (by omega) (by simpa using hq)
  rw[BI (hd 0 e1 (AA9 _) rfl),he];show HV is i (f.rw i)=none;cases hx:HV is i (f.rw i) with
  | none=>rfl
  | some r=>exact absurd rfl ((Bp.1 hx).2 i hi).1
 | e1 :: es,L,b,p+1,i,is,e,f,h,hl,he,hi,hd=>by
  unfold Bz;exact R3 es (p:=p) (e:=e) (by simpa using h) (by rw[← hl];congr 1;omega) he hi fun q e' hpq hq=>hd (q+1) e' (by omega) (by simpa using hq)
theorem U2:∀ (es:List Ent) {L L':Nat→Bool} {p:Nat} {f f':FF} {t:Nat},lkp f.sl t=lkp f'.sl t→(∀ q e,es[q]? = some e→L (p+q)≠L' (p+q)→e.d≠some t)→lkp (Bz es L p f).sl t=lkp (Bz es L' p f').sl t
 | [],_,_,_,_,_,_,h,_=>h
 | e :: es,L,L',p,f,f',n,h,hd=>by
  unfold Bz;refine U2 es ?_ fun q e' hq hl=>hd (q+1) e' (by simpa using hq) (by rw[show p+(q+1)=p+1+q by omega];exact hl)
  by_cases hp:L p=L' p
  ·rw[hp];cases L' p
   ·exact h
   ·exact NA h
  ·have:=hd 0 e rfl hp;cases h1:L p<;>cases h2:L' p<;>simp only[cond_true,cond_false,EN this,h]
theorem R4:∀ (es:List Ent) {L:Nat→Bool} {p:Nat} {f:FF} {t:Nat} {v:AV},lkp (Bz es L p f).sl t=some v→lkp f.sl t=some v∨∃ q e,es[q]? = some e∧L (p+q)=true∧e.d=some t∧e.v=some v
 | [],_,_,_,_,_,h=>.inl h
 | e :: es,L,p,f,t,v,h=>by
  unfold Bz at h;rcases R4 es h with h1 | ⟨q,e',h1,h2,h3,h4⟩
  ·cases hp:L p
   ·rw[hp] at h1;exact .inl h1
   ·rw[hp,cond_true] at h1;simp only[B3,Nz] at h1;split at h1
    ·rename_i d v' hd hv;split at h1
     ·rename_i ht;subst ht;cases h1;exact .inr ⟨0,e,rfl,hp,hd,hv⟩
     ·exact .inl h1
    ·exact .inl h1
  ·exact .inr ⟨q+1,e',by simpa using h1,by rw[← h2];congr 1;omega,h3,h4⟩
end Go.Proofs.YtkemdhpdfaejgaaGreatDoor.X
namespace Go.Proofs.YtkemdhpdfaejgaaGreatDoor.X
open Go Go.RowKit
variable [CW]
variable {C:Cx} {fr s:Fr} {big:FF} {g:Sg} {a:Act} {w w':World} {ch:List (Nat×Bool)} {E:Env}
theorem Ar8 {l:List Nat} {i:Nat}:has l i=true↔i∈l:=by
 simp only[has,AB1];constructor
 ·rintro⟨x,hx,h⟩
  rw[AA2 h];exact hx
 ·exact fun h=>⟨i,h,B8 i⟩
theorem KJ {l:List Nat}:∀ (r:List Nat) {l:List Nat} {i:Nat},i∈Jb l r→i∈l∨i∈r
 | [],_,_,h=>.inl h
 | j :: r,l,i,h=>by
  simp only[Jb] at h;cases hj:l.any (Nat.beq j)
  ·rw[hj,cond_false] at h;rcases KJ (l:=l++[j]) r h with h | h
   ·rcases AA8.1 h with h | h
    ·exact .inl h
    ·exact .inr (by simp at h;simp[h])
   ·exact .inr (by simp[h])
  ·rw[hj,cond_true] at h;rcases KJ (l:=l) r h with h | h
   ·exact .inl h
   ·exact .inr (by simp[h])
theorem AgH {bs:List (List Nat)} {o:Oper} {i:Nat} (h:i∈NO bs o):∃ e∈o.after,Region.binds .any e=true∧(i=e.on∨i∈bs.getD e.on []):=by
 unfold NO at h;have key:∀ (l:List Edge) (s:List Nat),i∈l.foldl (fun s e=>bif Region.binds .any e then Jb (Jb s [e.on]) (bs.getD e.on []) else s) s→i∈s∨∃ e∈l,Region.binds .any e=true∧(i=e.on∨i∈bs.getD e.on []):=by
  intro l
  induction l with
  | nil=>intro s h;exact .inl h
  | cons e l ih =>
   intro s h;rcases ih _ h with h | ⟨e',h1,h2⟩
   ·cases hb:Region.binds .any e
    ·simp only[hb,cond_false] at h;exact .inl h
    ·simp only[hb,cond_true] at h;rcases KJ (l:=Jb s [e.on]) _ h with h | h
     ·rcases KJ (l:=s) _ h with h | h
      ·exact .inl h
      ·exact .inr ⟨e,by simp,hb,.inl (by simpa using h)⟩
     ·exact .inr ⟨e,by simp,hb,.inr h⟩
   ·exact .inr ⟨e',by simp[h1],h2⟩
 rcases key _ _ h with h | ⟨e,h1,h2⟩
 ·simp at h
 ·exact⟨e,by simpa using h1,h2⟩
theorem R5:∀ (l:List Oper) (bs:List (List Nat)),∃ t,SO l bs=bs++t∧t.length=l.length∧∀ (j:Nat) o,l[j]? = some o→∃ p,(SO l bs).take (bs.length+j)=p∧(SO l bs)[bs.length+j]? = some (NO p o)
 | [],bs=>⟨[],by simp[SO],rfl,fun j o h=>by simp at h⟩
 | o :: l,bs=>by
  obtain⟨t,h1,h2,h3⟩:=R5 l (bs++[NO bs o]);refine⟨NO bs o :: t,by simp[SO,h1],by simp[h2],fun j o' hj=>?_⟩
  cases j with
  | zero =>
   simp only[ABY,ABr] at hj;subst hj;refine⟨bs,?_,?_⟩
   ·rw[SO,h1,AA5,ACa,ACV]
   ·rw[SO,h1,ACa,AA5,ABp (AA9 _)];simp
  | succ j =>
   obtain⟨p,h4,h5⟩:=h3 j o' (by simpa using hj)
   have e:(bs++[NO bs o]).length+j=bs.length+(j+1):=by simp;omega
   rw[e] at h4 h5;exact⟨p,h4,h5⟩
variable {ops:Array Oper}
theorem PF {i j:Nat} (h:i∈(Dr.of ops.toList).bs.getD j []):∃ o,ops[j]? = some o∧∃ e∈o.after,Region.binds .any e=true∧(i=e.on∨i∈(Dr.of ops.toList).bs.getD e.on []):=by
 obtain⟨t,h1,h2,h3⟩:=R5 ops.toList [];simp only[Dr.of] at h ⊢;have hj:j<ops.toList.length:=by
  rcases ABK j ops.toList.length with h' | h'
  ·exact h'
  ·rw[ABz,ABu (by rw[h1];simpa[h2] using h')] at h
   simp at h
 obtain⟨p,h4,h5⟩:=h3 j _ (AA7 hj);simp only[ABm,ABw] at h4 h5;rw[ABz,h5,ACT] at h;obtain⟨e,a1,a2,a3⟩:=AgH h;refine⟨_,by rw[← ACI];exact AA7 hj,e,by simpa using a1,a2,?_⟩
 rcases a3 with a3 | a3
 ·exact .inl a3
 ·refine .inr ?_;rw[← h4,ABz,ABS] at a3;split at a3
  ·rw[ABz];exact a3
  ·simp at a3
theorem HP:∀ (l:List Oper) {n j:Nat} {o:Oper},Ek l n=true→l[j]? = some o→∀ e∈o.after,Region.binds .any e=true→e.on<n+j
 | [],_,_,_,_,h=>by simp at h
 | o :: l,n,j,o',h,hj=>by
  simp only[Ek,AA1] at h;cases j with
  | zero =>
   simp only[ABY,ABr] at hj;subst hj;intro e he hb;have:=AA3.1 h.1.1 e (by simpa using he)
   simp only[hb,Bool.not_true,ACl,Nat.blt,AB4] at this;omega
  | succ j =>
   intro e he hb;have:=HP l h.2 (by simpa using hj) e he hb
   omega
theorem X5 (hed:Ek ops.toList 0=true):∀ (j:Nat) {i:Nat},i∈(Dr.of ops.toList).bs.getD j []→i<j:=by
 intro j
 induction j using Nat.strongRecOn with
 | _ j ih =>
  intro i h;obtain⟨o,h1,e,h2,h3,h4⟩:=PF h;have h5:=HP ops.toList hed (by simpa using h1) e h2 h3
  rcases h4 with h4 | h4
  ·omega
  ·have:=ih e.on (by omega) h4
   omega
def DC (ops:Array Oper) (listed:Array Bool):Prop:=∀ j o,ops[j]? = some o→listed.getD j false=true→∀ e∈o.after,Region.binds .any e=true→listed.getD e.on false=true
theorem Iy (hed:Ek ops.toList 0=true) {listed:Array Bool} (hdc:DC ops listed):∀ (j:Nat) {o:Oper},ops[j]? = some o→(∀ e∈o.after,Region.binds .any e=true→listed.getD e.on false=true)→∀ i∈(Dr.of ops.toList).bs.getD j [],listed.getD i false=true:=by
 intro j
 induction j using Nat.strongRecOn with
 | _ j ih =>
  intro o ho hr i hi;obtain⟨o',h1,e,h2,h3,h4⟩:=PF hi;rw[ho] at h1;cases h1;have h5:=HP ops.toList hed (by simpa using ho) e h2 h3
  have h6:=hr e h2 h3;rcases h4 with h4 | h4
  ·rw[h4];exact h6
  ·obtain⟨o2,h7,_⟩:=PF h4;exact ih e.on (by omega) h7 (hdc e.on o2 h7 h6) i h4
theorem CM {i j:Nat}:j∈Cw (Dr.of ops.toList) i↔j<ops.size∧i≠j∧i ∉ (Dr.of ops.toList).bs.getD j []∧j ∉ (Dr.of ops.toList).bs.getD i []:=by
 simp only[Cw,ABs,ACG,inc,AA1,AB7];have hn:(Dr.of ops.toList).n=ops.size:=by simp[Dr.of]
 rw[hn];have e1:∀ (l:List Nat) (x:Nat),has l x=false↔x ∉ l:=fun l x=>by
  rw[← Ar8];simp
 have e2:Nat.beq i j=false↔i≠j:=⟨fun h e=>(by rw[e,B8] at h;cases h),ES⟩
 rw[e1,e1,e2];exact⟨fun⟨h1,⟨h2,h3⟩,h4⟩=>⟨h1,h2,h3,h4⟩,fun⟨h1,h2,h3,h4⟩=>⟨h1,⟨h2,h3⟩,h4⟩⟩
theorem R6 {α:Type}:∀ (is:List Nat) (l:List (Option α)),(Hi l is).length=l.length
 | [],_=>rfl
 | i :: is,l=>by
  show (Hi (Bn l i none) is).length=l.length;rw[R6 is,Bm]
theorem LA {α:Type} {n:Nat} {x:α}:∀ (is:List Nat) (l:List (Option α)),at? (Hi l is) n=some x→at? l n=some x∧n ∉ is
 | [],_,h=>⟨h,by simp⟩
 | i :: is,l,h=>by
  obtain⟨h1,h2⟩:=LA is (Bn l i none) h;rw[A4] at h1;split at h1
  ·cases h1
  ·rename_i hc;refine⟨h1,fun hm=>?_⟩;rcases AA4.1 hm with e | e
   ·subst e;exact hc ⟨rfl,Bq h1⟩
   ·exact h2 e
theorem R7 {z:Bool} {ds:List (Option Nat)} {rs bs:List Nat}:(GP fr z ds rs bs).bx.length=fr.bx.length∧(GP fr z ds rs bs).rw.length=fr.rw.length:=by simp[GP,R6]
theorem KL {z:Bool} {ds:List (Option Nat)} {rs bs:List Nat} {n:Nat} {b:BD} (h:at? (GP fr z ds rs bs).bx n=some b):at? fr.bx n=some b∧n ∉ bs:=LA _ _ h
theorem KM {z:Bool} {ds:List (Option Nat)} {rs bs:List Nat} {n:Nat} {r:Ad} (h:at? (GP fr z ds rs bs).rw n=some r):z=false:=by
 cases z with
 | false=>rfl
 | true =>
  simp only[GP,CT,ABn,cond_true] at h;cases hx:(Hi fr.rw rs)[n]? with
  | none=>rw[hx] at h;cases h
  | some x=>rw[hx] at h;cases h
theorem D2 {z:Bool} {ds:List (Option Nat)} {rs bs:List Nat} {n:Nat} {r:Ad} (h:at? (GP fr z ds rs bs).rw n=some r):at? fr.rw n=some r∧n ∉ rs∧∀ p pa,r.m=.bor p pa→∃ r',at? (GP fr z ds rs bs).rw p=some r':=by
 have hz:=KM h;subst hz;have get:∀ m,at? (GP fr false ds rs bs).rw m=SP (Hi fr.rw rs) (at? (Hi fr.rw rs) m):=fun m=>by
  simp only[GP,CT,ABn];cases (Hi fr.rw rs)[m]?<;>rfl
 rw[get] at h;have h1:at? (Hi fr.rw rs) n=some r∧∀ p pa,r.m=.bor p pa→∃ r',at? (Hi fr.rw rs) p=some r'∧r'.m.mine=true:=by
  unfold SP at h;split at h
  ·rename_i q hq;split at h
   ·rename_i p pa hm;split at h
    ·rename_i q' hq';cases hmi:q'.m.mine
     ·rw[hmi] at h;cases h
     ·rw[hmi,cond_true] at h;rw[hq] at h;cases h;refine⟨hq,fun p' pa' e=>?_⟩;rw[hm] at e;cases e;exact⟨q',hq',hmi⟩
    ·cases h
   ·rename_i hno;rw[hq] at h;cases h;exact⟨hq,fun p pa e=>absurd e (hno p pa)⟩
  ·cases h
 obtain⟨h2,h3⟩:=h1;obtain⟨h4,h5⟩:=LA _ _ h2;refine⟨h4,h5,fun p pa e=>?_⟩;obtain⟨r',h6,h7⟩:=h3 p pa e;refine⟨r',?_⟩;rw[get,h6];unfold SP;simp only;split
 ·rename_i e';rw[e'] at h7;cases h7
 ·rfl
theorem AmA (hu:Up fr.sl) {z:Bool} {ds:List (Option Nat)} {rs bs:List Nat} {t:Nat} {v:AV} (h:lkp (GP fr z ds rs bs).sl t=some v):lkp fr.sl t=some v∧some t ∉ ds:=by
 obtain⟨h1,h2⟩:=ET hu h;refine⟨h1,fun hm=>?_⟩;simp only[inO,AB7,ADE] at h2;exact h2 _ hm (B8 t)
theorem GG (hu:Up fr.sl) {ds:List (Option Nat)} (h:DB fr ds=true) {d:Option Nat} (hd:d∈ds):Mm fr.f d:=fun t v hv=>by
 have:=AA3.1 h _ (GL hv);cases d with
 | none=>rfl
 | some d =>
  cases v with
  | grd c b ag cs =>
   have h2:=AA3.1 this _ hd;simpa using h2
  | _=>rfl
structure AtZ (C:Cx) (ops:Array Oper) (i:Nat) (st:List Jc) (fr fr1:Fr) (e:Ent) (o:Oper):Prop where
 op:ops[i]? = some o
 od:OpD C ops o (JA (Dr.of ops.toList).ops (Ch (Dr.of ops.toList) (AW o) (Cw (Dr.of ops.toList) i) st fr) o) (Aw0 st (Cw (Dr.of ops.toList) i)) (Aw1 (Dr.of ops.toList) (Cw (Dr.of ops.toList) i)) ((Cw (Dr.of ops.toList) i).map fun j=>(Dr.of ops.toList).ds.getD j none) (Ch (Dr.of ops.toList) (AW o) (Cw (Dr.of ops.toList) i) st fr) fr fr1 e
 ne:∀ j∈Cw (Dr.of ops.toList) i,neO ((Dr.of ops.toList).ds.getD i none) ((Dr.of ops.toList).ds.getD j none)=true∧SQ st i j (JA (Dr.of ops.toList).ops (Ch (Dr.of ops.toList) (AW o) (Cw (Dr.of ops.toList) i) st fr) o)=true
 up0:Up fr.sl
 up:Up fr1.sl
 nt:fr1.nt=fr.nt
 nw:DB fr1 ((Dr.of ops.toList).ds.drop (i+1))=true
 sl:st.length=i
inductive KN (C:Cx) (ops:Array Oper):Nat→List Jc→Fr→List Ent→Fr→Prop
 | nil {i st fr}:KN C ops i st fr [] fr
 | cons {i st fr fr1 e o es fr2}:AtZ C ops i st fr fr1 e o→KN C ops (i+1) (st++[YG (Dr.of ops.toList) (JA (Dr.of ops.toList).ops (Ch (Dr.of ops.toList) (AW o) (Cw (Dr.of ops.toList) i) st fr) o) fr fr1]) fr1 es fr2→KN C ops i st fr (e :: es) fr2
theorem PG {j:Nat} {o:Oper} (h:ops[j]? = some o):(Dr.of ops.toList).ds.getD j none=o.dst∧o.dst∈(Dr.of ops.toList).ds.drop j:=by
 have h':ops.toList[j]? = some o:=by simpa using h
 refine⟨by simp[Dr.of,h],?_⟩
 simp only[Dr.of];refine ABt (i:=0) ?_;rw[ABW,ABn];simp[h]
theorem Mn {R:Type} (hE:AF C.P E) (hC:Bf C) {k:Fr→Option R} {r:R}:∀ (rest:List Oper) {i:Nat} {st:List Jc} {fr:Fr},ops.toList.drop i=rest→st.length=i→Up fr.sl→DB fr ((Dr.of ops.toList).ds.drop i)=true →
  JC E (Dr.of ops.toList) rest i st fr k=some r→∃ es fr' st',KN C ops i st fr es fr'∧st'.length=i+es.length∧Up fr'.sl∧DB fr' ((Dr.of ops.toList).ds.drop (i+es.length))=true∧es.length≤rest.length ∧
   JC E (Dr.of ops.toList) (ops.toList.drop (i+es.length)) (i+es.length) st' fr' k=some r∧∀ o r2,ops.toList.drop (i+es.length)=o :: r2→Cw (Dr.of ops.toList) (i+es.length)=[]
 | [],i,st,fr,hd,hst,hu,hw,h=>⟨[],fr,st,.nil,by simpa using hst,hu,hw,AA9 _,by rw[ABm,ACa,hd];exact h,fun o r2 e=>by rw[ABm,ACa,hd] at e;cases e⟩
 | o :: rest,i,st,fr,hd,hst,hu,hw,h=>by
  have hn:ops[i]? = some o:=by
   have:(ops.toList.drop i)[0]? = some o:=by rw[hd];rfl
   rw[ABW] at this;simpa using this
  have hd':ops.toList.drop (i+1)=rest:=by
   have:(ops.toList.drop i).drop 1=rest:=by rw[hd];rfl
   rwa [ACx] at this
  cases hI:Cw (Dr.of ops.toList) i with
  | nil=>exact⟨[],fr,st,.nil,by simpa using hst,hu,hw,ABU _,by rw[ABm,ACa,hd];exact h,fun _ _ _=>hI⟩
  | cons j0 I =>
   simp only[JC] at h;split at h
   ·rename_i e;rw[hI] at e;cases e
   ·cases hc:((Cw (Dr.of ops.toList) i).all fun j=>neO ((Dr.of ops.toList).ds.getD i none) ((Dr.of ops.toList).ds.getD j none)&&SQ st i j (JA (Dr.of ops.toList).ops (Ch (Dr.of ops.toList) (AW o) (Cw (Dr.of ops.toList) i) st fr) o))
    ·rw[hc] at h;cases h
    ·rw[hc,cond_true] at h;obtain⟨ds1,ds2⟩:=PG hn;have l1:(Ch (Dr.of ops.toList) (AW o) (Cw (Dr.of ops.toList) i) st fr).bx.length=fr.bx.length:=R7.1;have l2:(Ch (Dr.of ops.toList) (AW o) (Cw (Dr.of ops.toList) i) st fr).rw.length=fr.rw.length:=R7.2;obtain⟨e,fr1,hod,hu1,hnt1,hk⟩:=AwO hE hC (s:=Ch (Dr.of ops.toList) (AW o) (Cw (Dr.of ops.toList) i) st fr) l1 l2 rfl hu (GG hu hw ds2) h;cases hw1:DB fr1 ((Dr.of ops.toList).ds.drop (i+1))
     ·rw[hw1] at hk;cases hk
     ·rw[hw1,cond_true] at hk;obtain⟨es,fr',st',c1,c2,c3,c4,c5,c6,c7⟩:=Mn hE hC rest hd' (by simp[hst]) hu1 hw1 hk
      have e1:i+1+es.length=i+(e :: es).length:=by simp;omega
      rw[e1] at c2 c4 c6 c7;refine⟨e :: es,fr',st',.cons ⟨hn,hod,fun j hj=>?_,hu,hu1,hnt1,hw1,hst⟩ c1,c2,c3,c4,by simpa using c5,c6,c7⟩
      have:=AA3.1 hc j hj;simpa using this
theorem AgI {e:Ent} {es:List Ent} {L:Nat→Bool} {p:Nat} {f:FF}:Bz (e :: es) L p f=Bz es L (p+1) (bif L p then B3 e f else f):=rfl
theorem LB:∀ (es:List Ent) {L:Nat→Bool} {p:Nat} {f:FF},(∀ q,p≤q→L q=false)→Bz es L p f=f
 | [],_,_,_,_=>rfl
 | e :: es,L,p,f,h=>by
  unfold Bz;rw[h p (AA9 _),cond_false];exact LB es fun q hq=>h q (by omega)
structure AtP (C:Cx) (ops:Array Oper) (i:Nat) (fr:Fr) (es:List Ent) (fr':Fr) (p0 p:Nat) (e:Ent) (o:Oper) (stp:List Jc) (frp frq:Fr):Prop where
 st:AtZ C ops (i+p) stp frp frq e o
 f:frp.f=Bz es (fun q=>decide (q<p0+p)) p0 fr.f
 sp:∀ q e',q<p→es[q]? = some e'→∃ s,stp[i+q]? = some s∧s.r0=e'.r0∧s.rn=e'.nr.length∧s.b0=e'.b0∧s.bn=e'.nb.length∧∀ n b,e'.ef=.box n b→s.et=some n
 later:∀ q e',p<q→es[q]? = some e'→i+p∈Cw (Dr.of ops.toList) (i+q)→∀ n b,e'.ef=.box n b→Ahk (Dr.of ops.toList) frp (i+q)=some n∨e.b0≤n
 rlo:fr.rw.length≤e.r0
 blo:fr.bx.length≤e.b0
 rhi:e.r0+e.nr.length≤fr'.rw.length
 bhi:e.b0+e.nb.length≤fr'.bx.length
 r:∀ q e',q<p→es[q]? = some e'→e'.r0+e'.nr.length≤e.r0∧e'.b0+e'.nb.length≤e.b0
 val:∀ t v,e.d=some t→e.v=some v→lkp frq.sl t=some v
theorem LC {i:Nat} {st:List Jc} {fr fr':Fr} {es:List Ent} (h:KN C ops i st fr es fr'):∀ p0,fr'.f=Bz es (fun q=>decide (q<p0+es.length)) p0 fr.f∧fr.rw.length≤fr'.rw.length∧fr.bx.length≤fr'.bx.length∧fr'.nt=fr.nt:=by
 induction h with
 | nil=>exact fun p0=>⟨rfl,AA9 _,AA9 _,rfl⟩
 | @cons i st fr fr1 e o es fr2 hs hc ih =>
  intro p0;obtain⟨h1,h2,h3,h4⟩:=ih (p0+1);refine⟨?_,?_,?_,h4.trans hs.nt⟩
  ·unfold Bz;have e1:decide (p0<p0+(e :: es).length)=true:=by simp
   simp only[e1,cond_true];rw[← hs.od.f,h1];have:p0+1+es.length=p0+(e :: es).length:=by simp;omega
   rw[this]
  ·have:=hs.od.rl;omega
  ·have:=hs.od.bl;omega
theorem HQ {i:Nat} {st:List Jc} {fr fr':Fr} {es:List Ent} (h:KN C ops i st fr es fr'):∀ p0 (p:Nat) e,es[p]? = some e→∃ o stp frp frq,AtP C ops i fr es fr' p0 p e o stp frp frq∧∃ t,stp=st++t:=by
 induction h with
 | nil=>intro p0 p e he;simp at he
 | @cons i st fr fr1 e o es fr2 hs hc ih =>
  intro p0 p e' he;have hl:=hs.sl;cases p with
  | zero =>
   simp only[ABY,ABr] at he;subst he;obtain⟨_,b1,b2,_⟩:=LC hc 0;refine⟨o,st,fr,fr1,⟨by simpa using hs,?_,fun q e' hq=>absurd hq (by omega),fun q e' hq he' hin n b hb=>?_,by rw[hs.od.r0];exact AA9 _,by rw[hs.od.b0];exact AA9 _,?_,?_,fun q e' hq=>absurd hq (by omega),fun t v ht hv=>?_⟩,[],by simp⟩
   ·rw[LB _ fun q hq=>by simp;omega]
   ·obtain⟨q,rfl⟩:∃ q',q=q'+1:=⟨q-1,by omega⟩
    obtain⟨o',stq,frq1,frq2,ha,t,ht⟩:=ih (p0+1) q e' (by simpa using he')
    have e1:i+1+q=i+(q+1):=by omega
    have hne:=(ha.st.ne i (by rw[e1];simpa using hin)).2
    obtain⟨h2,_⟩:=ha.st.od.ef _ _ hb
    ·rw[h2] at hne;have hsp:stq[i]? = some (YG (Dr.of ops.toList) (JA (Dr.of ops.toList).ops (Ch (Dr.of ops.toList) (AW o) (Cw (Dr.of ops.toList) i) st fr) o) fr fr1):=by
      rw[ht,AA5,ABp (by omega),hl,AEh]
      rfl
     simp only[SQ,hsp,YG,ACB] at hne;rcases hne with h3 | h3
     ·left;rw[e1] at h3;unfold Ahk;rw[ACa] at *;split at h3
      ·rename_i k' hk';rw[hk',AA2 h3]
      ·cases h3
     ·right;rw[hs.od.b0];exact Ct h3
   ·have:=hs.od.rl;rw[hs.od.r0];omega
   ·have:=hs.od.bl;rw[hs.od.b0];omega
   ·have:lkp fr1.f.sl t=some v:=by
     rw[hs.od.f];simp only[B3,Nz,ht,hv,if_true]
    exact this
  | succ p =>
   obtain⟨o',stp,frp,frq,ha,t,ht⟩:=ih (p0+1) p e' (by simpa using he)
   have e1:i+1+p=i+(p+1):=by omega
   have hrl:=hs.od.rl;have hbl:=hs.od.bl;refine⟨o',stp,frp,frq,⟨by rw[← e1];exact ha.st,?_,fun q e2 hq he2=>?_,fun q e2 hq he2 hin n b hb=>?_,?_,?_,ha.rhi,ha.bhi,fun q e2 hq he2=>?_,ha.val⟩,YG (Dr.of ops.toList) (JA (Dr.of ops.toList).ops (Ch (Dr.of ops.toList) (AW o) (Cw (Dr.of ops.toList) i) st fr) o) fr fr1 :: t,by rw[ht];simp⟩
   ·rw[ha.f,AgI];have e2:decide (p0<p0+(p+1))=true:=by simp
    simp only[e2,cond_true];rw[← hs.od.f];have:p0+1+p=p0+(p+1):=by omega
    rw[this]
   ·cases q with
    | zero =>
     simp only[ABY,ABr] at he2;subst he2;refine⟨_,by rw[ht,ACa,AA5,ABp (by omega),hl,AEh];rfl,hs.od.r0.symm,by simp only[YG];omega,hs.od.b0.symm,by simp only[YG];omega,fun n b hb=>?_⟩
     exact (hs.od.ef _ _ hb).1
    | succ q =>
     have:=ha.sp q e2 (by omega) (by simpa using he2)
     rw[show i+(q+1)=i+1+q by omega]
     exact this
   ·obtain⟨q,rfl⟩:∃ q',q=q'+1:=⟨q-1,by omega⟩
    rw[show i+(q+1)=i+1+q by omega] at hin ⊢
    exact ha.later q e2 (by omega) (by simpa using he2) (by rw[e1];exact hin) n b hb
   ·have:=ha.rlo;omega
   ·have:=ha.blo;omega
   ·cases q with
    | zero =>
     simp only[ABY,ABr] at he2;subst he2;have:=ha.rlo;have:=ha.blo;rw[hs.od.r0,hs.od.b0];omega
    | succ q=>exact ha.r q e2 (by omega) (by simpa using he2)
end Go.Proofs.YtkemdhpdfaejgaaGreatDoor.X
namespace Go.Proofs.YtkemdhpdfaejgaaGreatDoor.X
open Go Go.RowKit
variable [CW]
variable {C:Cx} {fr s:Fr} {big:FF} {g:Sg} {a:Act} {w w':World} {ch:List (Nat×Bool)} {E:Env} {ops:Array Oper}
def cnt (L:Nat→Bool):Nat→Nat
 | 0=>0
 | k+1=>cnt L k+(bif L k then 0 else 1)
theorem AeO {L L':Nat→Bool} {p:Nat} (h0:L p=false) (h1:L' p=true) (h2:∀ j,j≠p→L' j=L j):∀ k,p<k→cnt L k=cnt L' k+1
 | 0,h=>absurd h (by omega)
 | k+1,h=>by
  have same:∀ k,k≤p→cnt L k=cnt L' k:=by
   intro k
   induction k with
   | zero=>intro _;rfl
   | succ k ih=>intro hk;simp only[cnt,ih (by omega),h2 k (by omega)]
  by_cases hk:p=k
  ·subst hk;simp only[cnt,h0,h1,same p (AA9 _),cond_true,cond_false]
  ·simp only[cnt,AeO h0 h1 h2 k (by omega),h2 k (by omega)]
   omega
theorem PH {L:Nat→Bool}:∀ k,cnt L k=0→∀ q,q<k→L q=true
 | 0,_,q,h=>absurd h (by omega)
 | k+1,hc,q,h=>by
  simp only[cnt] at hc;by_cases hq:q=k
  ·subst hq;cases hl:L q
   ·rw[hl,cond_false] at hc;omega
   ·rfl
  ·exact PH k (by omega) q (by omega)
theorem AeP {L:Nat→Bool}:∀ k,0<cnt L k→∃ q,q<k∧L q=false∧∀ j,j<q→L j=true
 | 0,h=>absurd h (by simp[cnt])
 | k+1,h=>by
  by_cases hk:0<cnt L k
  ·obtain⟨q,h1,h2,h3⟩:=AeP k hk;exact⟨q,by omega,h2,h3⟩
  ·refine⟨k,by omega,?_,fun j hj=>PH k (by omega) j hj⟩
   simp only[cnt] at h;cases hl:L k
   ·rfl
   ·rw[hl,cond_true] at h;omega
structure LI (ops:Array Oper) (m n:Nat) (L:Nat→Bool) (listed:Array Bool):Prop where
 size:listed.size=ops.size
 get:∀ j,j<ops.size→listed.getD j false=(decide (j<m)||(decide (j<m+n)&&L (j-m)))
theorem KO {l:Array Bool} {j:Nat} (h:j<l.size):l.getD j true=l.getD j false:=by simp[Array.getD,h]
theorem LI.set {m n p:Nat} {L:Nat→Bool} {listed:Array Bool} (h:LI ops m n L listed) (hp:p<n) (hpo:m+p<ops.size):LI ops m n (fun q=>L q||Nat.beq q p) (listed.setIfInBounds (m+p) true):=by
 refine⟨by rw[AD8];exact h.size,fun j hj=>?_⟩
 by_cases hjp:j=m+p
 ·subst hjp;have h1:(listed.setIfInBounds (m+p) true).getD (m+p) false=true:=by
   have:=h.size;simp only[ABq];rw[AC9 (by omega)]
   rfl
  rw[h1];have e1:m+p-m=p:=by omega
  rw[e1,B8];simp[hp]
 ·rw[getD_set_ne false (fun e=>hjp e.symm),h.get j hj];by_cases h1:j<m
  ·simp[h1]
  ·have:Nat.beq (j-m) p=false:=ES (by omega)
   rw[this,ACw]
structure Inv (C:Cx) (m:Nat) (fr:Fr) (es:List Ent) (L:Nat→Bool) (g:Sg) (a:Act) (w:World):Prop where
 sim:Sim C (Bz es L 0 fr.f) g a w
 β:∀ n,fr.bx.length≤n→(∀ q e,es[q]? = some e→L q=true→¬ (e.b0≤n∧n<e.b0+e.nb.length))→g.β n=none
 ρ:∀ n,fr.rw.length≤n→(∀ q e,es[q]? = some e→L q=true→¬ (e.r0≤n∧n<e.r0+e.nr.length))→g.ρ n=none
theorem HR {m:Nat} {st:List Jc} {fr fr':Fr} {es:List Ent} (hch:KN C ops m st fr es fr') {p q:Nat} {e e':Ent} (hpq:p<q) (hp:es[p]? = some e) (hq:es[q]? = some e'):e.r0+e.nr.length≤e'.r0∧e.b0+e.nb.length≤e'.b0:=by
 obtain⟨_,_,_,_,h,_⟩:=HQ hch 0 q e' hq;exact h.r p e hpq hp
theorem AmB {m:Nat} {st:List Jc} {fr fr':Fr} {es:List Ent} (hch:KN C ops m st fr es fr') (hst:st.length=m) (hu:Up fr.sl) (hnw:DB fr ((Dr.of ops.toList).ds.drop m)=true)
  {L:Nat→Bool} {p:Nat} {e:Ent} (he:es[p]? = some e) (hL:L p=false)
  (hlow:∀ q,q<p→L q=false→m+q∈Cw (Dr.of ops.toList) (m+p)) (hhigh:∀ q,p<q→q<es.length→L q=true→m+q∈Cw (Dr.of ops.toList) (m+p)∧m+p∈Cw (Dr.of ops.toList) (m+q))
  {g:Sg} {a:Act} {w:World} (hI:Inv C m fr es L g a w) {o:Oper} (ho:ops[m+p]? = some o) {K:Act→World→Prop} {Q:Exit→Act→World→Prop} (hK:∀ g' a' w',Inv C m fr es (fun q=>L q||Nat.beq q p) g' a' w'→K a' w') :
  if Region.wanted o (yielded ops a.tmps) then o.wp C.P a w K Q else K (a.put o.dst undef) w:=by
 obtain⟨o',stp,frp,frq,hat,tt,htt⟩:=HQ hch 0 p e he;have ho':=hat.st.op;rw[ho] at ho';cases ho';have hod:=hat.st.od;obtain⟨ds1,_⟩:=PG ho;have hfrpnt:frp.nt=fr.nt:=by
  have:=congrArg FF.nt hat.f;rw[KI] at this;exact this
 -- what other entries write
 have other:∀ {q e'},es[q]? = some e'→∃ o' stq frq1 frq2,AtP C ops m fr es fr' 0 q e' o' stq frq1 frq2:=fun h=>by
  obtain⟨o',s1,f1,f2,h1,_⟩:=HQ hch 0 _ _ h;exact⟨o',s1,f1,f2,h1⟩
 have dsq:∀ {q e'},es[q]? = some e'→(Dr.of ops.toList).ds.getD (m+q) none=e'.d:=fun h=>by
  obtain⟨o',s1,f1,f2,h1⟩:=other h;rw[(PG h1.st.op).1,h1.st.od.d]
 have lenp:∀ {q e'},es[q]? = some e'→q<es.length:=fun h=>(ABd.1 h).1
 -- the part of the frame that the operation was looked at in
 have diff:∀ q e',es[q]? = some e'→decide (q<p)≠L q→m+q∈Cw (Dr.of ops.toList) (m+p)∧q≠p:=fun q e' hq hd=>by
  by_cases h1:q<p
  ·rw[decide_eq_true h1] at hd;exact⟨hlow q h1 (by cases h2:L q<;>simp_all),by omega⟩
  ·rw[decide_eq_false h1] at hd;have h2:L q=true:=by cases h2:L q<;>simp_all
   have h3:q≠p:=fun e=>by rw[e,hL] at h2;cases h2
   exact⟨(hhigh q (by omega) (lenp hq) h2).1,h3⟩
 have hsub:Sub (Ch (Dr.of ops.toList) (AW o) (Cw (Dr.of ops.toList) (m+p)) stp frp) (Bz es L 0 fr.f):=by
  have hbx:∀ i b,at? (Ch (Dr.of ops.toList) (AW o) (Cw (Dr.of ops.toList) (m+p)) stp frp).bx i=some b→(Bz es L 0 fr.f).bx i=some b:=fun i b hb=>by
   obtain⟨h1,h2⟩:=KL hb;have h3:frp.f.bx i=some b:=h1;rw[hat.f] at h3;rw[← h3];refine (U1 es rfl fun q e' hq hd=>?_).symm;have hd':decide (q<p)≠L q:=by simpa using hd
   obtain⟨hin,hqp⟩:=diff q e' hq hd';have hil:=Bq h1;rw[← hod.b0] at hil
   rintro (hw | ⟨b',hw⟩)
   ·by_cases hlt:q<p
    ·refine h2 (AA8.2 (.inl (ACu.2 ⟨m+q,hin,?_⟩)));obtain⟨sp,hs1,_,_,hs4,hs5,_⟩:=hat.sp q e' hlt hq;rw[hs1];exact ADP.2 ⟨i-e'.b0,(by rw[hs5];omega),(by rw[hs4];omega)⟩
    ·have:=(HR hch (show p<q by omega) he hq).2
     omega
   ·by_cases hlt:q<p
    ·refine h2 (AA8.2 (.inr (AC2.2 ⟨m+q,hin,?_⟩)));obtain⟨sp,hs1,_,_,_,_,hs6⟩:=hat.sp q e' hlt hq;rw[hs1];exact hs6 _ _ hw
    ·have hLq:L q=true:=by
      rw[decide_eq_false hlt] at hd';cases h3:L q<;>simp_all
     have hqp':p<q:=by omega
     rcases hat.later q e' hqp' hq (hhigh q hqp' (lenp hq) hLq).2 i b' hw with h4 | h4
     ·refine h2 (AA8.2 (.inr (AC2.2 ⟨m+q,hin,?_⟩)));have:stp[m+q]? = none:=ABu (by rw[hat.st.sl];omega)
      rw[this];exact h4
     ·omega
  have hrw:∀ i r,at? (Ch (Dr.of ops.toList) (AW o) (Cw (Dr.of ops.toList) (m+p)) stp frp).rw i=some r→(Bz es L 0 fr.f).rw i=some r:=fun i r hr=>by
   obtain⟨h1,h2,hrp⟩:=D2 hr;have h3:frp.f.rw i=some r:=h1;rw[hat.f] at h3;have hz:AW o=false:=KM hr;refine X3 es (m:=r.m) (fun _ _ h=>h) (fun q e' hq hd=>?_) r rfl h3;have hd':decide (q<p)≠L q:=fun e=>hd (by simpa using e.symm)
   obtain⟨hin,hqp⟩:=diff q e' hq hd';have hil:=Bq h1;rw[← hod.r0] at hil;refine⟨fun hw=>?_,fun i0 e0 s0 xs hi0=>?_,fun hLq r1 hr1 is0 hi0 i0 hm0=>?_⟩
   case refine_2 =>
    obtain⟨o',s1,f1,f2,ha⟩:=other hq;have hin2:m+p∈Cw (Dr.of ops.toList) (m+q):=by
     obtain⟨a1,a2,a3,a4⟩:=CM.1 hin;exact CM.2 ⟨(ABC.1 ho).1,fun e=>a2 e.symm,a4,a3⟩
    have:=AA3.1 (ha.st.od.st i0 e0 s0 xs hi0).1 _ hin2;have ho2:(Dr.of ops.toList).ops[m+p]? = some o:=by simpa[Dr.of] using ho
    rw[ho2] at this;have this:AW o=true:=this;rw[hz] at this;cases this
   case refine_3 =>
    rw[ABw] at hLq;have hpq:p<q:=by
     rcases ABK q p with h4 | h4
     ·rw[decide_eq_true h4,hLq] at hd';exact absurd rfl hd'
     ·omega
    have h6:=(hhigh q hpq (lenp hq) hLq).2;obtain⟨o',s1,f1,f2,ha⟩:=other hq;obtain⟨sp,hs1,hs2,_⟩:=ha.sp p e hpq he;have hin2:m+p∈Cw (Dr.of ops.toList) (m+q):=by
     obtain⟨a1,a2,a3,a4⟩:=CM.1 hin;exact CM.2 ⟨(ABC.1 ho).1,fun e=>a2 e.symm,a4,a3⟩
    have hlo:=AA3.1 ((ha.st.od.gn is0 hi0 i0 hm0).1.resolve_right fun hal=>by
     have:=AA3.1 hal _ hin2;have ho2:(Dr.of ops.toList).ops[m+p]? = some o:=by simpa[Dr.of] using ho
     rw[ho2] at this;have this:AW o=true:=this;rw[hz] at this;cases this) _ h6
    rw[hs1] at hlo;have hlo:=Ct hlo;rw[hs2] at hlo;refine⟨by omega,fun pp pa hm=>?_⟩
    obtain⟨r',hr'⟩:=hrp pp pa (hr1▸hm);have h7:=Bq (D2 hr').1;rw[← hod.r0] at h7;omega
   have hw':e'.r0≤i∧i<e'.r0+e'.nr.length:=hw;by_cases hlt:q<p
   ·refine h2 (ACu.2 ⟨m+q,hin,?_⟩);obtain⟨sp,hs1,hs2,hs3,_⟩:=hat.sp q e' hlt hq;rw[hs1];exact ADP.2 ⟨i-e'.r0,(by rw[hs3];omega),(by rw[hs2];omega)⟩
   ·have:=(HR hch (show p<q by omega) he hq).1
    omega
  refine⟨?_,hat.st.up0.filter _,fun t v ht=>?_,hbx,hrw,fun i r pp pa hr hm r' hr'=>?_⟩
  ·rw[KI];exact hfrpnt
  ·obtain⟨h1,h2⟩:=AmA hat.st.up0 ht;have h3:lkp frp.f.sl t=some v:=h1;rw[hat.f] at h3;rw[← h3];refine (U2 es rfl fun q e' hq hd=>?_).symm;have hd':decide (q<p)≠L q:=by simpa using hd
   obtain⟨hin,_⟩:=diff q e' hq hd';intro hdt;refine h2 (ABe.2 ⟨m+q,hin,?_⟩);rw[dsq hq,hdt]
  ·obtain⟨_,_,h3⟩:=D2 hr;obtain⟨r2,h4⟩:=h3 pp pa hm;have h5:=hrw pp r2 h4;rw[hr'] at h5;cases h5;exact h4
 have hfree:AtX e g:=⟨fun j h1 h2=>hI.β j (ABo hat.blo h1) fun q e' hq hl hin=>by
   by_cases hqp:q=p
   ·rw[hqp,hL] at hl;cases hl
   ·rcases ABK q p with h3 | h3
    ·have:=(HR hch h3 hq he).2;omega
    ·have:=(HR hch (show p<q by omega) he hq).2;omega,fun j h1 h2=>hI.ρ j (ABo hat.rlo h1) fun q e' hq hl hin=>by
   by_cases hqp:q=p
   ·rw[hqp,hL] at hl;cases hl
   ·rcases ABK q p with h3 | h3
    ·have:=(HR hch h3 hq he).1;omega
    ·have:=(HR hch (show p<q by omega) he hq).1;omega⟩
 have hquiet:Mm (Bz es L 0 fr.f) o.dst:=fun t v hv=>by
  rcases R4 es hv with h1 | ⟨q,e',h1,h2,h3,h4⟩
  ·refine GG hu hnw ?_ t v h1;have:=(PG ho).2;rw[← ACx] at this;exact ACN this
  ·rw[ABw] at h2;have hqp:q≠p:=fun e=>by rw[e,hL] at h2;cases h2
   obtain⟨o',s1,f1,f2,ha⟩:=other h1;rcases ABK q p with h5 | h5
   ·refine GG ha.st.up ha.st.nw ?_ t v (ha.val t v h3 h4);have:=(PG ho).2;rw[show m+p=(m+q+1)+(p-q-1) by omega,← ACx] at this
    exact ACN this
   ·have h6:=(hhigh q (by omega) (lenp h1) h2).2
    exact ha.st.od.ws v h4 _ (ABe.2 ⟨m+p,h6,ds1⟩)
 refine hod.ent hI.sim hsub hfree hquiet fun g' a' w' hf hs=>hK g' a' w' ?_;have hindep:∀ q e',p<q→es[q]? = some e'→L (0+q)=true→X1 e e':=fun q e' hpq hq hl=>by
  rw[ABw] at hl;obtain⟨o',s1,f1,f2,ha⟩:=other hq;have h6:=(hhigh q hpq (lenp hq) hl).2;obtain⟨n1,n2⟩:=ha.st.ne _ h6;obtain⟨r1,r2⟩:=HR hch hpq he hq;have hin2:m+q∈Cw (Dr.of ops.toList) (m+p):=by
   obtain⟨a1,a2,a3,a4⟩:=CM.1 h6;exact CM.2 ⟨(ABC.1 ha.st.op).1,fun e=>a2 e.symm,a4,a3⟩
  have ho2:(Dr.of ops.toList).ops[m+p]? = some o:=by simpa[Dr.of] using ho
  have ho3:(Dr.of ops.toList).ops[m+q]? = some o':=by simpa[Dr.of] using ha.st.op
  -- where one sets a row, the other looks at none
  have set1':∀ i0 e0 s0 xs,e'.ef=.set i0 e0 s0 xs→AW o=true:=fun i0 e0 s0 xs h=>by
   have:=AA3.1 (ha.st.od.st i0 e0 s0 xs h).1 _ h6;rw[ho2] at this;exact this
  have set2':∀ i0 e0 s0 xs,e.ef=.set i0 e0 s0 xs→AW o'=true:=fun i0 e0 s0 xs h=>by
   have:=AA3.1 (hod.st i0 e0 s0 xs h).1 _ hin2;rw[ho3] at this;exact this
  refine⟨fun t ht ht'=>?_,fun n hn hn'=>?_,fun n hn hn'=>?_,fun n r hn hr=>AeL fun i0 hi0=>?_,fun n r hn hr=>AeL fun i0 hi0=>?_,fun n x=>?_⟩
  ·rw[dsq hq,dsq he,ht,ht'] at n1;simp[neO] at n1
  ·obtain⟨sp,hs1,_,_,hs4,hs5,hs6⟩:=ha.sp p e hpq he;rcases hn with hn | ⟨b,hn⟩<;>rcases hn' with hn' | ⟨b',hn'⟩
   ·omega
   ·obtain⟨_,b3,h8⟩:=ha.st.od.ef _ _ hn'
    ·obtain⟨_,h9⟩:=KL h8;refine h9 (AA8.2 (.inl (ACu.2 ⟨m+p,h6,?_⟩)));rw[hs1];exact ADP.2 ⟨n-e.b0,(by rw[hs5];omega),(by rw[hs4];omega)⟩
   ·obtain⟨_,b3,h8⟩:=hod.ef _ _ hn
    ·obtain⟨h9,_⟩:=KL h8;have:=Bq h9;rw[← hod.b0] at this;omega
   ·obtain⟨_,b3,h8⟩:=ha.st.od.ef _ _ hn'
    ·obtain⟨_,h9⟩:=KL h8;refine h9 (AA8.2 (.inr (AC2.2 ⟨m+p,h6,?_⟩)));rw[hs1];exact hs6 _ _ hn
  ·have h1:e.r0≤n∧n<e.r0+e.nr.length:=hn;have h2:e'.r0≤n∧n<e'.r0+e'.nr.length:=hn';omega
  ·have h1:e.r0≤n∧n<e.r0+e.nr.length:=hn;obtain⟨sp,hs1,hs2,hs3,_⟩:=ha.sp p e hpq he;have hne:(∃ r0,at? (Ch (Dr.of ops.toList) (AW o') (Cw (Dr.of ops.toList) (m+q)) s1 f1).rw i0=some r0)→n≠i0:=by
    rintro⟨r0,hr0⟩ e0
    subst e0;refine (D2 hr0).2.1 (ACu.2 ⟨m+p,h6,?_⟩);rw[hs1];exact ADP.2 ⟨n-e.r0,(by rw[hs3];omega),(by rw[hs2];omega)⟩
   rcases hi0 with ⟨is0,hi0,hm0⟩ | ⟨e0,s0,xs,hi0⟩
   ·obtain⟨hl0,r0,hr0⟩:=ha.st.od.gn is0 hi0 i0 hm0;refine⟨hne ⟨r0,hr0⟩,fun pp pa hm=>?_⟩;obtain⟨r',hr'⟩:=hod.par r (ABt hr) pp pa hm;rcases hl0 with hl0 | hl0
    ·have hlo:=AA3.1 hl0 _ h6;rw[hs1] at hlo;have hlo:=Ct hlo;rw[hs2] at hlo;have h7:=Bq (D2 hr').1;rw[← hod.r0] at h7;omega
    ·have h8:=KM hr';have:=AA3.1 hl0 _ h6;rw[ho2] at this;have this:AW o=true:=this;rw[this] at h8;cases h8
   ·refine⟨hne (ha.st.od.st i0 e0 s0 xs hi0).2,fun pp pa hm=>?_⟩;obtain⟨r',hr'⟩:=hod.par r (ABt hr) pp pa hm;have h8:=KM hr';rw[set1' i0 e0 s0 xs hi0] at h8;cases h8
  ·have h2:e'.r0≤n∧n<e'.r0+e'.nr.length:=hn;rcases hi0 with ⟨is0,hi0,hm0⟩ | ⟨e0,s0,xs,hi0⟩
   ·obtain⟨_,r0,hr0⟩:=hod.gn is0 hi0 i0 hm0;have h7:=Bq (D2 hr0).1;rw[← hod.r0] at h7;refine⟨by omega,fun pp pa hm e0=>?_⟩
    subst e0;obtain⟨r',hr'⟩:=ha.st.od.par r (ABt hr) pp pa hm;have h8:f1.f.rw pp=some r':=(D2 hr').1;rw[ha.f,R3 es (p:=p) (e:=e) he (by simp;omega) hi0 hm0 fun q' e2 hq' he2 hw2=>?_] at h8
    ·cases h8
    ·have h9:e2.r0≤pp∧pp<e2.r0+e2.nr.length:=hw2;rcases ABK p q' with h10 | h10
     ·have:=(HR hch h10 he he2).1;omega
     ·have:q'=p:=by omega
      subst this;rw[he] at he2;cases he2;omega
   ·obtain⟨_,r0,hr0⟩:=hod.st i0 e0 s0 xs hi0;have h7:=Bq (D2 hr0).1;rw[← hod.r0] at h7;refine⟨by omega,fun pp pa hm=>?_⟩
    obtain⟨r',hr'⟩:=ha.st.od.par r (ABt hr) pp pa hm;have h8:=KM hr';rw[set2' i0 e0 s0 xs hi0] at h8;cases h8
  ·by_cases hse:R2 e.ef
   ·by_cases hse':R2 e'.ef
    ·exact Amz hse hse' n x
    ·have hp:e.ef=.pure:=by
      obtain⟨i0,e0,s0,xs,h⟩:∃ i0 e0 s0 xs,e'.ef=.set i0 e0 s0 xs:=by
       cases h:e'.ef with
       | set i0 e0 s0 xs=>exact⟨i0,e0,s0,xs,rfl⟩
       | _=>exact absurd (fun _ _ _ _ h'=>by rw[h] at h';cases h') hse'
      exact hod.rwl (set1' i0 e0 s0 xs h)
     rw[hp];rfl
   ·have hp:e'.ef=.pure:=by
     obtain⟨i0,e0,s0,xs,h⟩:∃ i0 e0 s0 xs,e.ef=.set i0 e0 s0 xs:=by
      cases h:e.ef with
      | set i0 e0 s0 xs=>exact⟨i0,e0,s0,xs,rfl⟩
      | _=>exact absurd (fun _ _ _ _ h'=>by rw[h] at h';cases h') hse
     exact ha.st.od.rwl (set2' i0 e0 s0 xs h)
    rw[hp];rfl
 refine⟨hs.feq (X2 es (i:=p) (L:=L) (L':=fun q=>L q||Nat.beq q p) (p:=0) he (by rw[ABw];exact hL) (by rw[ABw];simp[B8]) (fun j hj=>by rw[ABw] at hj;rw[ES hj,ACw]) hindep).symm (U0 es hu),fun n h1 h2=>?_,fun n h1 h2=>?_⟩
 ·have h3:=h2 p e he (by simp[B8])
  rw[hf.β n h3];exact hI.β n h1 fun q e' hq hl=>h2 q e' hq (by simp[hl])
 ·have h3:=h2 p e he (by simp[B8])
  rw[hf.ρ n h3];exact hI.ρ n h1 fun q e' hq hl=>h2 q e' hq (by simp[hl])
theorem AmC (hed:Ek ops.toList 0=true) {m:Nat} {st:List Jc} {fr fr':Fr} {es:List Ent} (hch:KN C ops m st fr es fr') (hst:st.length=m) (hu:Up fr.sl) (hnw:DB fr ((Dr.of ops.toList).ds.drop m)=true) (hlen:m+es.length≤ops.size)
  (hcut:m+es.length<ops.size→Cw (Dr.of ops.toList) (m+es.length)=[]) {N:Nat} {Q:Exit→Act→World→Prop}
  (hK:∀ g a w listed fuel,Sim C fr'.f g a w→Fit fr' g→LI ops (m+es.length) 0 (fun _=>false) listed→DC ops listed→N≤fuel→wpAny C.P .any ops Q fuel listed a w) :
  ∀ (n:Nat) {L:Nat→Bool} {listed:Array Bool} {g:Sg} {a:Act} {w:World} {fuel:Nat},cnt L es.length=n→n+N≤fuel→LI ops m es.length L listed→DC ops listed→Inv C m fr es L g a w→wpAny C.P .any ops Q fuel listed a w
 | 0,L,listed,g,a,w,fuel,hn,hfu,hLI,hdc,hI=>by
  have hall:=PH _ hn;obtain⟨h1,h2,h3,_⟩:=LC hch 0;refine hK g a w listed fuel ?_ ?_ ⟨hLI.size,fun j hj=>?_⟩ hdc (by omega)
  ·refine hI.sim.feq ?_ (by rw[h1];exact U0 es hu)
   rw[h1];have hsame:∀ q e,es[q]? = some e→L (0+q)=(fun q=>decide (q<0+es.length)) (0+q):=fun q e hq=>by
    have hql:=(ABd.1 hq).1;rw[ABw,hall q hql];simp[hql]
   have:FEq (Bz es L 0 fr.f) (Bz es (fun q=>decide (q<0+es.length)) 0 fr.f) :=
    ⟨by rw[KI,KI],fun n=>U1 es rfl fun q e hq hd=>absurd (hsame q e hq) hd,fun n=>AeN es rfl hsame,fun t=>U2 es rfl fun q e hq hd=>absurd (hsame q e hq) hd⟩
   exact this
  ·refine⟨fun n hnn=>hI.β n (by omega) fun q e hq _ hin=>?_,fun n hnn=>hI.ρ n (by omega) fun q e hq _ hin=>?_⟩
   ·obtain⟨_,_,_,_,ha,_⟩:=HQ hch 0 q e hq;have:=ha.bhi;omega
   ·obtain⟨_,_,_,_,ha,_⟩:=HQ hch 0 q e hq;have:=ha.rhi;omega
  ·rw[hLI.get j hj];by_cases h4:j<m
   ·simp[h4];omega
   ·by_cases h5:j<m+es.length
    ·have:=hall (j-m) (by omega)
     simp[h4,h5,this]
    ·simp[h4,h5]
 | n+1,L,listed,g,a,w,fuel,hn,hfu,hLI,hdc,hI=>by
  obtain⟨fuel,rfl⟩:∃ k,fuel=k+1:=⟨fuel-1,by omega⟩
  obtain⟨q0,hq0,hq1,hq2⟩:=AeP _ (show 0<cnt L es.length by omega)
  have hsz:=hLI.size
  -- what may come up
  have hrd:∀ j,j∈Region.ready .any ops listed→∃ p e o,j=m+p∧es[p]? = some e∧ops[j]? = some o∧L p=false∧(∀ i∈(Dr.of ops.toList).bs.getD j [],listed.getD i false=true)∧∀ e∈o.after,Region.binds .any e=true→listed.getD e.on false=true:=by
   intro j hj;obtain⟨h1,o,h2,h3⟩:=mem_ready.1 hj;have hjs:j<ops.size:=(ABC.1 h2).1;have hbs:=Iy hed hdc j h2 h3;rw[KO (by omega),hLI.get j hjs] at h1
   simp only[ADe,decide_eq_false_iff_not,Bool.and_eq_false_iff] at h1;obtain⟨h4,h5⟩:=h1;have hjl:j<m+es.length:=by
    apply Decidable.byContradiction
    intro hge
    -- the one that is comparable with all
    have hcs:m+es.length<ops.size:=by omega
    have hc:=hcut hcs;have hq0':m+q0≠m+es.length:=by omega
    have hun:listed.getD (m+q0) false=false:=by
     rw[hLI.get _ (by omega)]
     have:m+q0-m=q0:=by omega
     simp[this,hq1]
    have comp:∀ x,x<ops.size→x≠m+es.length→(m+es.length∈(Dr.of ops.toList).bs.getD x []∨x∈(Dr.of ops.toList).bs.getD (m+es.length) []):=by
     intro x hx hne;have:x ∉ Cw (Dr.of ops.toList) (m+es.length):=by rw[hc];simp
     rw[CM] at this
     apply Decidable.byContradiction
     intro hno;exact this ⟨hx,fun e=>hne e.symm,fun h=>hno (.inl h),fun h=>hno (.inr h)⟩
    have c1:m+q0∈(Dr.of ops.toList).bs.getD (m+es.length) []:=by
     rcases comp (m+q0) (by omega) hq0' with h | h
     ·have:=X5 hed _ h;omega
     ·exact h
    by_cases hje:j=m+es.length
    ·subst hje;have:=hbs _ c1;rw[hun] at this;cases this
    ·have c2:m+es.length∈(Dr.of ops.toList).bs.getD j []:=by
      rcases comp j hjs hje with h | h
      ·exact h
      ·have:=X5 hed _ h;omega
     have h6:=hbs _ c2;obtain⟨oc,hoc,_⟩:=PF c1;have h7:=Iy hed hdc _ hoc (hdc _ oc hoc h6) _ c1;rw[hun] at h7;cases h7
   have hpl:j-m<es.length:=by omega
   refine⟨j-m,es[j-m],o,by omega,AA7 hpl,h2,?_,hbs,h3⟩
   rcases h5 with h5 | h5
   ·exact absurd hjl h5
   ·exact h5
  refine⟨fun h0=>?_,fun j hj=>?_⟩
  ·-- the first that has not come up may come up
   exfalso;have hqo:m+q0<ops.size:=by omega
   have:m+q0∈Region.ready .any ops listed:=by
    refine mem_ready.2 ⟨?_,_,ACK hqo,fun e he hb=>?_⟩
    ·rw[KO (by omega),hLI.get _ hqo]
     have:m+q0-m=q0:=by omega
     simp[this,hq1]
    ·have h1:=HP ops.toList hed (j:=m+q0) (by simp[hqo]) e he hb
     rw[hLI.get _ (by omega)]
     by_cases h2:e.on<m
     ·simp[h2]
     ·have:=hq2 (e.on-m) (by omega)
      simp[this]<;>omega
   rw[h0] at this;cases this
  ·obtain⟨p,e,o,rfl,he,ho,hLp,hbs,hrd3⟩:=hrd j hj;have hpl:p<es.length:=(ABd.1 he).1;have hps:m+p<ops.size:=by omega
   have hlow:∀ q,q<p→L q=false→m+q∈Cw (Dr.of ops.toList) (m+p):=fun q hq hlq=>by
    refine CM.2 ⟨by omega,by omega,fun h=>?_,fun h=>?_⟩
    ·have:=X5 hed _ h;omega
    ·have:=hbs _ h;rw[hLI.get _ (by omega)] at this
     have e1:m+q-m=q:=by omega
     simp[e1,hlq] at this<;>omega
   have hhigh:∀ q,p<q→q<es.length→L q=true→m+q∈Cw (Dr.of ops.toList) (m+p)∧m+p∈Cw (Dr.of ops.toList) (m+q):=fun q hq hql hlq=>by
    have n1:m+p ∉ (Dr.of ops.toList).bs.getD (m+q) []:=fun h=>by
     obtain⟨oq,hoq,_⟩:=PF h;have h7:listed.getD (m+q) false=true:=by
      rw[hLI.get _ (by omega)]
      have e1:m+q-m=q:=by omega
      simp[e1,hlq]<;>omega
     have:=Iy hed hdc _ hoq (hdc _ oq hoq h7) _ h;rw[hLI.get _ hps] at this;have e1:m+p-m=p:=by omega
     simp[e1,hLp] at this<;>omega
    have n2:m+q ∉ (Dr.of ops.toList).bs.getD (m+p) []:=fun h=>by
     have:=X5 hed _ h;omega
    exact⟨CM.2 ⟨by omega,by omega,n1,n2⟩,CM.2 ⟨hps,by omega,n2,n1⟩⟩
   have hdc':DC ops (listed.setIfInBounds (m+p) true):=fun i oi hoi hli x hx hb=>by
    by_cases hi:i=m+p
    ·subst hi;rw[ho] at hoi;cases hoi;exact getD_set_true (hrd3 x hx hb)
    ·rw[getD_set_ne false (fun e=>hi e.symm)] at hli;exact getD_set_true (hdc i oi hoi hli x hx hb)
   have hc1:cnt (fun q=>L q||Nat.beq q p) es.length=n:=by
    have:=AeO (L:=L) (L':=fun q=>L q||Nat.beq q p) hLp (by simp[B8]) (fun j hj=>by simp[ES hj]) es.length hpl
    omega
   have:=AmB hch hst hu hnw he hLp hlow hhigh hI ho (K:=wpAny C.P .any ops Q fuel (listed.setIfInBounds (m+p) true)) (Q:=Q) fun g' a' w' hI'=>AmC hed hch hst hu hnw hlen hcut hK n hc1 (by omega) (hLI.set hpl hps) hdc' hI'
   unfold wpOp;rw[ho];simp only;split
   ·rename_i hw;rw[if_pos hw] at this;exact .inl this
   ·rename_i hw;rw[if_neg hw] at this;exact this
theorem AmD {R:Type} (hE:AF C.P E) (hC:Bf C) (hed:Ek ops.toList 0=true) {k:Fr→Option R} {r:R} {Q:Exit→Act→World→Prop} (hQ:∀ fr' g' a' w',k fr'=some r→Sim C fr'.f g' a' w'→Fit fr' g'→Q .normal a' w') :
  ∀ (n i:Nat) {st:List Jc} {fr:Fr} {g:Sg} {a:Act} {w:World} {listed:Array Bool} {fuel:Nat},ops.size-i=n→i≤ops.size→st.length=i→DB fr ((Dr.of ops.toList).ds.drop i)=true→JC E (Dr.of ops.toList) (ops.toList.drop i) i st fr k=some r →
   Sim C fr.f g a w→Fit fr g→LI ops i 0 (fun _=>false) listed→DC ops listed→n≤fuel→wpAny C.P .any ops Q fuel listed a w:=by
 intro n
 induction n using Nat.strongRecOn with
 | _ n ih =>
  intro i st fr g a w listed fuel hn hi hst hnw h hs hf hLI hdc hfu;obtain⟨es,fr',st',c1,c2,c3,c4,c5,c6,c7⟩:=Mn hE hC (ops.toList.drop i) rfl hst hs.up hnw h;have hel:i+es.length≤ops.size:=by simp at c5;omega
  obtain⟨b1,b2,b3,_⟩:=LC c1 0
  -- behind the run
  have cont:∀ g a w listed fuel,Sim C fr'.f g a w→Fit fr' g→LI ops (i+es.length) 0 (fun _=>false) listed→DC ops listed→ops.size-(i+es.length)≤fuel→wpAny C.P .any ops Q fuel listed a w:=by
   intro g a w listed fuel hs hf hLI hdc hfu;cases hd:ops.toList.drop (i+es.length) with
   | nil =>
    rw[hd] at c6;simp only[JC] at c6;have hge:ops.size≤i+es.length:=by
     have:=congrArg List.length hd;simp at this;omega
    obtain⟨s1,s2⟩:=Ae0 (E:=E) hs hf;refine wpAny_done ?_ (hQ _ _ _ _ c6 s1 s2) fuel;cases hr:Region.ready .any ops listed with
    | nil=>rfl
    | cons j l =>
     exfalso;have hj:j∈Region.ready .any ops listed:=by rw[hr];simp
     obtain⟨h1,o,h2,_⟩:=mem_ready.1 hj;have hjs:j<ops.size:=(ABC.1 h2).1;rw[KO (by rw[hLI.size];exact hjs),hLI.get j hjs] at h1
     simp at h1;omega
   | cons o r2 =>
    rw[hd] at c6;have hcut:=c7 o r2 hd;have hm:i+es.length<ops.size:=by
     have:=congrArg List.length hd;simp at this;omega
    have ho:ops[i+es.length]? = some o:=by
     have:(ops.toList.drop (i+es.length))[0]? = some o:=by rw[hd];rfl
     rw[ABW] at this;simpa using this
    have hd':ops.toList.drop (i+es.length+1)=r2:=by
     have:(ops.toList.drop (i+es.length)).drop 1=r2:=by rw[hd];rfl
     rwa [ACx] at this
    obtain⟨fuel,rfl⟩:∃ k,fuel=k+1:=⟨fuel-1,by omega⟩
    have comp:∀ x,x<ops.size→x≠i+es.length→(i+es.length∈(Dr.of ops.toList).bs.getD x []∨x∈(Dr.of ops.toList).bs.getD (i+es.length) []):=by
     intro x hx hne;have:x ∉ Cw (Dr.of ops.toList) (i+es.length):=by rw[hcut];simp
     rw[CM] at this
     apply Decidable.byContradiction
     intro hno;exact this ⟨hx,fun e=>hne e.symm,fun h=>hno (.inl h),fun h=>hno (.inr h)⟩
    have hrdy:i+es.length∈Region.ready .any ops listed:=by
     refine mem_ready.2 ⟨?_,o,ho,fun e he hb=>?_⟩
     ·rw[KO (by rw[hLI.size];exact hm),hLI.get _ hm]
      simp
     ·have h1:=HP ops.toList hed (j:=i+es.length) (by simpa using ho) e he hb
      rw[hLI.get _ (by omega)]
      simp;omega
    refine⟨fun h0=>(by rw[h0] at hrdy;cases hrdy),fun j hj=>?_⟩
    obtain⟨h1,oj,h2,h3⟩:=mem_ready.1 hj;have hjs:j<ops.size:=(ABC.1 h2).1;rw[KO (by rw[hLI.size];exact hjs),hLI.get j hjs] at h1
    have hji:i+es.length≤j:=by simp at h1;omega
    have hje:j=i+es.length:=by
     apply Decidable.byContradiction
     intro hne;rcases comp j hjs hne with h4 | h4
     ·have:=Iy hed hdc j h2 h3 _ h4;rw[hLI.get _ hm] at this;simp at this
     ·have:=X5 hed _ h4;omega
    subst hje;rw[ho] at h2;cases h2;simp only[JC] at c6;split at c6
    ·have:=Am3 (Q:=Q) hE hC (fr:=fr') hs hf (show opK E ops.toList o fr' _=some r from c6) (K:=wpAny C.P .any ops Q fuel (listed.setIfInBounds (i+es.length) true)) fun fr2 g2 a2 w2 s1 s2 h'=>by
      cases hw0:(Nat.ble fr'.bx.length fr2.bx.length&&DB fr2 ((Dr.of ops.toList).ds.drop (i+es.length+1)))
      ·rw[hw0] at h';cases h'
      ·rw[hw0,cond_true,← hd'] at h';simp only[AA1] at hw0;obtain⟨_,hw1⟩:=hw0;refine ih (ops.size-(i+es.length+1)) (by omega) (i+es.length+1) rfl (by omega) (by simp[c2]) hw1 h' s1 s2 ⟨by rw[AD8];exact hLI.size,fun j hj=>?_⟩ ?_ (by omega)
       ·by_cases hj2:j=i+es.length
        ·subst hj2;simp only[ABq];rw[AC9 (by rw[hLI.size];exact hm)]
         simp
        ·rw[getD_set_ne false (fun e=>hj2 e.symm),hLI.get j hj];simp;omega
       ·intro x ox hox hlx y hy hb;by_cases hx:x=i+es.length
        ·subst hx;rw[ho] at hox;cases hox;exact getD_set_true (h3 y hy hb)
        ·rw[getD_set_ne false (fun e=>hx e.symm)] at hlx;exact getD_set_true (hdc x ox hox hlx y hy hb)
     unfold wpOp;rw[ho];simp only;split
     ·rename_i hw;rw[if_pos hw] at this;exact .inl this
     ·rename_i hw;rw[if_neg hw] at this;exact this
    ·rename_i hne;exact absurd hcut hne
  refine AmC hed c1 hst hs.up hnw hel (fun h=>?_) cont (cnt (fun _=>false) es.length) (L:=fun _=>false) rfl ?_ ⟨hLI.size,fun j hj=>by rw[hLI.get j hj];simp⟩ hdc ⟨by rw[LB es fun _ _=>rfl];exact hs,fun n hn _=>hf.β n hn,fun n hn _=>hf.ρ n hn⟩
  ·have hlt:i+es.length<ops.toList.length:=by simpa using h
   exact c7 _ _ (ACJ hlt)
  ·have:∀ k,cnt (fun _=>false) k=k:=by
    intro k
    induction k with
    | zero=>rfl
    | succ k ih=>simp[cnt,ih]
   rw[this];omega
theorem AaJ {R:Type} (hE:AF C.P E) (hC:Bf C) (hm:C.P.follows .mixedOrders=true) {id:Nat} {k:Fr→Option R} {r:R} {Q:Exit→Act→World→Prop} (hQ:∀ fr' g' a' w',k fr'=some r→Sim C fr'.f g' a' w'→Fit fr' g'→Q .normal a' w')
  (h:ME E ops.toList fr k=some r) (hs:Sim C fr.f g a w) (hf:Fit fr g):(Code.region id ops true).wp C.P Q a w:=by
 unfold ME at h;cases hc:(Ek ops.toList 0&&DB fr (Dr.of ops.toList).ds)
 ·simp only[hc] at h;cases h
 ·simp only[hc,cond_true] at h;simp only[AA1] at hc;refine wp_region_any hm ?_;refine AmD hE hC hc.1 hQ ops.size 0 (by simp) (ABU _) rfl hc.2 (by simpa using h) (hs.quiet hC (w':={ w with drawn:=w.drawn+1 }) ⟨AmV w,rfl,rfl,rfl,AA9 _,fun _ _ _=>rfl⟩) hf ⟨by simp,fun j hj=>by simp[ABq,hj]⟩ (fun j o ho hl=>by
   have hj:j<ops.size:=(ABC.1 ho).1;simp[ABq,hj] at hl) (AA9 _)
end Go.Proofs.YtkemdhpdfaejgaaGreatDoor.X
