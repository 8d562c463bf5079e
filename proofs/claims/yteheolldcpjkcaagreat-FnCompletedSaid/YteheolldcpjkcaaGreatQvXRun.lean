/- Regions in the text's order. -/
import Derived.Test.YteheolldcpjkcaaGreatQvXCall
set_option linter.unusedSimpArgs false
set_option linter.unusedVariables false
set_option linter.unusedSectionVars false
namespace Go.Proofs.YteheolldcpjkcaaGreat.X
open Go Go.RowKit
variable [CW]
variable {C:Cx} {fr:Fr} {big:FF} {g:Sg} {a:Act} {w w':World} {ch:List (Nat×Bool)} {E:Env}
theorem BP {α:Type} (l:List (Option α)) (r:List α):at? (l++r.map some)=more l.length r (at? l):=by
 funext j;rw[Ef];unfold more;by_cases h:j<l.length
 ·rw[if_pos h,if_neg (by omega)]
 ·rw[if_neg h];by_cases h2:l.length≤j∧j<l.length+r.length
  ·rw[if_pos h2,BQ,Aqt];cases r[j-l.length]?<;>rfl
  ·have:at? (r.map some) (j-l.length)=none:=by
    rw[BQ,AqC (by simp;omega)]
    rfl
   rw[if_neg h2,this];cases hj:at? l j with
   | none=>rfl
   | some x=>exact absurd (A4 hj) h
theorem DH:∀ (is:List Nat) (rw:List (Option Ac)),(FW is rw).length=rw.length
 | [],_=>rfl
 | i :: is,rw=>by
  show (FW is (Ae i (AL rw i none))).length=_;rw[DH is,Bh,AR]
theorem AlD {nr:List Ac} {nb:List Bn} {ef:Eff} (h:Dl fr ef=true):(upd fr nr nb ef).f=grow fr fr.f nr nb ef:=by
 cases ef with
 | pure=>simp only[upd,grow,Fr.f,BL,B2,BP]
 | box i b =>
  simp only[upd,grow,Fr.f,BL,B2,BP,AR];congr 2;funext j;rw[AK];have:i<fr.bx.length:=by simp only[Dl,Nat.blt,ArB] at h;omega
  by_cases e:i=j
  ·subst e;rw[if_pos ⟨rfl,this⟩,if_pos rfl]
  ·rw[if_neg (fun h=>e h.1),if_neg (fun h=>e h.symm)]
 | tab rw =>
  have e:rw.length=fr.rw.length:=Aqm h;simp only[upd,grow,Fr.f,BL,B2,BP,e]
 | gone is=>simp only[upd,grow,Fr.f,BL,B2,BP,DH,Pk]
 | set i e s xs =>
  have hl:(ZY i e s xs fr.rw).length=fr.rw.length:=by simp[ZY,Bh,AR]
  simp only[upd,grow,Fr.f,BL,B2,BP,hl];rw[AjZ i e s xs fr.rw (fun r hr=>by simp only[Dl,hr] at h;exact h)]
theorem ZU {nr:List Ac} {nb:List Bn} {ef:Eff} (h:Dl fr ef=true):(upd fr nr nb ef).bx.length=fr.bx.length+nb.length∧(upd fr nr nb ef).rw.length=fr.rw.length+nr.length:=by
 cases ef with
 | pure=>simp[upd]
 | box i b=>simp[upd,AR]
 | tab rw =>
  have e:rw.length=fr.rw.length:=Aqm h;simp[upd,e]
 | gone is=>simp[upd,DH]
 | set i e s xs=>simp[upd,ZY,Bh,AR]
theorem Fit.free (h:Fit fr g) (nr:List Ac) (nb:List Bn):NP fr nr nb g:=⟨fun j hj _=>h.β j hj,fun j hj _=>h.ρ j hj⟩
theorem Fit.fresh {g':Sg} (h:Fit fr g) {nr:List Ac} {nb:List Bn} {ef:Eff} (ht:Dl fr ef=true) (hf:Kw fr nr nb g g'):Fit (upd fr nr nb ef) g':=by
 obtain⟨e1,e2⟩:=ZU (nr:=nr) (nb:=nb) ht;exact⟨fun i hi=>by rw[hf.β i (by omega)];exact h.β i (by omega),fun i hi=>by rw[hf.ρ i (by omega)];exact h.ρ i (by omega)⟩
theorem Af2:∀ (nr:List Ac) {n:Nat} {f:FF} {g:Sg},Sim C f g a w→(∀ j,n≤j→j<n+nr.length→g.ρ j=none)→(∀ r∈nr,r.m=.own∨r.m=.ro∨∃ p,r.m=.bor p none∧∃ r',f.rw p=some r'∧r'.m.mine=true) →
  ∃ g',g.Le g'∧g'.β=g.β∧(∀ j,¬ (n≤j∧j<n+nr.length)→g'.ρ j=g.ρ j)∧Sim C { f with rw:=more n (nr.map (AO false)) f.rw } g' a w
 | [],n,f,g,h,_,_=>⟨g,Sg.Le.refl g,rfl,fun _ _=>rfl,by simpa only[List.map_nil,Ah] using h⟩
 | r :: nr,n,f,g,h,hn,hr=>by
  have hi:g.ρ n=none:=hn n (Aqr _) (by simp)
  let q:B3:=⟨.slice none 0 0,fun _=>False,r.s.n⟩
  have hO:∀ (F:FP),Bq r.e r.s w F (.slice none 0 0) []:=fun F=>CZ.nil _ _ _ _ _;have hms:(AO false r).xs=[]:=rfl;have s1:=h.newRow (i:=n) (r:=AO false r) (q:=q) hi (fun _=>rfl) ⟨q,none,0,0,Sg.row_at _ _ _,rfl,rfl,fun _ h=>h.elim,by
   unfold B4;rcases hr r (by simp) with e | e | ⟨p,e,r',hp,hm⟩
   ·have:(AO false r).m=.own:=by simp[AO,e]
    rw[this];exact⟨hO _,fun _ h=>h.elim⟩
   ·have:(AO false r).m=.ro:=by simp[AO,e]
    rw[this];exact⟨(hO _).read,fun _ h=>h.elim⟩
   ·have:(AO false r).m=.bor p none:=by simp[AO,e]
    rw[this];obtain⟨qp,_,_,_,hqp,_⟩:=h.rows p r' hp;have hne:p≠n:=fun e'=>by subst e';rw[hi] at hqp;cases hqp
    exact⟨(hO _).read,r',qp,by simp[hne,hp],hm,by rw[Sg.row_ne _ _ hne];exact hqp,fun _ h=>h.elim,fun _ _ e=>by cases e⟩⟩ (fun _ k hk=>hk.elim)
  obtain⟨g',le,hβ,out,s2⟩:=Af2 nr (n:=n+1) s1 (fun j hj hj2=>by rw[Sg.row_ne _ _ (by omega)];exact hn j (by omega) (by simp only[Aq3];omega)) (fun r2 h2=>by
   rcases hr r2 (by simp[h2]) with e | e | ⟨p,e,r',hp,hm⟩
   ·exact .inl e
   ·exact .inr (.inl e)
   ·obtain⟨qp,_,_,_,hqp,_⟩:=h.rows p r' hp;have hne:p≠n:=fun e'=>by subst e';rw[hi] at hqp;cases hqp
    exact .inr (.inr ⟨p,e,r',by simp[hne,hp],hm⟩))
  have hmm:more n ((r :: nr).map (AO false)) f.rw=more (n+1) (nr.map (AO false)) (fun j=>if j=n then some (AO false r) else f.rw j):=by
   rw[← BE];exact (CY n [AO false r] (nr.map (AO false)) f.rw).symm
  refine⟨g',(Sg.le_row hi q).trans le,hβ,fun j hj=>?_,?_⟩
  ·simp only[Aq3] at hj;rw[out j (by omega),Sg.row_ne _ _ (by omega)]
  ·rw[hmm];exact s2
theorem Sim.forget {f:FF} (h:Sim C f g a w) {rw':Nat→Option Ac} (hr:∀ j r',rw' j=some r'→∃ r,f.rw j=some r∧(r'=r∨∃ p pa,r.m=.bor p pa∧r'={ r with m:=.bor p none })) (hr2:∀ j r,f.rw j=some r→r.m.mine=true→rw' j=some r):Sim C { f with rw:=rw' } g a w:=by
 have mine:∀ j r',rw' j=some r'→r'.m.mine=true→f.rw j=some r':=by
  intro j r' hj hm;obtain⟨r,h1,e | ⟨p,pa,_,e⟩⟩:=hr j r' hj
  ·rw[e];exact h1
  ·rw[e] at hm;cases hm
 refine { h with rows:=fun j r' hj=>?_,rdisj:=fun i j r r' q q' k h1 h2 m1 m2=>h.rdisj i j r r' q q' k (mine _ _ h1 m1) (mine _ _ h2 m2) m1 m2,rbox:=fun i r q j b k h1 m1=>h.rbox i r q j b k (mine _ _ h1 m1) m1 }
 obtain⟨r,h1,h2⟩:=hr j r' hj;obtain⟨q,A,n,c,hq,hv,hz,hl,hZ⟩:=h.rows j r h1;rcases h2 with e | ⟨p,pa,em,e⟩
 ·subst e;refine⟨q,A,n,c,hq,hv,hz,hl,?_⟩;unfold B4 at hZ ⊢;split at hZ
  ·exact hZ
  ·exact hZ
  ·exact hZ
  ·obtain⟨a1,rp,qp,a2,a3,a4⟩:=hZ;exact⟨a1,rp,qp,hr2 _ _ a2 a3,a3,a4⟩
 ·subst e;refine⟨q,A,n,c,hq,hv,hz,hl,?_⟩;rw[B4,em] at hZ;obtain⟨a1,rp,qp,a2,a3,a4,a5,_⟩:=hZ;exact⟨a1,rp,qp,hr2 _ _ a2 a3,a3,a4,a5,fun _ _ e=>by cases e⟩
theorem Nx {ops:Array Oper} (h:Sim C fr.f g a w) {i:Nat} {want:Bool} {g0:Bool} (hg:KL ops.toList fr i want=some (ch,g0)):(Holds a ch↔g0=true)∧((yielded ops a.tmps i==some want)=g0):=by
 unfold KL at hg;split at hg
 ·cases hg
 ·rename_i s hs;have hs':(ops[i]?).bind (·.dst)=some s:=by simpa using hs
  have hy:∀ b,a.tmps.getD s undef=.bool b→yielded ops a.tmps i=some b:=by
   intro b hb;unfold yielded;rw[hs'];simp only[Arw];rw[AqL] at hb;cases ht:a.tmps[s]? with
   | none=>rw[ht] at hb;cases hb
   | some v=>rw[ht] at hb;simp only[ArD] at hb;subst hb;rfl
  have hw:∀ b:Bool,((some b==some want)=(bif want then b else !b)):=by intro b;cases b<;>cases want<;>rfl
  have hb1:∀ b:Bool,(bif want then b else !b)=true↔b=want:=by intro b;cases b<;>cases want<;>simp
  split at hg
  ·rename_i b hl;cases hg;have hv:a.tmps.getD s undef=.bool b:=(h.slots s _ hl:VR C g false [.bool b] _).to1;refine⟨⟨fun hh=>?_,fun hh p hp=>?_⟩,by rw[hy b hv];exact hw b⟩
   ·have:=hh (s,want) (by simp)
    simp only[hv,Value.bool.injEq] at this;exact (hb1 b).2 this
   ·simp only[Ara] at hp;subst hp;rw[hv,(hb1 b).1 hh]
  ·rename_i c gg b hl;cases hg;obtain⟨k1,k2,k3⟩:=h.slots s _ hl;cases gg with
   | true =>
    have hv:a.tmps.getD s undef=.bool b:=(k1 rfl).to1;refine⟨⟨fun hh=>?_,fun hh p hp=>?_⟩,by rw[hy b hv];simpa using hw b⟩
    ·have:=hh (s,want) (by simp)
     simp only[hv,Value.bool.injEq] at this;simpa using (hb1 b).2 this
    ·simp only[AqK] at hh;rcases AqA.1 hp with rfl | hp
     ·rw[hv,(hb1 b).1 hh]
     ·exact k3.2 rfl p hp
   | false =>
    have hv:a.tmps.getD s undef=undef:=k2 rfl;refine⟨⟨fun hh=>?_,fun hh=>by simp at hh⟩,?_⟩
    ·have:=k3.1 (fun p hp=>hh p (by simp[hp]))
     cases this
    ·have:yielded ops a.tmps i=none:=by
      unfold yielded;rw[hs'];simp only[Arw];rw[AqL] at hv;cases ht:a.tmps[s]? with
      | none=>rfl
      | some v=>rw[ht] at hv;simp only[ArD] at hv;subst hv;rfl
     rw[this];rfl
  ·cases hg
theorem AVR.guard {c:List (Nat×Bool)} {g0:Bool} {v v':AV} {u:Value} (hg:FX c g0 v=some v') (hc:Holds a c↔g0=true) (h1:g0=true→AVR C g a v u) (h2:g0=false→u=undef):AVR C g a v' u:=by
 unfold FX at hg;split at hg
 ·cases hg;exact⟨h1,h2,hc⟩
 ·cases hg
theorem Py {d:Option Nat} {v:Option AV} {fr':Fr} (h:EC fr d v=some fr'):∃ sl,NF fr.nt fr.sl d v=some sl∧fr'={ fr with sl:=sl }:=by
 unfold EC at h;split at h
 ·rename_i sl hs;cases h;exact⟨sl,hs,rfl⟩
 ·cases h
theorem DR {nr:List Ac} {nb:List Bn} {ef:Eff} {g':Sg} {v:Option AV} {u:Value} {fr':Fr} {d:Option Nat} (hfit:Fit fr g) (ht:Dl fr ef=true) (hf:Kw fr nr nb g g') (hs:Sim C (grow fr fr.f nr nb ef) g' a w') (hv:∀ av,v=some av→AVR C g' a av u) (hp:EC (upd fr nr nb ef) d v=some fr') :
  Sim C fr'.f g' (a.put d u) w'∧Fit fr' g':=by
 obtain⟨sl,hsl,rfl⟩:=Py hp;rw[← AlD ht] at hs;have h1:=hs.put (d:=d) (v:=v) (u:=u) (sl':=sl) hsl hv;have h2:=hfit.fresh ht hf;exact⟨h1,⟨h2.β,h2.ρ⟩⟩
theorem Aka {nr:List Ac} (h:nr.all (B6 fr)=true):∀ r∈nr.map (fun r=>r),r.m=.own∨r.m=.ro∨∃ p pa,r.m=.bor p pa∧∃ r',at? fr.rw p=some r'∧r'.m.mine=true:=by
 intro r hr;have:=Aqn.1 h r (by simpa using hr)
 unfold B6 at this;split at this
 ·rename_i e;exact .inl e
 ·rename_i e;exact .inr (.inl e)
 ·cases this
 ·rename_i p pa e;split at this
  ·rename_i r' hr';exact .inr (.inr ⟨p,pa,e,r',hr',this⟩)
  ·cases this
variable {nr:List Ac}
theorem Fw {n:Nat} {big:FF} (hs:Sim C { big with rw:=more n nr big.rw } g a w) {nr':List Ac} (e:nr'=nr.map (AO true)):Sim C { big with rw:=more n nr' big.rw } g a w:=by
 subst e;have key:∀ j r',more n (nr.map (AO true)) big.rw j=some r'→∃ r,more n nr big.rw j=some r∧(r'=r∨∃ p pa,r.m=.bor p pa∧r'={ r with m:=.bor p none }):=by
  intro j r' hj;unfold more at hj ⊢;simp only[AqD] at hj;split at hj
  ·rename_i hin;rw[if_pos hin];rw[Aqt] at hj;cases hn:nr[j-n]? with
   | none=>rw[hn] at hj;cases hj
   | some r =>
    rw[hn] at hj;cases hj;refine⟨r,rfl,?_⟩;obtain⟨e,s,xs,m⟩:=r;cases m with
    | bor p pa=>exact .inr ⟨p,pa,rfl,rfl⟩
    | own=>exact .inl rfl
    | io=>exact .inl rfl
    | ro=>exact .inl rfl
  ·rename_i hin;rw[if_neg hin];exact⟨r',hj,.inl rfl⟩
 refine Sim.forget (f:={ big with rw:=more n nr big.rw }) hs key fun j r hj hm=>?_
 change more n nr big.rw j=some r at hj;unfold more at hj ⊢;simp only[AqD];split at hj
 ·rename_i hin;rw[if_pos hin,Aqt,hj];obtain⟨e,s,xs,m⟩:=r;cases m with
  | bor p pa=>cases hm
  | own=>rfl
  | io=>rfl
  | ro=>rfl
 ·rename_i hin;rw[if_neg hin];exact hj
theorem Eu (hs:Sim C big g a w) (hsub:Sub fr big) (hfree:∀ j,fr.rw.length≤j→j<fr.rw.length+nr.length→g.ρ j=none) (hp:nr.all (B6 fr)=true):∃ g',Kw fr (nr.map (AO false)) [] g g'∧Sim C (grow fr big (nr.map (AO false)) [] .pure) g' a w:=by
 obtain⟨g',le,hβ,out,hs'⟩:=Af2 (nr.map (AO false)) (n:=fr.rw.length) hs (fun j h1 h2=>hfree j h1 (by simpa using h2)) (fun r hr=>by
  obtain⟨r0,h0,rfl⟩:=AqG.1 hr;rcases Aka hp r0 (by simpa using h0) with e | e | ⟨p,pa,e,r',h1,h2⟩
  ·exact .inl (by simp[AO,e])
  ·exact .inr (.inl (by simp[AO,e]))
  ·exact .inr (.inr ⟨p,by simp[AO,e],r',hsub.rw p r' h1,h2⟩))
 have e:(nr.map (AO false)).map (AO false)=nr.map (AO false):=by
  rw[AsR];congr 1;funext r;obtain⟨e,s,xs,m⟩:=r;cases m<;>rfl
 rw[e] at hs';exact⟨g',⟨le,fun j _=>by rw[hβ],fun j hj=>out j (by simpa using hj)⟩,by simpa only[grow,Ah,BL,B2] using hs'⟩
theorem Af3 {R:Type} (hE:AG C.P E) (hC:A9 C) {ops:Array Oper} {o:Oper} {k:Fr→Option R} {r:R} (hs:Sim C fr.f g a w) (hfit:Fit fr g) (h:opK E ops.toList o fr k=some r) {K:Act→World→Prop} {Q:Exit→Act→World→Prop}
  (hK:∀ fr' g' a' w',Sim C fr'.f g' a' w'→Fit fr' g'→k fr'=some r→K a' w'):if Region.wanted o (yielded ops a.tmps) then o.wp C.P a w K Q else K (a.put o.dst undef) w:=by
 have hsub:Sub fr fr.f:=Sub.refl hs.up;unfold opK at h;split at h
 ·rename_i hg;have hw:Region.wanted o (yielded ops a.tmps)=true:=by simp[Region.wanted,hg]
  rw[if_pos hw];have hok:=DS hE hC hs hsub (ch:=[]) (fun p hp=>by cases hp) o (Q:=Q)
  split at h
  ·exact Am6 hE hC hs hfit h hK
  ·rename_i req v nr nb ef hst;rw[hst] at hok;cases ht:Dl fr ef
   ·rw[ht] at h;cases h
   ·rw[ht,cond_true] at h;cases hreq:req
    ·rw[hreq] at h;cases h
    ·rw[hreq,cond_true] at h;split at h
     ·rename_i fr' hp;refine hok hreq (fun _=>rfl) (hfit.free _ _) K fun u w' ⟨g',hf,hs',hv⟩=>?_;obtain⟨s1,s2⟩:=DR hfit ht hf hs' hv hp;exact hK _ _ _ _ s1 s2 h
     ·cases h
  ·rename_i m x vs rw quiet hst;rw[hst] at hok;cases hx:x with
   | none=>rw[hx] at h;cases h
   | some y =>
    rw[hx,Arw] at h;cases ht:Dl fr (Am fr m vs rw quiet y).2.2
    ·simp only[ht] at h;cases h
    ·simp only[ht,cond_true] at h;split at h
     ·rename_i fr' hp;refine hok.1 y hx (fun _=>rfl) (hfit.free _ _) K fun u w' ⟨g',hf,hs',hv⟩=>?_;obtain⟨s1,s2⟩:=DR hfit ht hf hs' hv hp;exact hK _ _ _ _ s1 s2 h
     ·cases h
  ·rename_i m x z0 f hst;rw[hst] at hok;cases hx:x with
   | none=>rw[hx] at h;cases h
   | some y =>
    rw[hx,Arw] at h;cases ht:Dl fr (f y).ef
    ·simp only[ht] at h;cases h
    ·simp only[ht,cond_true] at h;split at h
     ·rename_i fr' hp;refine hok y hx (hfit.free _ _) K fun u w' ⟨g',hf,hs',hv⟩=>?_;obtain⟨s1,s2⟩:=DR hfit ht hf hs' hv hp;exact hK _ _ _ _ s1 s2 h
     ·cases h
 ·rename_i i want hg;split at h
  ·cases h
  ·rename_i ch g0 hgo;obtain⟨hch,hy⟩:=Nx hs hgo;have hw:Region.wanted o (yielded ops a.tmps)=g0:=by simp only[Region.wanted,hg];exact hy
   rw[hw];split at h
   ·cases h
   ·rename_i req v nr nb ef hst;cases hc:(nb.isEmpty&&FY ef&&nr.all (B6 fr))
    ·rw[hc] at h;cases h
    ·rw[hc,cond_true] at h;simp only[Aql] at hc;obtain⟨⟨hnb,hpu⟩,hpar⟩:=hc;have hnb:nb=[]:=by simpa using hnb
     subst hnb;have hpu:ef=.pure:=by cases ef<;>first | rfl | cases hpu
     subst hpu;cases hrq:(req||!g0)
     ·rw[hrq] at h;cases h
     ·rw[hrq,cond_true] at h;split at h
      ·rename_i v' hv';obtain⟨v0,rfl,hgv⟩:=Aq2.1 hv';split at h
       ·rename_i fr' hp;cases hg0:g0 with
        | true =>
         subst hg0;have hreq:req=true:=by simpa using hrq
         have hok:=DS hE hC hs hsub (hch.2 rfl) o (Q:=Q);rw[hst] at hok;rw[if_pos rfl];refine hok hreq (fun e=>by cases e) (hfit.free _ _) K fun u w' ⟨g',hf,hs',hv⟩=>?_
         have hs2:Sim C (grow fr fr.f (nr.map (AO true)) [] .pure) g' a w':=by
          have:=Fw (nr:=nr) (nr':=nr.map (AO true)) (n:=fr.rw.length) (big:=fr.f) (by simpa only[grow,Ah,BL,B2] using hs') rfl
          simpa only[grow,Ah,BL,B2] using this
         obtain⟨s1,s2⟩:=DR (nb:=[]) (ef:=.pure) (nr:=nr.map (AO true)) hfit rfl ⟨hf.le,hf.β,fun j hj=>hf.ρ j (by simpa using hj)⟩ hs2 (fun av e=>by
          cases e;exact AVR.guard hgv hch (fun _=>hv _ rfl) (fun e=>by cases e)) hp
         exact hK _ _ _ _ s1 s2 h
        | false =>
         subst hg0;rw[if_neg (by simp)]
         obtain⟨g',hf,hs'⟩:=Eu hs hsub (fun j h1 _=>hfit.ρ j h1) hpar;obtain⟨s1,s2⟩:=DR (nb:=[]) (ef:=.pure) (u:=undef) hfit rfl hf hs' (fun av e=>by
          cases e;exact AVR.guard hgv hch (fun e=>by cases e) (fun _=>rfl)) hp
         exact hK _ _ _ _ s1 s2 h
       ·cases h
      ·cases h
   ·rename_i m x vs rw quiet hst;cases hq:quiet
    ·rw[hq] at h;cases h
    ·rw[hq,cond_true] at h;cases hg0:g0 with
     | true =>
      subst hg0;rw[if_pos rfl];rw[cond_true] at h;cases hx:x with
      | none=>rw[hx] at h;cases h
      | some y =>
       rw[hx,Arw] at h;cases hpar:(Am fr m vs rw true y).2.1.all (B6 fr)
       ·simp only[hpar] at h;cases h
       ·simp only[hpar,cond_true] at h;split at h
        ·rename_i v' hgv;split at h
         ·rename_i fr' hp;have hok:=DS hE hC hs hsub (hch.2 rfl) o (Q:=Q);rw[hst,hq] at hok;refine hok.1 y hx (fun e=>by cases e) (hfit.free _ _) K fun u w' ⟨g',hf,hs',hv⟩=>?_
          have hpure:(Am fr m vs rw true y).2.2=.pure:=rfl;rw[hpure] at hs';have hs2:Sim C (grow fr fr.f ((Am fr m vs rw true y).2.1.map (AO true)) [] .pure) g' a w':=by
           have:=Fw (nr:=(Am fr m vs rw true y).2.1) (nr':=(Am fr m vs rw true y).2.1.map (AO true)) (n:=fr.rw.length) (big:=fr.f) (by simpa only[grow,Ah,BL,B2] using hs') rfl
           simpa only[grow,Ah,BL,B2] using this
          obtain⟨s1,s2⟩:=DR (nb:=[]) (ef:=.pure) (nr:=(Am fr m vs rw true y).2.1.map (AO true)) hfit rfl ⟨hf.le,hf.β,fun j hj=>hf.ρ j (by simpa using hj)⟩ hs2 (fun av e=>by
           cases e;exact AVR.guard hgv hch (fun _=>hv _ rfl) (fun e=>by cases e)) hp
          exact hK _ _ _ _ s1 s2 h
         ·cases h
        ·cases h
     | false =>
      subst hg0;rw[if_neg (by simp)]
      rw[cond_false,Arw] at h;cases hpar:(Am fr m vs rw true (RT.dfl (BG m.ps++m.rs))).2.1.all (B6 fr)
      ·simp only[hpar] at h;cases h
      ·simp only[hpar,cond_true] at h;split at h
       ·rename_i v' hgv;split at h
        ·rename_i fr' hp;obtain⟨g',hf,hs'⟩:=Eu hs hsub (fun j h1 _=>hfit.ρ j h1) hpar;obtain⟨s1,s2⟩:=DR (nb:=[]) (ef:=.pure) (u:=undef) hfit rfl hf hs' (fun av e=>by
          cases e;exact AVR.guard hgv hch (fun e=>by cases e) (fun _=>rfl)) hp
         exact hK _ _ _ _ s1 s2 h
        ·cases h
       ·cases h
   ·split at h
    ·rename_i rs' x z0 f hst
     replace h:=Aq2.1 h
     obtain⟨y,hy,h⟩:=h;have hok:=fun {Q:Exit→Act→World→Prop} (hh:Holds a ch)=>Wv hE hC hs hsub hh o (Q:=Q);cases hc:((f y).nb.isEmpty&&Ake (f y).ef&&Dl fr (f y).ef&&(f y).nr.all (B6 fr))
     ·rw[hc] at h;cases h
     ·rw[hc,cond_true] at h;simp only[Aql] at hc;obtain⟨⟨⟨hnb,hbx⟩,ht⟩,hpar⟩:=hc;have hnb:(f y).nb=[]:=by simpa using hnb
      split at h
      ·rename_i v' hgv;split at h
       ·rename_i fr' hp;cases hg0:g0 with
        | true =>
         subst hg0;rw[if_pos rfl];have hok:=hok (hch.2 rfl) (Q:=Q);rw[hst] at hok;refine hok y hy (by rw[hnb];exact hfit.free _ _) K fun u w' ⟨g',hf,hs',hv⟩=>?_
         rw[hnb] at hf hs';have hs2:Sim C (grow fr fr.f ((f y).nr.map (AO true)) [] (f y).ef) g' a w':=by
          cases he:(f y).ef with
          | box j b =>
           rw[he] at hs';have:=Fw (nr:=(f y).nr) (nr':=(f y).nr.map (AO true)) (n:=fr.rw.length) (big:={ fr.f with bx:=BL fr.f.bx (.box j b) }) (by simpa only[grow,Ah,B2] using hs') rfl
           simpa only[grow,Ah,B2] using this
          | _=>rw[he] at hbx;cases hbx
         obtain⟨s1,s2⟩:=DR (nb:=[]) (ef:=(f y).ef) (nr:=(f y).nr.map (AO true)) hfit ht ⟨hf.le,hf.β,fun j hj=>hf.ρ j (by simpa using hj)⟩ hs2 (fun av e=>by
          cases e;exact AVR.guard hgv hch (fun _=>hv _ rfl) (fun e=>by cases e)) hp
         exact hK _ _ _ _ s1 s2 h
        | false =>
         subst hg0;rw[if_neg (by simp)]
         rw[cond_false,AqV] at hy;subst hy;obtain⟨_,j,b,hef,hbj⟩:=Ry hst rfl;obtain⟨g',hf,hs'⟩:=Eu hs hsub (fun j h1 _=>hfit.ρ j h1) hpar;have hs2:Sim C (grow fr fr.f ((f z0).nr.map (AO false)) [] (f z0).ef) g' a w:=by
          have e:BL fr.f.bx (.box j b)=fr.f.bx:=funext fun n=>by
           simp only[BL];split
           ·rename_i e;rw[e];exact hbj.symm
           ·rfl
          have e2:grow fr fr.f ((f z0).nr.map (AO false)) [] (.box j b)=grow fr fr.f ((f z0).nr.map (AO false)) [] .pure:=by
           simp only[grow,Ah,B2];rw[e];rfl
          rw[hef,e2];simpa only[grow,Ah,BL,B2] using hs'
         obtain⟨s1,s2⟩:=DR (nb:=[]) (ef:=(f z0).ef) (u:=undef) hfit ht hf hs2 (fun av e=>by
          cases e;exact AVR.guard hgv hch (fun e=>by cases e) (fun _=>rfl)) hp
         exact hK _ _ _ _ s1 s2 h
       ·cases h
      ·cases h
    ·cases h
theorem Sim.fewer {f:FF} (h:Sim C f g a w) {sl:List (Nat×AV)} (hu:Up sl) (hs:∀ t v,lkp sl t=some v→lkp f.sl t=some v):Sim C { f with sl:=sl } g a w :=
 {h with up:=hu,slots:=fun t v hv=>h.slots t v (hs t v hv) }
theorem ZV (h:Sim C fr.f g a w) (hf:Fit fr g):Sim C (AbF E fr).f g a w∧Fit (AbF E fr) g :=
 have h1:=Fp (sl0:=fr.sl) E.kp h
 ⟨h1.1.fewer (h.up.filter _) fun t v hv=>(Ee h.up hv).1,⟨hf.β,fun i hi=>hf.ρ i (by have:=h1.2;simp only[AbF] at hi;omega)⟩⟩
end Go.Proofs.YteheolldcpjkcaaGreat.X
