/- Code. -/
import Derived.Test.YteheolldcpjkcaaGreatQvXDraw
set_option linter.unusedSimpArgs false
set_option linter.unusedVariables false
set_option linter.unusedSectionVars false
namespace Go.Proofs.YteheolldcpjkcaaGreat.X
open Go Go.RowKit
variable [CW]
variable {C:Cx} {fr:Fr} {big:FF} {g:Sg} {a:Act} {w w':World} {ch:List (Nat×Bool)} {E:Env}
theorem O8 {R:Type} (hE:AG C.P E) (hC:A9 C) {ops:Array Oper} {k:Fr→Option R} {r:R} {Q:Exit→Act→World→Prop} (hQ:∀ fr' g' a' w',k fr'=some r→Sim C fr'.f g' a' w'→Fit fr' g'→Q .normal a' w') :
  ∀ (rest:List Oper) (n:Nat) {fr:Fr} {g:Sg} {a:Act} {w:World},ops.toList.drop n=rest→LO E ops.toList rest fr k=some r→Sim C fr.f g a w→Fit fr g→wpOps C.P ops Q (List.range' n rest.length) a w
 | [],n,fr,g,a,w,hd,h,hs,hf=>by
  obtain⟨s1,s2⟩:=ZV (E:=E) hs hf;exact hQ _ _ _ _ h s1 s2
 | o :: rest,n,fr,g,a,w,hd,h,hs,hf=>by
  have hn:ops[n]? = some o:=by
   have:(ops.toList.drop n)[0]? = some o:=by rw[hd];rfl
   rw[Aq5] at this;simpa using this
  have hd':ops.toList.drop (n+1)=rest:=by
   have:(ops.toList.drop n).drop 1=rest:=by rw[hd];rfl
   rwa [ArH] at this
  rw[Aq3,List.range'_succ];unfold wpOps;rw[hn];simp only;have:=Af3 (Q:=Q) hE hC hs hf h (K:=wpOps C.P ops Q (List.range' (n+1) rest.length)) fun fr' g' a' w' s1 s2 h'=>O8 hE hC hQ rest (n+1) hd' h' s1 s2;split
  ·rename_i hw;rw[if_pos hw] at this;exact .inl this
  ·rename_i hw;rw[if_neg hw] at this;exact this
theorem Aa4 {R:Type} (hE:AG C.P E) (hC:A9 C) {id:Nat} {ops:Array Oper} {k:Fr→Option R} {r:R} {Q:Exit→Act→World→Prop} (hQ:∀ fr' g' a' w',k fr'=some r→Sim C fr'.f g' a' w'→Fit fr' g'→Q .normal a' w')
  (h:LO E ops.toList ops.toList fr k=some r) (hs:Sim C fr.f g a w) (hf:Fit fr g):(Code.region id ops false).wp C.P Q a w:=by
 refine wp_region ?_;have:=O8 hE hC hQ ops.toList 0 rfl h hs hf;rw[ArK] at this;rw[List.range_eq_range'];exact this
theorem JT:∀ {l:List Nat},l.Nodup→∀ {i j x:Nat},l[i]? = some x→l[j]? = some x→i=j
 | [],_,i,j,x,h1,_=>by simp at h1
 | y :: l,hn,0,0,x,h1,h2=>rfl
 | y :: l,hn,0,j+1,x,h1,h2=>by
  simp at h1 h2;subst h1;exact absurd (AqH h2) (Asq.1 hn).1
 | y :: l,hn,i+1,0,x,h1,h2=>by
  simp at h1 h2;subst h2;exact absurd (AqH h1) (Asq.1 hn).1
 | y :: l,hn,i+1,j+1,x,h1,h2=>by
  have:=JT (Asq.1 hn).2 (i:=i) (j:=j) (x:=x) (by simpa using h1) (by simpa using h2)
  omega
theorem EX:∀ {pm:List Nat} {i j:Nat},ED pm i=some j→pm[j]? = some i
 | [],_,_,h=>by cases h
 | x :: r,i,j,h=>by
  unfold ED at h;cases hb:Nat.beq x i
  ·rw[hb,cond_false] at h;split at h
   ·rename_i n hn;cases h;simpa using EX hn
   ·cases h
  ·rw[hb,cond_true] at h;cases h;simp[Aqm hb]
theorem Rk:∀ (r:List Nat) {l:List Nat},l.Nodup→(HQ l r).Nodup∧∃ t,HQ l r=l++t
 | [],l,h=>⟨h,[],by simp[HQ]⟩
 | i :: r,l,h=>by
  unfold HQ;cases hb:l.any (Nat.beq i)
  ·rw[cond_false];have hni:i ∉ l:=fun hm=>by
    have:l.any (Nat.beq i)=true:=Arb.2 ⟨i,hm,AsA i⟩;rw[this] at hb;cases hb
   obtain⟨h1,t,h2⟩:=Rk r (l:=l++[i]) (by
    rw[List.nodup_append];refine⟨h,by simp,fun a ha b hb e=>?_⟩
    simp only[Ara] at hb;subst hb;subst e;exact hni ha)
   exact⟨h1,i :: t,by rw[h2];simp⟩
  ·rw[cond_true];exact Rk r h
def Sg.cut (g:Sg) (bm pm:List Nat):Sg:=⟨fun j=>(bm[j]?).bind g.β,fun j=>(pm[j]?).bind g.ρ⟩
theorem Rm {bm pm:List Nat} {i j:Nat} (h:ED pm i=some j):(g.cut bm pm).ρ j=g.ρ i:=by
 simp[Sg.cut,EX h]
theorem Ly {bm pm:List Nat} {i j:Nat} (h:ED bm i=some j):(g.cut bm pm).β j=g.β i:=by
 simp[Sg.cut,EX h]
theorem O9 {bm pm:List Nat}:∀ {bs bs':List Nat} {us:List Value},PU bm bs=some bs'→GW g.β bs us→GW (g.cut bm pm).β bs' us
 | [],_,_,hb,h=>by cases hb;exact h
 | b :: bs,bs',us,hb,⟨k,r,e,hk,h⟩=>by
  unfold PU at hb;split at hb
  ·rename_i j l hj hl;cases hb;exact⟨k,r,e,by rw[Ly hj];exact hk,O9 hl h⟩
  ·cases hb
theorem Afo {bm pm:List Nat} {l l':Lf} {u:Value} (h:l.ren bm pm=some l') (hl:LfR C g l u):LfR C (g.cut bm pm) l' u:=by
 cases l<;>simp only[Lf.ren] at h
 case row i =>
  obtain⟨j,hj,rfl⟩:=AqF.1 h;obtain⟨q,A,n,c,hq,r⟩:=hl;exact⟨q,A,n,c,by rw[Rm hj];exact hq,r⟩
 case view i lo hi =>
  obtain⟨j,hj,rfl⟩:=AqF.1 h;obtain⟨q,A,n,c,A',n',c',hq,r⟩:=hl;exact⟨q,A,n,c,A',n',c',by rw[Rm hj];exact hq,r⟩
 case elem i j off =>
  obtain⟨j',hj,rfl⟩:=AqF.1 h;obtain⟨q,A,n,c,hq,r⟩:=hl;exact⟨q,A,n,c,by rw[Rm hj];exact hq,r⟩
 case box i off =>
  obtain⟨j,hj,rfl⟩:=AqF.1 h;obtain⟨k,hk,r⟩:=hl;exact⟨k,by rw[Ly hj];exact hk,r⟩
 case mp i =>
  obtain⟨j,hj,rfl⟩:=AqF.1 h;obtain⟨k,hk,r⟩:=hl;exact⟨k,by rw[Ly hj];exact hk,r⟩
 case bsl i e n =>
  obtain⟨j,hj,rfl⟩:=AqF.1 h;obtain⟨k,hk,r⟩:=hl;exact⟨k,by rw[Ly hj];exact hk,r⟩
 case fn f caps =>
  obtain⟨cs,hj,rfl⟩:=AqF.1 h;obtain⟨us,e,hc⟩:=hl;exact⟨us,e,O9 hj hc⟩
 all_goals (cases h;exact hl)
theorem ZH {bm pm:List Nat}:∀ {ls ls':List Lf} {us:List Value},Agd bm pm ls=some ls'→AC C g ls us→AC C (g.cut bm pm) ls' us∧ls'.length=ls.length
 | [],_,_,h,hl=>by cases h;exact⟨hl,rfl⟩
 | l :: ls,ls',us,h,⟨u,t,e,hu,hr⟩=>by
  unfold Agd at h;split at h
  ·rename_i h1 h2;cases h;obtain⟨r1,r2⟩:=ZH h2 hr;exact⟨⟨u,t,e,Afo h1 hu,r1⟩,by simp[r2]⟩
  ·cases h
theorem ZI {bm pm:List Nat}:∀ {ls:List Lf} {us:List Value},AC C g ls us→AC C (g.cut bm pm) (ls.map fun l=>(l.ren bm pm).getD .und) us
 | [],_,h=>h
 | l :: ls,us,⟨u,t,e,hu,hr⟩=>by
  refine⟨u,t,e,?_,ZI hr⟩;show LfR C (g.cut bm pm) ((l.ren bm pm).getD .und) u;cases hl:l.ren bm pm with
  | none=>exact hu.one
  | some l'=>exact Afo hl hu
theorem AjX {bm pm:List Nat} {cs:List Lf}:∀ {o:Obj},FI C g cs o→FI C (g.cut bm pm) (cs.map fun l=>(l.ren bm pm).getD .und) o
 | .cells _ _ _,h=>⟨h.1,ZI h.2⟩
 | .map _ _,⟨K,V,xs,e,h⟩=>⟨K,V,xs,by subst e;rfl,h⟩
theorem Up.filterMap {α β:Type} (f:α→Option β):∀ {l:List (Nat×α)},Up l→Up (l.filterMap fun p=>(f p.2).map fun v=>(p.1,v))∧∀ t y,lkp (l.filterMap fun p=>(f p.2).map fun v=>(p.1,v)) t=some y→∃ x,lkp l t=some x∧f x=some y:=by
 intro l hu;have hm:∀ t y,(t,y)∈(l.filterMap fun p=>(f p.2).map fun v=>(p.1,v))→∃ x,(t,x)∈l∧f x=some y:=by
  intro t y h;obtain⟨p,hp,he⟩:=Ar3.1 h;obtain⟨v,hv,he⟩:=AqF.1 he;cases he;exact⟨p.2,hp,hv⟩
 refine⟨?_,fun t y h=>?_⟩
 ·clear hm;unfold Up at hu ⊢
  induction l with
  | nil=>simp
  | cons p l ih =>
   simp only[Arh,AqY] at hu;have ih:=ih hu.2;rw[List.filterMap_cons];split
   ·exact ih
   ·rename_i y hy;simp only[Arh,AqY];refine⟨fun t ht=>?_,ih⟩;obtain⟨z,hz,rfl⟩:=AqG.1 ht;obtain⟨p2,hp2,he⟩:=Ar3.1 hz;have e1:y.1=p.1:=by
     obtain⟨_,_,rfl⟩:=AqF.1 hy;rfl
    have e2:z.1=p2.1:=by
     obtain⟨_,_,rfl⟩:=AqF.1 he;rfl
    rw[e1,e2];exact hu.1 _ (AqG.2 ⟨p2,hp2,rfl⟩)
 ·obtain⟨x,h1,h2⟩:=hm t y (Fy h);exact⟨x,hu.of_mem h1,h2⟩
theorem T4:∀ {l:List Nat},RD l=true→l.Nodup
 | [],_=>by simp
 | i :: r,h=>by
  unfold RD at h;rw[Aql,ArJ] at h;refine Asq.2 ⟨fun hm=>?_,T4 h.2⟩;have:r.any (Nat.beq i)=true:=Arb.2 ⟨i,hm,AsA i⟩;rw[h.1] at this;cases this
theorem Pa (base:List (Nat×AV)):∀ (cur:List (Nat×AV)) (bm:List Nat),(RB base cur bm).length=bm.length
 | [],_=>rfl
 | (t,v) :: r,bm=>by
  unfold RB;rw[Pa base r];split
  ·rename_i k' k h1 h2;cases Nat.blt k' bm.length<;>simp
  ·rfl
theorem Pb (m:Nat) (base cur:List (Nat×AV)):(Jt m base cur).Nodup∧(Jt m base cur).length=m∧(0<m→(Jt m base cur)[0]? = some 0):=by
 unfold Jt;have hl:=Pa base cur (List.range m);generalize RB base cur (List.range m)=bm at hl;rw[ArR] at hl;have hr:(List.range m).Nodup∧(List.range m).length=m∧(0<m→(List.range m)[0]? = some 0):=⟨List.nodup_range,ArR,fun h=>by simp[h]⟩
 simp only;cases hb:RD bm&&Akg bm
 ·exact hr
 ·rw[cond_true];rw[Aql] at hb;refine⟨T4 hb.1,hl,fun h=>?_⟩;cases bm with
  | nil=>simp at hl;omega
  | cons i t =>
   have:=Aqm hb.2;simp[this]
theorem Pc {n0:Nat} {base:Fr} (hio:∀ i q,C.io i=some q→i<n0) (hbt:C.bt≠none→0<base.bx.length) (hs:Sim C fr.f g a w) (hf:Fit fr g):∃ g',Sim C (E6 n0 base fr).f g' a w∧Fit (E6 n0 base fr) g':=by
 simp only[E6];generalize hpm:HQ (List.range n0) (WA fr.rw _)=pm;obtain⟨hnd,t0,ht0⟩:=Rk _ (l:=List.range n0) List.nodup_range;rw[hpm] at hnd ht0;have inj:∀ {i j x:Nat},pm[i]? = some x→pm[j]? = some x→i=j:=fun {i j x} h1 h2=>JT hnd h1 h2;have low:∀ {i:Nat},i<n0→pm[i]? = some i:=fun {i} h=>by
  rw[ht0,AqS (by simpa using h)]
  simp[h]
 obtain⟨bnd,blen,b0⟩:=Pb base.bx.length base.sl (fr.sl.filter fun p=>(lkp base.sl p.1).isSome);generalize Jt base.bx.length base.sl (fr.sl.filter fun p=>(lkp base.sl p.1).isSome)=bm at bnd blen b0 ⊢;generalize base.bx.length=m at hbt blen b0 ⊢;have binj:∀ {i j x:Nat},bm[i]? = some x→bm[j]? = some x→i=j:=fun {i j x} h1 h2=>JT bnd h1 h2
 -- the rows
 have rowAt:∀ j r',at? (pm.map fun i=>match at? fr.rw i with | some r=>(match r.m.ren pm with | some m=>some { r with m:=m } | none=>none) | none=>none) j=some r'→∃ i r m',pm[j]? = some i∧at? fr.rw i=some r∧r.m.ren pm=some m'∧r'={ r with m:=m' }:=by
  intro j r' hj;rw[BQ,Aqt] at hj;cases hp:pm[j]? with
  | none=>rw[hp] at hj;cases hj
  | some i =>
   rw[hp] at hj;simp only[AqU,AsF] at hj;split at hj
   ·rename_i r hr;split at hj
    ·rename_i m' hm';cases hj;exact⟨i,r,m',rfl,hr,hm',rfl⟩
    ·cases hj
   ·cases hj
 have mineRen:∀ {x:Md},x.mine=true→x.ren pm=some x:=fun {x} hx=>by cases x<;>first | rfl | cases hx
 have renMine:∀ {x y:Md},x.ren pm=some y→y.mine=x.mine∧(y.mine=true→y=x):=fun {x y} hxy=>by
  cases x<;>simp only[Md.ren] at hxy
  case bor p pa =>
   obtain⟨p',_,rfl⟩:=AqF.1 hxy;exact⟨rfl,fun e=>by cases e⟩
  all_goals (cases hxy;exact⟨rfl,fun _=>rfl⟩)
 have ρat:∀ {i j:Nat},pm[j]? = some i→(g.cut bm pm).ρ j=g.ρ i:=fun {i j} h=>by simp[Sg.cut,h]
 have βat:∀ {i j:Nat},bm[j]? = some i→(g.cut bm pm).β j=g.β i:=fun {i j} h=>by simp[Sg.cut,h]
 have bxAt:∀ j b',at? ((bm.map fun i=>at? fr.bx i).map fun b=>b.map fun b=>{ b with cs:=b.cs.map fun (l:Lf)=>(l.ren bm pm).getD .und }) j=some b'→∃ i b,bm[j]? = some i∧at? fr.bx i=some b∧b'={ b with cs:=b.cs.map fun (l:Lf)=>(l.ren bm pm).getD .und }:=by
  intro j b' hj;rw[BQ,Aqt,Aqt] at hj;cases hp:bm[j]? with
  | none=>rw[hp] at hj;cases hj
  | some i =>
   rw[hp] at hj;simp only[AqU,AsF] at hj;cases hb:at? fr.bx i with
   | none=>rw[hb] at hj;cases hj
   | some b =>
    rw[hb] at hj;cases hj;exact⟨i,b,rfl,hb,rfl⟩
 have hup:=(hs.up.filter fun p=>(lkp base.sl p.1).isSome);refine⟨g.cut bm pm,⟨hs.nodef,hs.size,(Up.filterMap (AV.ren bm pm) hup).1,hs.kept,?_,?_,?_,?_,?_,?_,fun i q hi=>by rw[ρat (low (hio i q hi))];exact hs.tied i q hi,fun k hk=>by
  have h0:=hs.tie k hk;have h2:=hbt (by rw[hk];simp)
  rw[βat (b0 h2)];exact h0⟩,?_⟩
 ·intro t v' hv';obtain⟨v,h1,h2⟩:=(Up.filterMap (AV.ren bm pm) hup).2 t v' hv';have h3:=hs.slots t v (Ee hs.up h1).1;cases v<;>simp only[AV.ren] at h2
  case v ag cs =>
   split at h2
   ·rename_i cs' hcs;cases h2;obtain⟨us,e,hr,hl⟩:=h3;obtain⟨r1,r2⟩:=ZH hcs hr;exact⟨us,e,r1,fun hb=>by rw[r2];exact hl hb⟩
   ·cases h2
  all_goals cases h2
 ·intro j b' hj;obtain⟨i,b,hp,h1,rfl⟩:=bxAt j b' hj;obtain⟨k,o,hk,hh,hr,ho,hn⟩:=hs.boxes i b h1;exact⟨k,o,by rw[βat hp];exact hk,hh,AjX hr,ho,hn⟩
 ·intro i j b1 b2 k h1 h2 ho hk1 hk2;obtain⟨i',c1,p1,e1,rfl⟩:=bxAt i b1 h1;obtain⟨j',c2,p2,e2,rfl⟩:=bxAt j b2 h2;rw[βat p1] at hk1;rw[βat p2] at hk2;have:=hs.bdisj i' j' c1 c2 k e1 e2 ho hk1 hk2;subst this;exact binj p1 p2
 ·intro j r' hj;obtain⟨i,r,m',hp,hr,hm,rfl⟩:=rowAt j r' hj;obtain⟨q,A,n,c,hq,hv,hz,hl,hZ⟩:=hs.rows i r hr;refine⟨q,A,n,c,by rw[ρat hp];exact hq,hv,hz,hl,?_⟩
  obtain⟨e0,s0,xs0,m0⟩:=r;cases m0<;>simp only[Md.ren] at hm
  case own=>cases hm;exact hZ
  case io =>
   cases hm;obtain⟨z1,z2,z3⟩:=hZ;have:j=i:=inj hp (low (hio i q z3));subst this;exact⟨z1,z2,z3⟩
  case ro=>cases hm;exact hZ
  case bor p pa =>
   obtain⟨p',hp',rfl⟩:=AqF.1 hm;obtain⟨z1,rp,qp,z2,z3,z4,z5,z6⟩:=hZ;refine⟨z1,rp,qp,?_,z3,by rw[ρat (EX hp')];exact z4,z5,z6⟩
   change at? (pm.map _) p'=some rp;rw[BQ,Aqt,EX hp'];have z2':at? fr.rw p=some rp:=z2;simp only[AqU,AsF,z2',mineRen z3]
 ·intro i j r1 r2 q1 q2 k h1 h2 m1 m2 hq1 hq2 hk1 hk2;obtain⟨i',c1,m1',p1,a1,b1,rfl⟩:=rowAt i r1 h1;obtain⟨j',c2,m2',p2,a2,b2,rfl⟩:=rowAt j r2 h2;rw[ρat p1] at hq1;rw[ρat p2] at hq2;have:=hs.rdisj i' j' c1 c2 q1 q2 k a1 a2 ((renMine b1).1▸m1) ((renMine b2).1▸m2) hq1 hq2 hk1 hk2;subst this;exact inj p1 p2
 ·intro i r1 q1 j b k h1 m1 hq1 hb ho hk;obtain⟨i',c1,m1',p1,a1,b1,rfl⟩:=rowAt i r1 h1;obtain⟨j',c,p2,e,rfl⟩:=bxAt j b hb;rw[ρat p1] at hq1;rw[βat p2] at hk;exact hs.rbox i' c1 q1 j' c k a1 ((renMine b1).1▸m1) hq1 e ho hk
 ·refine⟨fun i hi=>?_,fun i hi=>?_⟩
  ·simp only[AqD] at hi;simp only[Sg.cut];rw[AqC hi];rfl
  ·simp only[AqD] at hi;simp only[Sg.cut];rw[AqC hi];rfl
def Ex.e:Ex→Exit
 | .normal=>.normal
 | .exit id=>.exit id
 | .ret=>.ret
theorem Apb (p:Nat→Prop):∃ m,(∃ n,p n)→p m∧∀ k,p k→m≤k:=by
 by_cases h:∃ n,p n
 ·obtain⟨n,hn⟩:=h
  induction n using Nat.strongRecOn with
  | _ n ih =>
   by_cases h2:∃ m,m<n∧p m
   ·obtain⟨m,hm,hpm⟩:=h2;exact ih m hm hpm
   ·refine⟨n,fun _=>⟨hn,fun k hk=>?_⟩⟩;rcases Arf k n with h3 | h3
    ·exact absurd ⟨k,h3,hk⟩ h2
    ·exact h3
 ·exact⟨0,fun h'=>absurd h' h⟩
theorem ZJ {c:Operand} {b:Bool} (hs:Sim C fr.f g a w) (hf:Fit fr g) (hv:a.eval c=.bool b):Sim C (PV E fr c b).f g a w∧Fit (PV E fr c b) g:=by
 unfold PV;cases E.rf with
 | false=>exact⟨hs,hf⟩
 | true =>
  rw[cond_true];split
  ·rename_i t;split
   ·rename_i b' hl;refine⟨{ hs with up:=hs.up.ins _ _,slots:=fun t' v' hl'=>?_ },⟨hf.β,hf.ρ⟩⟩
    change lkp (ins fr.sl t (.l (.bool b))) t'=some v' at hl';rw[Fx] at hl';split at hl'
    ·rename_i e;cases hl';rw[← e];have h3:a.tmps.getD t undef=.bool b:=by
      have:a.eval (.tmp t)=a.tmps.getD t undef:=by simp[Act.eval]
      rw[← this];exact hv
     exact VR.of1 h3
    ·exact hs.slots t' v' hl'
   ·exact⟨hs,hf⟩
  ·exact⟨hs,hf⟩
theorem DQ {R:Type} (hE:AG C.P E) (hC:A9 C) {n0:Nat} (hio:∀ i q,C.io i=some q→i<n0):∀ (c:Code) {fr:Fr} {g:Sg} {a:Act} {w:World} {k:Ex→Fr→Option R} {r:R} {Q:Exit→Act→World→Prop},DD E n0 c fr k=some r→Sim C fr.f g a w→Fit fr g →
  (∀ e fr' g' a' w',k e fr'=some r→Sim C fr'.f g' a' w'→Fit fr' g'→Q e.e a' w')→c.wp C.P Q a w
 | .skip,fr,g,a,w,k,r,Q,h,hs,hf,hQ=>wp_skip (hQ .normal _ _ _ _ h hs hf)
 | .region id ops dr,fr,g,a,w,k,r,Q,h,hs,hf,hQ=>by
  simp only[DD] at h;cases dr with
  | true=>exact Wc hE hC hE.mixed (hQ .normal) h hs hf
  | false=>exact Aa4 hE hC (hQ .normal) h hs hf
 | .seq x y,fr,g,a,w,k,r,Q,h,hs,hf,hQ=>by
  simp only[DD] at h;refine wp_seq (DQ hE hC hio x h hs hf fun e fr' g' a' w' h' s1 s2=>?_);cases e with
  | normal=>exact DQ hE hC hio y h' s1 s2 hQ
  | exit id=>exact hQ (.exit id) _ _ _ _ h' s1 s2
  | ret=>exact hQ .ret _ _ _ _ h' s1 s2
 | .cond c x y,fr,g,a,w,k,r,Q,h,hs,hf,hQ=>by
  simp only[DD] at h;split at h
  ·rename_i b hc;have hv:a.eval c=.bool b:=As hs (ch:=[]) (fun p hp=>by cases hp) hc
   cases b with
   | true =>
    obtain⟨s1,f1⟩:=ZJ (E:=E) hs hf hv;exact wp_cond_true hv (DQ hE hC hio x h s1 f1 hQ)
   | false =>
    obtain⟨s1,f1⟩:=ZJ (E:=E) hs hf hv;exact wp_cond_false hv (DQ hE hC hio y h s1 f1 hQ)
  ·cases h
 | .block id b,fr,g,a,w,k,r,Q,h,hs,hf,hQ=>by
  simp only[DD] at h;refine wp_block (DQ hE hC hio b h hs hf fun e fr' g' a' w' h' s1 s2=>?_);cases e with
  | normal=>exact hQ .normal _ _ _ _ h' s1 s2
  | ret=>exact hQ .ret _ _ _ _ h' s1 s2
  | exit j =>
   simp only at h';simp only[Ex.e,Exit.inBlock];by_cases hj:j=id
   ·subst hj;rw[AsA,cond_true] at h';rw[if_pos rfl];exact hQ .normal _ _ _ _ h' s1 s2
   ·rw[C8 hj,cond_false] at h';rw[if_neg hj];exact hQ (.exit j) _ _ _ _ h' s1 s2
 | .loop b,fr,g,a,w,k,r,Q,h,hs,hf,hQ=>by
  simp only[DD] at h
  let base:=E6 n0 fr fr
  let p:Act×World→Nat→Prop:=fun x n=>∃ fr' g',F4 (DD E n0 b) n0 base n fr' k=some r∧Sim C fr'.f g' x.1 x.2∧Fit fr' g'
  obtain⟨μ,hμ⟩:=Classical.skolem.1 fun x=>Apb (p x);have hb0:C.bt≠none→0<fr.bx.length:=fun hne=>by
   cases hb:C.bt with
   | none=>exact absurd hb hne
   | some k =>
    have h0:=hs.tie k hb;rcases Are fr.bx.length with h1 | h1
    ·rw[hf.β 0 (by omega)] at h0;cases h0
    ·exact h1
  have hb1:C.bt≠none→0<base.bx.length:=fun hne=>by
   have:=hb0 hne;simp only[base,E6,AqD];rw[(Pb _ _ _).2.1];omega
  obtain⟨g0,s0,f0⟩:=Pc (base:=fr) hio hb0 hs hf;refine wp_loop (fun a w=>∃ n,p (a,w) n) (fun a w=>μ (a,w)) ⟨_,_,_,h,s0,f0⟩ fun a1 w1 hI=>?_;obtain⟨⟨fr1,g1,h1,s1,f1⟩,hmin⟩:=hμ (a1,w1) hI;cases hn:μ (a1,w1) with
  | zero=>rw[hn] at h1;cases h1
  | succ n =>
   rw[hn] at h1;simp only[F4] at h1;refine DQ hE hC hio b h1 s1 f1 fun e fr2 g2 a2 w2 h2 s2 f2=>?_;cases e with
   | exit id=>exact hQ (.exit id) _ _ _ _ h2 s2 f2
   | ret=>exact hQ .ret _ _ _ _ h2 s2 f2
   | normal =>
    obtain⟨g3,s3,f3⟩:=Pc (base:=base) hio hb1 s2 f2;have hp:p (a2,w2) n:=⟨_,g3,h2,s3,f3⟩;exact⟨⟨n,hp⟩,Nat.lt_succ_of_le ((hμ (a2,w2) ⟨n,hp⟩).2 n hp)⟩
 | .exit id,fr,g,a,w,k,r,Q,h,hs,hf,hQ=>wp_exit (hQ (.exit id) _ _ _ _ h hs hf)
 | .ret,fr,g,a,w,k,r,Q,h,hs,hf,hQ=>wp_ret (hQ .ret _ _ _ _ h hs hf)
 | .goto _,fr,g,a,w,k,r,Q,h,hs,hf,hQ=>by cases h
 | .label _,fr,g,a,w,k,r,Q,h,hs,hf,hQ=>by cases h
 | .scope _,fr,g,a,w,k,r,Q,h,hs,hf,hQ=>by cases h
 | .rangeFunc _ _ _ _,fr,g,a,w,k,r,Q,h,hs,hf,hQ=>by cases h
 | .refuse _,fr,g,a,w,k,r,Q,h,hs,hf,hQ=>by cases h
end Go.Proofs.YteheolldcpjkcaaGreat.X
