/- The abstract frame beside the machine's: what it means that they agree. -/
import Derived.Test.YteheolldcpjkcaaGreatQvXGlob
import Derived.Test.YteheolldcpjkcaaGreatQvXRep
set_option linter.unusedSimpArgs false
set_option linter.unusedVariables false
set_option linter.unusedSectionVars false
namespace Go.Proofs.YteheolldcpjkcaaGreat.X
open Go Go.RowKit
variable [CW]
structure B3 where
 v:Value
 F:FP
 sz:Nat
structure Sg where
 β:Nat→Option Nat
 ρ:Nat→Option B3
structure Cx where
 P:Program
 w0:World
 S:FP
 R:FP
 io:Nat→Option B3
 bt:Option Nat
structure A9 (C:Cx):Prop where
 S_lt:∀ k,C.S k→k<C.w0.heap.size
 R_lt:∀ k,C.R k→k<C.w0.heap.size∧¬ C.S k
 tabs:Hv C.w0
 glR:∀ k,k<gN→C.R k
theorem A9.free {C:Cx} (h:A9 C) {k:Nat} (hk:C.w0.heap.size≤k∨C.S k):gN≤k:=by
 rcases Arf k gN with h1 | h1
 ·obtain⟨h2,h3⟩:=h.R_lt k (h.glR k h1);exact hk.elim (fun h4=>absurd h2 (Aq1.2 h4)) fun h4=>absurd h4 h3
 ·exact h1
structure Sg.Le (g g':Sg):Prop where
 β:∀ i k,g.β i=some k→g'.β i=some k
 ρ:∀ i q,g.ρ i=some q→g'.ρ i=some q
theorem Sg.Le.refl (g:Sg):Sg.Le g g:=⟨fun _ _ h=>h,fun _ _ h=>h⟩
theorem Sg.Le.trans {a b c:Sg} (h:Sg.Le a b) (k:Sg.Le b c):Sg.Le a c:=⟨fun i k' hk=>k.β i k' (h.β i k' hk),fun i q hq=>k.ρ i q (h.ρ i q hq)⟩

def GW (β:Nat→Option Nat):List Nat→List Value→Prop
 | [],us=>us=[]
 | b :: bs,us=>∃ k r,us=.pointer (some ⟨k,0,none⟩) :: r∧β b=some k∧GW β bs r
def LfR (C:Cx) (g:Sg):Lf→Value→Prop
 | .int k n,u=>u=.int k n
 | .bool b,u=>u=.bool b
 | .str s,u=>u=.string s
 | .row i,u=>∃ q A n c,g.ρ i=some q∧q.v=.slice A n c∧u=.slice A n c
 | .view i lo hi,u=>∃ q A n c A' n' c',g.ρ i=some q∧q.v=.slice A n c∧u=.slice A' n' c'∧0≤lo∧lo+(n':Int)=hi∧hi≤(n:Int)∧n'≤c'∧(lo=0→A'=A∧c'=c)∧(0<n'→A'=A.map (·.add (lo.toNat*q.sz)))
 | .nil,u=>u=.slice none 0 0
 | .box i off,u=>∃ k,g.β i=some k∧u=.pointer (some ⟨k,off,none⟩)
 | .elem i j off,u=>∃ q A n c,g.ρ i=some q∧q.v=.slice (some A) n c∧0≤j∧j<(n:Int)∧u=.pointer (some (A.add (j.toNat*q.sz+off)))
 | .fn f caps,u=>∃ us,u=.func (.func f) #[] us.toArray∧GW g.β caps us
 | .fv1 a r φ,u=>RC C.P (.fn1 a r) C.w0 C.R φ [u]
 | .fv2 a b r φ,u=>RC C.P (.fn2 a b r) C.w0 C.R φ [u]
 | .mp i,u=>∃ k,g.β i=some k∧u=.map (some k)
 | .bsl i _ n,u=>∃ k,g.β i=some k∧u=.slice (some ⟨k,0,none⟩) n n
 | .mc _ _ _,_=>False
 | .und,u=>u.oneCell'=true
def AC (C:Cx) (g:Sg):List Lf→List Value→Prop
 | [],us=>us=[]
 | l :: r,us=>∃ u t,us=u :: t∧LfR C g l u∧AC C g r t
def VR (C:Cx) (g:Sg) (ag:Bool) (cs:List Lf) (u:Value):Prop:=∃ us,u=Ay ag us∧AC C g cs us∧(ag=false→cs.length=1)
def B1 (C:Cx) (g:Sg):List (Bool×List Lf)→List Value→Prop
 | [],us=>us=[]
 | p :: r,us=>∃ u t,us=u :: t∧VR C g p.1 p.2 u∧B1 C g r t
def Holds (a:Act) (c:List (Nat×Bool)):Prop:=∀ p∈c,a.tmps.getD p.1 undef=.bool p.2
def AVR (C:Cx) (g:Sg) (a:Act):AV→Value→Prop
 | .v ag cs,u=>VR C g ag cs u
 | .tup vs,u=>∃ us,u=.tuple us.toArray∧B1 C g vs us
 | .grd c b ag cs,u=>(b=true→VR C g ag cs u)∧(b=false→u=undef)∧(Holds a c↔b=true)

theorem GW.mono {β β':Nat→Option Nat} (h:∀ i k,β i=some k→β' i=some k):∀ {bs us},GW β bs us→GW β' bs us
 | [],_,h'=>h'
 | _ :: _,_,⟨k,r,e,hk,h'⟩=>⟨k,r,e,h _ _ hk,GW.mono h h'⟩
theorem LfR.mono {C:Cx} {g g':Sg} (h:g.Le g'):∀ {l u},LfR C g l u→LfR C g' l u
 | .int _ _,_,k | .bool _,_,k | .str _,_,k | .nil,_,k | .und,_,k | .fv1 _ _ _,_,k | .fv2 _ _ _ _,_,k=>k
 | .row _,_,⟨q,A,n,c,hq,r⟩=>⟨q,A,n,c,h.ρ _ _ hq,r⟩
 | .view _ _ _,_,⟨q,A,n,c,A',n',c',hq,r⟩=>⟨q,A,n,c,A',n',c',h.ρ _ _ hq,r⟩
 | .box _ _,_,⟨k,hk,r⟩=>⟨k,h.β _ _ hk,r⟩
 | .elem _ _ _,_,⟨q,A,n,c,hq,r⟩=>⟨q,A,n,c,h.ρ _ _ hq,r⟩
 | .fn _ _,_,⟨us,e,hc⟩=>⟨us,e,hc.mono h.β⟩
 | .mp _,_,⟨k,hk,r⟩=>⟨k,h.β _ _ hk,r⟩
 | .bsl _ _ _,_,⟨k,hk,r⟩=>⟨k,h.β _ _ hk,r⟩
theorem LfR.one {C:Cx} {g:Sg}:∀ {l u},LfR C g l u→u.oneCell'=true
 | .int _ _,_,k | .bool _,_,k | .str _,_,k | .nil,_,k=>by cases k;rfl
 | .und,_,k=>k
 | .fv1 a r φ,_,k=>RC.one (.fn1 a r) k _ (by simp)
 | .fv2 a b r φ,_,k=>RC.one (.fn2 a b r) k _ (by simp)
 | .row _,_,⟨_,_,_,_,_,_,e⟩=>by cases e;rfl
 | .view _ _ _,_,⟨_,_,_,_,_,_,_,_,_,e,_⟩=>by cases e;rfl
 | .box _ _,_,⟨_,_,e⟩=>by cases e;rfl
 | .elem _ _ _,_,⟨_,_,_,_,_,_,_,_,e⟩=>by cases e;rfl
 | .fn _ _,_,⟨_,e,_⟩=>by cases e;rfl
 | .mp _,_,⟨_,_,e⟩=>by cases e;rfl
 | .bsl _ _ _,_,⟨_,_,e⟩=>by cases e;rfl
theorem AC.mono {C:Cx} {g g':Sg} (h:g.Le g'):∀ {l us},AC C g l us→AC C g' l us
 | [],_,k=>k
 | _ :: _,_,⟨u,t,e,k,r⟩=>⟨u,t,e,k.mono h,AC.mono h r⟩
theorem AC.len {C:Cx} {g:Sg}:∀ {l us},AC C g l us→us.length=l.length
 | [],_,k=>by cases k;rfl
 | _ :: _,_,⟨u,t,e,_,r⟩=>by subst e;simp[AC.len r]
theorem AC.one {C:Cx} {g:Sg}:∀ {l us},AC C g l us→∀ u∈us,u.oneCell'=true
 | [],_,k=>by cases k;simp
 | _ :: _,_,⟨u,t,e,k,r⟩=>by
  subst e;intro v hv;rcases AqA.1 hv with rfl | hv
  ·exact k.one
  ·exact AC.one r v hv
theorem AC.append {C:Cx} {g:Sg}:∀ {l us l' us'},AC C g l us→AC C g l' us'→AC C g (l++l') (us++us')
 | [],_,_,_,k,k'=>by cases k;exact k'
 | _ :: _,_,_,_,⟨u,t,e,k,r⟩,k'=>by subst e;exact⟨u,_,rfl,k,AC.append r k'⟩
theorem AC.take {C:Cx} {g:Sg}:∀ (n:Nat) {l us},AC C g l us→AC C g (l.take n) (us.take n)
 | 0,_,_,_=>by simp[AC]
 | n+1,[],_,k=>by cases k;simp[AC]
 | n+1,_ :: _,_,⟨u,t,e,k,r⟩=>by subst e;exact⟨u,_,rfl,k,AC.take n r⟩
theorem AC.drop {C:Cx} {g:Sg}:∀ (n:Nat) {l us},AC C g l us→AC C g (l.drop n) (us.drop n)
 | 0,_,_,k=>by simpa using k
 | n+1,[],_,k=>by cases k;simp[AC]
 | n+1,_ :: _,_,⟨u,t,e,k,r⟩=>by subst e;simpa using AC.drop n r
theorem AC.split {C:Cx} {g:Sg}:∀ {l l' us},AC C g (l++l') us→∃ u1 u2,us=u1++u2∧AC C g l u1∧AC C g l' u2
 | [],_,us,k=>⟨[],us,rfl,rfl,k⟩
 | _ :: _,_,_,⟨u,t,e,k,r⟩=>by
  obtain⟨u1,u2,rfl,h1,h2⟩:=AC.split r;exact⟨u :: u1,u2,by simp[e],⟨u,u1,rfl,k,h1⟩,h2⟩
theorem VR.mono {C:Cx} {g g':Sg} (h:g.Le g') {ag cs u} (k:VR C g ag cs u):VR C g' ag cs u:=by
 obtain⟨us,e,r,l⟩:=k;exact⟨us,e,r.mono h,l⟩
theorem B1.mono {C:Cx} {g g':Sg} (h:g.Le g'):∀ {vs us},B1 C g vs us→B1 C g' vs us
 | [],_,k=>k
 | _ :: _,_,⟨u,t,e,k,r⟩=>⟨u,t,e,k.mono h,B1.mono h r⟩
theorem AVR.mono {C:Cx} {g g':Sg} (h:g.Le g') {a:Act}:∀ {v u},AVR C g a v u→AVR C g' a v u
 | .v _ _,_,k=>VR.mono h k
 | .tup _,_,⟨us,e,k⟩=>⟨us,e,k.mono h⟩
 | .grd _ _ _ _,_,⟨k1,k2,k3⟩=>⟨fun hb=>(k1 hb).mono h,k2,k3⟩
theorem VR.of1 {C:Cx} {g:Sg} {l:Lf} {u:Value} (h:LfR C g l u):VR C g false [l] u:=⟨[u],rfl,⟨u,[],rfl,h,rfl⟩,fun _=>rfl⟩
theorem VR.to1 {C:Cx} {g:Sg} {l:Lf} {u:Value} (h:VR C g false [l] u):LfR C g l u:=by
 obtain⟨us,e,⟨u',t,rfl,hl,ht⟩,_⟩:=h;cases ht;exact e▸hl

theorem C8 {i j:Nat} (h:i≠j):Nat.beq i j=false:=by
 cases hb:Nat.beq i j
 ·rfl
 ·exact absurd (Aqm hb) h
theorem Bs (i:Nat):Nat.beq i i=true:=AsA i
theorem Cj {α:Type} (i:Nat) (x:α) (r:List (Nat×α)) (t:Nat):lkp ((i,x) :: r) t=if i=t then some x else lkp r t:=by
 by_cases h:i=t
 ·subst h;simp[lkp]
 ·simp[lkp,C8 h,h]
theorem Fx {α:Type}:∀ (l:List (Nat×α)) (t u:Nat) (v:α),lkp (ins l t v) u=if t=u then some v else lkp l u
 | [],t,u,v=>by rw[ins,Cj]
 | (i,x) :: r,t,u,v=>by
  simp only[ins];by_cases h1:i=t
  ·subst h1;rw[Bs,cond_true,Cj,Cj];split<;>simp_all
  ·rw[C8 h1,cond_false];cases h2:Nat.blt t i
   ·rw[cond_false,Cj,Fx r t u v,Cj];by_cases h3:i=u
    ·have:t≠u:=fun e=>h1 (h3.trans e.symm);simp[h3,this]
    ·simp[h3]
   ·rw[cond_true,Cj]
theorem Fy {α:Type}:∀ {l:List (Nat×α)} {t:Nat} {v:α},lkp l t=some v→(t,v)∈l
 | [],_,_,h=>by simp[lkp] at h
 | (i,x) :: r,t,v,h=>by
  rw[Cj] at h;split at h
  ·rename_i e;cases h;simp[e]
  ·exact Arl _ (Fy h)
def Up {α:Type} (l:List (Nat×α)):Prop:=(l.map (·.1)).Pairwise (·<·)
theorem Up.of_mem {α:Type}:∀ {l:List (Nat×α)} {t:Nat} {v:α},Up l→(t,v)∈l→lkp l t=some v
 | (i,x) :: r,t,v,hn,h=>by
  simp only[Up,Arh,AqY] at hn;rw[Cj];rcases AqA.1 h with e | h
  ·cases e;simp
  ·have:=hn.1 t (AqG.2 ⟨_,h,rfl⟩);rw[if_neg (by omega)]
   exact Up.of_mem hn.2 h
theorem Up.ins {α:Type} (t:Nat) (v:α):∀ {l:List (Nat×α)},Up l→Up (ins l t v)
 | [],_=>by simp[X.ins,Up]
 | (i,x) :: r,h=>by
  simp only[Up,Arh,AqY] at h;simp only[X.ins];by_cases h1:i=t
  ·subst h1;rw[Bs,cond_true];simpa[Up] using h
  ·rw[C8 h1,cond_false];cases h2:Nat.blt t i
   ·have hle:i<t:=by
     rcases Arf t i with h3 | h3
     ·have:Nat.blt t i=true:=by simp only[Nat.blt,ArB];omega
      rw[this] at h2;cases h2
     ·omega
    rw[cond_false];simp only[Up,Arh,AqY];refine⟨fun j hj=>?_,h.2 |> fun h=>Up.ins t v (l:=r) h⟩;obtain⟨p,hp,rfl⟩:=AqG.1 hj;have:p=(t,v)∨p∈r:=mem_ins hp;rcases this with rfl | hp
    ·exact hle
    ·exact h.1 _ (AqG.2 ⟨p,hp,rfl⟩)
   ·have hlt:t<i:=by simp only[Nat.blt,ArB] at h2;omega
    rw[cond_true];simp only[Up,Arh,AqY,AqA];refine⟨fun j hj=>?_,h⟩;rcases hj with rfl | hj
    ·exact hlt
    ·exact Nat.lt_trans hlt (h.1 j hj)
 where
 mem_ins {α:Type} {t:Nat} {v:α}:∀ {l:List (Nat×α)} {p:Nat×α},p∈X.ins l t v→p=(t,v)∨p∈l
  | [],p,h=>by simp[X.ins] at h;exact .inl h
  | (i,x) :: r,p,h=>by
   simp only[X.ins] at h;by_cases h1:i=t
   ·subst h1;rw[Bs,cond_true] at h;rcases AqA.1 h with h | h
    ·exact .inl h
    ·exact .inr (Arl _ h)
   ·rw[C8 h1,cond_false] at h;cases h2:Nat.blt t i
    ·rw[h2,cond_false] at h;rcases AqA.1 h with h | h
     ·exact .inr (by simp[h])
     ·exact (mem_ins h).imp id (Arl _)
    ·rw[h2,cond_true] at h;rcases AqA.1 h with h | h
     ·exact .inl h
     ·exact .inr h
theorem Up.filter {α:Type} (f:Nat×α→Bool) {l:List (Nat×α)} (h:Up l):Up (l.filter f):=List.Pairwise.sublist (List.Sublist.map _ List.filter_sublist) h
theorem Ee {α:Type} {f:Nat×α→Bool} {l:List (Nat×α)} (hn:Up l) {t:Nat} {v:α} (h:lkp (l.filter f) t=some v):lkp l t=some v∧f (t,v)=true:=by
 have:=AqR.1 (Fy h);exact⟨hn.of_mem this.1,this.2⟩
theorem BQ {α:Type}:∀ (l:List (Option α)) (i:Nat),at? l i=(l[i]?).join
 | [],i=>by simp[at?]
 | x :: _,0=>by simp[at?]
 | _ :: r,i+1=>by simp[at?,BQ r i]
theorem A4 {α:Type} {l:List (Option α)} {i:Nat} {x:α} (h:at? l i=some x):i<l.length:=by
 rw[BQ] at h;rcases Arf i l.length with h' | h'
 ·exact h'
 ·simp[AqC h'] at h
theorem Ef {α:Type} (l r:List (Option α)) (i:Nat):at? (l++r) i=if i<l.length then at? l i else at? r (i-l.length):=by
 simp only[BQ,List.getElem?_append];split<;>rfl
theorem AR {α:Type}:∀ (l:List (Option α)) (i:Nat) (x:Option α),(AL l i x).length=l.length
 | [],_,_=>rfl
 | _ :: _,0,_=>rfl
 | _ :: r,i+1,x=>by simp[AL,AR r i x]
theorem AK {α:Type}:∀ (l:List (Option α)) (i j:Nat) (x:Option α),at? (AL l i x) j=if i=j∧i<l.length then x else at? l j
 | [],i,j,x=>by simp[AL,at?]
 | y :: r,0,0,x=>by simp[AL,at?]
 | y :: r,0,j+1,x=>by simp[AL,at?]
 | y :: r,i+1,0,x=>by simp[AL,at?]
 | y :: r,i+1,j+1,x=>by simp[AL,at?,AK r i j x]
theorem Bh (i:Nat) (rw:List (Option Ac)):(Ae i rw).length=rw.length:=by simp[Ae]
theorem Aq {i:Nat} {rw:List (Option Ac)} {j:Nat} {r:Ac}:at? (Ae i rw) j=some r↔at? rw j=some r∧∀ p a,r.m=.bor p a→p≠i:=by
 simp only[Ae,BQ,Aqt];cases h:rw[j]? with
 | none=>simp
 | some o =>
  cases o with
  | none=>simp
  | some q =>
   simp only[AqU,AsF];cases hm:q.m with
   | bor p a =>
    simp only;by_cases hp:p=i
    ·subst hp;rw[Bs,cond_true];constructor
     ·intro h;cases h
     ·rintro⟨h,h'⟩
      cases h;exact absurd rfl (h' _ _ hm)
    ·rw[C8 hp,cond_false];constructor
     ·intro h;cases h;exact⟨rfl,fun p' a' e=>by rw[hm] at e;cases e;exact hp⟩
     ·exact fun h=>h.1
   | own | io | ro =>
    simp only;constructor
    ·intro h;cases h;exact⟨rfl,fun p' a' e=>by rw[hm] at e;cases e⟩
    ·exact fun h=>h.1
structure FF where
 nt:Nat
 sl:List (Nat×AV)
 bx:Nat→Option Bn
 rw:Nat→Option Ac
def Fr.f (fr:Fr):FF:=⟨fr.nt,fr.sl,at? fr.bx,at? fr.rw⟩
def cellsF:(s:Sh)→s.T→List Value
 | .int k,n=>[.int k n]
 | .bool,b=>[.bool b]
 | .str,b=>[.string b]
 | .cons a b,x=>cellsF a x.1++cellsF b x.2
 | _,_=>[]
def BI (s:Sh) (x:s.T):Value:=Ay s.agg (cellsF s x)
def FI (C:Cx) (g:Sg) (cs:List Lf):Obj→Prop
 | .cells c _ z=>z=(0,0)∧AC C g cs c.toList
 | .map es _=>∃ K V xs,cs=[.mc K V xs]∧K.flat=true∧V.flat=true∧es.toList.map (fun e=>(e.key,e.val))=xs.map fun x=>(BI K x.1,BI V x.2)
 | _=>False
theorem FI.mono {C:Cx} {g g':Sg} {cs:List Lf} (hg:g.Le g'):∀ {o:Obj},FI C g cs o→FI C g' cs o
 | .cells _ _ _,h=>⟨h.1,h.2.mono hg⟩
 | .map _ _,h=>h
theorem FI.cells {C:Cx} {g:Sg} {cs:List Lf} (hp:Bz cs=true):∀ {o:Obj},FI C g cs o→∃ c t,o=.cells c t (0,0)∧AC C g cs c.toList
 | .cells c t _,h=>⟨c,t,by rw[h.1],h.2⟩
 | .map _ _,⟨_,_,_,h,_⟩=>by subst h;cases hp
def Ch (C:Cx) (g:Sg) (w:World) (b:Bn) (i:Nat):Prop :=
 ∃ k o,g.β i=some k∧w.heap[k]? = some o∧FI C g b.cs o∧(b.own=true→C.w0.heap.size≤k∨C.S k)∧(b.own=false→C.R k)
theorem Ch.ofCells {C:Cx} {g:Sg} {w:World} {b:Bn} {i:Nat} (h:∃ k cs t,g.β i=some k∧w.heap[k]? = some (.cells cs t (0,0))∧AC C g b.cs cs.toList∧(b.own=true→C.w0.heap.size≤k∨C.S k)∧(b.own=false→C.R k)):Ch C g w b i:=by
 obtain⟨k,cs,t,h1,h2,h3,h4⟩:=h;exact⟨k,_,h1,h2,⟨rfl,h3⟩,h4⟩
theorem Ch.toCells {C:Cx} {g:Sg} {w:World} {b:Bn} {i:Nat} (h:Ch C g w b i) (hp:Bz b.cs=true):∃ k cs t,g.β i=some k∧w.heap[k]? = some (.cells cs t (0,0))∧AC C g b.cs cs.toList∧(b.own=true→C.w0.heap.size≤k∨C.S k)∧(b.own=false→C.R k):=by
 obtain⟨k,o,h1,h2,h3,h4⟩:=h;obtain⟨c,t,rfl,h5⟩:=h3.cells hp;exact⟨k,c,t,h1,h2,h5,h4⟩
def B4 (C:Cx) (rw:Nat→Option Ac) (g:Sg) (i:Nat) (r:Ac) (q:B3) (w:World):Prop :=
 match r.m with
 | .own=>Bq r.e r.s w q.F q.v r.xs∧(∀ k,q.F k→C.w0.heap.size≤k∨C.S k)
 | .io=>Bq r.e r.s w q.F q.v r.xs∧(∀ k,q.F k→C.w0.heap.size≤k∨C.S k)∧C.io i=some q
 | .ro=>DA C.P r.e r.s w q.F q.v r.xs∧(∀ k,q.F k→C.R k)
 | .bor p pa=>DA C.P r.e r.s w q.F q.v r.xs∧∃ r' q',rw p=some r'∧r'.m.mine=true∧g.ρ p=some q'∧(∀ k,q.F k→q'.F k) ∧
   ∀ j off,pa=some (j,off)→∃ A n c,q'.v=.slice (some A) n c∧0≤j∧j<(n:Int)∧off<r'.s.n∧w.cell? (A.add (j.toNat*r'.s.n+off))=some q.v
def CI (C:Cx) (rw:Nat→Option Ac) (g:Sg) (w:World) (i:Nat) (r:Ac):Prop :=
 ∃ q A n c,g.ρ i=some q∧q.v=.slice A n c∧q.sz=r.s.n∧(∀ k,q.F k→k<w.heap.size)∧B4 C rw g i r q w
structure Hx (S:FP) (w0 w:World):Prop where
 drawn:Hw w0≤Hw w
 os:w.os=w0.os
 tape:w.tape=w0.tape
 output:w.output=w0.output
 size:w0.heap.size≤w.heap.size
 block:∀ k,k<w0.heap.size→¬ S k→w.heap[k]? = w0.heap[k]?
theorem Hx.tabs {C:Cx} (hC:A9 C) {w:World} (h:Hx C.S C.w0 w):Hv w :=
 hC.tabs.keep h.size fun k hk=>h.block k (hC.R_lt k (hC.glR k hk)).1 (hC.R_lt k (hC.glR k hk)).2
structure Sim (C:Cx) (fr:FF) (g:Sg) (a:Act) (w:World):Prop where
 nodef:a.defers=[]
 size:a.tmps.size=fr.nt
 up:Up fr.sl
 kept:Hx C.S C.w0 w
 slots:∀ t v,lkp fr.sl t=some v→AVR C g a v (a.tmps.getD t undef)
 boxes:∀ i b,fr.bx i=some b→Ch C g w b i
 bdisj:∀ i j b b' k,fr.bx i=some b→fr.bx j=some b'→b.own=true→g.β i=some k→g.β j=some k→i=j
 rows:∀ i r,fr.rw i=some r→CI C fr.rw g w i r
 rdisj:∀ i j r r' q q' k,fr.rw i=some r→fr.rw j=some r'→r.m.mine=true→r'.m.mine=true→g.ρ i=some q→g.ρ j=some q'→q.F k→q'.F k→i=j
 rbox:∀ i r q j b k,fr.rw i=some r→r.m.mine=true→g.ρ i=some q→fr.bx j=some b→b.own=true→g.β j=some k→¬ q.F k
 tied:∀ i q,C.io i=some q→g.ρ i=some q
 tie:∀ k,C.bt=some k→g.β 0=some k
structure Fit (fr:Fr) (g:Sg):Prop where
 β:∀ i,fr.bx.length≤i→g.β i=none
 ρ:∀ i,fr.rw.length≤i→g.ρ i=none

theorem Hx.refl (S:FP) (w:World):Hx S w w:=⟨Aqr _,rfl,rfl,rfl,Aqr _,fun _ _ _=>rfl⟩
theorem Hx.trans {S:FP} {a b c:World} {S':FP} (h:Hx S a b) (k:Hx S' b c) (hS:∀ k,S' k→a.heap.size≤k∨S k):Hx S a c :=
 ⟨AqE h.drawn k.drawn,k.os.trans h.os,k.tape.trans h.tape,k.output.trans h.output,AqE h.size k.size,fun i hi hn =>
  (k.block i (AqN hi h.size) fun hs=>(hS i hs).elim (fun h=>absurd hi (Aq1.2 h)) hn).trans (h.block i hi hn)⟩


structure AE (D:FP) (w w':World):Prop where
 drawn:Hw w≤Hw w'
 os:w'.os=w.os
 tape:w'.tape=w.tape
 output:w'.output=w.output
 size:w.heap.size≤w'.heap.size
 block:∀ k,k<w.heap.size→¬ D k→w'.heap[k]? = w.heap[k]?
theorem AE.refl (D:FP) (w:World):AE D w w:=⟨Aqr _,rfl,rfl,rfl,Aqr _,fun _ _ _=>rfl⟩
theorem AE.kept {C:Cx} {D:FP} {w w':World} (h:AE D w w') (k:Hx C.S C.w0 w) (hD:∀ k,D k→C.w0.heap.size≤k∨C.S k):Hx C.S C.w0 w' :=
 ⟨AqE k.drawn h.drawn,h.os.trans k.os,h.tape.trans k.tape,h.output.trans k.output,AqE k.size h.size,fun i hi hn =>
  (h.block i (AqN hi k.size) fun hd=>(hD i hd).elim (fun h=>absurd hi (Aq1.2 h)) hn).trans (k.block i hi hn)⟩
theorem AE.blk {D:FP} {w w':World} (h:AE D w w') {k:Nat} {o:Obj} (hk:w.heap[k]? = some o) (hD:¬ D k):w'.heap[k]? = some o :=
 (h.block k (AqP.1 hk).1 hD).trans hk
theorem AE.same {D F:FP} {w w':World} (h:AE D w w') (hF:∀ k,F k→k<w.heap.size∧¬ D k):Ed F w w':=⟨h.size,fun k hk=>h.block k (hF k hk).1 (hF k hk).2⟩
theorem Ch.moves {C:Cx} {g:Sg} {w w':World} {D:FP} {b:Bn} {i:Nat} (h:Ch C g w b i) (hm:AE D w w') (hD:∀ k,g.β i=some k→¬ D k):Ch C g w' b i:=by
 obtain⟨k,o,hk,hb,r⟩:=h;exact⟨k,o,hk,hm.blk hb (hD k hk),r⟩
theorem Ch.mono {C:Cx} {g g':Sg} {w:World} {b:Bn} {i:Nat} (hg:g.Le g') (h:Ch C g w b i):Ch C g' w b i:=by
 obtain⟨k,o,hk,hb,hl,r⟩:=h;exact⟨k,o,hg.β _ _ hk,hb,hl.mono hg,r⟩
theorem DA.same {P:Program} {e:Nat} {s:Sh} {w w':World} {F:FP} {v:Value} {xs:List s.T} (hs:Ed F w w') (h:DA P e s w F v xs):DA P e s w' F v xs:=RC.same (.list e s) hs h
theorem DA.mono {P:Program} {e:Nat} {s:Sh} {w:World} {F F':FP} {v:Value} {xs:List s.T} (hF:∀ k,F k→F' k) (h:DA P e s w F v xs):DA P e s w F' v xs:=RC.mono (.list e s) hF h
theorem CI.moves {C:Cx} {rw rw':Nat→Option Ac} {g:Sg} {w w':World} {D:FP} {i:Nat} {r:Ac} (h:CI C rw g w i r) (hm:AE D w w')
  (hD:∀ q,g.ρ i=some q→∀ k,q.F k→¬ D k)
  (hp:∀ p pa,r.m=.bor p pa→∀ r',rw p=some r'→r'.m.mine=true→(∃ r'',rw' p=some r''∧r''.m.mine=true∧r''.s.n=r'.s.n)∧∀ q',g.ρ p=some q'→∀ k,q'.F k→¬ D k)
  (hb:∀ p pa r' q',r.m=.bor p pa→rw p=some r'→r'.m.mine=true→g.ρ p=some q'→∀ A n c,q'.v=.slice (some A) n c→0<n→q'.F A.block):CI C rw' g w' i r:=by
 obtain⟨q,A,n,c,hq,hv,hz,hl,hZ⟩:=h;refine⟨q,A,n,c,hq,hv,hz,fun k hk=>AqN (hl k hk) hm.size,?_⟩;have hs:Ed q.F w w':=hm.same fun k hk=>⟨hl k hk,hD q hq k hk⟩;unfold B4 at hZ ⊢;split at hZ
 ·exact⟨Bq.same hs.blk hZ.1,hZ.2⟩
 ·exact⟨Bq.same hs.blk hZ.1,hZ.2⟩
 ·exact⟨DA.same hs hZ.1,hZ.2⟩
 ·rename_i p pa hm';obtain⟨hr,r',q',hr',hmi,hq',hF,hpa⟩:=hZ;obtain⟨⟨r'',hr'',hmi'',hn''⟩,hDp⟩:=hp p pa hm' r' hr' hmi;refine⟨DA.same hs hr,r'',q',hr'',hmi'',hq',hF,fun j off e=>?_⟩;obtain⟨A',n',c',e1,h0,hj,ho,hc⟩:=hpa j off e;refine⟨A',n',c',e1,h0,hj,hn''.symm▸ho,?_⟩;rw[hn''];have hF':=hb p pa r' q' hm' hr' hmi hq' A' n' c' e1 (by omega)
  rw[← hc];refine World.cell?_of_block (hm.block _ ?_ ?_)
  ·have:((A'.add (j.toNat*r'.s.n+off)).block)<w.heap.size:=World.block_lt_of_cell? w _ hc;exact this
  ·have:(A'.add (j.toNat*r'.s.n+off)).block=A'.block:=by unfold Addr.add;split<;>rfl
   rw[this];exact hDp q' hq' _ hF'
theorem Bq.block {e:Nat} {s:Sh} {w:World} {F:FP} {v:Value} {xs:List s.T} (h:Bq e s w F v xs) {A:Addr} {n c:Nat} (hv:v=.slice (some A) n c):F A.block:=by
 obtain⟨_,_,_,_,hb,_⟩:=h;exact hb _ (by rw[hv];rfl)
theorem B4.mine {C:Cx} {rw:Nat→Option Ac} {g:Sg} {i:Nat} {r:Ac} {q:B3} {w:World} (h:B4 C rw g i r q w) (hm:r.m.mine=true):Bq r.e r.s w q.F q.v r.xs∧(∀ k,q.F k→C.w0.heap.size≤k∨C.S k):=by
 unfold B4 at h;split at h
 ·exact h
 ·exact⟨h.1,h.2.1⟩
 ·rename_i e;rw[e] at hm;cases hm
 ·rename_i e;rw[e] at hm;cases hm
theorem CI.mine {C:Cx} {rw:Nat→Option Ac} {g:Sg} {w:World} {i:Nat} {r:Ac} (h:CI C rw g w i r) (hm:r.m.mine=true) {q:B3} (hq:g.ρ i=some q):Bq r.e r.s w q.F q.v r.xs∧(∀ k,q.F k→C.w0.heap.size≤k∨C.S k):=by
 obtain⟨q',A,n,c,hq',hv,hz,hl,hZ⟩:=h;rw[hq] at hq';cases hq';exact hZ.mine hm
theorem CI.read {C:Cx} {rw:Nat→Option Ac} {g:Sg} {w:World} {i:Nat} {r:Ac} (h:CI C rw g w i r) {q:B3} (hq:g.ρ i=some q):DA C.P r.e r.s w q.F q.v r.xs:=by
 obtain⟨q',A,n,c,hq',hv,hz,hl,hZ⟩:=h;rw[hq] at hq';cases hq';unfold B4 at hZ;split at hZ
 ·exact hZ.1.read
 ·exact hZ.1.read
 ·exact hZ.1
 ·exact hZ.1
theorem Sim.rows_moves {C:Cx} (hC:A9 C) {fr:FF} {g:Sg} {a:Act} {w w':World} (h:Sim C fr g a w) {D:FP} (hm:AE D w w') (hD:∀ k,D k→C.w0.heap.size≤k∨C.S k)
  (hrow:∀ i r q k,fr.rw i=some r→r.m.mine=true→g.ρ i=some q→q.F k→¬ D k):∀ i r,fr.rw i=some r→CI C fr.rw g w' i r:=by
 intro i r hr;have hR:∀ k,C.R k→¬ D k:=fun k hk hd=>by
  obtain⟨h1,h2⟩:=hC.R_lt k hk;exact (hD k hd).elim (fun h=>absurd h1 (Aq1.2 h)) h2
 have hpar:∀ p pa r',fr.rw p=some r'→r'.m.mine=true→r.m=.bor p pa→∀ q',g.ρ p=some q'→∀ k,q'.F k→¬ D k:=fun p pa r' hr' hmi _ q' hq' k hk=>hrow p r' q' k hr' hmi hq' hk;refine (h.rows i r hr).moves hm (fun q hq k hk=>?_) (fun p pa hm' r' hr' hmi=>⟨⟨r',hr',hmi,rfl⟩,hpar p pa r' hr' hmi hm'⟩) (fun p pa r' q' hm' hr' hmi hq' A n c hv hn=>?_)
 ·obtain⟨q1,A,n,c,hq1,hv,hz,hl,hZ⟩:=h.rows i r hr;rw[hq] at hq1;cases hq1;cases hmm:r.m with
  | own=>exact hrow i r q k hr (by rw[hmm];rfl) hq hk
  | io=>exact hrow i r q k hr (by rw[hmm];rfl) hq hk
  | ro =>
   rw[B4,hmm] at hZ;exact hR k (hZ.2 k hk)
  | bor p pa =>
   rw[B4,hmm] at hZ;obtain⟨_,r',q',hr',hmi,hq',hF,_⟩:=hZ;exact hrow p r' q' k hr' hmi hq' (hF k hk)
 ·exact (CI.mine (h.rows p r' hr') hmi hq').1.block hv
theorem Sim.moves {C:Cx} (hC:A9 C) {fr:FF} {g:Sg} {a:Act} {w w':World} (h:Sim C fr g a w) {D:FP} (hm:AE D w w') (hD:∀ k,D k→C.w0.heap.size≤k∨C.S k)
  (hrow:∀ i r q k,fr.rw i=some r→r.m.mine=true→g.ρ i=some q→q.F k→¬ D k)
  (hbox:∀ i b k,fr.bx i=some b→b.own=true→g.β i=some k→¬ D k):Sim C fr g a w':=by
 refine { h with kept:=hm.kept h.kept hD,boxes:=fun i b hb=>?_,rows:=h.rows_moves hC hm hD hrow }
 refine (h.boxes i b hb).moves hm fun k hk hd=>?_;cases ho:b.own with
 | true=>exact hbox i b k hb ho hk hd
 | false =>
  obtain⟨k',o,hk',_,_,_,hr⟩:=h.boxes i b hb;rw[hk] at hk';cases hk';obtain⟨h1,h2⟩:=hC.R_lt k (hr ho);exact (hD k hd).elim (fun h=>absurd h1 (Aq1.2 h)) h2
end Go.Proofs.YteheolldcpjkcaaGreat.X
