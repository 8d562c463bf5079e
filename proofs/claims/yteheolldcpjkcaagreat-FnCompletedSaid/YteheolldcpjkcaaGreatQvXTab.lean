/- The tables of types, checked by a Bool. -/
import Derived.Test.YteheolldcpjkcaaGreatQvXRes
set_option linter.unusedSimpArgs false
set_option linter.unusedVariables false
set_option linter.unusedSectionVars false
namespace Go.Proofs.YteheolldcpjkcaaGreat.X
open Go Go.RowKit
variable [CW]
 deriving instance DecidableEq for Kd
def Af6:Value→Value→Bool
 | .int k n,.int k' n'=>decide (k=k')&&decide (n=n')
 | .bool a,.bool b=>a==b
 | .string a,.string b=>decide (a.size=0)&&decide (b.size=0)
 | .slice none 0 0,.slice none 0 0=>true
 | _,_=>false
def NC:List Value→List Value→Bool
 | [],[]=>true
 | a :: r,b :: t=>Af6 a b&&NC r t
 | _,_=>false
theorem UA {a b:ByteArray} (ha:a.size=0) (hb:b.size=0):a=b:=by
 obtain⟨⟨a⟩⟩:=a;obtain⟨⟨b⟩⟩:=b;simp only[ByteArray.size,List.size_toArray,ArY] at ha hb;subst ha;subst hb;rfl
theorem Af7 {a b:Value} (h:Af6 a b=true):a=b:=by
 unfold Af6 at h;split at h
 ·simp only[Aql,decide_eq_true_eq] at h;rw[h.1,h.2]
 ·rw[beq_iff_eq.1 h]
 ·simp only[Aql,decide_eq_true_eq] at h;rw[UA h.1 h.2]
 ·rfl
 ·cases h
theorem J5:∀ {a b:List Value},NC a b=true→a=b
 | [],[],_=>rfl
 | a :: r,b :: t,h=>by
  simp only[NC,Aql] at h;rw[Af7 h.1,J5 h.2]
 | [],_ :: _,h | _ :: _,[],h=>by cases h
def UB (P:Program) (t:Nat) (s:Sh):Bool :=
 match P.info? t,CJ P t,Cc s with
 | some i,some b,some cs=>Nat.beq i.size s.n&&(b==s.agg)&&(match i.zero,s.agg with
  | some (.agg zs),true=>NC zs.toList cs
  | some z,false=>NC [z] cs
  | _,_=>false)
 | _,_,_=>false
theorem ND {P:Program} {t:Nat} {s:Sh} (h:UB P t s=true):Fu P t s:=by
 unfold UB at h;split at h
 ·rename_i i b cs h1 h2 h3;simp only[Aql,beq_iff_eq] at h;obtain⟨⟨h4,h5⟩,h6⟩:=h;subst h5;refine⟨?_,h2⟩;split at h6
  ·rename_i zs hz ha;have:=J5 h6;refine⟨i,_,h1,Aqm h4,hz,cs,h3,?_⟩;rw[ha];simp[Ay,← this]
  ·rename_i z hz ha;have:=J5 h6;refine⟨i,_,h1,Aqm h4,hz,cs,h3,?_⟩;rw[ha,← this];rfl
  ·cases h6
 ·cases h
def LD (P:Program):List Field→List (Nat×Nat)→Bool
 | [],[]=>true
 | fd :: r,(off,n) :: t=>Nat.beq fd.offset off&&Nat.blt 0 n&&(match P.info? fd.type,CJ P fd.type with
  | some i,some b=>Nat.beq i.size n&&(b==Nat.blt 1 n)
  | _,_=>false)&&LD P r t
 | _,_=>false
theorem NE {P:Program}:∀ {fds:List Field} {fs:List (Nat×Nat)},LD P fds fs=true→fds.mapM (fun f=>(P.info? f.type).map fun i=>(f.offset,i.size))=some fs ∧
  ∀ (j off n:Nat),fs[j]? = some (off,n)→∃ fd i,fds[j]? = some fd∧fd.offset=off∧P.info? fd.type=some i∧i.size=n∧0<n∧CJ P fd.type=some (Nat.blt 1 n)
 | [],[],_=>⟨rfl,fun j off n h=>by simp at h⟩
 | fd :: r,(off,n) :: t,h=>by
  simp only[LD,Aql] at h;obtain⟨⟨⟨h1,h2⟩,h3⟩,h4⟩:=h;split at h3
  ·rename_i i b h5 h6;simp only[Aql,beq_iff_eq] at h3;obtain⟨h7,h8⟩:=h3;obtain⟨h9,h10⟩:=NE h4;have e1:=Aqm h1;have e2:=Aqm h7;have e3:0<n:=by simp only[Nat.blt,ArB] at h2;omega
   refine⟨by rw[AsZ,h9,h5,e1];simp[e2],fun j off' n' hj=>?_⟩
   cases j with
   | zero =>
    simp only[Aq6,AqV,As6] at hj;obtain⟨rfl,rfl⟩:=hj;exact⟨fd,i,rfl,e1,h5,e2,e3,by rw[h6,h8]⟩
   | succ j=>exact h10 j off' n' (by simpa using hj)
  ·cases h3
 | [],_ :: _,h | _ :: _,[],h=>by cases h
def PD (P:Program) (t:Nat):Ty→Bool
 | .sc (.int k)=>(match P.underlying t with | some (.int k')=>decide (k=k') | _=>false)
 | .sc .bool=>(match P.underlying t with | some .bool=>true | _=>false)
 | .sc .str=>(match P.underlying t with | some .string=>true | _=>false)
 | .sc _=>false
 | .st s fs=>s.agg&&(match P.underlying t with | some (.struct fds)=>LD P fds.toList fs | _=>false)
 | .sl e s b=>(match P.underlying t,P.info? e with | some (.slice e'),some i=>Nat.beq e e'&&UB P e s&&Nat.beq i.bytes b | _,_=>false)
 | .ar s e n=>(match P.underlying t,CJ P e,P.info? e with | some (.array n' e'),some false,some i=>s.agg&&(Nat.beq e e'&&(Nat.beq n n'&&Nat.beq i.size 1)) | _,_,_=>false)
theorem Af8 {P:Program} {t:Nat} {ty:Ty} (h:PD P t ty=true):AfA P t ty:=by
 cases ty with
 | sc s =>
  cases s<;>simp only[PD] at h<;>first | (cases h;done) | skip
  all_goals
   split at h
   ·rename_i e
    first
     | (have:=of_decide_eq_true h;subst this;exact e)
     | exact e
   ·cases h
 | st s fs =>
  simp only[PD,Aql] at h;obtain⟨h1,h2⟩:=h;split at h2
  ·rename_i fds e;obtain⟨h3,h4⟩:=NE h2;refine⟨h1,fds,e,h3,fun j off n hj=>?_⟩;obtain⟨fd,i,a1,a2⟩:=h4 j off n hj;exact⟨fd,i,by simpa using a1,a2⟩
  ·cases h2
 | sl e s b =>
  simp only[PD] at h;split at h
  ·rename_i e' i h1 h2;simp only[Aql] at h;obtain⟨⟨h3,h4⟩,h5⟩:=h;have:=Aqm h3;subst this;refine⟨h1,ND h4,fun j hj=>?_⟩;rw[h2] at hj;cases hj;exact Aqm h5
  ·cases h
 | ar s e n =>
  simp only[PD] at h;split at h
  ·rename_i n' e' i h1 h2 h3;simp only[Aql] at h;obtain⟨h4,h5,h6,h7⟩:=h;have e1:=Aqm h5;have e2:=Aqm h6;subst e1 e2;exact⟨h4,h1,h2,i,h3,Aqm h7⟩
  ·cases h
def eqB (P:Program) (t:Nat) (ks:List Sh):Bool :=
 match eqT P 12 t,E0 ks,CJ P t with
 | some _,some l,some true=>decide (l=kds P 12 t)&&!P.eqGuardType P.depth t
 | _,_,_=>false
def Anh (P:Program) (t:Nat) (m:MTy):Bool :=
 (match P.underlying t with | some (.map k v)=>Nat.beq k m.k&&Nat.beq v m.v | _=>false)&&UB P m.v m.V&&m.K.flat&&m.V.flat &&
 (match eqT P 12 m.k,E0 (GZ m.K),CJ P m.k with
  | some n,some l,some ag=>decide (l=kds P 12 m.k)&&(ag==m.K.agg)&&(ag||Nat.beq n 1)
  | _,_,_=>false)
theorem Akb {P:Program} {t:Nat} {m:MTy} (h:Anh P t m=true):Pj P t m:=by
 unfold Anh at h;simp only[Aql] at h;obtain⟨⟨⟨⟨h1,h2⟩,kf⟩,vf⟩,h5⟩:=h;split at h1
 ·rename_i k v hu;simp only[Aql] at h1;have e1:=Aqm h1.1;have e2:=Aqm h1.2;subst e1;subst e2;split at h5
  ·rename_i n l ag hn hl hag;simp only[Aql,decide_eq_true_eq,beq_iff_eq,ArQ] at h5;obtain⟨⟨rfl,rfl⟩,h6⟩:=h5;have h1':m.K.agg=false→n=1:=fun e=>by
    rcases h6 with h6 | h6
    ·rw[e] at h6;cases h6
    ·exact Aqm h6
   refine⟨hu,ND h2,kf,vf,fun x e w=>?_,fun x y w=>?_,?_,fun x=>NV kf hl x,fun x y=>(C9 m.K kf x y).1⟩
   ·exact (H5 e 12 m.k n hn m.K.agg hag h1').2 9988 _ w (BR m.K kf hl x)
   ·exact (LC 12 m.k n hn m.K.agg hag h1').2 9988 _ _ _ w (BR m.K kf hl x) (BR m.K kf hl y) (Ev m.K kf x y)
   ·unfold CJ at hag;split at hag
    ·rename_i fs hd;refine⟨_,hd,.inr fun x y=>?_⟩;rfl
    ·rename_i n' e' hd;refine⟨_,hd,.inr fun x y=>?_⟩;rfl
    ·rename_i d hne1 hne2 hd;simp only[AqV] at hag;refine⟨_,hd,.inl fun x y=>?_⟩;have hx:=BR m.K kf hl x;have hy:=BR m.K kf hl y;have hq:=Ev m.K kf x y;have lx:=Ce m.K kf x;have ly:=Ce m.K kf y;rw[Sh.n_one hag.symm] at lx ly;unfold BI;rw[← hag];generalize cellsF m.K x=cx at *;generalize cellsF m.K y=cy at *
     match cx,lx,cy,ly with
     | [u],_,[v],_ =>
      have hq:eqV u v=some (A7 m.K x y):=by
       simp only[Di] at hq;cases he:eqV u v with
       | none=>rw[he] at hq;cases hq
       | some s=>rw[he] at hq;simpa using hq
      simp only[Ay,cond_false,List.headD_cons];unfold eqT at hn;rw[hd] at hn;cases d<;>simp only at hn<;>first | (cases hn;done) | skip
      all_goals
       simp only[kds,hd] at hx hy
       first
        | exact (hne1 _ rfl).elim
        | (obtain⟨u',t',e',⟨n',rfl⟩,rfl⟩:=hx;obtain⟨v',t',e'',⟨n'',rfl⟩,rfl⟩:=hy;cases e';cases e'';simpa[eqV,Instr.sameNow] using hq)
    ·cases hag
  ·cases h5
 ·cases h1
def Af9 (P:Program) (ty:List (Nat×Ty)) (eq:List (Nat×List Sh)) (mt:List (Nat×MTy)):Bool :=
 ty.all (fun p=>UB P p.1 p.2.sh&&PD P p.1 p.2)&&eq.all (fun p=>eqB P p.1 p.2)&&mt.all fun p=>Anh P p.1 p.2
theorem Aga {P:Program} {E:Env} (h:Af9 P E.ty E.eq E.mt=true) (hm:P.follows .mixedOrders=true) (hf:∀ f m,lkp E.fs f=some m→Br P f m∧Cs P f) (hpf:∀ f m,lkp E.pf f=some m→BU P f m∧Cs P f) (hnf:∀ f m,lkp E.nf f=some m→GN P f m∧Cs P f) (hqf:∀ f m,lkp E.qf f=some m→Nd P f m∧Cs P f) (hcf:∀ f m,lkp E.cf f=some m→Nf P f m∧Cs P f) (hvf:∀ f m,lkp E.vf f=some m→@Br cwD P f m∧Cs P f) (hxf:∀ f m,lkp E.xf f=some m→Ng P f m∧Cs P f):AG P E:=by
 simp only[Af9,Aql] at h;refine⟨fun t ty hl=>?_,fun t ks hl=>?_,fun t m hl=>Akb (Aqn.1 h.2 _ (Fy hl)),hf,hvf,hpf,hnf,hqf,hcf,hxf,hm⟩
 ·have:=Aqn.1 h.1.1 _ (Fy hl);simp only[Aql] at this;exact⟨ND this.1,Af8 this.2⟩
 ·have:=Aqn.1 h.1.2 _ (Fy hl);unfold eqB at this;split at this
  ·rename_i n l h1 h2 h3;simp only[Aql,decide_eq_true_eq,ArJ] at this;exact⟨12,n,h1,by omega,by rw[← this.1];exact h2,h3,this.2⟩
  ·cases this
def Ew (P:Program) (fs:List (Nat×Mdl)):Prop:=∀ f m,lkp fs f=some m→Br P f m∧Cs P f
theorem Ew.nil {P:Program}:Ew P []:=fun f m h=>by cases h
theorem Ew.cons {P:Program} {f:Nat} {m:Mdl} {fs:List (Nat×Mdl)} (hs:Br P f m) (hr:Cs P f) (h:Ew P fs):Ew P ((f,m) :: fs):=fun g n hg=>by
 simp only[lkp] at hg;cases hb:Nat.beq f g
 ·rw[hb,cond_false] at hg;exact h g n hg
 ·rw[hb,cond_true] at hg;cases hg;have:=Aqm hb;subst this;exact⟨hs,hr⟩
def Bc (P:Program) (fs:List (Nat×DY)):Prop:=∀ f m,lkp fs f=some m→BU P f m∧Cs P f
theorem Bc.nil {P:Program}:Bc P []:=fun f m h=>by cases h
theorem Bc.cons {P:Program} {f:Nat} {m:DY} {fs:List (Nat×DY)} (hs:BU P f m) (hr:Cs P f) (h:Bc P fs):Bc P ((f,m) :: fs):=fun g n hg=>by
 simp only[lkp] at hg;cases hb:Nat.beq f g
 ·rw[hb,cond_false] at hg;exact h g n hg
 ·rw[hb,cond_true] at hg;cases hg;have:=Aqm hb;subst this;exact⟨hs,hr⟩
def Jo (P:Program) (fs:List (Nat×PE)):Prop:=∀ f m,lkp fs f=some m→GN P f m∧Cs P f
theorem Jo.nil {P:Program}:Jo P []:=fun f m h=>by cases h
theorem Jo.cons {P:Program} {f:Nat} {m:PE} {fs:List (Nat×PE)} (hs:GN P f m) (hr:Cs P f) (h:Jo P fs):Jo P ((f,m) :: fs):=fun g n hg=>by
 simp only[lkp] at hg;cases hb:Nat.beq f g
 ·rw[hb,cond_false] at hg;exact h g n hg
 ·rw[hb,cond_true] at hg;cases hg;have:=Aqm hb;subst this;exact⟨hs,hr⟩
def NW (P:Program) (fs:List (Nat×UD)):Prop:=∀ f m,lkp fs f=some m→Nd P f m∧Cs P f
theorem NW.nil {P:Program}:NW P []:=fun f m h=>by cases h
theorem NW.cons {P:Program} {f:Nat} {m:UD} {fs:List (Nat×UD)} (hs:Nd P f m) (hr:Cs P f) (h:NW P fs):NW P ((f,m) :: fs):=fun g n hg=>by
 simp only[lkp] at hg;cases hb:Nat.beq f g
 ·rw[hb,cond_false] at hg;exact h g n hg
 ·rw[hb,cond_true] at hg;cases hg;have:=Aqm hb;subst this;exact⟨hs,hr⟩
def NX (P:Program) (fs:List (Nat×H7)):Prop:=∀ f m,lkp fs f=some m→Nf P f m∧Cs P f
theorem NX.nil {P:Program}:NX P []:=fun f m h=>by cases h
theorem NX.cons {P:Program} {f:Nat} {m:H7} {fs:List (Nat×H7)} (hs:Nf P f m) (hr:Cs P f) (h:NX P fs):NX P ((f,m) :: fs):=fun g n hg=>by
 simp only[lkp] at hg;cases hb:Nat.beq f g
 ·rw[hb,cond_false] at hg;exact h g n hg
 ·rw[hb,cond_true] at hg;cases hg;have:=Aqm hb;subst this;exact⟨hs,hr⟩
def NY (P:Program) (fs:List (Nat×H7)):Prop:=∀ f m,lkp fs f=some m→Ng P f m∧Cs P f
theorem NY.nil {P:Program}:NY P []:=fun f m h=>by cases h
theorem NY.cons {P:Program} {f:Nat} {m:H7} {fs:List (Nat×H7)} (hs:Ng P f m) (hr:Cs P f) (h:NY P fs):NY P ((f,m) :: fs):=fun g n hg=>by
 simp only[lkp] at hg;cases hb:Nat.beq f g
 ·rw[hb,cond_false] at hg;exact h g n hg
 ·rw[hb,cond_true] at hg;cases hg;have:=Aqm hb;subst this;exact⟨hs,hr⟩
def DT (P:Program) (fs:List (Nat×Mdl)):Prop:=∀ f m,lkp fs f=some m→@Br cwD P f m∧Cs P f
theorem DT.nil {P:Program}:DT P []:=fun f m h=>by cases h
theorem DT.cons {P:Program} {f:Nat} {m:Mdl} {fs:List (Nat×Mdl)} (hs:@Br cwD P f m) (hr:Cs P f) (h:DT P fs):DT P ((f,m) :: fs):=fun g n hg=>by
 simp only[lkp] at hg;cases hb:Nat.beq f g
 ·rw[hb,cond_false] at hg;exact h g n hg
 ·rw[hb,cond_true] at hg;cases hg;have:=Aqm hb;subst this;exact⟨hs,hr⟩
omit [CW] in
def ZX (P:Program) (f:Nat):Bool:=match P.funcs[f]? with | some fn=>fn.body.isSome&&!(fn.name == "runtime.NumGoroutine") | none=>false
theorem UC {P:Program} {f:Nat} (h:ZX P f=true):Cs P f:=by
 unfold ZX at h;split at h
 ·rename_i fn e;simp only[Aql,ArJ] at h;exact⟨fn,e,h.1,h.2⟩
 ·cases h
end Go.Proofs.YteheolldcpjkcaaGreat.X
