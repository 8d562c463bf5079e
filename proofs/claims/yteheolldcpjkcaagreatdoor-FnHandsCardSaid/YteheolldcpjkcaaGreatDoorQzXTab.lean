/- The tables of types, checked by a Bool. -/
import Derived.Test.YteheolldcpjkcaaGreatDoorQzXRes
set_option linter.unusedSimpArgs false
set_option linter.unusedVariables false
set_option linter.unusedSectionVars false
namespace Go.Proofs.YteheolldcpjkcaaGreatDoor.X
open Go Go.RowKit
variable [CW]
 deriving instance DecidableEq for Kd
def AeS:Value→Value→Bool
 | .int k n,.int k' n'=>decide (k=k')&&decide (n=n')
 | .bool a,.bool b=>a==b
 | .string a,.string b=>decide (a.size=0)&&decide (b.size=0)
 | .slice none 0 0,.slice none 0 0=>true
 | _,_=>false
def MU:List Value→List Value→Bool
 | [],[]=>true
 | a :: r,b :: t=>AeS a b&&MU r t
 | _,_=>false
theorem Tq {a b:ByteArray} (ha:a.size=0) (hb:b.size=0):a=b:=by
 obtain⟨⟨a⟩⟩:=a;obtain⟨⟨b⟩⟩:=b;simp only[ByteArray.size,List.size_toArray,Aso] at ha hb;subst ha;subst hb;rfl
theorem AeT {a b:Value} (h:AeS a b=true):a=b:=by
 unfold AeS at h;split at h
 ·simp only[AqJ,decide_eq_true_eq] at h;rw[h.1,h.2]
 ·rw[beq_iff_eq.1 h]
 ·simp only[AqJ,decide_eq_true_eq] at h;rw[Tq h.1 h.2]
 ·rfl
 ·cases h
theorem JM:∀ {a b:List Value},MU a b=true→a=b
 | [],[],_=>rfl
 | a :: r,b :: t,h=>by
  simp only[MU,AqJ] at h;rw[AeT h.1,JM h.2]
 | [],_ :: _,h | _ :: _,[],h=>by cases h
def Tr (P:Program) (t:Nat) (s:Sh):Bool :=
 match P.info? t,CF P t,B7 s with
 | some i,some b,some cs=>Nat.beq i.size s.n&&(b==s.agg)&&(match i.zero,s.agg with
  | some (.agg zs),true=>MU zs.toList cs
  | some z,false=>MU [z] cs
  | _,_=>false)
 | _,_,_=>false
theorem MV {P:Program} {t:Nat} {s:Sh} (h:Tr P t s=true):Ff P t s:=by
 unfold Tr at h;split at h
 ·rename_i i b cs h1 h2 h3;simp only[AqJ,beq_iff_eq] at h;obtain⟨⟨h4,h5⟩,h6⟩:=h;subst h5;refine⟨?_,h2⟩;split at h6
  ·rename_i zs hz ha;have:=JM h6;refine⟨i,_,h1,AqK h4,hz,cs,h3,?_⟩;rw[ha];simp[Aw,← this]
  ·rename_i z hz ha;have:=JM h6;refine⟨i,_,h1,AqK h4,hz,cs,h3,?_⟩;rw[ha,← this];rfl
  ·cases h6
 ·cases h
def KS (P:Program):List Field→List (Nat×Nat)→Bool
 | [],[]=>true
 | fd :: r,(off,n) :: t=>Nat.beq fd.offset off&&Nat.blt 0 n&&(match P.info? fd.type,CF P fd.type with
  | some i,some b=>Nat.beq i.size n&&(b==Nat.blt 1 n)
  | _,_=>false)&&KS P r t
 | _,_=>false
theorem MW {P:Program}:∀ {fds:List Field} {fs:List (Nat×Nat)},KS P fds fs=true→fds.mapM (fun f=>(P.info? f.type).map fun i=>(f.offset,i.size))=some fs ∧
  ∀ (j off n:Nat),fs[j]? = some (off,n)→∃ fd i,fds[j]? = some fd∧fd.offset=off∧P.info? fd.type=some i∧i.size=n∧0<n∧CF P fd.type=some (Nat.blt 1 n)
 | [],[],_=>⟨rfl,fun j off n h=>by simp at h⟩
 | fd :: r,(off,n) :: t,h=>by
  simp only[KS,AqJ] at h;obtain⟨⟨⟨h1,h2⟩,h3⟩,h4⟩:=h;split at h3
  ·rename_i i b h5 h6;simp only[AqJ,beq_iff_eq] at h3;obtain⟨h7,h8⟩:=h3;obtain⟨h9,h10⟩:=MW h4;have e1:=AqK h1;have e2:=AqK h7;have e3:0<n:=by simp only[Nat.blt,ArW] at h2;omega
   refine⟨by rw[Ats,h9,h5,e1];simp[e2],fun j off' n' hj=>?_⟩
   cases j with
   | zero =>
    simp only[Arw,Arf,AtA] at hj;obtain⟨rfl,rfl⟩:=hj;exact⟨fd,i,rfl,e1,h5,e2,e3,by rw[h6,h8]⟩
   | succ j=>exact h10 j off' n' (by simpa using hj)
  ·cases h3
 | [],_ :: _,h | _ :: _,[],h=>by cases h
def ON (P:Program) (t:Nat):Ty→Bool
 | .sc (.int k)=>(match P.underlying t with | some (.int k')=>decide (k=k') | _=>false)
 | .sc .bool=>(match P.underlying t with | some .bool=>true | _=>false)
 | .sc .str=>(match P.underlying t with | some .string=>true | _=>false)
 | .sc _=>false
 | .st s fs=>s.agg&&(match P.underlying t with | some (.struct fds)=>KS P fds.toList fs | _=>false)
 | .sl e s b=>(match P.underlying t,P.info? e with | some (.slice e'),some i=>Nat.beq e e'&&Tr P e s&&Nat.beq i.bytes b | _,_=>false)
 | .ar s e n=>(match P.underlying t,CF P e,P.info? e with | some (.array n' e'),some false,some i=>s.agg&&(Nat.beq e e'&&(Nat.beq n n'&&Nat.beq i.size 1)) | _,_,_=>false)
theorem AeU {P:Program} {t:Nat} {ty:Ty} (h:ON P t ty=true):Aeq P t ty:=by
 cases ty with
 | sc s =>
  cases s<;>simp only[ON] at h<;>first | (cases h;done) | skip
  all_goals
   split at h
   ·rename_i e
    first
     | (have:=of_decide_eq_true h;subst this;exact e)
     | exact e
   ·cases h
 | st s fs =>
  simp only[ON,AqJ] at h;obtain⟨h1,h2⟩:=h;split at h2
  ·rename_i fds e;obtain⟨h3,h4⟩:=MW h2;refine⟨h1,fds,e,h3,fun j off n hj=>?_⟩;obtain⟨fd,i,a1,a2⟩:=h4 j off n hj;exact⟨fd,i,by simpa using a1,a2⟩
  ·cases h2
 | sl e s b =>
  simp only[ON] at h;split at h
  ·rename_i e' i h1 h2;simp only[AqJ] at h;obtain⟨⟨h3,h4⟩,h5⟩:=h;have:=AqK h3;subst this;refine⟨h1,MV h4,fun j hj=>?_⟩;rw[h2] at hj;cases hj;exact AqK h5
  ·cases h
 | ar s e n =>
  simp only[ON] at h;split at h
  ·rename_i n' e' i h1 h2 h3;simp only[AqJ] at h;obtain⟨h4,h5,h6,h7⟩:=h;have e1:=AqK h5;have e2:=AqK h6;subst e1 e2;exact⟨h4,h1,h2,i,h3,AqK h7⟩
  ·cases h
def eqB (P:Program) (t:Nat) (ks:List Sh):Bool :=
 match eqT P 12 t,ES ks,CF P t with
 | some _,some l,some true=>decide (l=kds P 12 t)&&!P.eqGuardType P.depth t
 | _,_,_=>false
def AmV (P:Program) (t:Nat) (m:MTy):Bool :=
 (match P.underlying t with | some (.map k v)=>Nat.beq k m.k&&Nat.beq v m.v | _=>false)&&Tr P m.v m.V&&m.K.flat&&m.V.flat &&
 (match eqT P 12 m.k,ES (GI m.K),CF P m.k with
  | some n,some l,some ag=>decide (l=kds P 12 m.k)&&(ag==m.K.agg)&&(ag||Nat.beq n 1)
  | _,_,_=>false)
theorem Ajb {P:Program} {t:Nat} {m:MTy} (h:AmV P t m=true):Ot P t m:=by
 unfold AmV at h;simp only[AqJ] at h;obtain⟨⟨⟨⟨h1,h2⟩,kf⟩,vf⟩,h5⟩:=h;split at h1
 ·rename_i k v hu;simp only[AqJ] at h1;have e1:=AqK h1.1;have e2:=AqK h1.2;subst e1;subst e2;split at h5
  ·rename_i n l ag hn hl hag;simp only[AqJ,decide_eq_true_eq,beq_iff_eq,ArG] at h5;obtain⟨⟨rfl,rfl⟩,h6⟩:=h5;have h1':m.K.agg=false→n=1:=fun e=>by
    rcases h6 with h6 | h6
    ·rw[e] at h6;cases h6
    ·exact AqK h6
   refine⟨hu,MV h2,kf,vf,fun x e w=>?_,fun x y w=>?_,?_,fun x=>Ng kf hl x,fun x y=>(MP m.K kf x y).1⟩
   ·exact (HO e 12 m.k n hn m.K.agg hag h1').2 9988 _ w (BO m.K kf hl x)
   ·exact (KR 12 m.k n hn m.K.agg hag h1').2 9988 _ _ _ w (BO m.K kf hl x) (BO m.K kf hl y) (Ek m.K kf x y)
   ·unfold CF at hag;split at hag
    ·rename_i fs hd;refine⟨_,hd,.inr fun x y=>?_⟩;rfl
    ·rename_i n' e' hd;refine⟨_,hd,.inr fun x y=>?_⟩;rfl
    ·rename_i d hne1 hne2 hd;simp only[Arf] at hag;refine⟨_,hd,.inl fun x y=>?_⟩;have hx:=BO m.K kf hl x;have hy:=BO m.K kf hl y;have hq:=Ek m.K kf x y;have lx:=Cy m.K kf x;have ly:=Cy m.K kf y;rw[Sh.n_one hag.symm] at lx ly;unfold BG;rw[← hag];generalize cellsF m.K x=cx at *;generalize cellsF m.K y=cy at *
     match cx,lx,cy,ly with
     | [u],_,[v],_ =>
      have hq:eqV u v=some (Ca m.K x y):=by
       simp only[Dk] at hq;cases he:eqV u v with
       | none=>rw[he] at hq;cases hq
       | some s=>rw[he] at hq;simpa using hq
      simp only[Aw,cond_false,List.headD_cons];unfold eqT at hn;rw[hd] at hn;cases d<;>simp only at hn<;>first | (cases hn;done) | skip
      all_goals
       simp only[kds,hd] at hx hy
       first
        | exact (hne1 _ rfl).elim
        | (obtain⟨u',t',e',⟨n',rfl⟩,rfl⟩:=hx;obtain⟨v',t',e'',⟨n'',rfl⟩,rfl⟩:=hy;cases e';cases e'';simpa[eqV,Instr.sameNow] using hq)
    ·cases hag
  ·cases h5
 ·cases h1
def AeV (P:Program) (ty:List (Nat×Ty)) (eq:List (Nat×List Sh)) (mt:List (Nat×MTy)):Bool :=
 ty.all (fun p=>Tr P p.1 p.2.sh&&ON P p.1 p.2)&&eq.all (fun p=>eqB P p.1 p.2)&&mt.all fun p=>AmV P p.1 p.2
theorem AeW {P:Program} {E:Env} (h:AeV P E.ty E.eq E.mt=true) (hm:P.follows .mixedOrders=true) (hf:∀ f m,lkp E.fs f=some m→Ck P f m∧Co P f) (hpf:∀ f m,lkp E.pf f=some m→CQ P f m∧Co P f) (hnf:∀ f m,lkp E.nf f=some m→Gw P f m∧Co P f) (hqf:∀ f m,lkp E.qf f=some m→Mv P f m∧Co P f) (hcf:∀ f m,lkp E.cf f=some m→Mw P f m∧Co P f) (hvf:∀ f m,lkp E.vf f=some m→@Ck cwD P f m∧Co P f) (hxf:∀ f m,lkp E.xf f=some m→Mx P f m∧Co P f):AE P E:=by
 simp only[AeV,AqJ] at h;refine⟨fun t ty hl=>?_,fun t ks hl=>?_,fun t m hl=>Ajb (AqL.1 h.2 _ (Fj hl)),hf,hvf,hpf,hnf,hqf,hcf,hxf,hm⟩
 ·have:=AqL.1 h.1.1 _ (Fj hl);simp only[AqJ] at this;exact⟨MV this.1,AeU this.2⟩
 ·have:=AqL.1 h.1.2 _ (Fj hl);unfold eqB at this;split at this
  ·rename_i n l h1 h2 h3;simp only[AqJ,decide_eq_true_eq,Ar2] at this;exact⟨12,n,h1,by omega,by rw[← this.1];exact h2,h3,this.2⟩
  ·cases this
def El (P:Program) (fs:List (Nat×Mdl)):Prop:=∀ f m,lkp fs f=some m→Ck P f m∧Co P f
theorem El.nil {P:Program}:El P []:=fun f m h=>by cases h
theorem El.cons {P:Program} {f:Nat} {m:Mdl} {fs:List (Nat×Mdl)} (hs:Ck P f m) (hr:Co P f) (h:El P fs):El P ((f,m) :: fs):=fun g n hg=>by
 simp only[lkp] at hg;cases hb:Nat.beq f g
 ·rw[hb,cond_false] at hg;exact h g n hg
 ·rw[hb,cond_true] at hg;cases hg;have:=AqK hb;subst this;exact⟨hs,hr⟩
def Cj (P:Program) (fs:List (Nat×FB)):Prop:=∀ f m,lkp fs f=some m→CQ P f m∧Co P f
theorem Cj.nil {P:Program}:Cj P []:=fun f m h=>by cases h
theorem Cj.cons {P:Program} {f:Nat} {m:FB} {fs:List (Nat×FB)} (hs:CQ P f m) (hr:Co P f) (h:Cj P fs):Cj P ((f,m) :: fs):=fun g n hg=>by
 simp only[lkp] at hg;cases hb:Nat.beq f g
 ·rw[hb,cond_false] at hg;exact h g n hg
 ·rw[hb,cond_true] at hg;cases hg;have:=AqK hb;subst this;exact⟨hs,hr⟩
def Jb (P:Program) (fs:List (Nat×OO)):Prop:=∀ f m,lkp fs f=some m→Gw P f m∧Co P f
theorem Jb.nil {P:Program}:Jb P []:=fun f m h=>by cases h
theorem Jb.cons {P:Program} {f:Nat} {m:OO} {fs:List (Nat×OO)} (hs:Gw P f m) (hr:Co P f) (h:Jb P fs):Jb P ((f,m) :: fs):=fun g n hg=>by
 simp only[lkp] at hg;cases hb:Nat.beq f g
 ·rw[hb,cond_false] at hg;exact h g n hg
 ·rw[hb,cond_true] at hg;cases hg;have:=AqK hb;subst this;exact⟨hs,hr⟩
def Nh (P:Program) (fs:List (Nat×Tt)):Prop:=∀ f m,lkp fs f=some m→Mv P f m∧Co P f
theorem Nh.nil {P:Program}:Nh P []:=fun f m h=>by cases h
theorem Nh.cons {P:Program} {f:Nat} {m:Tt} {fs:List (Nat×Tt)} (hs:Mv P f m) (hr:Co P f) (h:Nh P fs):Nh P ((f,m) :: fs):=fun g n hg=>by
 simp only[lkp] at hg;cases hb:Nat.beq f g
 ·rw[hb,cond_false] at hg;exact h g n hg
 ·rw[hb,cond_true] at hg;cases hg;have:=AqK hb;subst this;exact⟨hs,hr⟩
def Ni (P:Program) (fs:List (Nat×HQ)):Prop:=∀ f m,lkp fs f=some m→Mw P f m∧Co P f
theorem Ni.nil {P:Program}:Ni P []:=fun f m h=>by cases h
theorem Ni.cons {P:Program} {f:Nat} {m:HQ} {fs:List (Nat×HQ)} (hs:Mw P f m) (hr:Co P f) (h:Ni P fs):Ni P ((f,m) :: fs):=fun g n hg=>by
 simp only[lkp] at hg;cases hb:Nat.beq f g
 ·rw[hb,cond_false] at hg;exact h g n hg
 ·rw[hb,cond_true] at hg;cases hg;have:=AqK hb;subst this;exact⟨hs,hr⟩
def Nj (P:Program) (fs:List (Nat×HQ)):Prop:=∀ f m,lkp fs f=some m→Mx P f m∧Co P f
theorem Nj.nil {P:Program}:Nj P []:=fun f m h=>by cases h
theorem Nj.cons {P:Program} {f:Nat} {m:HQ} {fs:List (Nat×HQ)} (hs:Mx P f m) (hr:Co P f) (h:Nj P fs):Nj P ((f,m) :: fs):=fun g n hg=>by
 simp only[lkp] at hg;cases hb:Nat.beq f g
 ·rw[hb,cond_false] at hg;exact h g n hg
 ·rw[hb,cond_true] at hg;cases hg;have:=AqK hb;subst this;exact⟨hs,hr⟩
def Jc (P:Program) (fs:List (Nat×Mdl)):Prop:=∀ f m,lkp fs f=some m→@Ck cwD P f m∧Co P f
theorem Jc.nil {P:Program}:Jc P []:=fun f m h=>by cases h
theorem Jc.cons {P:Program} {f:Nat} {m:Mdl} {fs:List (Nat×Mdl)} (hs:@Ck cwD P f m) (hr:Co P f) (h:Jc P fs):Jc P ((f,m) :: fs):=fun g n hg=>by
 simp only[lkp] at hg;cases hb:Nat.beq f g
 ·rw[hb,cond_false] at hg;exact h g n hg
 ·rw[hb,cond_true] at hg;cases hg;have:=AqK hb;subst this;exact⟨hs,hr⟩
omit [CW] in
def YF (P:Program) (f:Nat):Bool:=match P.funcs[f]? with | some fn=>fn.body.isSome&&!(fn.name == "runtime.NumGoroutine") | none=>false
theorem Ts {P:Program} {f:Nat} (h:YF P f=true):Co P f:=by
 unfold YF at h;split at h
 ·rename_i fn e;simp only[AqJ,Ar2] at h;exact⟨fn,e,h.1,h.2⟩
 ·cases h
end Go.Proofs.YteheolldcpjkcaaGreatDoor.X
