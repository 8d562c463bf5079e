/- The tables of types, checked by a Bool. -/
import Derived.Test.YtkemdhpdfaejgaaGreatDoorQzXRes
set_option linter.unusedSimpArgs false
set_option linter.unusedVariables false
set_option linter.unusedSectionVars false
namespace Go.Proofs.YtkemdhpdfaejgaaGreatDoor.X
open Go Go.RowKit
variable [CW]
 deriving instance DecidableEq for Kd
def Ana:Value→Value→Bool
 | .int k n,.int k' n'=>decide (k=k')&&decide (n=n')
 | .bool a,.bool b=>a==b
 | .string a,.string b=>decide (a.size=0)&&decide (b.size=0)
 | .slice none 0 0,.slice none 0 0=>true
 | _,_=>false
def P6:List Value→List Value→Bool
 | [],[]=>true
 | a :: r,b :: t=>Ana a b&&P6 r t
 | _,_=>false
theorem Yu {a b:ByteArray} (ha:a.size=0) (hb:b.size=0):a=b:=by
 obtain⟨⟨a⟩⟩:=a;obtain⟨⟨b⟩⟩:=b;simp only[ByteArray.size,List.size_toArray,ACW] at ha hb;subst ha;subst hb;rfl
theorem Anb {a b:Value} (h:Ana a b=true):a=b:=by
 unfold Ana at h;split at h
 ·simp only[AA1,decide_eq_true_eq] at h;rw[h.1,h.2]
 ·rw[beq_iff_eq.1 h]
 ·simp only[AA1,decide_eq_true_eq] at h;rw[Yu h.1 h.2]
 ·rfl
 ·cases h
theorem LP:∀ {a b:List Value},P6 a b=true→a=b
 | [],[],_=>rfl
 | a :: r,b :: t,h=>by
  simp only[P6,AA1] at h;rw[Anb h.1,LP h.2]
 | [],_ :: _,h | _ :: _,[],h=>by cases h
def Yv (P:Program) (t:Nat) (s:Sh):Bool :=
 match P.info? t,CX P t,Cr s with
 | some i,some b,some cs=>Nat.beq i.size s.n&&(b==s.agg)&&(match i.zero,s.agg with
  | some (.agg zs),true=>P6 zs.toList cs
  | some z,false=>P6 [z] cs
  | _,_=>false)
 | _,_,_=>false
theorem P7 {P:Program} {t:Nat} {s:Sh} (h:Yv P t s=true):GH P t s:=by
 unfold Yv at h;split at h
 ·rename_i i b cs h1 h2 h3;simp only[AA1,beq_iff_eq] at h;obtain⟨⟨h4,h5⟩,h6⟩:=h;subst h5;refine⟨?_,h2⟩;split at h6
  ·rename_i zs hz ha;have:=LP h6;refine⟨i,_,h1,AA2 h4,hz,cs,h3,?_⟩;rw[ha];simp[Aw,← this]
  ·rename_i z hz ha;have:=LP h6;refine⟨i,_,h1,AA2 h4,hz,cs,h3,?_⟩;rw[ha,← this];rfl
  ·cases h6
 ·cases h
def ND (P:Program):List Field→List (Nat×Nat)→Bool
 | [],[]=>true
 | fd :: r,(off,n) :: t=>Nat.beq fd.offset off&&Nat.blt 0 n&&(match P.info? fd.type,CX P fd.type with
  | some i,some b=>Nat.beq i.size n&&(b==Nat.blt 1 n)
  | _,_=>false)&&ND P r t
 | _,_=>false
theorem P8 {P:Program}:∀ {fds:List Field} {fs:List (Nat×Nat)},ND P fds fs=true→fds.mapM (fun f=>(P.info? f.type).map fun i=>(f.offset,i.size))=some fs ∧
  ∀ (j off n:Nat),fs[j]? = some (off,n)→∃ fd i,fds[j]? = some fd∧fd.offset=off∧P.info? fd.type=some i∧i.size=n∧0<n∧CX P fd.type=some (Nat.blt 1 n)
 | [],[],_=>⟨rfl,fun j off n h=>by simp at h⟩
 | fd :: r,(off,n) :: t,h=>by
  simp only[ND,AA1] at h;obtain⟨⟨⟨h1,h2⟩,h3⟩,h4⟩:=h;split at h3
  ·rename_i i b h5 h6;simp only[AA1,beq_iff_eq] at h3;obtain⟨h7,h8⟩:=h3;obtain⟨h9,h10⟩:=P8 h4;have e1:=AA2 h1;have e2:=AA2 h7;have e3:0<n:=by simp only[Nat.blt,AB4] at h2;omega
   refine⟨by rw[ADZ,h9,h5,e1];simp[e2],fun j off' n' hj=>?_⟩
   cases j with
   | zero =>
    simp only[ABY,ABr,ACE] at hj;obtain⟨rfl,rfl⟩:=hj;exact⟨fd,i,rfl,e1,h5,e2,e3,by rw[h6,h8]⟩
   | succ j=>exact h10 j off' n' (by simpa using hj)
  ·cases h3
 | [],_ :: _,h | _ :: _,[],h=>by cases h
def Sz (P:Program) (t:Nat):Ty→Bool
 | .sc (.int k)=>(match P.underlying t with | some (.int k')=>decide (k=k') | _=>false)
 | .sc .bool=>(match P.underlying t with | some .bool=>true | _=>false)
 | .sc .str=>(match P.underlying t with | some .string=>true | _=>false)
 | .sc _=>false
 | .st s fs=>s.agg&&(match P.underlying t with | some (.struct fds)=>ND P fds.toList fs | _=>false)
 | .sl e s b=>(match P.underlying t,P.info? e with | some (.slice e'),some i=>Nat.beq e e'&&Yv P e s&&Nat.beq i.bytes b | _,_=>false)
 | .ar s e n=>(match P.underlying t,CX P e,P.info? e with | some (.array n' e'),some false,some i=>s.agg&&(Nat.beq e e'&&(Nat.beq n n'&&Nat.beq i.size 1)) | _,_,_=>false)
theorem Anc {P:Program} {t:Nat} {ty:Ty} (h:Sz P t ty=true):AmE P t ty:=by
 cases ty with
 | sc s =>
  cases s<;>simp only[Sz] at h<;>first | (cases h;done) | skip
  all_goals
   split at h
   ·rename_i e
    first
     | (have:=of_decide_eq_true h;subst this;exact e)
     | exact e
   ·cases h
 | st s fs =>
  simp only[Sz,AA1] at h;obtain⟨h1,h2⟩:=h;split at h2
  ·rename_i fds e;obtain⟨h3,h4⟩:=P8 h2;refine⟨h1,fds,e,h3,fun j off n hj=>?_⟩;obtain⟨fd,i,a1,a2⟩:=h4 j off n hj;exact⟨fd,i,by simpa using a1,a2⟩
  ·cases h2
 | sl e s b =>
  simp only[Sz] at h;split at h
  ·rename_i e' i h1 h2;simp only[AA1] at h;obtain⟨⟨h3,h4⟩,h5⟩:=h;have:=AA2 h3;subst this;refine⟨h1,P7 h4,fun j hj=>?_⟩;rw[h2] at hj;cases hj;exact AA2 h5
  ·cases h
 | ar s e n =>
  simp only[Sz] at h;split at h
  ·rename_i n' e' i h1 h2 h3;simp only[AA1] at h;obtain⟨h4,h5,h6,h7⟩:=h;have e1:=AA2 h5;have e2:=AA2 h6;subst e1 e2;exact⟨h4,h1,h2,i,h3,AA2 h7⟩
  ·cases h
def eqB (P:Program) (t:Nat) (ks:List Sh):Bool :=
 match eqT P 12 t,F8 ks,CX P t with
 | some _,some l,some true=>decide (l=kds P 12 t)&&!P.eqGuardType P.depth t
 | _,_,_=>false
def AwY (P:Program) (t:Nat) (m:MTy):Bool :=
 (match P.underlying t with | some (.map k v)=>Nat.beq k m.k&&Nat.beq v m.v | _=>false)&&Yv P m.v m.V&&m.K.flat&&m.V.flat &&
 (match eqT P 12 m.k,F8 (H4 m.K),CX P m.k with
  | some n,some l,some ag=>decide (l=kds P 12 m.k)&&(ag==m.K.agg)&&(ag||Nat.beq n 1)
  | _,_,_=>false)
theorem Asi {P:Program} {t:Nat} {m:MTy} (h:AwY P t m=true):R8 P t m:=by
 unfold AwY at h;simp only[AA1] at h;obtain⟨⟨⟨⟨h1,h2⟩,kf⟩,vf⟩,h5⟩:=h;split at h1
 ·rename_i k v hu;simp only[AA1] at h1;have e1:=AA2 h1.1;have e2:=AA2 h1.2;subst e1;subst e2;split at h5
  ·rename_i n l ag hn hl hag;simp only[AA1,decide_eq_true_eq,beq_iff_eq,ACB] at h5;obtain⟨⟨rfl,rfl⟩,h6⟩:=h5;have h1':m.K.agg=false→n=1:=fun e=>by
    rcases h6 with h6 | h6
    ·rw[e] at h6;cases h6
    ·exact AA2 h6
   refine⟨hu,P7 h2,kf,vf,fun x e w=>?_,fun x y w=>?_,?_,fun x=>Qy kf hl x,fun x y=>(B9 m.K kf x y).1⟩
   ·exact (Jv e 12 m.k n hn m.K.agg hag h1').2 9988 _ w (BZ m.K kf hl x)
   ·exact (NC 12 m.k n hn m.K.agg hag h1').2 9988 _ _ _ w (BZ m.K kf hl x) (BZ m.K kf hl y) (Fm m.K kf x y)
   ·unfold CX at hag;split at hag
    ·rename_i fs hd;refine⟨_,hd,.inr fun x y=>?_⟩;rfl
    ·rename_i n' e' hd;refine⟨_,hd,.inr fun x y=>?_⟩;rfl
    ·rename_i d hne1 hne2 hd;simp only[ABr] at hag;refine⟨_,hd,.inl fun x y=>?_⟩;have hx:=BZ m.K kf hl x;have hy:=BZ m.K kf hl y;have hq:=Fm m.K kf x y;have lx:=Cv m.K kf x;have ly:=Cv m.K kf y;rw[Sh.n_one hag.symm] at lx ly;unfold BQ;rw[← hag];generalize cellsF m.K x=cx at *;generalize cellsF m.K y=cy at *
     match cx,lx,cy,ly with
     | [u],_,[v],_ =>
      have hq:eqV u v=some (A7 m.K x y):=by
       simp only[DS] at hq;cases he:eqV u v with
       | none=>rw[he] at hq;cases hq
       | some s=>rw[he] at hq;simpa using hq
      simp only[Aw,cond_false,List.headD_cons];unfold eqT at hn;rw[hd] at hn;cases d<;>simp only at hn<;>first | (cases hn;done) | skip
      all_goals
       simp only[kds,hd] at hx hy
       first
        | exact (hne1 _ rfl).elim
        | (obtain⟨u',t',e',⟨n',rfl⟩,rfl⟩:=hx;obtain⟨v',t',e'',⟨n'',rfl⟩,rfl⟩:=hy;cases e';cases e'';simpa[eqV,Instr.sameNow] using hq)
    ·cases hag
  ·cases h5
 ·cases h1
def And (P:Program) (ty:List (Nat×Ty)) (eq:List (Nat×List Sh)) (mt:List (Nat×MTy)):Bool :=
 ty.all (fun p=>Yv P p.1 p.2.sh&&Sz P p.1 p.2)&&eq.all (fun p=>eqB P p.1 p.2)&&mt.all fun p=>AwY P p.1 p.2
theorem Ae2 {P:Program} {E:Env} (h:And P E.ty E.eq E.mt=true) (hm:P.follows .mixedOrders=true) (hf:∀ f m,lkp E.fs f=some m→Al P f m∧CG P f) (hpf:∀ f m,lkp E.pf f=some m→B7 P f m∧CG P f) (hnf:∀ f m,lkp E.nf f=some m→EO P f m∧CG P f) (hqf:∀ f m,lkp E.qf f=some m→Fv P f m∧CG P f) (hcf:∀ f m,lkp E.cf f=some m→HS P f m∧CG P f) (hvf:∀ f m,lkp E.vf f=some m→@Al cwD P f m∧CG P f) (hxf:∀ f m,lkp E.xf f=some m→HT P f m∧CG P f):AF P E:=by
 simp only[And,AA1] at h;refine⟨fun t ty hl=>?_,fun t ks hl=>?_,fun t m hl=>Asi (AA3.1 h.2 _ (GL hl)),hf,hvf,hpf,hnf,hqf,hcf,hxf,hm⟩
 ·have:=AA3.1 h.1.1 _ (GL hl);simp only[AA1] at this;exact⟨P7 this.1,Anc this.2⟩
 ·have:=AA3.1 h.1.2 _ (GL hl);unfold eqB at this;split at this
  ·rename_i n l h1 h2 h3;simp only[AA1,decide_eq_true_eq,AB7] at this;exact⟨12,n,h1,by omega,by rw[← this.1];exact h2,h3,this.2⟩
  ·cases this
def Ej (P:Program) (fs:List (Nat×Mdl)):Prop:=∀ f m,lkp fs f=some m→Al P f m∧CG P f
theorem Ej.nil {P:Program}:Ej P []:=fun f m h=>by cases h
theorem Ej.cons {P:Program} {f:Nat} {m:Mdl} {fs:List (Nat×Mdl)} (hs:Al P f m) (hr:CG P f) (h:Ej P fs):Ej P ((f,m) :: fs):=fun g n hg=>by
 simp only[lkp] at hg;cases hb:Nat.beq f g
 ·rw[hb,cond_false] at hg;exact h g n hg
 ·rw[hb,cond_true] at hg;cases hg;have:=AA2 hb;subst this;exact⟨hs,hr⟩
def BR (P:Program) (fs:List (Nat×Fx)):Prop:=∀ f m,lkp fs f=some m→B7 P f m∧CG P f
theorem BR.nil {P:Program}:BR P []:=fun f m h=>by cases h
theorem BR.cons {P:Program} {f:Nat} {m:Fx} {fs:List (Nat×Fx)} (hs:B7 P f m) (hr:CG P f) (h:BR P fs):BR P ((f,m) :: fs):=fun g n hg=>by
 simp only[lkp] at hg;cases hb:Nat.beq f g
 ·rw[hb,cond_false] at hg;exact h g n hg
 ·rw[hb,cond_true] at hg;cases hg;have:=AA2 hb;subst this;exact⟨hs,hr⟩
def Jx (P:Program) (fs:List (Nat×P9)):Prop:=∀ f m,lkp fs f=some m→EO P f m∧CG P f
theorem Jx.nil {P:Program}:Jx P []:=fun f m h=>by cases h
theorem Jx.cons {P:Program} {f:Nat} {m:P9} {fs:List (Nat×P9)} (hs:EO P f m) (hr:CG P f) (h:Jx P fs):Jx P ((f,m) :: fs):=fun g n hg=>by
 simp only[lkp] at hg;cases hb:Nat.beq f g
 ·rw[hb,cond_false] at hg;exact h g n hg
 ·rw[hb,cond_true] at hg;cases hg;have:=AA2 hb;subst this;exact⟨hs,hr⟩
def IL (P:Program) (fs:List (Nat×Qa)):Prop:=∀ f m,lkp fs f=some m→Fv P f m∧CG P f
theorem IL.nil {P:Program}:IL P []:=fun f m h=>by cases h
theorem IL.cons {P:Program} {f:Nat} {m:Qa} {fs:List (Nat×Qa)} (hs:Fv P f m) (hr:CG P f) (h:IL P fs):IL P ((f,m) :: fs):=fun g n hg=>by
 simp only[lkp] at hg;cases hb:Nat.beq f g
 ·rw[hb,cond_false] at hg;exact h g n hg
 ·rw[hb,cond_true] at hg;cases hg;have:=AA2 hb;subst this;exact⟨hs,hr⟩
def H6 (P:Program) (fs:List (Nat×IG)):Prop:=∀ f m,lkp fs f=some m→HS P f m∧CG P f
theorem H6.nil {P:Program}:H6 P []:=fun f m h=>by cases h
theorem H6.cons {P:Program} {f:Nat} {m:IG} {fs:List (Nat×IG)} (hs:HS P f m) (hr:CG P f) (h:H6 P fs):H6 P ((f,m) :: fs):=fun g n hg=>by
 simp only[lkp] at hg;cases hb:Nat.beq f g
 ·rw[hb,cond_false] at hg;exact h g n hg
 ·rw[hb,cond_true] at hg;cases hg;have:=AA2 hb;subst this;exact⟨hs,hr⟩
def H7 (P:Program) (fs:List (Nat×IG)):Prop:=∀ f m,lkp fs f=some m→HT P f m∧CG P f
theorem H7.nil {P:Program}:H7 P []:=fun f m h=>by cases h
theorem H7.cons {P:Program} {f:Nat} {m:IG} {fs:List (Nat×IG)} (hs:HT P f m) (hr:CG P f) (h:H7 P fs):H7 P ((f,m) :: fs):=fun g n hg=>by
 simp only[lkp] at hg;cases hb:Nat.beq f g
 ·rw[hb,cond_false] at hg;exact h g n hg
 ·rw[hb,cond_true] at hg;cases hg;have:=AA2 hb;subst this;exact⟨hs,hr⟩
def Fw (P:Program) (fs:List (Nat×Mdl)):Prop:=∀ f m,lkp fs f=some m→@Al cwD P f m∧CG P f
theorem Fw.nil {P:Program}:Fw P []:=fun f m h=>by cases h
theorem Fw.cons {P:Program} {f:Nat} {m:Mdl} {fs:List (Nat×Mdl)} (hs:@Al cwD P f m) (hr:CG P f) (h:Fw P fs):Fw P ((f,m) :: fs):=fun g n hg=>by
 simp only[lkp] at hg;cases hb:Nat.beq f g
 ·rw[hb,cond_false] at hg;exact h g n hg
 ·rw[hb,cond_true] at hg;cases hg;have:=AA2 hb;subst this;exact⟨hs,hr⟩
omit [CW] in
theorem Ao.toZ {D:FP} {w w':World} (h:@Ao cwD D w w'):@Ao cwZ D w w':=by
 obtain⟨_,h2,h3,h4,h5,h6⟩:=h;exact @Ao.mk cwZ _ _ _ (AA9 0) h2 h3 h4 h5 h6
omit [CW] in
theorem Al.toZ {P:Program} {f:Nat} {m:Mdl} (h:@Al cwD P f m):@Al cwZ P f m:=fun w x us Fs h1 h2 h3 h4 y hy=>(h w x us Fs h1 h2 h3 h4 y hy).mono fun e w' ⟨u,e1,vs,Gs,e2,hM,hO⟩=>⟨u,e1,vs,Gs,e2,Ao.toZ hM,hO⟩
omit [CW] in
theorem B7.toZ {P:Program} {f:Nat} {m:Fx} (h:@B7 cwD P f m):@B7 cwZ P f m:=fun w k u t x us Fs Z h1 h2 h3 h4 h5 h6 h7 y hy=>(h w k u t x us Fs Z h1 h2 h3 h4 h5 h6 h7 y hy).mono fun e w' ⟨vs,Gs,t',e1,hM,hO⟩=>⟨vs,Gs,t',e1,Ao.toZ hM,hO⟩
omit [CW] in
theorem EO.toZ {P:Program} {f:Nat} {m:P9} (h:@EO cwD P f m):@EO cwZ P f m:=fun w u x us Fs Z h1 h2 h3 h4 y hy=>(h w u x us Fs Z h1 h2 h3 h4 y hy).mono fun e w' ⟨k,t,e1,e2,hM,hO⟩=>⟨k,t,e1,e2,Ao.toZ hM,hO⟩
def Ae3 (P:Program) (f:Nat):Bool:=match P.funcs[f]? with | some fn=>fn.body.isSome&&!(fn.name == "runtime.NumGoroutine") | none=>false
theorem Yw {P:Program} {f:Nat} (h:Ae3 P f=true):CG P f:=by
 unfold Ae3 at h;split at h
 ·rename_i fn e;simp only[AA1,AB7] at h;exact⟨fn,e,h.1,h.2⟩
 ·cases h
end Go.Proofs.YtkemdhpdfaejgaaGreatDoor.X
