/- The tables of types, checked by a Bool. -/
import Derived.Test.YtelgaemfnhnbmaaGreatDoorQzXRes
set_option linter.unusedSimpArgs false
set_option linter.unusedVariables false
set_option linter.unusedSectionVars false
namespace Go.Proofs.YtelgaemfnhnbmaaGreatDoor.X
open Go Go.RowKit
variable [CW]
 deriving instance DecidableEq for Kd
def litEq:Value→Value→Bool
 | .int k n,.int k' n'=>decide (k=k')&&decide (n=n')
 | .bool a,.bool b=>a==b
 | .string a,.string b=>decide (a.size=0)&&decide (b.size=0)
 | .slice none 0 0,.slice none 0 0=>true
 | _,_=>false
def litsEq:List Value→List Value→Bool
 | [],[]=>true
 | a :: r,b :: t=>litEq a b&&litsEq r t
 | _,_=>false
theorem empty_bytes {a b:ByteArray} (ha:a.size=0) (hb:b.size=0):a=b:=by
 obtain⟨⟨a⟩⟩:=a;obtain⟨⟨b⟩⟩:=b;simp only[ByteArray.size,List.size_toArray,List.length_eq_zero_iff] at ha hb;subst ha;subst hb;rfl
theorem litEq_ok {a b:Value} (h:litEq a b=true):a=b:=by
 unfold litEq at h;split at h
 ·simp only[Bool.and_eq_true,decide_eq_true_eq] at h;rw[h.1,h.2]
 ·rw[beq_iff_eq.1 h]
 ·simp only[Bool.and_eq_true,decide_eq_true_eq] at h;rw[empty_bytes h.1 h.2]
 ·rfl
 ·cases h
theorem litsEq_ok:∀ {a b:List Value},litsEq a b=true→a=b
 | [],[],_=>rfl
 | a :: r,b :: t,h=>by
  simp only[litsEq,Bool.and_eq_true] at h;rw[litEq_ok h.1,litsEq_ok h.2]
 | [],_ :: _,h | _ :: _,[],h=>by cases h
def tyOKB (P:Program) (t:Nat) (s:Sh):Bool :=
 match P.info? t,aggOf P t,zerosV s with
 | some i,some b,some cs=>Nat.beq i.size s.n&&(b==s.agg)&&(match i.zero,s.agg with
  | some (.agg zs),true=>litsEq zs.toList cs
  | some z,false=>litsEq [z] cs
  | _,_=>false)
 | _,_,_=>false
theorem tyOKB_ok {P:Program} {t:Nat} {s:Sh} (h:tyOKB P t s=true):TyOK P t s:=by
 unfold tyOKB at h;split at h
 ·rename_i i b cs h1 h2 h3;simp only[Bool.and_eq_true,beq_iff_eq] at h;obtain⟨⟨h4,h5⟩,h6⟩:=h;subst h5;refine⟨?_,h2⟩;split at h6
  ·rename_i zs hz ha;have:=litsEq_ok h6;refine⟨i,_,h1,Nat.eq_of_beq_eq_true h4,hz,cs,h3,?_⟩;rw[ha];simp[packB,← this]
  ·rename_i z hz ha;have:=litsEq_ok h6;refine⟨i,_,h1,Nat.eq_of_beq_eq_true h4,hz,cs,h3,?_⟩;rw[ha,← this];rfl
  ·cases h6
 ·cases h
def fieldsB (P:Program):List Field→List (Nat×Nat)→Bool
 | [],[]=>true
 | fd :: r,(off,n) :: t=>Nat.beq fd.offset off&&Nat.blt 0 n&&(match P.info? fd.type,aggOf P fd.type with
  | some i,some b=>Nat.beq i.size n&&(b==Nat.blt 1 n)
  | _,_=>false)&&fieldsB P r t
 | _,_=>false
theorem fieldsB_ok {P:Program}:∀ {fds:List Field} {fs:List (Nat×Nat)},fieldsB P fds fs=true→fds.mapM (fun f=>(P.info? f.type).map fun i=>(f.offset,i.size))=some fs ∧
  ∀ (j off n:Nat),fs[j]? = some (off,n)→∃ fd i,fds[j]? = some fd∧fd.offset=off∧P.info? fd.type=some i∧i.size=n∧0<n∧aggOf P fd.type=some (Nat.blt 1 n)
 | [],[],_=>⟨rfl,fun j off n h=>by simp at h⟩
 | fd :: r,(off,n) :: t,h=>by
  simp only[fieldsB,Bool.and_eq_true] at h;obtain⟨⟨⟨h1,h2⟩,h3⟩,h4⟩:=h;split at h3
  ·rename_i i b h5 h6;simp only[Bool.and_eq_true,beq_iff_eq] at h3;obtain⟨h7,h8⟩:=h3;obtain⟨h9,h10⟩:=fieldsB_ok h4;have e1:=Nat.eq_of_beq_eq_true h1;have e2:=Nat.eq_of_beq_eq_true h7;have e3:0<n:=by simp only[Nat.blt,Nat.ble_eq] at h2;omega
   refine⟨by rw[List.mapM_cons,h9,h5,e1];simp[e2],fun j off' n' hj=>?_⟩
   cases j with
   | zero =>
    simp only[List.getElem?_cons_zero,Option.some.injEq,Prod.mk.injEq] at hj;obtain⟨rfl,rfl⟩:=hj;exact⟨fd,i,rfl,e1,h5,e2,e3,by rw[h6,h8]⟩
   | succ j=>exact h10 j off' n' (by simpa using hj)
  ·cases h3
 | [],_ :: _,h | _ :: _,[],h=>by cases h
def descB (P:Program) (t:Nat):Ty→Bool
 | .sc (.int k)=>(match P.underlying t with | some (.int k')=>decide (k=k') | _=>false)
 | .sc .bool=>(match P.underlying t with | some .bool=>true | _=>false)
 | .sc .str=>(match P.underlying t with | some .string=>true | _=>false)
 | .sc _=>false
 | .st s fs=>s.agg&&(match P.underlying t with | some (.struct fds)=>fieldsB P fds.toList fs | _=>false)
 | .sl e s b=>(match P.underlying t,P.info? e with | some (.slice e'),some i=>Nat.beq e e'&&tyOKB P e s&&Nat.beq i.bytes b | _,_=>false)
theorem descB_ok {P:Program} {t:Nat} {ty:Ty} (h:descB P t ty=true):DescOK P t ty:=by
 cases ty with
 | sc s =>
  cases s<;>simp only[descB] at h<;>first | (cases h;done) | skip
  all_goals
   split at h
   ·rename_i e
    first
     | (have:=of_decide_eq_true h;subst this;exact e)
     | exact e
   ·cases h
 | st s fs =>
  simp only[descB,Bool.and_eq_true] at h;obtain⟨h1,h2⟩:=h;split at h2
  ·rename_i fds e;obtain⟨h3,h4⟩:=fieldsB_ok h2;refine⟨h1,fds,e,h3,fun j off n hj=>?_⟩;obtain⟨fd,i,a1,a2⟩:=h4 j off n hj;exact⟨fd,i,by simpa using a1,a2⟩
  ·cases h2
 | sl e s b =>
  simp only[descB] at h;split at h
  ·rename_i e' i h1 h2;simp only[Bool.and_eq_true] at h;obtain⟨⟨h3,h4⟩,h5⟩:=h;have:=Nat.eq_of_beq_eq_true h3;subst this;refine⟨h1,tyOKB_ok h4,fun j hj=>?_⟩;rw[h2] at hj;cases hj;exact Nat.eq_of_beq_eq_true h5
  ·cases h
def eqB (P:Program) (t:Nat) (ks:List Sh):Bool :=
 match eqT P 12 t,kdShs ks,aggOf P t with
 | some _,some l,some true=>decide (l=kds P 12 t)&&!P.eqGuardType P.depth t
 | _,_,_=>false
def mtyB (P:Program) (t:Nat) (m:MTy):Bool :=
 (match P.underlying t with | some (.map k v)=>Nat.beq k m.k&&Nat.beq v m.v | _=>false)&&tyOKB P m.v m.V&&m.K.flat&&m.V.flat &&
 (match eqT P 12 m.k,kdShs (leavesSh m.K),aggOf P m.k with
  | some n,some l,some ag=>decide (l=kds P 12 m.k)&&(ag==m.K.agg)&&(ag||Nat.beq n 1)
  | _,_,_=>false)
theorem mtyB_ok {P:Program} {t:Nat} {m:MTy} (h:mtyB P t m=true):MTyOK P t m:=by
 unfold mtyB at h;simp only[Bool.and_eq_true] at h;obtain⟨⟨⟨⟨h1,h2⟩,kf⟩,vf⟩,h5⟩:=h;split at h1
 ·rename_i k v hu;simp only[Bool.and_eq_true] at h1;have e1:=Nat.eq_of_beq_eq_true h1.1;have e2:=Nat.eq_of_beq_eq_true h1.2;subst e1;subst e2;split at h5
  ·rename_i n l ag hn hl hag;simp only[Bool.and_eq_true,decide_eq_true_eq,beq_iff_eq,Bool.or_eq_true] at h5;obtain⟨⟨rfl,rfl⟩,h6⟩:=h5;have h1':m.K.agg=false→n=1:=fun e=>by
    rcases h6 with h6 | h6
    ·rw[e] at h6;cases h6
    ·exact Nat.eq_of_beq_eq_true h6
   refine⟨hu,tyOKB_ok h2,kf,vf,fun x e w=>?_,fun x y w=>?_,?_,fun x=>sameBits_valF kf hl x,fun x y=>(eqSh_iff m.K kf x y).1⟩
   ·exact (checkT_run e 12 m.k n hn m.K.agg hag h1').2 9988 _ w (ofKds_cellsF m.K kf hl x)
   ·exact (eqT_run 12 m.k n hn m.K.agg hag h1').2 9988 _ _ _ w (ofKds_cellsF m.K kf hl x) (ofKds_cellsF m.K kf hl y) (eqVs_cellsF m.K kf x y)
   ·unfold aggOf at hag;split at hag
    ·rename_i fs hd;refine⟨_,hd,.inr fun x y=>?_⟩;rfl
    ·rename_i n' e' hd;refine⟨_,hd,.inr fun x y=>?_⟩;rfl
    ·rename_i d hne1 hne2 hd;simp only[Option.some.injEq] at hag;refine⟨_,hd,.inl fun x y=>?_⟩;have hx:=ofKds_cellsF m.K kf hl x;have hy:=ofKds_cellsF m.K kf hl y;have hq:=eqVs_cellsF m.K kf x y;have lx:=cellsF_len m.K kf x;have ly:=cellsF_len m.K kf y;rw[Sh.n_one hag.symm] at lx ly;unfold valF;rw[← hag];generalize cellsF m.K x=cx at *;generalize cellsF m.K y=cy at *
     match cx,lx,cy,ly with
     | [u],_,[v],_ =>
      have hq:eqV u v=some (eqSh m.K x y):=by
       simp only[eqVs] at hq;cases he:eqV u v with
       | none=>rw[he] at hq;cases hq
       | some s=>rw[he] at hq;simpa using hq
      simp only[packB,cond_false,List.headD_cons];unfold eqT at hn;rw[hd] at hn;cases d<;>simp only at hn<;>first | (cases hn;done) | skip
      all_goals
       simp only[kds,hd] at hx hy
       first
        | exact (hne1 _ rfl).elim
        | (obtain⟨u',t',e',⟨n',rfl⟩,rfl⟩:=hx;obtain⟨v',t',e'',⟨n'',rfl⟩,rfl⟩:=hy;cases e';cases e'';simpa[eqV,Instr.sameNow] using hq)
    ·cases hag
  ·cases h5
 ·cases h1
def tabB (P:Program) (ty:List (Nat×Ty)) (eq:List (Nat×List Sh)) (mt:List (Nat×MTy)):Bool :=
 ty.all (fun p=>tyOKB P p.1 p.2.sh&&descB P p.1 p.2)&&eq.all (fun p=>eqB P p.1 p.2)&&mt.all fun p=>mtyB P p.1 p.2
theorem envOK {P:Program} {E:Env} (h:tabB P E.ty E.eq E.mt=true) (hm:P.follows .mixedOrders=true) (hf:∀ f m,lkp E.fs f=some m→Sound P f m∧Runs P f) (hpf:∀ f m,lkp E.pf f=some m→SoundP P f m∧Runs P f) (hnf:∀ f m,lkp E.nf f=some m→SoundN P f m∧Runs P f) (hqf:∀ f m,lkp E.qf f=some m→SoundQ P f m∧Runs P f) (hcf:∀ f m,lkp E.cf f=some m→SoundC P f m∧Runs P f) (hvf:∀ f m,lkp E.vf f=some m→@Sound cwD P f m∧Runs P f) (hxf:∀ f m,lkp E.xf f=some m→SoundO P f m∧Runs P f):EnvOK P E:=by
 simp only[tabB,Bool.and_eq_true] at h;refine⟨fun t ty hl=>?_,fun t ks hl=>?_,fun t m hl=>mtyB_ok (List.all_eq_true.1 h.2 _ (lkp_mem hl)),hf,hvf,hpf,hnf,hqf,hcf,hxf,hm⟩
 ·have:=List.all_eq_true.1 h.1.1 _ (lkp_mem hl);simp only[Bool.and_eq_true] at this;exact⟨tyOKB_ok this.1,descB_ok this.2⟩
 ·have:=List.all_eq_true.1 h.1.2 _ (lkp_mem hl);unfold eqB at this;split at this
  ·rename_i n l h1 h2 h3;simp only[Bool.and_eq_true,decide_eq_true_eq,Bool.not_eq_true'] at this;exact⟨12,n,h1,by omega,by rw[← this.1];exact h2,h3,this.2⟩
  ·cases this
def AllOK (P:Program) (fs:List (Nat×Mdl)):Prop:=∀ f m,lkp fs f=some m→Sound P f m∧Runs P f
theorem AllOK.nil {P:Program}:AllOK P []:=fun f m h=>by cases h
theorem AllOK.cons {P:Program} {f:Nat} {m:Mdl} {fs:List (Nat×Mdl)} (hs:Sound P f m) (hr:Runs P f) (h:AllOK P fs):AllOK P ((f,m) :: fs):=fun g n hg=>by
 simp only[lkp] at hg;cases hb:Nat.beq f g
 ·rw[hb,cond_false] at hg;exact h g n hg
 ·rw[hb,cond_true] at hg;cases hg;have:=Nat.eq_of_beq_eq_true hb;subst this;exact⟨hs,hr⟩
def AllP (P:Program) (fs:List (Nat×PMdl)):Prop:=∀ f m,lkp fs f=some m→SoundP P f m∧Runs P f
theorem AllP.nil {P:Program}:AllP P []:=fun f m h=>by cases h
theorem AllP.cons {P:Program} {f:Nat} {m:PMdl} {fs:List (Nat×PMdl)} (hs:SoundP P f m) (hr:Runs P f) (h:AllP P fs):AllP P ((f,m) :: fs):=fun g n hg=>by
 simp only[lkp] at hg;cases hb:Nat.beq f g
 ·rw[hb,cond_false] at hg;exact h g n hg
 ·rw[hb,cond_true] at hg;cases hg;have:=Nat.eq_of_beq_eq_true hb;subst this;exact⟨hs,hr⟩
def AllN (P:Program) (fs:List (Nat×NMdl)):Prop:=∀ f m,lkp fs f=some m→SoundN P f m∧Runs P f
theorem AllN.nil {P:Program}:AllN P []:=fun f m h=>by cases h
theorem AllN.cons {P:Program} {f:Nat} {m:NMdl} {fs:List (Nat×NMdl)} (hs:SoundN P f m) (hr:Runs P f) (h:AllN P fs):AllN P ((f,m) :: fs):=fun g n hg=>by
 simp only[lkp] at hg;cases hb:Nat.beq f g
 ·rw[hb,cond_false] at hg;exact h g n hg
 ·rw[hb,cond_true] at hg;cases hg;have:=Nat.eq_of_beq_eq_true hb;subst this;exact⟨hs,hr⟩
def AllQ (P:Program) (fs:List (Nat×QMdl)):Prop:=∀ f m,lkp fs f=some m→SoundQ P f m∧Runs P f
theorem AllQ.nil {P:Program}:AllQ P []:=fun f m h=>by cases h
theorem AllQ.cons {P:Program} {f:Nat} {m:QMdl} {fs:List (Nat×QMdl)} (hs:SoundQ P f m) (hr:Runs P f) (h:AllQ P fs):AllQ P ((f,m) :: fs):=fun g n hg=>by
 simp only[lkp] at hg;cases hb:Nat.beq f g
 ·rw[hb,cond_false] at hg;exact h g n hg
 ·rw[hb,cond_true] at hg;cases hg;have:=Nat.eq_of_beq_eq_true hb;subst this;exact⟨hs,hr⟩
def AllC (P:Program) (fs:List (Nat×CMdl)):Prop:=∀ f m,lkp fs f=some m→SoundC P f m∧Runs P f
theorem AllC.nil {P:Program}:AllC P []:=fun f m h=>by cases h
theorem AllC.cons {P:Program} {f:Nat} {m:CMdl} {fs:List (Nat×CMdl)} (hs:SoundC P f m) (hr:Runs P f) (h:AllC P fs):AllC P ((f,m) :: fs):=fun g n hg=>by
 simp only[lkp] at hg;cases hb:Nat.beq f g
 ·rw[hb,cond_false] at hg;exact h g n hg
 ·rw[hb,cond_true] at hg;cases hg;have:=Nat.eq_of_beq_eq_true hb;subst this;exact⟨hs,hr⟩
def AllO (P:Program) (fs:List (Nat×CMdl)):Prop:=∀ f m,lkp fs f=some m→SoundO P f m∧Runs P f
theorem AllO.nil {P:Program}:AllO P []:=fun f m h=>by cases h
theorem AllO.cons {P:Program} {f:Nat} {m:CMdl} {fs:List (Nat×CMdl)} (hs:SoundO P f m) (hr:Runs P f) (h:AllO P fs):AllO P ((f,m) :: fs):=fun g n hg=>by
 simp only[lkp] at hg;cases hb:Nat.beq f g
 ·rw[hb,cond_false] at hg;exact h g n hg
 ·rw[hb,cond_true] at hg;cases hg;have:=Nat.eq_of_beq_eq_true hb;subst this;exact⟨hs,hr⟩
def AllV (P:Program) (fs:List (Nat×Mdl)):Prop:=∀ f m,lkp fs f=some m→@Sound cwD P f m∧Runs P f
theorem AllV.nil {P:Program}:AllV P []:=fun f m h=>by cases h
theorem AllV.cons {P:Program} {f:Nat} {m:Mdl} {fs:List (Nat×Mdl)} (hs:@Sound cwD P f m) (hr:Runs P f) (h:AllV P fs):AllV P ((f,m) :: fs):=fun g n hg=>by
 simp only[lkp] at hg;cases hb:Nat.beq f g
 ·rw[hb,cond_false] at hg;exact h g n hg
 ·rw[hb,cond_true] at hg;cases hg;have:=Nat.eq_of_beq_eq_true hb;subst this;exact⟨hs,hr⟩
omit [CW] in
theorem Moves.toZ {D:FP} {w w':World} (h:@Moves cwD D w w'):@Moves cwZ D w w':=by
 obtain⟨_,h2,h3,h4,h5,h6⟩:=h;exact @Moves.mk cwZ _ _ _ (Nat.le_refl 0) h2 h3 h4 h5 h6
omit [CW] in
theorem Sound.toZ {P:Program} {f:Nat} {m:Mdl} (h:@Sound cwD P f m):@Sound cwZ P f m:=fun w x us Fs h1 h2 h3 h4 y hy=>(h w x us Fs h1 h2 h3 h4 y hy).mono fun e w' ⟨u,e1,vs,Gs,e2,hM,hO⟩=>⟨u,e1,vs,Gs,e2,Moves.toZ hM,hO⟩
omit [CW] in
theorem SoundP.toZ {P:Program} {f:Nat} {m:PMdl} (h:@SoundP cwD P f m):@SoundP cwZ P f m:=fun w k u t x us Fs Z h1 h2 h3 h4 h5 h6 h7 y hy=>(h w k u t x us Fs Z h1 h2 h3 h4 h5 h6 h7 y hy).mono fun e w' ⟨vs,Gs,t',e1,hM,hO⟩=>⟨vs,Gs,t',e1,Moves.toZ hM,hO⟩
omit [CW] in
theorem SoundN.toZ {P:Program} {f:Nat} {m:NMdl} (h:@SoundN cwD P f m):@SoundN cwZ P f m:=fun w u x us Fs Z h1 h2 h3 h4 y hy=>(h w u x us Fs Z h1 h2 h3 h4 y hy).mono fun e w' ⟨k,t,e1,e2,hM,hO⟩=>⟨k,t,e1,e2,Moves.toZ hM,hO⟩
def runsB (P:Program) (f:Nat):Bool:=match P.funcs[f]? with | some fn=>fn.body.isSome&&!(fn.name == "runtime.NumGoroutine") | none=>false
theorem runsB_ok {P:Program} {f:Nat} (h:runsB P f=true):Runs P f:=by
 unfold runsB at h;split at h
 ·rename_i fn e;simp only[Bool.and_eq_true,Bool.not_eq_true'] at h;exact⟨fn,e,h.1,h.2⟩
 ·cases h
end Go.Proofs.YtelgaemfnhnbmaaGreatDoor.X
