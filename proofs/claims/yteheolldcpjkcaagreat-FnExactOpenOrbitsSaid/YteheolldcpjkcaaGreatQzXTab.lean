/- The tables of types, checked by a Bool. -/
import Derived.Test.YteheolldcpjkcaaGreatQzXRes
set_option linter.unusedSimpArgs false
set_option linter.unusedVariables false
set_option linter.unusedSectionVars false
namespace Go.Proofs.YteheolldcpjkcaaGreat.X
open Go Go.RowKit
variable [CW]
 deriving instance DecidableEq for Kd
def Zu:Value→Value→Bool
 | .int k n,.int k' n'=>decide (k=k')&&decide (n=n')
 | .bool a,.bool b=>a==b
 | .string a,.string b=>decide (a.size=0)&&decide (b.size=0)
 | .slice none 0 0,.slice none 0 0=>true
 | _,_=>false
def KF:List Value→List Value→Bool
 | [],[]=>true
 | a :: r,b :: t=>Zu a b&&KF r t
 | _,_=>false
theorem Qp {a b:ByteArray} (ha:a.size=0) (hb:b.size=0):a=b:=by
 obtain⟨⟨a⟩⟩:=a;obtain⟨⟨b⟩⟩:=b;simp only[ByteArray.size,List.size_toArray,Akd] at ha hb;subst ha;subst hb;rfl
theorem Zv {a b:Value} (h:Zu a b=true):a=b:=by
 unfold Zu at h;split at h
 ·simp only[AiG,decide_eq_true_eq] at h;rw[h.1,h.2]
 ·rw[beq_iff_eq.1 h]
 ·simp only[AiG,decide_eq_true_eq] at h;rw[Qp h.1 h.2]
 ·rfl
 ·cases h
theorem HR:∀ {a b:List Value},KF a b=true→a=b
 | [],[],_=>rfl
 | a :: r,b :: t,h=>by
  simp only[KF,AiG] at h;rw[Zv h.1,HR h.2]
 | [],_ :: _,h | _ :: _,[],h=>by cases h
def Qq (P:Program) (t:Nat) (s:Sh):Bool :=
 match P.info? t,B8 P t,BK s with
 | some i,some b,some cs=>Nat.beq i.size s.n&&(b==s.agg)&&(match i.zero,s.agg with
  | some (.agg zs),true=>KF zs.toList cs
  | some z,false=>KF [z] cs
  | _,_=>false)
 | _,_,_=>false
theorem KG {P:Program} {t:Nat} {s:Sh} (h:Qq P t s=true):Ej P t s:=by
 unfold Qq at h;split at h
 ·rename_i i b cs h1 h2 h3;simp only[AiG,beq_iff_eq] at h;obtain⟨⟨h4,h5⟩,h6⟩:=h;subst h5;refine⟨?_,h2⟩;split at h6
  ·rename_i zs hz ha;have:=HR h6;refine⟨i,_,h1,AiH h4,hz,cs,h3,?_⟩;rw[ha];simp[Ao,← this]
  ·rename_i z hz ha;have:=HR h6;refine⟨i,_,h1,AiH h4,hz,cs,h3,?_⟩;rw[ha,← this];rfl
  ·cases h6
 ·cases h
def IY (P:Program):List Field→List (Nat×Nat)→Bool
 | [],[]=>true
 | fd :: r,(off,n) :: t=>Nat.beq fd.offset off&&Nat.blt 0 n&&(match P.info? fd.type,B8 P fd.type with
  | some i,some b=>Nat.beq i.size n&&(b==Nat.blt 1 n)
  | _,_=>false)&&IY P r t
 | _,_=>false
theorem KH {P:Program}:∀ {fds:List Field} {fs:List (Nat×Nat)},IY P fds fs=true→fds.mapM (fun f=>(P.info? f.type).map fun i=>(f.offset,i.size))=some fs ∧
  ∀ (j off n:Nat),fs[j]? = some (off,n)→∃ fd i,fds[j]? = some fd∧fd.offset=off∧P.info? fd.type=some i∧i.size=n∧0<n∧B8 P fd.type=some (Nat.blt 1 n)
 | [],[],_=>⟨rfl,fun j off n h=>by simp at h⟩
 | fd :: r,(off,n) :: t,h=>by
  simp only[IY,AiG] at h;obtain⟨⟨⟨h1,h2⟩,h3⟩,h4⟩:=h;split at h3
  ·rename_i i b h5 h6;simp only[AiG,beq_iff_eq] at h3;obtain⟨h7,h8⟩:=h3;obtain⟨h9,h10⟩:=KH h4;have e1:=AiH h1;have e2:=AiH h7;have e3:0<n:=by simp only[Nat.blt,AjV] at h2;omega
   refine⟨by rw[Ale,h9,h5,e1];simp[e2],fun j off' n' hj=>?_⟩
   cases j with
   | zero =>
    simp only[Ajo,Ajk,Alk] at hj;obtain⟨rfl,rfl⟩:=hj;exact⟨fd,i,rfl,e1,h5,e2,e3,by rw[h6,h8]⟩
   | succ j=>exact h10 j off' n' (by simpa using hj)
  ·cases h3
 | [],_ :: _,h | _ :: _,[],h=>by cases h
def Mr (P:Program) (t:Nat):Ty→Bool
 | .sc (.int k)=>(match P.underlying t with | some (.int k')=>decide (k=k') | _=>false)
 | .sc .bool=>(match P.underlying t with | some .bool=>true | _=>false)
 | .sc .str=>(match P.underlying t with | some .string=>true | _=>false)
 | .sc _=>false
 | .st s fs=>s.agg&&(match P.underlying t with | some (.struct fds)=>IY P fds.toList fs | _=>false)
 | .sl e s b=>(match P.underlying t,P.info? e with | some (.slice e'),some i=>Nat.beq e e'&&Qq P e s&&Nat.beq i.bytes b | _,_=>false)
 | .ar s e n=>(match P.underlying t,B8 P e,P.info? e with | some (.array n' e'),some false,some i=>s.agg&&(Nat.beq e e'&&(Nat.beq n n'&&Nat.beq i.size 1)) | _,_,_=>false)
theorem Zw {P:Program} {t:Nat} {ty:Ty} (h:Mr P t ty=true):YZ P t ty:=by
 cases ty with
 | sc s =>
  cases s<;>simp only[Mr] at h<;>first | (cases h;done) | skip
  all_goals
   split at h
   ·rename_i e
    first
     | (have:=of_decide_eq_true h;subst this;exact e)
     | exact e
   ·cases h
 | st s fs =>
  simp only[Mr,AiG] at h;obtain⟨h1,h2⟩:=h;split at h2
  ·rename_i fds e;obtain⟨h3,h4⟩:=KH h2;refine⟨h1,fds,e,h3,fun j off n hj=>?_⟩;obtain⟨fd,i,a1,a2⟩:=h4 j off n hj;exact⟨fd,i,by simpa using a1,a2⟩
  ·cases h2
 | sl e s b =>
  simp only[Mr] at h;split at h
  ·rename_i e' i h1 h2;simp only[AiG] at h;obtain⟨⟨h3,h4⟩,h5⟩:=h;have:=AiH h3;subst this;refine⟨h1,KG h4,fun j hj=>?_⟩;rw[h2] at hj;cases hj;exact AiH h5
  ·cases h
 | ar s e n =>
  simp only[Mr] at h;split at h
  ·rename_i n' e' i h1 h2 h3;simp only[AiG] at h;obtain⟨h4,h5,h6,h7⟩:=h;have e1:=AiH h5;have e2:=AiH h6;subst e1 e2;exact⟨h4,h1,h2,i,h3,AiH h7⟩
  ·cases h
def eqB (P:Program) (t:Nat) (ks:List Sh):Bool :=
 match eqT P 12 t,DZ ks,B8 P t with
 | some _,some l,some true=>decide (l=kds P 12 t)&&!P.eqGuardType P.depth t
 | _,_,_=>false
def AfP (P:Program) (t:Nat) (m:MTy):Bool :=
 (match P.underlying t with | some (.map k v)=>Nat.beq k m.k&&Nat.beq v m.v | _=>false)&&Qq P m.v m.V&&m.K.flat&&m.V.flat &&
 (match eqT P 12 m.k,DZ (Fk m.K),B8 P m.k with
  | some n,some l,some ag=>decide (l=kds P 12 m.k)&&(ag==m.K.agg)&&(ag||Nat.beq n 1)
  | _,_,_=>false)
theorem AcI {P:Program} {t:Nat} {m:MTy} (h:AfP P t m=true):LU P t m:=by
 unfold AfP at h;simp only[AiG] at h;obtain⟨⟨⟨⟨h1,h2⟩,kf⟩,vf⟩,h5⟩:=h;split at h1
 ·rename_i k v hu;simp only[AiG] at h1;have e1:=AiH h1.1;have e2:=AiH h1.2;subst e1;subst e2;split at h5
  ·rename_i n l ag hn hl hag;simp only[AiG,decide_eq_true_eq,beq_iff_eq,Aj5] at h5;obtain⟨⟨rfl,rfl⟩,h6⟩:=h5;have h1':m.K.agg=false→n=1:=fun e=>by
    rcases h6 with h6 | h6
    ·rw[e] at h6;cases h6
    ·exact AiH h6
   refine⟨hu,KG h2,kf,vf,fun x e w=>?_,fun x y w=>?_,?_,fun x=>KZ kf hl x,fun x y=>(Ct m.K kf x y).1⟩
   ·exact (Gg e 12 m.k n hn m.K.agg hag h1').2 9988 _ w (Bq m.K kf hl x)
   ·exact (IX 12 m.k n hn m.K.agg hag h1').2 9988 _ _ _ w (Bq m.K kf hl x) (Bq m.K kf hl y) (DD m.K kf x y)
   ·unfold B8 at hag;split at hag
    ·rename_i fs hd;refine⟨_,hd,.inr fun x y=>?_⟩;rfl
    ·rename_i n' e' hd;refine⟨_,hd,.inr fun x y=>?_⟩;rfl
    ·rename_i d hne1 hne2 hd;simp only[Ajk] at hag;refine⟨_,hd,.inl fun x y=>?_⟩;have hx:=Bq m.K kf hl x;have hy:=Bq m.K kf hl y;have hq:=DD m.K kf x y;have lx:=Bv m.K kf x;have ly:=Bv m.K kf y;rw[Sh.n_one hag.symm] at lx ly;unfold Bi;rw[← hag];generalize cellsF m.K x=cx at *;generalize cellsF m.K y=cy at *
     match cx,lx,cy,ly with
     | [u],_,[v],_ =>
      have hq:eqV u v=some (AO m.K x y):=by
       simp only[CB] at hq;cases he:eqV u v with
       | none=>rw[he] at hq;cases hq
       | some s=>rw[he] at hq;simpa using hq
      simp only[Ao,cond_false,List.headD_cons];unfold eqT at hn;rw[hd] at hn;cases d<;>simp only at hn<;>first | (cases hn;done) | skip
      all_goals
       simp only[kds,hd] at hx hy
       first
        | exact (hne1 _ rfl).elim
        | (obtain⟨u',t',e',⟨n',rfl⟩,rfl⟩:=hx;obtain⟨v',t',e'',⟨n'',rfl⟩,rfl⟩:=hy;cases e';cases e'';simpa[eqV,Instr.sameNow] using hq)
    ·cases hag
  ·cases h5
 ·cases h1
def Zx (P:Program) (ty:List (Nat×Ty)) (eq:List (Nat×List Sh)) (mt:List (Nat×MTy)):Bool :=
 ty.all (fun p=>Qq P p.1 p.2.sh&&Mr P p.1 p.2)&&eq.all (fun p=>eqB P p.1 p.2)&&mt.all fun p=>AfP P p.1 p.2
theorem Zy {P:Program} {E:Env} (h:Zx P E.ty E.eq E.mt=true) (hm:P.follows .mixedOrders=true) (hf:∀ f m,lkp E.fs f=some m→Bk P f m∧BZ P f) (hpf:∀ f m,lkp E.pf f=some m→Kf P f m∧BZ P f) (hnf:∀ f m,lkp E.nf f=some m→Kg P f m∧BZ P f) (hqf:∀ f m,lkp E.qf f=some m→Kh P f m∧BZ P f) (hcf:∀ f m,lkp E.cf f=some m→Ki P f m∧BZ P f) (hvf:∀ f m,lkp E.vf f=some m→@Bk cwD P f m∧BZ P f) (hxf:∀ f m,lkp E.xf f=some m→Kj P f m∧BZ P f):AA P E:=by
 simp only[Zx,AiG] at h;refine⟨fun t ty hl=>?_,fun t ks hl=>?_,fun t m hl=>AcI (AiL.1 h.2 _ (Em hl)),hf,hvf,hpf,hnf,hqf,hcf,hxf,hm⟩
 ·have:=AiL.1 h.1.1 _ (Em hl);simp only[AiG] at this;exact⟨KG this.1,Zw this.2⟩
 ·have:=AiL.1 h.1.2 _ (Em hl);unfold eqB at this;split at this
  ·rename_i n l h1 h2 h3;simp only[AiG,decide_eq_true_eq,AjU] at this;exact⟨12,n,h1,by omega,by rw[← this.1];exact h2,h3,this.2⟩
  ·cases this
def DE (P:Program) (fs:List (Nat×Mdl)):Prop:=∀ f m,lkp fs f=some m→Bk P f m∧BZ P f
theorem DE.nil {P:Program}:DE P []:=fun f m h=>by cases h
theorem DE.cons {P:Program} {f:Nat} {m:Mdl} {fs:List (Nat×Mdl)} (hs:Bk P f m) (hr:BZ P f) (h:DE P fs):DE P ((f,m) :: fs):=fun g n hg=>by
 simp only[lkp] at hg;cases hb:Nat.beq f g
 ·rw[hb,cond_false] at hg;exact h g n hg
 ·rw[hb,cond_true] at hg;cases hg;have:=AiH hb;subst this;exact⟨hs,hr⟩
def K0 (P:Program) (fs:List (Nat×N6)):Prop:=∀ f m,lkp fs f=some m→Kf P f m∧BZ P f
theorem K0.nil {P:Program}:K0 P []:=fun f m h=>by cases h
theorem K0.cons {P:Program} {f:Nat} {m:N6} {fs:List (Nat×N6)} (hs:Kf P f m) (hr:BZ P f) (h:K0 P fs):K0 P ((f,m) :: fs):=fun g n hg=>by
 simp only[lkp] at hg;cases hb:Nat.beq f g
 ·rw[hb,cond_false] at hg;exact h g n hg
 ·rw[hb,cond_true] at hg;cases hg;have:=AiH hb;subst this;exact⟨hs,hr⟩
def K1 (P:Program) (fs:List (Nat×N7)):Prop:=∀ f m,lkp fs f=some m→Kg P f m∧BZ P f
theorem K1.nil {P:Program}:K1 P []:=fun f m h=>by cases h
theorem K1.cons {P:Program} {f:Nat} {m:N7} {fs:List (Nat×N7)} (hs:Kg P f m) (hr:BZ P f) (h:K1 P fs):K1 P ((f,m) :: fs):=fun g n hg=>by
 simp only[lkp] at hg;cases hb:Nat.beq f g
 ·rw[hb,cond_false] at hg;exact h g n hg
 ·rw[hb,cond_true] at hg;cases hg;have:=AiH hb;subst this;exact⟨hs,hr⟩
def K2 (P:Program) (fs:List (Nat×Qs)):Prop:=∀ f m,lkp fs f=some m→Kh P f m∧BZ P f
theorem K2.nil {P:Program}:K2 P []:=fun f m h=>by cases h
theorem K2.cons {P:Program} {f:Nat} {m:Qs} {fs:List (Nat×Qs)} (hs:Kh P f m) (hr:BZ P f) (h:K2 P fs):K2 P ((f,m) :: fs):=fun g n hg=>by
 simp only[lkp] at hg;cases hb:Nat.beq f g
 ·rw[hb,cond_false] at hg;exact h g n hg
 ·rw[hb,cond_true] at hg;cases hg;have:=AiH hb;subst this;exact⟨hs,hr⟩
def K3 (P:Program) (fs:List (Nat×Gi)):Prop:=∀ f m,lkp fs f=some m→Ki P f m∧BZ P f
theorem K3.nil {P:Program}:K3 P []:=fun f m h=>by cases h
theorem K3.cons {P:Program} {f:Nat} {m:Gi} {fs:List (Nat×Gi)} (hs:Ki P f m) (hr:BZ P f) (h:K3 P fs):K3 P ((f,m) :: fs):=fun g n hg=>by
 simp only[lkp] at hg;cases hb:Nat.beq f g
 ·rw[hb,cond_false] at hg;exact h g n hg
 ·rw[hb,cond_true] at hg;cases hg;have:=AiH hb;subst this;exact⟨hs,hr⟩
def K4 (P:Program) (fs:List (Nat×Gi)):Prop:=∀ f m,lkp fs f=some m→Kj P f m∧BZ P f
theorem K4.nil {P:Program}:K4 P []:=fun f m h=>by cases h
theorem K4.cons {P:Program} {f:Nat} {m:Gi} {fs:List (Nat×Gi)} (hs:Kj P f m) (hr:BZ P f) (h:K4 P fs):K4 P ((f,m) :: fs):=fun g n hg=>by
 simp only[lkp] at hg;cases hb:Nat.beq f g
 ·rw[hb,cond_false] at hg;exact h g n hg
 ·rw[hb,cond_true] at hg;cases hg;have:=AiH hb;subst this;exact⟨hs,hr⟩
def D3 (P:Program) (fs:List (Nat×Mdl)):Prop:=∀ f m,lkp fs f=some m→@Bk cwD P f m∧BZ P f
theorem D3.nil {P:Program}:D3 P []:=fun f m h=>by cases h
theorem D3.cons {P:Program} {f:Nat} {m:Mdl} {fs:List (Nat×Mdl)} (hs:@Bk cwD P f m) (hr:BZ P f) (h:D3 P fs):D3 P ((f,m) :: fs):=fun g n hg=>by
 simp only[lkp] at hg;cases hb:Nat.beq f g
 ·rw[hb,cond_false] at hg;exact h g n hg
 ·rw[hb,cond_true] at hg;cases hg;have:=AiH hb;subst this;exact⟨hs,hr⟩
omit [CW] in
def UC (P:Program) (f:Nat):Bool:=match P.funcs[f]? with | some fn=>fn.body.isSome&&!(fn.name == "runtime.NumGoroutine") | none=>false
theorem Qr {P:Program} {f:Nat} (h:UC P f=true):BZ P f:=by
 unfold UC at h;split at h
 ·rename_i fn e;simp only[AiG,AjU] at h;exact⟨fn,e,h.1,h.2⟩
 ·cases h
end Go.Proofs.YteheolldcpjkcaaGreat.X
