/- Each operation does in the machine what the abstract interpreter says: operations that make nothing new. -/
import Derived.Test.YteheolldcpjkcaaGreatQvXEnv
set_option linter.unusedSimpArgs false
set_option linter.unusedVariables false
set_option linter.unusedSectionVars false
namespace Go.Proofs.YteheolldcpjkcaaGreat.X
open Go Go.RowKit
variable [CW]
variable {C:Cx} {fr:Fr} {big:FF} {g:Sg} {a:Act} {w:World} {ch:List (Nat×Bool)} {E:Env}
def Eff.isTab:Eff→Bool | .tab _=>true | _=>false
def AU (C:Cx) (g:Sg) (a:Act) (fr:Fr) (big:FF) (r:Result Next):Res→Prop
 | .done req v nr nb ef=>req=true→(ef.isTab=true→fr.f=big)→NP fr nr nb g →
   ∃ n u w',r=.ok n w'∧(n=.value u∨(n=.skip∧u=undef))∧Out C g a fr nr nb (grow fr big nr nb ef) v u w'
 | .fail=>True
 | .call _ _ _ _ _=>False
 | .callE _ _ _ _=>False
theorem AU.ofV (h:Sim C big g a w) {r:Result Next} {req ag cs} (hr:req=true→∃ u,r=.ok (.value u) w∧VR C g ag cs u):AU C g a fr big r (.done req (some (.v ag cs)) [] [] .pure):=by
 intro hq _ _;obtain⟨u,e,hv⟩:=hr hq;exact⟨_,u,w,e,.inl rfl,Out.same h fun av e'=>by cases e';exact hv⟩
theorem AU.val (h:Sim C big g a w) {r:Result Next} {req l} (hr:req=true→∃ u,r=.ok (.value u) w∧LfR C g l u):AU C g a fr big r (val req l) :=
 AU.ofV h fun hq=>let ⟨u,e,hl⟩:=hr hq;⟨u,e,VR.of1 hl⟩
theorem AU.vals (h:Sim C big g a w) {r:Result Next} {ag cs} (hr:∃ u,r=.ok (.value u) w∧VR C g ag cs u):AU C g a fr big r (vals ag cs) :=
 AU.ofV h fun _=>hr
theorem CB {m n:Nat} (h:Nat.ble m n=true):m≤n:=by rwa [ArB] at h
theorem ZP {n:Nat} (h:Nat.blt 1 n=false) (h0:0<n):n=1:=by
 rcases Arf 1 n with h1 | h1
 ·have:Nat.blt 1 n=true:=by simp only[Nat.blt,ArB];omega
  rw[this] at h;cases h
 ·omega
theorem GR (hE:AG C.P E) {t e:Nat} {s:Sh} {b:Nat} (h:slT E t=some (e,s,b)):C.P.underlying t=some (.slice e)∧Fu C.P e s∧∀ i,C.P.info? e=some i→i.bytes=b:=by
 unfold slT at h;split at h
 ·rename_i hl;cases h;exact (hE.ty _ _ hl).desc
 ·cases h
theorem AfM {t:Nat} {r:Ac} (h:Ww E t r=true):∃ s b,slT E t=some (r.e,s,b)∧s.n=r.s.n:=by
 unfold Ww at h;split at h
 ·rename_i e s b hs;simp only[Aql,ArQ,decide_eq_true_eq] at h;have he:=Aqm h.1;subst he;refine⟨s,b,hs,?_⟩;rcases h.2 with h | h
  ·rw[h]
  ·split at h
   ·rename_i e1 s1 hr;rw[hr,of_decide_eq_true h];rfl
   ·cases h
 ·cases h
theorem Aj2 {t:Nat} {r:Ac} (h:KA E t r=true):∃ b,slT E t=some (r.e,r.s,b):=by
 unfold KA at h;split at h
 ·rename_i e s b hs;simp only[Aql,decide_eq_true_eq] at h;have:=Aqm h.1;exact⟨b,by rw[hs,this,h.2]⟩
 ·cases h

theorem Aj3 (hs:Sim C big g a w) (hsub:Sub fr big) (hc:Holds a ch) (o:Oper) (op:UnOp) (t:TypeId) (x:Operand) (ho:o.op=.unOp op t x):AU C g a fr big ((execOp a.eval o).run C.P w) (AlF fr ch op x):=by
 unfold AlF;split
 ·rename_i b hx;have this:a.eval x=.bool b:=As (hs.sub hsub) hc hx;refine AU.val hs fun _=>⟨_,?_,rfl⟩;simp only[execOp,ho,this,Op.unary];rfl
 ·rename_i k n hx;have this:a.eval x=.int k n:=As (hs.sub hsub) hc hx;refine AU.val hs fun _=>⟨_,?_,rfl⟩;simp only[execOp,ho,this,Op.unary];rfl
 ·trivial
theorem Abf (hs:Sim C big g a w) (hsub:Sub fr big) (hc:Holds a ch) (o:Oper) (c x y:Operand) (ho:o.op=.pick c x y):AU C g a fr big ((execOp a.eval o).run C.P w) (UG fr ch c x y):=by
 unfold UG;split
 ·rename_i c;split
  ·rename_i t u v h1 h2 h3;have e1:a.eval (.tmp c)=.bool t:=As (hs.sub hsub) hc h1;have hcc:a.tmps.getD c undef=.bool t:=e1;refine AU.val hs fun _=>?_;cases t with
   | true =>
    have e2:=As (hs.sub hsub) (ch:=(c,true) :: ch) (fun p hp=>by
     rcases AqA.1 hp with rfl | hp
     ·exact hcc
     ·exact hc p hp) h2
    refine⟨a.eval x,?_,e2⟩;simp only[execOp,ho,e1];rfl
   | false =>
    have e2:=As (hs.sub hsub) (ch:=(c,false) :: ch) (fun p hp=>by
     rcases AqA.1 hp with rfl | hp
     ·exact hcc
     ·exact hc p hp) h3
    refine⟨a.eval y,?_,e2⟩;simp only[execOp,ho,e1];rfl
  ·trivial
 ·trivial
theorem AfN (hs:Sim C big g a w) (hsub:Sub fr big) (hc:Holds a ch) (o:Oper) (x:Operand) (ho:o.op=.nilCheck x):AU C g a fr big ((execOp a.eval o).run C.P w) (AbA fr ch x):=by
 unfold AbA;split
 ·rename_i hx;have:=As (hs.sub hsub) hc hx;refine AU.val hs fun _=>⟨a.eval x,?_,this⟩;obtain⟨k,hk,e⟩:=this;simp only[execOp,ho,e];rfl
 ·rename_i hx;have:=As (hs.sub hsub) hc hx;refine AU.val hs fun _=>⟨a.eval x,?_,this⟩;obtain⟨_,_,_,_,_,_,_,_,e⟩:=this;simp only[execOp,ho,e];rfl
 ·trivial
theorem Nm (hE:AG C.P E) (hs:Sim C big g a w) (hsub:Sub fr big) (hc:Holds a ch) (o:Oper) (s:TypeId) (x:Operand) (f:Nat) (ho:o.op=.fieldAddr s x f):AU C g a fr big ((execOp a.eval o).run C.P w) (FT E fr ch s x f):=by
 unfold FT;split
 ·rename_i sh fs hl;obtain⟨_,fds,hu,hlen,hf⟩:=(hE.ty _ _ hl).desc;have key:∀ off n (A:Addr),fs[f]? = some (off,n)→a.eval x=.pointer (some A)→(execOp a.eval o).run C.P w=.ok (.value (.pointer (some (A.add off)))) w:=by
   intro off n A hfo he;obtain⟨fd,i,hfd,hoff,hi,hsz,hpos,_⟩:=hf f off n hfo;have hne:i.size≠0:=by omega
   simp[execOp,ho,he,Instr.fieldAt,run_underlying hu,hfd,Instr.sureAddr,fieldPlace,sizeOf,typeInfo,hi,hne,hoff]
  split
  ·rename_i off n i o' h1 h2;have:=As (hs.sub hsub) hc h2;obtain⟨k,hk,e⟩:=this;refine AU.val hs fun _=>⟨_,key _ _ _ h1 e,k,hk,?_⟩;rw[Addr.add_lit]
  ·rename_i off n i j o' h1 h2;have:=As (hs.sub hsub) hc h2;obtain⟨q,A,m,c,hq,hv,h0,hj,e⟩:=this;refine AU.val hs fun _=>⟨_,key _ _ _ h1 e,q,A,m,c,hq,hv,h0,hj,?_⟩;rw[Addr.add_add,Atl]
  ·trivial
 ·trivial
theorem Rr (hs:Sim C big g a w) (hsub:Sub fr big) (hc:Holds a ch) (o:Oper) (x:Operand) (i:Nat) (ho:o.op=.extract x i):AU C g a fr big ((execOp a.eval o).run C.P w) (Js fr ch x i):=by
 unfold Js;split
 ·rename_i vs hx;have:=Hm (hs.sub hsub) hc hx;obtain⟨us,e,ht⟩:=this;split
  ·rename_i ag cs hi;have:∃ u,us[i]? = some u∧VR C g ag cs u:=by
    clear e hx ho
    induction vs generalizing us i with
    | nil=>simp at hi
    | cons p r ih =>
     obtain⟨u,t,rfl,hv,hr⟩:=ht;cases i with
     | zero=>simp at hi;exact⟨u,rfl,by rw[hi] at hv;exact hv⟩
     | succ i=>simpa using ih i t hr (by simpa using hi)
   obtain⟨u,hu,hv⟩:=this;refine AU.vals hs ⟨u,?_,hv⟩;simp[execOp,ho,e,Instr.extract,hu]
  ·trivial
 ·trivial
theorem Nn:∀ {vs:List (Bool×List Lf)} {bs:List Nat} {us:List Value},KJ vs=some bs→B1 C g vs us→GW g.β bs us
 | [],_,_,h,ht=>by cases h;exact ht
 | p :: r,bs,us,h,⟨u,t,e,hv,hr⟩=>by
  subst e;unfold KJ at h;split at h
  ·cases h;simp_all
  ·rename_i b r' heq;cases heq;split at h
   ·rename_i bs' hb;cases h;obtain⟨k,hk,e⟩:=hv.to1;exact⟨k,t,by rw[e],hk,Nn hb hr⟩
   ·cases h
  ·cases h
theorem C6 (h:Sim C fr.f g a w) (hc:Holds a ch):∀ {xs:List Operand} {vs:List (Bool×List Lf)},UE fr ch xs=some vs→B1 C g vs (xs.map a.eval)
 | [],_,hx=>by cases hx;rfl
 | x :: r,vs,hx=>by
  unfold UE at hx;split at hx
  ·rename_i v vs' h1 h2;cases hx;exact⟨_,_,rfl,Cq h hc h1,C6 h hc h2⟩
  ·cases hx
theorem Abg (hs:Sim C big g a w) (hsub:Sub fr big) (hc:Holds a ch) (o:Oper) (f:Fn) (first captured:Array Operand) (ho:o.op=.makeFunc f first captured):AU C g a fr big ((execOp a.eval o).run C.P w) (UJ fr ch f first.toList captured.toList):=by
 unfold UJ;split
 ·rename_i g' vs hf hcap;split
  ·rename_i bs hb;have ht:=C6 (hs.sub hsub) hc hcap;refine AU.val hs fun _=>⟨.func (.func g') #[] (captured.map a.eval),?_,captured.toList.map a.eval,?_,Nn hb ht⟩
   ·have:first=#[]:=by simpa using hf
    subst this;simp[execOp,ho,Instr.makeFunc]
   ·rw[← Asj,Aqw]
  ·trivial
 ·trivial
theorem Abh {P:Program} (w:World) (a:Addr) (xs:List Int) (h:∀ (j:Nat) (n:Int),xs[j]? = some n→w.cell? (a.add j)=some (.int .u8 n)) {src dst e:TypeId} (c:Nat)
  (hs:P.underlying src=some (.slice e)) (he:P.underlying e=some (.int .u8)) (hd:P.underlying dst=some .string):(convert src dst (.slice (some a) xs.length c)).run P w=.ok (.string (strOfNums xs)) w:=by
 have hl:=run_loadCells_list (P:=P) w a (xs.map (Value.int .u8)) (fun j v hj=>by
  rw[Aqt] at hj;cases hx:xs[j]? with
  | none=>rw[hx] at hj;cases hj
  | some n =>
   rw[hx] at hj;cases hj;exact h j n hx)
 rw[AqD] at hl;rw[run_convert_bytes_string w src dst e _ _ c hs he hd,run_bytesToString w _ _ c xs hl,foldl_push_bytes];simp[strOfNums,ByteArray.empty,ByteArray.emptyWithCapacity];rfl
theorem Rs (hE:AG C.P E) (hs:Sim C big g a w) (hsub:Sub fr big) (hc:Holds a ch) (o:Oper) (s t:TypeId) (x:Operand) (ho:o.op=.convert s t x):AU C g a fr big ((execOp a.eval o).run C.P w) (Jr E fr ch s t x):=by
 unfold Jr;split
 ·rename_i k n hx;have this:a.eval x=.int k n:=As (hs.sub hsub) hc hx;split
  ·rename_i ty k' h1 h2;refine AU.val hs fun _=>⟨_,?_,rfl⟩;have hsrc:∃ d,C.P.underlying s=some d:=by
    have:=(hE.ty _ _ h1).ok.agg;unfold CJ at this;split at this
    ·exact⟨_,by assumption⟩
    ·exact⟨_,by assumption⟩
    ·exact⟨_,by assumption⟩
    ·cases this
   obtain⟨d,hd⟩:=hsrc;have hd':C.P.underlying t=some (.int k'):=(hE.ty _ _ h2).desc;simp[execOp,ho,this,convert,run_underlying hd,run_underlying hd',Conv.intToInt]
  ·trivial
 ·rename_i i hx;have hl:=As (hs.sub hsub) hc hx;split
  ·rename_i e s0 b r h1 h2 hr;split
   ·rename_i he;split
    ·rename_i hsh;refine AU.val hs fun _=>⟨_,?_,rfl⟩;obtain⟨re,rsh,rxs,rm⟩:=r;simp only at hsh;subst hsh;have hu1:=(GR hE h1).1;have hu2:C.P.underlying e=some (.int .u8):=(hE.ty _ _ he).desc;have hu3:C.P.underlying t=some .string:=(hE.ty _ _ h2).desc;obtain⟨q,A,n,c,hq,hqv,hu⟩:=hl;have hrd:=CI.read (hs.rows i _ (hsub.rw i _ hr)) hq;obtain⟨A1,n1,c1,e1,hn,hlen,hcell⟩:=id hrd;injection e1 with e1;rw[e1] at hqv;injection hqv with f1 f2 f3
     subst f1 f2 f3;simp only at hlen;subst hlen;simp only[execOp,ho,hu,Aqu];cases A1 with
     | none =>
      have h0:rxs=[]:=by
       rcases Are rxs.length with h | h
       ·exact ArY.1 h
       ·obtain⟨ad,had,_⟩:=hcell h;cases had
      subst h0;rw[run_convert_bytes_nil w s e hu1 hu2 _ _ t hu3];rfl
     | some ad =>
      rw[Abh w ad rxs (fun j n hj=>?_) c1 hu1 hu2 hu3]
      ·rfl
      ·have hpos:0<rxs.length:=by
        rcases Are rxs.length with h | h
        ·rw[ArY.1 h] at hj;cases hj
        ·exact h
       obtain⟨ad',had,_,hc'⟩:=hcell hpos;cases had;obtain⟨cs,hcs,_,hcc⟩:=hc' j n hj;simp only[RC] at hcs;subst hcs;have:=hcc 0 _ rfl;simpa[Sh.n] using this
    ·trivial
   ·trivial
  ·trivial
 ·trivial
theorem CT (hs:Sim C big g a w) (hsub:Sub fr big) {l:Lf} {u:Value} {i:Nat} {r:Ac} {lo len:Int} (hl:LfR C g l u) (hi:CQ fr l=some (i,r,lo,len)) :
  at? fr.rw i=some r∧∃ q A n c A' n' c',g.ρ i=some q∧q.v=.slice A n c∧q.sz=r.s.n∧n=r.xs.length∧DA C.P r.e r.s w q.F q.v r.xs∧u=.slice A' n' c'∧len=(n':Int)∧0≤lo∧lo+(n':Int)≤(n:Int)∧n'≤c'∧(lo=0→A'=A∧c'=c)∧(0<n'→A'=A.map (·.add (lo.toNat*q.sz))):=by
 have row:∀ i r,at? fr.rw i=some r→∃ q A c,g.ρ i=some q∧q.v=.slice A r.xs.length c∧r.xs.length≤c∧q.sz=r.s.n∧DA C.P r.e r.s w q.F q.v r.xs:=by
  intro i r h;have hr:=hs.rows i r (hsub.rw i r h);obtain⟨q,A,n,c,hq,hv,hz,_⟩:=hr;have hrd:=CI.read (hs.rows i r (hsub.rw i r h)) hq;obtain⟨A1,n1,c1,e,hn,hx⟩:=id hrd;injection e with e;have e2:=hx.1;exact⟨q,A1,c1,hq,by rw[e,e2],by omega,hz,hrd⟩
 unfold CQ at hi;split at hi
 ·rename_i i';split at hi
  ·rename_i r' hr;cases hi;obtain⟨q,A,c,hq,hv,hle,hz,hrd⟩:=row _ _ hr;obtain⟨q',A',n',c',hq',hv',hu⟩:=hl;rw[hq] at hq';cases hq';rw[hv] at hv';cases hv';exact⟨hr,q,_,_,_,_,_,_,hq,hv,hz,rfl,hrd,hu,rfl,Int.le_refl _,by omega,hle,fun _=>⟨rfl,rfl⟩,fun _=>by cases A<;>simp[Addr.add_zero']⟩
  ·cases hi
 ·rename_i i' lo' hi';split at hi
  ·rename_i r' hr;cases hi;obtain⟨q,A,c,hq,hv,hle,hz,hrd⟩:=row _ _ hr;obtain⟨q',A',n',c',A2,n2,c2,hq',hv',hu,h0,h1,h2,h3,h4,h5⟩:=hl;rw[hq] at hq';cases hq';rw[hv] at hv';cases hv';exact⟨hr,q,_,_,_,_,_,_,hq,hv,hz,rfl,hrd,hu,by omega,h0,by omega,h3,h4,h5⟩
  ·cases hi
 ·cases hi
theorem Np (hE:AG C.P E) (hs:Sim C big g a w) (hsub:Sub fr big) (hc:Holds a ch) (o:Oper) (t:TypeId) (x i:Operand) (ho:o.op=.indexAddr t x i):AU C g a fr big ((execOp a.eval o).run C.P w) (FV E fr ch t x i):=by
 unfold FV;split
 ·rename_i v k j hx hi;have h1:=As (hs.sub hsub) hc hx;have h2:a.eval i=.int k j:=As (hs.sub hsub) hc hi;split
  ·rename_i r q lo len hri;cases hfit:Ww E t q
   ·trivial
   ·obtain⟨hat,q',A,n,c,A',n',c',hq,hv,hz,hn,hrd,hu,hlen,h0,hle,_,_,hA⟩:=CT hs hsub h1 hri;obtain⟨s,b,hb,hsn⟩:=AfM hfit;obtain⟨hund,hty,_⟩:=GR hE hb;refine AU.val hs fun hreq=>?_;simp only[Aql,decide_eq_true_eq] at hreq;have hpos:0<n':=by omega
    have hAe:=hA hpos
    -- the slice has an address
    obtain⟨A1,n1,c1,e,hn1,hx1⟩:=id hrd;injection e with e;rw[hv] at e;cases e;obtain⟨ad,hAd,_⟩:=hx1.2 (by omega)
    subst hAd;simp only[AqU] at hAe;subst hAe;refine⟨.pointer (some ((ad.add (lo.toNat*q'.sz)).add (j.toNat*q.s.n))),?_,q',ad,n,c,hq,hv,by omega,by omega,?_⟩
    ·simp[execOp,ho,hu,h2,Instr.indexAt,asIntOf,run_underlying hund,hty.sizeOf,hsn,hreq.1,show j<(n':Int) by omega]
    ·rw[Addr.add_add,hz,← ArZ];congr 4;omega
  ·trivial
 ·trivial
theorem Pn {g:Sg}:∀ {cs:List Lf} {us:List Value} {l:List ByteArray},AC C g cs us→Wx cs=some l→us=l.map .string
 | [],_,_,h,hl=>by cases h;cases hl;rfl
 | c :: r,_,l,⟨u,t,e,hu,ht⟩,hl=>by
  subst e;cases c<;>simp only[Wx] at hl<;>first | (cases hl;done) | skip
  split at hl
  ·rename_i l' h';cases hl;have hu:u=.string _:=hu;rw[hu,Pn ht h'];rfl
  ·cases hl
theorem Uh (hE:AG C.P E) (hs:Sim C big g a w) (hsub:Sub fr big) (hc:Holds a ch) (o:Oper) (t:TypeId) (x i:Operand) (ho:o.op=.index t x i):AU C g a fr big ((execOp a.eval o).run C.P w) (LL E fr ch t x i):=by
 unfold LL;split
 ·rename_i sh e n cs k j ht hx hi;split
  ·rename_i l hl;cases hb:Nat.beq l.length n
   ·trivial
   rw[cond_true];have hln:=Aqm hb;obtain⟨us,hu,hr,_⟩:=Cq (hs.sub hsub) hc hx;have h2:a.eval i=.int k j:=As (hs.sub hsub) hc hi;have hu:a.eval x=.agg us.toArray:=hu;have hus:=Pn hr hl;refine AU.val hs fun hreq=>⟨_,?_,rfl⟩;simp only[Aql,decide_eq_true_eq] at hreq;obtain⟨_,hund,hag,inf,hinf,hsz⟩:=(hE.ty _ _ ht).desc;have hse:(Go.sizeOf e).run C.P w=.ok 1 w:=by simp[Go.sizeOf,typeInfo,hinf,hsz]
   have hlt:j.toNat<l.length:=by omega
   have hget:us[j.toNat]? = some (.string (l.getD j.toNat ByteArray.empty)):=by
    rw[hus,Aqt,Aqo hlt,AqJ,Aqo hlt];rfl
   simp only[execOp,ho,hu,h2,Instr.index,asIntOf,Aqu,AqO,Aqp,run_underlying hund,hreq,and_self,if_true,hse,part,Hl hag,Nat.mul_one,Bool.false_eq_true,if_false,AsC,hget]
  ·trivial
 ·trivial
theorem Wj (hE:AG C.P E) (hs:Sim C big g a w) (hsub:Sub fr big) (hc:Holds a ch) (o:Oper) (t:TypeId) (x i:Operand) (ho:o.op=.index t x i):AU C g a fr big ((execOp a.eval o).run C.P w) (PK E fr ch t x i):=by
 unfold PK;split
 ·rename_i s k j ht hx hi;have h1:a.eval x=.string s:=As (hs.sub hsub) hc hx;have h2:a.eval i=.int k j:=As (hs.sub hsub) hc hi;refine AU.val hs fun hreq=>⟨_,?_,rfl⟩;simp only[Aql,decide_eq_true_eq] at hreq;have hu:C.P.underlying t=some .string:=(hE.ty _ _ ht).desc;have hlt:j.toNat<s.size:=by omega
  have e:s[j.toNat]? = some (s.data.getD j.toNat 0):=by
   have hd:j.toNat<s.data.size:=hlt;rw[AqL,Arp hd];rw[getElem?_pos s j.toNat hlt];rfl
  simp only[execOp,ho,h1,h2,Instr.index,asIntOf,Aqu,AqO,Aqp,run_underlying hu,hreq.1,if_true,e]
 ·exact Uh hE hs hsub hc o t x i ho

theorem AfO {op:BinOp} {k:IntKind} {m n:Int} {req:Bool} {l:Lf} (h:AlE op k m n=some (req,l)) (hr:req=true) (t:TypeId) (w:World):∃ u,(binOp op t (.int k m) (.int k n)).run C.P w=.ok u w∧LfR C g l u:=by
 unfold AlE at h;split at h<;>cases h
 ·exact⟨_,by simp only[binOp,Op.intBits,ne_eq,not_true_eq_false,if_false];rfl,rfl⟩
 ·exact⟨_,by simp only[binOp,Op.intBits,ne_eq,not_true_eq_false,if_false];rfl,rfl⟩
 ·exact⟨_,by simp only[binOp,Op.intBits,ne_eq,not_true_eq_false,if_false];rfl,rfl⟩
 ·exact⟨_,by simp only[binOp_add];rfl,rfl⟩
 ·exact⟨_,by simp only[binOp_sub];rfl,rfl⟩
 ·exact⟨_,by simp only[binOp_mul];rfl,rfl⟩
 ·have:n≠0:=by simpa using hr
  exact⟨_,by simp only[binOp_quo,Op.intDiv,this,if_false];rfl,rfl⟩
 ·have:n≠0:=by simpa using hr
  exact⟨_,by simp only[binOp_rem,Op.intDiv,this,if_false];rfl,rfl⟩
 ·exact⟨_,by simp only[binOp_eql];rfl,rfl⟩
 ·exact⟨_,by simp only[binOp_neq];rfl,rfl⟩
 ·exact⟨_,by simp only[binOp_lss];rfl,rfl⟩
 ·exact⟨_,by simp only[binOp_leq];rfl,rfl⟩
 ·exact⟨_,by simp only[binOp_gtr];rfl,rfl⟩
 ·exact⟨_,by simp only[binOp_geq];rfl,rfl⟩
theorem Aj4 {op:BinOp} {k k':IntKind} {m n:Int} (h:Agb op=true) (hr:decide (0≤n)=true) (t:TypeId) (w:World):(binOp op t (.int k m) (.int k' n)).run C.P w=.ok (.int k (UF op k m n)) w:=by
 have hn:¬ n<0:=by have:=of_decide_eq_true hr;omega
 unfold Agb at h;split at h
 ·simp only[binOp,Op.shift,hn,if_false,UF];rfl
 ·simp only[binOp,Op.shift,hn,if_false,UF];rfl
 ·cases h
theorem Ui (hs:Sim C big g a w) (hsub:Sub fr big) (hc:Holds a ch) (o:Oper) (c:Call) (ho:o.op=.call c) (b:Bool) (hb:c.callee=.builtin (bif b then .max else .min)):AU C g a fr big ((execOp a.eval o).run C.P w) (Wy b fr ch c.args.toList):=by
 unfold Wy;split
 ·rename_i x y hxy;split
  ·rename_i k m k' n h1 h2;by_cases hk:k=k'
   ·subst hk;rw[if_pos rfl];have e1:a.eval x=.int k m:=As (hs.sub hsub) hc h1;have e2:a.eval y=.int k n:=As (hs.sub hsub) hc h2;refine AU.val hs fun _=>⟨_,?_,rfl⟩;have ha:c.args=#[x,y]:=by rw[← Aqw (xs:=c.args),hxy]
    cases b with
    | true=>simp[execOp,ho,resolve,hb,ha,e1,e2,invoke,builtin,Builtin.max_,Builtin.max2]
    | false=>simp[execOp,ho,resolve,hb,ha,e1,e2,invoke,builtin,Builtin.min_,Builtin.min2]
   ·rw[if_neg hk];trivial
  ·trivial
 ·trivial
theorem AfP (hE:AG C.P E) (hs:Sim C big g a w) (hsub:Sub fr big) (hc:Holds a ch) (o:Oper) (c:Call) (ho:o.op=.call c) (hb:c.callee=.builtin .len):AU C g a fr big ((execOp a.eval o).run C.P w) (AbB E fr ch c.args.toList c.argTypes.toList):=by
 unfold AbB;split
 ·rename_i x t hx ht;have ha:c.args=#[x]:=by rw[← Aqw (xs:=c.args),hx]
  have hat:c.argTypes=#[t]:=by rw[← Aqw (xs:=c.argTypes),ht]
  split
  ·rename_i s h1 h2;have e1:a.eval x=.string s:=As (hs.sub hsub) hc h2;have hu:C.P.underlying t=some .string:=(hE.ty _ _ h1).desc;refine AU.val hs fun _=>⟨goInt s.size,?_,rfl⟩;simp[execOp,ho,resolve,hb,ha,hat,e1,invoke,builtin,Builtin.len_,run_underlying hu]
  ·rename_i e sh bt h1 h2;have e1:a.eval x=.slice none 0 0:=As (hs.sub hsub) hc h2;have hu:C.P.underlying t=some (.slice e):=(hE.ty _ _ h1).desc.1;refine AU.val hs fun _=>⟨goInt 0,?_,rfl⟩;simp[execOp,ho,resolve,hb,ha,hat,e1,invoke,builtin,Builtin.len_,run_underlying hu]
  ·rename_i e sh bt v hv h1 h2;have r1:=As (hs.sub hsub) hc h2;have hu:C.P.underlying t=some (.slice e):=(hE.ty _ _ h1).desc.1;split
   ·rename_i i r lo n hri;obtain⟨_,q,A,n0,c0,A',n',c',_,_,_,_,_,hu',hn,_⟩:=CT hs hsub r1 hri;refine AU.val hs fun _=>⟨goInt n',?_,by rw[hn];rfl⟩
    simp[execOp,ho,resolve,hb,ha,hat,hu',invoke,builtin,Builtin.len_,run_underlying hu]
   ·trivial
  ·trivial
 ·trivial
theorem Cd (us:List Value):Ay true us=.agg us.toArray:=rfl
theorem AC.get {l:List Lf} {us:List Value} (h:AC C g l us) (off n:Nat) (hn:off+n≤l.length):((us.drop off).take n).length=n:=by
 have:=h.len;simp;omega
theorem Wk (hE:AG C.P E) (hs:Sim C big g a w) (hsub:Sub fr big) (hc:Holds a ch) (o:Oper) (t:TypeId) (x:Operand) (f:Nat) (ho:o.op=.field t x f):AU C g a fr big ((execOp a.eval o).run C.P w) (PI E fr ch t x f):=by
 unfold PI;split
 ·rename_i sh fs cs hl hx;obtain⟨_,fds,hu,hlen,hf⟩:=(hE.ty _ _ hl).desc;obtain⟨us,e,hr,_⟩:=Cq (hs.sub hsub) hc hx;split
  ·rename_i off n hfo;cases hle:Nat.ble (off+n) cs.length
   ·trivial
   ·have hle':off+n≤cs.length:=CB hle;obtain⟨fd,i,hfd,hoff,hi,hsz,hpos,hag⟩:=hf f off n hfo;have hul:=hr.len;refine AU.vals hs ⟨Ay (Nat.blt 1 n) ((us.drop off).take n),?_,_,rfl,(hr.drop off).take n,fun hb=>?_⟩
    ·simp only[execOp,ho,e,Cd,Instr.field,Aqu,run_underlying hu,Aqp,hfd,asAgg,AqO,part,Hl hag,hoff];cases hb:Nat.blt 1 n with
     | true =>
      simp only[if_true,Aqu,sizeOf,typeInfo];simp[hi,hsz,Ay,As0]
     | false =>
      have h1:n=1:=ZP hb hpos;subst h1;have hlt:off<us.length:=by omega
      have e2:(us.drop off).take 1=[us[off]]:=by rw[ArN hlt];rfl
      simp[Ay,e2,hlt]
    ·have h1:n=1:=ZP hb hpos;subst h1;simp;omega
  ·trivial
 ·trivial
theorem AfQ (hs:Sim C fr.f g a w) (hc:Holds a ch) {d:Int} {x:Option Operand} {n:Int} (h:bnd fr ch d x=some n):(x=none∧n=d)∨∃ y k,x=some y∧a.eval y=.int k n:=by
 unfold bnd at h;split at h
 ·cases h;exact .inl ⟨rfl,rfl⟩
 ·split at h
  ·rename_i k m hx;cases h;exact .inr ⟨_,k,rfl,As hs hc hx⟩
  ·cases h
theorem Po (hs:Sim C fr.f g a w) (hc:Holds a ch) (isS:Bool) {len cap:Nat} (hcap:len≤cap) {lo hi:Option Operand} {l h:Int} (hl:bnd fr ch 0 lo=some l) (hh:bnd fr ch len hi=some h) (h0:0≤l) (h1:l≤h) (h2:h≤len) (wd:World) :
  (Instr.sliceBounds isS len cap (lo.map a.eval) (hi.map a.eval) none).run C.P wd=.ok (l.toNat,h.toNat,cap) wd:=by
 have hb:∀ (y:Operand) (k:IntKind) (n:Int) (m:Nat) (code:BoundsCode),a.eval y=.int k n→0≤n→n≤m→(Instr.sliceBound (a.eval y) m code).run C.P wd=.ok n.toNat wd:=by
  intro y k n m code e hn hm;simp[Instr.sliceBound,e,asIntOf,hn,hm]
 rcases AfQ hs hc hl with ⟨rfl,rfl⟩ | ⟨y,k,rfl,e⟩<;>rcases AfQ hs hc hh with ⟨rfl,rfl⟩ | ⟨z,k',rfl,e'⟩
 ·simp[Instr.sliceBounds]
 ·have:=hb z k' h cap (if isS=true then .sliceAcap else .sliceAlen) e' (by omega) (by omega)
  simp[Instr.sliceBounds,this]
 ·have:=hb y k l len .sliceB e h0 (by omega)
  simp[Instr.sliceBounds,this]
 ·have:=hb z k' h cap (if isS=true then .sliceAcap else .sliceAlen) e' (by omega) (by omega)
  have t:=hb y k l h.toNat .sliceB e h0 (by omega)
  simp[Instr.sliceBounds,this,t]
theorem Wl (hE:AG C.P E) (hs:Sim C big g a w) (hsub:Sub fr big) (hc:Holds a ch) (o:Oper) (t:TypeId) (x:Operand) (lo hi:Option Operand) (ho:o.op=.slice t x lo hi none):AU C g a fr big ((execOp a.eval o).run C.P w) (PL E fr ch t x lo hi):=by
 unfold PL;split
 ·rename_i s hx;have e:a.eval x=.string s:=As (hs.sub hsub) hc hx;split
  ·rename_i l h ht hl hh;have hu:C.P.underlying t=some .string:=(hE.ty _ _ ht).desc;refine AU.val hs fun hreq=>⟨.string (s.extract l.toNat h.toNat),?_,rfl⟩;simp only[Aql,decide_eq_true_eq] at hreq;have hb:=Po (hs.sub hsub) hc false (len:=s.size) (cap:=s.size) (Aqr _) hl hh hreq.1.1 hreq.1.2 hreq.2 w;simp[execOp,ho,e,Instr.sliceAt,Instr.slice,run_underlying hu,hb]
  ·trivial
 ·rename_i v hv hx;have r1:=As (hs.sub hsub) hc hx;split
  ·rename_i i r b n hri;cases hfit:KA E t r
   ·trivial
   ·rw[cond_true];split
    ·rename_i l h hl hh;obtain⟨hat,q',A,n0,c,A',n',c',hq,hqv,hz,hn,hrd,hu,hlen,h0,hle,hc',hA0,hA⟩:=CT hs hsub r1 hri;obtain⟨bt,hb⟩:=Aj2 hfit;obtain⟨hund,hty,_⟩:=GR hE hb;refine AU.val hs fun hreq=>?_;simp only[Aql,decide_eq_true_eq] at hreq;subst hlen;have hbd:=Po (hs.sub hsub) hc true (len:=n') (cap:=c') hc' hl hh hreq.1.1 hreq.1.2 hreq.2 w;refine⟨.slice (if c'=l.toNat then A' else A'.map (·.add (l.toNat*r.s.n))) (h.toNat-l.toNat) (c'-l.toNat),?_,q',A,n0,c,_,_,_,hq,hqv,rfl,by omega,by omega,by omega,by omega,?_,?_⟩
     ·simp[execOp,ho,hu,Instr.sliceAt,Instr.slice,run_underlying hund,hbd,hty.sizeOf]
     ·intro hz0;have hl0:l=0:=by omega
      have hb0:b=0:=by omega
      obtain⟨e1,e2⟩:=hA0 hb0;subst hl0;subst e1;subst e2;refine⟨?_,by simp⟩
      split
      ·rfl
      ·cases A'<;>simp[Addr.add_zero']
     ·intro hpos;have hne:c'≠l.toNat:=by omega
      rw[if_neg hne,hA (by omega)]
      cases A with
      | none=>rfl
      | some ad =>
       simp only[AqU];rw[Addr.add_add,hz,← ArZ];congr 3;omega
    ·trivial
  ·trivial
 ·trivial
theorem Pq (hs:Sim C big g a w) (hsub:Sub fr big) (hc:Holds a ch) (o:Oper) (x:Operand) (ho:(execOp a.eval o)=pure (.value (a.eval x))):AU C g a fr big ((execOp a.eval o).run C.P w) (PG E fr ch o.type x):=by
 have hrun:(execOp a.eval o).run C.P w=.ok (.value (a.eval x)) w:=by rw[ho];rfl
 unfold PG;split
 ·rename_i hx;have e:a.eval x=.slice none 0 0:=(Hm (hs.sub hsub) hc hx:VR _ _ _ _ _).to1;split
  ·rename_i et s b hsl;intro _ _ hfree;have hi:g.ρ fr.rw.length=none:=hfree.ρ _ (Aqr _) (by simp)
   let q:B3:=⟨.slice none 0 0,fun _=>False,s.n⟩
   have hsim:=hs.newRow (i:=fr.rw.length) (r:=⟨et,s,[],.own⟩) (q:=q) hi (fun _=>rfl)
    ⟨q,none,0,0,Sg.row_at _ _ _,rfl,rfl,fun _ h=>h.elim,⟨[],World.ownsRow_nil w 0 et s.n,rfl,by simp,by simp[q,Value.ownBlock],fun _ _=>False,by simp,by simp,by simp⟩,fun _ h=>h.elim⟩
    (fun _ k hk=>hk.elim)
   refine⟨_,a.eval x,w,hrun,.inl rfl,_,⟨Sg.le_row hi q,fun _ _=>rfl,fun j hj=>Sg.row_ne _ _ (fun e=>hj (by simp[e]))⟩,by simpa only[grow,Ah,BE,BL,B2] using hsim,?_⟩
   intro av hav;cases hav;exact VR.of1 ⟨q,none,0,0,Sg.row_at _ _ _,rfl,e⟩
  ·exact AU.vals hs ⟨_,hrun,VR.of1 e⟩
 ·rename_i ag cs hx;exact AU.vals hs ⟨_,hrun,Hm (hs.sub hsub) hc hx⟩
 ·rename_i vs hx;intro _ _ _;have r:=Hm (hs.sub hsub) hc hx;exact⟨_,_,w,hrun,.inl rfl,Out.same hs fun av e=>by cases e;exact r⟩
 ·trivial
end Go.Proofs.YteheolldcpjkcaaGreat.X
namespace Go.Proofs.YteheolldcpjkcaaGreat.X
open Go Go.RowKit
variable [CW]
variable {P:Program}
theorem Nq {t:TypeId} {ag:Bool} {n:Nat} {i:TypeInfo} (hag:CJ P t=some ag) (hi:P.info? t=some i) (hn:i.size=n) (h1:ag=false→n=1) (us:List Value) (off:Nat) (hle:off+n≤us.length) (w:World) :
  (part t us.toArray off).run P w=.ok (Ay ag ((us.drop off).take n)) w:=by
 simp only[part,Aqu,Hl hag,Aqp];cases ag with
 | true =>
  simp only[if_true,Aqu,sizeOf,typeInfo];simp[hi,hn,Ay,As0]
 | false =>
  have h1:=h1 rfl;subst h1;have hlt:off<us.length:=by omega
  have e2:(us.drop off).take 1=[us[off]]:=by rw[ArN hlt];rfl
  simp[Ay,e2,hlt]
def eqV:Value→Value→Option Bool
 | .int k a,.int k' b=>if k=k' then some (a==b) else none
 | .bool a,.bool b=>some (a==b)
 | .string a,.string b=>some (a==b)
 | _,_=>none
def Di:List Value→List Value→Option Bool
 | [],[]=>some true
 | x :: r,y :: r'=>match eqV x y,Di r r' with
  | some s,some t=>some (s&&t)
  | _,_=>none
 | _,_=>none
theorem GS:∀ {a b:List Value} (c d:List Value),a.length=b.length→Di (a++c) (b++d)=match Di a b,Di c d with | some s,some t=>some (s&&t) | _,_=>none
 | [],[],c,d,_=>by cases h:Di c d<;>simp[Di,h]
 | x :: a,y :: b,c,d,h=>by
  have ih:=GS (a:=a) (b:=b) c d (by simpa using h)
  simp only[Asi,Di];rw[ih];cases eqV x y<;>cases Di a b<;>cases Di c d<;>simp[Atj]
theorem Aj5 {t:TypeId} (d:Nat) {x y:Value} {b:Bool} (h:eqV x y=some b) (hu:(∃ k,P.underlying t=some (.int k)∧∃ n,x=.int k n)∨(P.underlying t=some .bool∧∃ n,x=.bool n)∨(P.underlying t=some .string∧∃ n,x=.string n)) (w:World):(Op.equalIn (d+1) t x y).run P w=.ok b w:=by
 unfold eqV at h;split at h
 ·split at h
  ·rename_i e;subst e;cases h;rcases hu with ⟨k,hu,_⟩ | ⟨_,n,e⟩ | ⟨_,n,e⟩
   ·exact run_equalIn_int w d t _ _ _ _ hu
   ·cases e
   ·cases e
  ·cases h
 ·cases h;rcases hu with ⟨k,_,n,e⟩ | ⟨hu,_⟩ | ⟨_,n,e⟩
  ·cases e
  ·exact run_equalIn_bool w d t _ _ hu
  ·cases e
 ·cases h;rcases hu with ⟨k,_,n,e⟩ | ⟨_,n,e⟩ | ⟨hu,_⟩
  ·cases e
  ·cases e
  ·rw[beq_toListBytes];exact run_equalIn_string w d t _ _ hu
 ·cases h
def Bk:List Kd→List Value→Prop
 | [],us=>us=[]
 | k :: r,us=>∃ u t,us=u :: t∧k.of u∧Bk r t
theorem Bk.append:∀ {a b:List Kd} {us:List Value},Bk (a++b) us→∃ u v,us=u++v∧Bk a u∧Bk b v
 | [],_,us,h=>⟨[],us,rfl,rfl,h⟩
 | _ :: _,_,_,⟨u,t,e,hk,h⟩=>by
  obtain⟨x,y,rfl,h1,h2⟩:=Bk.append h;exact⟨u :: x,y,by simp[e],⟨u,x,rfl,hk,h1⟩,h2⟩
theorem Bk.len:∀ {a:List Kd} {us:List Value},Bk a us→us.length=a.length
 | [],_,h=>by cases h;rfl
 | _ :: _,_,⟨u,t,e,_,h⟩=>by subst e;simp[Bk.len h]
theorem Uj (m d:Nat) (f:TypeId→Option Nat) (kf:TypeId→List Kd)
  (ih:∀ t n,f t=some n→∀ ag,CJ P t=some ag→(ag=false→n=1)→(kf t).length=n∧∀ xs ys b (w:World),Bk (kf t) xs→Bk (kf t) ys→Di xs ys=some b→(Op.equalIn d t (Ay ag xs) (Ay ag ys)).run P w=.ok b w) :
  ∀ (fs:List Field) (off n:Nat),Aba f P fs off=some n→∀ (px py xs ys:List Value) (b:Bool) (w:World),px.length=off→py.length=off→Bk (JX kf fs) xs→Bk (JX kf fs) ys→Di xs ys=some b →
   off+(JX kf fs).length=n∧(Op.eqFields d (px++xs).toArray (py++ys).toArray fs).run P w=.ok b w
 | [],off,n,h,px,py,xs,ys,b,w,hx,hy,kx,ky,hb=>by
  cases h;cases kx;cases ky;cases hb;exact⟨by simp[JX],rfl⟩
 | fd :: r,off,n,h,px,py,xs,ys,b,w,hx,hy,kx,ky,hb=>by
  unfold Aba at h;split at h
  ·rename_i hc;split at h
   ·rename_i n1 i ag h1 h2 h3;split at h
    ·rename_i hsz;obtain⟨u1,v1,rfl,ku1,kv1⟩:=Bk.append kx;obtain⟨u2,v2,rfl,ku2,kv2⟩:=Bk.append ky;obtain⟨hlen,hrun⟩:=ih _ _ h1 ag h3 hsz.2;have l1:=ku1.len;have l2:=ku2.len;rw[GS _ _ (l1.trans l2.symm)] at hb;split at hb
     ·rename_i s t hs ht;cases hb;obtain⟨hl,hrec⟩:=Uj m d f kf ih r (off+n1) n h (px++u1) (py++u2) v1 v2 t w (by simp;omega) (by simp;omega) kv1 kv2 ht
      refine⟨by simp only[JX,Aqs];omega,?_⟩
      have p1:=Nq h3 h2 hsz.1 hsz.2 (px++(u1++v1)) fd.offset (by simp;omega) w
      have p2:=Nq h3 h2 hsz.1 hsz.2 (py++(u2++v2)) fd.offset (by simp;omega) w
      have e1:((px++(u1++v1)).drop fd.offset).take n1=u1:=by
       rw[hc.2,← hx,Atk,← hlen,← l1,AsB]
      have e2:((py++(u2++v2)).drop fd.offset).take n1=u2:=by
       rw[hc.2,← hy,Atk,← hlen,← l2,AsB]
      rw[e1] at p1;rw[e2] at p2;have p3:=hrun u1 u2 s w ku1 ku2 hs;simp only[Op.eqFields,hc.1,ne_eq,not_false_eq_true,if_true,Aqu,p1,p2,p3,Aqp,Sem.run_ite,AqO];cases s with
      | true=>simpa[Aqv] using hrec
      | false=>simp
     ·cases hb
    ·cases h
   ·cases h
  ·cases h
theorem LC:∀ (m:Nat) (t:TypeId) (n:Nat),eqT P m t=some n→∀ ag,CJ P t=some ag→(ag=false→n=1)→(kds P m t).length=n ∧
  ∀ (d:Nat) (xs ys:List Value) (b:Bool) (w:World),Bk (kds P m t) xs→Bk (kds P m t) ys→Di xs ys=some b→(Op.equalIn (d+m) t (Ay ag xs) (Ay ag ys)).run P w=.ok b w
 | m+1,t,n,h,ag,hag,h1=>by
  have one:∀ (x y:Value) (b:Bool),Di [x] [y]=some b→eqV x y=some b:=by
   intro x y b h;simp only[Di] at h;cases he:eqV x y with
   | none=>rw[he] at h;cases h
   | some s=>rw[he] at h;simpa using h
  unfold eqT at h;unfold CJ at hag;cases hu:P.underlying t with
  | none=>rw[hu] at h;cases h
  | some desc =>
   rw[hu] at h hag;have hsc:∀ (kd:Kd),kds P (m+1) t=[kd]→ag=false→n=1→(∀ x,kd.of x→(∃ k,P.underlying t=some (.int k)∧∃ n,x=.int k n)∨(P.underlying t=some .bool∧∃ n,x=.bool n)∨(P.underlying t=some .string∧∃ n,x=.string n)) →
     (kds P (m+1) t).length=n∧∀ (d:Nat) (xs ys:List Value) (b:Bool) (w:World),Bk (kds P (m+1) t) xs→Bk (kds P (m+1) t) ys→Di xs ys=some b→(Op.equalIn (d+(m+1)) t (Ay ag xs) (Ay ag ys)).run P w=.ok b w:=by
    intro kd hk ha hn hof;subst ha;subst hn;rw[hk];refine⟨rfl,?_⟩
    rintro d xs ys b w ⟨x,tx,rfl,kx,hx⟩ ⟨y,ty,rfl,ky,hy⟩ hb
    cases hx;cases hy;exact Aj5 (d+m) (one _ _ _ hb) (hof x kx) w
   cases desc with
   | int k=>cases h;cases hag;exact hsc (.int k) (by simp[kds,hu]) rfl rfl fun x hx=>.inl ⟨k,hu,hx⟩
   | bool=>cases h;cases hag;exact hsc .bool (by simp[kds,hu]) rfl rfl fun x hx=>.inr (.inl ⟨hu,hx⟩)
   | string=>cases h;cases hag;exact hsc .str (by simp[kds,hu]) rfl rfl fun x hx=>.inr (.inr ⟨hu,hx⟩)
   | struct fs =>
    cases hag;simp only at h;split at h
    ·rename_i hc;have hf:P.underlying t=some (.struct (P.fieldsOf t)):=by simp[Program.fieldsOf,hu]
     have hfo:P.fieldsOf t=fs:=by simp[Program.fieldsOf,hu]
     have hk:kds P (m+1) t=JX (kds P m) fs.toList:=by simp[kds,hu]
     rw[hk];have key:∀ (d:Nat) (xs ys:List Value) (b:Bool) (w:World),Bk (JX (kds P m) fs.toList) xs→Bk (JX (kds P m) fs.toList) ys→Di xs ys=some b→0+(JX (kds P m) fs.toList).length=n∧(Op.eqFields (d+m) ([]++xs).toArray ([]++ys).toArray fs.toList).run P w=.ok b w:=by
      intro d xs ys b w kx ky hb;refine Uj m (d+m) (eqT P m) (kds P m) (fun t' n' h' ag' ha' h1'=>?_) fs.toList 0 n h [] [] xs ys b w rfl rfl kx ky hb;obtain⟨hl,hr⟩:=LC m t' n' h' ag' ha' h1';exact⟨hl,fun xs ys b w=>hr d xs ys b w⟩
     refine⟨?_,fun d xs ys b w kx ky hb=>?_⟩
     ·obtain⟨xs,hx,hxx⟩:=ofKds_some (JX (kds P m) fs.toList);have:=(key 0 xs xs true default hx hx hxx).1;omega
     ·have:=(key d xs ys b w kx ky hb).2;rw[Cd,Cd,← Atl,run_equalIn_agg w (d+m) t _ _ hf hc.1,hfo];simpa using this
    ·cases h
   | _=>cases h
 where
 ofKds_some:(l:List Kd)→∃ xs,Bk l xs∧Di xs xs=some true
  | []=>⟨[],rfl,rfl⟩
  | k :: r=>by
   obtain⟨xs,h1,h2⟩:=ofKds_some r;cases k with
   | int k=>exact⟨.int k 0 :: xs,⟨_,_,rfl,⟨0,rfl⟩,h1⟩,by simp[Di,eqV,h2]⟩
   | bool=>exact⟨.bool true :: xs,⟨_,_,rfl,⟨true,rfl⟩,h1⟩,by simp[Di,eqV,h2]⟩
   | str=>exact⟨.string ByteArray.empty :: xs,⟨_,_,rfl,⟨_,rfl⟩,h1⟩,by simp[Di,eqV,h2,beq_toListBytes]⟩

variable {C:Cx} {fr:Fr} {big:FF} {g:Sg} {a:Act} {w:World} {ch:List (Nat×Bool)} {E:Env}
theorem Aj6 {s:Sh} {x y:Lf} {u v:Value} (hx:LfR C g x u) (hy:LfR C g y v) {t:Bool} {k:Kd} (hk:Apd s=some k) (h:Abw s x y=some t):eqV u v=some t∧k.of u∧k.of v:=by
 unfold Abw at h;split at h
 ·split at h
  ·rename_i k0 k1 m k2 n e;obtain⟨rfl,rfl⟩:=e;cases h;cases hk;cases hx;cases hy;exact⟨by simp[eqV],⟨_,rfl⟩,⟨_,rfl⟩⟩
  ·cases h
 ·cases h;cases hk;cases hx;cases hy;exact⟨rfl,⟨_,rfl⟩,⟨_,rfl⟩⟩
 ·cases h;cases hk;cases hx;cases hy;exact⟨rfl,⟨_,rfl⟩,⟨_,rfl⟩⟩
 ·cases h
theorem Rt {s:Sh} {q:List Sh} {x y:Lf} {r r':List Lf} {t:Bool} (h:CP (s :: q) (x :: r) (y :: r')=some t):∃ t1 t2,Abw s x y=some t1∧CP q r r'=some t2∧t=(t1&&t2):=by
 unfold CP at h;split at h
 ·rename_i e1 e2 e3;cases e1
 ·rename_i e1 e2 e3;cases e1;cases e2;cases e3;exact⟨t,true,h,rfl,by simp⟩
 ·rename_i e1 e2 e3;cases e1;cases e2;cases e3;split at h
  ·rename_i h1 h2;cases h;exact⟨_,_,h1,h2,rfl⟩
  ·cases h
 ·cases h
theorem Nr:∀ {q:List Sh} {ks:List Kd} {xs ys:List Lf} {us vs:List Value} {t:Bool},E0 q=some ks→AC C g xs us→AC C g ys vs→CP q xs ys=some t→Di us vs=some t∧Bk ks us∧Bk ks vs
 | [],ks,[],[],us,vs,t,hk,hx,hy,h=>by
  cases hk;cases hx;cases hy;simp[CP] at h;subst h;exact⟨rfl,rfl,rfl⟩
 | [],ks,_ :: _,ys,us,vs,t,hk,hx,hy,h=>by simp[CP] at h
 | [],ks,[],_ :: _,us,vs,t,hk,hx,hy,h=>by simp[CP] at h
 | s :: q,ks,[],ys,us,vs,t,hk,hx,hy,h=>by simp[CP] at h
 | s :: q,ks,_ :: _,[],us,vs,t,hk,hx,hy,h=>by simp[CP] at h
 | s :: q,ks,x :: xs,y :: ys,us,vs,t,hk,⟨u,us',e1,hu,hx⟩,⟨v,vs',e2,hv,hy⟩,h=>by
  subst e1;subst e2;obtain⟨t1,t2,h1,h2,rfl⟩:=Rt h;unfold E0 at hk;split at hk
  ·rename_i k ks' hk1 hk2;cases hk;obtain⟨a1,a2,a3⟩:=Aj6 hu hv hk1 h1;obtain⟨b1,b2,b3⟩:=Nr hk2 hx hy h2;exact⟨by simp[Di,a1,b1],⟨u,us',rfl,a2,b2⟩,⟨v,vs',rfl,a3,b3⟩⟩
  ·cases hk
theorem AfR (hE:AG C.P E) (hs:Sim C big g a w) (hsub:Sub fr big) (hc:Holds a ch) (o:Oper) (op:BinOp) (t:TypeId) (x y:Operand) (p:TypeId) (ho:o.op=.binOp op t x y p):AU C g a fr big ((execOp a.eval o).run C.P w) (Aby E fr ch op t x y):=by
 unfold Aby;split
 ·rename_i v u h1 h2;split
  ·rename_i req l hb;obtain⟨ag1,l1⟩:=v;obtain⟨ag2,l2⟩:=u;have r1:=Cq (hs.sub hsub) hc h1;have r2:=Cq (hs.sub hsub) hc h2;refine AU.val hs fun hreq=>?_;unfold bin at hb;split at hb
   ·rename_i k m k' n e1 e2;cases e1;cases e2;cases hsh:Agb op
    case true =>
     rw[hsh,cond_true] at hb;cases hb;have e1:a.eval x=.int k m:=r1.to1;have e2:a.eval y=.int k' n:=r2.to1;refine⟨_,?_,rfl⟩;simp only[execOp,ho,e1,e2,Aqu,eqGuard_at_int,AqO,Aqp,Aj4 (C:=C) (k:=k) (k':=k') (m:=m) hsh hreq t w]
    rw[hsh,cond_false] at hb;split at hb
    ·rename_i e;subst e;have e1:a.eval x=.int k m:=r1.to1;have e2:a.eval y=.int k n:=r2.to1;obtain⟨u,hr,hl⟩:=AfO (C:=C) (g:=g) hb hreq t w;refine⟨u,?_,hl⟩;simp only[execOp,ho,e1,e2,Aqu,eqGuard_at_int,AqO,Aqp,hr]
    ·cases hb
   ·rename_i m n e1 e2;cases e1;cases e2;have e1:a.eval x=.bool m:=r1.to1;have e2:a.eval y=.bool n:=r2.to1;split at hb
    ·rename_i ht;cases hb;have hu:C.P.underlying t=some .bool:=(hE.ty _ _ ht).desc;refine⟨.bool (m==n),?_,rfl⟩;simp only[execOp,ho,e1,e2,Aqu,eqGuard_at_bool,AqO,Aqp,binOp,Op.equal,Op.maxDepth,run_equalIn_bool w 9999 t m n hu]
    ·rename_i ht;cases hb;have hu:C.P.underlying t=some .bool:=(hE.ty _ _ ht).desc;refine⟨.bool (m != n),?_,rfl⟩;simp only[execOp,ho,e1,e2,Aqu,eqGuard_at_bool,AqO,Aqp,binOp,Op.equal,Op.maxDepth,run_equalIn_bool w 9999 t m n hu];rfl
    ·cases hb
   ·rename_i m n e1 e2;cases e1;cases e2;have e1:a.eval x=.string m:=r1.to1;have e2:a.eval y=.string n:=r2.to1;split at hb
    ·cases hb;refine⟨.bool (m==n),?_,rfl⟩;simp only[execOp,ho,e1,e2,Aqu,eqGuard_at_string,AqO,Aqp,binOp,Op.stringOp,beq_toListBytes]
    ·cases hb;refine⟨.bool (m != n),?_,rfl⟩;simp only[execOp,ho,e1,e2,Aqu,eqGuard_at_string,AqO,Aqp,binOp,Op.stringOp,bne,beq_toListBytes]
    ·cases hb;have hle:m.size+n.size≤9223372036854775807:=CB hreq;refine⟨.string (m++n),?_,rfl⟩;simp only[execOp,ho,e1,e2,Aqu,eqGuard_at_string,AqO,Aqp,binOp,run_string_add_sum (P:=C.P) w m n hle]
    ·cases hb
   ·rename_i e1 e2;cases e1;cases e2;obtain⟨us,e1,q1,_⟩:=r1;obtain⟨vs,e2,q2,_⟩:=r2;split at hb
    ·rename_i ks hks;obtain⟨m,n,hT,hm,hk,hag,hgd⟩:=hE.eq t ks hks;have fin:∀ b,CP ks l1 l2=some b→(Op.equalIn 10000 t (.agg us.toArray) (.agg vs.toArray)).run C.P w=.ok b w:=by
      intro b hb;obtain⟨a1,a2,a3⟩:=Nr hk q1 q2 hb;have:=(LC m t n hT true hag (by simp)).2 (10000-m) us vs b w a2 a3 a1
      rwa [Nat.sub_add_cancel hm] at this
     split at hb
     ·rename_i b hq;cases hb;refine⟨.bool b,?_,rfl⟩;simp only[execOp,ho,e1,e2,Cd,Aqu,run_eqGuard_agg w _ t x y _ _ hgd,Aqp,run_eql_struct,fin b hq,AqO]
     ·rename_i b hq;cases hb;refine⟨.bool (!b),?_,rfl⟩;simp only[execOp,ho,e1,e2,Cd,Aqu,run_eqGuard_agg w _ t x y _ _ hgd,Aqp,run_neq_struct,fin b hq,AqO]
     ·cases hb
    ·cases hb
   ·cases hb
  ·trivial
 ·trivial
end Go.Proofs.YteheolldcpjkcaaGreat.X
