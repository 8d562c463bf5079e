/- A stretch of a row's elements is exchanged. -/
import Derived.Test.YteheolldcpjkcaaGreatQvXSt
import Derived.Laws.IdiomCopy
set_option linter.unusedSimpArgs false
set_option linter.unusedVariables false
set_option linter.unusedSectionVars false
namespace Go.Proofs.YteheolldcpjkcaaGreat.X
open Go Go.RowKit
variable [CW]
variable {C:Cx} {fr:Fr} {big:FF} {g:Sg} {a:Act} {w:World} {ch:List (Nat×Bool)} {E:Env}
theorem KF {sz:Nat} {css dss:List (List Value)} {lo:Nat} (hc:∀ c∈css,c.length=sz) (hd:∀ c∈dss,c.length=sz) (hle:lo+dss.length≤css.length) :
  (css.take lo++dss++css.drop (lo+dss.length)).flatten=setAt css.flatten (lo*sz) dss.flatten:=by
 have tk:∀ (css:List (List Value)) (n:Nat),(∀ c∈css,c.length=sz)→n≤css.length→(css.take n).flatten=css.flatten.take (n*sz)∧(css.drop n).flatten=css.flatten.drop (n*sz):=by
  intro css
  induction css with
  | nil=>intro n _ hn;simp at hn;subst hn;simp
  | cons c r ih =>
   intro n h hn;cases n with
   | zero=>simp
   | succ n =>
    obtain⟨h1,h2⟩:=ih n (fun d hd=>h d (by simp[hd])) (by simpa using hn)
    have hcl:=h c (by simp)
    rw[Asm,AqI,AqI,List.drop_succ_cons,h1,h2,Ard];constructor
    ·rw[ArM,AqX (l:=c) (by omega),hcl,Ass]
    ·rw[Arv,AqZ (as:=c) (by omega),hcl,Ass,AqM]
 rw[AsP,AsP,(tk css lo hc (by omega)).1,(tk css (lo+dss.length) hc hle).2]
 unfold setAt;rw[Ci hd,ArZ]
theorem M0 (hC:A9 C) (hs:Sim C big g a w) {i:Nat} {r:Ac} (hr:big.rw i=some r) (hm:r.m.mine=true) {q:B3} {A:Addr} {n c:Nat} (hq:g.ρ i=some q) (hv:q.v=.slice (some A) n c) {ys:List r.s.T} {dss:List (List Value)} (hl:dss.length=ys.length)
  (hd1:∀ d∈dss,d.length=r.s.n∧∀ u∈d,u.oneCell'=true) (hOy:∀ (j:Nat) y d,ys[j]? = some y→dss[j]? = some d→∀ w',OC r.s w' (fun _=>False) y d) {lo:Nat} (hle:lo+ys.length≤r.xs.length) (hn0:0<r.xs.length) :
  ∃ w',(storeCells (A.add (lo*r.s.n)) dss.flatten).run C.P w=.ok () w'∧∀ rw':Nat→Option Ac,(∀ j r0,rw' j=some r0→(j=i∧r0={ r with xs:=r.xs.take lo++ys++r.xs.drop (lo+ys.length) })∨(j≠i∧big.rw j=some r0∧∀ p pa,r0.m=.bor p pa→p≠i))→(∀ j r0,big.rw j=some r0→r0.m.mine=true→j≠i→rw' j=some r0)→Sim C { big with rw:=rw' } g a w':=by
 have hO:=((hs.rows i r hr).mine hm hq).1;obtain⟨css,how,hlen,hcell,hblk,G,hG,hd,hMm⟩:=hO;have hxl:r.xs.length=n:=by
  obtain⟨A',c',e',_⟩:=BO how;rw[hv] at e';injection e' with _ e' _
  exact e'.symm
 rcases how.2 with ⟨e1,e2⟩ | ⟨gb,cap,cur,e1,hb0,hh,hnc,hcm,hcs,htake⟩
 ·omega
 ·rw[hv] at e1;injection e1 with e1 e3 e4;injection e1 with e1;subst e1;subst e4;have hcsl:css.flatten.length=r.xs.length*r.s.n:=by rw[Ci (fun d hd=>(hcell d hd).1),hlen]
  have hdl:dss.flatten.length=ys.length*r.s.n:=by rw[Ci (fun d hd=>(hd1 d hd).1),hl]
  have hjn:(lo+ys.length)*r.s.n≤r.xs.length*r.s.n:=Aq0 _ hle;have hcn:r.xs.length*r.s.n≤c*r.s.n:=Aq0 _ (by omega)
  rw[ArZ] at hjn;have hone:∀ u∈dss.flatten,u.oneCell'=true:=fun u hu=>by
   obtain⟨d,hd,hu⟩:=List.mem_flatten.1 hu;exact (hd1 d hd).2 u hu
  have hrun:=run_storeCells_at C.P gb (lo*r.s.n) r.e dss.flatten 0 cur w hh (by omega) hone
  have hM:=AE.setRow w gb (setAt cur.toList (lo*r.s.n) dss.flatten).toArray;have hgbF:q.F gb:=hblk gb (by rw[hv];rfl)
  have hset:=KF (lo:=lo) (fun d hd=>(hcell d hd).1) (fun d hd=>(hd1 d hd).1) (show lo+dss.length≤css.length by omega)
  have hnl:(r.xs.take lo++ys++r.xs.drop (lo+ys.length)).length=r.xs.length:=by simp;omega
  have hcl2:(css.take lo++dss++css.drop (lo+dss.length)).length=r.xs.length:=by simp;omega
  refine⟨_,by rw[C1];exact hrun,fun rw' hrw1 hrw2=>?_⟩
  have hcells:∀ d∈css.take lo++dss++css.drop (lo+dss.length),d.length=r.s.n∧∀ u∈d,u.oneCell'=true:=by
   intro d hd';rcases Aqy.1 hd' with hd' | hd'
   ·rcases Aqy.1 hd' with hd' | hd'
    ·exact hcell d (ArI hd')
    ·exact hd1 d hd'
   ·exact hcell d (ArT hd')
  have hnew:Bq r.e r.s (w.setRow gb (setAt cur.toList (lo*r.s.n) dss.flatten).toArray) q.F q.v (r.xs.take lo++ys++r.xs.drop (lo+ys.length)):=by
   refine⟨css.take lo++dss++css.drop (lo+dss.length),⟨?_,.inr ⟨gb,c,(setAt cur.toList (lo*r.s.n) dss.flatten).toArray,?_,Ari _,setRow_heap w gb cur _ r.e (0,0) hh,?_,hcm,?_,?_⟩⟩,by rw[hcl2,hnl],hcells,hblk,G,hG,hd,?_⟩
   ·rw[Ci (fun d hd=>(hcells d hd).1),hcl2,hnl]
   ·rw[hv,hnl,hxl]
   ·rw[hnl];omega
   ·have:(setAt cur.toList (lo*r.s.n) dss.flatten).length=cur.toList.length:=Ho (by have e1:cur.toList.length=cur.size:=ArK;omega)
    simpa[hcs] using this
   ·rw[hnl,hset];show (setAt cur.toList (lo*r.s.n) dss.flatten).take _=_;rw[← htake];exact GX.take_setAt _ _ _ _ (by omega) (by simp;omega)
   ·intro j' x' d hx' hd';have hkeep:∀ k,G j' k→(w.setRow gb (setAt cur.toList (lo*r.s.n) dss.flatten).toArray).heap[k]? = w.heap[k]?:=fun k hk=>by
     refine setRow_other w gb k _ fun e=>?_;subst e;exact (hG j' k hk).2 (by rw[hv];rfl)
    have l1:(r.xs.take lo).length=lo:=by simp;omega
    have l2:(css.take lo).length=lo:=by simp;omega
    by_cases c1:j'<lo
    ·rw[Aqv,AqS (by omega),AqW,if_pos c1] at hx' hd'
     exact OC.same r.s hkeep (hMm j' x' d hx' hd')
    ·by_cases c2:j'<lo+ys.length
     ·rw[AqS (by rw[Aqs];omega),AqB (by omega)] at hx' hd'
      rw[l1] at hx';rw[l2] at hd';exact OC.mono r.s (fun _ h=>h.elim) (hOy _ x' d hx' hd' _)
     ·rw[AqB (by rw[Aqs];omega),Aq5,Aqs,l1] at hx'
      rw[AqB (by rw[Aqs];omega),Aq5,Aqs,l2,hl] at hd'
      have e1:lo+ys.length+(j'-(lo+ys.length))=j':=by omega
      rw[e1] at hx' hd';exact OC.same r.s hkeep (hMm j' x' d hx' hd')
  have hM':w.setRow gb (List.take (lo*r.s.n+0) cur.toList++dss.flatten++List.drop (lo*r.s.n+0+dss.flatten.length) cur.toList).toArray=w.setRow gb (setAt cur.toList (lo*r.s.n) dss.flatten).toArray:=by
   unfold setAt;rw[Aro]
  rw[hM'];refine hs.setRow hC hr hm hq (r':={ r with xs:=r.xs.take lo++ys++r.xs.drop (lo+ys.length) }) rfl rfl hM (fun k hk=>hk▸hgbF) hnew hrw1 hrw2
theorem O4 {rw:List (Option Ac)} {i:Nat} {r r':Ac} (hr:at? rw i=some r):(∀ j r0,at? (Ae i (AL rw i (some r'))) j=some r0→(j=i∧r0=r')∨(j≠i∧at? rw j=some r0∧∀ p pa,r0.m=.bor p pa→p≠i))∧(∀ j r0,at? rw j=some r0→r0.m.mine=true→j≠i→at? (Ae i (AL rw i (some r'))) j=some r0):=by
 refine⟨fun j' r0 hj'=>?_,fun j' r0 hj' hm0 hne=>?_⟩
 ·rw[Aq,AK] at hj';obtain⟨h1,h2⟩:=hj';split at h1
  ·rename_i hij;cases h1;exact .inl ⟨hij.1.symm,rfl⟩
  ·rename_i hij;exact .inr ⟨fun e=>hij ⟨e.symm,A4 hr⟩,h1,h2⟩
 ·rw[Aq,AK,if_neg (fun h=>hne h.1.symm)];exact⟨hj',fun p pa e=>by rw[e] at hm0;cases hm0⟩
theorem Hh {rw:Nat→Option Ac} {i e:Nat} {s:Sh} {xs:List s.T} {r:Ac} (hr:rw i=some r):(∀ j r0,Nh i e s xs j (rw j)=some r0→(j=i∧r0=⟨e,s,xs,r.m⟩)∨(j≠i∧rw j=some r0∧∀ p pa,r0.m=.bor p pa→p≠i))∧(∀ j r0,rw j=some r0→r0.m.mine=true→j≠i→Nh i e s xs j (rw j)=some r0):=by
 refine⟨fun j' r0 hj'=>?_,fun j' r0 hj' hm0 hne=>?_⟩
 ·unfold Nh at hj';split at hj'
  ·rename_i hij;subst hij;rw[hr] at hj';cases hj';exact .inl ⟨rfl,rfl⟩
  ·rename_i hij;obtain⟨h1,_,h2⟩:=Bm.1 hj';exact .inr ⟨hij,h1,h2⟩
 ·unfold Nh;rw[if_neg hne];exact Bm.2 ⟨hj',hne,fun p pa e=>by rw[e] at hm0;cases hm0⟩
theorem Rg (zs:List Value) (n:Nat) (hz:0<zs.length):(Builtin.zeroCells zs.toArray n).toList=(List.replicate n zs).flatten:=by
 rw[← C7 zs n hz]
 apply Arj
 intro k;by_cases hk:k<n*zs.length
 ·have hm:k % zs.length<zs.length:=Atd _ hz;simp[Builtin.zeroCells,madeCells,hk,hm]
 ·simp[Builtin.zeroCells,madeCells,hk]
theorem Alw {t:Nat} {r:Ac} (hE:AG C.P E) (h:KA E t r=true):C.P.underlying t=some (.slice r.e)∧Fu C.P r.e r.s:=by
 unfold KA slT at h;split at h
 ·rename_i e s b hl;split at hl
  ·rename_i e' s' b' hl';cases hl;simp only[Aql,decide_eq_true_eq] at h;obtain⟨h1,h2,_⟩:=(hE.ty _ _ hl').desc;have e1:=Aqm h.1;rw[e1] at h1 h2;rw[h.2] at h2;exact⟨h1,h2⟩
  ·cases hl
 ·cases h
theorem V3 (hE:AG C.P E) (hC:A9 C) (hs:Sim C big g a w) (hsub:Sub fr big) (hc:Holds a ch) (o:Oper) (c:Call) (ho:o.op=.call c) (hb:c.callee=.builtin .clear):AU C g a fr big ((execOp a.eval o).run C.P w) (PP E fr ch c.args.toList c.argTypes.toList):=by
 unfold PP;split
 ·rename_i x t hx ht;have ha:c.args=#[x]:=by rw[← Aqw (xs:=c.args),hx]
  have hat:c.argTypes=#[t]:=by rw[← Aqw (xs:=c.argTypes),ht]
  split
  ·rename_i v hop;split
   ·rename_i i r lo len hri;cases hcond:(r.m.mine&&r.s.flat&&KA E t r)
    ·trivial
    ·rw[cond_true];simp only[Aql] at hcond;obtain⟨⟨hm,hf⟩,hfit⟩:=hcond;intro _ hfull _;have hfb:=hfull rfl;subst hfb;obtain⟨hu,hT⟩:=Alw hE hfit;have hl:=As (hs.sub hsub) hc hop;obtain⟨hat',q,A,n,c0,A',n',c',hq,hv,hz,hn,_,hue,hlen,h0,hle,hc',hA0,hA⟩:=CT hs hsub hl hri;obtain⟨_,z,_,_,_,cs,hzs,_⟩:=hT.info;have run:∀ {w'},(Builtin.clear_ #[t] o.type #[a.eval x]).run C.P w=.ok (.tuple #[]) w'→(execOp a.eval o).run C.P w=.ok (.value (.tuple #[])) w':=fun h=>by
      simp[execOp,ho,resolve,hb,ha,hat,invoke,builtin,h]
     have hlt:(lo+len).toNat-lo.toNat=n':=by omega
     have hcl:clr r.xs lo.toNat (lo+len).toNat r.s.dfl=r.xs.take lo.toNat++List.replicate n' r.s.dfl++r.xs.drop (lo.toNat+(List.replicate n' r.s.dfl).length):=by
      unfold clr;rw[hlt,Ars];have:(lo+len).toNat=lo.toNat+n':=by omega
      rw[this]
     rcases Are n' with e0 | hpos
     ·subst e0;have hcl0:clr r.xs lo.toNat (lo+len).toNat r.s.dfl=r.xs:=by rw[hcl];simp
      refine⟨_,.tuple #[],w,run ?_,.inl rfl,g,⟨Sg.Le.refl g,fun _ _=>rfl,fun _ _=>rfl⟩,?_,fun _ e=>by cases e⟩
      ·rw[hue];cases A'<;>simp[Builtin.clear_,run_underlying hu]
      ·simp only[grow,Ah,BL,B2,hcl0];have hrr:at? fr.rw i=some r:=hat';refine hs.setRow hC (r:=r) (r':={ r with xs:=r.xs }) hrr hm hq rfl rfl (AE.refl _ w) (fun k (hk:False)=>hk.elim) ((hs.rows i r hrr).mine hm hq).1 (fun j' r0 hj'=>?_) (fun j' r0 hj' hm0 hne=>?_)
       ·rw[Aq,AK] at hj';obtain⟨h1,h2⟩:=hj';split at h1
        ·rename_i hij;cases h1;exact .inl ⟨hij.1.symm,rfl⟩
        ·rename_i hij;exact .inr ⟨fun e=>hij ⟨e.symm,A4 hrr⟩,h1,h2⟩
       ·rw[Aq,AK,if_neg (fun h=>hne h.1.symm)];exact⟨hj',fun p pa e=>by rw[e] at hm0;cases hm0⟩
     ·have hA':=hA hpos;cases A with
      | none =>
       exfalso;have hO:=((hs.rows i r hat').mine hm hq).1;obtain⟨css,how,hlen',_⟩:=hO;rcases how.2 with ⟨e1,e2⟩ | ⟨gb,cap,cur,e1,_⟩
       ·omega
       ·rw[hv] at e1;cases e1
      | some A =>
       obtain⟨w',hst,hsim⟩:=M0 hC hs hat' hm hq hv (ys:=List.replicate n' r.s.dfl) (dss:=List.replicate n' cs) (by simp) (fun d hd=>by
        rw[Asp hd];exact⟨BT r.s hzs,Dg r.s hzs⟩) (fun j y d hy hd w'=>by
        rw[Ark] at hy hd;split at hy
        ·rename_i hj;rw[if_pos hj] at hd;cases hy;cases hd;exact J0 r.s hzs w' _
        ·cases hy) (lo:=lo.toNat) (by rw[Ars];omega) (by omega)
       refine⟨_,.tuple #[],w',run ?_,.inl rfl,g,⟨Sg.Le.refl g,fun _ _=>rfl,fun _ _=>rfl⟩,?_,fun _ e=>by cases e⟩
       ·rw[hue,hA',AqU,hz];obtain⟨m,rfl⟩:∃ m,n'=m+1:=⟨n'-1,by omega⟩
        have hzc:(Ay r.s.agg cs).cells=cs.toArray:=by rw[← Aqw (xs:=(Ay r.s.agg cs).cells),Ep hzs]
        have hzl:0<cs.length:=by rw[BT r.s hzs];exact r.s.n_pos
        have h1:=Rg cs (m+1) hzl;simp only[Builtin.clear_,Aqu,run_underlying hu,Aqp,hT.zero hzs,hzc,h1,hst,AqO,AsC,Aq6]
       ·simp only[grow,Ah,BL,B2,hcl];exact hsim _ (O4 hat').1 (O4 hat').2
   ·trivial
  ·trivial
 ·trivial
theorem RC.cellsF {P:Program}:(s:Sh)→s.flat=true→∀ {w F x cs},RC P s w F x cs→cs=X.cellsF s x
 | .int _,_,_,_,_,_,h | .bool,_,_,_,_,_,h | .str,_,_,_,_,_,h=>h
 | .cons a b,hf,_,_,_,_,h=>by
  simp only[Sh.flat,Aql] at hf;obtain⟨c1,c2,rfl,h1,h2⟩:=h;rw[RC.cellsF a hf.1 h1,RC.cellsF b hf.2 h2];rfl
theorem RC.ofCellsF {P:Program}:(s:Sh)→s.flat=true→∀ {w F} (x:s.T),RC P s w F x (X.cellsF s x)
 | .int _,_,_,_,_ | .bool,_,_,_,_ | .str,_,_,_,_=>rfl
 | .cons a b,hf,_,_,x=>by
  simp only[Sh.flat,Aql] at hf;exact⟨_,_,rfl,RC.ofCellsF a hf.1 x.1,RC.ofCellsF b hf.2 x.2⟩
theorem Aa0 {n l:Nat}:(bif decide ((n:Int)≤(l:Int)) then (n:Int) else (l:Int))=((Nat.min l n:Nat):Int):=by
 rw[show Nat.min l n=min l n from rfl,Nat.min_def]
 by_cases h:n≤l
 ·rw[decide_eq_true (by omega),cond_true]
  split<;>omega
 ·rw[decide_eq_false (by omega),cond_false]
  split<;>omega
theorem Ks:∀ {css:List (List Value)},(∀ d∈css,d.length=1)→css.flatten.length=css.length
 | [],_=>rfl
 | d :: r,h=>by
  rw[AqI,Aqs,h d (by simp),Ks fun d hd=>h d (by simp[hd]),Aq3]
  omega
theorem EV:∀ {css:List (List Value)} (n:Nat),(∀ d∈css,d.length=1)→(css.take n).flatten=css.flatten.take n
 | [],n,_=>by simp
 | d :: r,0,_=>by simp
 | d :: r,n+1,h=>by
  obtain⟨v,rfl⟩:∃ v,d=[v]:=by
   have:=h d (by simp)
   match d,this with
   | [v],_=>exact⟨v,rfl⟩
  rw[Asm,AqI,AqI,EV n fun d hd=>h d (by simp[hd])]
  rfl
theorem Aa1 (hE:AG C.P E) (hC:A9 C) (hs:Sim C big g a w) (hsub:Sub fr big) (hc:Holds a ch) (o:Oper) (c:Call) (ho:o.op=.call c) (hb:c.callee=.builtin .copy):AU C g a fr big ((execOp a.eval o).run C.P w) (UL E fr ch c.args.toList c.argTypes.toList):=by
 unfold UL;split
 ·rename_i x y t t' hx ht;have ha:c.args=#[x,y]:=by rw[← Aqw (xs:=c.args),hx]
  have hat:c.argTypes=#[t,t']:=by rw[← Aqw (xs:=c.argTypes),ht]
  split
  ·rename_i v u hop1 hop2;split
   ·rename_i i r lo len j p lo' len' hri hrj;split
    ·rename_i hps;obtain⟨re,rs,rxs,rm⟩:=r;obtain⟨pe,ps,pxs,pm⟩:=p;simp only at hps;subst hps;cases hcond:(rm.mine&&ps.flat&&Nat.beq ps.n 1&&KA E t ⟨re,ps,rxs,rm⟩&&KA E t' ⟨pe,ps,pxs,pm⟩)
     ·simp only[hcond];trivial
     ·simp only[hcond,cond_true];simp only[Aql] at hcond;obtain⟨⟨⟨⟨hm,hf⟩,hn1⟩,hfit⟩,hfit'⟩:=hcond;have hn1:ps.n=1:=Aqm hn1;intro _ _ _;obtain⟨hu,hT⟩:=Alw hE hfit;have hl:=As (hs.sub hsub) hc hop1;have hl':=As (hs.sub hsub) hc hop2;obtain⟨hati,q,A,n,c0,A',n',c',hq,hv,hz,hn,_,hue,hlen,h0,hle,hc',hA0,hA⟩:=CT hs hsub hl hri;obtain⟨_,_,_,_,_,_,n2,c2',_,_,_,hn2,_,hue2,hlen2,h02,hle2,_⟩:=CT hs hsub hl' hrj;obtain⟨A2,c2,hu2,css,k1,k2,k3,k4⟩:=Pu hs hsub hl' hrj hf;have hbi:=hsub.rw _ _ hati;simp only at hn hn2 hz k1 k2 k3 k4 hu2;have hsl:((pxs.take (lo'+len').toNat).drop lo'.toNat).length=n2:=by
       rw[hue2] at hu2;injection hu2 with _ e _
       exact e.symm
      subst hlen hlen2;rw[Aa0];have hinf:(C.P.info? re).map (·.size)=some 1:=by
       obtain⟨ii,_,h1,h2,_⟩:=hT.info;rw[h1,AqU,h2];exact congrArg some hn1
      have run:∀ {w' v},(Builtin.copy_ #[t,t'] o.type #[a.eval x,a.eval y]).run C.P w=.ok v w'→(execOp a.eval o).run C.P w=.ok (.value v) w':=fun h=>by
       simp[execOp,ho,resolve,hb,ha,hat,invoke,builtin,h]
      have e1:(((Nat.min n2 n':Nat):Int)).toNat=Nat.min n2 n':=by omega
      have hmn:Nat.min n2 n'≤n'∧Nat.min n2 n'≤n2:=⟨Nat.min_le_right _ _,Nat.min_le_left _ _⟩;have htl:(((pxs.take (lo'+(n2:Int)).toNat).drop lo'.toNat).take (Nat.min n2 n')).length=Nat.min n2 n':=by
       rw[AqT,hsl];omega
      rcases Are (Nat.min n2 n') with hz0 | hpos
      ·refine⟨_,_,w,run (by rw[hue,hue2];exact run_copy_none w t t' o.type re A' _ n' c' n2 c2' hu hinf hz0),.inl rfl,g,⟨Sg.Le.refl g,fun _ _=>rfl,fun _ _=>rfl⟩,?_,fun av hav=>?_⟩
       ·simp only[grow,Ah,BL,B2];refine hs.setRow hC (r:=⟨re,ps,rxs,rm⟩) (r':=⟨re,ps,rxs,rm⟩) hbi hm hq rfl rfl (AE.refl _ w) (fun k (hk:False)=>hk.elim) ((hs.rows i _ hbi).mine hm hq).1 (fun j r0 hj=>?_) (Hh hbi).2;have:=(Hh hbi).1 j r0 hj;rw[e1,hz0] at this;simpa[E2] using this
       ·cases hav;exact VR.of1 (by rw[hz0];rfl)
      ·have hA':=hA (by omega)
       cases A with
       | none =>
        exfalso;have hO:=((hs.rows i _ hbi).mine hm hq).1;obtain⟨css',how,hlen',_⟩:=hO;rcases how.2 with ⟨e1,e2⟩ | ⟨gb,cap,cur,e1,_⟩
        ·simp only at e2;omega
        ·rw[hv] at e1;cases e1
       | some A =>
        have hk2:∀ d∈css,d.length=1:=fun d hd=>by rw[← hn1];exact (k2 d hd).1
        obtain⟨ad,hA2,hcell⟩:=k3 (by omega)
        obtain⟨w',hst,hsim⟩:=M0 hC hs (r:=⟨re,ps,rxs,rm⟩) hbi hm hq hv (ys:=((pxs.take (lo'+(n2:Int)).toNat).drop lo'.toNat).take (Nat.min n2 n')) (dss:=css.take (Nat.min n2 n')) (by rw[AqT,htl,k1,hsl];omega) (fun d hd=>k2 d (ArI hd)) (fun j y d hy hd w'=>by
         rw[AqW] at hy hd;split at hy
         ·rename_i hj;rw[if_pos hj] at hd;exact k4 j y d hy hd w'
         ·cases hy) (lo:=lo.toNat) (by rw[htl];simp only;omega) (by simp only;omega)
        rw[htl] at hsim;have hcs:(css.take (Nat.min n2 n')).flatten.length=Nat.min n2 n':=by
         rw[Ks fun d hd=>hk2 d (ArI hd),AqT,k1,hsl];omega
        have hld:=run_loadCells_list (P:=C.P) w ad (css.take (Nat.min n2 n')).flatten (fun j v hj=>by
         rw[EV _ hk2,AqW] at hj;split at hj
         ·exact hcell j v hj
         ·cases hj)
        rw[hcs] at hld;refine⟨_,.int .i64 ((Nat.min n2 n':Nat):Int),w',run ?_,.inl rfl,g,⟨Sg.Le.refl g,fun _ _=>rfl,fun _ _=>rfl⟩,?_,fun av hav=>?_⟩
        ·rw[hue,hA',AqU,hz];have hue3:a.eval y=.slice (some ad) n2 c2:=by rw[hu2,hA2,hsl]
         rw[hue3];obtain⟨ii,_,hi1,hi2,_⟩:=hT.info;simp only at hi2;rw[hn1] at hi2;simp[Builtin.copy_,run_underlying hu,Builtin.lenOf,Builtin.firstCells,sizeOf,typeInfo,hi1,hi2,hld,hst,goInt]
        ·simp only[grow,Ah,BL,B2];refine hsim _ (fun j r0 hj=>?_) (Hh hbi).2;have:=(Hh hbi).1 j r0 hj;rw[e1] at this;simpa[E2] using this
        ·cases hav;exact VR.of1 rfl
    ·trivial
   ·trivial
  ·trivial
 ·trivial
end Go.Proofs.YteheolldcpjkcaaGreat.X
namespace Go.Proofs.YteheolldcpjkcaaGreat.X
open Go Go.RowKit
variable [CW]
variable {C:Cx} {fr:Fr} {big:FF} {g:Sg} {a:Act} {w w':World} {ch:List (Nat×Bool)} {E:Env}
theorem M1 (h:Sim C big g a w) {rw':Nat→Option Ac} (hT:AX none big.rw rw') {i:Nat} {r:Ac} (hr:rw' i=some r) :
  ∃ q A n c,g.ρ i=some q∧q.v=.slice A n c∧q.sz=r.s.n∧n=r.xs.length∧DA C.P r.e r.s w q.F q.v r.xs∧(∀ k,q.F k→C.R k∨Own rw' g k)∧∀ k,q.F k→k<w.heap.size:=by
 have hb:big.rw i=some r:=by
  rcases hT.row i r hr with h | ⟨_,_,h,_⟩
  ·exact h
  ·cases h
 obtain⟨q,A,n,c,hq,hv,hz,hl,hZ⟩:=h.rows i r hb;have hrd:=CI.read (h.rows i r hb) hq;obtain⟨A1,n1,c1,e,hn,hx⟩:=id hrd;injection e with e;have e2:=hx.1;refine⟨q,A1,_,c1,hq,e,hz,e2.symm,hrd,fun k hk=>?_,hl⟩;cases hm:r.m with
 | own=>exact .inr ⟨i,r,q,hr,by rw[hm];rfl,hq,hk⟩
 | io=>exact .inr ⟨i,r,q,hr,by rw[hm];rfl,hq,hk⟩
 | ro=>rw[B4,hm] at hZ;exact .inl (hZ.2 k hk)
 | bor p pa =>
  rw[B4,hm] at hZ;obtain⟨_,rp,qp,hrp,hmp,hqp,hFp,_⟩:=hZ;rcases hT.par i r p pa hr hm with ⟨_,h2⟩ | h2
  ·exact .inr ⟨p,rp,qp,h2 rp hrp hmp,hmp,hqp,hFp k hk⟩
  ·cases h2
theorem JQ (h:Sim C big g a w) {rw':List (Option Ac)} (hT:AX none big.rw (at? rw')) {e:Nat} {s:Sh} {l:Lf} {u:Value} {xs:List s.T} (hl:LfR C g l u) (hx:LE rw' e s l=some xs) {Z:FP} (hZ:∀ k,C.R k∨Own (at? rw') g k→Z k):RC C.P (.list e s) w Z xs [u]:=by
 cases l<;>simp only[LE] at hx
 case row i =>
  split at hx
  ·rename_i r hr;split at hx
   ·rename_i he;split at hx
    ·rename_i hs;cases hx;obtain⟨q,A,n,c,hq,hv,hz,hn,hrd,hF,_⟩:=M1 h hT hr;obtain⟨q',A',n',c',hq',hv',hu⟩:=hl;rw[hq] at hq';cases hq';obtain⟨e0,s0,xs0,m0⟩:=r;simp only at he hs hrd;subst he;subst hs;rw[hu,← hv'];exact DA.mono (fun k hk=>hZ k (hF k hk)) hrd
    ·cases hx
   ·cases hx
  ·cases hx
 case view i lo hi =>
  split at hx
  ·rename_i r hr;split at hx
   ·rename_i he;split at hx
    ·rename_i hs;cases hx;obtain⟨q,A,n,c,hq,hv,hz,hn,hrd,hF,_⟩:=M1 h hT hr;obtain⟨q',A1,n1,c1,A2,n2,c2,hq',hv',hu,h0,h1,h2,h3,h4,h5⟩:=hl;rw[hq] at hq';cases hq';rw[hv] at hv';cases hv';obtain⟨e0,s0,xs0,m0⟩:=r;simp only at he hs hrd hn hz;subst he;subst hs;have hyl:((xs0.take hi.toNat).drop lo.toNat).length=n2:=by
      simp;omega
     refine⟨A2,n2,c2,by rw[hu],h3,hyl,fun hpos=>?_⟩
     obtain⟨A3,n3,c3,e3,hn3,hx3⟩:=id hrd;injection e3 with e3;rw[hv] at e3;cases e3;obtain⟨ad,rfl,hFa,hcell⟩:=hx3.2 (by omega)
     have hAe:=h5 hpos;simp only[AqU] at hAe;refine⟨_,hAe,?_,fun j x hx=>?_⟩
     ·have:(ad.add (lo.toNat*q.sz)).block=ad.block:=by unfold Addr.add;split<;>rfl
      rw[this];exact hZ _ (hF _ hFa)
     ·change ((xs0.take hi.toNat).drop lo.toNat)[j]? = some x at hx;rw[Aq5,AqW] at hx;split at hx
      ·obtain⟨cs,r1,r2,r3⟩:=hcell _ x hx;refine⟨cs,RC.mono s0 (fun k hk=>hZ k (hF k hk)) r1,r2,fun i v hv=>?_⟩;rw[Addr.add_add,hz,← r3 i v hv];congr 2;rw[ArZ];omega
      ·cases hx
    ·cases hx
   ·cases hx
  ·cases hx
 case nil =>
  cases hx;cases hl;exact⟨none,0,0,rfl,Aqr _,rfl,fun h=>absurd h (Ar6 _)⟩
 all_goals cases hx
theorem Eo (h:Sim C big g a w) {rw':List (Option Ac)} (hT:AX none big.rw (at? rw')) {Z:FP} (hZ:∀ k,C.R k∨Own (at? rw') g k→Z k):(s:Sh)→∀ {ls rest:List Lf} {x:s.T} {us:List Value},Az rw' s ls=some (x,rest)→AC C g ls us →
  ∃ c1 c2,us=c1++c2∧AC C g rest c2∧RC C.P s w Z x c1
 | .int k,ls,rest,x,us,hx,hl=>by
  simp only[Az] at hx;split at hx
  ·split at hx
   ·rename_i e;subst e;cases hx;obtain⟨u,t,rfl,hu,hr⟩:=hl;exact⟨[u],t,rfl,hr,by cases hu;rfl⟩
   ·cases hx
  ·cases hx
 | .bool,ls,rest,x,us,hx,hl=>by
  simp only[Az] at hx;split at hx
  ·cases hx;obtain⟨u,t,rfl,hu,hr⟩:=hl;exact⟨[u],t,rfl,hr,by cases hu;rfl⟩
  ·cases hx
 | .str,ls,rest,x,us,hx,hl=>by
  simp only[Az] at hx;split at hx
  ·cases hx;obtain⟨u,t,rfl,hu,hr⟩:=hl;exact⟨[u],t,rfl,hr,by cases hu;rfl⟩
  ·cases hx
 | .list e s,ls,rest,x,us,hx,hl=>by
  simp only[Az] at hx;split at hx
  ·split at hx
   ·rename_i hL;cases hx;obtain⟨u,t,rfl,hu,hr⟩:=hl;exact⟨[u],t,rfl,hr,JQ h hT hu hL hZ⟩
   ·cases hx
  ·cases hx
 | .cons s t,ls,rest,x,us,hx,hl=>by
  simp only[Az] at hx;split at hx
  ·rename_i h1;split at hx
   ·rename_i h2;cases hx;obtain⟨c1,c2,rfl,r1,o1⟩:=Eo h hT hZ s h1 hl;obtain⟨c3,c4,rfl,r2,o2⟩:=Eo h hT hZ t h2 r1;exact⟨c1++c3,c4,by simp,r2,c1,c3,rfl,o1,o2⟩
   ·cases hx
  ·cases hx
 | .fn1 _ _,ls,rest,x,us,hx,hl=>by simp[Az] at hx
 | .fn2 _ _ _,ls,rest,x,us,hx,hl=>by simp[Az] at hx
 | .ol _ _,ls,rest,x,us,hx,hl=>by simp[Az] at hx
theorem I1 (h:Sim C big g a w) {rw':List (Option Ac)} (hT:AX none big.rw (at? rw')) {Z:FP} (hZ:∀ k,C.R k∨Own (at? rw') g k→Z k) {s:Sh} {ls:List Lf} {x:s.T} {us:List Value} (hx:DZ (Az rw' s ls)=some x) (hl:AC C g ls us):RC C.P s w Z x us:=by
 cases hc:Az rw' s ls with
 | none=>rw[hc] at hx;cases hx
 | some p =>
  obtain⟨y,rest⟩:=p;rw[hc] at hx;cases rest with
  | cons _ _=>cases hx
  | nil =>
   cases hx;obtain⟨c1,c2,e,r,o⟩:=Eo h hT hZ s hc hl;cases r;rw[e,Aq9];exact o
def Rd (C:Cx) (big:FF) (rw':Nat→Option Ac) (g:Sg):FP:=fun k=>C.R k∨Own rw' g k∨∃ j b,big.bx j=some b∧b.own=true∧g.β j=some k
theorem Rd.lt (hC:A9 C) (h:Sim C big g a w) {rw':Nat→Option Ac} (hT:AX none big.rw rw') {k:Nat} (hk:Rd C big rw' g k):k<w.heap.size:=by
 rcases hk with hk | hk | ⟨j,b,hb,_,hβ⟩
 ·exact AqN (hC.R_lt k hk).1 h.kept.size
 ·exact (Own.zone h (hk.took hT)).2
 ·exact h.box_lt hb hβ
theorem Rd.not (hC:A9 C) (h:Sim C big g a w) {rw':Nat→Option Ac} {k:Nat} (hk:Rd C big rw' g k) (ho:Own big.rw g k):Own rw' g k:=by
 rcases hk with hk | hk | ⟨j,b,hb,hbo,hβ⟩
 ·exact absurd hk (Own.notR hC h ho)
 ·exact hk
 ·exact absurd hβ (Own.notBox h ho hb hbo)
theorem JR (hC:A9 C) (h:Sim C big g a w) (hsub:Sub fr big) {rw':List (Option Ac)} (hT:AX none big.rw (at? rw')):∀ {ps:List (PM×Sh)} {bs:List Nat} {us:List Value} {c:AT ps},HM fr rw' ps bs=some c→GW g.β bs us →
  (∀ p∈ps,p.1=.cap)∧∀ {w':World},Ed (Rd C big (at? rw') g) w w'→Dy C.P w' ps c us (ps.map fun _=>Rd C big (at? rw') g)
 | [],[],us,c,hc,hu=>by cases hu;exact⟨by simp,fun _=>⟨rfl,rfl⟩⟩
 | [],_ :: _,us,c,hc,hu=>by simp[HM] at hc
 | (m,s) :: ps,[],us,c,hc,hu=>by cases m<;>simp[HM] at hc
 | (m,s) :: ps,b :: bs,us,c,hc,⟨k,r,e,hk,hu⟩=>by
  cases m<;>simp only[HM] at hc
  case cap =>
   split at hc
   ·rename_i bb hb;have hpl:Bz bb.cs=true:=by
     cases hpl:Bz bb.cs with
     | false=>rw[hpl] at hc;cases hc
     | true=>rfl
    rw[hpl,cond_true] at hc;split at hc
    ·rename_i x xs h1 h2;cases hc;obtain⟨i1,i2⟩:=JR hC h hsub hT h2 hu;refine⟨fun p hp=>?_,fun {w'} hs=>?_⟩
     ·rcases AqA.1 hp with rfl | hp
      ·rfl
      ·exact i1 p hp
     ·obtain⟨k',cs,t,hk',hh,hr,ho,hnr⟩:=(h.boxes b bb (hsub.bx b bb hb)).toCells hpl;rw[hk] at hk';cases hk';have hRk:Rd C big (at? rw') g k:=by
       cases hbo:bb.own with
       | true=>exact .inr (.inr ⟨b,bb,hsub.bx b bb hb,hbo,hk⟩)
       | false=>exact .inl (hnr hbo)
      refine⟨_,r,_,_,e,rfl,fun j hj=>AqN (Rd.lt hC h hT hj) hs.size,⟨k,cs,t,rfl,hRk,(hs.blk k hRk).trans hh,?_⟩,i2 hs⟩;exact RC.same s hs (I1 h hT (fun k hk=>hk.elim .inl fun h=>.inr (.inl h)) h1 hr)
    ·cases hc
   ·cases hc
  all_goals cases hc
theorem Lv:∀ {ps:List (PM×Sh)},(∀ p∈ps,p.1=.cap∨p.1=.ro)→BG ps=[]
 | [],_=>rfl
 | (.cap,_) :: ps,h=>Lv (ps:=ps) fun p hp=>h p (by simp[hp])
 | (.ro,_) :: ps,h=>Lv (ps:=ps) fun p hp=>h p (by simp[hp])
 | (.mv,s) :: ps,h=>by have:=h (.mv,s) (by simp);simp at this
 | (.io,s) :: ps,h=>by have:=h (.io,s) (by simp);simp at this
theorem Rh {w':World}:∀ {ps:List (PM×Sh)},(∀ p∈ps,p.1=.cap∨p.1=.ro)→∀ {rs:List Sh} {us:List Value} {Fs:List FP} (h:BG ps++rs=rs) {y:RT (BG ps++rs)} {K:RT rs→Prop},Wd w' ps rs us Fs y K→K (cast (congrArg RT h) y)
 | [],_,rs,us,Fs,h,y,K,hK=>hK
 | (.cap,_) :: ps,hp,rs,[],Fs,h,y,K,hK=>hK.elim
 | (.cap,_) :: ps,hp,rs,_ :: _,[],h,y,K,hK=>hK.elim
 | (.cap,_) :: ps,hp,rs,_ :: us,_ :: Fs,h,y,K,hK=>Rh (ps:=ps) (fun p hq=>hp p (by simp[hq])) h hK
 | (.ro,_) :: ps,hp,rs,[],Fs,h,y,K,hK=>hK.elim
 | (.ro,_) :: ps,hp,rs,_ :: _,[],h,y,K,hK=>hK.elim
 | (.ro,_) :: ps,hp,rs,_ :: us,_ :: Fs,h,y,K,hK=>Rh (ps:=ps) (fun p hq=>hp p (by simp[hq])) h hK
 | (.mv,s) :: ps,hp,rs,us,Fs,h,y,K,hK=>by have:=hp (.mv,s) (by simp);simp at this
 | (.io,s) :: ps,hp,rs,us,Fs,h,y,K,hK=>by have:=hp (.io,s) (by simp);simp at this
theorem Aa2 {L L':List Sh} (h:L=L') (o:Option (RT L)) (y:RT L') (e:cast (congrArg (fun l=>Option (RT l)) h) o=some y):∃ y0,o=some y0∧cast (congrArg RT h) y0=y:=by
 subst h;exact⟨y,e,rfl⟩
theorem Du:∀ {ps:List (PM×Sh)},(∀ p∈ps,p.1=.cap∨p.1=.ro)→∀ Fs k,¬ hands ps Fs k
 | [],_,_,_,h=>by cases h
 | (m,s) :: ps,hp,[],k,h=>by cases h
 | (m,s) :: ps,hp,F :: Fs,k,h=>by
  rcases h with ⟨h,_⟩ | h
  ·rcases hp (m,s) (by simp) with e | e<;>(simp only at e;subst e;cases h)
  ·exact Du (fun p hq=>hp p (by simp[hq])) Fs k h
theorem Cw:∀ {ps:List (PM×Sh)} {Fs:List FP} {k:Nat},Er ps Fs k→hands ps Fs k
 | [],_,_,h=>by cases h
 | (m,s) :: ps,[],k,h=>by cases h
 | (m,s) :: ps,F :: Fs,k,h=>by
  rcases h with ⟨h,hF⟩ | h
  ·subst h;exact .inl ⟨rfl,hF⟩
  ·exact .inr (Cw h)
theorem Ja:∀ {ps:List (PM×Sh)},(∀ p∈ps,p.1=.cap∨p.1=.ro)→∀ Fs,Es ps Fs
 | [],_,_=>trivial
 | (m,s) :: ps,hp,[]=>trivial
 | (m,s) :: ps,hp,F :: Fs=>⟨fun k _=>⟨Du (fun p hq=>hp p (by simp[hq])) Fs k,fun e=>by rcases hp (m,s) (by simp) with e' | e'<;>(simp only at e';subst e';cases e)⟩,Ja (fun p hq=>hp p (by simp[hq])) Fs⟩
theorem M2 {P:Program} {f:Nat} {ps:List (PM×Sh)} {r:Sh} {F:AT ps→Option (RT (BG ps++[r]))} (hS:Br P f ⟨ps,[r],F⟩) (hp:∀ p∈ps,p.1=.cap∨p.1=.ro) (hf:r.flat=true) (h2:BG ps++[r]=[r]) {w:World} (hW:Hv w) {x:AT ps} {us:List Value} {Fs:List FP} (hA:Dy P w ps x us Fs)
  {y:RT [r]} (hy:cast (congrArg (fun l=>Option (RT l)) h2) (F x)=some y):Calls P f us.toArray w fun e w''=>∃ cr,e=.returned (EB r cr)∧RC P r w'' (fun _=>False) y cr∧ZQ w w'':=by
 obtain⟨y0,e0,e1⟩:=Aa2 h2 _ _ hy;refine (hS w x us Fs hW (fun k hk=>absurd hk (Du hp Fs k)) hA (Ja hp Fs) y0 e0).mono fun e w'' ⟨u,eu,vs,Gs,er,hM,hO⟩=>?_;have hv:=Rh hp h2 hO;rw[e1] at hv;obtain⟨v,vs',G,Gs',cs,rfl,rfl,ev,hoc,_,hrest⟩:=hv.1;obtain⟨rfl,rfl⟩:=hrest;refine⟨cs,by rw[eu,er,ev];rfl,RC.flat r hf (OC.read r hoc),hM.drawn,hM.os,hM.tape,hM.output,hM.size,fun k hk=>hM.block k hk (Du hp Fs k)⟩
theorem Aff {P:Program} {s r:Sh} {f:Nat} {ps cps:List (PM×Sh)} {rs:List Sh} {F:AT ps→Option (RT (BG ps++rs))} (h1:ps=(.ro,s) :: cps) (h2:BG ps++rs=[r]) (hS:@Br cwD P f ⟨ps,rs,F⟩) (hR:Cs P f) (hf:r.flat=true) {c:AT cps} {w:World} {Z:FP} {us:List Value} (hcp:∀ p∈cps,p.1=.cap)
  (hW:Hv w) (hgz:∀ k,k<gN→Z k) (hA:∀ {w':World},Ed Z w w'→Dy P w' cps c us (cps.map fun _=>Z)):RC P (.fn1 s r) w Z (fun x=>cast (congrArg (fun l=>Option (RT l)) h2) (F (cast (congrArg AT h1.symm) (x,c)))) [.func (.func f) #[] us.toArray]:=by
 subst h1;have hp:∀ p∈(PM.ro,s) :: cps,p.1=.cap∨p.1=.ro:=fun p hp=>by
  rcases AqA.1 hp with rfl | hp
  ·exact .inr rfl
  ·exact .inl (hcp p hp)
 have hrs:rs=[r]:=by
  have:=Lv hp;rw[this] at h2;exact h2
 subst hrs;refine⟨hf,f,us.toArray,rfl,hR,fun w1 hs1 x ca Fa hFa hra y hy=>?_⟩;have:=@M2 cwD _ _ _ _ _ hS hp hf h2 (w:=w1) (hW.keep hs1.size fun k hk=>hs1.blk k (hgz k hk)) (x:=(x,c)) (us:=Ay s.agg ca :: us) (Fs:=Fa :: cps.map fun _=>Z) ⟨_,_,_,_,rfl,rfl,hFa,⟨ca,rfl,hra⟩,hA hs1⟩ _ hy;have:=this.mono fun e w'' ⟨cr,h1,h2,h3⟩=>(⟨cr,h1,h2,Ni.ofD h3⟩:∃ cr,e=Ending.returned (EB r cr)∧RC P r w'' (fun _=>False) y cr∧Ni w1 w'');simpa[EB] using this
theorem Afg {P:Program} {s t r:Sh} {f:Nat} {ps cps:List (PM×Sh)} {rs:List Sh} {F:AT ps→Option (RT (BG ps++rs))} (h1:ps=(.ro,s) :: (.ro,t) :: cps) (h2:BG ps++rs=[r]) (hS:@Br cwD P f ⟨ps,rs,F⟩) (hR:Cs P f) (hf:r.flat=true) {c:AT cps} {w:World} {Z:FP} {us:List Value} (hcp:∀ p∈cps,p.1=.cap)
  (hW:Hv w) (hgz:∀ k,k<gN→Z k) (hA:∀ {w':World},Ed Z w w'→Dy P w' cps c us (cps.map fun _=>Z)):RC P (.fn2 s t r) w Z (fun x y=>cast (congrArg (fun l=>Option (RT l)) h2) (F (cast (congrArg AT h1.symm) (x,y,c)))) [.func (.func f) #[] us.toArray]:=by
 subst h1;have hp:∀ p∈(PM.ro,s) :: (PM.ro,t) :: cps,p.1=.cap∨p.1=.ro:=fun p hp=>by
  rcases AqA.1 hp with rfl | hp
  ·exact .inr rfl
  ·rcases AqA.1 hp with rfl | hp
   ·exact .inr rfl
   ·exact .inl (hcp p hp)
 have hrs:rs=[r]:=by
  have:=Lv hp;rw[this] at h2;exact h2
 subst hrs;refine⟨hf,f,us.toArray,rfl,hR,fun w1 hs1 x ca Fa hFa hra y cb Fb hFb hrb z hz=>?_⟩;have:=@M2 cwD _ _ _ _ _ hS hp hf h2 (w:=w1) (hW.keep hs1.size fun k hk=>hs1.blk k (hgz k hk)) (x:=(x,y,c)) (us:=Ay s.agg ca :: Ay t.agg cb :: us) (Fs:=Fa :: Fb :: cps.map fun _=>Z) ⟨_,_,_,_,rfl,rfl,hFa,⟨ca,rfl,hra⟩,_,_,_,_,rfl,rfl,hFb,⟨cb,rfl,hrb⟩,hA hs1⟩ _ hz;have:=this.mono fun e w'' ⟨cr,h1,h2,h3⟩=>(⟨cr,h1,h2,Ni.ofD h3⟩:∃ cr,e=Ending.returned (EB r cr)∧RC P r w'' (fun _=>False) z cr∧Ni w1 w'');simpa[EB] using this
theorem O5 (h:Sim C big g a w) {rw':List (Option Ac)} (hT:AX none big.rw (at? rw')) {Z:FP} (hZ:∀ k,C.R k∨Own (at? rw') g k→Z k) {s:Sh}:∀ {n:Nat} {ls:List Lf} {xs:List s.T} {us:List Value},LH rw' s n ls=some xs→AC C g ls us →
  ∃ css:List (List Value),us=css.flatten∧xs.length=n∧css.length=n∧(∀ c∈css,c.length=s.n)∧∀ (j:Nat) x c,xs[j]? = some x→css[j]? = some c→RC C.P s w Z x c
 | 0,[],xs,us,h0,hl=>by
  cases h0;cases hl;exact⟨[],rfl,rfl,rfl,by simp,by simp⟩
 | 0,_ :: _,xs,us,h0,hl=>by simp[LH] at h0
 | n+1,ls,xs,us,h0,hl=>by
  simp only[LH] at h0;split at h0
  ·rename_i x r hx;split at h0
   ·rename_i ys hy;cases h0;obtain⟨c1,c2,rfl,hr,hc⟩:=Eo h hT hZ s hx hl;obtain⟨css,rfl,h1,h2,h3,h4⟩:=O5 h hT hZ hy hr;refine⟨c1 :: css,by simp,by simp[h1],by simp[h2],?_,?_⟩
    ·intro c hc';rcases AqA.1 hc' with rfl | hc'
     ·exact RC.len s hc
     ·exact h3 c hc'
    ·intro j x' c hx' hc';cases j with
     | zero =>
      simp at hx' hc';subst hx';subst hc';exact hc
     | succ j=>exact h4 j x' c (by simpa using hx') (by simpa using hc')
   ·cases h0
  ·cases h0
theorem Afh (hE:AG C.P E) (hC:A9 C) (h:Sim C big g a w) (hsub:Sub fr big) {rw':List (Option Ac)} (hT:AX none big.rw (at? rw')) {s:Sh} {cs:List Lf} {x:s.T} {us:List Value} (hx:Abx E fr rw' s cs=some x) (hl:AC C g cs us):RC C.P s w (Rd C big (at? rw') g) x us:=by
 have hRC:∀ {s:Sh} {φ:s.T} {u:Value},RC C.P s C.w0 C.R φ [u]→RC C.P s w (Rd C big (at? rw') g) φ [u]:=fun {s φ u} hr =>
  RC.mono s (fun k hk=>.inl hk) (RC.same s ⟨h.kept.size,fun k hk=>h.kept.block k (hC.R_lt k hk).1 (hC.R_lt k hk).2⟩ hr)
 unfold Abx at hx;split at hx
 ·rename_i s' r f caps;obtain⟨u,t,rfl,hu,ht⟩:=hl;cases ht;split at hx
  ·rename_i m hm;split at hx
   ·rename_i c hc;cases hf:r.flat
    ·rw[hf] at hx;cases hx
    ·rw[hf,cond_true] at hx;obtain⟨hS,hR⟩:=hE.vf f m hm;obtain⟨us,rfl,hcap⟩:=hu;obtain⟨hcp,hA⟩:=JR hC h hsub hT hc hcap;unfold Akc at hx;split at hx
     ·rename_i h1;split at hx
      ·rename_i h2;cases hx;exact Aff h1 h2 hS hR hf hcp (h.kept.tabs hC) (fun k hk=>.inl (hC.glR k hk)) hA
      ·cases hx
     ·cases hx
   ·cases hx
  ·cases hx
 ·rename_i s' t' r f caps;obtain⟨u,t,rfl,hu,ht⟩:=hl;cases ht;split at hx
  ·rename_i m hm;split at hx
   ·rename_i c hc;cases hf:r.flat
    ·rw[hf] at hx;cases hx
    ·rw[hf,cond_true] at hx;obtain⟨hS,hR⟩:=hE.vf f m hm;obtain⟨us,rfl,hcap⟩:=hu;obtain⟨hcp,hA⟩:=JR hC h hsub hT hc hcap;unfold Akd at hx;split at hx
     ·rename_i h1;split at hx
      ·rename_i h2;cases hx;exact Afg h1 h2 hS hR hf hcp (h.kept.tabs hC) (fun k hk=>.inl (hC.glR k hk)) hA
      ·cases hx
     ·cases hx
   ·cases hx
  ·cases hx
 ·obtain⟨u,t,rfl,hu,ht⟩:=hl;cases ht;split at hx
  ·rename_i e;obtain⟨rfl,rfl⟩:=e;cases hx;exact hRC hu
  ·cases hx
 ·obtain⟨u,t,rfl,hu,ht⟩:=hl;cases ht;split at hx
  ·rename_i e;obtain⟨rfl,rfl,rfl⟩:=e;cases hx;exact hRC hu
  ·cases hx
 ·rename_i e s' i e' n;obtain⟨u,t,rfl,hu,ht⟩:=hl;cases ht;split at hx
  ·split at hx
   ·rename_i b hb;cases hpl:Bz b.cs
    ·rw[hpl] at hx;cases hx
    ·rw[hpl,cond_true] at hx;obtain⟨k,hk,rfl⟩:=hu;obtain⟨k',c,t,hk',hh,hr,hown,hro⟩:=(h.boxes i b (hsub.bx i b hb)).toCells hpl;rw[hk] at hk';cases hk';obtain⟨css,hf,h1,h2,h3,h4⟩:=O5 (Z:=Rd C big (at? rw') g) h hT (fun k hk=>hk.elim .inl fun h=>.inr (.inl h)) hx hr;refine⟨_,_,_,rfl,Aqr _,h1,fun hn=>⟨_,rfl,?_,fun j y hy=>?_⟩⟩
     ·cases ho:b.own with
      | true=>exact .inr (.inr ⟨i,b,hsub.bx i b hb,ho,hk⟩)
      | false=>exact .inl (hro ho)
     ·have hj:j<css.length:=by rw[h2,← h1];exact (Aqz.1 hy).1
      have hcj:css[j]? = some css[j]:=Aqo hj;refine⟨css[j],h4 j y _ hy hcj,h3 _ (ArV hj),fun i' u hu=>?_⟩;have:=Et h3 hcj i' u hu;rw[← hf] at this;rw[C1];simp only[World.cell?,hh];simpa using this
   ·cases hx
  ·cases hx
 ·exact I1 h hT (fun k hk=>hk.elim .inl fun h=>.inr (.inl h)) hx hl
theorem Cy:∀ {ps:List (PM×Sh)} {vs:List (Bool×List Lf)} {us:List Value} {rc rw':List (Option Ac)},B1 C g vs us→Tab (at? rc) g w→BZ ps vs rc=some rw'→AX none (at? rc) (at? rw')∧rw'.length=rc.length
 | [],[],us,rc,rw',ht,hT,h=>by cases h;exact⟨AX.refl _ _,rfl⟩
 | [],_ :: _,us,rc,rw',ht,hT,h=>by simp[BZ] at h
 | (m,s) :: ps,[],us,rc,rw',ht,hT,h=>by simp[BZ] at h
 | (m,s) :: ps,(ag,cs) :: vs,us,rc,rw',⟨u,us',e,hu,ht⟩,hT,h=>by
  obtain⟨ls,hls,hlr,hag⟩:=hu;have hand:∀ (ok:Md→Bool),(∀ x,ok x=true→x.mine=true∧((none:Option Nat)≠none→x=.own))→∀ {x rc1},take ok none s cs rc=some (x,[],rc1)→BZ ps vs rc1=some rw'→AX none (at? rc) (at? rw')∧rw'.length=rc.length:=by
   intro ok hok x rc1 htk h1;obtain⟨n1,t1,_⟩:=Bg (g:=g) (w:=w) (C:=C) hok s htk hlr hT;obtain⟨t2,n2⟩:=Cy ht (hT.took t1) h1;exact⟨t1.trans t2,n2.trans n1⟩
  cases m with
  | ro=>exact Cy ht hT h
  | cap=>exact Cy ht hT h
  | mv =>
   simp only[BZ] at h;split at h
   ·rename_i htk;exact hand _ (fun m hm=>by
     have:m=.own:=by simpa using hm
     subst this;exact⟨rfl,fun _=>rfl⟩) htk h
   ·cases h
  | io =>
   simp only[BZ] at h;cases hv:(cs.any Lf.isView||!RA s||!(s.agg==ag))
   ·rw[hv,cond_false] at h;split at h
    ·rename_i htk;exact hand _ (fun m hm=>⟨hm,fun e=>absurd rfl e⟩) htk h
    ·cases h
   ·rw[hv] at h;cases h
def Bp (g:Sg) (Z T:FP):List (PM×Sh)→List (Bool×List Lf)→List (Option Ac)→List FP
 | (.ro,_) :: ps,_ :: vs,rc=>Z :: Bp g Z T ps vs rc
 | (.cap,_) :: ps,_ :: vs,rc=>Z :: Bp g Z T ps vs rc
 | (.mv,s) :: ps,(_,cs) :: vs,rc=>match take (fun m=>m==.own) none s cs rc with
  | some (_,_,rc1)=>(fun k=>Own (at? rc) g k∧¬ Own (at? rc1) g k) :: Bp g Z T ps vs rc1
  | none=>[]
 | (.io,s) :: ps,(_,cs) :: vs,rc=>match take Md.mine none s cs rc with
  | some (_,_,rc1)=>(fun k=>(Own (at? rc) g k∧¬ Own (at? rc1) g k)∧T k) :: Bp g Z T ps vs rc1
  | none=>[]
 | _,_,_=>[]
def HL (rw:Nat→Option Ac) (g:Sg):FP:=fun k=>∃ i r q,rw i=some r∧r.m.mine=true∧g.ρ i=some q∧q.F k∧(r.s.flat=true→q.v.ownBlock=some k)
theorem Bq.flatF {e:Nat} {s:Sh} (hf:s.flat=true) {w:World} {F F':FP} {v:Value} {xs:List s.T} (h:Bq e s w F v xs) (hb:∀ k,v.ownBlock=some k→F' k):Bq e s w F' v xs:=by
 obtain⟨css,ho,hl,hc,_,G,_,_,hm⟩:=h;exact⟨css,ho,hl,hc,hb,fun _ _=>False,fun _ _ h=>h.elim,fun _ _ _ _ h=>h.elim,fun j x c hx hcj=>RC.flatOC s hf (OC.read (P:=default) s (hm j x c hx hcj))⟩
theorem GI {ok:Md→Bool} {m:Option Nat}:(s:Sh)→∀ {ls rest rc rc1 x},take ok m s ls rc=some (x,rest,rc1)→∃ pre,ls=pre++rest
 | .int _,ls,rest,rc,rc1,x,h=>by
  simp only[take] at h;split at h
  ·split at h
   ·cases h;exact⟨[_],rfl⟩
   ·cases h
  ·cases h
 | .bool,ls,rest,rc,rc1,x,h=>by
  simp only[take] at h;split at h
  ·cases h;exact⟨[_],rfl⟩
  ·cases h
 | .str,ls,rest,rc,rc1,x,h=>by
  simp only[take] at h;split at h
  ·cases h;exact⟨[_],rfl⟩
  ·cases h
 | .list _ _,ls,rest,rc,rc1,x,h=>by
  simp only[take] at h;split at h
  ·split at h
   ·cases h;exact⟨[_],rfl⟩
   ·cases h
  ·cases h
 | .cons a b,ls,rest,rc,rc1,x,h=>by
  simp only[take] at h;split at h
  ·rename_i h1;split at h
   ·rename_i h2;cases h;obtain⟨p1,rfl⟩:=GI a h1;obtain⟨p2,rfl⟩:=GI b h2;exact⟨p1++p2,by simp⟩
   ·cases h
  ·cases h
 | .fn1 _ _,ls,rest,rc,rc1,x,h=>by simp[take] at h
 | .fn2 _ _ _,ls,rest,rc,rc1,x,h=>by simp[take] at h
 | .ol _ _,ls,rest,rc,rc1,x,h=>by simp[take] at h
theorem Lw {ok:Md→Bool} {m:Option Nat} {s:Sh} {ls rest rc rc1 x} (h:take ok m s ls rc=some (x,rest,rc1)) (hv:ls.any Lf.isView=false):rest.any Lf.isView=false:=by
 obtain⟨pre,hpre⟩:=GI s h;rw[hpre,List.any_append,Asf] at hv;exact hv.2
theorem GJ:∀ x,Md.mine x=true→x.mine=true∧((none:Option Nat)≠none→x=.own):=fun m hm=>⟨hm,fun e=>absurd rfl e⟩
theorem M3 {e:Nat} {s:Sh} {rc rc1:List (Option Ac)} {i:Nat} {xs:List s.T} (h:DJ Md.mine none e s rc (.row i)=some (xs,rc1)):at? rc i=some ⟨e,s,xs,(at? rc i).elim .own (·.m)⟩∧((at? rc i).elim .own (·.m)).mine=true∧at? rc1 i=none:=by
 simp only[DJ] at h;split at h
 ·rename_i q hq;split at h
  ·rename_i he;cases ho:q.m.mine
   ·rw[ho] at h;cases h
   ·rw[ho,cond_true] at h;split at h
    ·rename_i hs;cases h;obtain⟨e0,s0,xs0,m0⟩:=q;simp only at he hs;subst he;subst hs;refine⟨by rw[hq];rfl,by rw[hq];exact ho,?_⟩
     cases hn:at? (Ae i (AL rc i (Option.map (fun p=>({ e:=e0,s:=s0,xs:=xs0,m:=Md.bor p none }:Ac)) none))) i with
     | none=>rfl
     | some r=>rw[Aq,AK,if_pos ⟨rfl,A4 hq⟩] at hn;cases hn.1
    ·cases h
  ·cases h
 ·cases h
theorem H0 (h:Sim C big g a w) {T:FP} (hTT:(∀ k,T k)∨T=HL big.rw g):(s:Sh)→∀ {ls rest:List Lf} {rc rc1:List (Option Ac)} {x:s.T} {us:List Value},ls.any Lf.isView=false→take Md.mine none s ls rc=some (x,rest,rc1)→AC C g ls us→AX none big.rw (at? rc) →
  ∃ c1 c2,us=c1++c2∧AC C g rest c2∧OC s w (fun k=>(Own (at? rc) g k∧¬ Own (at? rc1) g k)∧T k) x c1
 | .int k,ls,rest,rc,rc1,x,us,hv,htk,hl,hT=>by
  obtain⟨_,_,c1,c2,e,hr,hO⟩:=Bg (g:=g) (w:=w) (C:=C) GJ (.int k) htk hl (h.tab.took hT);exact⟨c1,c2,e,hr,hO⟩
 | .bool,ls,rest,rc,rc1,x,us,hv,htk,hl,hT=>by
  obtain⟨_,_,c1,c2,e,hr,hO⟩:=Bg (g:=g) (w:=w) (C:=C) GJ .bool htk hl (h.tab.took hT);exact⟨c1,c2,e,hr,hO⟩
 | .str,ls,rest,rc,rc1,x,us,hv,htk,hl,hT=>by
  obtain⟨_,_,c1,c2,e,hr,hO⟩:=Bg (g:=g) (w:=w) (C:=C) GJ .str htk hl (h.tab.took hT);exact⟨c1,c2,e,hr,hO⟩
 | .list ty s,ls,rest,rc,rc1,x,us,hv,htk,hl,hT=>by
  obtain⟨_,t1,_⟩:=Bg (g:=g) (w:=w) (C:=C) GJ (.list ty s) htk hl (h.tab.took hT);simp only[take] at htk;split at htk
  ·rename_i l r;split at htk
   ·rename_i xs rc' hL;cases htk;obtain⟨u,t,rfl,hu,ht⟩:=hl;refine⟨[u],t,rfl,ht,u,rfl,?_⟩;have hO:=(Ug (g:=g) (w:=w) (C:=C) GJ hL hu (h.tab.took hT)).2.2;rcases hTT with hTT | hTT
    ·exact Bq.mono (fun k hk=>⟨hk,hTT k⟩) hO
    ·subst hTT;cases l with
     | row i =>
      obtain⟨hr0,hm0,hgone⟩:=M3 hL;have hbig:=hT.mine hr0 hm0;obtain⟨q,A,n,c,hq,hqv,hu'⟩:=hu;have hvq:u=q.v:=by rw[hu',hqv]
      have hOq:=((h.rows i _ hbig).mine hm0 hq).1;have hgo:∀ k,q.F k→Own (at? rc) g k∧¬ Own (at? rc1) g k:=fun k hk=>Own.gone (h.tab.took hT) t1 hr0 hm0 hq (fun r' hr'=>by rw[hgone] at hr';cases hr') hk
      rw[hvq];cases hf:s.flat with
      | true =>
       refine Bq.flatF hf hOq fun k hk=>?_;have hkF:q.F k:=by
        obtain⟨_,_,_,_,hblk,_⟩:=hOq;exact hblk k hk
       exact⟨hgo k hkF,i,_,q,hbig,hm0,hq,hkF,fun _=>hk⟩
      | false =>
       exact Bq.mono (fun k hk=>⟨hgo k hk,i,_,q,hbig,hm0,hq,hk,fun e=>by rw[hf] at e;cases e⟩) hOq
     | nil =>
      simp only[DJ] at hL;cases hL;cases hu;exact⟨[],World.ownsRow_nil w 0 ty s.n,rfl,by simp,by simp[Value.ownBlock],fun _ _=>False,by simp,by simp,by simp⟩
     | view i lo hi=>simp[Lf.isView] at hv
     | _=>simp only[DJ] at hL;cases hL
   ·cases htk
  ·cases htk
 | .cons a b,ls,rest,rc,rc1,x,us,hv,htk,hl,hT=>by
  simp only[take] at htk;split at htk
  ·rename_i y l1 rcm h1;split at htk
   ·rename_i z l2 rc2 h2;cases htk;obtain⟨_,t1,_⟩:=Bg (g:=g) (w:=w) (C:=C) GJ a h1 hl (h.tab.took hT);obtain⟨c1,c2,rfl,r1,o1⟩:=H0 h hTT a hv h1 hl hT;obtain⟨_,t2,_⟩:=Bg (g:=g) (w:=w) (C:=C) GJ b h2 r1 (h.tab.took (hT.trans t1));obtain⟨c3,c4,rfl,r2,o2⟩:=H0 h hTT b (Lw h1 hv) h2 r1 (hT.trans t1);refine⟨c1++c3,c4,by simp,r2,c1,c3,rfl,_,_,?_,?_,?_,o1,o2⟩
    ·rintro k ⟨⟨k1,k2⟩,k3⟩
     exact⟨⟨k1,fun k4=>k2 (k4.took t2)⟩,k3⟩
    ·rintro k ⟨⟨k1,k2⟩,k3⟩
     exact⟨⟨k1.took t1,k2⟩,k3⟩
    ·rintro k ⟨⟨k1,k2⟩,_⟩ ⟨⟨k3,k4⟩,_⟩
     exact k2 k3
   ·cases htk
  ·cases htk
 | .fn1 _ _,ls,rest,rc,rc1,x,us,hv,htk,hl,hT=>by simp[take] at htk
 | .fn2 _ _ _,ls,rest,rc,rc1,x,us,hv,htk,hl,hT=>by simp[take] at htk
 | .ol _ _,ls,rest,rc,rc1,x,us,hv,htk,hl,hT=>by simp[take] at htk
theorem C5 (hE:AG C.P E) (hC:A9 C) (h:Sim C big g a w) (hsub:Sub fr big) {T:FP} (hTT:(∀ k,T k)∨T=HL big.rw g) {rw':List (Option Ac)}:∀ {ps:List (PM×Sh)} {vs:List (Bool×List Lf)} {us:List Value} {rc:List (Option Ac)} {xs:AT ps},B1 C g vs us→AX none big.rw (at? rc)→BZ ps vs rc=some rw'→AX none big.rw (at? rw')→CL E fr rw' ps vs rc=some xs →
  ∃ Fs,Fs=Bp g (Rd C big (at? rw') g) T ps vs rc∧Dy C.P w ps xs us Fs∧Es ps Fs∧(∀ k,hands ps Fs k→Own (at? rc) g k∧¬ Own (at? rw') g k)∧(∀ k,reads ps Fs k→Rd C big (at? rw') g k)
 | [],[],us,rc,xs,ht,hT,h1,hT',h2=>by cases ht;exact⟨[],rfl,⟨rfl,rfl⟩,trivial,fun k (h:hands [] [] k)=>(show False from h).elim,fun k (h:reads [] [] k)=>(show False from h).elim⟩
 | [],_ :: _,us,rc,xs,ht,hT,h1,hT',h2=>by simp[BZ] at h1
 | (m,s) :: ps,[],us,rc,xs,ht,hT,h1,hT',h2=>by simp[BZ] at h1
 | (m,s) :: ps,(ag,cs) :: vs,us,rc,xs,⟨u,us',e,hu,ht⟩,hT,h1,hT',h2=>by
  subst e;obtain⟨ls,hls,hlr,hag⟩:=hu
  -- a value that is handed over
  have hand:∀ (ok:Md→Bool),(∀ x,ok x=true→x.mine=true∧((none:Option Nat)≠none→x=.own))→m.hands=true→s.agg=ag→∀ {x rc1 xs'},take ok none s cs rc=some (x,[],rc1)→BZ ps vs rc1=some rw'→CL E fr rw' ps vs rc1=some xs' →
    ∀ {F0:FP},(∀ k,F0 k→Own (at? rc) g k∧¬ Own (at? rc1) g k)→(OC s w (fun k=>Own (at? rc) g k∧¬ Own (at? rc1) g k) x ls→Arg C.P w s x u F0 m)→Bp g (Rd C big (at? rw') g) T ((m,s) :: ps) ((ag,cs) :: vs) rc=F0 :: Bp g (Rd C big (at? rw') g) T ps vs rc1→∃ Fs,Fs=Bp g (Rd C big (at? rw') g) T ((m,s) :: ps) ((ag,cs) :: vs) rc∧Dy C.P w ((m,s) :: ps) (x,xs') (u :: us') Fs∧Es ((m,s) :: ps) Fs∧(∀ k,hands ((m,s) :: ps) Fs k→Own (at? rc) g k∧¬ Own (at? rw') g k)∧(∀ k,reads ((m,s) :: ps) Fs k→Rd C big (at? rw') g k):=by
   intro ok hok hm hsa x rc1 xs' htk h1' h2' F0 hF0 hArg hFs;obtain⟨_,t1,c1,c2,e12,hr2,hO⟩:=Bg (g:=g) (w:=w) (C:=C) hok s htk hlr (h.tab.took hT);cases hr2;have e12':ls=c1:=by rw[e12,Aq9]
   subst e12';obtain⟨Fs,eF,hA,hap,hh,hr⟩:=C5 hE hC h hsub hTT ht (hT.trans t1) h1' hT' h2';have hmono:∀ k,Own (at? rw') g k→Own (at? rc1) g k:=fun k hk=>hk.took (Cy ht (h.tab.took (hT.trans t1)) h1').1;refine⟨F0 :: Fs,by rw[hFs,eF],⟨u,us',_,Fs,rfl,rfl,fun k hk=>(Own.zone h ((hF0 k hk).1.took hT)).2,hArg hO,hA⟩,⟨fun k hk=>⟨fun hk'=>(hF0 k hk).2 (hh k hk').1,fun _ hk'=>(hF0 k hk).2 (hmono k (Rd.not hC h (hr k hk') ((hF0 k hk).1.took hT)))⟩,hap⟩,?_,?_⟩
   ·intro k hk;rcases hk with ⟨_,hk⟩ | hk
    ·exact⟨(hF0 k hk).1,fun hk'=>(hF0 k hk).2 (hmono k hk')⟩
    ·exact⟨(hh k hk).1.took t1,(hh k hk).2⟩
   ·intro k hk;rcases hk with ⟨hk,_⟩ | hk
    ·rw[hm] at hk;cases hk
    ·exact hr k hk
  -- a value that is read
  have rd:m.hands=false→∀ {x xs'},BZ ps vs rc=some rw'→CL E fr rw' ps vs rc=some xs'→Arg C.P w s x u (Rd C big (at? rw') g) m→Bp g (Rd C big (at? rw') g) T ((m,s) :: ps) ((ag,cs) :: vs) rc=(Rd C big (at? rw') g) :: Bp g (Rd C big (at? rw') g) T ps vs rc →
    ∃ Fs,Fs=Bp g (Rd C big (at? rw') g) T ((m,s) :: ps) ((ag,cs) :: vs) rc∧Dy C.P w ((m,s) :: ps) (x,xs') (u :: us') Fs∧Es ((m,s) :: ps) Fs∧(∀ k,hands ((m,s) :: ps) Fs k→Own (at? rc) g k∧¬ Own (at? rw') g k)∧(∀ k,reads ((m,s) :: ps) Fs k→Rd C big (at? rw') g k):=by
   intro hm x xs' h1' h2' hArg hFs;obtain⟨Fs,eF,hA,hap,hh,hr⟩:=C5 hE hC h hsub hTT ht hT h1' hT' h2';refine⟨Rd C big (at? rw') g :: Fs,by rw[hFs,eF],⟨u,us',_,Fs,rfl,rfl,fun k hk=>Rd.lt hC h hT' hk,hArg,hA⟩,⟨fun k hk=>⟨fun hk'=>(hh k hk').2 (Rd.not hC h hk ((hh k hk').1.took hT)),fun e=>by rw[hm] at e;cases e⟩,hap⟩,?_,?_⟩
   ·intro k hk;rcases hk with ⟨hk,_⟩ | hk
    ·rw[hm] at hk;cases hk
    ·exact hh k hk
   ·intro k hk;rcases hk with ⟨_,hk⟩ | hk
    ·exact hk
    ·exact hr k hk
  cases m with
  | ro =>
   simp only[BZ] at h1;simp only[CL] at h2;cases hsa:(s.agg==ag)
   ·rw[hsa] at h2;cases h2
   ·rw[hsa,cond_true] at h2;split at h2
    ·rename_i x xs' e1 e2;cases h2;have hsa:=eq_of_beq hsa;exact rd rfl h1 e2 ⟨ls,by rw[hls,hsa],Afh hE hC h hsub hT' e1 hlr⟩ rfl
    ·cases h2
  | mv =>
   simp only[BZ] at h1;simp only[CL] at h2;cases hsa:(s.agg==ag)
   ·rw[hsa] at h2;cases h2
   ·rw[hsa,cond_true] at h2;split at h2
    ·rename_i x rc1 htk;rw[htk] at h1;split at h2
     ·rename_i xs' e2;cases h2;have hsa:=eq_of_beq hsa;exact hand _ (fun m hm=>by
       have:m=.own:=by simpa using hm
       subst this;exact⟨rfl,fun _=>rfl⟩) rfl hsa htk h1 e2 (fun k hk=>hk) (fun hO=>⟨ls,by rw[hls,hsa],hO⟩) (by simp only[Bp,htk])
     ·cases h2
    ·cases h2
  | io =>
   simp only[BZ] at h1;simp only[CL] at h2;cases hv:(cs.any Lf.isView||!RA s||!(s.agg==ag))
   ·rw[hv,cond_false] at h1;cases hsa:(s.agg==ag)
    ·rw[hsa] at h2;cases h2
    ·rw[hsa,cond_true] at h2;split at h2
     ·rename_i x rc1 htk;rw[htk] at h1;split at h2
      ·rename_i xs' e2;cases h2;have hsa:=eq_of_beq hsa;simp only[Asf] at hv;refine hand _ (fun m hm=>⟨hm,fun e=>absurd rfl e⟩) rfl hsa htk h1 e2 (F0:=fun k=>(Own (at? rc) g k∧¬ Own (at? rc1) g k)∧T k) (fun k hk=>hk.1) (fun hO=>⟨ls,by rw[hls,hsa],?_⟩) (by simp only[Bp,htk])
       obtain⟨c1,c2,e12,hr2,hO⟩:=H0 h hTT s hv.1.1 htk hlr hT;cases hr2;have e12':ls=c1:=by rw[e12,Aq9]
       rw[e12'];exact hO
      ·cases h2
     ·cases h2
   ·rw[hv] at h1;cases h1
  | cap =>
   simp only[BZ] at h1;simp only[CL] at h2;split at h2
   ·rename_i b;split at h2
    ·rename_i bb hb;have hpl:Bz bb.cs=true:=by
      cases hpl:Bz bb.cs with
      | false=>rw[hpl] at h2;cases h2
      | true=>rfl
     rw[hpl,cond_true] at h2;split at h2
     ·rename_i x xs' e1 e2;cases h2;obtain⟨u1,t1,rfl,hu1,ht1⟩:=hlr;cases ht1;obtain⟨k,hk,ek⟩:=hu1;obtain⟨k',c,t,hk',hh,hr,ho,hnr⟩:=(h.boxes b bb (hsub.bx b bb hb)).toCells hpl;rw[hk] at hk';cases hk';refine rd rfl h1 e2 ⟨k,c,t,by rw[hls,ek];rfl,?_,hh,I1 h hT' (fun k hk=>hk.elim .inl fun h=>.inr (.inl h)) e1 hr⟩ rfl
      cases hbo:bb.own with
      | true=>exact .inr (.inr ⟨b,bb,hsub.bx b bb hb,hbo,hk⟩)
      | false=>exact .inl (hnr hbo)
     ·cases h2
    ·cases h2
   ·cases h2
end Go.Proofs.YteheolldcpjkcaaGreat.X
namespace Go.Proofs.YteheolldcpjkcaaGreat.X
open Go Go.RowKit
variable [CW]
variable {C:Cx} {fr:Fr} {big:FF} {g:Sg} {a:Act} {w w':World} {ch:List (Nat×Bool)} {E:Env}
def T1 (V:FP) (big:FF) (g:Sg) (w':World) (rw' rw2:Nat→Option Ac):Prop :=
 ∀ j r2,rw2 j=some r2→rw' j=some r2∨∃ r0 q,big.rw j=some r0∧r0.m.mine=true∧r2.m=r0.m∧r2.s.n=r0.s.n∧g.ρ j=some q∧Bq r2.e r2.s w' q.F q.v r2.xs∧∀ k,q.F k→V k
theorem Sim.afterCall {V:FP} (hC:A9 C) (h:Sim C big g a w) {rw' rw2:Nat→Option Ac} (hT:AX none big.rw rw') {D:FP} (hM:AE D w w') (hD:∀ k,D k→Own big.rw g k∧¬ Own rw' g k) (h2:T1 V big g w' rw' rw2) (h3:∀ j r0,rw' j=some r0→rw2 j=some r0):Sim C { big with rw:=rw2 } g a w':=by
 have hDz:∀ k,D k→C.w0.heap.size≤k∨C.S k:=fun k hk=>(Own.zone h (hD k hk).1).1;have mineOf:∀ j r0,rw2 j=some r0→r0.m.mine=true→∃ r1,big.rw j=some r1∧r1.m.mine=true:=by
  intro j r0 hj hm0;rcases h2 j r0 hj with h1 | ⟨r1,q,h1,hm1,_⟩
  ·exact⟨r0,hT.mine h1 hm0,hm0⟩
  ·exact⟨r1,h1,hm1⟩
 refine { h with kept:=hM.kept h.kept hDz,boxes:=?_,rows:=?_,rdisj:=?_,rbox:=?_ }
 ·intro j b hb;refine (h.boxes j b hb).moves hM fun k hk hd=>?_;cases ho:b.own with
  | true=>exact Own.notBox h (hD k hd).1 hb ho hk
  | false =>
   obtain⟨k',o,hk',_,_,_,hr'⟩:=h.boxes j b hb;rw[hk] at hk';cases hk';exact Own.notR hC h (hD k hd).1 (hr' ho)
 ·intro j r2 hj;change rw2 j=some r2 at hj;rcases h2 j r2 hj with h1 | ⟨r0,q,hb,hm,e1,e2,hq,hO,_⟩
  ·have hbig:big.rw j=some r2:=by
    rcases hT.row j r2 h1 with h | ⟨_,_,h,_⟩
    ·exact h
    ·cases h
   obtain⟨q,A,n,c,hq,hv,hn,hrd,hF⟩:=M1 h hT h1;refine (h.rows j r2 hbig).moves hM (fun qj hqj k hk hd=>?_) (fun p pa e rp hrp hmp=>?_) (fun p pa rp qp e hrp hmp hqp A n c hv hn=>((h.rows p rp hrp).mine hmp hqp).1.block hv)
   ·rw[hq] at hqj;cases hqj;rcases hF.2.1 k hk with hk' | hk'
    ·exact Own.notR hC h (hD k hd).1 hk'
    ·exact (hD k hd).2 hk'
   ·rcases hT.par j r2 p pa h1 e with ⟨_,h4⟩ | h4
    ·have hp:=h4 rp hrp hmp;exact⟨⟨rp,h3 p rp hp,hmp,rfl⟩,fun qp hqp k hk hd=>(hD k hd).2 ⟨p,rp,qp,hp,hmp,hqp,hk⟩⟩
    ·cases h4
  ·obtain⟨q',A,n,c,hq',hv,hsz,hl,hZ⟩:=h.rows j r0 hb;rw[hq] at hq';cases hq';refine⟨q,A,n,c,hq,hv,by rw[hsz,e2],fun k hk=>AqN (hl k hk) hM.size,?_⟩
   cases hmm:r0.m with
   | own=>rw[B4,hmm] at hZ;rw[B4,e1,hmm];exact⟨hO,hZ.2⟩
   | io=>rw[B4,hmm] at hZ;rw[B4,e1,hmm];exact⟨hO,hZ.2⟩
   | ro=>rw[hmm] at hm;cases hm
   | bor p pa=>rw[hmm] at hm;cases hm
 ·intro i1 j1 r1 r2 q1 q2 k h1 h2' m1 m2;obtain⟨r1',f1,f1'⟩:=mineOf i1 r1 h1 m1;obtain⟨r2',f2,f2'⟩:=mineOf j1 r2 h2' m2;exact h.rdisj i1 j1 r1' r2' q1 q2 k f1 f2 f1' f2'
 ·intro i1 r1 q1 j b k h1 m1;obtain⟨r1',f1,f1'⟩:=mineOf i1 r1 h1 m1;exact h.rbox i1 r1' q1 j b k f1 f1'
theorem JS {m:Option Nat} {e:Nat} {s:Sh} {rc rc1:List (Option Ac)} {i:Nat} {xs:List s.T} (h:DJ Md.mine m e s rc (.row i)=some (xs,rc1)):∃ r,at? rc i=some r∧r.m.mine=true∧r.e=e∧r.s=s∧(m=none→at? rc1 i=none):=by
 simp only[DJ] at h;split at h
 ·rename_i q hq;split at h
  ·rename_i he;cases ho:q.m.mine
   ·rw[ho] at h;cases h
   ·rw[ho,cond_true] at h;split at h
    ·rename_i hs;cases h;refine⟨q,hq,ho,he,hs,fun hm=>?_⟩;subst hm;cases hn:at? (Ae i (AL rc i (Option.map (fun p=>{ q with m:=Md.bor p none }) none))) i with
     | none=>rfl
     | some r=>rw[Aq,AK,if_pos ⟨rfl,A4 hq⟩] at hn;cases hn.1
    ·cases h
  ·cases h
 ·cases h
theorem M4 {e:Nat} {s:Sh} {rc rc1:List (Option Ac)} {i:Nat} {xs:List s.T} (h:DJ Md.mine none e s rc (.row i)=some (xs,rc1)):rc1=Ae i (AL rc i none):=by
 simp only[DJ] at h;split at h
 ·split at h
  ·rename_i q _ _;cases ho:q.m.mine
   ·rw[ho] at h;cases h
   ·rw[ho,cond_true] at h;split at h
    ·cases h;rfl
    ·cases h
  ·cases h
 ·cases h
theorem M5 {e:Nat} {s:Sh} {rc rc1:List (Option Ac)} {i:Nat} {xs:List s.T} (h:DJ Md.mine none e s rc (.row i)=some (xs,rc1)):AX none (at? rc) (at? rc1):=by
 obtain⟨r,hr,hm,_⟩:=JS h;rw[M4 h];exact BN hr hm _ (.inl rfl)
def hio:List (PM×Sh)→List FP→FP
 | (m,_) :: ps,F :: Fs=>fun k=>(m=.io∧F k)∨hio ps Fs k
 | _,_=>fun _=>False
theorem O6:∀ {ps:List (PM×Sh)} {Fs:List FP} {k:Nat},hio ps Fs k→hands ps Fs k
 | [],_,_,h=>(show False from h).elim
 | (m,s) :: ps,[],k,h=>(show False from h).elim
 | (m,s) :: ps,F :: Fs,k,h=>by
  rcases h with ⟨h,hF⟩ | h
  ·subst h;exact .inl ⟨rfl,hF⟩
  ·exact .inr (O6 h)
theorem ZF:∀ {ps:List (PM×Sh)} {Fs:List FP} {k:Nat},Es ps Fs→hio ps Fs k→¬ Er ps Fs k
 | [],_,_,_,h,_=>(show False from h).elim
 | (m,s) :: ps,[],k,_,h,_=>(show False from h).elim
 | (m,s) :: ps,F :: Fs,k,ha,h,h'=>by
  rcases h with ⟨h,hF⟩ | h
  ·subst h;rcases h' with ⟨h',_⟩ | h'
   ·cases h'
   ·exact (ha.1 k hF).1 (Cw h')
  ·rcases h' with ⟨h',hF⟩ | h'
   ·exact (ha.1 k hF).1 (O6 h)
   ·exact ZF ha.2 h h'
theorem T1.put {V:FP} {rw' rw2:List (Option Ac)} (h:T1 V big g w' (at? rw') (at? rw2)) (h3:∀ j r0,at? rw' j=some r0→at? rw2 j=some r0) {i:Nat} {r0 r2:Ac} {q:B3} (hi:at? rw' i=none) (hb:big.rw i=some r0) (hm:r0.m.mine=true) (e1:r2.m=r0.m) (e2:r2.s.n=r0.s.n) (hq:g.ρ i=some q) (hO:Bq r2.e r2.s w' q.F q.v r2.xs) (hVq:∀ k,q.F k→V k) :
  T1 V big g w' (at? rw') (at? (AL rw2 i (some r2)))∧(∀ j r0,at? rw' j=some r0→at? (AL rw2 i (some r2)) j=some r0):=by
 refine⟨fun j r hj=>?_,fun j r hj=>?_⟩
 ·rw[AK] at hj;split at hj
  ·rename_i e;obtain⟨rfl,_⟩:=e;cases hj;exact .inr ⟨r0,q,hb,hm,e1,e2,hq,hO,hVq⟩
  ·exact h j r hj
 ·rw[AK,if_neg (fun e=>by rw[← e.1,hi] at hj;cases hj)]
  exact h3 j r hj
structure Dj (V:FP) (big:FF) (g:Sg) (w':World) (rw' rw2:List (Option Ac)):Prop where
 b:T1 V big g w' (at? rw') (at? rw2)
 k:∀ j r0,at? rw' j=some r0→at? rw2 j=some r0
 len:rw2.length=rw'.length
theorem Cb {V:FP} (hs:Sim C fr.f g a w) {rw':List (Option Ac)}:(s:Sh)→s.flatL=true→∀ {ls rest:List Lf} {rc rc1 rw2:List (Option Ac)} {x0 x:s.T} {us cs us2:List Value} {F:FP},ls.any Lf.isView=false→AX none (at? fr.rw) (at? rc)→take Md.mine none s ls rc=some (x0,rest,rc1)→AX none (at? rc1) (at? rw')→AC C g ls us→us=cs++us2→cs.length=s.n→OC s w' F x cs→(∀ k,Own (at? rc) g k∧¬ Own (at? rc1) g k→V k)→Dj V fr.f g w' rw' rw2 →
  (Bt fr.rw s ls x rw2).1=rest∧AC C g rest us2∧Dj V fr.f g w' rw' (Bt fr.rw s ls x rw2).2
 | .int k,_,ls,rest,rc,rc1,rw2,x0,x,us,cs,us2,F,hv,hT,htk,hT',hl,e,hlen,hO,hVV,hB=>by
  simp only[take] at htk;split at htk
  ·split at htk
   ·cases htk;obtain⟨u,t,rfl,hu,ht⟩:=hl;cases hO;cases e;exact⟨rfl,ht,hB⟩
   ·cases htk
  ·cases htk
 | .bool,_,ls,rest,rc,rc1,rw2,x0,x,us,cs,us2,F,hv,hT,htk,hT',hl,e,hlen,hO,hVV,hB=>by
  simp only[take] at htk;split at htk
  ·cases htk;obtain⟨u,t,rfl,hu,ht⟩:=hl;cases hO;cases e;exact⟨rfl,ht,hB⟩
  ·cases htk
 | .str,_,ls,rest,rc,rc1,rw2,x0,x,us,cs,us2,F,hv,hT,htk,hT',hl,e,hlen,hO,hVV,hB=>by
  simp only[take] at htk;split at htk
  ·cases htk;obtain⟨u,t,rfl,hu,ht⟩:=hl;cases hO;cases e;exact⟨rfl,ht,hB⟩
  ·cases htk
 | .list ty s,hf,ls,rest,rc,rc1,rw2,x0,x,us,cs,us2,F,hv,hT,htk,hT',hl,e,hlen,hO,hVV,hB=>by
  simp only[take] at htk;split at htk
  ·rename_i l r;split at htk
   ·rename_i xs rc' hL;cases htk;obtain⟨u,t,rfl,hu,ht⟩:=hl;obtain⟨v,rfl,hO⟩:=hO;injection e with e1 e2;subst e1;subst e2;refine⟨rfl,ht,?_⟩;cases l<;>try (first | (simp only[DJ] at hL;cases hL;done) | exact hB)
    ·rename_i i;obtain⟨r0,hr0,hm0,he0,hs0,hgone⟩:=JS hL;have hgone:=hgone rfl;have hbig:at? fr.rw i=some r0:=hT.mine hr0 hm0;have hi:at? rw' i=none:=by
      cases hn:at? rw' i with
      | none=>rfl
      | some r =>
       rcases hT'.row i r hn with h | ⟨_,_,h,_⟩
       ·rw[hgone] at h;cases h
       ·cases h
     obtain⟨q,A,n,c,hq,hqv,hu'⟩:=hu;have hOq:=((hs.rows i r0 hbig).mine hm0 hq).1;have hput:(Bt fr.rw (.list ty s) (.row i :: rest) x rw2).2=AL rw2 i (some ⟨ty,s,x,r0.m⟩):=by
      simp only[Bt,hbig]
     rw[hput];have hvq:u=q.v:=by rw[hu',hqv]
     obtain⟨b1,b2⟩:=hB.b.put hB.k (r0:=r0) (r2:=⟨ty,s,x,r0.m⟩) hi hbig hm0 rfl (by simp[hs0]) hq (by
      rw[← hvq];refine Bq.flatF hf hO fun k hk=>?_;obtain⟨_,_,_,_,hblk,_⟩:=hOq;exact hblk k (by rw[← hvq];exact hk)) (fun k hk=>hVV k (Own.gone (hs.tab.took hT) (M5 hL) hr0 hm0 hq (fun r' hr'=>by rw[hgone] at hr';cases hr') hk))
     exact⟨b1,b2,by rw[AR,hB.len]⟩
   ·cases htk
  ·cases htk
 | .cons s t,hf,ls,rest,rc,rc1,rw2,x0,x,us,cs,us2,F,hv,hT,htk,hT',hl,e,hlen,hO,hVV,hB=>by
  simp only[Sh.flatL,Aql] at hf;simp only[take] at htk;split at htk
  ·rename_i y l1 rcm h1;split at htk
   ·rename_i z l2 rc2 h2;cases htk;obtain⟨c1,c2,rfl,G,H,_,_,_,o1,o2⟩:=hO;have hok:∀ x,Md.mine x=true→x.mine=true∧((none:Option Nat)≠none→x=.own):=fun m hm=>⟨hm,fun e=>absurd rfl e⟩;obtain⟨_,t1,_,_,e1,r1,_⟩:=Bg (g:=g) (w:=w) (C:=C) hok s h1 hl (hs.tab.took hT);obtain⟨_,t2,_⟩:=Bg (g:=g) (w:=w) (C:=C) hok t h2 r1 ((hs.tab.took hT).took t1);obtain⟨p1,p2,p3⟩:=Cb hs s hf.1 hv hT h1 (t2.trans hT') hl (by rw[e,Aqv]) (OC.len s o1) o1 (fun k hk=>hVV k ⟨hk.1,fun h=>hk.2 (h.took t2)⟩) hB
    have hv1:l1.any Lf.isView=false:=Lw h1 hv;obtain⟨p4,p5,p6⟩:=Cb hs t hf.2 hv1 (hT.trans t1) h2 hT' p2 rfl (OC.len t o2) o2 (fun k hk=>hVV k ⟨hk.1.took t1,hk.2⟩) p3;simp only[Bt,p1];exact⟨p4,p5,p6⟩
   ·cases htk
  ·cases htk
 | .fn1 _ _,hf,_,_,_,_,_,_,_,_,_,_,_,_,_,_,_,_,_,_,_,_,_=>by cases hf
 | .fn2 _ _ _,hf,_,_,_,_,_,_,_,_,_,_,_,_,_,_,_,_,_,_,_,_,_=>by cases hf
 | .ol _ _,hf,_,_,_,_,_,_,_,_,_,_,_,_,_,_,_,_,_,_,_,_,_=>by cases hf
theorem Jb (hs:Sim C big g a w):(s:Sh)→s.flatL=true→∀ {ls rest:List Lf} {rc rc1:List (Option Ac)} {x0 x:s.T} {us cs us2:List Value} {H:FP} {k:Nat},ls.any Lf.isView=false→AX none big.rw (at? rc)→take Md.mine none s ls rc=some (x0,rest,rc1)→AC C g ls us→us=cs++us2→OC s w' H x cs→Own (at? rc) g k→¬ Own (at? rc1) g k→HL big.rw g k→H k
 | .int _,_,ls,rest,rc,rc1,x0,x,us,cs,us2,H,k,hv,hT,htk,hl,e,hO,h1,h2,h3=>by
  simp only[take] at htk;split at htk
  ·split at htk
   ·cases htk;exact absurd h1 h2
   ·cases htk
  ·cases htk
 | .bool,_,ls,rest,rc,rc1,x0,x,us,cs,us2,H,k,hv,hT,htk,hl,e,hO,h1,h2,h3=>by
  simp only[take] at htk;split at htk
  ·cases htk;exact absurd h1 h2
  ·cases htk
 | .str,_,ls,rest,rc,rc1,x0,x,us,cs,us2,H,k,hv,hT,htk,hl,e,hO,h1,h2,h3=>by
  simp only[take] at htk;split at htk
  ·cases htk;exact absurd h1 h2
  ·cases htk
 | .list ty s,hf,ls,rest,rc,rc1,x0,x,us,cs,us2,H,k,hv,hT,htk,hl,e,hO,h1,h2,h3=>by
  simp only[take] at htk;split at htk
  ·rename_i l r;split at htk
   ·rename_i xs rc' hL;cases htk;obtain⟨u,t,rfl,hu,ht⟩:=hl;obtain⟨v,rfl,hO⟩:=hO;injection e with e1 e2;subst e1;cases l with
    | row i =>
     obtain⟨hr0,hm0,hgone⟩:=M3 hL;have hbig:=hT.mine hr0 hm0;obtain⟨q,A,n,c,hq,hqv,hu'⟩:=hu;have hvq:u=q.v:=by rw[hu',hqv]
     have hk:q.F k:=by
      obtain⟨j,rj,qj,f1,f2,f3,f4⟩:=h1;by_cases hji:j=i
      ·subst hji;rw[hq] at f3;cases f3;exact f4
      ·refine absurd ⟨j,rj,qj,?_,f2,f3,f4⟩ h2;rw[M4 hL,Aq,AK,if_neg (fun e=>hji e.1.symm)];exact⟨f1,fun p a e=>by rw[e] at f2;cases f2⟩
     obtain⟨j,rj,qj,f1,f2,f3,f4,f5⟩:=h3;have hij:i=j:=hs.rdisj i j _ rj q qj k hbig f1 hm0 f2 hq f3 hk f4;subst hij;rw[hbig] at f1;cases f1;rw[hq] at f3;cases f3;obtain⟨_,_,_,_,hblk,_⟩:=hO;exact hblk k (by rw[hvq];exact f5 hf)
    | nil=>simp only[DJ] at hL;cases hL;exact absurd h1 h2
    | view i lo hi=>simp[Lf.isView] at hv
    | _=>simp only[DJ] at hL;cases hL
   ·cases htk
  ·cases htk
 | .cons s t,hf,ls,rest,rc,rc1,x0,x,us,cs,us2,H,k,hv,hT,htk,hl,e,hO,h1,h2,h3=>by
  simp only[Sh.flatL,Aql] at hf;simp only[take] at htk;split at htk
  ·rename_i y l1 rcm g1;split at htk
   ·rename_i z l2 rc2 g2;cases htk;obtain⟨c1,c2,rfl,G,H',hG,hH,_,o1,o2⟩:=hO;obtain⟨_,t1,d1,d2,e1,r1,oo1⟩:=Bg (g:=g) (w:=w) (C:=C) GJ s g1 hl (hs.tab.took hT);have e12:c1=d1∧c2++us2=d2:=by
     refine List.append_inj ?_ (by rw[OC.len s o1,OC.len s oo1])
     rw[← Aqv,← e,e1]
    by_cases hm:Own (at? rcm) g k
    ·exact hH k (Jb hs t hf.2 (Lw g1 hv) (hT.trans t1) g2 r1 e12.2.symm o2 hm h2 h3)
    ·exact hG k (Jb hs s hf.1 hv hT g1 hl (by rw[e,Aqv]) o1 h1 hm h3)
   ·cases htk
  ·cases htk
 | .fn1 _ _,hf,_,_,_,_,_,_,_,_,_,_,_,_,_,_,_,_,_,_,_,_=>by cases hf
 | .fn2 _ _ _,hf,_,_,_,_,_,_,_,_,_,_,_,_,_,_,_,_,_,_,_,_=>by cases hf
 | .ol _ _,hf,_,_,_,_,_,_,_,_,_,_,_,_,_,_,_,_,_,_,_,_=>by cases hf
theorem H1 {V:FP} (hs:Sim C fr.f g a w) (hsb:Sim C big g a w) (hTb:AX none big.rw (at? fr.rw)) {rw':List (Option Ac)}:(s:Sh)→RA s=true→∀ {ls rest:List Lf} {rc rc1 rw2:List (Option Ac)} {x0 x:s.T} {us cs us2:List Value} {F:FP},ls.any Lf.isView=false→AX none (at? fr.rw) (at? rc)→take Md.mine none s ls rc=some (x0,rest,rc1)→AX none (at? rc1) (at? rw')→AC C g ls us→us=cs++us2→cs.length=s.n→OC s w' F x cs→(∀ k,F k→(Own (at? rc) g k∧¬ Own (at? rc1) g k)∧HL big.rw g k)→(∀ k,Own (at? rc) g k∧¬ Own (at? rc1) g k→V k)→Dj V fr.f g w' rw' rw2 →
  (Bt fr.rw s ls x rw2).1=rest∧AC C g rest us2∧Dj V fr.f g w' rw' (Bt fr.rw s ls x rw2).2
 | .int k,_,ls,rest,rc,rc1,rw2,x0,x,us,cs,us2,F,hv,hT,htk,hT',hl,e,hlen,hO,hFF,hVV,hB=>Cb hs (.int k) rfl hv hT htk hT' hl e hlen hO hVV hB
 | .bool,_,ls,rest,rc,rc1,rw2,x0,x,us,cs,us2,F,hv,hT,htk,hT',hl,e,hlen,hO,hFF,hVV,hB=>Cb hs .bool rfl hv hT htk hT' hl e hlen hO hVV hB
 | .str,_,ls,rest,rc,rc1,rw2,x0,x,us,cs,us2,F,hv,hT,htk,hT',hl,e,hlen,hO,hFF,hVV,hB=>Cb hs .str rfl hv hT htk hT' hl e hlen hO hVV hB
 | .list ty s,hf,ls,rest,rc,rc1,rw2,x0,x,us,cs,us2,F,hv,hT,htk,hT',hl,e,hlen,hO,hFF,hVV,hB=>by
  simp only[take] at htk;split at htk
  ·rename_i l r;split at htk
   ·rename_i xs rc' hL;cases htk;obtain⟨u,t,rfl,hu,ht⟩:=hl;obtain⟨v,rfl,hO⟩:=hO;injection e with e1 e2;subst e1;subst e2;refine⟨rfl,ht,?_⟩;cases l<;>try (first | (simp only[DJ] at hL;cases hL;done) | exact hB)
    ·rename_i i;obtain⟨r0,hr0,hm0,he0,hs0,hgone⟩:=JS hL;have hgone:=hgone rfl;have hbig:at? fr.rw i=some r0:=hT.mine hr0 hm0;have hi:at? rw' i=none:=by
      cases hn:at? rw' i with
      | none=>rfl
      | some r =>
       rcases hT'.row i r hn with h | ⟨_,_,h,_⟩
       ·rw[hgone] at h;cases h
       ·cases h
     obtain⟨q,A,n,c,hq,hqv,hu'⟩:=hu;have hput:(Bt fr.rw (.list ty s) (.row i :: rest) x rw2).2=AL rw2 i (some ⟨ty,s,x,r0.m⟩):=by
      simp only[Bt,hbig]
     rw[hput];have hvq:u=q.v:=by rw[hu',hqv]
     have hFq:∀ k,Own (at? rc) g k∧¬ Own (at? rc1) g k→q.F k:=by
      rintro k ⟨⟨j,rj,qj,h1,h2,h3,h4⟩,hn⟩
      by_cases hji:j=i
      ·subst hji;rw[hq] at h3;cases h3;exact h4
      ·refine absurd ⟨j,rj,qj,?_,h2,h3,h4⟩ hn;rw[M4 hL,Aq,AK,if_neg (fun e=>hji e.1.symm)];exact⟨h1,fun p a e=>by rw[e] at h2;cases h2⟩
     obtain⟨b1,b2⟩:=hB.b.put hB.k (r0:=r0) (r2:=⟨ty,s,x,r0.m⟩) hi hbig hm0 rfl (by simp[hs0]) hq (by
      rw[← hvq];exact Bq.mono (fun k hk=>hFq k (hFF k hk).1) hO) (fun k hk=>hVV k (Own.gone (hs.tab.took hT) (M5 hL) hr0 hm0 hq (fun r' hr'=>by rw[hgone] at hr';cases hr') hk))
     exact⟨b1,b2,by rw[AR,hB.len]⟩
   ·cases htk
  ·cases htk
 | .cons s t,hf,ls,rest,rc,rc1,rw2,x0,x,us,cs,us2,F,hv,hT,htk,hT',hl,e,hlen,hO,hFF,hVV,hB=>by
  simp only[RA,ArQ,Aql] at hf;simp only[take] at htk;split at htk
  ·rename_i y l1 rcm h1;split at htk
   ·rename_i z l2 rc2 h2;cases htk;obtain⟨c1,c2,rfl,G,H,hG,hH,hd,o1,o2⟩:=hO;obtain⟨_,t1,_,_,e1,r1,_⟩:=Bg (g:=g) (w:=w) (C:=C) GJ s h1 hl (hs.tab.took hT);obtain⟨_,t2,_⟩:=Bg (g:=g) (w:=w) (C:=C) GJ t h2 r1 ((hs.tab.took hT).took t1);have hv1:l1.any Lf.isView=false:=Lw h1 hv;have hVs:∀ k,Own (at? rc) g k∧¬ Own (at? rcm) g k→V k:=fun k hk=>hVV k ⟨hk.1,fun h=>hk.2 (h.took t2)⟩;have hVt:∀ k,Own (at? rcm) g k∧¬ Own (at? rc1) g k→V k:=fun k hk=>hVV k ⟨hk.1.took t1,hk.2⟩;have es:us=c1++(c2++us2):=by rw[e,Aqv]
    have fin:(Bt fr.rw s ls x.1 rw2).1=l1∧AC C g l1 (c2++us2)∧Dj V fr.f g w' rw' (Bt fr.rw s ls x.1 rw2).2:=by
     rcases hf with ⟨hfs,_⟩ | ⟨hfs,hft⟩
     ·exact Cb hs s hfs hv hT h1 (t2.trans hT') hl es (OC.len s o1) o1 hVs hB
     ·refine H1 hs hsb hTb s hfs hv hT h1 (t2.trans hT') hl es (OC.len s o1) o1 (fun k hk=>?_) hVs hB;obtain⟨⟨k1,k2⟩,k3⟩:=hFF k (hG k hk);have r1':AC C g l1 (c2++us2):=by
       obtain⟨_,_,d1,d2,e1,r1,oo1⟩:=Bg (g:=g) (w:=w) (C:=C) GJ s h1 hl (hs.tab.took hT);have e12:c1=d1∧c2++us2=d2:=List.append_inj (by rw[← es,e1]) (by rw[OC.len s o1,OC.len s oo1])
       rw[e12.2];exact r1
      exact⟨⟨k1,fun km=>hd k hk (Jb hsb t hft hv1 (hTb.trans (hT.trans t1)) h2 r1' rfl o2 km k2 k3)⟩,k3⟩
    obtain⟨p1,p2,p3⟩:=fin;have fin2:(Bt fr.rw t l1 x.2 (Bt fr.rw s ls x.1 rw2).2).1=rest∧AC C g rest us2∧Dj V fr.f g w' rw' (Bt fr.rw t l1 x.2 (Bt fr.rw s ls x.1 rw2).2).2:=by
     rcases hf with ⟨hfs,hft⟩ | ⟨_,hft⟩
     ·refine H1 hs hsb hTb t hft hv1 (hT.trans t1) h2 hT' p2 rfl (OC.len t o2) o2 (fun k hk=>?_) hVt p3;obtain⟨⟨k1,k2⟩,k3⟩:=hFF k (hH k hk);refine⟨⟨Classical.byContradiction fun km=>?_,k2⟩,k3⟩;exact hd k (Jb hsb s hfs hv (hTb.trans hT) h1 hl es o1 k1 km k3) hk
     ·exact Cb hs t hft hv1 (hT.trans t1) h2 hT' p2 rfl (OC.len t o2) o2 hVt p3
    simp only[Bt,p1];exact fin2
   ·cases htk
  ·cases htk
 | .fn1 _ _,hf,_,_,_,_,_,_,_,_,_,_,_,_,_,_,_,_,_,_,_,_,_,_=>by cases hf
 | .fn2 _ _ _,hf,_,_,_,_,_,_,_,_,_,_,_,_,_,_,_,_,_,_,_,_,_,_=>by cases hf
 | .ol _ _,hf,_,_,_,_,_,_,_,_,_,_,_,_,_,_,_,_,_,_,_,_,_,_=>by cases hf
theorem Sim.expandO:(s:Sh)→∀ {x:s.T} {F:FP} {cs:List Value} {n:Nat} {fr:FF} {g:Sg},Sim C fr g a w→s.data=true→OC s w F x cs→(∀ k,F k→k<w.heap.size∧(C.w0.heap.size≤k∨C.S k)∧¬ Own fr.rw g k∧∀ j b,fr.bx j=some b→b.own=true→g.β j≠some k) →
  (∀ j,n≤j→j<n+(Aa .own s x n).2.length→g.ρ j=none) →
  ∃ g',g.Le g'∧(∀ j,¬ (n≤j∧j<n+(Aa .own s x n).2.length)→g'.ρ j=g.ρ j)∧g'.β=g.β∧Sim C { fr with rw:=more n (Aa .own s x n).2 fr.rw } g' a w∧AC C g' (Aa .own s x n).1 cs∧(∀ k,Own (more n (Aa .own s x n).2 fr.rw) g' k→Own fr.rw g k∨F k)∧(∀ j q,n≤j→j<n+(Aa .own s x n).2.length→g'.ρ j=some q→∀ k,q.F k→F k)
 | .int k,x,F,cs,n,fr,g,h,_,hr,_,_=>⟨g,Sg.Le.refl g,fun _ _=>rfl,rfl,by simpa only[Aa,Ah] using h,by cases hr;exact⟨_,_,rfl,rfl,rfl⟩,(fun k hk=>by simp only[Aa,Ah] at hk;exact .inl hk),fun j q h1 h2=>absurd h2 (by simp[Aa];omega)⟩
 | .bool,x,F,cs,n,fr,g,h,_,hr,_,_=>⟨g,Sg.Le.refl g,fun _ _=>rfl,rfl,by simpa only[Aa,Ah] using h,by cases hr;exact⟨_,_,rfl,rfl,rfl⟩,(fun k hk=>by simp only[Aa,Ah] at hk;exact .inl hk),fun j q h1 h2=>absurd h2 (by simp[Aa];omega)⟩
 | .str,x,F,cs,n,fr,g,h,_,hr,_,_=>⟨g,Sg.Le.refl g,fun _ _=>rfl,rfl,by simpa only[Aa,Ah] using h,by cases hr;exact⟨_,_,rfl,rfl,rfl⟩,(fun k hk=>by simp only[Aa,Ah] at hk;exact .inl hk),fun j q h1 h2=>absurd h2 (by simp[Aa];omega)⟩
 | .list e t,x,F,cs,n,fr,g,h,_,hr,hF,hfree=>by
  have hi:g.ρ n=none:=hfree n (Aqr _) (by simp[Aa])
  obtain⟨v,rfl,hO⟩:=hr;obtain⟨A,c,ev,_⟩:=BO (OwnL_owns hO)
  let q:B3:=⟨v,F,t.n⟩
  refine⟨g.row n q,Sg.le_row hi q,fun j hj=>Sg.row_ne _ _ (fun e'=>hj (by simp[Aa,e'])),rfl,?_,⟨_,_,rfl,⟨q,A,_,c,Sg.row_at _ _ _,ev,ev⟩,rfl⟩,?_,fun j q' h1 h2 hq' k hk=>by
   have:j=n:=by simp only[Aa,Ar9] at h2;omega
   subst this;rw[Sg.row_at] at hq';cases hq';exact hk⟩
  ·simp only[Aa,BE];refine h.newRow hi (fun _=>rfl) ⟨q,A,_,c,Sg.row_at _ _ _,ev,rfl,fun k hk=>(hF k hk).1,hO,fun k hk=>(hF k hk).2.1⟩ (fun _ k hk=>⟨fun j r' q' hj hm hq hk'=>(hF k hk).2.2.1 ⟨j,r',q',hj,hm,hq,hk'⟩,(hF k hk).2.2.2⟩)
  ·rintro k ⟨j,r,q',hj,hm,hq,hk⟩
   simp only[Aa,BE] at hj;split at hj
   ·rename_i ej;subst ej;rw[Sg.row_at] at hq;cases hq;exact .inr hk
   ·rename_i ej;rw[Sg.row_ne _ _ ej] at hq;exact .inl ⟨j,r,q',hj,hm,hq,hk⟩
 | .cons s t,x,F,cs,n,fr,g,h,hd,hr,hF,hfree=>by
  simp only[Sh.data,Aql] at hd;obtain⟨c1,c2,rfl,G,H,hG,hH,hGH,r1,r2⟩:=hr;have hfree':∀ j,n≤j→j<n+((Aa .own s x.1 n).2.length+(Aa .own t x.2 (n+(Aa .own s x.1 n).2.length)).2.length)→g.ρ j=none:=fun j h1 h2=>hfree j h1 (by simpa[Aa] using h2)
  obtain⟨g1,le1,AS,b1,s1,l1,o1,f1⟩:=Sim.expandO s (n:=n) h hd.1 r1 (fun k hk=>hF k (hG k hk)) (fun j h1 h2=>hfree' j h1 (by omega))
  obtain⟨g2,le2,out2,b2,s2,l2,o2,f2⟩:=Sim.expandO t (n:=n+(Aa .own s x.1 n).2.length) s1 hd.2 r2 (fun k hk=>by
   obtain⟨h1,h2,h3,h4⟩:=hF k (hH k hk);refine⟨h1,h2,fun ho=>?_,fun j b hb hbo=>by rw[b1];exact h4 j b hb hbo⟩
   rcases o1 k ho with h5 | h5
   ·exact h3 h5
   ·exact hGH k h5 hk) (fun j h1 h2=>by rw[AS j (by omega)];exact hfree' j (by omega) (by omega))
  have hmm:more n (Aa .own (.cons s t) x n).2 fr.rw=more (n+(Aa .own s x.1 n).2.length) (Aa .own t x.2 (n+(Aa .own s x.1 n).2.length)).2 (more n (Aa .own s x.1 n).2 fr.rw):=by
   rw[CY];rfl
  refine⟨g2,le1.trans le2,fun j hj=>?_,b2.trans b1,?_,?_,?_,fun j q h1 h2 hq k hk=>?_⟩
  rotate_left 4
  ·simp only[Aa,Aqs] at h2;by_cases hj:j<n+(Aa .own s x.1 n).2.length
   ·rw[out2 j (by omega)] at hq
    exact hG k (f1 j q h1 hj hq k hk)
   ·exact hH k (f2 j q (by omega) (by omega) hq k hk)
  ·simp only[Aa,Aqs] at hj;rw[out2 j (by omega),AS j (by omega)]
  ·rw[hmm];exact s2
  ·exact (l1.mono le2).append l2
  ·intro k hk;rw[hmm] at hk;rcases o2 k hk with h1 | h1
   ·rcases o1 k h1 with h2 | h2
    ·exact .inl h2
    ·exact .inr (hG k h2)
   ·exact .inr (hH k h1)
 | .fn1 _ _,_,_,_,_,_,_,_,hd,_,_,_=>by cases hd
 | .fn2 _ _ _,_,_,_,_,_,_,_,hd,_,_,_=>by cases hd
 | .ol _ _,_,_,_,_,_,_,_,hd,_,_,_=>by cases hd
 where
 OwnL_owns {e:Nat} {s:Sh} {w:World} {F:FP} {v:Value} {xs:List s.T} (h:Bq e s w F v xs):w.ownsRow 0 e s.n v xs.length (Classical.choose h).flatten:=(Classical.choose_spec h).1
theorem Aa3 {b:Bool} {cs ds:List Value} (h:Ay b cs=Ay b ds) (h1:b=false→cs.length=1) (h2:b=false→ds.length=1):cs=ds:=by
 cases b with
 | true=>simpa[Ay] using h
 | false =>
  match cs,h1 rfl,ds,h2 rfl with
  | [x],_,[y],_=>simpa[Ay] using h
theorem EW {V:FP} (hs:Sim C fr.f g a w) (hsb:Sim C big g a w) (hTb:AX none big.rw (at? fr.rw)) {Z:FP} {rw':List (Option Ac)} {rs:List Sh}:∀ {ps:List (PM×Sh)} {vs:List (Bool×List Lf)} {us:List Value} {rc rw2:List (Option Ac)} {y:RT (BG ps++rs)} {K:RT rs→Prop},B1 C g vs us→AX none (at? fr.rw) (at? rc)→BZ ps vs rc=some rw' →
  Wd w' ps rs us (Bp g Z (HL big.rw g) ps vs rc) y K→(∀ k,hio ps (Bp g Z (fun _=>True) ps vs rc) k→V k)→Dj V fr.f g w' rw' rw2→Dj V fr.f g w' rw' (N0 fr.rw ps vs y rw2).1∧K (N0 fr.rw ps vs y rw2).2
 | [],[],us,rc,rw2,y,K,ht,hT,h1,hO,hVV,hB=>⟨hB,hO⟩
 | [],_ :: _,us,rc,rw2,y,K,ht,hT,h1,hO,hVV,hB=>by simp[BZ] at h1
 | (m,s) :: ps,[],us,rc,rw2,y,K,ht,hT,h1,hO,hVV,hB=>by simp[BZ] at h1
 | (.ro,s) :: ps,(ag,cs) :: vs,us,rc,rw2,y,K,⟨u,us',e,hu,ht⟩,hT,h1,hO,hVV,hB=>by
  subst e;exact EW hs hsb hTb (ps:=ps) ht hT h1 hO (fun k hk=>hVV k (.inr hk)) hB
 | (.cap,s) :: ps,(ag,cs) :: vs,us,rc,rw2,y,K,⟨u,us',e,hu,ht⟩,hT,h1,hO,hVV,hB=>by
  subst e;exact EW hs hsb hTb (ps:=ps) ht hT h1 hO (fun k hk=>hVV k (.inr hk)) hB
 | (.mv,s) :: ps,(ag,cs) :: vs,us,rc,rw2,y,K,⟨u,us',e,hu,ht⟩,hT,h1,hO,hVV,hB=>by
  subst e;simp only[BZ] at h1;split at h1
  ·rename_i x rc1 htk;obtain⟨ls,hls,hlr,hag⟩:=hu;obtain⟨_,t1,_⟩:=Bg (g:=g) (w:=w) (C:=C) (fun m hm=>by
    have:m=.own:=by simpa using hm
    subst this;exact⟨rfl,fun _=>rfl⟩) s htk hlr (hs.tab.took hT)
   have e0:Bp g Z (HL big.rw g) ((.mv,s) :: ps) ((ag,cs) :: vs) rc=(fun k=>Own (at? rc) g k∧¬ Own (at? rc1) g k) :: Bp g Z (HL big.rw g) ps vs rc1:=by simp only[Bp,htk]
   have e1:Bp g Z (fun _=>True) ((.mv,s) :: ps) ((ag,cs) :: vs) rc=(fun k=>Own (at? rc) g k∧¬ Own (at? rc1) g k) :: Bp g Z (fun _=>True) ps vs rc1:=by simp only[Bp,htk]
   rw[e0] at hO;rw[e1] at hVV;exact EW hs hsb hTb (ps:=ps) ht (hT.trans t1) h1 hO (fun k hk=>hVV k (.inr hk)) hB
  ·cases h1
 | (.io,s) :: ps,(ag,cs) :: vs,us,rc,rw2,y,K,⟨u,us',e,hu,ht⟩,hT,h1,hO,hVV,hB=>by
  subst e;simp only[BZ] at h1;cases hv:(cs.any Lf.isView||!RA s||!(s.agg==ag))
  ·rw[hv,cond_false] at h1;simp only[Asf,Bool.not_eq_false'] at hv;obtain⟨⟨hv,hio⟩,hsa⟩:=hv;have hsa:=eq_of_beq hsa;split at h1
   ·rename_i x rc1 htk;obtain⟨ls,hls,hlr,hag⟩:=hu;have hok:∀ x,Md.mine x=true→x.mine=true∧((none:Option Nat)≠none→x=.own):=fun m hm=>⟨hm,fun e=>absurd rfl e⟩;obtain⟨_,t1,_⟩:=Bg (g:=g) (w:=w) (C:=C) hok s htk hlr (hs.tab.took hT);have e0:Bp g Z (HL big.rw g) ((.io,s) :: ps) ((ag,cs) :: vs) rc=(fun k=>(Own (at? rc) g k∧¬ Own (at? rc1) g k)∧HL big.rw g k) :: Bp g Z (HL big.rw g) ps vs rc1:=by simp only[Bp,htk]
    have e1:Bp g Z (fun _=>True) ((.io,s) :: ps) ((ag,cs) :: vs) rc=(fun k=>(Own (at? rc) g k∧¬ Own (at? rc1) g k)∧True) :: Bp g Z (fun _=>True) ps vs rc1:=by simp only[Bp,htk]
    rw[e0] at hO;rw[e1] at hVV;have hVF:∀ k,Own (at? rc) g k∧¬ Own (at? rc1) g k→V k:=fun k hk=>hVV k (.inl ⟨rfl,hk,trivial⟩);obtain⟨⟨cs',ecs,hOC⟩,hO⟩:=hO;have elc:ls=cs':=Aa3 (b:=s.agg) (by rw[← ecs,hls,hsa]) (fun hb=>by rw[hlr.len,hag (hsa▸hb)]) (fun hb=>by rw[OC.len s hOC,Sh.n_one hb])
    subst elc;have hT':=(Cy (g:=g) (w:=w) (C:=C) ht ((hs.tab.took hT).took t1) h1).1;refine EW hs hsb hTb (ps:=ps) ht (hT.trans t1) h1 hO (fun k hk=>hVV k (.inr hk)) ?_;exact (H1 hs hsb hTb s hio hv hT htk hT' hlr (Aq9 _).symm (OC.len s hOC) hOC (fun k hk=>hk) hVF hB).2.2
   ·cases h1
  ·rw[hv] at h1;cases h1
theorem Dw {Z T T':FP} {k:Nat}:∀ {ps:List (PM×Sh)} {vs:List (Bool×List Lf)} {rc:List (Option Ac)},Er ps (Bp g Z T ps vs rc) k→Er ps (Bp g Z T' ps vs rc) k
 | [],_,_,h=>by simp[Bp,Er] at h
 | (m,s) :: ps,[],_,h=>by cases m<;>simp[Bp,Er] at h
 | (.ro,s) :: ps,v :: vs,rc,h=>by
  rcases h with ⟨h,_⟩ | h
  ·cases h
  ·exact .inr (Dw h)
 | (.cap,s) :: ps,v :: vs,rc,h=>by
  rcases h with ⟨h,_⟩ | h
  ·cases h
  ·exact .inr (Dw h)
 | (.mv,s) :: ps,(ag,cs) :: vs,rc,h=>by
  simp only[Bp] at h ⊢;split at h
  ·rename_i htk;rcases h with h | h
   ·exact .inl h
   ·exact .inr (Dw h)
  ·exact h.elim
 | (.io,s) :: ps,(ag,cs) :: vs,rc,h=>by
  simp only[Bp] at h ⊢;split at h
  ·rename_i htk;rcases h with ⟨h,_⟩ | h
   ·cases h
   ·exact .inr (Dw h)
  ·exact h.elim
theorem BK:∀ {rs:List Sh} {z:RT rs} {vs:List Value} {Gs:List FP} {n:Nat} {fr:FF} {g:Sg},Sim C fr g a w→(∀ s∈rs,s.data=true)→NN w rs z vs Gs→(∀ G∈Gs,∀ k,G k→k<w.heap.size∧(C.w0.heap.size≤k∨C.S k)∧¬ Own fr.rw g k∧∀ j b,fr.bx j=some b→b.own=true→g.β j≠some k) →
  (∀ j,n≤j→j<n+(Av rs z n).2.length→g.ρ j=none) →
  ∃ g',g.Le g'∧(∀ j,¬ (n≤j∧j<n+(Av rs z n).2.length)→g'.ρ j=g.ρ j)∧g'.β=g.β∧Sim C { fr with rw:=more n (Av rs z n).2 fr.rw } g' a w∧B1 C g' (Av rs z n).1 vs
 | [],z,vs,Gs,n,fr,g,h,_,hV,_,_=>by
  cases hV.1;exact⟨g,Sg.Le.refl g,fun _ _=>rfl,rfl,by simpa only[Av,Ah] using h,rfl⟩
 | s :: rs,z,vs,Gs,n,fr,g,h,hd,⟨u,us',F,Fs',cs,e1,e2,eu,hO,hdis,hV⟩,hF,hfree=>by
  subst e1;subst e2;have hfree':∀ j,n≤j→j<n+((Aa .own s (RT.hd z) n).2.length+(Av rs (RT.tl z) (n+(Aa .own s (RT.hd z) n).2.length)).2.length)→g.ρ j=none:=fun j h1 h2=>hfree j h1 (by simpa[Av] using h2)
  obtain⟨g1,le1,AS,b1,s1,l1,o1,_⟩:=Sim.expandO s (n:=n) h (hd s (by simp)) hO (fun k hk=>hF F (by simp) k hk) (fun j h1 h2=>hfree' j h1 (by omega))
  obtain⟨g2,le2,out2,b2,s2,l2⟩:=BK (rs:=rs) (n:=n+(Aa .own s (RT.hd z) n).2.length) s1 (fun t ht=>hd t (by simp[ht])) hV (fun G hG k hk=>by
   obtain⟨h1,h2,h3,h4⟩:=hF G (by simp[hG]) k hk
   refine⟨h1,h2,fun ho=>?_,fun j b hb hbo=>by rw[b1];exact h4 j b hb hbo⟩
   rcases o1 k ho with h5 | h5
   ·exact h3 h5
   ·exact hdis k h5 G hG hk) (fun j h1 h2=>by rw[AS j (by omega)];exact hfree' j (by omega) (by omega))
  have hmm:more n (Av (s :: rs) z n).2 fr.rw=more (n+(Aa .own s (RT.hd z) n).2.length) (Av rs (RT.tl z) (n+(Aa .own s (RT.hd z) n).2.length)).2 (more n (Aa .own s (RT.hd z) n).2 fr.rw):=by
   rw[CY];rfl
  refine⟨g2,le1.trans le2,fun j hj=>?_,b2.trans b1,?_,?_⟩
  ·simp only[Av,Aqs] at hj;rw[out2 j (by omega),AS j (by omega)]
  ·rw[hmm];exact s2
  ·refine⟨u,us',rfl,⟨cs,eu,l1.mono le2,fun hb=>?_⟩,l2⟩;rw[← l1.len,OC.len s hO,Sh.n_one hb]
end Go.Proofs.YteheolldcpjkcaaGreat.X
namespace Go.Proofs.YteheolldcpjkcaaGreat.X
open Go Go.RowKit
variable [CW]
variable {C:Cx} {fr:Fr} {big:FF} {g:Sg} {a:Act} {w:World} {ch:List (Nat×Bool)} {E:Env}
theorem Sim.zero (hs:Sim C big g a w) {s:Sh} (hd:s.data=true) {zs:List Value} (hz:Cc s=some zs) (fr:Fr) (hfree:∀ j,fr.rw.length≤j→j<fr.rw.length+(Aa .own s s.dfl fr.rw.length).2.length→g.ρ j=none) :
  ∃ g',Kw fr (Aa .own s s.dfl fr.rw.length).2 [] g g'∧g'.β=g.β∧Sim C { big with rw:=more fr.rw.length (Aa .own s s.dfl fr.rw.length).2 big.rw } g' a w∧AC C g' (Aa .own s s.dfl fr.rw.length).1 zs:=by
 obtain⟨g',le,out,hβ,hs',hl,_⟩:=Sim.expandO s (n:=fr.rw.length) hs hd (J0 s hz w fun _=>False) (fun k h=>h.elim) hfree;exact⟨g',⟨le,fun j _=>by rw[hβ],out⟩,hβ,hs',hl⟩
theorem V4 (hE:AG C.P E) (hC:A9 C) (hs:Sim C big g a w) (o:Oper) (t:TypeId) (ho:o.op=.alloc t):AU C g a fr big ((execOp a.eval o).run C.P w) (PH E fr t):=by
 unfold PH;split
 ·rename_i ty hl;cases hd:ty.sh.data
  ·trivial
  ·rw[cond_true];have hT:=(hE.ty _ _ hl).ok;intro _ _ hfree;obtain⟨_,_,_,_,_,us,hu,_⟩:=hT.info;obtain⟨g1,f1,hβ,s1,hr⟩:=hs.zero hd hu fr hfree.ρ;have hi:=hfree.β fr.bx.length (Aqr _) (by simp)
   have hi1:g1.β fr.bx.length=none:=by rw[hβ];exact hi
   have hlen:=BT _ hu;have hcl:(Ay ty.sh.agg us).cells=us.toArray:=by rw[← Aqw (xs:=(Ay ty.sh.agg us).cells),B7 (fun hb=>by rw[hlen,Sh.n_one hb]) hr.one]
   have hrun:(execOp a.eval o).run C.P w=.ok (.value (.pointer (some ⟨w.heap.size,0,none⟩))) (w.alloc (.cells us.toArray t)):=by
    simp only[execOp,ho,Instr.alloc,Aqu,hT.zero hu,Aqp,newVar,newRow,newObj,hcl];rfl
   refine⟨_,_,_,hrun,.inl rfl,g1.box fr.bx.length w.heap.size,⟨f1.le.trans (Sg.le_box hi1 _),fun j hj=>?_,fun j hj=>f1.ρ j hj⟩,by simpa only[grow,BE,BL,B2] using s1.mkBox hC hi1 us _ hr t,fun av hav=>?_⟩
   ·have hne:j≠fr.bx.length:=fun e=>hj (by subst e;simp)
    rw[Sg.box_ne _ _ hne,hβ]
   ·cases hav;exact VR.of1 ⟨w.heap.size,Sg.box_at _ _ _,rfl⟩
 ·trivial
theorem O7 {p1 p2:Nat→Option (Nat×Nat)} (h:∀ i q,p1 i=some q→p2 i=some q):∀ {l:List (Nat×Value)} {cs r:Array Value},Instr.fill p1 cs l=some r→Instr.fill p2 cs l=some r
 | [],_,_,hf=>hf
 | (i,v) :: rest,cs,r,hf=>by
  simp only[Instr.fill] at hf ⊢;cases hp:p1 i with
  | none=>rw[hp] at hf;cases hf
  | some q =>
   rw[hp] at hf;rw[h i q hp];obtain⟨off,size⟩:=q;simp only at hf ⊢;split at hf
   ·cases hf
   ·rename_i hc;rw[if_neg hc];exact O7 h hf
theorem T2 {P:Program} {t:Nat} {ty:Ty} {s:Sh} {fs:List (Nat×Nat)} (hT:AfB P t ty) (hp:ty.parts=some (s,fs)):ty.sh=s∧s.agg=true∧∀ {zs:List Value},Cc s=some zs→∀ {l:List (Nat×Value)} {r:Array Value},Instr.fill (fs.toArray[·]?) zs.toArray l=some r→P.built t l=some r:=by
 obtain⟨⟨i,z0,hi,hsz,hz0,zs0,hzs0,hzz⟩,_⟩:=hT.ok;have hd:=hT.desc;cases ty with
 | sc _=>cases hp
 | sl _ _ _=>cases hp
 | st s' fs' =>
  cases hp;obtain⟨hag,fds,hu,hpl,_⟩:=hd;refine⟨rfl,hag,fun {zs} hz {l r} hf=>?_⟩;simp only[Ty.sh] at hzs0 hzz;rw[hz] at hzs0;cases hzs0;rw[hag,Cd] at hzz;unfold Program.built;rw[hi,hu];simp only[hz0,hpl,hzz,Value.cells];exact hf
 | ar s' e n =>
  cases hp;obtain⟨hag,hu,_,ie,hie,hise⟩:=hd;refine⟨rfl,hag,fun {zs} hz {l r} hf=>?_⟩;simp only[Ty.sh] at hzs0 hzz;rw[hz] at hzs0;cases hzs0;rw[hag,Cd] at hzz;unfold Program.built;rw[hi,hu];simp only[hz0,hie,hzz,Value.cells,hise];refine O7 (fun i q hq=>?_) hf;have hq:((List.range n).map fun i=>(i,1))[i]? = some q:=by simpa using hq
  rw[Aqt] at hq;cases hr:(List.range n)[i]? with
  | none=>rw[hr] at hq;cases hq
  | some k =>
   rw[hr] at hq;obtain⟨_,e⟩:=Aqz.1 hr;rw[Ar0] at e;subst e;simp only[AqU,AqV] at hq;rw[← hq,Nat.mul_one]
theorem V5 (hE:AG C.P E) (_:A9 C) (hs:Sim C big g a w) (hsub:Sub fr big) (hc:Holds a ch) (o:Oper) (t:TypeId) (parts:Array (Nat×Operand)) (ho:o.op=.build t parts):AU C g a fr big ((execOp a.eval o).run C.P w) (PN E fr ch t parts.toList):=by
 unfold PN;split
 ·rename_i s fs hl0;obtain⟨ty,hl,hty⟩:=Aq2.1 hl0;cases hd:s.data
  ·trivial
  ·rw[cond_true];simp only;split
   ·rename_i cs hb;intro _ _ hfree;have hT:=hE.ty _ _ hl;obtain⟨hsh,hag,hbu⟩:=T2 hT hty;obtain⟨i,z0,hi,hsz,hz0,zs,hzs,hzz⟩:=hT.ok.info;rw[hsh] at hzs;obtain⟨g1,f1,hβ,s1,hzr⟩:=hs.zero hd hzs fr hfree.ρ;have hsub1:Sim C fr.f g1 a w:={ hs.sub hsub with tied:=fun i q hi=>f1.le.ρ i q (hs.tied i q hi),tie:=fun k hk=>f1.le.β 0 k (hs.tie k hk),slots:=(hs.sub hsub).mono_slots f1.le,boxes:=fun j b hj=>((hs.sub hsub).boxes j b hj).mono f1.le,bdisj:=fun i j b b' k h1 h2 ho k1 k2=>(hs.sub hsub).bdisj i j b b' k h1 h2 ho (by rw[← hβ];exact k1) (by rw[← hβ];exact k2),rows:=fun j r hj=>((hs.sub hsub).rows j r hj).mono f1.le fun _ _ h=>h,rdisj:=fun i j r r' q q' k h1 h2 m1 m2 q1 q2=>(hs.sub hsub).rdisj i j r r' q q' k h1 h2 m1 m2 (((hs.sub hsub).rows i r h1).old f1.le q1) (((hs.sub hsub).rows j r' h2).old f1.le q2),rbox:=fun i r q j b k h1 m1 q1 hb ho hk=>(hs.sub hsub).rbox i r q j b k h1 m1 (((hs.sub hsub).rows i r h1).old f1.le q1) hb ho (by rw[← hβ];exact hk) }
    obtain⟨us',hf,hr⟩:=Pm hsub1 hc fs hzr hb;have hbt:C.P.built t (parts.map fun (i,x)=>(i,a.eval x)).toList=some us'.toArray:=by
     rw[Asj];exact hbu hzs hf
    refine⟨.value (.agg us'.toArray),_,w,?_,.inl rfl,g1,f1,by simpa only[grow,Ah,BL,B2] using s1,fun av hav=>?_⟩
    ·simp only[execOp,ho,Aqu,run_build w t _ _ hbt,Aqp];rfl
    ·cases hav;exact⟨us',rfl,hr,by simp⟩
   ·trivial
 ·trivial
end Go.Proofs.YteheolldcpjkcaaGreat.X
