/- Stores: into variables, into rows. -/
import Derived.Test.YteheolldcpjkcaaGreatQvXOwn
import Derived.MapKept
import Derived.WideKeyRuns
set_option linter.unusedSimpArgs false
set_option linter.unusedVariables false
set_option linter.unusedSectionVars false
namespace Go.Proofs.YteheolldcpjkcaaGreat.X
open Go Go.RowKit
variable [CW]
variable {C:Cx} {fr:Fr} {big:FF} {g:Sg} {a:Act} {w w':World} {ch:List (Nat×Bool)} {E:Env}
theorem AE.setRow (w:World) (k:Nat) (cs:Array Value):AE (fun j=>j=k) w (w.setRow k cs) :=
 ⟨CW.mono (Aqr _),rfl,rfl,rfl,by simp[World.setRow],fun j _ hj=>setRow_other w k j cs hj⟩
theorem NU (hC:A9 C) (hs:Sim C big g a w) (hsub:Sub fr big) (o:Oper) (t:TypeId) (x y:Operand) (ho:o.op=.store t x y) {s:Sh} (hT:Fu C.P t s) {i off:Nat} {ag:Bool} {vs:List Lf} (hx:LfR C g (.box i off) (a.eval x)) (hy:VR C g ag vs (a.eval y)) :
  AU C g a fr big ((execOp a.eval o).run C.P w) (HN fr i off s.n vs):=by
 unfold HN;split
 ·rename_i b hb;cases hc:(b.own&&Bz b.cs&&Nat.ble (off+s.n) b.cs.length&&Nat.beq vs.length s.n)
  ·trivial
  ·rw[cond_true];simp only[Aql] at hc;obtain⟨⟨⟨hown,hpl⟩,hle⟩,hvl⟩:=hc;have hle:=CB hle;have hvl:vs.length=s.n:=Aqm hvl;intro _ _ _;obtain⟨us,e,hr,hag⟩:=hy;obtain⟨k,hk,ep⟩:=hx;have hbig:=hsub.bx i b hb;obtain⟨k',cur,t',hk',hh,hcr,hfr,_⟩:=(hs.boxes i b hbig).toCells hpl;rw[hk] at hk';cases hk';have hcl:(a.eval y).cells.toList=us:=by rw[e];exact B7 (fun hb'=>by rw[hr.len,hag hb']) hr.one
   have hul:=hr.len;have hcu:=hcr.len;have hrun:=FH (P:=C.P) hT w k off cur t' hh (a.eval y) us hcl (by omega) hr.one (by simp at hcu;omega)
   have hrun':(execOp a.eval o).run C.P w=.ok .skip (w.setRow k (cur.toList.take off++us++cur.toList.drop (off+us.length)).toArray):=by
    simp only[execOp,ho,ep,Instr.storeAt,Instr.sureAddr,Aqu,AqO,Aqp,hrun]
   have hM:=AE.setRow w k (cur.toList.take off++us++cur.toList.drop (off+us.length)).toArray;refine⟨_,undef,_,hrun',.inr ⟨rfl,rfl⟩,g,⟨Sg.Le.refl g,fun _ _=>rfl,fun _ _=>rfl⟩,?_,fun _ e=>by cases e⟩
   have hz:C.w0.heap.size≤k∨C.S k:=hfr hown;have hrows:=hs.rows_moves hC hM (fun j hj=>hj▸hz) (fun i' r q j hr' hm hq hF hj=>by
    subst hj;exact hs.rbox i' r q i b j hr' hm hq hbig hown hk hF)
   simp only[grow,Ah,BL,B2];refine { hs with kept:=hM.kept hs.kept (fun j hj=>hj▸hz),rows:=hrows,boxes:=?_,bdisj:=?_,rbox:=?_ }
   ·intro i' b' hb';change (if i'=i then some { b with cs:=E4 b.cs off vs } else big.bx i')=some b' at hb'
    split at hb'
    ·rename_i ei;subst ei;cases hb';refine Ch.ofCells ⟨k,_,t',hk,setRow_heap w k cur _ t' (0,0) hh,?_,fun _=>hz,fun e=>by rw[hown] at e;cases e⟩
     have:=hcr.setAt hr off;simpa[setAt] using this
    ·rename_i ei;refine (hs.boxes i' b' hb').moves hM fun k' hk' hd=>?_;subst hd;exact ei (hs.bdisj i i' b b' k' hbig hb' hown hk hk').symm
   ·intro i1 j1 b1 b2 k1 h1 h2 ho1 hk1 hk2;change (if i1=i then some { b with cs:=E4 b.cs off vs } else big.bx i1)=some b1 at h1
    change (if j1=i then some { b with cs:=E4 b.cs off vs } else big.bx j1)=some b2 at h2
    have f1:∃ b1',big.bx i1=some b1'∧b1'.own=true:=by
     split at h1
     ·rename_i e1;subst e1;exact⟨b,hbig,hown⟩
     ·exact⟨b1,h1,ho1⟩
    have f2:∃ b2',big.bx j1=some b2':=by
     split at h2
     ·rename_i e1;subst e1;exact⟨b,hbig⟩
     ·exact⟨b2,h2⟩
    obtain⟨b1',f1,f1'⟩:=f1;obtain⟨b2',f2⟩:=f2;exact hs.bdisj i1 j1 b1' b2' k1 f1 f2 f1' hk1 hk2
   ·intro i1 r1 q1 j b1 k1 h1 m1 hq1 hb1 ho1 hk1;change (if j=i then some { b with cs:=E4 b.cs off vs } else big.bx j)=some b1 at hb1
    split at hb1
    ·rename_i e1;subst e1;exact hs.rbox i1 r1 q1 j b k1 h1 m1 hq1 hbig hown hk1
    ·exact hs.rbox i1 r1 q1 j b1 k1 h1 m1 hq1 hb1 ho1 hk1
 ·trivial
theorem Sim.setRow (hC:A9 C) (h:Sim C big g a w) {i:Nat} {r r':Ac} {q:B3} (hr:big.rw i=some r) (hm:r.m.mine=true) (hq:g.ρ i=some q) (hrm:r'.m=r.m) (hrn:r'.s.n=r.s.n) {w':World} {D:FP} (hM:AE D w w') (hD:∀ k,D k→q.F k)
  (hO:Bq r'.e r'.s w' q.F q.v r'.xs) {rw':Nat→Option Ac} (hrw:∀ j r0,rw' j=some r0→(j=i∧r0=r')∨(j≠i∧big.rw j=some r0∧∀ p pa,r0.m=.bor p pa→p≠i)) (hrw2:∀ j r0,big.rw j=some r0→r0.m.mine=true→j≠i→rw' j=some r0) :
  Sim C { big with rw:=rw' } g a w':=by
 have hz:=((h.rows i r hr).mine hm hq).2;have hDz:∀ k,D k→C.w0.heap.size≤k∨C.S k:=fun k hk=>hz k (hD k hk);have hR:∀ k,D k→¬ C.R k:=fun k hk=>Own.notR hC h ⟨i,r,q,hr,hm,hq,hD k hk⟩;have mineOf:∀ j r0,rw' j=some r0→r0.m.mine=true→∃ r1,big.rw j=some r1∧r1.m.mine=true:=by
  intro j r0 hj hm0;rcases hrw j r0 hj with ⟨rfl,rfl⟩ | ⟨_,h1,_⟩
  ·exact⟨r,hr,hm⟩
  ·exact⟨r0,h1,hm0⟩
 refine { h with kept:=hM.kept h.kept hDz,boxes:=?_,rows:=?_,rdisj:=?_,rbox:=?_ }
 ·intro j b hb;refine (h.boxes j b hb).moves hM fun k hk hd=>?_;cases ho:b.own with
  | true=>exact Own.notBox h ⟨i,r,q,hr,hm,hq,hD k hd⟩ hb ho hk
  | false =>
   obtain⟨k',o,hk',_,_,_,hr'⟩:=h.boxes j b hb;rw[hk] at hk';cases hk';exact hR k hd (hr' ho)
 ·intro j r0 hj;change rw' j=some r0 at hj;rcases hrw j r0 hj with ⟨rfl,rfl⟩ | ⟨hji,h1,h2⟩
  ·obtain⟨q',A,n,c,hq',hv,hsz,hl,hZ⟩:=h.rows j r hr;rw[hq] at hq';cases hq';refine⟨q,A,n,c,hq,hv,by rw[hsz,hrn],fun k hk=>AqN (hl k hk) hM.size,?_⟩
   cases hmm:r.m with
   | own=>rw[B4,hmm] at hZ;rw[B4,hrm,hmm];exact⟨hO,hZ.2⟩
   | io=>rw[B4,hmm] at hZ;rw[B4,hrm,hmm];exact⟨hO,hZ.2⟩
   | ro=>rw[hmm] at hm;cases hm
   | bor p pa=>rw[hmm] at hm;cases hm
  ·refine (h.rows j r0 h1).moves hM (fun qj hqj k hk hd=>?_) (fun p pa e rp hrp hmp=>⟨⟨rp,hrw2 p rp hrp hmp (h2 p pa e),hmp,rfl⟩,fun qp hqp k hk hd=>?_⟩) (fun p pa rp qp e hrp hmp hqp A n c hv hn=>((h.rows p rp hrp).mine hmp hqp).1.block hv)
   ·obtain⟨q',A,n,c,hq',hv,hsz,hl,hZ⟩:=h.rows j r0 h1;rw[hqj] at hq';cases hq';cases hmm:r0.m with
    | own=>exact hji (h.rdisj i j r r0 q qj k hr h1 hm (by rw[hmm];rfl) hq hqj (hD k hd) hk).symm
    | io=>exact hji (h.rdisj i j r r0 q qj k hr h1 hm (by rw[hmm];rfl) hq hqj (hD k hd) hk).symm
    | ro=>rw[B4,hmm] at hZ;exact hR k hd (hZ.2 k hk)
    | bor p pa =>
     rw[B4,hmm] at hZ;obtain⟨_,rp,qp,hrp,hmp,hqp,hFp,_⟩:=hZ;exact h2 p pa hmm (h.rdisj i p r rp q qp k hr hrp hm hmp hq hqp (hD k hd) (hFp k hk)).symm
   ·exact h2 p pa e (h.rdisj i p r rp q qp k hr hrp hm hmp hq hqp (hD k hd) hk).symm
 ·intro i1 j1 r1 r2 q1 q2 k h1 h2 m1 m2;obtain⟨r1',f1,f1'⟩:=mineOf i1 r1 h1 m1;obtain⟨r2',f2,f2'⟩:=mineOf j1 r2 h2 m2;exact h.rdisj i1 j1 r1' r2' q1 q2 k f1 f2 f1' f2'
 ·intro i1 r1 q1 j b k h1 m1;obtain⟨r1',f1,f1'⟩:=mineOf i1 r1 h1 m1;exact h.rbox i1 r1' q1 j b k f1 f1'
theorem Abq {s:Sh}:∀ {off n:Nat} {u:Sh} {f:s.T→u.T} {gg:s.T→u.T→s.T},Hy s off n=some ⟨u,f,gg⟩→u.flat=true →
  ∀ {w w':World} {F F':FP} {x y cs us},OC s w F x cs→OC u w' F' y us→OC s w F (gg x y) (setAt cs off us):=by
 have flatOC:∀ (u:Sh),u.flat=true→∀ {w w':World} {F F':FP} {y us},OC u w' F' y us→OC u w F y us:=by
  intro u hu w w' F F' y us h
  induction u generalizing F F' us with
  | int k=>exact h
  | bool=>exact h
  | str=>exact h
  | cons a b iha ihb =>
   simp only[Sh.flat,Aql] at hu;obtain⟨c1,c2,rfl,_,_,_,_,_,h1,h2⟩:=h;exact⟨c1,c2,rfl,fun _=>False,fun _=>False,fun _ h=>h.elim,fun _ h=>h.elim,fun _ h=>h.elim,iha hu.1 h1,ihb hu.2 h2⟩
  | list _ _ _=>cases hu
  | fn1 _ _ _ _=>cases hu
  | fn2 _ _ _ _ _ _=>cases hu
  | ol _ _ _=>cases hu
 induction s with
 | cons a b iha ihb =>
  intro off n u f gg h hu w w' F F' x y cs us hO hy;simp only[Hy] at h;cases h1:(Nat.beq off 0&&Nat.beq n (a.n+b.n))
  ·rw[h1,cond_false] at h;cases h2:(Nat.beq off 0&&Nat.beq n a.n)
   ·rw[h2,cond_false] at h;cases h3:Nat.ble a.n off
    ·rw[h3,cond_false] at h;have hlt:off<a.n:=by
      rcases Arf off a.n with hh | hh
      ·exact hh
      ·rw[Nat.ble_eq_true_of_le hh] at h3;cases h3
     split at h
     ·rename_i t f' g' hb;cases h;obtain⟨hun,hle,_⟩:=Nl hb;obtain⟨c1,c2,rfl,G,H,hG,hH,hd,o1,o2⟩:=hO;have l1:c1.length=a.n:=OC.len a o1;have l2:=OC.len _ hy;have e:setAt (c1++c2) off us=setAt c1 off us++c2:=by
       simp only[setAt];rw[Arc (by omega),AsK (by omega)]
       simp only[Aqv]
      rw[e];exact⟨_,c2,rfl,G,H,hG,hH,hd,iha hb hu o1 hy,o2⟩
     ·cases h
    ·rw[h3,cond_true] at h;have hge:a.n≤off:=Nat.le_of_ble_eq_true h3;split at h
     ·rename_i t f' g' hb;cases h;obtain⟨c1,c2,rfl,G,H,hG,hH,hd,o1,o2⟩:=hO;have l1:c1.length=a.n:=OC.len a o1;have e:setAt (c1++c2) off us=c1++setAt c2 (off-a.n) us:=by
       simp only[setAt];rw[ArM,AqX (by omega),Arv,AqZ (by omega),AqM,l1]
       have:off+us.length-a.n=off-a.n+us.length:=by omega
       rw[this];simp only[Aqv]
      rw[e];exact⟨c1,_,rfl,G,H,hG,hH,hd,o1,ihb hb hu o2 hy⟩
     ·cases h
   ·rw[h2] at h;cases h;simp only[Aql] at h2;have e0:off=0:=Aqm h2.1;subst e0;obtain⟨c1,c2,rfl,G,H,hG,hH,hd,o1,o2⟩:=hO;have e:setAt (c1++c2) 0 us=us++c2:=by
     have l1:=OC.len a o1;have l2:=OC.len a hy;simp only[setAt,Ase,AqM,AqQ];rw[Arv,AqZ (by omega),AqM,show us.length-c1.length=0 by omega,Aqq]
    rw[e];exact⟨us,c2,rfl,G,H,hG,hH,hd,flatOC a hu hy,o2⟩
  ·rw[h1] at h;cases h;simp only[Aql] at h1;have e0:off=0:=Aqm h1.1;subst e0;have e:setAt cs 0 us=us:=by
    have l1:=OC.len _ hO;have l2:=OC.len _ hy;simp only[setAt,Ase,AqM,AqQ];rw[AqZ (by omega),Aq9]
   rw[e];exact flatOC _ hu hy
 | _ =>
  intro off n u f gg h hu w w' F F' x y cs us hO hy;simp only[Hy] at h;cases h1:(Nat.beq off 0&&Nat.beq n 1)
  ·rw[h1] at h;cases h
  ·rw[h1] at h;cases h;simp only[Aql] at h1;have e0:off=0:=Aqm h1.1;subst e0;have e:setAt cs 0 us=us:=by
    have l1:=OC.len _ hO;have l2:=OC.len _ hy;simp only[setAt,Ase,AqM,AqQ];rw[AqZ (by omega),Aq9]
   rw[e];exact flatOC _ hu hy
theorem Uv (cs c us:List Value) (p off:Nat) (h1:p+c.length≤cs.length) (h2:off+us.length≤c.length) (hc:(cs.drop p).take c.length=c):setAt cs (p+off) us=setAt cs p (setAt c off us):=by
 have hl:=Ho h2;have hcp:cs=cs.take p++c++cs.drop (p+c.length):=by
  rw[Aqv]
  conv=>lhs;rw[← Ar7 p cs,← Ar7 c.length (cs.drop p),hc,ArH]
 have hpl:(cs.take p).length=p:=by simp;omega
 simp only[setAt] at hl ⊢;rw[hl];have e1:cs.take (p+off)=cs.take p++c.take off:=by
  conv=>lhs;rw[hcp]
  rw[Aqv,ArM,AqX (by omega),hpl,Nat.add_sub_cancel_left,ArM,show off-c.length=0 by omega,Ase,Aq9]
 have e2:cs.drop (p+off+us.length)=c.drop (off+us.length)++cs.drop (p+c.length):=by
  conv=>lhs;rw[hcp]
  rw[Aqv,Arv,AqZ (by omega),AqM,hpl,Arv,show p+off+us.length-p=off+us.length by omega,show off+us.length-c.length=0 by omega,Aqq]
 rw[e1,e2];simp only[Aqv]
theorem GX (hC:A9 C) (hs:Sim C big g a w) (hsub:Sub fr big) (o:Oper) (t:TypeId) (x y:Operand) (ho:o.op=.store t x y) {s:Sh} (hT:Fu C.P t s) {i off:Nat} {j:Int} {ag:Bool} {vs:List Lf} (hx:LfR C g (.elem i j off) (a.eval x)) (hy:VR C g ag vs (a.eval y)) :
  AU C g a fr big ((execOp a.eval o).run C.P w) (FU fr i j off s.n vs):=by
 unfold FU;split
 ·rename_i r hr;cases hc:(r.m.mine&&Nat.beq vs.length s.n)
  ·trivial
  ·rw[cond_true];simp only[Aql] at hc;obtain⟨hm,hvl⟩:=hc;have hvl:vs.length=s.n:=Aqm hvl;split
   ·rename_i u f gg hsb;split
    ·rename_i yv rw1 htk;cases hf:u.flat
     ·trivial
     ·rw[cond_true];intro _ hfull _;have hfb:=hfull rfl;subst hfb;obtain⟨us,e,hrl,hag⟩:=hy;obtain⟨_,_,c1,c2,e12,h2,hOy⟩:=Bg (g:=g) (w:=w) (C:=C) (m:=some i) (fun m hm=>by
       have:m=.own:=by simpa using hm
       subst this;exact⟨rfl,fun _=>rfl⟩) u htk hrl hs.tab
      cases h2;have e12':us=c1:=by rw[e12,Aq9]
      subst e12';obtain⟨q,A,n,c,hq,hv,h0,hj,ep⟩:=hx;have hO:=((hs.rows i r hr).mine hm hq).1;have hz:q.sz=r.s.n:=by
       obtain⟨q',_,_,_,hq',_,hz,_⟩:=hs.rows i r hr;rw[hq] at hq';cases hq';exact hz
      obtain⟨hun,hle,_⟩:=Nl hsb;obtain⟨css,how,hlen,hcell,hblk,G,hG,hd,hMm⟩:=hO;have hxl:r.xs.length=n:=by
       obtain⟨A',c',e',_⟩:=BO how;rw[hv] at e';injection e' with _ e' _
       exact e'.symm
      rcases how.2 with ⟨e1,e2⟩ | ⟨gb,cap,cur,e1,hb0,hh,hnc,hcm,hcs,htake⟩
      ·omega
      ·rw[hv] at e1;injection e1 with e1 e3 e4;injection e1 with e1;subst e1;subst e4;have hjl:j.toNat<r.xs.length:=by omega
       have hcj:css[j.toNat]? = some css[j.toNat]:=Aqo (by omega)
       obtain⟨hclen,_⟩:=hcell _ (ArV (show j.toNat<css.length by omega))
       have hul:=hrl.len;have hOx:=hMm j.toNat _ _ (getD_some r.xs j.toNat r.s.dfl hjl) hcj;have hOn:=Abq hsb hf hOx hOy;have hcl:(a.eval y).cells.toList=us:=by rw[e];exact B7 (fun hb'=>by rw[hrl.len,hag hb']) hrl.one
       have hjn:(j.toNat+1)*r.s.n≤r.xs.length*r.s.n:=Aq0 _ hjl;have hcn:r.xs.length*r.s.n≤c*r.s.n:=Aq0 _ (by omega)
       rw[Ard] at hjn;have hrun:=FH (P:=C.P) hT w gb (j.toNat*r.s.n+off) cur r.e hh (a.eval y) us hcl (by omega) hrl.one (by omega)
       have ep':a.eval x=.pointer (some ⟨gb,j.toNat*r.s.n+off,none⟩):=by rw[ep,hz,C1]
       have hrun':(execOp a.eval o).run C.P w=.ok .skip (w.setRow gb (setAt cur.toList (j.toNat*r.s.n+off) us).toArray):=by
        simp only[execOp,ho,ep',Instr.storeAt,Instr.sureAddr,Aqu,AqO,Aqp,hrun];rfl
       have hM:=AE.setRow w gb (setAt cur.toList (j.toNat*r.s.n+off) us).toArray;have hgbF:q.F gb:=hblk gb (by rw[hv];rfl)
       refine⟨_,undef,_,hrun',.inr ⟨rfl,rfl⟩,g,⟨Sg.Le.refl g,fun _ _=>rfl,fun _ _=>rfl⟩,?_,fun _ e=>by cases e⟩
       simp only[grow,Ah,BL,B2];have hcsl:css.flatten.length=r.xs.length*r.s.n:=by rw[Ci (fun d hd=>(hcell d hd).1),hlen]
       have hsa:(setAt css[j.toNat] off us).length=css[j.toNat].length:=Ho (by omega)
       have hset:setAt css.flatten (j.toNat*r.s.n+off) us=(css.set j.toNat (setAt css[j.toNat] off us)).flatten:=by
        rw[Uv css.flatten css[j.toNat] us (j.toNat*r.s.n) off (by omega) (by omega) (flat_drop (fun d hd=>(hcell d hd).1) hcj),GT _ _ (fun d hd=>(hcell d hd).1) (by omega) (by omega)]
       have hnew:Bq r.e r.s (w.setRow gb (setAt cur.toList (j.toNat*r.s.n+off) us).toArray) q.F q.v (r.xs.set j.toNat (gg (r.xs.getD j.toNat r.s.dfl) yv)):=by
        refine⟨css.set j.toNat (setAt css[j.toNat] off us),⟨?_,.inr ⟨gb,c,(setAt cur.toList (j.toNat*r.s.n+off) us).toArray,?_,Ari _,setRow_heap w gb cur _ r.e (0,0) hh,?_,hcm,?_,?_⟩⟩,by simp[hlen],?_,hblk,G,hG,hd,?_⟩
        ·rw[Ci (sz:=r.s.n)]
         ·simp[hlen]
         ·intro d hd';rcases Asl hd' with hd' | hd'
          ·exact (hcell d hd').1
          ·rw[hd'];omega
        ·rw[hv,Aq4,hxl]
        ·rw[Aq4];omega
        ·have:(setAt cur.toList (j.toNat*r.s.n+off) us).length=cur.toList.length:=Ho (by simp;omega)
         simpa[hcs] using this
        ·rw[Aq4];show (setAt cur.toList (j.toNat*r.s.n+off) us).take _=_;rw[← hset,← htake];exact take_setAt _ _ _ _ (by omega) (by simp;omega)
        ·intro d hd';rcases Asl hd' with hd' | hd'
         ·exact hcell d hd'
         ·subst hd';exact⟨by omega,OC.one C.P r.s hOn⟩
        ·intro j' x' d hx' hd';rw[As4] at hx' hd';have hkeep:∀ k,G j' k→(w.setRow gb (setAt cur.toList (j.toNat*r.s.n+off) us).toArray).heap[k]? = w.heap[k]?:=fun k hk=>by
          refine setRow_other w gb k _ fun e=>?_;subst e;exact (hG j' k hk).2 (by rw[hv];rfl)
         by_cases hjj:j.toNat=j'
         ·subst hjj;rw[if_pos rfl,if_pos hjl] at hx';rw[if_pos rfl,if_pos (by omega)] at hd'
          cases hx';cases hd';exact OC.same r.s hkeep hOn
         ·rw[if_neg hjj] at hx' hd';exact OC.same r.s hkeep (hMm j' x' d hx' hd')
       refine hs.setRow hC hr hm hq (r':={ r with xs:=r.xs.set j.toNat (gg (r.xs.getD j.toNat r.s.dfl) yv) }) rfl rfl hM (fun k hk=>hk▸hgbF) hnew (fun j' r0 hj'=>?_) (fun j' r0 hj' hm0 hne=>?_)
       ·rw[Aq,AK] at hj';obtain⟨h1,h2⟩:=hj';split at h1
        ·rename_i hij;cases h1;exact .inl ⟨hij.1.symm,rfl⟩
        ·rename_i hij;exact .inr ⟨fun e=>hij ⟨e.symm,A4 hr⟩,h1,h2⟩
       ·rw[Aq,AK,if_neg (fun h=>hne h.1.symm)];exact⟨hj',fun p pa e=>by rw[e] at hm0;cases hm0⟩
    ·trivial
   ·trivial
 ·trivial
 where
 take_setAt (cs us:List Value) (p m:Nat) (h:p+us.length≤m) (hm:m≤cs.length):(setAt cs p us).take m=setAt (cs.take m) p us:=by
  have e1:(cs.take p++us).length=p+us.length:=by rw[Aqs,AqT];omega
  simp only[setAt];rw[ArM,AqX (l:=cs.take p++us) (by omega),e1,AsW,AsN (by omega),List.drop_take]
 flat_drop {sz:Nat}:∀ {css:List (List Value)} {j:Nat} {c:List Value},(∀ d∈css,d.length=sz)→css[j]? = some c→(css.flatten.drop (j*sz)).take c.length=c
  | d :: r,0,c,h,hc=>by
   simp at hc;subst hc;simp
  | d :: r,j+1,c,h,hc=>by
   have hd:=h d (by simp)
   rw[AqI,Arv,AqZ (by rw[Ard];omega),AqM,show (j+1)*sz-d.length=j*sz by rw[Ard];omega]
   exact flat_drop (fun d hd=>h d (by simp[hd])) (by simpa using hc)
theorem Wq (hE:AG C.P E) (hC:A9 C) (hs:Sim C big g a w) (hsub:Sub fr big) (hc:Holds a ch) (o:Oper) (t:TypeId) (x y:Operand) (ho:o.op=.store t x y):AU C g a fr big ((execOp a.eval o).run C.P w) (PJ E fr ch t x y):=by
 have ty:∀ n ag,tyN E t=some (n,ag)→∃ s:Sh,Fu C.P t s∧s.n=n:=by
  intro n ag h;unfold tyN at h;split at h
  ·rename_i ty hl;cases h;exact⟨ty.sh,(hE.ty _ _ hl).ok,rfl⟩
  ·cases h
 unfold PJ;split
 ·rename_i i off ag vs n ag' h1 h2 h3;obtain⟨s,hT,hn⟩:=ty _ _ h3;subst hn;exact NU hC hs hsub o t x y ho hT (As (hs.sub hsub) hc h1) (Cq (hs.sub hsub) hc h2)
 ·rename_i i j off ag vs n ag' h1 h2 h3;obtain⟨s,hT,hn⟩:=ty _ _ h3;subst hn;exact GX hC hs hsub o t x y ho hT (As (hs.sub hsub) hc h1) (Cq (hs.sub hsub) hc h2)
 ·trivial
end Go.Proofs.YteheolldcpjkcaaGreat.X
namespace Go.Proofs.YteheolldcpjkcaaGreat.X
open Go Go.RowKit
variable [CW]
variable {P:Program} {C:Cx} {fr:Fr} {big:FF} {g:Sg} {a:Act} {w w':World} {ch:List (Nat×Bool)} {E:Env}
theorem Ce:(s:Sh)→s.flat=true→∀ x:s.T,(cellsF s x).length=s.n
 | .int _,_,_ | .bool,_,_ | .str,_,_=>rfl
 | .cons a b,h,x=>by
  simp only[Sh.flat,Aql] at h;simp[cellsF,Sh.n,Ce a h.1 x.1,Ce b h.2 x.2]
theorem Fz:(s:Sh)→∀ x:s.T,∀ u∈cellsF s x,u.oneCell'=true
 | .int _,_,u,h | .bool,_,u,h | .str,_,u,h=>by simp only[cellsF,Ara] at h;subst h;rfl
 | .cons a b,x,u,h=>by
  simp only[cellsF,Aqy] at h;rcases h with h | h
  ·exact Fz a x.1 u h
  ·exact Fz b x.2 u h
 | .list _ _,_,_,h | .fn1 _ _,_,_,h | .fn2 _ _ _,_,_,h | .ol _ _,_,_,h=>by simp[cellsF] at h
theorem GY:(s:Sh)→s.flat=true→Cc s=some (cellsF s s.dfl)
 | .int _,_ | .bool,_ | .str,_=>rfl
 | .cons a b,h=>by
  simp only[Sh.flat,Aql] at h;simp[Cc,GY a h.1,GY b h.2,cellsF,Sh.dfl]
theorem CC (m:Md):(s:Sh)→s.flat=true→∀ (x:s.T) (n:Nat),AC C g (Aa m s x n).1 (cellsF s x)
 | .int _,_,_,_ | .bool,_,_,_ | .str,_,_,_=>⟨_,_,rfl,rfl,rfl⟩
 | .cons a b,h,x,n=>by
  simp only[Sh.flat,Aql] at h;exact (CC m a h.1 x.1 n).append (CC m b h.2 x.2 _)
theorem Dk (rw:List (Option Ac)):(s:Sh)→s.flat=true→∀ {ls r:List Lf} {x:s.T} {us:List Value},Az rw s ls=some (x,r)→AC C g ls us→∃ t,us=cellsF s x++t∧AC C g r t
 | .int k,_,ls,r,x,us,h,hl=>by
  simp only[Az] at h;split at h
  ·split at h
   ·rename_i k' n r' e;cases h;subst e;obtain⟨u,t,rfl,hu,ht⟩:=hl;cases hu;exact⟨t,rfl,ht⟩
   ·cases h
  ·cases h
 | .bool,_,ls,r,x,us,h,hl=>by
  simp only[Az] at h;split at h
  ·cases h;obtain⟨u,t,rfl,hu,ht⟩:=hl;cases hu;exact⟨t,rfl,ht⟩
  ·cases h
 | .str,_,ls,r,x,us,h,hl=>by
  simp only[Az] at h;split at h
  ·cases h;obtain⟨u,t,rfl,hu,ht⟩:=hl;cases hu;exact⟨t,rfl,ht⟩
  ·cases h
 | .cons a b,hf,ls,r,x,us,h,hl=>by
  simp only[Sh.flat,Aql] at hf;simp only[Az] at h;split at h
  ·rename_i x1 l1 h1;split at h
   ·rename_i y1 l2 h2;cases h;obtain⟨t,rfl,ht⟩:=Dk rw a hf.1 h1 hl;obtain⟨t',rfl,ht'⟩:=Dk rw b hf.2 h2 ht;exact⟨t',by simp[cellsF],ht'⟩
   ·cases h
  ·cases h
theorem H4 {rw:List (Option Ac)} {s:Sh} (hf:s.flat=true) {ls:List Lf} {x:s.T} {us:List Value} (h:DZ (Az rw s ls)=some x) (hl:AC C g ls us):us=cellsF s x:=by
 unfold DZ at h;split at h
 ·rename_i e;cases h;obtain⟨t,rfl,ht⟩:=Dk rw s hf e hl;cases ht;simp
 ·cases h
theorem Rw {s:Sh} {us:List Value} {x:s.T} {ag:Bool} (h:us=cellsF s x) (ha:s.agg=ag):Ay ag us=BI s x:=by subst h;subst ha;rfl
theorem C9:(s:Sh)→s.flat=true→∀ x y:s.T,A7 s x y=true↔x=y
 | .int _,_,x,y=>by simp only[A7];exact beq_iff_eq
 | .bool,_,x,y=>by simp only[A7];exact beq_iff_eq
 | .str,_,x,y=>by simp only[A7];exact MapKept.bytes_beq x y
 | .cons a b,h,x,y=>by
  simp only[Sh.flat,Aql] at h;simp only[A7,Aql,C9 a h.1,C9 b h.2];constructor
  ·rintro⟨h1,h2⟩;exact Prod.ext h1 h2
  ·rintro rfl;exact⟨rfl,rfl⟩
theorem Ev:(s:Sh)→s.flat=true→∀ x y:s.T,Di (cellsF s x) (cellsF s y)=some (A7 s x y)
 | .int _,_,_,_=>by simp[cellsF,Di,eqV,A7]
 | .bool,_,_,_=>by simp[cellsF,Di,eqV,A7]
 | .str,_,_,_=>by simp[cellsF,Di,eqV,A7]
 | .cons a b,h,x,y=>by
  simp only[Sh.flat,Aql] at h;simp only[cellsF];rw[GS _ _ (by rw[Ce a h.1,Ce a h.1]),Ev a h.1,Ev b h.2]
  rfl
def GZ:Sh→List Sh
 | .cons a b=>GZ a++GZ b
 | s=>[s]
theorem Jm:∀ {a b:List Sh} {l:List Kd},E0 (a++b)=some l→∃ la lb,E0 a=some la∧E0 b=some lb∧l=la++lb
 | [],b,l,h=>⟨[],l,rfl,h,rfl⟩
 | s :: a,b,l,h=>by
  simp only[Asi,E0] at h;split at h
  ·rename_i k l' hk hl;cases h;obtain⟨la,lb,h1,h2,rfl⟩:=Jm hl;exact⟨k :: la,lb,by simp[E0,hk,h1],h2,rfl⟩
  ·cases h
theorem Bk.app:∀ {a b:List Kd} {us vs:List Value},Bk a us→Bk b vs→Bk (a++b) (us++vs)
 | [],_,_,_,h,k=>by cases h;exact k
 | _ :: _,_,_,_,⟨u,t,e,hk,h⟩,k=>by subst e;exact⟨u,_,rfl,hk,h.app k⟩
theorem BR:(s:Sh)→s.flat=true→∀ {l:List Kd},E0 (GZ s)=some l→∀ x:s.T,Bk l (cellsF s x)
 | .int k,_,l,h,x=>by cases h;exact⟨_,_,rfl,⟨_,rfl⟩,rfl⟩
 | .bool,_,l,h,x=>by cases h;exact⟨_,_,rfl,⟨_,rfl⟩,rfl⟩
 | .str,_,l,h,x=>by cases h;exact⟨_,_,rfl,⟨_,rfl⟩,rfl⟩
 | .cons a b,hf,l,h,x=>by
  simp only[Sh.flat,Aql] at hf;obtain⟨la,lb,h1,h2,rfl⟩:=Jm h;exact (BR a hf.1 h1 x.1).app (BR b hf.2 h2 x.2)
theorem Ky (e:Bool) (d:Nat) (f:TypeId→Option Nat) (kf:TypeId→List Kd)
  (ih:∀ t n,f t=some n→∀ ag,CJ P t=some ag→(ag=false→n=1)→(kf t).length=n∧∀ xs (w:World),Bk (kf t) xs→(Instr.checkKey e d t (Ay ag xs)).run P w=.ok () w) :
  ∀ (fs:List Field) (off n:Nat),Aba f P fs off=some n→∀ (px xs:List Value) (w:World),px.length=off→Bk (JX kf fs) xs →
   Sem.run P (forIn fs PUnit.unit fun (fd:Field) (_:PUnit)=>if fd.name ≠ "_" then (part fd.type (px++xs).toArray fd.offset >>= fun p=>Instr.checkKey e d fd.type p >>= fun _=>pure (ForInStep.yield PUnit.unit)) else pure (ForInStep.yield PUnit.unit)) w=.ok PUnit.unit w
 | [],off,n,h,px,xs,w,hx,kx=>by simp
 | fd :: r,off,n,h,px,xs,w,hx,kx=>by
  unfold Aba at h;split at h
  ·rename_i hc;split at h
   ·rename_i n1 i ag h1 h2 h3;split at h
    ·rename_i hsz;obtain⟨u1,v1,rfl,ku1,kv1⟩:=Bk.append kx;obtain⟨hlen,hrun⟩:=ih _ _ h1 ag h3 hsz.2;have l1:=ku1.len;have hrec:=Ky e d f kf ih r (off+n1) n h (px++u1) v1 w (by simp;omega) kv1
     have p1:=Nq h3 h2 hsz.1 hsz.2 (px++(u1++v1)) fd.offset (by simp;omega) w
     have e1:((px++(u1++v1)).drop fd.offset).take n1=u1:=by
      rw[hc.2,← hx,Atk,← hlen,← l1,AsB]
     rw[e1] at p1;have p2:=hrun u1 w ku1;rw[Aqv] at hrec;simp only[List.forIn_cons,Aqu,hc.1,ne_eq,not_false_eq_true,if_true,Aqp,p1,p2,AqO];exact hrec
    ·cases h
   ·cases h
  ·cases h
theorem H5 (e:Bool):∀ (m:Nat) (t:TypeId) (n:Nat),eqT P m t=some n→∀ ag,CJ P t=some ag→(ag=false→n=1)→(kds P m t).length=n ∧
  ∀ (d:Nat) (xs:List Value) (w:World),Bk (kds P m t) xs→(Instr.checkKey e (d+m) t (Ay ag xs)).run P w=.ok () w
 | m+1,t,n,h,ag,hag,h1=>by
  refine⟨(LC (m+1) t n h ag hag h1).1,fun d xs w kx=>?_⟩;unfold eqT at h;unfold CJ at hag;rw[show d+(m+1)=(d+m)+1 from rfl,Instr.checkKey]
  cases hu:P.underlying t with
  | none=>rw[hu] at h;cases h
  | some desc =>
   rw[hu] at h hag;simp only[Aqu,run_underlying hu,Aqp];cases desc with
   | int k=>cases hag;simp[kds,hu] at kx;obtain⟨u,t,rfl,⟨n,rfl⟩,ht⟩:=kx;cases ht;rfl
   | bool=>cases hag;simp[kds,hu] at kx;obtain⟨u,t,rfl,⟨n,rfl⟩,ht⟩:=kx;cases ht;rfl
   | string=>cases hag;simp[kds,hu] at kx;obtain⟨u,t,rfl,⟨n,rfl⟩,ht⟩:=kx;cases ht;rfl
   | struct fs =>
    cases hag;simp only at h;split at h
    ·simp only[kds,hu] at kx;rw[Cd];simp only;rw[← Array.forIn_toList];have key:=Ky e (d+m) (eqT P m) (kds P m) (fun t' n' h' ag' ha' h1'=>⟨(H5 e m t' n' h' ag' ha' h1').1,fun xs w=>(H5 e m t' n' h' ag' ha' h1').2 d xs w⟩) fs.toList 0 n h [] xs w rfl kx;rw[AqM] at key;rw[Aqu,key];rfl
    ·cases h
   | _=>cases h
theorem Eg (n:Nat):∀ {us:List Value} {l:List Kd},Bk l us→∀ p∈us.zip us,Instr.sameBits n p.1 p.2=true
 | [],_,_,p,hp=>by simp at hp
 | u :: t,[],h,p,hp=>by cases h
 | u :: t,k :: l,⟨u',t',e,hk,h⟩,p,hp=>by
  cases e;simp only[List.zip_cons_cons,AqA] at hp;rcases hp with rfl | hp
  ·cases k with
   | int k=>obtain⟨n',rfl⟩:=hk;simp[Instr.sameBits]
   | bool=>obtain⟨n',rfl⟩:=hk;simp[Instr.sameBits]
   | str=>obtain⟨n',rfl⟩:=hk;simp only[Instr.sameBits];exact (MapKept.bytes_beq _ _).2 rfl
  ·exact Eg n h p hp
theorem NV {s:Sh} (hf:s.flat=true) {l:List Kd} (hl:E0 (GZ s)=some l) (x:s.T):Instr.sameBits 10000 (BI s x) (BI s x)=true:=by
 have hk:=BR s hf hl x;unfold BI;cases ha:s.agg with
 | true =>
  rw[Cd];show Instr.sameBits (9999+1) _ _=true;simp only[Instr.sameBits,beq_self_eq_true,AqK,Aqn];exact fun p hp=>Eg 9999 hk p hp
 | false =>
  have hlen:=Ce s hf x;rw[Sh.n_one ha] at hlen
  match hc:cellsF s x,hlen with
  | [u],_ =>
   rw[hc] at hk;exact Eg 10000 hk (u,u) (by simp)
def CD {α β:Type} (eq:α→α→Bool):List (α×β)→α→Nat→Option (Nat×β)
 | [],_,_=>none
 | p :: r,x,i=>bif eq x p.1 then some (i,p.2) else CD eq r x (i+1)
theorem Jn {α β:Type} (eq:α→α→Bool):∀ (xs:List (α×β)) (x:α) (i:Nat),(CD eq xs x i).map (·.2)=B5 eq xs x
 | [],_,_=>rfl
 | p :: r,x,i=>by
  simp only[CD,B5];cases eq x p.1
  ·exact Jn eq r x (i+1)
  ·rfl
theorem Pz {α β:Type} (eq:α→α→Bool):∀ {xs:List (α×β)} {x:α} {i:Nat} (y:β),CD eq xs x i=none→FM eq xs x y=xs++[(x,y)]
 | [],_,_,_,_=>rfl
 | p :: r,x,i,y,h=>by
  simp only[CD] at h;simp only[FM];cases he:eq x p.1
  ·rw[he,cond_false] at h;rw[cond_false,Pz eq y h];rfl
  ·rw[he] at h;cases h
theorem PA {α β:Type} (eq:α→α→Bool):∀ {xs:List (α×β)} {x:α} {i j:Nat} {v:β} (y:β),CD eq xs x i=some (j,v)→∃ n k,j=i+n∧xs[n]? = some (k,v)∧eq x k=true∧FM eq xs x y=xs.set n (x,y)
 | p :: r,x,i,j,v,y,h=>by
  simp only[CD] at h;simp only[FM];cases he:eq x p.1
  ·rw[he,cond_false] at h;obtain⟨n,k,rfl,h1,h2,h3⟩:=PA eq y h;exact⟨n+1,k,by omega,by simpa using h1,h2,by rw[cond_false,h3];rfl⟩
  ·rw[he] at h;cases h;exact⟨0,p.1,by simp,rfl,he,by rw[cond_true];rfl⟩
def H6 (K V:Sh) (es:List MapEntry) (xs:List (K.T×V.T)):Prop:=es.map (fun e=>(e.key,e.val))=xs.map fun x=>(BI K x.1,BI V x.2)
theorem H6.cons {K V:Sh} {e:MapEntry} {es:List MapEntry} {p:K.T×V.T} {xs:List (K.T×V.T)} (h:H6 K V (e :: es) (p :: xs)):e.key=BI K p.1∧e.val=BI V p.2∧H6 K V es xs:=by
 unfold H6 at h;simp only[Arh,Atg,As6] at h;exact⟨h.1.1,h.1.2,h.2⟩
theorem H6.len {K V:Sh} {es:List MapEntry} {xs:List (K.T×V.T)} (h:H6 K V es xs):es.length=xs.length:=by
 have:=congrArg List.length h;simpa using this
variable {t:Nat} {m:MTy}
theorem Kz (h:Pj P t m) (x:m.K.T) {es:List MapEntry} {xs:List (m.K.T×m.V.T)} (he:H6 m.K m.V es xs) (w:World) :
  (Instr.findKey m.k (BI m.K x) es).run P w=.ok ((CD (A7 m.K) xs x 0).map fun q=>(q.1,BI m.V q.2)) w:=by
 obtain⟨d,hd,hnow⟩:=h.now;have asking:∀ (es:List MapEntry) (xs:List (m.K.T×m.V.T)) (i:Nat),H6 m.K m.V es xs→(Instr.findAsking m.k (BI m.K x) es i).run P w=.ok ((CD (A7 m.K) xs x i).map fun q=>(q.1,BI m.V q.2)) w:=by
  intro es
  induction es with
  | nil =>
   intro xs i he;cases xs with
   | nil=>simp[Instr.findAsking,CD]
   | cons p xs=>have:=he.len;simp at this
  | cons e es ih =>
   intro xs i he;cases xs with
   | nil=>have:=he.len;simp at this
   | cons p xs =>
    obtain⟨h1,h2,h3⟩:=he.cons;simp only[Instr.findAsking,h1,Aqu,h.eql,Aqp,CD];cases A7 m.K x p.1
    ·simp[ih xs (i+1) h3]
    ·simp[h2]
 have now:(∀ x y:m.K.T,Instr.sameNow d (BI m.K x) (BI m.K y)=some (A7 m.K x y))→∀ (es:List MapEntry) (xs:List (m.K.T×m.V.T)) (i:Nat),H6 m.K m.V es xs→Instr.findNow d (BI m.K x) es i=some ((CD (A7 m.K) xs x i).map fun q=>(q.1,BI m.V q.2)):=by
  intro hn es
  induction es with
  | nil =>
   intro xs i he;cases xs with
   | nil=>simp[Instr.findNow,CD]
   | cons p xs=>have:=he.len;simp at this
  | cons e es ih =>
   intro xs i he;cases xs with
   | nil=>have:=he.len;simp at this
   | cons p xs =>
    obtain⟨h1,h2,h3⟩:=he.cons;simp only[Instr.findNow,h1,hn,CD];cases A7 m.K x p.1
    ·simp[ih xs (i+1) h3]
    ·simp[h2]
 rcases hnow with hn | hn
 ·simp[Instr.findKey,run_underlying hd,Result.andThen,now hn es xs 0 he]
 ·cases es with
  | nil =>
   cases xs with
   | nil=>simp[Instr.findKey,run_underlying hd,Result.andThen,Instr.findNow,CD]
   | cons p xs=>have:=he.len;simp at this
  | cons e es =>
   cases xs with
   | nil=>have:=he.len;simp at this
   | cons p xs =>
    have hf:Instr.findNow d (BI m.K x) (e :: es) 0=none:=by simp only[Instr.findNow,he.cons.1,hn]
    simp only[Instr.findKey,Aqu,run_underlying hd,Aqp,hf];exact asking (e :: es) (p :: xs) 0 he
theorem Abr (h:Pj P t m) (w:World):(zeroValue m.v).run P w=.ok (BI m.V m.V.dfl) w:=h.vty.zero (GY m.V h.vf) w
theorem Wr (h:Pj P t m) (x:m.K.T) {k clock:Nat} {es:Array MapEntry} {xs:List (m.K.T×m.V.T)} (hk:w.heap[k]? = some (.map es clock)) (he:H6 m.K m.V es.toList xs) (ok:Bool) :
  (Instr.lookup t (.map (some k)) (BI m.K x) ok).run P w=.ok (if ok then .tuple #[BI m.V ((B5 (A7 m.K) xs x).getD m.V.dfl),.bool (B5 (A7 m.K) xs x).isSome] else BI m.V ((B5 (A7 m.K) xs x).getD m.V.dfl)) w:=by
 have hf:=Kz h x he w;rw[← Jn (A7 m.K) xs x 0];simp only[Instr.lookup,Aqu,run_underlying h.und,Aqp,MapKept.run_getObj_map hk,AqO,h.chk,hf];cases CD (A7 m.K) xs x 0 with
 | none=>cases ok<;>simp[Abr h]
 | some q=>cases ok<;>simp
theorem Ws (h:Pj P t m) (x:m.K.T) (y:m.V.T) {k clock:Nat} {es:Array MapEntry} {xs:List (m.K.T×m.V.T)} (hk:w.heap[k]? = some (.map es clock)) (he:H6 m.K m.V es.toList xs) :
  ∃ es' clock',(Instr.mapUpdate t (.map (some k)) (BI m.K x) (BI m.V y)).run P w=.ok () { w with heap:=w.heap.setIfInBounds k (.map es' clock') }∧H6 m.K m.V es'.toList (FM (A7 m.K) xs x y):=by
 have hf:=Kz h x he w;simp only[Instr.mapUpdate,Aqu,run_underlying h.und,Aqp,MapKept.run_getObj_map hk,h.chk,hf];cases hix:CD (A7 m.K) xs x 0 with
 | none =>
  simp only[Option.map_none];refine⟨_,_,MapKept.run_setObj_map _ hk,?_⟩;rw[Pz _ y hix];unfold H6 at he ⊢;simp[he]
 | some q =>
  obtain⟨j,v⟩:=q;obtain⟨n,k',e,h1,h2,h3⟩:=PA (A7 m.K) y hix;rw[AqQ] at e;subst e;have hx:=h.inj _ _ h2;subst hx;have hj:∃ e0,es[j]? = some e0∧e0.key=BI m.K x:=by
   have:=congrArg (fun l=>l[j]?) he;simp only[Aqt,h1,AqU] at this;cases he0:es.toList[j]? with
   | none=>rw[he0] at this;simp at this
   | some e0 =>
    rw[he0] at this;simp only[AqU,AqV,As6] at this;exact⟨e0,by simpa using he0,this.1⟩
  obtain⟨e0,hj,hkey⟩:=hj;have hst:(Instr.keyThatStays (BI m.K x) (BI m.K x)).run P w=.ok (BI m.K x) w:=by simp[Instr.keyThatStays,h.same x]
  simp only[AqU,hj,ArD,hkey,Aqu,hst,Aqp];refine⟨_,_,MapKept.run_setObj_map _ hk,?_⟩;rw[h3];unfold H6 at he ⊢
  apply Arj
  intro i;have hi:=congrArg (fun l=>l[i]?) he;simp only[Aqt] at hi ⊢;rw[Art,AsD,As4];rw[Art] at hi;by_cases hji:j=i
  ·subst hji;have hlt:j<xs.length:=(Aqz.1 h1).1;simp[hj,hlt]
  ·simp only[hji,if_false];exact hi
theorem Ny {i:Nat} {m:MTy} {xs:List (m.K.T×m.V.T)} (h:Rz fr i m=some xs):∃ b,at? fr.bx i=some b∧b.cs=[.mc m.K m.V xs]:=by
 unfold Rz at h;split at h
 ·rename_i b hb;split at h
  ·rename_i K V ys hcs;split at h
   ·rename_i e;obtain⟨Kk,Kv,KK,KV⟩:=m;obtain⟨e1,e2⟩:=e;simp only at e1 e2;subst e1;subst e2;cases h;exact⟨b,hb,hcs⟩
   ·cases h
  ·cases h
 ·cases h
theorem Nz (hs:Sim C big g a w) (hsub:Sub fr big) {i:Nat} {b:Bn} (hb:at? fr.bx i=some b) {K V:Sh} {xs:List (K.T×V.T)} (hcs:b.cs=[.mc K V xs]) {u:Value} (hu:LfR C g (.mp i) u) :
  ∃ k es clock,u=.map (some k)∧g.β i=some k∧w.heap[k]? = some (.map es clock)∧K.flat=true∧V.flat=true∧H6 K V es.toList xs∧(b.own=true→C.w0.heap.size≤k∨C.S k):=by
 obtain⟨k,hk,eu⟩:=hu;obtain⟨k',o,hk',ho,hh,ho1,_⟩:=hs.boxes i b (hsub.bx i b hb);rw[hk] at hk';cases hk';rw[hcs] at hh;cases o with
 | map es clock =>
  obtain⟨K',V',xs',e,h1,h2,h3⟩:=hh;cases e;exact⟨k,es,clock,eu,hk,ho,h1,h2,h3,ho1⟩
 | cells c t z =>
  obtain⟨_,u,t,e,hl,_⟩:=hh;exact hl.elim
 | _=>exact hh.elim
theorem Sim.setBox (hC:A9 C) (hs:Sim C big g a w) {i:Nat} {b b':Bn} (hb:big.bx i=some b) (hown:b.own=true) (hown':b'.own=true) {k:Nat} (hk:g.β i=some k) {w':World} (hM:AE (fun j=>j=k) w w') {o:Obj} (ho:w'.heap[k]? = some o) (hh:FI C g b'.cs o) :
  Sim C { big with bx:=fun j=>if j=i then some b' else big.bx j } g a w':=by
 have hz:C.w0.heap.size≤k∨C.S k:=by
  obtain⟨k',o',hk',_,_,h1,_⟩:=hs.boxes i b hb;rw[hk] at hk';cases hk';exact h1 hown
 have hrows:=hs.rows_moves hC hM (fun j hj=>hj▸hz) (fun i' r q j hr' hm hq hF hj=>by
  subst hj;exact hs.rbox i' r q i b j hr' hm hq hb hown hk hF)
 refine { hs with kept:=hM.kept hs.kept (fun j hj=>hj▸hz),rows:=hrows,boxes:=?_,bdisj:=?_,rbox:=?_ }
 ·intro i' b0 hb';change (if i'=i then some b' else big.bx i')=some b0 at hb';split at hb'
  ·rename_i ei;subst ei;cases hb';exact⟨k,o,hk,ho,hh,fun _=>hz,fun e=>by rw[hown'] at e;cases e⟩
  ·rename_i ei;refine (hs.boxes i' b0 hb').moves hM fun k' hk' hd=>?_;subst hd;exact ei (hs.bdisj i i' b b0 k' hb hb' hown hk hk').symm
 ·intro i1 j1 b1 b2 k1 h1 h2 ho1 hk1 hk2;change (if i1=i then some b' else big.bx i1)=some b1 at h1;change (if j1=i then some b' else big.bx j1)=some b2 at h2;have f1:∃ b1',big.bx i1=some b1'∧b1'.own=true:=by
   split at h1
   ·rename_i e1;subst e1;exact⟨b,hb,hown⟩
   ·exact⟨b1,h1,ho1⟩
  have f2:∃ b2',big.bx j1=some b2':=by
   split at h2
   ·rename_i e1;subst e1;exact⟨b,hb⟩
   ·exact⟨b2,h2⟩
  obtain⟨b1',f1,f1'⟩:=f1;obtain⟨b2',f2⟩:=f2;exact hs.bdisj i1 j1 b1' b2' k1 f1 f2 f1' hk1 hk2
 ·intro i1 r1 q1 j b1 k1 h1 m1 hq1 hb1 ho1 hk1;change (if j=i then some b' else big.bx j)=some b1 at hb1;split at hb1
  ·rename_i e1;subst e1;exact hs.rbox i1 r1 q1 j b k1 h1 m1 hq1 hb hown hk1
  ·exact hs.rbox i1 r1 q1 j b1 k1 h1 m1 hq1 hb1 ho1 hk1
theorem Rx (hE:AG C.P E) (hC:A9 C) (hs:Sim C big g a w) (o:Oper) (t:TypeId) (r:Option Operand) (ho:o.op=.makeMap t r):AU C g a fr big ((execOp a.eval o).run C.P w) (Jq E fr t r):=by
 unfold Jq;split
 ·rename_i m hm;have hT:=hE.mt t m hm;intro _ _ hfree;have hi:=hfree.β fr.bx.length (Aqr _) (by simp)
  have hrun:(execOp a.eval o).run C.P w=.ok (.value (.map (some w.heap.size))) (w.alloc (.map #[] 0)):=by
   simp only[execOp,ho,Instr.makeMap,newObj];rfl
  have h':=hs.quiet hC (AE.alloc w (.map #[] 0) _);have hsim:Sim C { big with bx:=fun j=>if j=fr.bx.length then some ⟨true,[.mc m.K m.V []]⟩ else big.bx j } (g.box fr.bx.length w.heap.size) a (w.alloc (.map #[] 0)):=by
   refine h'.newBox hi (fun _=>rfl) ⟨w.heap.size,_,Sg.box_at _ _ _,heap_alloc_new w _,⟨m.K,m.V,[],rfl,hT.kf,hT.vf,rfl⟩,fun _=>.inl hs.kept.size,fun e=>by cases e⟩ ⟨fun j b hb hk=>?_,fun _ j r q hr hm hq hF=>?_⟩
   ·exact absurd (hs.box_lt hb hk) (Ar6 _)
   ·exact absurd (hs.row_lt hr hq _ hF) (Ar6 _)
  refine⟨_,_,_,hrun,.inl rfl,_,Hn fr hi rfl,by simpa only[grow,Ah,BE,BL,B2] using hsim,fun av hav=>?_⟩
  cases hav;exact VR.of1 ⟨w.heap.size,Sg.box_at _ _ _,rfl⟩
 ·trivial
theorem Uw (hE:AG C.P E) (hs:Sim C big g a w) (hsub:Sub fr big) (hc:Holds a ch) (o:Oper) (t:TypeId) (x ix:Operand) (ok:Bool) (ho:o.op=.lookup t x ix ok):AU C g a fr big ((execOp a.eval o).run C.P w) (LF E fr ch t x ix ok):=by
 unfold LF;split
 ·rename_i m i ag cs hm hx hix;split
  ·rename_i xs key hmp hky;cases hag:m.K.agg==ag
   ·trivial
   ·rw[cond_true];have hag:=eq_of_beq hag;have hT:=hE.mt t m hm;obtain⟨b,hb,hcs⟩:=Ny hmp;obtain⟨k,es,clock,eu,hk,hh,kf,vf,hen,_⟩:=Nz hs hsub hb hcs (As (hs.sub hsub) hc hx);obtain⟨us,e,hr,_⟩:=Cq (hs.sub hsub) hc hix;have ekey:a.eval ix=BI m.K key:=by rw[e];exact Rw (H4 kf hky hr) hag
    have hrun:=Wr hT key hh hen ok;have hrun':(execOp a.eval o).run C.P w=.ok (.value (if ok then .tuple #[BI m.V ((B5 (A7 m.K) xs key).getD m.V.dfl),.bool (B5 (A7 m.K) xs key).isSome] else BI m.V ((B5 (A7 m.K) xs key).getD m.V.dfl))) w:=by
     simp only[execOp,ho,eu,ekey,Aqu,hrun,Aqp,AqO]
    have hv:∀ v:m.V.T,VR C g m.V.agg (Aa .own m.V v 0).1 (BI m.V v):=fun v =>
     ⟨_,rfl,CC .own m.V vf v 0,fun ha=>by rw[← (CC (C:=C) (g:=g) .own m.V vf v 0).len,Ce m.V vf,Sh.n_one ha]⟩
    simp only;cases ok with
    | true =>
     rw[cond_true];intro _ _ _;exact⟨_,_,w,hrun',.inl rfl,Out.same hs fun av hav=>by
      cases hav;exact⟨_,rfl,_,_,rfl,hv _,_,_,rfl,VR.of1 rfl,rfl⟩⟩
    | false =>
     rw[cond_false];exact AU.vals hs ⟨_,hrun',hv _⟩
  ·trivial
 ·trivial
theorem FK (hE:AG C.P E) (hC:A9 C) (hs:Sim C big g a w) (hsub:Sub fr big) (hc:Holds a ch) (o:Oper) (t:TypeId) (x k v:Operand) (ho:(execOp a.eval o)=(do Instr.mapUpdate t (a.eval x) (a.eval k) (a.eval v);pure .skip)):AU C g a fr big ((execOp a.eval o).run C.P w) (Ej E fr ch t x k v):=by
 unfold Ej;split
 ·rename_i m i ag cs ag' vs hm hx hk hv;split
  ·rename_i b xs key val hb hmp hky hvl;cases hcond:(b.own&&(m.K.agg==ag)&&(m.V.agg==ag'))
   ·trivial
   ·rw[cond_true];simp only[Aql] at hcond;obtain⟨⟨hown,h1⟩,h2⟩:=hcond;have h1:=eq_of_beq h1;have h2:=eq_of_beq h2;have hT:=hE.mt t m hm;obtain⟨b',hb',hcs⟩:=Ny hmp;rw[hb] at hb';cases hb';obtain⟨kk,es,clock,eu,hkk,hh,kf,vf,hen,_⟩:=Nz hs hsub hb hcs (As (hs.sub hsub) hc hx);obtain⟨us,e,hr,_⟩:=Cq (hs.sub hsub) hc hk;obtain⟨us',e',hr',_⟩:=Cq (hs.sub hsub) hc hv;have ekey:a.eval k=BI m.K key:=by rw[e];exact Rw (H4 kf hky hr) h1
    have eval':a.eval v=BI m.V val:=by rw[e'];exact Rw (H4 vf hvl hr') h2
    obtain⟨es',clock',hrun,hen'⟩:=Ws (w:=w) hT key val hh hen;have hlt:kk<w.heap.size:=(AqP.1 hh).1;intro _ _ _;have hM:AE (fun j=>j=kk) w { w with heap:=w.heap.setIfInBounds kk (.map es' clock') } :=
     ⟨CW.mono (Aqr _),rfl,rfl,rfl,by simp,fun j _ hj=>(MapKept.heap_set (o':=.map es' clock') hh).2 j hj⟩
    refine⟨.skip,undef,{ w with heap:=w.heap.setIfInBounds kk (.map es' clock') },by rw[ho,eu,ekey,eval'];simp only[Aqu,hrun,Aqp,AqO],.inr ⟨rfl,rfl⟩,g,⟨Sg.Le.refl g,fun _ _=>rfl,fun _ _=>rfl⟩,?_,fun _ e=>by cases e⟩
    simp only[grow,Ah,BL,B2];exact hs.setBox hC (hsub.bx i b hb) hown (b':={ b with cs:=[.mc m.K m.V (FM (A7 m.K) xs key val)] }) hown hkk hM (MapKept.heap_set hh).1 ⟨_,_,_,rfl,kf,vf,hen'⟩
  ·trivial
 ·trivial
theorem Ux (hE:AG C.P E) (hs:Sim C big g a w) (hsub:Sub fr big) (hc:Holds a ch) (o:Oper) (c:Call) (ho:o.op=.call c) (hb:c.callee=.builtin .len) {x:Operand} {t i:Nat} (hx:c.args.toList=[x]) (ht:c.argTypes.toList=[t]) (h1:op1 fr ch x=some (.mp i)):AU C g a fr big ((execOp a.eval o).run C.P w) (LG E fr t i):=by
 unfold LG;have ha:c.args=#[x]:=by rw[← Aqw (xs:=c.args),hx]
 have hat:c.argTypes=#[t]:=by rw[← Aqw (xs:=c.argTypes),ht]
 split
 ·rename_i m hm;split
  ·rename_i xs hmp;have hT:=hE.mt t m hm;obtain⟨b,hb',hcs⟩:=Ny hmp;obtain⟨k,es,clock,eu,hk,hh,kf,vf,hen,_⟩:=Nz hs hsub hb' hcs (As (hs.sub hsub) hc h1);have hl:=hen.len;refine AU.val hs fun _=>⟨goInt es.size,?_,by simp[LfR,goInt,← hl]⟩
   simp[execOp,ho,resolve,hb,ha,hat,eu,invoke,builtin,Builtin.len_,run_underlying hT.und,MapKept.run_getObj_map hh]
  ·trivial
 ·trivial
theorem Abs (hE:AG C.P E) (hs:Sim C big g a w) (hsub:Sub fr big) (hc:Holds a ch) (o:Oper) (c:Call) (ho:o.op=.call c) (hb:c.callee=.builtin .len):AU C g a fr big ((execOp a.eval o).run C.P w) (UK E fr ch c.args.toList c.argTypes.toList):=by
 have key:=AfP hE hs hsub hc o c ho hb;unfold UK;split
 ·rename_i x t hx ht;split
  ·rename_i i h1;exact Ux hE hs hsub hc o c ho hb hx ht h1
  ·rw[hx,ht] at key;exact key
 ·trivial
end Go.Proofs.YteheolldcpjkcaaGreat.X
