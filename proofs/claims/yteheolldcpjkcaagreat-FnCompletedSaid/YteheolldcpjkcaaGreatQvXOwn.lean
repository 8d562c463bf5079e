/- New rows of the frame's own: made, appended to, written. -/
import Derived.Test.YteheolldcpjkcaaGreatQvXNew
set_option linter.unusedSimpArgs false
set_option linter.unusedVariables false
set_option linter.unusedSectionVars false
namespace Go.Proofs.YteheolldcpjkcaaGreat.X
open Go Go.RowKit
variable [CW]
variable {C:Cx} {fr:Fr} {big:FF} {g:Sg} {a:Act} {w w':World} {ch:List (Nat×Bool)} {E:Env}
theorem AX.any {m:Option Nat} {rw rw':Nat→Option Ac} (h:AX none rw rw'):AX m rw rw':=by
 refine⟨fun j r' hj=>?_,fun j r p pa hj e=>?_⟩
 ·rcases h.row j r' hj with h1 | ⟨q0,r,h1,_⟩
  ·exact .inl h1
  ·cases h1
 ·rcases h.par j r p pa hj e with h1 | h1
  ·exact .inl h1
  ·cases h1
theorem Own.zone {fr:FF} (h:Sim C fr g a w) {k:Nat} (hk:Own fr.rw g k):(C.w0.heap.size≤k∨C.S k)∧k<w.heap.size:=by
 obtain⟨i,r,q,h1,h2,h3,h4⟩:=hk;exact⟨((h.rows i r h1).mine h2 h3).2 k h4,h.row_lt h1 h3 k h4⟩
theorem Own.notR (hC:A9 C) {fr:FF} (h:Sim C fr g a w) {k:Nat} (hk:Own fr.rw g k):¬ C.R k:=fun hr=>by
 obtain⟨h1,h2⟩:=hC.R_lt k hr;exact (Own.zone h hk).1.elim (fun h=>absurd h1 (Aq1.2 h)) h2
theorem Own.notBox {fr:FF} (h:Sim C fr g a w) {k:Nat} (hk:Own fr.rw g k) {j:Nat} {b:Bn} (hb:fr.bx j=some b) (ho:b.own=true):g.β j≠some k:=fun e=>by
 obtain⟨i,r,q,h1,h2,h3,h4⟩:=hk;exact h.rbox i r q j b k h1 h2 h3 hb ho e h4
theorem Sim.handOver (hC:A9 C) (h:Sim C big g a w) {n:Nat} (hn:g.ρ n=none) {rw':Nat→Option Ac} (hT:AX (some n) big.rw rw') {r:Ac} {q:B3} (hown:r.m=.own) {D:FP} (hm:AE D w w')
  (hD:∀ k,D k→Own big.rw g k∧¬ Own rw' g k) (hO:Bq r.e r.s w' q.F q.v r.xs) (hqv:∃ A m c,q.v=.slice A m c) (hsz:q.sz=r.s.n)
  (hF:∀ k,q.F k→(w.heap.size≤k∨(Own big.rw g k∧¬ Own rw' g k))∧k<w'.heap.size)
  (hkeep:∀ j r0 pa,rw' j=some r0→r0.m=.bor n pa→∀ qj,g.ρ j=some qj→∀ k,qj.F k→q.F k∧¬ D k) :
  Sim C { big with rw:=fun j=>if j=n then some r else rw' j } (g.row n q) a w':=by
 have hg:=Sg.le_row hn q;have nobig:∀ r0,big.rw n≠some r0:=fun r0 hr=>by
  obtain⟨q',_,_,_,hq',_⟩:=h.rows n r0 hr;rw[hn] at hq';cases hq'
 have hDz:∀ k,D k→C.w0.heap.size≤k∨C.S k:=fun k hk=>(Own.zone h (hD k hk).1).1;have old:∀ j r',rw' j=some r'→j≠n:=fun j r' hj e=>by
  subst e;rcases hT.row j r' hj with h1 | ⟨_,r0,_,h1,_⟩
  ·exact nobig _ h1
  ·exact nobig _ h1
 refine { h with tied:=fun i q hi=>hg.ρ i q (h.tied i q hi),tie:=fun k hk=>hg.β 0 k (h.tie k hk),slots:=h.mono_slots hg,kept:=hm.kept h.kept hDz,boxes:=?_,rows:=?_,rdisj:=?_,rbox:=?_ }
 ·intro i b hb;refine ((h.boxes i b hb).moves hm fun k hk hd=>?_).mono hg;cases ho:b.own with
  | true=>exact Own.notBox h (hD k hd).1 hb ho hk
  | false =>
   obtain⟨k',o,hk',_,_,_,hr⟩:=h.boxes i b hb;rw[hk] at hk';cases hk';exact Own.notR hC h (hD k hd).1 (hr ho)
 ·intro j r' hj;change (if j=n then some r else rw' j)=some r' at hj;split at hj
  ·rename_i e;subst e;cases hj;obtain⟨A,m,c,hv⟩:=hqv;refine⟨q,A,m,c,Sg.row_at _ _ _,hv,hsz,fun k hk=>(hF k hk).2,?_⟩;rw[B4,hown];refine⟨hO,fun k hk=>?_⟩;rcases (hF k hk).1 with h1 | h1
   ·exact .inl (AqE h.kept.size h1)
   ·exact (Own.zone h h1.1).1
  ·rename_i hjn;rcases hT.row j r' hj with h1 | ⟨q0,r0,e0,h1,hm0,e1,_⟩
   ·-- a row that stays
    obtain⟨qj,A,m,c,hq,hv,hz,hl,hZ⟩:=h.rows j r' h1;have nD:∀ k,qj.F k→¬ D k:=by
     intro k hk hd;cases hmm:r'.m with
     | own=>exact (hD k hd).2 ⟨j,r',qj,hj,by rw[hmm];rfl,hq,hk⟩
     | io=>exact (hD k hd).2 ⟨j,r',qj,hj,by rw[hmm];rfl,hq,hk⟩
     | ro=>rw[B4,hmm] at hZ;exact Own.notR hC h (hD k hd).1 (hZ.2 k hk)
     | bor p pa =>
      rw[B4,hmm] at hZ;obtain⟨_,rp,qp,hrp,hmp,hqp,hFp,_⟩:=hZ;rcases hT.par j r' p pa hj hmm with ⟨_,h2⟩ | h2
      ·exact (hD k hd).2 ⟨p,rp,qp,h2 rp hrp hmp,hmp,hqp,hFp k hk⟩
      ·cases h2;exact nobig _ hrp
    refine CI.mono hg (fun _ _ h=>h) ((h.rows j r' h1).moves (rw':=fun j=>if j=n then some r else rw' j) hm (fun q' hq' k hk=>nD k (by rw[hq] at hq';cases hq';exact hk)) (fun p pa e rp hrp hmp=>?_) (fun p pa rp qp e hrp hmp hqp A n c hv hn=>?_))
    ·rcases hT.par j r' p pa hj e with ⟨_,h2⟩ | h2
     ·have hp:=h2 rp hrp hmp;refine⟨⟨rp,?_,hmp,rfl⟩,fun qp hqp k hk hd=>(hD k hd).2 ⟨p,rp,qp,hp,hmp,hqp,hk⟩⟩;simp only[if_neg (old p rp hp)];exact hp
     ·cases h2;exact absurd hrp (nobig _)
    ·exact ((h.rows p rp hrp).mine hmp hqp).1.block hv
   ·-- a row that lies in the new one
    cases e0;subst e1;obtain⟨qj,A,m,c,hq,hv,hz,hl,hZ⟩:=h.rows j r0 h1;have hk:=hkeep j _ none hj rfl qj hq;refine⟨qj,A,m,c,hg.ρ _ _ hq,hv,hz,fun k hk'=>AqN (hl k hk') hm.size,?_⟩;refine⟨DA.same (hm.same fun k hk'=>⟨hl k hk',(hk k hk').2⟩) (hZ.mine hm0).1.read,r,q,by simp,by rw[hown];rfl,Sg.row_at _ _ _,fun k hk'=>(hk k hk').1,fun _ _ e=>by cases e⟩
 ·intro i j r1 r2 q1 q2 k h1 h2 m1 m2 hq1 hq2 hk1 hk2;change (if i=n then some r else rw' i)=some r1 at h1;change (if j=n then some r else rw' j)=some r2 at h2;have cross:∀ j r2 q2,rw' j=some r2→r2.m.mine=true→(g.row n q).ρ j=some q2→q2.F k→q.F k→False:=by
   intro j r2 q2 h2 m2 hq2 hk2 hk;rw[Sg.row_ne _ _ (old j r2 h2)] at hq2;rcases (hF k hk).1 with h3 | h3
   ·exact absurd (h.row_lt (hT.mine h2 m2) hq2 k hk2) (Aq1.2 h3)
   ·exact h3.2 ⟨j,r2,q2,h2,m2,hq2,hk2⟩
  split at h1
  ·rename_i e1;subst e1;cases h1;rw[Sg.row_at] at hq1;cases hq1;split at h2
   ·rename_i e2;exact e2.symm
   ·exact (cross j r2 q2 h2 m2 hq2 hk2 hk1).elim
  ·rename_i e1;split at h2
   ·rename_i e2;subst e2;cases h2;rw[Sg.row_at] at hq2;cases hq2;exact (cross i r1 q1 h1 m1 hq1 hk1 hk2).elim
   ·rename_i e2;rw[Sg.row_ne _ _ e1] at hq1;rw[Sg.row_ne _ _ e2] at hq2;exact h.rdisj i j r1 r2 q1 q2 k (hT.mine h1 m1) (hT.mine h2 m2) m1 m2 hq1 hq2 hk1 hk2
 ·intro i r1 q1 j b k h1 m1 hq1 hb ho hk hF';change (if i=n then some r else rw' i)=some r1 at h1;split at h1
  ·rename_i e1;subst e1;cases h1;rw[Sg.row_at] at hq1;cases hq1;rcases (hF k hF').1 with h3 | h3
   ·exact absurd (h.box_lt hb hk) (Aq1.2 h3)
   ·exact Own.notBox h h3.1 hb ho hk
  ·rename_i e1;rw[Sg.row_ne _ _ e1] at hq1;exact h.rbox i r1 q1 j b k (hT.mine h1 m1) m1 hq1 hb ho hk hF'
theorem Wm {P:Program} {s:Sh} (hf:s.flat=true) {w:World} {F:FP} {xs:List s.T} {ad:Addr}:(h:∀ j x,xs[j]? = some x→∃ cs,RC P s w F x cs∧cs.length=s.n∧∀ i u,cs[i]? = some u→w.cell? (ad.add (j*s.n+i))=some u) →
  ∃ css:List (List Value),css.length=xs.length∧(∀ c∈css,c.length=s.n∧∀ u∈c,u.oneCell'=true)∧(∀ (j:Nat) x c,xs[j]? = some x→css[j]? = some c→∀ w',OC s w' (fun _=>False) x c) ∧
   ∀ j u,css.flatten[j]? = some u→w.cell? (ad.add j)=some u:=by
 induction xs generalizing ad with
 | nil=>intro _;exact⟨[],rfl,by simp,by simp,by simp⟩
 | cons x xs ih =>
  intro h;obtain⟨c,hr,hl,hc⟩:=h 0 x rfl;obtain⟨css,h1,h2,h3,h4⟩:=ih (ad:=ad.add s.n) fun j y hy=>by
   obtain⟨cs,hr,hl,hc⟩:=h (j+1) y (by simpa using hy)
   refine⟨cs,hr,hl,fun i u hu=>?_⟩;rw[Addr.add_add,← hc i u hu];congr 2;rw[ArZ];omega
  refine⟨c :: css,by simp[h1],?_,?_,?_⟩
  ·intro d hd;rcases AqA.1 hd with rfl | hd
   ·exact⟨hl,RC.one s hr⟩
   ·exact h2 d hd
  ·intro j y d hy hd w';cases j with
   | zero=>simp at hy hd;subst hy;subst hd;exact RC.flatOC s hf hr
   | succ j=>exact h3 j y d (by simpa using hy) (by simpa using hd) w'
  ·intro j u hu;rw[AqI] at hu;by_cases hj:j<c.length
   ·rw[AqS hj] at hu;have:=hc j u hu;simpa using this
   ·rw[AqB (by omega)] at hu
    have:=h4 _ u hu;rw[Addr.add_add] at this;rw[← this];congr 2;omega
theorem AfS {b n:Nat} (h:n≤lim b):n≤maxLen∧n*b≤140737488355328:=by
 unfold lim at h;refine⟨?_,?_⟩
 ·have:140737488355328 / b≤140737488355328:=Nat.div_le_self _ _;simp only[maxLen];omega
 ·exact AqE (Aq0 b h) (Nat.div_mul_le_self _ _)
theorem KG (w:World) (e0:Nat) (t ty e:TypeId) (i:TypeInfo) (size:Nat) (ht:C.P.underlying t=some (.slice e)) (hi:C.P.info? e=some i)
  (v:Value) (n:Nat) (xs:List Value) (c:Nat) (hown:w.ownsRow 0 e0 size v n xs):(Builtin.append_ #[t,t] ty #[v,.slice none 0 c]).run C.P w=.ok v w:=by
 rcases hown.2 with ⟨rfl,rfl⟩ | ⟨g,cap,cur,rfl,_,_,hnc,_⟩
 ·simp[Builtin.append_,run_underlying ht,sizeOf,typeInfo,hi,Builtin.lenOf,Builtin.firstCells]
 ·simp[Builtin.append_,run_underlying ht,sizeOf,typeInfo,hi,Builtin.lenOf,Builtin.firstCells,hnc,storeCells]
theorem DG {t ty e:TypeId} {s:Sh} {b:Nat} (ht:C.P.underlying t=some (.slice e)) (hT:Fu C.P e s) (hb:∀ i,C.P.info? e=some i→i.bytes=b) {F:FP} {v:Value} {xs ys:List s.T} (hO:Bq e s w F v xs)
  {A:Option Addr} {c:Nat} {css:List (List Value)} (hl:css.length=ys.length) (hc1:∀ d∈css,d.length=s.n∧∀ u∈d,u.oneCell'=true) (hA:0<ys.length→∃ ad,A=some ad∧∀ j u,css.flatten[j]? = some u→w.cell? (ad.add j)=some u)
  (hlim:xs.length+ys.length≤lim b) (FF:FP) (G2:Nat→FP) (hG2:∀ j k,G2 j k→FF k∧k<w.heap.size∧¬ F k) (hd2:∀ i j k,i≠j→G2 i k→¬ G2 j k) (hM2:∀ (j:Nat) y d,ys[j]? = some y→css[j]? = some d→OC s w (G2 j) y d) (hFlt:∀ k,F k→k<w.heap.size) :
  ∃ v' w',(Builtin.append_ #[t,t] ty #[v,.slice A ys.length c]).run C.P w=.ok v' w'∧AE (fun k=>some k=v.ownBlock) w w'∧(∃ A m c,v'=.slice A m c) ∧
   Bq e s w' (fun k=>F k∨FF k∨(w.heap.size≤k∧k<w'.heap.size)) v' (xs++ys):=by
 obtain⟨cs0,ho,hl0,hc0,hb0,G,hG,hd,hM⟩:=hO;obtain⟨i,z,hi,hsz,hz,zs,hzs,hzz⟩:=hT.info;have hflat:css.flatten.length=ys.length*s.n:=by rw[← hl];exact Ci (fun d hd=>(hc1 d hd).1)
 have hzc:z.cells.size=s.n:=by rw[hzz,← ArK,Ep hzs,BT s hzs]
 obtain⟨l1,l2⟩:=AfS hlim
 -- the elements' relation behind the move
 have fin:∀ v' w',w'.ownsRow 0 e s.n v' (xs.length+ys.length) (cs0.flatten++css.flatten)→AE (fun k=>some k=v.ownBlock) w w'→(v'.ownBlock=v.ownBlock∨v'.ownBlock=some w.heap.size)→(∃ A m c,v'=.slice A m c) ∧
   Bq e s w' (fun k=>F k∨FF k∨(w.heap.size≤k∧k<w'.heap.size)) v' (xs++ys):=by
  intro v' w' ho' hm hbk;refine⟨?_,cs0++css,?_,by simp[hl0,hl],?_,?_,fun j=>if j<xs.length then G j else G2 (j-xs.length),?_,?_,?_⟩
  ·obtain⟨A,c,e,_⟩:=BO ho';exact⟨A,_,c,e⟩
  ·rw[Aqs,AsP];exact ho'
  ·intro d hd;rcases Aqy.1 hd with hd | hd
   ·exact hc0 d hd
   ·exact hc1 d hd
  ·intro k hk;have hlt:=(ho'.lt k hk).2;rcases hbk with h | h
   ·exact .inl (hb0 k (h▸hk))
   ·rw[h] at hk;cases hk;exact .inr (.inr ⟨Aqr _,hlt⟩)
  ·intro j k hk;have nb:∀ k,k<w.heap.size→v.ownBlock≠some k→v'.ownBlock≠some k:=fun k h1 h2 e=>by
    rcases hbk with h | h
    ·exact h2 (h▸e)
    ·rw[h] at e;cases e;exact Ar6 _ h1
   split at hk
   ·obtain⟨h1,h2⟩:=hG j k hk;exact⟨.inl h1,nb k (hFlt k h1) h2⟩
   ·obtain⟨h1,h2,h3⟩:=hG2 _ k hk;exact⟨.inr (.inl h1),nb k h2 fun e=>h3 (hb0 k e)⟩
  ·intro i j k hij hi hj;split at hi<;>split at hj
   ·exact hd i j k hij hi hj
   ·exact (hG2 _ k hj).2.2 (hG i k hi).1
   ·exact (hG2 _ k hi).2.2 (hG j k hj).1
   ·exact hd2 _ _ k (by omega) hi hj
  ·intro j x d hx hdj;by_cases hj:j<xs.length
   ·rw[AqS hj] at hx;rw[AqS (by omega)] at hdj
    simp only[if_pos hj];refine OC.same s (fun k hk=>hm.block k (hFlt k (hG j k hk).1) fun e=>(hG j k hk).2 e.symm) (hM j x d hx hdj)
   ·rw[AqB (by omega)] at hx
    rw[AqB (by omega)] at hdj
    simp only[if_neg hj];refine OC.same s (fun k hk=>hm.block k (hG2 _ k hk).2.1 fun e=>(hG2 _ k hk).2.2 (hb0 k e.symm)) (hM2 _ x d hx (by rw[hl0] at hdj;exact hdj))
 cases hy:A with
 | none =>
  have hy0:ys.length=0:=by
   rcases Are ys.length with h | h
   ·exact h
   ·obtain⟨ad,e,_⟩:=hA h;rw[hy] at e;cases e
  have hcs:css=[]:=Arq (hl.trans hy0);subst hcs;have hr:=KG (C:=C) w e t ty e i s.n ht hi v xs.length cs0.flatten c ho;rw[hy0];have:=fin v w (by simpa[hy0] using ho) (AE.refl _ _) (.inl rfl)
  exact⟨v,w,hr,AE.refl _ _,this⟩
 | some ad =>
  have hnews:∀ j u,css.flatten[j]? = some u→w.cell? (ad.add j)=some u:=by
   intro j u hu;rcases Are ys.length with h | h
   ·have hcs:css=[]:=Arq (hl.trans h);subst hcs;simp at hu
   ·obtain⟨ad',e,h'⟩:=hA h;rw[hy] at e;cases e;exact h' j u hu
  have h1:∀ u∈css.flatten,u.oneCell'=true:=fun u hu=>by
   obtain⟨d,hd,hu⟩:=List.mem_flatten.1 hu;exact (hc1 d hd).2 u hu
  obtain⟨v',w',hr,ho',hgb,_,hbk⟩:=run_append_own_at (P:=C.P) w 0 t ty e i z s.n b ht hi hz hsz (hb i hi) hzc (Sh.n_pos s) v xs.length cs0.flatten ho ad ys.length c css.flatten hflat hnews h1 l1 l2 (Ari _);exact⟨v',w',hr,AE.grown hgb (Ru _ hr),fin v' w' ho' (AE.grown hgb (Ru _ hr)) hbk⟩
 where
 Ci {sz:Nat}:∀ {css:List (List Value)},(∀ d∈css,d.length=sz)→css.flatten.length=css.length*sz
  | [],_=>by simp
  | d :: r,h=>by
   rw[AqI,Aqs,h d (by simp),Ci fun d hd=>h d (by simp[hd]),Aq3,Ard]
   omega
end Go.Proofs.YteheolldcpjkcaaGreat.X
namespace Go.Proofs.YteheolldcpjkcaaGreat.X
open Go Go.RowKit
variable [CW]
variable {C:Cx} {fr:Fr} {big:FF} {g:Sg} {a:Act} {w w':World} {ch:List (Nat×Bool)} {E:Env}
theorem CZ.nil {α:Type} (M:FP→α→List Value→Prop) (e sz:Nat) (w:World) (F:FP):CZ M e sz w F (.slice none 0 0) [] :=
 ⟨[],World.ownsRow_nil w 0 e sz,rfl,by simp,by simp[Value.ownBlock],fun _ _=>False,by simp,by simp,by simp⟩
theorem J0:(s:Sh)→∀ {zs},Cc s=some zs→∀ w F,OC s w F s.dfl zs
 | .int _,_,h,_,_ | .bool,_,h,_,_ | .str,_,h,_,_=>by cases h;rfl
 | .list e s,_,h,w,F=>by cases h;exact⟨_,rfl,CZ.nil _ _ _ _ _⟩
 | .cons a b,_,h,w,F=>by
  simp only[Cc] at h;split at h
  ·rename_i x y hx hy;cases h;exact⟨x,y,rfl,fun _=>False,fun _=>False,fun _ h=>h.elim,fun _ h=>h.elim,fun _ h=>h.elim,J0 a hx w _,J0 b hy w _⟩
  ·cases h
theorem C7 (zs:List Value):∀ (n:Nat),0<zs.length→(madeCells zs.toArray (n*zs.length)).toList=(List.replicate n zs).flatten:=by
 intro n hz;have key:∀ n k,(List.replicate n zs).flatten[k]? = if k<n*zs.length then zs[k % zs.length]? else none:=by
  intro n
  induction n with
  | zero=>intro k;simp
  | succ n ih =>
   intro k;rw[AsQ,AqI];by_cases hk:k<zs.length
   ·rw[AqS hk,if_pos (by rw[Ard];omega),Nat.mod_eq_of_lt hk]
   ·rw[AqB (by omega),ih]
    have e:(k-zs.length) % zs.length=k % zs.length:=by
     rw[← Nat.sub_add_cancel (show zs.length≤k by omega),Nat.add_mod_right,Ass]
    by_cases h2:k<(n+1)*zs.length
    ·rw[if_pos h2,if_pos (by rw[Ard] at h2;omega),e]
    ·rw[if_neg h2,if_neg (by rw[Ard] at h2;omega)]
 apply Arj
 intro k;rw[key n k];by_cases hk:k<n*zs.length
 ·rw[if_pos hk];have hm:k % zs.length<zs.length:=Atd _ hz;simp[madeCells,hk,hm]
 ·rw[if_neg hk];simp[madeCells,hk]
theorem Sim.freshRow (hC:A9 C) (h:Sim C big g a w) {n:Nat} (hn:g.ρ n=none) {r:Ac} {q:B3} (hown:r.m=.own) (hm:AE (fun _=>False) w w')
  (hO:Bq r.e r.s w' q.F q.v r.xs) (hqv:∃ A m c,q.v=.slice A m c) (hsz:q.sz=r.s.n) (hF:∀ k,q.F k→w.heap.size≤k∧k<w'.heap.size) :
  Sim C { big with rw:=fun j=>if j=n then some r else big.rw j } (g.row n q) a w' :=
 h.handOver hC hn (AX.refl _ _) hown hm (fun _ h=>h.elim) hO hqv hsz (fun k hk=>⟨.inl (hF k hk).1,(hF k hk).2⟩) (fun j r0 pa hj e=>by
  obtain⟨q',_,_,_,_,_,_,_,hZ⟩:=h.rows j r0 hj;rw[B4,e] at hZ;obtain⟨_,r',q'',_,_,h3,_⟩:=hZ;rw[hn] at h3;cases h3)
theorem Uk (fr:Fr) (big:FF) (r:Ac):grow fr big [r] [] .pure={ big with rw:=fun j=>if j=fr.rw.length then some r else big.rw j }:=by
 simp only[grow,Ah,BE,BL,B2]
theorem Ul (fr:Fr) (big:FF) (r:Ac) (rw:List (Option Ac)):grow fr big [r] [] (.tab rw)={ big with rw:=fun j=>if j=fr.rw.length then some r else at? rw j }:=by
 simp only[grow,Ah,BE,BL,B2]
theorem Abi (fr:Fr) (big:FF) (r:Ac) (i:Nat):grow fr big [r] [] (.gone [i])={ big with rw:=fun j=>if j=fr.rw.length then some r else GO i j (big.rw j) }:=by
 simp only[grow,Ah,BE,BL,B2,GP,Aq8,List.foldl_nil]
theorem Abj (rw:Nat→Option Ac) (i:Nat):AX none rw (fun n=>GO i n (rw n)) :=
 ⟨fun j r' h=>.inl (Bm.1 h).1,fun j r p pa h e=>.inl ⟨(Bm.1 h).1,fun r0 h0 hm0=>Bm.2 ⟨h0,(Bm.1 h).2.2 p pa e,fun p' pa' e'=>by rw[e'] at hm0;cases hm0⟩⟩⟩
theorem Wn (rw:Nat→Option Ac) (is:List Nat):AX none rw (fun n=>GP is n (rw n)) :=
 ⟨fun j r' h=>.inl (Bf.1 h).1,fun j r p pa h e=>.inl ⟨(Bf.1 h).1,fun r0 h0 hm0=>Bf.2 ⟨h0,fun i hi=>⟨((Bf.1 h).2 i hi).2 p pa e,fun p' pa' e'=>by rw[e'] at hm0;cases hm0⟩⟩⟩⟩
theorem Ns {a b:List (Option Ac)} {i:Nat}:i∈D0 a b↔(∃ r,at? a i=some r)∧at? b i=none:=by
 unfold D0;rw[AqR,Asc];constructor
 ·rintro⟨_,h⟩
  split at h
  ·rename_i r h1 h2;exact⟨⟨r,h1⟩,h2⟩
  ·cases h
 ·rintro⟨⟨r,h1⟩,h2⟩
  refine⟨A4 h1,?_⟩;rw[h1,h2]
theorem Abk (hE:AG C.P E) (hC:A9 C) (hs:Sim C big g a w) (hsub:Sub fr big) (hc:Holds a ch) (o:Oper) (t:TypeId) (x y:Operand) (ho:o.op=.makeSlice t x y):AU C g a fr big ((execOp a.eval o).run C.P w) (UI E fr ch t x y):=by
 unfold UI;split
 ·rename_i e s b n c hsl h1 h2;intro hreq _ hfree;simp only[Aql,decide_eq_true_eq,beq_iff_eq] at hreq;obtain⟨⟨h0,hle⟩,hnc⟩:=hreq;subst hnc;have e1:a.eval x=.int .i64 n:=As (hs.sub hsub) hc h1;have e2:a.eval y=.int .i64 n:=As (hs.sub hsub) hc h2;obtain⟨hund,hT,hb⟩:=GR hE hsl;obtain⟨i,z,hi,hsz,hz,zs,hzs,hzz⟩:=hT.info;obtain⟨l1,l2⟩:=AfS (CB hle);have hn:g.ρ fr.rw.length=none:=hfree.ρ _ (Aqr _) (by simp)
  obtain⟨w',hr,hown,hgb⟩:=run_make_full (P:=C.P) w 0 t e i z s.n hund hi hz hsz .i64 .i64 n.toNat (by rw[hb i hi,Asg];omega) l1 (Ari _)
  have en:((n.toNat:Nat):Int)=n:=ArU h0;rw[en] at hr;have hzl:=BT s hzs;have hzc:z.cells=zs.toArray:=by rw[hzz,← Aqw (xs:=(Ay s.agg zs).cells),Ep hzs]
  rw[hzc,← hzl,C7 zs _ (by rw[hzl];exact s.n_pos),hzl] at hown
  let q:B3:=⟨.slice (some ⟨w.heap.size,0,none⟩) n.toNat n.toNat,fun k=>k=w.heap.size,s.n⟩
  have hlt:w.heap.size<w'.heap.size:=(hown.lt w.heap.size rfl).2;have hO:Bq e s w' q.F q.v (List.replicate n.toNat s.dfl):=by
   refine⟨List.replicate n.toNat zs,by simpa using hown,by simp,?_,?_,fun _ _=>False,by simp,by simp,?_⟩
   ·intro d hd;rw[Asp hd];exact⟨hzl,Dg s hzs⟩
   ·intro k hk;simp[q,Value.ownBlock] at hk;exact hk.symm
   ·intro j x' d hx' hd';rw[Ark] at hx' hd';split at hx'
    ·rename_i hj;rw[if_pos hj] at hd';cases hx';cases hd';exact J0 s hzs _ _
    ·cases hx'
  have hrun:(execOp a.eval o).run C.P w=.ok (.value q.v) w':=by
   simp only[execOp,ho,e1,e2,Aqu,hr,Aqp];rfl
  refine⟨_,_,_,hrun,.inl rfl,g.row fr.rw.length q,E1 fr hn rfl,?_,fun av hav=>?_⟩
  ·rw[Uk];exact hs.freshRow hC hn (q:=q) rfl (AE.none hgb (Ru _ hr) _) hO ⟨_,_,_,rfl⟩ rfl fun k hk=>by cases hk;exact⟨Aqr _,hlt⟩
  ·cases hav;exact VR.of1 ⟨q,_,_,_,Sg.row_at _ _ _,rfl,rfl⟩
 ·trivial

theorem GT {sz:Nat}:∀ {css:List (List Value)} (i:Nat) (c:List Value),(∀ d∈css,d.length=sz)→c.length=sz→i<css.length→setAt css.flatten (i*sz) c=(css.set i c).flatten
 | d :: r,0,c,h,hc,_=>by
  have hd:=h d (by simp)
  simp only[setAt,Nat.zero_mul,Ase,AqM,AqQ,List.set_cons_zero,AqI];rw[Arv,AqZ (by omega),AqM,hc,hd,Ate,Aqq]
 | d :: r,i+1,c,h,hc,hi=>by
  have hd:=h d (by simp)
  have ih:=GT (css:=r) i c (fun d hd=>h d (by simp[hd])) hc (by simpa using hi)
  simp only[List.set_cons_succ,AqI];rw[← ih];simp only[setAt,Ard];have e3:i*sz+sz+c.length-d.length=i*sz+c.length:=by omega
  have e4:i*sz+sz-d.length=i*sz:=by omega
  rw[ArM,AqX (l:=d) (by omega),e4,Arv,AqZ (by omega),AqM,e3]
  simp only[Aqv]
theorem J1 {ok:Md→Bool} {m:Option Nat}:(s:Sh)→s.flat=true→∀ {ls rest rw rw' x},take ok m s ls rw=some (x,rest,rw')→rw'=rw
 | .int _,_,ls,rest,rw,rw',x,h=>by
  simp only[take] at h;split at h
  ·split at h
   ·cases h;rfl
   ·cases h
  ·cases h
 | .bool,_,ls,rest,rw,rw',x,h=>by
  simp only[take] at h;split at h
  ·cases h;rfl
  ·cases h
 | .str,_,ls,rest,rw,rw',x,h=>by
  simp only[take] at h;split at h
  ·cases h;rfl
  ·cases h
 | .cons a b,hf,ls,rest,rw,rw',x,h=>by
  simp only[Sh.flat,Aql] at hf;simp only[take] at h;split at h
  ·rename_i h1;split at h
   ·rename_i h2;cases h;rw[J1 b hf.2 h2,J1 a hf.1 h1]
   ·cases h
  ·cases h
theorem Kx {q:Nat} {s:Sh} (hf:s.flat=true):∀ {parts:List (Nat×Operand)} {xs xs':List s.T} {rw rw':List (Option Ac)},FR fr ch q s parts xs rw=some (xs',rw')→rw'=rw
 | [],_,_,_,_,h=>by cases h;rfl
 | (i,x) :: r,xs,xs',rw,rw',h=>by
  simp only[FR] at h;split at h
  ·split at h
   ·rename_i h1;cases hb:(Nat.blt i xs.length&&(s.agg==_))
    ·rw[hb] at h;cases h
    ·rw[hb,cond_true] at h;rw[Kx hf h,J1 s hf h1]
   ·cases h
  ·cases h
structure Lit (s:Sh) (w:World) (g:Sg) (rw0 rw:Nat→Option Ac) (xs:List s.T) (css:List (List Value)):Prop where
 len:css.length=xs.length
 cell:∀ c∈css,c.length=s.n∧∀ u∈c,u.oneCell'=true
 G:∃ G:Nat→FP,(∀ j k,G j k→Own rw0 g k∧¬ Own rw g k)∧(∀ i j k,i≠j→G i k→¬ G j k)∧∀ j x c,xs[j]? = some x→css[j]? = some c→OC s w (G j) x c
theorem Ci {sz:Nat}:∀ {css:List (List Value)},(∀ d∈css,d.length=sz)→css.flatten.length=css.length*sz
 | [],_=>by simp
 | d :: r,h=>by
  rw[AqI,Aqs,h d (by simp),Ci fun d hd=>h d (by simp[hd]),Aq3,Ard]
  omega
theorem Pr (hs:Sim C fr.f g a w) (hc:Holds a ch) {q:Nat} {s:Sh}:∀ {parts:List (Nat×Operand)} {xs xs':List s.T} {rw rw':List (Option Ac)} {css:List (List Value)},FR fr ch q s parts xs rw=some (xs',rw') →
  AX (some q) (at? fr.rw) (at? rw)→Lit s w g (at? fr.rw) (at? rw) xs css →
  rw'.length=rw.length∧AX (some q) (at? fr.rw) (at? rw')∧∃ css',Instr.fill (fun i=>some (i*s.n,s.n)) css.flatten.toArray (parts.map fun p=>(p.1,a.eval p.2))=some css'.flatten.toArray∧Lit s w g (at? fr.rw) (at? rw') xs' css'
 | [],xs,xs',rw,rw',css,h,hT,hL=>by cases h;exact⟨rfl,hT,css,rfl,hL⟩
 | (i,x) :: r,xs,xs',rw,rw',css,h,hT,hL=>by
  simp only[FR] at h;split at h
  ·rename_i ag vs hx;split at h
   ·rename_i y rw1 h1;cases hb:(Nat.blt i xs.length&&(s.agg==ag))
    ·rw[hb] at h;cases h
    ·rw[hb,cond_true] at h;simp only[Aql,beq_iff_eq] at hb;have hi:i<xs.length:=by have:=hb.1;simp only[Nat.blt,ArB] at this;omega
     obtain⟨us,e,hr,hag⟩:=Cq hs hc hx;obtain⟨n1,t1,c1,c2,e12,hr2,hO⟩:=Bg (g:=g) (w:=w) (C:=C) (fun m hm=>by
      have:m=.own:=by simpa using hm
      subst this;exact⟨rfl,fun _=>rfl⟩) s h1 hr (hs.tab.took hT)
     cases hr2;have e12':us=c1:=by rw[e12,Aq9]
     subst e12';have hul:=OC.len s hO;have hcl:(a.eval x).cells.toList=us:=by rw[e];exact B7 (fun hb'=>by rw[hr.len,hag hb']) hr.one
     obtain⟨G,hG1,hG2,hG3⟩:=hL.G;have hL':Lit s w g (at? fr.rw) (at? rw1) (xs.set i y) (css.set i us):=by
      refine⟨by simp[hL.len],?_,fun j=>if j=i then (fun k=>Own (at? rw) g k∧¬ Own (at? rw1) g k) else G j,?_,?_,?_⟩
      ·intro d hd;rcases Asl hd with hd | hd
       ·exact hL.cell d hd
       ·rw[hd];exact⟨hul,hr.one⟩
      ·intro j k hk;split at hk
       ·exact⟨hk.1.took hT,hk.2⟩
       ·exact⟨(hG1 j k hk).1,fun h=>(hG1 j k hk).2 (h.took t1)⟩
      ·intro j j' k hjj h1 h2;split at h1<;>split at h2
       ·omega
       ·exact (hG1 _ k h2).2 h1.1
       ·exact (hG1 _ k h1).2 h2.1
       ·exact hG2 j j' k hjj h1 h2
      ·intro j x' d hx' hd';rw[As4] at hx' hd';by_cases hij:i=j
       ·subst hij;rw[if_pos rfl,if_pos hi] at hx';rw[if_pos rfl,if_pos (by rw[hL.len];exact hi)] at hd'
        cases hx';cases hd';simp only[if_true];exact hO
       ·rw[if_neg hij] at hx' hd';have e2:(if j=i then (fun k=>Own (at? rw) g k∧¬ Own (at? rw1) g k) else G j)=G j:=if_neg (fun e=>hij e.symm);show OC s w (if j=i then (fun k=>Own (at? rw) g k∧¬ Own (at? rw1) g k) else G j) x' d;rw[e2];exact hG3 j x' d hx' hd'
     obtain⟨n2,t2,css',hf,hL2⟩:=Pr hs hc h (hT.trans t1) hL';refine⟨n2.trans n1,t2,css',?_,hL2⟩;rw[Arh,JZ _ css.flatten i (a.eval x) _ (i*s.n) s.n rfl us hcl hul]
     ·rw[GT i us (fun d hd=>(hL.cell d hd).1) hul (by rw[hL.len];exact hi)]
      exact hf
     ·rw[Ci (fun d hd=>(hL.cell d hd).1),hL.len];have:=Aq0 s.n (show i+1≤xs.length from hi)
      rw[Ard] at this;exact this
   ·cases h
  ·cases h
end Go.Proofs.YteheolldcpjkcaaGreat.X
namespace Go.Proofs.YteheolldcpjkcaaGreat.X
open Go Go.RowKit
variable [CW]
variable {C:Cx} {fr:Fr} {big:FF} {g:Sg} {a:Act} {w w':World} {ch:List (Nat×Bool)} {E:Env}
theorem FJ {P:Program} (w:World) (t e:TypeId) (len:Nat) (parts:List (Nat×Value)) (cells:Array Value) {s:Sh} {zs:List Value} (hu:P.underlying t=some (.slice e)) (hT:Fu P e s) (hz:Cc s=some zs) (hle:len*s.n≤16777216)
  (h:Instr.fill (fun i=>some (i*s.n,s.n)) ((List.replicate len zs).flatten).toArray parts=some cells) :
  (Instr.buildSlice t len parts.toArray).run P w=.ok (.slice (some ⟨w.heap.size,0,none⟩) len len) (w.alloc (.cells cells e)):=by
 have hzl:=BT s hz;have hzc:(Ay s.agg zs).cells=zs.toArray:=by rw[← Aqw (xs:=(Ay s.agg zs).cells),Ep hz]
 have hp:=s.n_pos;have e1:(madeCells zs.toArray (len*s.n))=((List.replicate len zs).flatten).toArray:=by
  rw[← C7 zs len (by omega),Aqw,hzl]
 by_cases h0:len*s.n=0
 ·have hl:len=0:=by
   rcases Nat.mul_eq_zero.1 h0 with h | h
   ·exact h
   ·omega
  subst hl;have h':Instr.fill (fun i=>some (i*s.n,s.n)) #[] parts=some cells:=by simpa using h
  simp[Instr.buildSlice,run_underlying hu,hT.sizeOf,Array.range_zero',h',newRow]
 ·have hng:¬ len*s.n>2 ^ 24:=by omega
  have h':Instr.fill (fun i=>some (i*s.n,s.n)) ((Array.range (len*s.n)).map (zs.toArray[· % zs.toArray.size]!)) parts=some cells:=by
   have:((Array.range (len*s.n)).map (zs.toArray[· % zs.toArray.size]!))=madeCells zs.toArray (len*s.n):=rfl;rw[this,e1];exact h
  simp only[Instr.buildSlice,Aqu,run_underlying hu,Aqp,hT.sizeOf];rw[if_neg hng];simp only[Aqu,AqO,Aqp,h0,if_false,hT.zero hz,hzc,h',newRow];rfl
theorem Ps (hs:Sim C fr.f g a w) (hc:Holds a ch) (sz:Nat):∀ {parts:List (Nat×Operand)} {cs cs':List Lf} {us:List Value},AC C g cs us→PO fr ch sz parts cs=some cs' →
  ∃ us',Instr.fill (fun i=>some (i*sz,sz)) us.toArray (parts.map fun p=>(p.1,a.eval p.2))=some us'.toArray∧AC C g cs' us'
 | [],cs,cs',us,hr,h=>by cases h;exact⟨us,rfl,hr⟩
 | (i,x) :: r,cs,cs',us,hr,h=>by
  unfold PO at h;split at h
  ·rename_i ag vs h2;cases hb:(Nat.beq vs.length sz&&Nat.ble (i*sz+sz) cs.length)
   ·rw[hb] at h;cases h
   ·rw[hb,cond_true] at h;simp only[Aql] at hb;have e1:vs.length=sz:=Aqm hb.1;have e2:=CB hb.2;obtain⟨xs,e,hx,hag⟩:=Cq hs hc h2;obtain⟨us',hf,hr'⟩:=Ps hs hc sz (hr.setAt hx (i*sz)) h;have hl:=hr.len;have hl':=hx.len;refine⟨us',?_,hr'⟩;rw[Arh,JZ _ us i (a.eval x) _ (i*sz) sz rfl xs (by rw[e];exact B7 (fun hb=>by rw[hl',hag hb]) hx.one) (by omega) (by omega)]
    exact hf
  ·cases h
theorem AC.rep {z:List Lf} {zs:List Value} (h:AC C g z zs):∀ n:Nat,AC C g (List.replicate n z).flatten (List.replicate n zs).flatten
 | 0=>rfl
 | n+1=>by
  rw[AsQ,AsQ,AqI,AqI];exact h.append (h.rep n)
theorem NQ (hE:AG C.P E) (hC:A9 C) (hs:Sim C big g a w) (hsub:Sub fr big) (hc:Holds a ch) (o:Oper) (t:TypeId) (n:Nat) (parts:Array (Nat×Operand)) (ho:o.op=.buildSlice t n parts) {e:Nat} {s:Sh} {b:Nat} (hsl:slT E t=some (e,s,b)):AU C g a fr big ((execOp a.eval o).run C.P w) (HO fr ch e s n parts.toList):=by
 unfold HO;split
 ·rename_i z hz0;split
  ·rename_i cs hbx;cases hle:Nat.ble (n*s.n) 16777216
   ·trivial
   ·rw[cond_true];intro _ _ hfree;have hle':=CB hle;obtain⟨hund,hT,_⟩:=GR hE hsl;obtain⟨zs,hzs,hzr⟩:=H2 (C:=C) (g:=g) s hz0;obtain⟨us,hf,hr⟩:=Ps (hs.sub hsub) hc s.n (hzr.rep n) hbx;have hi:=hfree.β fr.bx.length (Aqr _) (by simp)
    have hrun:(execOp a.eval o).run C.P w=.ok (.value (.slice (some ⟨w.heap.size,0,none⟩) n n)) (w.alloc (.cells us.toArray e)):=by
     have:=FJ (P:=C.P) w t e n (parts.toList.map fun p=>(p.1,a.eval p.2)) _ hund hT hzs hle' hf;have e2:(parts.map fun (i,x)=>(i,a.eval x))=(parts.toList.map fun p=>(p.1,a.eval p.2)).toArray:=by
      rw[← Asj,Aqw]
     simp only[execOp,ho,Aqu];rw[e2,this];rfl
    refine⟨_,_,_,hrun,.inl rfl,_,Hn fr hi rfl,by simpa only[grow,Ah,BE,BL,B2] using hs.mkBox hC hi us cs hr e,fun av hav=>?_⟩
    cases hav;exact VR.of1 ⟨w.heap.size,Sg.box_at _ _ _,rfl⟩
  ·trivial
 ·trivial
theorem KH (hE:AG C.P E) (hC:A9 C) (hs:Sim C big g a w) (hsub:Sub fr big) (hc:Holds a ch) (o:Oper) (t:TypeId) (n:Nat) (parts:Array (Nat×Operand)) (ho:o.op=.buildSlice t n parts):AU C g a fr big ((execOp a.eval o).run C.P w) (E5 E fr ch t n parts.toList):=by
 unfold E5;split
 ·rename_i e s b hsl;split
  ·rename_i xs rw' hbs;cases hle:Nat.ble (n*s.n) 16777216
   ·trivial
   ·rw[cond_true];intro _ hfull hfree;have hle':=CB hle;obtain⟨hund,hT,_⟩:=GR hE hsl;obtain⟨i,z,hi,hsz,hz,zs,hzs,hzz⟩:=hT.info;have hzl:=BT s hzs;have hn:g.ρ fr.rw.length=none:=hfree.ρ _ (Aqr _) (by simp)
    have hlit0:Lit s w g (at? fr.rw) (at? fr.rw) (List.replicate n s.dfl) (List.replicate n zs):=by
     refine⟨by simp,fun d hd=>?_,fun _ _=>False,fun _ _ h=>h.elim,fun _ _ _ _ h=>h.elim,fun j x' d hx' hd'=>?_⟩
     ·rw[Asp hd];exact⟨hzl,Dg s hzs⟩
     ·rw[Ark] at hx' hd';split at hx'
      ·rename_i hj;rw[if_pos hj] at hd';cases hx';cases hd';exact J0 s hzs _ _
      ·cases hx'
    obtain⟨hlen,hTk,css,hf,hL⟩:=Pr (g:=g) (hs.sub hsub) hc hbs (AX.refl _ _) hlit0;have hxl:xs.length=n:=by
     have:=hL.len;have h2:=buildS_len hbs;simpa using h2
    have hrun:(execOp a.eval o).run C.P w=.ok (.value (.slice (some ⟨w.heap.size,0,none⟩) n n)) (w.alloc (.cells css.flatten.toArray e)):=by
     have:=FJ (P:=C.P) w t e n (parts.toList.map fun p=>(p.1,a.eval p.2)) _ hund hT hzs hle' hf;have e2:(parts.map fun (i,x)=>(i,a.eval x))=(parts.toList.map fun p=>(p.1,a.eval p.2)).toArray:=by
      rw[← Asj,Aqw]
     simp only[execOp,ho,Aqu];rw[e2,this];rfl
    have hfl:css.flatten.length=n*s.n:=by rw[Ci (fun d hd=>(hL.cell d hd).1),hL.len,hxl]
    have hmax:n≤maxLen:=by
     have:=Nat.le_mul_of_pos_right n s.n_pos;simp only[maxLen];omega
    have hown:=World.ownsRow_lit (base:=0) (e:=e) (size:=s.n) w css.flatten.toArray n (Ari _) hmax (by simpa using hfl)
    have hM:=AE.alloc w (.cells css.flatten.toArray e) (fun _=>False);have hwl:w.heap.size<(w.alloc (.cells css.flatten.toArray e)).heap.size:=by simp
    cases hsf:s.flat with
    | true =>
     have hrw:=Kx hsf hbs;subst hrw
     let q:B3:=⟨.slice (some ⟨w.heap.size,0,none⟩) n n,fun k=>k=w.heap.size,s.n⟩
     have hO:Bq e s (w.alloc (.cells css.flatten.toArray e)) q.F q.v xs:=by
      obtain⟨G,_,_,hG⟩:=hL.G;refine⟨css,by rw[hxl];simpa using hown,hL.len,hL.cell,?_,fun _ _=>False,by simp,by simp,fun j x' d hx' hd'=>?_⟩
      ·intro k hk;simp[q,Value.ownBlock] at hk;exact hk.symm
      ·exact RC.flatOC s hsf (OC.read (P:=C.P) s (hG j x' d hx' hd'))
     refine⟨_,_,_,hrun,.inl rfl,g.row fr.rw.length q,E1 fr hn rfl,?_,fun av hav=>?_⟩
     ·rw[cond_true,Uk];exact hs.freshRow hC hn (q:=q) rfl hM hO ⟨_,_,_,rfl⟩ rfl fun k hk=>by cases hk;exact⟨Aqr _,hwl⟩
     ·cases hav;exact VR.of1 ⟨q,_,_,_,Sg.row_at _ _ _,rfl,rfl⟩
    | false =>
     rw[hsf,cond_false] at hfull;have hfb:=hfull rfl;subst hfb
     let q:B3:=⟨.slice (some ⟨w.heap.size,0,none⟩) n n,fun k=>k=w.heap.size∨(Own (at? fr.rw) g k∧¬ Own (at? rw') g k),s.n⟩
     have hO:Bq e s (w.alloc (.cells css.flatten.toArray e)) q.F q.v xs:=by
      obtain⟨G,hG1,hG2,hG⟩:=hL.G;refine⟨css,by rw[hxl];simpa using hown,hL.len,hL.cell,?_,G,fun j k hk=>⟨.inr (hG1 j k hk),?_⟩,hG2,fun j x' d hx' hd'=>?_⟩
      ·intro k hk;simp[q,Value.ownBlock] at hk;exact .inl hk.symm
      ·have:=(Own.zone hs (hG1 j k hk).1).2;simp[q,Value.ownBlock];omega
      ·exact OC.same s (fun k hk=>hM.block k (Own.zone hs (hG1 j k hk).1).2 (fun h=>h)) (hG j x' d hx' hd')
     refine⟨_,_,_,hrun,.inl rfl,g.row fr.rw.length q,E1 fr hn rfl,?_,fun av hav=>?_⟩
     ·rw[cond_false,Ul];refine hs.handOver hC hn hTk (q:=q) rfl hM (fun _ h=>h.elim) hO ⟨_,_,_,rfl⟩ rfl (fun k hk=>?_) (fun j r0 pa hj e0 qj hqj k hk=>⟨.inr ?_,fun h=>h⟩)
      ·rcases hk with rfl | hk
       ·exact⟨.inl (Aqr _),hwl⟩
       ·exact⟨.inr hk,AqN (Own.zone hs hk.1).2 hM.size⟩
      ·rcases hTk.row j r0 hj with h1 | ⟨q0,r1,h1,h2,h3,h4,_⟩
       ·obtain⟨_,_,_,_,_,_,_,_,hZ⟩:=hs.rows j r0 h1;rw[B4,e0] at hZ;obtain⟨_,_,_,_,_,h3,_⟩:=hZ;rw[hn] at h3;cases h3
       ·exact Own.gone hs.tab hTk h2 h3 hqj (fun r' hr'=>by rw[hj] at hr';cases hr';rw[h4];rfl) hk
     ·cases hav;exact VR.of1 ⟨q,_,_,_,Sg.row_at _ _ _,rfl,rfl⟩
  ·exact NQ hE hC hs hsub hc o t n parts ho hsl
 ·trivial
 where
 buildS_len {q:Nat} {s:Sh}:∀ {parts:List (Nat×Operand)} {xs xs':List s.T} {rw rw':List (Option Ac)},FR fr ch q s parts xs rw=some (xs',rw')→xs'.length=xs.length
  | [],_,_,_,_,h=>by cases h;rfl
  | (i,x) :: r,xs,xs',rw,rw',h=>by
   simp only[FR] at h;split at h
   ·split at h
    ·cases hb:(Nat.blt i xs.length&&(s.agg==_))
     ·rw[hb] at h;cases h
     ·rw[hb,cond_true] at h;rw[buildS_len h];simp
    ·cases h
   ·cases h

theorem Pu (hs:Sim C big g a w) (hsub:Sub fr big) {l:Lf} {u:Value} {j:Nat} {p:Ac} {lo len:Int} (hl:LfR C g l u) (hi:CQ fr l=some (j,p,lo,len)) (hf:p.s.flat=true) :
  ∃ A c,u=.slice A ((p.xs.take (lo+len).toNat).drop lo.toNat).length c∧∃ css:List (List Value),css.length=((p.xs.take (lo+len).toNat).drop lo.toNat).length∧(∀ d∈css,d.length=p.s.n∧∀ v∈d,v.oneCell'=true) ∧
   (0<((p.xs.take (lo+len).toNat).drop lo.toNat).length→∃ ad,A=some ad∧∀ j v,css.flatten[j]? = some v→w.cell? (ad.add j)=some v) ∧
   ∀ (j:Nat) y d,((p.xs.take (lo+len).toNat).drop lo.toNat)[j]? = some y→css[j]? = some d→∀ w',OC p.s w' (fun _=>False) y d:=by
 obtain⟨hat,q,A,n,c,A',n',c',hq,hv,hz,hn,hrd,hu,hlen,h0,hle,hc',hA0,hA⟩:=CT hs hsub hl hi;subst hlen;have hyl:((p.xs.take (lo+(n':Int)).toNat).drop lo.toNat).length=n':=by
  simp;omega
 rw[hyl];refine⟨A',c',hu,?_⟩;rcases Are n' with h | hpos
 ·subst h;have hnil:(p.xs.take (lo+((0:Nat):Int)).toNat).drop lo.toNat=[]:=Arq hyl;rw[hnil];exact⟨[],rfl,by simp,fun h=>absurd h (Ar6 _),by simp⟩
 ·obtain⟨A1,n1,c1,e,hn1,hx⟩:=id hrd;injection e with e;rw[hv] at e;cases e;obtain⟨ad,rfl,_,hcell⟩:=hx.2 (by omega)
  have hAe:=hA hpos;simp only[AqU] at hAe;obtain⟨css,h1,h2,h3,h4⟩:=Wm (P:=C.P) hf (w:=w) (F:=q.F) (xs:=(p.xs.take (lo+(n':Int)).toNat).drop lo.toNat) (ad:=ad.add (lo.toNat*p.s.n)) (fun j y hy=>by
   rw[Aq5,AqW] at hy;split at hy
   ·obtain⟨cs,r1,r2,r3⟩:=hcell _ y hy;refine⟨cs,r1,r2,fun i v hv=>?_⟩;rw[Addr.add_add,← r3 i v hv];congr 2;rw[ArZ];omega
   ·cases hy)
  refine⟨css,by rw[h1,hyl],h2,fun _=>⟨_,hAe,?_⟩,h3⟩
  rw[hz];exact h4
theorem H3 (hC:A9 C) (hs:Sim C big g a w) {rw':Nat→Option Ac} {N i e:Nat} {s:Sh} {xs ys:List s.T} {m:Md} (hi:big.rw i=some ⟨e,s,xs,m⟩) (hm:m.mine=true) (hn:g.ρ N=none) (hT:AX none big.rw rw') (hig:rw' i=none)
  {q:B3} (hq:g.ρ i=some q) {v':Value} {w':World} (hmv:AE (fun k=>some k=q.v.ownBlock) w w') (hsl:∃ A m c,v'=.slice A m c) {FF:FP} (hFF:∀ k,FF k→Own big.rw g k∧¬ Own rw' g k)
  (hO:Bq e s w' (fun k=>q.F k∨FF k∨(w.heap.size≤k∧k<w'.heap.size)) v' (xs++ys)) :
  Sim C { big with rw:=fun j=>if j=N then some ⟨e,s,xs++ys,.own⟩ else rw' j } (g.row N ⟨v',fun k=>q.F k∨FF k∨(w.heap.size≤k∧k<w'.heap.size),s.n⟩) a w':=by
 have hiO:∀ k,q.F k→Own big.rw g k∧¬ Own rw' g k:=fun k hk=>Own.gone hs.tab hT hi hm hq (fun r' hr'=>by rw[hig] at hr';cases hr') hk
 have hOi:=((hs.rows i _ hi).mine hm hq).1;refine hs.handOver hC hn hT.any rfl hmv (fun k hk=>hiO k ?_) hO hsl rfl (fun k hk=>?_) (fun j r0 pa hj e0 qj hqj k hk=>?_)
 ·obtain⟨_,_,_,_,hb,_⟩:=hOi;exact hb k hk.symm
 ·rcases hk with hk | hk | hk
  ·exact⟨.inr (hiO k hk),AqN (Own.zone hs (hiO k hk).1).2 hmv.size⟩
  ·exact⟨.inr (hFF k hk),AqN (Own.zone hs (hFF k hk).1).2 hmv.size⟩
  ·exact⟨.inl hk.1,hk.2⟩
 ·rcases hT.row j r0 hj with h1 | ⟨_,_,h1,_⟩
  ·obtain⟨_,_,_,_,_,_,_,_,hZ⟩:=hs.rows j r0 h1;rw[B4,e0] at hZ;obtain⟨_,_,_,_,_,h3,_⟩:=hZ;rw[hn] at h3;cases h3
  ·cases h1
theorem Um (hE:AG C.P E) (hC:A9 C) (hs:Sim C big g a w) (hsub:Sub fr big) (o:Oper) (c:Call) (ho:o.op=.call c) (hb:c.callee=.builtin .append) (t:TypeId) (x y:Operand) (ha:c.args=#[x,y]) (hat:c.argTypes=#[t,t]) {lx ly:Lf} (hx:LfR C g lx (a.eval x)) (hy:LfR C g ly (a.eval y)) :
  AU C g a fr big ((execOp a.eval o).run C.P w) (LK E fr t lx ly):=by
 have run:∀ {v' w'},(Builtin.append_ #[t,t] o.type #[a.eval x,a.eval y]).run C.P w=.ok v' w'→(execOp a.eval o).run C.P w=.ok (.value v') w':=fun h=>by
  simp[execOp,ho,resolve,hb,ha,hat,invoke,builtin,h]
 unfold LK;split
 ·rename_i e s b i hsl;obtain⟨hund,hT,hbb⟩:=GR hE hsl;split
  ·rename_i qi hqi;cases hc1:(qi.m==.own&&Nat.beq e qi.e)
   ·trivial
   ·rw[cond_true];simp only[Aql,beq_iff_eq] at hc1;obtain⟨ei,si,xs,mi⟩:=qi;obtain⟨hmi,he⟩:=hc1;simp only at hmi;subst hmi;have he:=Aqm he;simp only at he;subst he;split
    ·rename_i hsi;simp only at hsi;subst hsi;obtain⟨q,A,n,cc,hq,hv,hu⟩:=hx;have hux:a.eval x=q.v:=by rw[hu,hv]
     have hlim:∀ {m:Nat},Nat.ble (xs.length+m) (lim b)=true→xs.length+m≤lim b:=fun h=>CB h
     -- what comes in is flat
     have flat:∀ {j:Nat} {p:Ac} {lo len:Int} {ys:List si.T} (hsf:si.flat=true) (hri:CQ fr ly=some (j,p,lo,len)) (hps:p.s=si),HEq ys ((p.xs.take (lo+len).toNat).drop lo.toNat)→AU C g a fr big ((execOp a.eval o).run C.P w)
       (.done (Nat.ble (xs.length+ys.length) (lim b)) (some (.l (.row fr.rw.length))) [⟨e,si,xs++ys,.own⟩] [] (.gone [i])):=by
      intro j p lo len ys hsf hri hps hys;obtain⟨pe,ps,pxs,pm⟩:=p;simp only at hps;subst hps;have hys:=eq_of_heq hys;subst hys;intro hreq _ hfree;have hqi:=hsub.rw _ _ hqi;have hn:g.ρ fr.rw.length=none:=hfree.ρ _ (Aqr _) (by simp)
      obtain⟨A2,c2,hu2,css,h1,h2,h3,h4⟩:=Pu hs hsub hy hri hsf;have hOi:=((hs.rows i _ hqi).mine rfl hq).1;obtain⟨v',w',hr,hmv,hsl',hO⟩:=DG (C:=C) (ty:=o.type) hund hT hbb hOi h1 h2 h3 (hlim hreq) (fun _=>False) (fun _ _=>False) (fun _ _ h=>h.elim) (fun _ _ _ _ h=>h.elim) (fun j y d hy hd=>h4 j y d hy hd w) (hs.row_lt hqi hq) (c:=c2);rw[← hux,← hu2] at hr;refine⟨_,_,_,run hr,.inl rfl,g.row fr.rw.length ⟨v',fun k=>q.F k∨False∨(w.heap.size≤k∧k<w'.heap.size),ps.n⟩,E1 fr hn rfl,?_,fun av hav=>?_⟩
      ·rw[Abi];exact H3 (FF:=fun _=>False) (rw':=fun n=>GO i n (big.rw n)) hC hs hqi rfl hn (Abj big.rw i) (if_pos rfl) hq hmv hsl' (fun _ h=>h.elim) hO
      ·cases hav;obtain⟨A3,m3,c3,e3⟩:=hsl';exact VR.of1 ⟨_,_,_,_,Sg.row_at _ _ _,e3,e3⟩
     split
     ·rename_i j;split
      ·rename_i p hp;cases hc2:(Nat.beq p.e e)
       ·trivial
       ·rw[cond_true];split
        ·rename_i hps;obtain⟨pe,ps,pxs,pm⟩:=p;simp only at hps;subst hps;cases hsf:ps.flat with
         | true =>
          rw[cond_true];refine flat (j:=j) hsf (p:=⟨pe,ps,pxs,pm⟩) (lo:=0) (len:=(pxs.length:Int)) (by simp[CQ,hp]) rfl ?_
          have e1:((0:Int)+(pxs.length:Int)).toNat=pxs.length:=by omega
          rw[e1];simp[E2]
         | false =>
          rw[cond_false];cases hc3:(pm==.own&&!Nat.beq i j)
          ·simp only[hc3];trivial
          ·simp only[hc3,cond_true];simp only[Aql,beq_iff_eq,ArJ] at hc3;obtain⟨hpm,hij⟩:=hc3;subst hpm;have hne:i≠j:=fun h=>by subst h;rw[AsA] at hij;cases hij
           have hpe:pe=e:=Aqm hc2;subst hpe;intro hreq hfull hfree;have hfb:=hfull rfl;subst hfb;have hn:g.ρ fr.rw.length=none:=hfree.ρ _ (Aqr _) (by simp)
           have hOi:=((hs.rows i _ hqi).mine rfl hq).1;obtain⟨q2,A2,n2,c2,hq2,hv2,hu2⟩:=hy;have hOj:=((hs.rows j _ hp).mine rfl hq2).1;obtain⟨A',c',ev,hle',hrd⟩:=CZ.reads (R:=RC C.P ps w q2.F) hOj (fun G x c hG h=>RC.mono ps hG (OC.read ps h));obtain⟨css,hoj,hlj,hcj,hbj,Gj,hGj,hdj,hMj⟩:=id hOj;have hdij:∀ k,q2.F k→¬ q.F k:=fun k h1 h2=>hne (hs.rdisj i j _ _ q q2 k hqi hp rfl rfl hq hq2 h2 h1);have hA:0<pxs.length→∃ ad,A'=some ad∧∀ j u,css.flatten[j]? = some u→w.cell? (ad.add j)=some u:=by
            intro hpos;obtain⟨ad,hA,_⟩:=hrd.2 hpos;subst hA;rcases hoj.2 with ⟨e1,_⟩ | ⟨gb,cap,cur,e1,_⟩
            ·rw[ev] at e1;cases e1
            ·rw[ev] at e1;injection e1 with e1 _ _;injection e1 with e1;subst e1;exact⟨_,rfl,fun j u hu=>hoj.cells (g:=gb) (by rw[ev];rfl) j u hu⟩
           obtain⟨v',w',hr,hmv,hsl',hO⟩:=DG (C:=C) (ty:=o.type) hund hT hbb hOi (ys:=pxs) hlj hcj hA (hlim hreq) q2.F Gj (fun j k hk=>⟨(hGj j k hk).1,hs.row_lt hp hq2 k (hGj j k hk).1,hdij k (hGj j k hk).1⟩) hdj hMj (hs.row_lt hqi hq) (c:=c');have hu2':a.eval y=.slice A' pxs.length c':=by rw[hu2,← ev,hv2]
           rw[← hux,← hu2'] at hr;have hT1:AX none (at? fr.rw) (at? (Ae i (AL fr.rw i none))):=BN hqi rfl _ (.inl rfl);have hp1:at? (Ae i (AL fr.rw i none)) j=some ⟨pe,ps,pxs,.own⟩:=by
            rw[Aq,AK,if_neg (fun h=>hne h.1)];exact⟨hp,fun _ _ e=>by cases e⟩
           have hT2:=hT1.trans (BN hp1 rfl _ (.inl rfl):AX none _ (at? (Ae j (AL (Ae i (AL fr.rw i none)) j none))));have gone1:at? (Ae j (AL (Ae i (AL fr.rw i none)) j none)) i=none:=by
            cases h:at? (Ae j (AL (Ae i (AL fr.rw i none)) j none)) i with
            | none=>rfl
            | some r =>
             rw[Aq,AK,if_neg (fun h=>hne h.1.symm),Aq,AK,if_pos ⟨rfl,A4 hqi⟩] at h;cases h.1.1
           have gone2:∀ r',at? (Ae j (AL (Ae i (AL fr.rw i none)) j none)) j=some r'→r'.m.mine=false:=by
            intro r' h;rw[Aq,AK,if_pos ⟨rfl,A4 hp1⟩] at h;cases h.1
           refine⟨_,_,_,run hr,.inl rfl,g.row fr.rw.length ⟨v',fun k=>q.F k∨q2.F k∨(w.heap.size≤k∧k<w'.heap.size),ps.n⟩,E1 fr hn rfl,?_,fun av hav=>?_⟩
           ·rw[Ul];exact H3 (rw':=at? (Ae j (AL (Ae i (AL fr.rw i none)) j none))) hC hs hqi rfl hn hT2 gone1 hq hmv hsl' (fun k hk=>Own.gone hs.tab hT2 hp rfl hq2 gone2 hk) hO
           ·cases hav;obtain⟨A3,m3,c3,e3⟩:=hsl';exact VR.of1 ⟨_,_,_,_,Sg.row_at _ _ _,e3,e3⟩
        ·trivial
      ·trivial
     ·rename_i j lo hi;split
      ·rename_i p hp;cases hc2:(Nat.beq p.e e&&si.flat)
       ·trivial
       ·rw[cond_true];simp only[Aql] at hc2;split
        ·rename_i hps;obtain⟨pe,ps,pxs,pm⟩:=p;simp only at hps;subst hps;refine flat (j:=j) hc2.2 (p:=⟨pe,ps,pxs,pm⟩) (lo:=lo) (len:=hi-lo) (by simp[CQ,hp]) rfl ?_
         have e1:(lo+(hi-lo)).toNat=hi.toNat:=by omega
         rw[e1];exact HEq.rfl
        ·trivial
      ·trivial
     ·trivial
    ·trivial
  ·trivial
 ·trivial
theorem Uo (hE:AG C.P E) (hC:A9 C) (hs:Sim C big g a w) (hsub:Sub fr big) (hc:Holds a ch) (o:Oper) (c:Call) (ho:o.op=.call c) (hb:c.callee=.builtin .append):AU C g a fr big ((execOp a.eval o).run C.P w) (LM E fr ch c.args.toList c.argTypes.toList):=by
 unfold LM;split
 ·rename_i x y t t' hx ht;have ha:c.args=#[x,y]:=by rw[← Aqw (xs:=c.args),hx]
  have hat:c.argTypes=#[t,t']:=by rw[← Aqw (xs:=c.argTypes),ht]
  split
  ·rename_i v u h1 h2;cases htt:Nat.beq t t'
   ·trivial
   ·have e:=Aqm htt;subst e;exact Um hE hC hs hsub o c ho hb t x y ha hat (As (hs.sub hsub) hc h1) (As (hs.sub hsub) hc h2)
  ·trivial
 ·trivial
end Go.Proofs.YteheolldcpjkcaaGreat.X
