/- The frame grows: new rows, new variables in memory, places written; and it is cut. -/
import Derived.Test.YteheolldcpjkcaaGreatQvXSim
import Derived.Laws.StructEq
import Derived.Laws.Concat
set_option linter.unusedSimpArgs false
set_option linter.unusedVariables false
set_option linter.unusedSectionVars false
namespace Go.Proofs.YteheolldcpjkcaaGreat.X
open Go Go.RowKit
variable [CW]
def Sg.row (g:Sg) (i:Nat) (q:B3):Sg:={ g with ρ:=fun j=>if j=i then some q else g.ρ j }
def Sg.box (g:Sg) (i:Nat) (k:Nat):Sg:={ g with β:=fun j=>if j=i then some k else g.β j }
theorem Sg.le_row {g:Sg} {i:Nat} (h:g.ρ i=none) (q:B3):g.Le (g.row i q):=⟨fun _ _ h=>h,fun j q' hj=>by
 show (if j=i then _ else _)=_;rw[if_neg (fun e=>by subst e;rw[h] at hj;cases hj)];exact hj⟩
theorem Sg.le_box {g:Sg} {i:Nat} (h:g.β i=none) (k:Nat):g.Le (g.box i k):=⟨fun j q' hj=>by
 show (if j=i then _ else _)=_;rw[if_neg (fun e=>by subst e;rw[h] at hj;cases hj)];exact hj,fun _ _ h=>h⟩
theorem Sg.row_at (g:Sg) (i:Nat) (q:B3):(g.row i q).ρ i=some q:=if_pos rfl
theorem Sg.row_ne (g:Sg) {i j:Nat} (q:B3) (h:j≠i):(g.row i q).ρ j=g.ρ j:=if_neg h
theorem Sg.box_at (g:Sg) (i:Nat) (q:Nat):(g.box i q).β i=some q:=if_pos rfl
theorem Sg.box_ne (g:Sg) {i j:Nat} (q:Nat) (h:j≠i):(g.box i q).β j=g.β j:=if_neg h
variable {C:Cx} {fr:FF} {g:Sg} {a:Act} {w:World}
theorem CI.mono {rw rw':Nat→Option Ac} {g g':Sg} {i:Nat} {r:Ac} (hg:g.Le g') (hrw:∀ j r,rw j=some r→rw' j=some r) (h:CI C rw g w i r):CI C rw' g' w i r:=by
 obtain⟨q,A,n,c,hq,hv,hz,hl,hZ⟩:=h;refine⟨q,A,n,c,hg.ρ _ _ hq,hv,hz,hl,?_⟩;unfold B4 at hZ ⊢;split at hZ
 ·exact hZ
 ·exact hZ
 ·exact hZ
 ·obtain⟨h1,r',q',h2,h3,h4,h5⟩:=hZ;exact⟨h1,r',q',hrw _ _ h2,h3,hg.ρ _ _ h4,h5⟩
theorem CI.old {rw:Nat→Option Ac} {i:Nat} {r:Ac} (h:CI C rw g w i r) {g':Sg} (hg:g.Le g') {q:B3} (hq:g'.ρ i=some q):g.ρ i=some q:=by
 obtain⟨q',A,n,c,hq',_⟩:=h;rw[hg.ρ _ _ hq'] at hq;cases hq;exact hq'
theorem CI.old_lt {rw:Nat→Option Ac} {i:Nat} {r:Ac} (h:CI C rw g w i r) {q:B3} (hq:g.ρ i=some q):∀ k,q.F k→k<w.heap.size:=by
 obtain⟨q',A,n,c,hq',_,_,hl,_⟩:=h;rw[hq] at hq';cases hq';exact hl
theorem Ch.old {b:Bn} {i:Nat} (h:Ch C g w b i) {g':Sg} (hg:g.Le g') {q:Nat} (hq:g'.β i=some q):g.β i=some q:=by
 obtain⟨q',o,hq',_⟩:=h;rw[hg.β _ _ hq'] at hq;cases hq;exact hq'
theorem Ch.lt {b:Bn} {i:Nat} (h:Ch C g w b i) {k:Nat} (hk:g.β i=some k):k<w.heap.size:=by
 obtain⟨q',o,hq',hb,_⟩:=h;rw[hk] at hq';cases hq';exact (AqP.1 hb).1
theorem Sim.mono_slots {g':Sg} (h:Sim C fr g a w) (hg:g.Le g'):∀ t v,lkp fr.sl t=some v→AVR C g' a v (a.tmps.getD t undef):=fun t v hv=>(h.slots t v hv).mono hg
theorem Sim.newRow (h:Sim C fr g a w) {rw':Nat→Option Ac} {i:Nat} {r:Ac} {q:B3} (hi:g.ρ i=none) (hrw:∀ j,rw' j=if j=i then some r else fr.rw j)
  (hr:CI C rw' (g.row i q) w i r)
  (hd:r.m.mine=true→∀ k,q.F k→(∀ j r' q',fr.rw j=some r'→r'.m.mine=true→g.ρ j=some q'→¬ q'.F k)∧∀ j b,fr.bx j=some b→b.own=true→g.β j≠some k) :
  Sim C { fr with rw:=rw' } (g.row i q) a w:=by
 have hg:=Sg.le_row hi q;have none:fr.rw i=none:=by
  cases hn:fr.rw i with
  | none=>rfl
  | some r0=>obtain⟨q',_,_,_,hq',_⟩:=h.rows i r0 hn;rw[hi] at hq';cases hq'
 have hold:∀ j r',fr.rw j=some r'→rw' j=some r':=fun j r' hj=>by
  rw[hrw,if_neg (fun e=>by subst e;rw[none] at hj;cases hj)];exact hj
 refine { h with tied:=fun i q hi=>hg.ρ i q (h.tied i q hi),tie:=fun k hk=>hg.β 0 k (h.tie k hk),slots:=h.mono_slots hg,boxes:=fun j b hb=>(h.boxes j b hb).mono hg,bdisj:=fun i' j b b' k hb hb' ho hk hk'=>h.bdisj i' j b b' k hb hb' ho hk hk',rows:=?_,rdisj:=?_,rbox:=?_ }
 ·intro j r' hj;change rw' j=some r' at hj;rw[hrw] at hj;split at hj
  ·rename_i e;subst e;cases hj;exact hr
  ·exact (h.rows j r' hj).mono hg hold
 ·intro i1 j1 r1 r2 q1 q2 k h1 h2 m1 m2 hq1 hq2 hk1 hk2;change rw' i1=some r1 at h1;change rw' j1=some r2 at h2;rw[hrw] at h1 h2;split at h1
  ·rename_i e1;subst e1;cases h1;rw[Sg.row_at] at hq1;cases hq1;split at h2
   ·rename_i e2;exact e2.symm
   ·rename_i e2;rw[Sg.row_ne _ _ e2] at hq2;exact absurd hk2 ((hd m1 k hk1).1 j1 r2 q2 h2 m2 hq2)
  ·rename_i e1;rw[Sg.row_ne _ _ e1] at hq1;split at h2
   ·rename_i e2;subst e2;cases h2;rw[Sg.row_at] at hq2;cases hq2;exact absurd hk1 ((hd m2 k hk2).1 i1 r1 q1 h1 m1 hq1)
   ·rename_i e2;rw[Sg.row_ne _ _ e2] at hq2;exact h.rdisj i1 j1 r1 r2 q1 q2 k h1 h2 m1 m2 hq1 hq2 hk1 hk2
 ·intro i1 r1 q1 j b k h1 m1 hq1 hb ho hk hF;change rw' i1=some r1 at h1;rw[hrw] at h1;split at h1
  ·rename_i e1;subst e1;cases h1;rw[Sg.row_at] at hq1;cases hq1;exact (hd m1 k hF).2 j b hb ho hk
  ·rename_i e1;rw[Sg.row_ne _ _ e1] at hq1;exact h.rbox i1 r1 q1 j b k h1 m1 hq1 hb ho hk hF
theorem Sim.newBox (h:Sim C fr g a w) {bx':Nat→Option Bn} {i:Nat} {b:Bn} {k:Nat} (hi:g.β i=none) (hbx:∀ j,bx' j=if j=i then some b else fr.bx j)
  (hb:Ch C (g.box i k) w b i) (hd:(∀ j b',fr.bx j=some b'→g.β j≠some k)∧(b.own=true→∀ j r q,fr.rw j=some r→r.m.mine=true→g.ρ j=some q→¬ q.F k)) :
  Sim C { fr with bx:=bx' } (g.box i k) a w:=by
 have hg:=Sg.le_box hi k;have none:fr.bx i=none:=by
  cases hn:fr.bx i with
  | none=>rfl
  | some r0=>obtain⟨q',_,hq',_⟩:=h.boxes i r0 hn;rw[hi] at hq';cases hq'
 refine { h with tied:=fun i q hi=>hg.ρ i q (h.tied i q hi),tie:=fun k hk=>hg.β 0 k (h.tie k hk),slots:=h.mono_slots hg,rows:=fun j r hj=>(h.rows j r hj).mono hg fun _ _ h=>h,rdisj:=h.rdisj,boxes:=?_,bdisj:=?_,rbox:=?_ }
 ·intro j b' hj;change bx' j=some b' at hj;rw[hbx] at hj;split at hj
  ·rename_i e;subst e;cases hj;exact hb
  ·exact (h.boxes j b' hj).mono hg
 ·intro i1 j1 b1 b2 k1 h1 h2 ho hk1 hk2;change bx' i1=some b1 at h1;change bx' j1=some b2 at h2;rw[hbx] at h1 h2;split at h1
  ·rename_i e1;subst e1;rw[Sg.box_at] at hk1;cases hk1;split at h2
   ·rename_i e2;exact e2.symm
   ·rename_i e2;rw[Sg.box_ne _ _ e2] at hk2;exact absurd hk2 (hd.1 j1 b2 h2)
  ·rename_i e1;rw[Sg.box_ne _ _ e1] at hk1;split at h2
   ·rename_i e2;subst e2;rw[Sg.box_at] at hk2;cases hk2;exact absurd hk1 (hd.1 i1 b1 h1)
   ·rename_i e2;rw[Sg.box_ne _ _ e2] at hk2;exact h.bdisj i1 j1 b1 b2 k1 h1 h2 ho hk1 hk2
 ·intro i1 r1 q1 j b' k' h1 m1 hq1 hb' ho hk hF;change bx' j=some b' at hb';rw[hbx] at hb';split at hb'
  ·rename_i e1;subst e1;cases hb';rw[Sg.box_at] at hk;cases hk;exact hd.2 ho i1 r1 q1 h1 m1 hq1 hF
  ·rename_i e1;rw[Sg.box_ne _ _ e1] at hk;exact h.rbox i1 r1 q1 j b' k' h1 m1 hq1 hb' ho hk hF
theorem Nc (a:Act) (t u:Nat) (v:Value) (h:t<a.tmps.size):(a.put (some t) v).tmps.getD u undef=if u=t then v else a.tmps.getD u undef:=by
 simp only[Act.put,AqL,Array.getElem?_setIfInBounds];by_cases hu:t=u
 ·subst hu;simp[h]
 ·have:u≠t:=fun e=>hu e.symm;simp[hu,this]
theorem AVR.put {v:AV} {u x:Value} {t:Nat} (ht:t<a.tmps.size) (h:AVR C g a v u) (hw:v.waits t=false):AVR C g (a.put (some t) x) v u:=by
 cases v with
 | v ag cs=>exact h
 | tup vs=>exact h
 | grd c b ag cs =>
  have e:∀ p∈c,(a.put (some t) x).tmps.getD p.1 undef=a.tmps.getD p.1 undef:=fun p hp=>by
   rw[Nc a t p.1 x ht,if_neg];intro e;simp only[AV.waits,Asz] at hw;exact hw p hp (by rw[e];exact Bs t)
  refine⟨h.1,h.2.1,fun hc=>h.2.2.1 fun p hp=>(e p hp).symm.trans (hc p hp),fun hb p hp=>(e p hp).trans (h.2.2.2 hb p hp)⟩
theorem Sim.put (h:Sim C fr g a w) {d:Option Nat} {v:Option AV} {u:Value} {sl':List (Nat×AV)} (hp:NF fr.nt fr.sl d v=some sl')
  (hv:∀ av,v=some av→AVR C g a av u):Sim C { fr with sl:=sl' } g (a.put d u) w:=by
 cases d with
 | none=>simp only[NF] at hp;cases hp;exact h
 | some t =>
  simp only[NF] at hp;cases hb:Nat.blt t fr.nt
  ·rw[hb] at hp;cases hp
  ·rw[hb,cond_true] at hp;have hlt:t<a.tmps.size:=by rw[h.size];simp only[Nat.blt,ArB] at hb;omega
   have hsz:(a.put (some t) u).tmps.size=fr.nt:=by simp[Act.put,h.size]
   have hupf:∀ f:Nat×AV→Bool,Up (fr.sl.filter f):=fun f=>h.up.filter f;have main:∀ (sl:List (Nat×AV)),Up sl→(∀ t' v',lkp sl t'=some v'→AVR C g (a.put (some t) u) v' ((a.put (some t) u).tmps.getD t' undef))→Sim C { fr with sl:=sl } g (a.put (some t) u) w:=fun sl hu hs =>
    {h with nodef:=h.nodef,size:=hsz,up:=hu,slots:=hs }
   have old:∀ t' v',t'≠t→lkp (fr.sl.filter fun p=>!p.2.waits t) t'=some v'→AVR C g (a.put (some t) u) v' ((a.put (some t) u).tmps.getD t' undef):=by
    intro t' v' hne hl;obtain⟨h1,h2⟩:=Ee h.up hl;rw[Nc a t t' u hlt,if_neg hne];exact (h.slots t' v' h1).put hlt (by simpa using h2)
   cases v with
   | some v =>
    simp only at hp;have hwt:v.waits t=false:=by
     cases hwt:v.waits t
     ·rfl
     ·rw[hwt] at hp;cases hp
    rw[hwt,cond_false] at hp;cases hp;refine main _ ((hupf _).ins _ _) fun t' v' hl=>?_;rw[Fx] at hl;split at hl
    ·rename_i e;subst e;cases hl;rw[Nc a t t u hlt,if_pos rfl];exact (hv _ rfl).put hlt hwt
    ·rename_i e;exact old t' v' (fun e'=>e e'.symm) hl
   | none =>
    cases hp;refine main _ ((hupf _).filter _) fun t' v' hl=>?_;obtain⟨h1,h2⟩:=Ee (hupf _) hl;refine old t' v' (fun e=>?_) h1;subst e;simp at h2
end Go.Proofs.YteheolldcpjkcaaGreat.X
namespace Go.Proofs.YteheolldcpjkcaaGreat.X
open Go Go.RowKit
variable [CW]
variable {P:Program}
def Cc:Sh→Option (List Value)
 | .int k=>some [.int k 0]
 | .bool=>some [.bool false]
 | .str=>some [.string ByteArray.empty]
 | .list _ _=>some [.slice none 0 0]
 | .cons a b=>match Cc a,Cc b with | some x,some y=>some (x++y) | _,_=>none
 | _=>none
def CJ (P:Program) (t:Nat):Option Bool :=
 match P.underlying t with
 | some (.struct _) | some (.array _ _)=>some true
 | some _=>some false
 | none=>none
structure Fu (P:Program) (t:Nat) (s:Sh):Prop where
 info:∃ i z,P.info? t=some i∧i.size=s.n∧i.zero=some z∧∃ cs,Cc s=some cs∧z=Ay s.agg cs
 agg:CJ P t=some s.agg
def AfA (P:Program) (t:Nat):Ty→Prop
 | .sc (.int k)=>P.underlying t=some (.int k)
 | .sc .bool=>P.underlying t=some .bool
 | .sc .str=>P.underlying t=some .string
 | .sc _=>False
 | .st s fs=>s.agg=true∧∃ fds,P.underlying t=some (.struct fds)∧fds.toList.mapM (fun f=>(P.info? f.type).map fun i=>(f.offset,i.size))=some fs∧∀ (j off n:Nat),fs[j]? = some (off,n)→∃ fd i,fds[j]? = some fd∧fd.offset=off∧P.info? fd.type=some i∧i.size=n∧0<n∧CJ P fd.type=some (Nat.blt 1 n)
 | .sl e s b=>P.underlying t=some (.slice e)∧Fu P e s∧(∀ i,P.info? e=some i→i.bytes=b)
 | .ar s e n=>s.agg=true∧P.underlying t=some (.array n e)∧CJ P e=some false∧∃ i,P.info? e=some i∧i.size=1
structure AfB (P:Program) (t:Nat) (ty:Ty):Prop where
 ok:Fu P t ty.sh
 desc:AfA P t ty
structure Pj (P:Program) (t:Nat) (m:MTy):Prop where
 und:P.underlying t=some (.map m.k m.v)
 vty:Fu P m.v m.V
 kf:m.K.flat=true
 vf:m.V.flat=true
 chk:∀ (x:m.K.T) (e:Bool) (w:World),(Instr.checkKey e 10000 m.k (BI m.K x)).run P w=.ok () w
 eql:∀ (x y:m.K.T) (w:World),(Op.equal m.k (BI m.K x) (BI m.K y)).run P w=.ok (A7 m.K x y) w
 now:∃ d,P.underlying m.k=some d∧((∀ x y:m.K.T,Instr.sameNow d (BI m.K x) (BI m.K y)=some (A7 m.K x y))∨∀ x y:m.K.T,Instr.sameNow d (BI m.K x) (BI m.K y)=none)
 same:∀ x:m.K.T,Instr.sameBits 10000 (BI m.K x) (BI m.K x)=true
 inj:∀ x y:m.K.T,A7 m.K x y=true→x=y
theorem Hl {t:Nat} {b:Bool} (h:CJ P t=some b) (w:World):(isAgg t).run P w=.ok b w:=by
 unfold CJ at h;cases hu:P.underlying t with
 | none=>rw[hu] at h;cases h
 | some d =>
  rw[hu] at h;simp only[isAgg,Aqu,run_underlying hu,Aqp];cases d<;>simp at h<;>subst h<;>rfl
theorem Fu.sizeOf {t:Nat} {s:Sh} (h:Fu P t s) (w:World):(sizeOf t).run P w=.ok s.n w:=by
 obtain⟨i,z,hi,hs,_⟩:=h.info;simp[Go.sizeOf,typeInfo,hi,hs]
theorem Fu.isAgg {t:Nat} {s:Sh} (h:Fu P t s) (w:World):(isAgg t).run P w=.ok s.agg w:=Hl h.agg w
theorem Fu.zero {t:Nat} {s:Sh} (h:Fu P t s) {cs:List Value} (hz:Cc s=some cs) (w:World):(zeroValue t).run P w=.ok (Ay s.agg cs) w:=by
 obtain⟨i,z,hi,hs,hz',cs',h1,h2⟩:=h.info;rw[hz] at h1;cases h1;rw[← h2];simp[zeroValue,typeInfo,hi,hz']
theorem BT:(s:Sh)→∀ {cs},Cc s=some cs→cs.length=s.n
 | .int _,_,h | .bool,_,h | .str,_,h | .list _ _,_,h=>by cases h;rfl
 | .cons a b,cs,h=>by
  simp only[Cc] at h;split at h
  ·rename_i x y hx hy;cases h;simp[Sh.n,BT a hx,BT b hy]
  ·cases h
theorem Dg:(s:Sh)→∀ {cs},Cc s=some cs→∀ u∈cs,u.oneCell'=true
 | .int _,_,h | .bool,_,h | .str,_,h | .list _ _,_,h=>by cases h;simp[Value.oneCell']
 | .cons a b,cs,h=>by
  simp only[Cc] at h;split at h
  ·rename_i x y hx hy;cases h;intro u hu;rcases Aqy.1 hu with hu | hu
   ·exact Dg a hx u hu
   ·exact Dg b hy u hu
  ·cases h
theorem H2 {C:Cx} {g:Sg}:(s:Sh)→∀ {ls},Jp s=some ls→∃ cs,Cc s=some cs∧AC C g ls cs
 | .int k,_,h=>by cases h;exact⟨_,rfl,_,_,rfl,rfl,rfl⟩
 | .bool,_,h=>by cases h;exact⟨_,rfl,_,_,rfl,rfl,rfl⟩
 | .str,_,h=>by cases h;exact⟨_,rfl,_,_,rfl,rfl,rfl⟩
 | .list _ _,_,h=>by cases h;exact⟨_,rfl,_,_,rfl,rfl,rfl⟩
 | .cons a b,_,h=>by
  simp only[Jp] at h;split at h
  ·rename_i x y hx hy;cases h;obtain⟨c1,e1,r1⟩:=H2 (C:=C) (g:=g) a hx;obtain⟨c2,e2,r2⟩:=H2 (C:=C) (g:=g) b hy;exact⟨c1++c2,by simp[Cc,e1,e2],r1.append r2⟩
  ·cases h
theorem Sh.n_one {s:Sh} (h:s.agg=false):s.n=1:=by cases s<;>simp_all [Sh.agg,Sh.n]
theorem B7 {b:Bool} {cs:List Value} (hb:b=false→cs.length=1) (h1:∀ u∈cs,u.oneCell'=true):(Ay b cs).cells.toList=cs:=by
 cases b with
 | true=>simp[Ay,Value.cells]
 | false =>
  have:=hb rfl
  match cs,this with
  | [u],_ =>
   have:=h1 u (by simp)
   simp only[Ay,cond_false,List.headD_cons];cases u<;>simp_all [Value.cells,Value.oneCell']
theorem Ep {s:Sh} {cs:List Value} (h:Cc s=some cs):(Ay s.agg cs).cells.toList=cs:=B7 (fun hb=>by rw[BT s h,Sh.n_one hb]) (Dg s h)
theorem Dh {t:Nat} {s:Sh} (h:Fu P t s) (w:World) (A:Addr) (cs:List Value) (hl:cs.length=s.n) (hc:∀ i u,cs[i]? = some u→w.cell? (A.add i)=some u) :
  (loadVar t A).run P w=.ok (Ay s.agg cs) w:=by
 simp only[loadVar,Aqu,h.isAgg,Aqp];cases ha:s.agg with
 | true =>
  have hr:=run_loadCells_list (P:=P) w A cs hc;rw[hl] at hr;simp[h.sizeOf,hr,Ay]
 | false =>
  rw[Sh.n_one ha] at hl
  match cs,hl with
  | [u],_ =>
   have:=hc 0 u rfl;rw[Addr.add_zero'] at this;simp[load,Sem.run,this,Ay]
theorem FH {t:Nat} {s:Sh} (h:Fu P t s) (w:World) (k off:Nat) (old:Array Value) (ty:TypeId) (hk:w.heap[k]? = some (.cells old ty (0,0))) (v:Value) (cs:List Value)
  (hv:v.cells.toList=cs) (hl:cs.length=s.n) (h1:∀ u∈cs,u.oneCell'=true) (hf:off+s.n≤old.size) :
  (storeVar t ⟨k,off,none⟩ v).run P w=.ok () (w.setRow k (old.toList.take off++cs++old.toList.drop (off+cs.length)).toArray):=by
 have hsz:v.cells.size=s.n:=by rw[← hl,← hv];simp
 have hst:=run_storeCells_at P k off ty cs 0 old w hk (by omega) h1
 simp only[Aro] at hst;simp[storeVar,h.sizeOf,hsz,hv,hst]
def Aba (f:TypeId→Option Nat) (P:Program):List Field→Nat→Option Nat
 | [],off=>some off
 | fd :: r,off=>if fd.name ≠ "_" ∧ fd.offset=off then (match f fd.type,P.info? fd.type,CJ P fd.type with
   | some n,some i,some ag=>if i.size=n∧(ag=false→n=1) then Aba f P r (off+n) else none
   | _,_,_=>none) else none
def eqT (P:Program):Nat→TypeId→Option Nat
 | 0,_=>none
 | m+1,t=>match P.underlying t with
  | some (.int _) | some .bool | some .string=>some 1
  | some (.struct fs)=>if P.stoodInHeld t=false∧P.eqGuardType P.depth t=false then Aba (eqT P m) P fs.toList 0 else none
  | _=>none
inductive Kd where | int (k:IntKind) | bool | str
def Kd.of:Kd→Value→Prop
 | .int k,v=>∃ n,v=.int k n
 | .bool,v=>∃ n,v=.bool n
 | .str,v=>∃ n,v=.string n
def JX (f:TypeId→List Kd):List Field→List Kd
 | []=>[]
 | fd :: r=>f fd.type++JX f r
def kds (P:Program):Nat→TypeId→List Kd
 | 0,_=>[]
 | m+1,t=>match P.underlying t with
  | some (.int k)=>[.int k]
  | some .bool=>[.bool]
  | some .string=>[.str]
  | some (.struct fs)=>JX (kds P m) fs.toList
  | _=>[]
def Apd:Sh→Option Kd
 | .int k=>some (.int k) | .bool=>some .bool | .str=>some .str | _=>none
def E0:List Sh→Option (List Kd)
 | []=>some []
 | s :: r=>match Apd s,E0 r with | some a,some b=>some (a :: b) | _,_=>none
end Go.Proofs.YteheolldcpjkcaaGreat.X
namespace Go.Proofs.YteheolldcpjkcaaGreat.X
open Go Go.RowKit
variable [CW]
def PM.hands:PM→Bool | .mv | .io=>true | .ro | .cap=>false
def hands:List (PM×Sh)→List FP→FP
 | (m,_) :: ps,F :: Fs=>fun k=>(m.hands=true∧F k)∨hands ps Fs k
 | _,_=>fun _=>False
def reads:List (PM×Sh)→List FP→FP
 | (m,_) :: ps,F :: Fs=>fun k=>(m.hands=false∧F k)∨reads ps Fs k
 | _,_=>fun _=>False
def Er:List (PM×Sh)→List FP→FP
 | (m,_) :: ps,F :: Fs=>fun k=>(m=.mv∧F k)∨Er ps Fs k
 | _,_=>fun _=>False
def Es:List (PM×Sh)→List FP→Prop
 | (m,_) :: ps,F :: Fs=>(∀ k,F k→¬ hands ps Fs k∧(m.hands=true→¬ reads ps Fs k))∧Es ps Fs
 | _,_=>True
def Arg (P:Program) (w:World) (s:Sh) (x:s.T) (u:Value) (F:FP):PM→Prop
 | .ro=>∃ cs,u=Ay s.agg cs∧RC P s w F x cs
 | .mv | .io=>∃ cs,u=Ay s.agg cs∧OC s w F x cs
 | .cap=>∃ k c t,u=.pointer (some ⟨k,0,none⟩)∧F k∧w.heap[k]? = some (.cells c t (0,0))∧RC P s w F x c.toList
def Dy (P:Program) (w:World):(ps:List (PM×Sh))→AT ps→List Value→List FP→Prop
 | [],_,us,Fs=>us=[]∧Fs=[]
 | (m,s) :: ps,x,us,Fs=>∃ u us' F Fs',us=u :: us'∧Fs=F :: Fs'∧(∀ k,F k→k<w.heap.size)∧Arg P w s x.1 u F m∧Dy P w ps x.2 us' Fs'
def Wd (w':World):(ps:List (PM×Sh))→(rs:List Sh)→List Value→List FP→RT (BG ps++rs)→(RT rs→Prop)→Prop
 | [],_,_,_,y,K=>K y
 | (.io,s) :: ps,rs,u :: us,F :: Fs,y,K=>(∃ cs,u=Ay s.agg cs∧OC s w' F (RT.hd (l:=BG ps++rs) y) cs)∧Wd w' ps rs us Fs (RT.tl (l:=BG ps++rs) y) K
 | (.ro,_) :: ps,rs,_ :: us,_ :: Fs,y,K | (.mv,_) :: ps,rs,_ :: us,_ :: Fs,y,K | (.cap,_) :: ps,rs,_ :: us,_ :: Fs,y,K=>Wd w' ps rs us Fs y K
 | _ :: _,_,_,_,_,_=>False
def NN (w':World):(rs:List Sh)→RT rs→List Value→List FP→Prop
 | [],_,us,Fs=>us=[]∧Fs=[]
 | s :: rs,y,us,Fs=>∃ u us' F Fs' cs,us=u :: us'∧Fs=F :: Fs'∧u=Ay s.agg cs∧OC s w' F (RT.hd y) cs∧(∀ k,F k→∀ G∈Fs',¬ G k)∧NN w' rs (RT.tl y) us' Fs'
def FQ:List Value→Value
 | [u]=>u
 | us=>.tuple us.toArray
def NO (w:World) (m:Mdl) (us:List Value) (Fs:List FP) (y:RT (BG m.ps++m.rs)) (u:Value) (w':World):Prop :=
 ∃ vs Gs,u=FQ vs∧AE (hands m.ps Fs) w w'∧Wd w' m.ps m.rs us Fs y fun z=>NN w' m.rs z vs Gs∧∀ G∈Gs,∀ k,G k→(w.heap.size≤k∨Er m.ps Fs k)∧k<w'.heap.size
def Br (P:Program) (f:Nat) (m:Mdl):Prop :=
 ∀ w x us Fs,Hv w→(∀ k,hands m.ps Fs k→gN≤k)→Dy P w m.ps x us Fs→Es m.ps Fs→∀ y,m.F x=some y→Calls P f us.toArray w fun e w'=>∃ u,e=.returned u∧NO w m us Fs y u w'
def BU (P:Program) (f:Nat) (m:DY):Prop :=
 ∀ w k u t x us Fs Z,Hv w→gN≤k→w.heap[k]? = some (.cells (u :: cellsF m.r x.1.2).toArray t (0,0))→RC P (.list m.e m.s) w Z x.1.1 [u]→(∀ j,Z j→j<w.heap.size∧j≠k)→Dy P w m.ps x.2 us Fs→(∀ F∈Fs,¬ F k) →
  ∀ y,m.F x=some y→Calls P f (.pointer (some ⟨k,0,none⟩) :: us).toArray w fun e w'=>∃ vs Gs t',e=.returned (FQ vs)∧AE (fun j=>j=k) w w'∧w'.heap[k]? = some (.cells (u :: cellsF m.r (RT.hd y)).toArray t' (0,0))∧NN w' m.rs (RT.tl y) vs Gs∧∀ G∈Gs,∀ j,G j→w.heap.size≤j∧j<w'.heap.size
def GN (P:Program) (f:Nat) (m:PE):Prop :=
 ∀ w u x us Fs Z,Hv w→RC P (.list m.e m.s) w Z x.1 [u]→(∀ j,Z j→j<w.heap.size)→Dy P w m.ps x.2 us Fs →
  ∀ y,m.F x=some y→Calls P f (u :: us).toArray w fun e w'=>∃ k t,e=.returned (.pointer (some ⟨k,0,none⟩))∧w.heap.size≤k∧AE (fun _=>False) w w'∧w'.heap[k]? = some (.cells (u :: cellsF m.r y).toArray t (0,0))
def Nd (P:Program) (f:Nat) (m:UD):Prop :=
 ∀ w k cs t x us Fs F0,Hv w→gN≤k→(∀ j,F0 j→gN≤j)→w.heap[k]? = some (.cells cs t (0,0))→OC m.c w F0 x.1 cs.toList→(∀ j,F0 j→j<w.heap.size∧j≠k)→Dy P w m.ps x.2 us Fs→(∀ F∈Fs,∀ j,F j→j≠k∧¬ F0 j) →
  ∀ y,m.F x=some y→Calls P f (.pointer (some ⟨k,0,none⟩) :: us).toArray w fun e w'=>∃ vs Gs cs' t' G0,e=.returned (FQ vs)∧AE (fun j=>j=k∨F0 j) w w'∧w'.heap[k]? = some (.cells cs' t' (0,0))∧OC m.c w' G0 (RT.hd y) cs'.toList ∧
   (∀ j,G0 j→(w.heap.size≤j∨F0 j)∧j<w'.heap.size∧j≠k∧∀ G∈Gs,¬ G j)∧NN w' m.rs (RT.tl y) vs Gs∧∀ G∈Gs,∀ j,G j→(w.heap.size≤j∨F0 j)∧j<w'.heap.size∧j≠k
def Nf (P:Program) (f:Nat) (m:H7):Prop :=
 ∀ w x us Fs,Hv w→Dy P w m.ps x us Fs→∀ y,m.F x=some y→Calls P f us.toArray w fun e w'=>∃ u vs Gs,u.oneCell'=true∧e=.returned (FQ (u :: vs))∧AE (fun _=>False) w w'∧NN w' m.rs y.2 vs Gs∧(∀ G∈Gs,∀ j,G j→w.heap.size≤j∧j<w'.heap.size) ∧
  ∀ z,y.1=some z→∃ k cs t G0,u=.pointer (some ⟨k,0,none⟩)∧w.heap.size≤k∧w'.heap[k]? = some (.cells cs t (0,0))∧OC m.c w' G0 z cs.toList∧(∀ j,G0 j→w.heap.size≤j∧j<w'.heap.size∧j≠k∧∀ G∈Gs,¬ G j)∧∀ G∈Gs,¬ G k
def Ng (P:Program) (f:Nat) (m:H7):Prop :=
 ∀ w x us Fs,Hv w→Dy P w m.ps x us Fs→∀ y,m.F x=some y→Calls P f us.toArray w fun e w'=>∃ cs vs Gs,cs.length=m.c.n∧(∀ u∈cs,u.oneCell'=true)∧e=.returned (FQ (Ay true cs :: vs))∧AE (fun _=>False) w w'∧NN w' m.rs y.2 vs Gs∧(∀ G∈Gs,∀ j,G j→w.heap.size≤j∧j<w'.heap.size) ∧
  ∀ z,y.1=some z→∃ G0,OC m.c w' G0 z cs∧∀ j,G0 j→w.heap.size≤j∧j<w'.heap.size∧∀ G∈Gs,¬ G j
structure AG (P:Program) (E:Env):Prop where
 ty:∀ t ty,lkp E.ty t=some ty→AfB P t ty
 eq:∀ t ks,lkp E.eq t=some ks→∃ m n,eqT P m t=some n∧m≤10000∧E0 ks=some (kds P m t)∧CJ P t=some true∧P.eqGuardType P.depth t=false
 mt:∀ t m,lkp E.mt t=some m→Pj P t m
 fs:∀ f m,lkp E.fs f=some m→Br P f m∧Cs P f
 vf:∀ f m,lkp E.vf f=some m→@Br cwD P f m∧Cs P f
 pf:∀ f m,lkp E.pf f=some m→BU P f m∧Cs P f
 nf:∀ f m,lkp E.nf f=some m→GN P f m∧Cs P f
 qf:∀ f m,lkp E.qf f=some m→Nd P f m∧Cs P f
 cf:∀ f m,lkp E.cf f=some m→Nf P f m∧Cs P f
 xf:∀ f m,lkp E.xf f=some m→Ng P f m∧Cs P f
 mixed:P.follows .mixedOrders=true

variable {C:Cx} {fr:Fr} {big:FF} {g:Sg} {a:Act} {w:World}
theorem Hm {C:Cx} {fr:Fr} {g:Sg} {a:Act} {w:World} (h:Sim C fr.f g a w) {ch:List (Nat×Bool)} (hc:Holds a ch) {x:Operand} {v:AV} (hx:opd fr ch x=some v):AVR C g a v (a.eval x):=by
 unfold opd at hx;split at hx
 ·rename_i t;split at hx
  ·rename_i c b ag cs hl;cases hall:(c.all fun p=>ch.any fun q=>Nat.beq p.1 q.1&&(p.2==q.2))
   ·rw[hall] at hx;cases hx
   ·rw[hall] at hx;cases hx;have:=h.slots t _ hl;refine this.1 (this.2.2.1 fun p hp=>?_);have h1:=Aqn.1 hall p hp;obtain⟨q,hq,he⟩:=Arb.1 h1;simp only[Aql,beq_iff_eq] at he;have e1:p.1=q.1:=Aqm he.1;rw[e1,he.2];exact hc q hq
  ·rename_i hng;exact h.slots t v hx
 ·cases hx;exact VR.of1 rfl
 ·cases hx;exact VR.of1 rfl
 ·cases hx;exact VR.of1 rfl
 ·cases hx;exact VR.of1 rfl
 ·cases hx;exact VR.of1 (l:=.und) rfl
 ·cases hx;exact VR.of1 ⟨[],rfl,rfl⟩
 ·cases hx
theorem Cq (h:Sim C fr.f g a w) {ch:List (Nat×Bool)} (hc:Holds a ch) {x:Operand} {ag:Bool} {cs:List Lf} (hx:opl fr ch x=some (ag,cs)):VR C g ag cs (a.eval x):=by
 unfold opl at hx;split at hx
 ·rename_i ho;cases hx;exact Hm h hc ho
 ·cases hx
theorem As (h:Sim C fr.f g a w) {ch:List (Nat×Bool)} (hc:Holds a ch) {x:Operand} {l:Lf} (hx:op1 fr ch x=some l):LfR C g l (a.eval x):=by
 unfold op1 at hx;split at hx
 ·rename_i ho;cases hx;exact (Hm h hc ho).to1
 ·cases hx

def more {α:Type} (n:Nat) (l:List α) (f:Nat→Option α):Nat→Option α:=fun j=>if n≤j∧j<n+l.length then l[j-n]? else f j
def BL (f:Nat→Option Bn):Eff→Nat→Option Bn
 | .box i b=>fun j=>if j=i then some b else f j
 | _=>f
def GO (i n:Nat) (x:Option Ac):Option Ac :=
 if n=i then none else match x with
 | some r=>(match r.m with | .bor p _=>bif Nat.beq p i then none else some r | _=>some r)
 | none=>none
def Off (i n:Nat) (r:Ac):Prop:=n≠i∧∀ p pa,r.m=.bor p pa→p≠i
theorem Bm {i n:Nat} {x:Option Ac} {r:Ac}:GO i n x=some r↔x=some r∧Off i n r:=by
 unfold GO Off;by_cases hn:n=i
 ·rw[if_pos hn];exact⟨fun h=>(by cases h),fun h=>absurd hn h.2.1⟩
 ·rw[if_neg hn];cases x with
  | none=>exact⟨fun h=>(by cases h),fun h=>(by cases h.1)⟩
  | some q =>
   simp only;cases hm:q.m with
   | bor p a =>
    simp only;by_cases hp:p=i
    ·subst hp;rw[AsA,cond_true];exact⟨fun h=>(by cases h),fun⟨h,h'⟩=>(by cases h;exact absurd rfl (h'.2 _ _ hm))⟩
    ·rw[C8 hp,cond_false];exact⟨fun h=>(by cases h;exact⟨rfl,hn,fun p' a' e=>by rw[hm] at e;cases e;exact hp⟩),fun h=>h.1⟩
   | own | io | ro=>exact⟨fun h=>(by cases h;exact⟨rfl,hn,fun p' a' e=>by rw[hm] at e;cases e⟩),fun h=>h.1⟩
theorem AfC (i:Nat) (rw:List (Option Ac)):at? (Ae i (AL rw i none))=fun n=>GO i n (at? rw n):=by
 funext n;refine Option.ext fun r=>?_;rw[Aq,AK,Bm];by_cases h:i=n
 ·subst h;by_cases h2:i<rw.length
  ·rw[if_pos ⟨rfl,h2⟩];exact⟨fun h=>(by cases h.1),fun h=>absurd rfl h.2.1⟩
  ·rw[if_neg (fun h=>h2 h.2)];exact⟨fun h=>absurd (A4 h.1) h2,fun h=>absurd rfl h.2.1⟩
 ·rw[if_neg (fun h'=>h h'.1)];exact⟨fun⟨h1,h2⟩=>⟨h1,fun e=>h e.symm,h2⟩,fun⟨h1,_,h2⟩=>⟨h1,h2⟩⟩
def GP (is:List Nat) (n:Nat) (x:Option Ac):Option Ac:=is.foldl (fun x i=>GO i n x) x
theorem Bf {n:Nat}:∀ {is:List Nat} {x:Option Ac} {r:Ac},GP is n x=some r↔x=some r∧∀ i∈is,Off i n r
 | [],x,r=>⟨fun h=>⟨h,by simp⟩,fun h=>h.1⟩
 | i :: is,x,r=>by
  show GP is n (GO i n x)=some r↔_;rw[Bf,Bm];simp only[AqA,forall_eq_or_imp];exact⟨fun⟨⟨a,b⟩,c⟩=>⟨a,b,c⟩,fun⟨a,b,c⟩=>⟨⟨a,b⟩,c⟩⟩
theorem Pk:∀ (is:List Nat) (rw:List (Option Ac)),at? (FW is rw)=fun n=>GP is n (at? rw n)
 | [],rw=>rfl
 | i :: is,rw=>by
  show at? (FW is (Ae i (AL rw i none)))=_;rw[Pk is,AfC];rfl
def Nh (i e:Nat) (s:Sh) (xs:List s.T) (n:Nat) (x:Option Ac):Option Ac:=if n=i then x.map fun r=>⟨e,s,xs,r.m⟩ else GO i n x
theorem AjZ (i e:Nat) (s:Sh) (xs:List s.T) (rw:List (Option Ac)) (hm:∀ r,at? rw i=some r→r.m.mine=true):at? (ZY i e s xs rw)=fun n=>Nh i e s xs n (at? rw n):=by
 funext n;refine Option.ext fun r=>?_;unfold ZY Nh;rw[Aq,AK];by_cases h:n=i
 ·subst h;rw[if_pos rfl];by_cases h2:n<rw.length
  ·rw[if_pos ⟨rfl,h2⟩];refine⟨fun h=>h.1,fun h=>⟨h,fun p a e=>?_⟩⟩;obtain⟨r0,h0,rfl⟩:=AqF.1 h;have:=hm r0 h0;simp only at e;rw[e] at this;cases this
  ·rw[if_neg (fun h=>h2 h.2)];constructor
   ·exact fun h=>absurd (A4 h.1) h2
   ·intro h;obtain⟨r0,h0,_⟩:=AqF.1 h;exact absurd (A4 h0) h2
 ·rw[if_neg (fun h'=>h h'.1.symm),if_neg h,Bm];exact⟨fun⟨h1,h2⟩=>⟨h1,h,h2⟩,fun⟨h1,_,h2⟩=>⟨h1,h2⟩⟩
def B2 (f:Nat→Option Ac):Eff→Nat→Option Ac
 | .tab rw=>at? rw
 | .gone is=>fun n=>GP is n (f n)
 | .set i e s xs=>fun n=>Nh i e s xs n (f n)
 | _=>f
def grow (fr:Fr) (big:FF) (nr:List Ac) (nb:List Bn) (ef:Eff):FF :=
 {big with bx:=more fr.bx.length nb (BL big.bx ef),rw:=more fr.rw.length nr (B2 big.rw ef) }
structure Sub (fr:Fr) (big:FF):Prop where
 nt:fr.nt=big.nt
 up:Up fr.sl
 sl:∀ t v,lkp fr.sl t=some v→lkp big.sl t=some v
 bx:∀ i b,at? fr.bx i=some b→big.bx i=some b
 rw:∀ i r,at? fr.rw i=some r→big.rw i=some r
 par:∀ i r p pa,at? fr.rw i=some r→r.m=.bor p pa→∀ r',big.rw p=some r'→at? fr.rw p=some r'
theorem Sub.refl (h:Up fr.sl):Sub fr fr.f:=⟨rfl,h,fun _ _ h=>h,fun _ _ h=>h,fun _ _ h=>h,fun _ _ _ _ _ _ _ h=>h⟩
structure Kw (fr:Fr) (nr:List Ac) (nb:List Bn) (g g':Sg):Prop where
 le:g.Le g'
 β:∀ j,¬ (fr.bx.length≤j∧j<fr.bx.length+nb.length)→g'.β j=g.β j
 ρ:∀ j,¬ (fr.rw.length≤j∧j<fr.rw.length+nr.length)→g'.ρ j=g.ρ j
structure NP (fr:Fr) (nr:List Ac) (nb:List Bn) (g:Sg):Prop where
 β:∀ j,fr.bx.length≤j→j<fr.bx.length+nb.length→g.β j=none
 ρ:∀ j,fr.rw.length≤j→j<fr.rw.length+nr.length→g.ρ j=none
def Out (C:Cx) (g:Sg) (a:Act) (fr:Fr) (nr:List Ac) (nb:List Bn) (big':FF) (v:Option AV) (u:Value) (w':World):Prop :=
 ∃ g',Kw fr nr nb g g'∧Sim C big' g' a w'∧∀ av,v=some av→AVR C g' a av u
theorem Sim.sub {big:FF} (h:Sim C big g a w) (hs:Sub fr big):Sim C fr.f g a w where
 nodef:=h.nodef
 tied:=h.tied
 tie:=h.tie
 size:=by rw[h.size];exact hs.nt.symm
 up:=hs.up
 kept:=h.kept
 slots:=fun t v hv=>h.slots t v (hs.sl t v hv)
 boxes:=fun i b hi=>h.boxes i b (hs.bx i b hi)
 bdisj:=fun i j b b' k h1 h2=>h.bdisj i j b b' k (hs.bx i b h1) (hs.bx j b' h2)
 rows:=fun i r hi=>by
  obtain⟨q,A,n,c,hq,hv,hz,hl,hZ⟩:=h.rows i r (hs.rw i r hi);refine⟨q,A,n,c,hq,hv,hz,hl,?_⟩;unfold B4 at hZ ⊢;split at hZ
  ·exact hZ
  ·exact hZ
  ·exact hZ
  ·rename_i p pa hm;obtain⟨h1,r',q',h2,h3⟩:=hZ;exact⟨h1,r',q',hs.par i r p pa hi hm r' h2,h3⟩
 rdisj:=fun i j r r' q q' k h1 h2=>h.rdisj i j r r' q q' k (hs.rw i r h1) (hs.rw j r' h2)
 rbox:=fun i r q j b k h1 h2 h3 h4=>h.rbox i r q j b k (hs.rw i r h1) h2 h3 (hs.bx j b h4)
theorem Ah {α:Type} (n:Nat) (f:Nat→Option α):more n [] f=f:=by
 funext j;unfold more;rw[if_neg (by simp)]
theorem BE {α:Type} (n:Nat) (x:α) (f:Nat→Option α):more n [x] f=fun j=>if j=n then some x else f j:=by
 funext j;unfold more;by_cases h:j=n
 ·subst h;simp
 ·rw[if_neg h,if_neg (by simp;omega)]
theorem AfD (fr:Fr) (big:FF):grow fr big [] [] .pure=big:=by
 simp only[grow,Ah,BL,B2]
theorem Out.same {big:FF} (h:Sim C big g a w) {v:Option AV} {u:Value} (hv:∀ av,v=some av→AVR C g a av u):Out C g a fr [] [] (grow fr big [] [] .pure) v u w :=
 ⟨g,⟨Sg.Le.refl g,fun _ _=>rfl,fun _ _=>rfl⟩,by rw[AfD];exact h,hv⟩
end Go.Proofs.YteheolldcpjkcaaGreat.X
