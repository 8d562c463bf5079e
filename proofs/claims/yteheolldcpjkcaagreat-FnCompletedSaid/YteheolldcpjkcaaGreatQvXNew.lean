/- Operations that make something new, or read what lies in rows. -/
import Derived.Test.YteheolldcpjkcaaGreatQvXOp
import Derived.Deep.MidRow
import Derived.Great.BuildSlice
set_option linter.unusedSimpArgs false
set_option linter.unusedVariables false
set_option linter.unusedSectionVars false
namespace Go.Proofs.YteheolldcpjkcaaGreat.X
open Go Go.RowKit
variable [CW]
variable {C:Cx} {fr:Fr} {big:FF} {g:Sg} {a:Act} {w:World} {ch:List (Nat×Bool)} {E:Env}
theorem AE.alloc (w:World) (o:Obj) (D:FP):AE D w (w.alloc o):=⟨CW.mono (Aqr _),rfl,rfl,rfl,by simp,fun k hk _=>Below.heap_alloc w o k hk⟩
theorem AE.grown {w w':World} {row:Option Nat} (h:w.grownBy w' row) (hd:Hw w≤Hw w'):AE (fun k=>some k=row) w w':=⟨hd,h.os,h.tape,h.output,h.size,fun k hk hn=>h.block k hk hn⟩
theorem AE.none {w w':World} (h:w.grownBy w' none) (hd:Hw w≤Hw w') (D:FP):AE D w w':=⟨hd,h.os,h.tape,h.output,h.size,fun k hk _=>h.block k hk (by simp)⟩
theorem AE.trans {D D':FP} {a b c:World} (h:AE D a b) (k:AE D' b c):AE (fun x=>D x∨D' x) a c :=
 ⟨AqE h.drawn k.drawn,k.os.trans h.os,k.tape.trans h.tape,k.output.trans h.output,AqE h.size k.size,fun i hi hn=>(k.block i (AqN hi h.size) fun hd=>hn (.inr hd)).trans (h.block i hi fun hd=>hn (.inl hd))⟩
theorem Sim.quiet (hC:A9 C) {fr:FF} (h:Sim C fr g a w) {w':World} (hm:AE (fun _=>False) w w'):Sim C fr g a w' :=
 h.moves hC hm (fun _ h=>h.elim) (fun _ _ _ _ _ _ _ _ h=>h) (fun _ _ _ _ _ _ h=>h)
theorem Sim.row_lt {fr:FF} (h:Sim C fr g a w) {i:Nat} {r:Ac} (hr:fr.rw i=some r) {q:B3} (hq:g.ρ i=some q):∀ k,q.F k→k<w.heap.size:=(h.rows i r hr).old_lt hq
theorem Sim.box_lt {fr:FF} (h:Sim C fr g a w) {i:Nat} {b:Bn} (hb:fr.bx i=some b) {k:Nat} (hk:g.β i=some k):k<w.heap.size:=(h.boxes i b hb).lt hk
theorem Sim.mkBox (hC:A9 C) {fr:FF} (h:Sim C fr g a w) {i:Nat} (hi:g.β i=none) (us:List Value) (cs:List Lf) (hr:AC C g cs us) (t:TypeId) :
  Sim C { fr with bx:=fun j=>if j=i then some ⟨true,cs⟩ else fr.bx j } (g.box i w.heap.size) a (w.alloc (.cells us.toArray t)):=by
 have h':=h.quiet hC (AE.alloc w (.cells us.toArray t) _);refine h'.newBox hi (fun _=>rfl) (Ch.ofCells ⟨w.heap.size,us.toArray,t,Sg.box_at _ _ _,heap_alloc_new w _,by simpa using hr.mono (Sg.le_box hi _),fun _=>.inl h.kept.size,fun e=>by cases e⟩) ⟨fun j b hb hk=>?_,fun _ j r q hr hm hq hF=>?_⟩
 ·exact absurd (h.box_lt hb hk) (Ar6 _)
 ·exact absurd (h.row_lt hr hq _ hF) (Ar6 _)
theorem Hn {i:Nat} {g:Sg} {k:Nat} {b:Bn} (fr:Fr) (hi:g.β i=none) (e:i=fr.bx.length):Kw fr [] [b] g (g.box i k) :=
 ⟨Sg.le_box hi k,fun j hj=>Sg.box_ne _ _ (fun e'=>hj (by simp[e',e])),fun _ _=>rfl⟩
theorem E1 {i:Nat} {g:Sg} {q:B3} {r:Ac} (fr:Fr) (hi:g.ρ i=none) (e:i=fr.rw.length):Kw fr [r] [] g (g.row i q) :=
 ⟨Sg.le_row hi q,fun _ _=>rfl,fun j hj=>Sg.row_ne _ _ (fun e'=>hj (by simp[e',e]))⟩
theorem AfJ (hC:A9 C) (hs:Sim C big g a w) (hsub:Sub fr big) (hc:Holds a ch) (o:Oper) (t:TypeId) (x:Operand) (ho:o.op=.box t x):AU C g a fr big ((execOp a.eval o).run C.P w) (Abz fr ch x):=by
 unfold Abz;split
 ·rename_i ag cs hx;obtain⟨us,e,hr,h1⟩:=Cq (hs.sub hsub) hc hx;intro _ _ hfree;have hi:=hfree.β fr.bx.length (Aqr _) (by simp)
  have hl:=hr.len;have hcl:(Ay ag us).cells=us.toArray:=by rw[← Aqw (xs:=(Ay ag us).cells),B7 (fun hb=>by rw[hl,h1 hb]) hr.one]
  have hrun:(execOp a.eval o).run C.P w=.ok (.value (.pointer (some ⟨w.heap.size,0,none⟩))) (w.alloc (.cells us.toArray t)):=by
   simp only[execOp,ho,e,Instr.box,newVar,newRow,newObj,hcl];rfl
  refine⟨_,_,_,hrun,.inl rfl,_,Hn fr hi rfl,by simpa only[grow,Ah,BE,BL,B2] using hs.mkBox hC hi us cs hr t,fun av hav=>?_⟩
  cases hav;exact VR.of1 ⟨w.heap.size,Sg.box_at _ _ _,rfl⟩
 ·trivial
theorem Nl {s:Sh}:∀ {off n:Nat} {u:Sh} {f:s.T→u.T} {gg:s.T→u.T→s.T},Hy s off n=some ⟨u,f,gg⟩→u.n=n∧off+n≤s.n ∧
  (∀ {P:Program} {w:World} {F:FP} {x cs},RC P s w F x cs→RC P u w F (f x) ((cs.drop off).take n)):=by
 induction s with
 | cons a b iha ihb =>
  intro off n u f gg h;simp only[Hy] at h;cases h1:(Nat.beq off 0&&Nat.beq n (a.n+b.n))
  ·rw[h1,cond_false] at h;cases h2:(Nat.beq off 0&&Nat.beq n a.n)
   ·rw[h2,cond_false] at h;cases h3:Nat.ble a.n off
    ·rw[h3,cond_false] at h;have hlt:off<a.n:=by
      rcases Arf off a.n with hh | hh
      ·exact hh
      ·rw[Nat.ble_eq_true_of_le hh] at h3;cases h3
     split at h
     ·rename_i t f' g' hb;cases h;obtain⟨hn,hle,hr⟩:=iha hb;refine⟨hn,by simp only[Sh.n];omega,fun {P w F x cs} h=>?_⟩
      obtain⟨c1,c2,rfl,r1,r2⟩:=h;have l1:c1.length=a.n:=RC.len a r1;have:((c1++c2).drop off).take n=(c1.drop off).take n:=by
       rw[AsK (by omega),Arc (by rw[AsE];omega)]
      rw[this];exact hr r1
     ·cases h
    ·rw[h3,cond_true] at h;have hge:a.n≤off:=Nat.le_of_ble_eq_true h3;split at h
     ·rename_i t f' g' hb;cases h;obtain⟨hn,hle,hr⟩:=ihb hb;refine⟨hn,by simp only[Sh.n];omega,fun {P w F x cs} h=>?_⟩
      obtain⟨c1,c2,rfl,r1,r2⟩:=h;have l1:c1.length=a.n:=RC.len a r1;have:(c1++c2).drop off=c2.drop (off-a.n):=by
       rw[Arv,AqZ (by omega),AqM,l1]
      rw[this];exact hr r2
     ·cases h
   ·rw[h2] at h;cases h;simp only[Aql] at h2;have e0:off=0:=Aqm h2.1;have e:n=a.n:=Aqm h2.2;subst e0;refine⟨e.symm,by simp[Sh.n,e],fun {P w F x cs} hr=>?_⟩
    obtain⟨c1,c2,rfl,r1,r2⟩:=hr;rw[Aqq,e,← RC.len a r1,AsB];exact r1
  ·rw[h1] at h;cases h;simp only[Aql] at h1;have e0:off=0:=Aqm h1.1;have e:n=a.n+b.n:=Aqm h1.2;subst e0;refine⟨e.symm,by simp[Sh.n,e],fun {P w F x cs} hr=>?_⟩
   rw[Aqq,AqX (by rw[RC.len _ hr,e];exact Aqr _)]
   exact hr
 | _ =>
  intro off n u f gg h;simp only[Hy] at h;cases h1:(Nat.beq off 0&&Nat.beq n 1)
  ·rw[h1] at h;cases h
  ·rw[h1] at h;cases h;simp only[Aql] at h1;have e0:off=0:=Aqm h1.1;have e:n=1:=Aqm h1.2;subst e0;refine⟨by simp[Sh.n,e],by simp[Sh.n,e],fun {P w F x cs} hr=>?_⟩
   have:=RC.len _ hr;rw[Aqq,AqX (by rw[this,e];simp[Sh.n])]
   exact hr
theorem CY {α:Type} (n:Nat) (l r:List α) (f:Nat→Option α):more (n+l.length) r (more n l f)=more n (l++r) f:=by
 funext j;unfold more;simp only[Aqs];by_cases h1:n≤j∧j<n+l.length
 ·have h2:¬ (n+l.length≤j∧j<n+l.length+r.length):=by omega
  have h3:n≤j∧j<n+(l.length+r.length):=by omega
  rw[if_neg h2,if_pos h1,if_pos h3,AqS (by omega)]
 ·by_cases h2:n+l.length≤j∧j<n+l.length+r.length
  ·have h3:n≤j∧j<n+(l.length+r.length):=by omega
   rw[if_pos h2,if_pos h3,AqB (by omega)]
   congr 1;omega
  ·have h3:¬ (n≤j∧j<n+(l.length+r.length)):=by omega
   rw[if_neg h2,if_neg h1,if_neg h3]
theorem AfK {α:Type} {n:Nat} {l:List α} {f:Nat→Option α} {j:Nat} (h:¬ (n≤j∧j<n+l.length)):more n l f j=f j:=if_neg h
structure Aph (C:Cx) (fr:FF) (g:Sg) (w:World) (m:Md) (F:FP) (cs:List Value):Prop where
 not:m.mine=false
 lt:∀ k,F k→k<w.heap.size
 ro:m=.ro→∀ k,F k→C.R k
 bor:∀ p pa,m=.bor p pa→∃ r' q',fr.rw p=some r'∧r'.m.mine=true∧g.ρ p=some q'∧(∀ k,F k→q'.F k) ∧
   ∀ j off,pa=some (j,off)→∀ u,cs=[u]→∃ A n c,q'.v=.slice (some A) n c∧0≤j∧j<(n:Int)∧off<r'.s.n∧w.cell? (A.add (j.toNat*r'.s.n+off))=some u
theorem Sim.expandR {m:Md}:(s:Sh)→∀ {x:s.T} {F:FP} {cs:List Value} {n:Nat} {fr:FF} {g:Sg},Sim C fr g a w→s.data=true→RC C.P s w F x cs→Aph C fr g w m F cs →
  (∀ p j,m=.bor p (some j)→s.isL=true) →
  (∀ j,n≤j→j<n+(Aa m s x n).2.length→g.ρ j=none) →
  ∃ g',g.Le g'∧(∀ j,¬ (n≤j∧j<n+(Aa m s x n).2.length)→g'.ρ j=g.ρ j)∧g'.β=g.β∧Sim C { fr with rw:=more n (Aa m s x n).2 fr.rw } g' a w∧AC C g' (Aa m s x n).1 cs
 | .int k,x,F,cs,n,fr,g,h,_,hr,_,_,_=>⟨g,Sg.Le.refl g,fun _ _=>rfl,rfl,by simpa only[Aa,Ah] using h,by cases hr;exact⟨_,_,rfl,rfl,rfl⟩⟩
 | .bool,x,F,cs,n,fr,g,h,_,hr,_,_,_=>⟨g,Sg.Le.refl g,fun _ _=>rfl,rfl,by simpa only[Aa,Ah] using h,by cases hr;exact⟨_,_,rfl,rfl,rfl⟩⟩
 | .str,x,F,cs,n,fr,g,h,_,hr,_,_,_=>⟨g,Sg.Le.refl g,fun _ _=>rfl,rfl,by simpa only[Aa,Ah] using h,by cases hr;exact⟨_,_,rfl,rfl,rfl⟩⟩
 | .list e t,x,F,cs,n,fr,g,h,_,hr,hL,hp,hfree=>by
  have hi:g.ρ n=none:=hfree n (Aqr _) (by simp[Aa])
  obtain⟨A,l,c,rfl,hlc,hx⟩:=id hr
  let q:B3:=⟨.slice A l c,F,t.n⟩
  refine⟨g.row n q,Sg.le_row hi q,fun j hj=>Sg.row_ne _ _ (fun e'=>hj (by simp[Aa,e'])),rfl,?_,_,_,rfl,⟨q,A,l,c,Sg.row_at _ _ _,rfl,rfl⟩,rfl⟩
  simp only[Aa,BE];refine h.newRow hi (fun _=>rfl) ⟨q,A,l,c,Sg.row_at _ _ _,rfl,rfl,hL.lt,?_⟩ (fun hm=>by rw[hL.not] at hm;cases hm)
  unfold B4;have hn:=hL.not;split
  ·rename_i e;change m=_ at e;rw[e] at hn;cases hn
  ·rename_i e;change m=_ at e;rw[e] at hn;cases hn
  ·rename_i e;exact⟨hr,hL.ro e⟩
  ·rename_i p pa e;change m=_ at e;obtain⟨r',q',h1,h2,h3,h4,h5⟩:=hL.bor p pa e;have hne:p≠n:=fun e'=>by subst e';rw[hi] at h3;cases h3
   exact⟨hr,r',q',by simp[hne,h1],h2,by rw[Sg.row_ne _ _ hne];exact h3,h4,fun j off e'=>h5 j off e' _ rfl⟩
 | .cons s t,x,F,cs,n,fr,g,h,hd,hr,hL,hp,hfree=>by
  simp only[Sh.data,Aql] at hd;obtain⟨c1,c2,rfl,r1,r2⟩:=hr;have hpn:∀ p pa,m=.bor p pa→pa=none:=fun p pa e=>by
   cases pa with
   | none=>rfl
   | some j=>exact absurd (hp p j e) (by simp[Sh.isL])
  have hfree':∀ j,n≤j→j<n+((Aa m s x.1 n).2.length+(Aa m t x.2 (n+(Aa m s x.1 n).2.length)).2.length)→g.ρ j=none:=fun j h1 h2=>hfree j h1 (by simpa[Aa] using h2)
  obtain⟨g1,le1,AS,b1,s1,l1⟩:=Sim.expandR s (n:=n) h hd.1 r1 ⟨hL.not,hL.lt,hL.ro,fun p pa e=>by
   obtain⟨r',q',h1,h2,h3,h4,_⟩:=hL.bor p pa e;exact⟨r',q',h1,h2,h3,h4,fun j off e'=>by rw[hpn p pa e] at e';cases e'⟩⟩ (fun p j e=>by cases hpn p _ e) (fun j h1 h2=>hfree' j h1 (by omega))
  obtain⟨g2,le2,out2,b2,s2,l2⟩:=Sim.expandR t (n:=n+(Aa m s x.1 n).2.length) s1 hd.2 r2 ⟨hL.not,hL.lt,hL.ro,fun p pa e=>by
   obtain⟨r',q',h1,h2,h3,h4,_⟩:=hL.bor p pa e;refine⟨r',q',?_,h2,le1.ρ _ _ h3,h4,fun j off e'=>by rw[hpn p pa e] at e';cases e'⟩
   show more n _ fr.rw p=some r';rw[AfK]
   ·exact h1
   ·intro hin;rw[hfree' p hin.1 (by omega)] at h3
    cases h3⟩ (fun p j e=>by cases hpn p _ e) (fun j h1 h2=>by rw[AS j (by omega)];exact hfree' j (by omega) (by omega))
  refine⟨g2,le1.trans le2,fun j hj=>?_,b2.trans b1,?_,?_⟩
  ·simp only[Aa,Aqs] at hj;rw[out2 j (by omega),AS j (by omega)]
  ·have:({ fr with rw:=more n (Aa m (.cons s t) x n).2 fr.rw }:FF)={ ({ fr with rw:=more n (Aa m s x.1 n).2 fr.rw }:FF) with rw:=more (n+(Aa m s x.1 n).2.length) (Aa m t x.2 (n+(Aa m s x.1 n).2.length)).2 (more n (Aa m s x.1 n).2 fr.rw) }:=by
    rw[CY];rfl
   rw[this];exact s2
  ·exact (l1.mono le2).append l2
 | .fn1 _ _,_,_,_,_,_,_,_,hd,_,_,_,_=>by cases hd
 | .fn2 _ _ _,_,_,_,_,_,_,_,hd,_,_,_,_=>by cases hd
 | .ol _ _,_,_,_,_,_,_,_,hd,_,_,_,_=>by cases hd
theorem getD_some {α:Type} (xs:List α) (j:Nat) (d:α) (h:j<xs.length):xs[j]? = some (xs.getD j d):=by
 rw[AqJ,Aqo h];rfl
theorem AfL {P:Program} {w:World} {F:FP}:{u:Sh}→{x:u.T}→∀ {cs},RC P u w F x cs→(J7 u x).1=true→RC P (J7 u x).2.1 w F (J7 u x).2.2 cs
 | .ol e s,some xs,_,h,_=>h
 | .ol e s,none,_,_,h=>by cases h
 | .int _,_,_,h,_ | .bool,_,_,h,_ | .str,_,_,h,_ | .list _ _,_,_,h,_ | .cons _ _,_,_,h,_ | .fn1 _ _,_,_,h,_ | .fn2 _ _ _,_,_,h,_=>h
theorem Aj1:(u:Sh)→(x:u.T)→(J7 u x).2.1.n=u.n
 | .ol _ _,_ | .int _,_ | .bool,_ | .str,_ | .list _ _,_ | .cons _ _,_ | .fn1 _ _,_ | .fn2 _ _ _,_=>rfl
theorem Abd (hE:AG C.P E) (hs:Sim C big g a w) (hsub:Sub fr big) (o:Oper) (t:TypeId) (x:Operand) (ho:o.op=.load t x) {p:Lf} (hp:LfR C g p (a.eval x)):AU C g a fr big ((execOp a.eval o).run C.P w) (loadAt E fr t p):=by
 unfold loadAt;split
 ·trivial
 ·rename_i n ag hty;unfold tyN at hty;split at hty
  ·rename_i ty hl;cases hty;have hT:=(hE.ty _ _ hl).ok;split
   ·rename_i i off;split
    ·rename_i b hb;cases hle:(Bz b.cs&&Nat.ble (off+ty.sh.n) b.cs.length)
     ·trivial
     ·rw[cond_true];simp only[Aql] at hle;have hle':=CB hle.2;obtain⟨k,hk,e⟩:=hp;obtain⟨k',us,t',hk',hh,hr,_⟩:=(hs.boxes i b (hsub.bx i b hb)).toCells hle.1;rw[hk] at hk';cases hk';have hl:=hr.len;refine AU.vals hs ⟨Ay ty.sh.agg ((us.toList.drop off).take ty.sh.n),?_,_,rfl,(hr.drop off).take _,fun hb=>?_⟩
      ·have:=Dh (P:=C.P) hT w ⟨k,off,none⟩ ((us.toList.drop off).take ty.sh.n) (by simp at hl;simp;omega) (fun i u hu=>by
        rw[add_at,cell_of_row w k (off+i) us t' (0,0) hh];rw[AqW] at hu;split at hu
        ·rw[Aq5] at hu;simpa using hu
        ·cases hu)
       simp only[execOp,ho,e,Instr.loadAt,Instr.sureAddr,Aqu,AqO,Aqp,this]
      ·have:=Sh.n_one hb;simp;omega
    ·trivial
   ·rename_i i j off;split
    ·rename_i r hr;split
     ·rename_i u f gg hsb;simp only;cases hc:((J7 u (f (r.xs.getD j.toNat r.s.dfl))).2.1.data&&((J7 u (f (r.xs.getD j.toNat r.s.dfl))).2.1.agg==ty.sh.agg))
      ·trivial
      ·rw[cond_true];simp only[Aql,beq_iff_eq] at hc;obtain⟨q,A,m,c,hq,hv,h0,hj,e⟩:=hp;have hrow:=hs.rows i r (hsub.rw i r hr);obtain⟨hun,hle,hsr⟩:=Nl hsb;have hrd:=hrow.read hq;obtain⟨A',m',c',e',hmc,hx⟩:=id hrd;rw[hv] at e';cases e';obtain⟨ad,hAd,hF,hcell⟩:=hx.2 (by omega)
       cases hAd;have hjl:j.toNat<r.xs.length:=by rw[hx.1];omega
       obtain⟨cs,hRC,hlen,hcs⟩:=hcell j.toNat _ (getD_some r.xs j.toNat r.s.dfl hjl);have hRu:=hsr hRC;have hz:q.sz=r.s.n:=by
        obtain⟨q',_,_,_,hq',_,hz,_⟩:=hrow;rw[hq] at hq';cases hq';exact hz
       have hrun:(execOp a.eval o).run C.P w=.ok (.value (Ay ty.sh.agg ((cs.drop off).take ty.sh.n))) w:=by
        have:=Dh (P:=C.P) hT w (A.add (j.toNat*q.sz+off)) ((cs.drop off).take ty.sh.n) (by simp;omega) (fun i u hu=>by
         rw[Addr.add_add,hz,Atl];rw[AqW] at hu;split at hu
         ·rw[Aq5] at hu;exact hcs (off+i) u hu
         ·cases hu)
        simp only[execOp,ho,e,Instr.loadAt,Instr.sureAddr,Aqu,AqO,Aqp,this]
       intro hreq _ hfree;have hRu:=AfL hRu hreq;have hun:=(Aj1 u (f (r.xs.getD j.toNat r.s.dfl))).trans hun;generalize J7 u (f (r.xs.getD j.toNat r.s.dfl))=z at hc hRu hun hreq hfree ⊢;obtain⟨zb,u,zx⟩:=z;simp only at hc hRu hun hreq hfree ⊢;have hlie:Aph C big g w (J6 i j off u r.m) q.F ((cs.drop off).take ty.sh.n):=by
        refine⟨by cases r.m<;>rfl,hs.row_lt (hsub.rw i r hr) hq,fun em=>?_,fun p pa em=>?_⟩
        ·obtain⟨q',_,_,_,hq',_,_,_,hZ⟩:=hrow;rw[hq] at hq';cases hq';cases hm:r.m with
         | own=>rw[hm] at em;cases em
         | io=>rw[hm] at em;cases em
         | bor p' pa'=>rw[hm] at em;cases em
         | ro=>rw[B4,hm] at hZ;exact hZ.2
        ·have path:∀ mm,r.m=mm→mm.mine=true→J6 i j off u r.m=.bor p pa→∃ r' q',big.rw p=some r'∧r'.m.mine=true∧g.ρ p=some q'∧(∀ k,q.F k→q'.F k) ∧
           ∀ j off',pa=some (j,off')→∀ u',((cs.drop off).take ty.sh.n)=[u']→∃ A n c,q'.v=.slice (some A) n c∧0≤j∧j<(n:Int)∧off'<r'.s.n∧w.cell? (A.add (j.toNat*r'.s.n+off'))=some u':=by
          intro mm hm hmi hbm;have ep:p=i∧(pa=some (j,off)∨pa=none):=by
           cases mm with
           | own=>rw[hm] at hbm;simp only[J6,Md.bor.injEq] at hbm;refine⟨hbm.1.symm,?_⟩;rw[← hbm.2];cases u<;>simp
           | io=>rw[hm] at hbm;simp only[J6,Md.bor.injEq] at hbm;refine⟨hbm.1.symm,?_⟩;rw[← hbm.2];cases u<;>simp
           | ro=>cases hmi
           | bor _ _=>cases hmi
          obtain⟨rfl,hpa⟩:=ep;refine⟨r,q,hsub.rw p r hr,by rw[hm];exact hmi,hq,fun _ h=>h,fun j' off' epa u' eu=>?_⟩
          rcases hpa with hpa | hpa
          ·rw[hpa] at epa;cases epa;have hul:((cs.drop off).take ty.sh.n).length=ty.sh.n:=by simp;omega
           rw[eu] at hul;simp at hul;refine⟨A,m,c,hv,h0,hj,by omega,hcs off u' ?_⟩
           have:((cs.drop off).take ty.sh.n)[0]? = some u':=by rw[eu];rfl
           rw[AqW,if_pos (by omega),Aq5] at this
           simpa using this
          ·rw[hpa] at epa;cases epa
         obtain⟨q',_,_,_,hq',_,_,_,hZ⟩:=id hrow;rw[hq] at hq';cases hq';cases hm:r.m with
         | own=>exact path _ hm rfl em
         | io=>exact path _ hm rfl em
         | ro=>rw[hm] at em;cases em
         | bor p' pa' =>
          rw[B4,hm] at hZ;rw[hm] at em;simp only[J6,Md.bor.injEq] at em;obtain⟨rfl,rfl⟩:=em;obtain⟨_,r',q',h1,h2,h3,h4,_⟩:=hZ;exact⟨r',q',h1,h2,h3,h4,fun _ _ e=>by cases e⟩
       obtain⟨g',le,out,hβ,hsim,hlf⟩:=Sim.expandR (m:=J6 i j off u r.m) u hs hc.1 hRu (hun▸hlie) (fun p j' em=>by
        cases hm:r.m<;>rw[hm] at em<;>simp only[J6,Md.bor.injEq] at em
        ·cases u<;>simp_all [Sh.isL]
        ·cases u<;>simp_all [Sh.isL]
        ·cases em
        ·cases em.2) (fun j h1 h2=>hfree.ρ j h1 h2)
       refine⟨_,_,w,hrun,.inl rfl,g',⟨le,fun j _=>by rw[hβ],out⟩,by simpa only[grow,Ah,BL,B2] using hsim,fun av hav=>?_⟩
       cases hav;refine⟨_,rfl,?_,fun hb=>?_⟩
       ·exact hlf
       ·have:=hlf.len;have h1:=Sh.n_one hb;rw[← this];simp;omega
     ·trivial
    ·trivial
   ·trivial
  ·cases hty
 where
 add_at {k off i:Nat}:(⟨k,off,none⟩:Addr).add i=⟨k,off+i,none⟩:=Addr.add_mid k off i
theorem Abe (hE:AG C.P E) (hs:Sim C big g a w) (hsub:Sub fr big) (hc:Holds a ch) (o:Oper) (t:TypeId) (x:Operand) (ho:o.op=.load t x):AU C g a fr big ((execOp a.eval o).run C.P w) (UH E fr ch t x):=by
 unfold UH;split
 ·rename_i p hx;exact Abd hE hs hsub o t x ho (As (hs.sub hsub) hc hx)
 ·trivial
end Go.Proofs.YteheolldcpjkcaaGreat.X
namespace Go.Proofs.YteheolldcpjkcaaGreat.X
open Go Go.RowKit
variable [CW]
variable {C:Cx} {fr:Fr} {big:FF} {g:Sg} {a:Act} {w:World} {ch:List (Nat×Bool)} {E:Env}
def setAt (cs:List Value) (off:Nat) (vs:List Value):List Value:=cs.take off++vs++cs.drop (off+vs.length)
theorem Wi (vs:Array Value) (off:Nat) (cs:Array Value) (h:off+vs.size≤cs.size) :
  vs.zipIdx.foldl (fun cs (x:Value×Nat)=>cs.setIfInBounds (off+x.2) x.1) cs=(setAt cs.toList off vs.toList).toArray:=by
 obtain⟨g1,g2⟩:=Go.Great.foldl_set off vs.toList 0 cs;rw[← Array.foldl_toList,Array.toList_zipIdx]
 apply Array.ext_getElem?
 intro k;rw[g2 k];simp only[setAt,Aro,AsC,ArK];by_cases h1:off≤k∧k<off+vs.size
 ·rw[if_pos ⟨h1.1,h1.2,by omega⟩,Aqv,AqB (by simp;omega),AqS (by simp;omega)]
  congr 1;simp;omega
 ·rw[if_neg (by omega)]
  by_cases h2:k<off
  ·rw[Aqv,AqS (by simp;omega),AqW,if_pos h2]
   simp
  ·rw[Aqv,AqB (by simp;omega),AqB (by simp;omega),Aq5]
   simp only[AqT,ArK];rw[Art];congr 1;omega
theorem Ho {cs:List Value} {off:Nat} {vs:List Value} (h:off+vs.length≤cs.length):(setAt cs off vs).length=cs.length:=by
 simp[setAt];omega
theorem JZ (place:Nat→Option (Nat×Nat)) (cs:List Value) (i:Nat) (v:Value) (rest:List (Nat×Value)) (off n:Nat) (hp:place i=some (off,n)) (vs:List Value) (hv:v.cells.toList=vs) (hn:vs.length=n) (hle:off+n≤cs.length) :
  Instr.fill place cs.toArray ((i,v) :: rest)=Instr.fill place (setAt cs off vs).toArray rest:=by
 have hsz:v.cells.size=n:=by rw[← hn,← hv];simp
 rw[Instr.fill,hp];simp only;rw[if_neg (by simp[hsz];omega),Wi _ _ _ (by simp[hsz];omega),hv]
theorem AC.setAt {cs vs:List Lf} {us xs:List Value} (h:AC C g cs us) (h':AC C g vs xs) (off:Nat):AC C g (E4 cs off vs) (setAt us off xs):=by
 unfold E4 X.setAt;rw[h'.len];exact ((h.take off).append h').append (h.drop _)
theorem Pm (hs:Sim C fr.f g a w) (hc:Holds a ch) (fs:List (Nat×Nat)):∀ {parts:List (Nat×Operand)} {cs cs':List Lf} {us:List Value},AC C g cs us→PF fr ch fs parts cs=some cs' →
  ∃ us',Instr.fill (fs.toArray[·]?) us.toArray (parts.map fun p=>(p.1,a.eval p.2))=some us'.toArray∧AC C g cs' us'
 | [],cs,cs',us,hr,h=>by cases h;exact⟨us,rfl,hr⟩
 | (i,x) :: r,cs,cs',us,hr,h=>by
  unfold PF at h;split at h
  ·rename_i off n ag vs h1 h2;cases hb:(Nat.beq vs.length n&&Nat.ble (off+n) cs.length)
   ·rw[hb] at h;cases h
   ·rw[hb,cond_true] at h;simp only[Aql] at hb;have e1:vs.length=n:=Aqm hb.1;have e2:=CB hb.2;obtain⟨xs,e,hx,hag⟩:=Cq hs hc h2;obtain⟨us',hf,hr'⟩:=Pm hs hc fs (hr.setAt hx off) h;have hl:=hr.len;have hl':=hx.len;refine⟨us',?_,hr'⟩;rw[Arh,JZ _ us i (a.eval x) _ off n (by simpa using h1) xs (by rw[e];exact B7 (fun hb=>by rw[hl',hag hb]) hx.one) (by omega) (by omega)]
    exact hf
  ·cases h
def Own (rw:Nat→Option Ac) (g:Sg):FP:=fun k=>∃ i r q,rw i=some r∧r.m.mine=true∧g.ρ i=some q∧q.F k
structure Tab (rw:Nat→Option Ac) (g:Sg) (w:World):Prop where
 mine:∀ i r,rw i=some r→r.m.mine=true→∃ q A n c,g.ρ i=some q∧q.v=.slice A n c∧Bq r.e r.s w q.F q.v r.xs
 disj:∀ i j r r' q q' k,rw i=some r→rw j=some r'→r.m.mine=true→r'.m.mine=true→g.ρ i=some q→g.ρ j=some q'→q.F k→q'.F k→i=j
theorem Sim.tab {fr:FF} (h:Sim C fr g a w):Tab fr.rw g w :=
 ⟨fun i r hr hm=>by
  obtain⟨q,A,n,c,hq,hv,_,_,hZ⟩:=h.rows i r hr;exact⟨q,A,n,c,hq,hv,(hZ.mine hm).1⟩,h.rdisj⟩
structure AX (m:Option Nat) (rw rw':Nat→Option Ac):Prop where
 row:∀ j r',rw' j=some r'→rw j=some r'∨∃ q0 r,m=some q0∧rw j=some r∧r.m.mine=true∧r'={ r with m:=.bor q0 none }∧r.m=.own
 par:∀ j r p pa,rw' j=some r→r.m=.bor p pa→(rw j=some r∧∀ r0,rw p=some r0→r0.m.mine=true→rw' p=some r0)∨(m=some p)
theorem AX.refl (m:Option Nat) (rw:Nat→Option Ac):AX m rw rw:=⟨fun _ _ h=>.inl h,fun j r p pa h e=>.inl ⟨h,fun _ h _=>h⟩⟩
theorem AX.mine {m:Option Nat} {rw rw':Nat→Option Ac} (h:AX m rw rw') {j:Nat} {r:Ac} (hr:rw' j=some r) (hm:r.m.mine=true):rw j=some r:=by
 rcases h.row j r hr with h | ⟨q0,r0,_,_,_,e,_⟩
 ·exact h
 ·subst e;cases hm
theorem Tab.took {m:Option Nat} {rw rw':Nat→Option Ac} (h:Tab rw g w) (ht:AX m rw rw'):Tab rw' g w :=
 ⟨fun i r hr hm=>h.mine i r (ht.mine hr hm) hm,fun i j r r' q q' k h1 h2 m1 m2=>h.disj i j r r' q q' k (ht.mine h1 m1) (ht.mine h2 m2) m1 m2⟩
theorem Own.took {m:Option Nat} {rw rw':Nat→Option Ac} (ht:AX m rw rw') {k:Nat} (h:Own rw' g k):Own rw g k:=by
 obtain⟨i,r,q,h1,h2,h3,h4⟩:=h;exact⟨i,r,q,ht.mine h1 h2,h2,h3,h4⟩
theorem CZ.front {α:Type} {M:FP→α→List Value→Prop} {e sz:Nat} {w:World} {F:FP} {A:Option Addr} {n c:Nat} {xs:List α} (h:CZ M e sz w F (.slice A n c) xs) (n':Nat) (hn:n'≤n):CZ M e sz w F (.slice A n' c) (xs.take n'):=by
 obtain⟨css,ho,hl,hc,hb,G,hG,hd,hm⟩:=h;have hxn:xs.length=n:=by
  rcases ho.2 with ⟨e1,e2⟩ | ⟨g,cap,cur,e1,_⟩
  ·injection e1 with _ e3;omega
  ·injection e1 with _ e3
   exact e3.symm
 have hlt:(xs.take n').length=n':=by simp;omega
 have hfl:(css.take n').flatten=css.flatten.take (n'*sz):=take_flatten hc n';refine⟨css.take n',⟨?_,?_⟩,by simp;omega,fun c hc'=>hc c (ArI hc'),?_,G,?_,hd,?_⟩
 ·rw[hlt,hfl,AqT,ho.1,hxn,AsN (Aq0 _ hn)]
 ·rcases ho.2 with ⟨e1,e2⟩ | ⟨g,cap,cur,e1,h1,h2,h3,h4,h5,h6⟩
  ·injection e1 with e3 e4 e5;subst e3;subst e5;have:n'=0:=by omega
   subst this;exact .inl ⟨rfl,by simp⟩
  ·injection e1 with e3 e4 e5;subst e3;subst e5;refine .inr ⟨g,c,cur,by rw[hlt],h1,h2,by rw[hlt];omega,h4,h5,?_⟩
   rw[hlt,hfl,← h6,AsW,hxn,AsN (Aq0 _ hn)]
 ·intro g' hg';exact hb g' (by cases A<;>first | (simp[Value.ownBlock] at hg';done) | simpa[Value.ownBlock] using hg')
 ·intro j k hk;obtain⟨h1,h2⟩:=hG j k hk;exact⟨h1,by cases A<;>first | (simp[Value.ownBlock];done) | simpa[Value.ownBlock] using h2⟩
 ·intro j x c hx hcj;rw[AqW] at hx hcj;split at hx
  ·rename_i hj;rw[if_pos hj] at hcj;exact hm j x c hx hcj
  ·cases hx
 where
 take_flatten {sz:Nat}:∀ {css:List (List Value)},(∀ c∈css,c.length=sz∧∀ u∈c,u.oneCell'=true)→∀ n,(css.take n).flatten=css.flatten.take (n*sz)
  | _,_,0=>by simp
  | [],_,n+1=>by simp
  | d :: r,h,n+1=>by
   have hd:=(h d (by simp)).1
   rw[Asm,AqI,AqI,take_flatten (fun c hc=>h c (by simp[hc])) n,Ard,ArM,AqX (l:=d) (by omega),hd,Ass]
theorem BN {m:Option Nat} {rw:List (Option Ac)} {i:Nat} {r:Ac} (hr:at? rw i=some r) (hmi:r.m.mine=true) (x:Option Ac) (hx:x=none∨∃ q0,m=some q0∧r.m=.own∧x=some { r with m:=.bor q0 none }):AX m (at? rw) (at? (Ae i (AL rw i x))):=by
 have hlt:=A4 hr;refine⟨fun j r' hj=>?_,fun j r' p pa hj e=>?_⟩
 ·rw[Aq,AK] at hj;split at hj
  ·rename_i hij;obtain⟨rfl,_⟩:=hij;rcases hx with rfl | ⟨q0,hq0,ho,rfl⟩
   ·cases hj.1
   ·have e:=hj.1;cases e;exact .inr ⟨q0,r,hq0,hr,hmi,rfl,ho⟩
  ·exact .inl hj.1
 ·rw[Aq,AK] at hj;split at hj
  ·rename_i hij;obtain⟨rfl,_⟩:=hij;rcases hx with rfl | ⟨q0,hq0,ho,rfl⟩
   ·cases hj.1
   ·have e':=hj.1;cases e';simp only[Md.bor.injEq] at e;exact .inr (by rw[hq0,e.1])
  ·refine .inl ⟨hj.1,fun r0 h0 hm0=>?_⟩;have hne:=hj.2 p pa e;rw[Aq,AK,if_neg (fun h=>hne h.1.symm)];exact⟨h0,fun p' a' e'=>by rw[e'] at hm0;cases hm0⟩
theorem AX.trans {m:Option Nat} {a b c:Nat→Option Ac} (h:AX m a b) (k:AX m b c):AX m a c:=by
 refine⟨fun j r' hj=>?_,fun j r p pa hj e=>?_⟩
 ·rcases k.row j r' hj with h1 | ⟨q0,r,h1,h2,h3,h4,h5⟩
  ·exact h.row j r' h1
  ·exact .inr ⟨q0,r,h1,h.mine h2 h3,h3,h4,h5⟩
 ·rcases k.par j r p pa hj e with ⟨h1,h2⟩ | h1
  ·rcases h.par j r p pa h1 e with ⟨h3,h4⟩ | h3
   ·exact .inl ⟨h3,fun r0 h0 hm=>h2 r0 (h4 r0 h0 hm) hm⟩
   ·exact .inr h3
  ·exact .inr h1
theorem E2 {s:Sh} (h:s=s) (xs:List s.T):DI h xs=xs:=rfl
theorem Own.gone {rw rw':Nat→Option Ac} {m:Option Nat} (ht:Tab rw g w) (hk:AX m rw rw') {i:Nat} {r:Ac} {q:B3} (hr:rw i=some r) (hm:r.m.mine=true) (hq:g.ρ i=some q) (hg:∀ r',rw' i=some r'→r'.m.mine=false) {k:Nat} (hF:q.F k):Own rw g k∧¬ Own rw' g k:=by
 refine⟨⟨i,r,q,hr,hm,hq,hF⟩,?_⟩
 rintro⟨j,r',q',h1,h2,h3,h4⟩
 have:=ht.disj i j r r' q q' k hr (hk.mine h1 h2) hm h2 hq h3 hF h4;subst this;rw[hg r' h1] at h2;cases h2
theorem Ug {ok:Md→Bool} {m:Option Nat} (hok:∀ x,ok x=true→x.mine=true∧(m≠none→x=.own)) {e:Nat} {s:Sh} {rw rw':List (Option Ac)} {l:Lf} {xs:List s.T} {u:Value} (h:DJ ok m e s rw l=some (xs,rw')) (hl:LfR C g l u) (ht:Tab (at? rw) g w) :
  rw'.length=rw.length∧AX m (at? rw) (at? rw')∧Bq e s w (fun k=>Own (at? rw) g k∧¬ Own (at? rw') g k) u xs:=by
 cases l<;>simp only[DJ] at h
 case row i =>
  split at h
  ·rename_i q hq;split at h
   ·rename_i he;cases ho:ok q.m
    ·rw[ho] at h;cases h
    ·rw[ho,cond_true] at h;split at h
     ·rename_i hs;cases h;obtain⟨hmi,hown⟩:=hok _ ho;have hT:AX m (at? rw) (at? (Ae i (AL rw i (m.map fun p=>{ q with m:=.bor p none })))):=BN hq hmi _ (by
       cases m with
       | none=>exact .inl rfl
       | some q0=>exact .inr ⟨q0,rfl,hown (by simp),rfl⟩)
      refine⟨by rw[Bh,AR],hT,?_⟩
      obtain⟨c,A,n,cc,hc,hv,hO⟩:=ht.mine i q hq hmi;obtain⟨q',A',n',c',hq',hv',hu⟩:=hl;rw[hc] at hq';cases hq';have hu':u=c.v:=by rw[hu,hv']
      obtain⟨e0,s0,xs0,m0⟩:=q;simp only at he hs hO;subst he;subst hs;rw[hu'];refine Bq.mono (fun k hk=>Own.gone ht hT hq hmi hc (fun r' hr'=>?_) hk) hO;rw[Aq,AK,if_pos ⟨rfl,A4 hq⟩] at hr';cases m with
      | none=>cases hr'.1
      | some q0=>cases hr'.1;rfl
     ·cases h
   ·cases h
  ·cases h
 case view i lo hi =>
  split at h
  ·rename_i hlo;split at h
   ·rename_i q hq;split at h
    ·rename_i he;cases ho:ok q.m
     ·rw[ho] at h;cases h
     ·rw[ho,cond_true] at h;split at h
      ·rename_i hs;cases h;obtain⟨hmi,hown⟩:=hok _ ho;have hT:AX m (at? rw) (at? (Ae i (AL rw i none))):=BN hq hmi _ (.inl rfl);refine⟨by rw[Bh,AR],hT,?_⟩
       obtain⟨c,A,n,cc,hc,hv,hO⟩:=ht.mine i q hq hmi;obtain⟨q',A1,n1,c1,A2,n2,c2,hq',hv',hu,h0,h1,h2,h3,h4,h5⟩:=hl;rw[hc] at hq';cases hq';obtain⟨e1,e2⟩:=h4 hlo;subst e1;subst e2;obtain⟨e0,s0,xs0,m0⟩:=q;simp only at he hs hO;subst he;subst hs;have hn2:n2=hi.toNat:=by omega
       rw[hu,hn2,E2];rw[hv'] at hO;refine Bq.mono (fun k hk=>Own.gone ht hT hq hmi hc (fun r' hr'=>?_) hk) (CZ.front hO _ (by omega))
       rw[Aq,AK,if_pos ⟨rfl,A4 hq⟩] at hr';cases hr'.1
      ·cases h
    ·cases h
   ·cases h
  ·cases h
 case nil =>
  cases h;cases hl;exact⟨rfl,AX.refl _ _,[],World.ownsRow_nil w 0 e s.n,rfl,by simp,by simp[Value.ownBlock],fun _ _=>False,by simp,by simp,by simp⟩
 all_goals cases h
theorem Bg {ok:Md→Bool} {m:Option Nat} (hok:∀ x,ok x=true→x.mine=true∧(m≠none→x=.own)):(s:Sh)→∀ {ls rest:List Lf} {rw rw':List (Option Ac)} {x:s.T} {us:List Value},take ok m s ls rw=some (x,rest,rw')→AC C g ls us→Tab (at? rw) g w →
  rw'.length=rw.length∧AX m (at? rw) (at? rw')∧∃ c1 c2,us=c1++c2∧AC C g rest c2∧OC s w (fun k=>Own (at? rw) g k∧¬ Own (at? rw') g k) x c1
 | .int k,ls,rest,rw,rw',x,us,h,hl,ht=>by
  simp only[take] at h;split at h
  ·split at h
   ·rename_i e;subst e;cases h;obtain⟨u,t,rfl,hu,hr⟩:=hl;exact⟨rfl,AX.refl _ _,[u],t,rfl,hr,by cases hu;rfl⟩
   ·cases h
  ·cases h
 | .bool,ls,rest,rw,rw',x,us,h,hl,ht=>by
  simp only[take] at h;split at h
  ·cases h;obtain⟨u,t,rfl,hu,hr⟩:=hl;exact⟨rfl,AX.refl _ _,[u],t,rfl,hr,by cases hu;rfl⟩
  ·cases h
 | .str,ls,rest,rw,rw',x,us,h,hl,ht=>by
  simp only[take] at h;split at h
  ·cases h;obtain⟨u,t,rfl,hu,hr⟩:=hl;exact⟨rfl,AX.refl _ _,[u],t,rfl,hr,by cases hu;rfl⟩
  ·cases h
 | .list e s,ls,rest,rw,rw',x,us,h,hl,ht=>by
  simp only[take] at h;split at h
  ·rename_i l r;split at h
   ·rename_i xs rw1 hL;cases h;obtain⟨u,t,rfl,hu,hr⟩:=hl;obtain⟨h1,h2,h3⟩:=Ug hok hL hu ht;exact⟨h1,h2,[u],t,rfl,hr,u,rfl,h3⟩
   ·cases h
  ·cases h
 | .cons a b,ls,rest,rw,rw',x,us,h,hl,ht=>by
  simp only[take] at h;split at h
  ·rename_i y l1 rw1 h1;split at h
   ·rename_i z l2 rw2 h2;cases h;obtain⟨n1,t1,c1,c2,rfl,r1,o1⟩:=Bg hok a h1 hl ht;obtain⟨n2,t2,c3,c4,rfl,r2,o2⟩:=Bg hok b h2 r1 (ht.took t1);refine⟨n2.trans n1,t1.trans t2,c1++c3,c4,by simp,r2,c1,c3,rfl,_,_,?_,?_,?_,o1,o2⟩
    ·rintro k ⟨k1,k2⟩
     exact⟨k1,fun k3=>k2 (k3.took t2)⟩
    ·rintro k ⟨k1,k2⟩
     exact⟨k1.took t1,k2⟩
    ·rintro k ⟨k1,k2⟩ ⟨k3,k4⟩
     exact k2 k3
   ·cases h
  ·cases h
 | .fn1 _ _,ls,rest,rw,rw',x,us,h,hl,ht=>by simp[take] at h
 | .fn2 _ _ _,ls,rest,rw,rw',x,us,h,hl,ht=>by simp[take] at h
 | .ol _ _,ls,rest,rw,rw',x,us,h,hl,ht=>by simp[take] at h
end Go.Proofs.YteheolldcpjkcaaGreat.X
