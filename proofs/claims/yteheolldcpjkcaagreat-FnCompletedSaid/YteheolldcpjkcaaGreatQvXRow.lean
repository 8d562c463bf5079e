/- From arguments that can be read as data to typed values; a law's row. -/
import Derived.Test.YteheolldcpjkcaaGreatQvXLoop
import Derived.ProofKit
import Derived.OpenShut
import Derived.ShutString
import Derived.ChangeOld
import Derived.SizedLaws
import Derived.DataReads
import Derived.DataElems
import Derived.Carry
set_option linter.unusedSimpArgs false
set_option linter.unusedVariables false
set_option linter.unusedSectionVars false
namespace Go.Proofs.YteheolldcpjkcaaGreat.X
open Go Go.RowKit Go.ChangeShapes Go.WideShapes Go.ChangeAt
variable [CW]
def Wo (f:Nat→Sh→Bool) (P:Program):List Field→Nat→Sh→Bool
 | [fd],off,s=>Nat.beq fd.offset off&&Nat.beq (P.cellsOf fd.type) s.n&&f fd.type s
 | fd :: r,off,.cons a b=>Nat.beq fd.offset off&&Nat.beq (P.cellsOf fd.type) a.n&&f fd.type a&&Wo f P r (off+a.n) b
 | _,_,_=>false
def shB (P:Program):Nat→Nat→Sh→Bool
 | 0,_,_=>false
 | n+1,t,s=>match s,P.underlying t with
  | .int k,some (.int k')=>decide (k=k')
  | .bool,some .bool=>true
  | .str,some .string=>true
  | .list e s,some (.slice e')=>Nat.beq e e'&&Nat.beq (P.cellsOf e) s.n&&shB P n e s
  | .cons a b,some (.struct fs)=>Nat.beq (P.cellsOf t) (a.n+b.n)&&Wo (shB P n) P fs.toList 0 (.cons a b)
  | _,_=>false
def Wf:(s:Sh)→s.T→Prop
 | .int k,n=>(Lit.int k n).wf=true
 | .bool,_=>True
 | .str,b=>b.size≤maxLen
 | .list _ s,xs=>xs.length≤maxLen∧∀ x∈xs,Wf s x
 | .cons a b,x=>Wf a x.1∧Wf b x.2
 | _,_=>False
variable {H:Type} {enc:TypeId×Value→H} {P:Program} {W:World} {sp:Nat→Bool}
abbrev Nw (W:World):FP:=fun k=>k<W.heap.size
theorem Px {f:Nat→Sh→Bool} {tr:Nat→List Value→Option (DataW H×List MemPlace)} {cs:List Value}
  (hf:∀ t s,f t s=true→∀ cs y,tr t cs=some y→∃ x:s.T,RC P s W (Nw W) x cs∧Wf s x) :
  ∀ (fds:List Field) (off:Nat) (s:Sh) (ys:List (DataW H×List MemPlace)),Wo f P fds off s=true→off+s.n≤cs.length→fds.mapM (fun fd=>tr fd.type ((cs.drop fd.offset).take (P.cellsOf fd.type)))=some ys →
   ∃ x:s.T,RC P s W (Nw W) x ((cs.drop off).take s.n)∧Wf s x
 | [],off,s,ys,h,_,_=>by simp[Wo] at h
 | [fd],off,s,ys,h,hle,hm=>by
  simp only[Wo,Aql] at h;obtain⟨⟨h1,h2⟩,h3⟩:=h;have e1:=Aqm h1;have e2:=Aqm h2;rw[AsZ] at hm;rw[e1,e2] at hm;cases hy:tr fd.type ((cs.drop off).take s.n) with
  | none=>rw[hy] at hm;cases hm
  | some y=>exact hf fd.type s h3 _ y hy
 | fd :: g :: r,off,s,ys,h,hle,hm=>by
  cases s with
  | cons a b =>
   simp only[Wo,Aql] at h;obtain⟨⟨⟨h1,h2⟩,h3⟩,h4⟩:=h;have e1:=Aqm h1;have e2:=Aqm h2;rw[AsZ,e1,e2] at hm;cases hy:tr fd.type ((cs.drop off).take a.n) with
   | none=>rw[hy] at hm;cases hm
   | some y =>
    rw[hy] at hm;cases hz:(g :: r).mapM (fun fd=>tr fd.type ((cs.drop fd.offset).take (P.cellsOf fd.type))) with
    | none=>simp only[hz] at hm;cases hm
    | some zs =>
     simp only[Sh.n] at hle;obtain⟨x1,r1,w1⟩:=hf fd.type a h3 _ y hy;obtain⟨x2,r2,w2⟩:=Px hf (g :: r) (off+a.n) b zs h4 (by omega) hz
     refine⟨(x1,x2),⟨_,_,?_,r1,r2⟩,w1,w2⟩;simp only[Sh.n];rw[List.take_add,ArH]
  | _=>simp[Wo] at h
theorem AfY {t:Nat} {k:IntKind} {fuel:Nat} {cs:List Value} {y:DataW H×List MemPlace} (hu:P.underlying t=some (.int k)) (h:DataW.trod enc P W 0 sp true fuel t cs=some y):∃ n,cs=[.int k n]∧(Lit.int k n).wf=true:=by
 cases fuel with
 | zero=>cases h
 | succ fuel =>
  rcases cs with _ | ⟨c,_ | ⟨c2,r⟩⟩
  ·simp[DataW.trod,hu] at h
  ·cases c<;>simp[DataW.trod,hu] at h
   obtain⟨⟨h1,h2⟩,_⟩:=h;subst h1;exact⟨_,rfl,h2⟩
  ·simp[DataW.trod,hu] at h
theorem Abo {t:Nat} {fuel:Nat} {cs:List Value} {y:DataW H×List MemPlace} (hu:P.underlying t=some .bool) (h:DataW.trod enc P W 0 sp true fuel t cs=some y):∃ b,cs=[.bool b]:=by
 cases fuel with
 | zero=>cases h
 | succ fuel =>
  rcases cs with _ | ⟨c,_ | ⟨c2,r⟩⟩
  ·simp[DataW.trod,hu] at h
  ·cases c<;>simp[DataW.trod,hu] at h
   exact⟨_,rfl⟩
  ·simp[DataW.trod,hu] at h
theorem AfZ {t:Nat} {fuel:Nat} {cs:List Value} {y:DataW H×List MemPlace} (hu:P.underlying t=some .string) (h:DataW.trod enc P W 0 sp true fuel t cs=some y):∃ b,cs=[.string b]∧b.size≤maxLen:=by
 cases fuel with
 | zero=>cases h
 | succ fuel =>
  rcases cs with _ | ⟨c,_ | ⟨c2,r⟩⟩
  ·simp[DataW.trod,hu] at h
  ·cases c<;>simp[DataW.trod,hu] at h
   exact⟨_,rfl,h.1⟩
  ·simp[DataW.trod,hu] at h
theorem Wp {t e:Nat} {fuel:Nat} {cs:List Value} {y:DataW H×List MemPlace} (hu:P.underlying t=some (.slice e)) (h:DataW.trod enc P W 0 sp true (fuel+1) t cs=some y) :
  cs=[.slice none 0 0]∨∃ ad len cap,cs=[.slice (some ad) len cap]∧len≤cap∧cap≤maxLen∧∀ i,i<len→∃ ds z,W.cells? 0 (ad.add (i*P.cellsOf e)) (P.cellsOf e)=some ds∧DataW.trod enc P W 0 sp true fuel e ds=some z:=by
 rcases cs with _ | ⟨c,_ | ⟨c2,r⟩⟩
 ·simp[DataW.trod,hu] at h
 ·cases c<;>simp only[DataW.trod,hu] at h<;>first | (cases h;done) | skip
  rename_i ad len cap;cases ad with
  | none =>
   left;cases len<;>cases cap<;>first | rfl | (cases h;done) | skip
  | some ad =>
   right;simp only at h;split at h
   ·rename_i hc;obtain⟨els,h1,h2⟩:=Aq2.1 h;refine⟨ad,len,cap,rfl,hc.2.1,hc.2.2,fun i hi=>?_⟩;have hl:=mapM_some_length h1;have h3:=mapM_some_get h1 i i (by simp[hi])
    have hil:i<els.length:=by rw[hl];simpa using hi
    have h4:els[i]? = some els[i]:=Aqo hil;rw[h4] at h3;obtain⟨ds,h5,h6⟩:=Aq2.1 h3;exact⟨ds,_,h5,h6⟩
   ·cases h
 ·simp[DataW.trod,hu] at h
theorem Ut {t:Nat} {fs:Array Field} {fuel:Nat} {cs:List Value} {y:DataW H×List MemPlace} (hu:P.underlying t=some (.struct fs)) (h:DataW.trod enc P W 0 sp true (fuel+1) t cs=some y) :
  cs.length=P.cellsOf t∧∃ ys,fs.toList.mapM (fun f=>DataW.trod enc P W 0 sp true fuel f.type ((cs.drop f.offset).take (P.cellsOf f.type)))=some ys:=by
 simp only[DataW.trod,hu] at h;split at h
 ·rename_i hc;obtain⟨ys,h1,_⟩:=AqF.1 h;exact⟨hc,ys,h1⟩
 ·cases h
theorem Aj9:∀ (n t:Nat) (s:Sh),shB P n t s=true→∀ (fuel:Nat) (cs:List Value) (y:DataW H×List MemPlace),DataW.trod enc P W 0 sp true fuel t cs=some y→∃ x:s.T,RC P s W (Nw W) x cs∧Wf s x:=by
 intro n
 induction n with
 | zero=>intro t s h;cases h
 | succ n ih =>
  intro t s h fuel cs y hy;cases fuel with
  | zero=>cases hy
  | succ fuel =>
   unfold shB at h;split at h
   ·rename_i k k' hu;have:=of_decide_eq_true h;subst this;obtain⟨m,e,hw⟩:=AfY hu hy;exact⟨m,e,hw⟩
   ·rename_i hu;obtain⟨b,e⟩:=Abo hu hy;exact⟨b,e,trivial⟩
   ·rename_i hu;obtain⟨b,e,hw⟩:=AfZ hu hy;exact⟨b,e,hw⟩
   ·rename_i e s e' hu;simp only[Aql] at h;obtain⟨⟨h1,h2⟩,h3⟩:=h;have e1:=Aqm h1;have e2:=Aqm h2;subst e1;rcases Wp hu hy with rfl | ⟨ad,len,cap,rfl,hl1,hl2,hel⟩
    ·exact⟨[],⟨none,0,0,rfl,Aqr _,rfl,fun h=>absurd h (by omega)⟩,Ari _,by simp⟩
    ·rw[e2] at hel;have hx:∀ i:Fin len,∃ x:s.T,∃ ds,W.cells? 0 (ad.add (i.1*s.n)) s.n=some ds∧RC P s W (Nw W) x ds∧Wf s x:=fun i=>by
      obtain⟨ds,z,h4,h5⟩:=hel i.1 i.2;obtain⟨x,h6,h7⟩:=ih e s h3 fuel ds z h5;exact⟨x,ds,h4,h6,h7⟩
     obtain⟨f,hf⟩:=Classical.skolem.1 hx;refine⟨List.ofFn f,⟨some ad,len,cap,rfl,hl1,by simp,fun hpos=>⟨ad,rfl,?_,fun j x hj=>?_⟩⟩,by simp;omega,fun x hxm=>?_⟩
     ·obtain⟨ds,h4,h5,_⟩:=hf ⟨0,hpos⟩;unfold World.cells? at h4;rw[if_pos (Ari _)] at h4;have h6:=mapM_some_get h4 0 0 (by simp[s.n_pos])
      have hdl:=mapM_some_length h4;have hd0:0<ds.length:=by rw[hdl];simpa using s.n_pos
      have h7:ds[0]? = some ds[0]:=Aqo hd0;rw[h7] at h6;have:=World.block_lt_of_cell? W _ h6;have e3:((ad.add (0*s.n)).add 0).block=ad.block:=by unfold Addr.add;split<;>(try split)<;>rfl
      rw[e3] at this;exact this
     ·have hjl:j<len:=by
       have:=(Aqz.1 hj).1;simpa using this
      have hjx:x=f ⟨j,hjl⟩:=by
       rw[List.getElem?_ofFn,dif_pos hjl] at hj;exact (Option.some.inj hj).symm
      obtain⟨ds,h4,h5,_⟩:=hf ⟨j,hjl⟩;refine⟨ds,hjx▸h5,RC.len s h5,fun i u hu'=>?_⟩;unfold World.cells? at h4;rw[if_pos (Ari _)] at h4;have hdl:=mapM_some_length h4;have hil:i<s.n:=by
       have:=(Aqz.1 hu').1;rw[hdl] at this;simpa using this
      have h6:=mapM_some_get h4 i i (by simp[hil])
      rw[hu'] at h6;rw[← Addr.add_add];exact h6
     ·obtain⟨i,hi⟩:=List.mem_ofFn.1 hxm;rw[← hi];obtain⟨_,_,_,h5⟩:=hf i;exact h5
   ·rename_i a b fs hu;simp only[Aql] at h;obtain⟨h1,h2⟩:=h;have e1:=Aqm h1;obtain⟨hl,ys,hm⟩:=Ut hu hy;obtain⟨x,h3,h4⟩:=Px (tr:=DataW.trod enc P W 0 sp true fuel) (fun t s h cs y hy=>ih t s h fuel cs y hy) fs.toList 0 (.cons a b) ys h2 (by simp only[Sh.n];omega) hm
    refine⟨x,?_,h4⟩;rw[Aqq,AqX (by simp only[Sh.n];omega)] at h3
    exact h3
   ·cases h
theorem Anf {n t:Nat} {s:Sh} (hs:shB P n t s=true) {r:Reach} {b0:Nat} {v:Value} {d:DataW H} {p:List MemPlace} (hv:Value.okWide P W r b0 t v) (h:DataW.Trod enc P W 0 sp true t v d p):∃ x:s.T,Arg P W s x v (Nw W) .ro∧Wf s x:=by
 obtain⟨fuel,hf⟩:=h;obtain⟨x,h1,h2⟩:=Aj9 n t s hs fuel _ _ hf;refine⟨x,⟨v.cells.toList,?_,h1⟩,h2⟩;cases n with
 | zero=>cases hs
 | succ n =>
  unfold shB at hs;split at hs
  ·rename_i k k' hu;have hn:=h1;obtain⟨m,rfl,_⟩:=open_int (hu) hv ⟨fuel,hf⟩;rfl
  ·rename_i hu;obtain⟨b,rfl,_⟩:=open_bool hu hv ⟨fuel,hf⟩;rfl
  ·rename_i hu;obtain⟨b,rfl,_⟩:=Go.ChangeMaps.open_string hu hv ⟨fuel,hf⟩;rfl
  ·rename_i e s e' hu;obtain⟨a,len,cap,rfl⟩:=okWide_slice hu hv;rfl
  ·rename_i a b fs hu;simp only[Value.okWide,hu] at hv;obtain⟨cs,rfl,_⟩:=hv;simp[Ay,Sh.agg,Value.cells]
  ·cases hs
def ros:List Sh→List (PM×Sh):=List.map fun s=>(.ro,s)
def Af0 (P:Program):List TypeId→List Sh→Bool
 | [],[]=>true
 | t :: ts,s :: ss=>shB P 16 t s&&Af0 P ts ss
 | _,_=>false
def WfA:(ss:List Sh)→AT (ros ss)→Prop
 | [],_=>True
 | s :: ss,x=>Wf s x.1∧WfA ss x.2
theorem ZT:∀ (ts:List TypeId) (ss:List Sh) (vs:List Value) (ds:List (DataW H)) (p:List MemPlace) {b0:Nat},Af0 P ts ss=true→(∀ (j:Nat) t v,ts[j]? = some t→vs[j]? = some v→Value.okWide P W .any b0 t v)→DataW.TrodAll enc P W 0 sp true ts vs ds p →
  ∃ x:AT (ros ss),Dy P W (ros ss) x vs (ss.map fun _=>Nw W)∧WfA ss x
 | [],[],[],[],_,_,_,_,_=>⟨(),⟨rfl,rfl⟩,trivial⟩
 | t :: ts,s :: ss,v :: vs,d :: ds,p,b0,hs,hv,⟨p1,p2,h1,h2,_⟩=>by
  simp only[Af0,Aql] at hs;obtain⟨x,h3,h4⟩:=Anf hs.1 (hv 0 t v rfl rfl) h1;obtain⟨xs,h5,h6⟩:=ZT ts ss vs ds p2 hs.2 (fun j t v ht hv'=>hv (j+1) t v (by simpa using ht) (by simpa using hv')) h2
  exact⟨(x,xs),⟨v,vs,Nw W,_,rfl,rfl,fun _ h=>h,h3,h5⟩,h4,h6⟩
 | [],_ :: _,_,_,_,_,h,_,_=>by cases h
 | _ :: _,[],_,_,_,_,h,_,_=>by cases h
 | [],[],_ :: _,_,_,_,_,_,h=>by cases h
 | [],[],[],_ :: _,_,_,_,_,h=>by cases h
 | _ :: _,_ :: _,[],_,_,_,_,_,h=>by cases h
 | _ :: _,_ :: _,_ :: _,[],_,_,_,_,h=>by cases h
theorem Ang:∀ {ss:List Sh},∀ p∈ros ss,p.1=.cap∨p.1=.ro:=by
 intro ss p hp;obtain⟨s,_,rfl⟩:=AqG.1 hp;exact .inr rfl
theorem Abp (hW:Hv W) {f:Nat} {ss:List Sh} {F:AT (ros ss)→Option (RT (BG (ros ss)++[.bool]))} (hS:Br P f ⟨ros ss,[.bool],F⟩) (h2:BG (ros ss)++[.bool]=[.bool]) {x:AT (ros ss)} {vs:List Value} {Fs:List FP} (hA:Dy P W (ros ss) x vs Fs)
  (hy:cast (congrArg (fun l=>Option (RT l)) h2) (F x)=some true):Calls P f vs.toArray W fun e w'=>e=.returned (.bool true)∧Below W.heap.size W w':=by
 refine (M2 hS Ang rfl h2 hW hA (y:=true) hy).mono fun e w' ⟨cr,he,hr,hb⟩=>⟨?_,hb.below⟩;have:cr=[.bool true]:=hr;rw[he,this];rfl
theorem Uu (hl:laidOutB P=true) {W':World} (hb:Below W.heap.size W W'):∀ (ts:List TypeId) (vs:List Value) (ds:List (DataW H)) (p:List MemPlace),ts.all (fun t=>P.readableRec t&&decide (t<P.types.size))=true→(∀ x∈p,x.block<W.heap.size)→DataW.TrodAll enc P W 0 (fun _=>true) true ts vs ds p→DataW.TrodAll enc P W' 0 (fun b=>decide (b<W.heap.size)) true ts vs ds p
 | [],[],[],p,_,_,h=>h
 | t :: ts,v :: vs,d :: ds,p,hr,hlt,⟨p1,p2,h1,h2,e⟩=>by
  simp only[Asn,Aql,decide_eq_true_eq] at hr;subst e;exact⟨p1,p2,Below.trod hl hr.1.1 hr.1.2 h1 hb (fun x hx=>hlt x (Aqy.2 (.inl hx))),Uu hl hb ts vs ds p2 hr.2 (fun x hx=>hlt x (Aqy.2 (.inr hx))) h2,rfl⟩
 | [],_ :: _,_,_,_,_,h=>by cases h
 | [],[],_ :: _,_,_,_,h=>by cases h
 | _ :: _,[],_,_,_,_,h=>by cases h
 | _ :: _,_ :: _,[],_,_,_,h=>by cases h
theorem Af1:∀ (ts:List TypeId) (vs:List Value) (ds:List (DataW H)) (p:List MemPlace),DataW.TrodAll enc P W 0 sp true ts vs ds p→∀ x∈p,x.block<W.heap.size
 | [],[],[],p,h,x,hx=>by cases h;cases hx
 | t :: ts,v :: vs,d :: ds,p,⟨p1,p2,⟨m,h1⟩,h2,e⟩,x,hx=>by
  subst e;rcases Aqy.1 hx with hx | hx
  ·exact DataW.trod_lt m _ _ _ h1 x hx
  ·exact Af1 ts vs ds p2 h2 x hx
 | [],_ :: _,_,_,h,_,_=>by cases h
 | [],[],_ :: _,_,h,_,_=>by cases h
 | _ :: _,[],_,_,h,_,_=>by cases h
 | _ :: _,_ :: _,[],_,h,_,_=>by cases h
end Go.Proofs.YteheolldcpjkcaaGreat.X
