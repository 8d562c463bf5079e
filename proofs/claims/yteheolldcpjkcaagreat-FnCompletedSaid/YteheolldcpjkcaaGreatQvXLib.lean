/- Functions of the library that have contracts in the kit. -/
import Derived.Test.YteheolldcpjkcaaGreatQvXStep
import Derived.Shelf.SlSortCmp.NoneTotal
import Derived.Shelf.Bits.Mul64
set_option linter.unusedSimpArgs false
set_option linter.unusedVariables false
set_option linter.unusedSectionVars false
namespace Go.Proofs.YteheolldcpjkcaaGreat.X
open Go Go.RowKit
theorem AfE {α:Type}:∀ {l:List (List α)} {f:List α→α},(∀ c∈l,c=[f c])→l.flatten=l.map f
 | [],_,_=>rfl
 | c :: r,f,h=>by
  rw[AqI,AfE fun c hc=>h c (Arl _ hc),Arh];exact congrArg (fun z=>z++r.map f) (h c (by simp))
theorem AfF {α:Type} {sz:Nat}:∀ {css:List (List α)},(∀ c∈css,c.length=sz)→css.flatten.length=css.length*sz
 | [],_=>by simp
 | c :: r,h=>by
  rw[AqI,Aqs,h c (by simp),AfF fun c hc=>h c (by simp[hc]),Aq3,Ard]
  omega
theorem Wg {α:Type} [Inhabited α] {enc:α→List Value} {k:Nat} (hk:∀ x,(enc x).length=k) (hpos:0<k) (d:Array α):(Go.Sort.flatK enc k d).toList=(d.toList.map enc).flatten:=by
 have hc:∀ c∈d.toList.map enc,c.length=k:=fun c hc=>by
  obtain⟨x,_,rfl⟩:=AqG.1 hc;exact hk x
 apply Arj
 intro t;by_cases ht:t<d.size*k
 ·have hj:t / k<d.size:=Nat.div_lt_of_lt_mul (by rwa [Asg])
  have hi:t % k<(enc d[t / k]).length:=by rw[hk];exact Atd _ hpos
  have e:=Et hc (j:=t / k) (c:=enc d[t / k]) (by simp[hj]) (t % k) (enc d[t / k])[t % k] (Aqo hi)
  rw[Nat.div_add_mod' t k] at e;rw[e];have hs:t<(Go.Sort.flatK enc k d).toList.length:=by simpa using ht
  rw[Aqo hs];have:=Go.Sort.get_flatK enc k d t ht;rw[getElem!_pos _ t (by simpa using ht),getElem!_pos d _ hj,getElem!_pos (enc d[t / k]) _ hi] at this
  rw[Array.getElem_toList,this]
 ·rw[AqC (by simpa using ht),AqC (by rw[AfF hc];simpa using ht)]
theorem Ni.grow {w w':World} (h:Ni w w'):∃ q os,w'=Go.Sort.grow (w.drewN q) os:=by
 refine⟨w'.drawn-w.drawn,w'.heap.extract w.heap.size w'.heap.size,?_⟩;have hd:w'.drawn=w.drawn+(w'.drawn-w.drawn):=by have:w.drawn≤w'.drawn:=h.drawn;omega
 have hh:w'.heap=w.heap++w'.heap.extract w.heap.size w'.heap.size:=by
  apply Array.ext_getElem?
  intro k;rw[Array.getElem?_append];split
  ·rename_i hk;exact h.block k hk
  ·rename_i hk;rw[Array.getElem?_extract];have:=h.size;split
   ·congr 1;omega
   ·rw[Array.getElem?_eq_none (by omega)]
 obtain⟨h1,h2,h3,h4,h5⟩:=w';simp only at hd hh;have e1:=h.os;have e2:=h.tape;have e3:=h.output;simp only at e1 e2 e3;subst e1 e2 e3;unfold Go.Sort.grow World.drewN;simp only;rw[← hd,← hh]
def Anc (s:Sh) (φ:s.T→s.T→Option Int):Prop :=
 (∀ x y,(φ x y).isSome=true)∧Go.Sort.SWO (ltOf fun x y=>(φ x y).getD 0)∧∀ x y,ltOf (fun x y=>(φ x y).getD 0) x y=false→ltOf (fun x y=>(φ x y).getD 0) y x=false→x=y
variable [CW]
open Classical in
noncomputable def Uf (s:Sh) (xs:List s.T) (φ:s.T→s.T→Option Int):Option (List s.T) :=
 if Anc s φ∧xs.length<4611686018427387904 then some (xs.mergeSort fun x y=>!ltOf (fun x y=>(φ x y).getD 0) y x) else none
noncomputable def AfG (e:Nat) (s:Sh):Mdl:=⟨[(.io,.list e s),(.ro,.fn2 s s (.int .i64))],[],fun x=>Uf s x.1 x.2.1⟩
theorem Wh {P:Program} {ρ:Go.Shelf.Ren} {f e:Nat} {s:Sh} (L:SlLaysF0.n6 P ρ) (hf:ρ.f 6=f) (hfl:s.flat=true) (hag:s.agg=true) (aE:∀ w,(isAgg (ρ.t 24)).run P w=.ok true w) (zE:∀ w,(Go.sizeOf (ρ.t 24)).run P w=.ok s.n w):Br P f (AfG e s):=by
 subst hf;intro w x us Fs hW hgf hA hap;refine fun (y:List s.T) hy=>?_;obtain⟨u1,us1,F1,Fs1,rfl,rfl,hlt1,⟨cs1,rfl,v,rfl,hOw⟩,u2,us2,F2,Fs2,rfl,rfl,hlt2,⟨cs2,rfl,hR⟩,rfl,rfl⟩:=hA;obtain⟨_,g,caps,rfl,hRun,hcall⟩:=hR;obtain⟨css,ho,hl,hc,hb,G,hG,hd,hm⟩:=hOw;have hap12:∀ k,F1 k→¬ F2 k:=fun k h1 h2=>(hap.1 k h1).2 rfl (.inl ⟨rfl,h2⟩);obtain⟨xs,φ,x0⟩:=x;change Uf s xs φ=some y at hy;unfold Uf at hy;split at hy
 case isFalse=>cases hy
 rename_i hS;obtain⟨⟨hsome,hO,hT⟩,hlen⟩:=hS;injection hy with hy;have:Inhabited s.T:=⟨s.dfl⟩;have hcss:css=xs.map (cellsF s):=by
  apply Arj
  intro j;rw[Aqt];cases hx:xs[j]? with
  | none =>
   have:=List.getElem?_eq_none_iff.1 hx;rw[AqC (by simp only at hl;omega)]
   rfl
  | some x =>
   have hj:j<css.length:=by rw[hl];exact (Aqz.1 hx).1
   rw[Aqo hj];exact congrArg some (RC.cellsF (P:=P) s hfl (OC.read s (hm j x _ hx (Aqo hj))))
 subst hcss;have hk:∀ x:s.T,(cellsF s x).length=s.n:=Ce s hfl
 -- the values behind
 have fin:∀ {w':World},AE (hands (AfG e s).ps [F1,F2]) w w'→CZ (OC s w') e s.n w' F1 v y→NO w (AfG e s) [Ay (Sh.list e s).agg [v],Ay (Sh.fn2 s s (.int .i64)).agg [.func (.func g) #[] caps]] [F1,F2] y (.tuple #[]) w':=by
  intro w' hM hO';exact⟨[],[],rfl,hM,⟨⟨[v],rfl,v,rfl,hO'⟩,⟨rfl,rfl⟩,fun G hG=>by cases hG⟩⟩
 have own:∀ {w':World},w'.ownsRow 0 e s.n v xs.length (y.map (cellsF s)).flatten→y.length=xs.length→CZ (OC s w') e s.n w' F1 v y:=by
  intro w' h hly;refine⟨y.map (cellsF s),by rw[hly];exact h,by simp,fun c hc=>?_,hb,fun _ _=>False,fun _ _ h=>h.elim,fun _ _ _ _ h=>h.elim,fun j x c hx hc=>?_⟩
  ·obtain⟨x,_,rfl⟩:=AqG.1 hc;exact⟨hk x,Fz s x⟩
  ·rw[Aqt,hx] at hc;cases hc;exact RC.flatOC (P:=P) (w:=w') s hfl (F:=fun _=>False) (RC.ofCellsF s hfl x)
 rcases ho.2 with ⟨rfl,hn⟩ | ⟨gb,cap,cur,rfl,_,hheap,hncap,hcapm,hcs,htk⟩
 ·have hxs:xs=[]:=Arq hn;subst hxs;refine (AnyF.slices_SortFunc_none L none 0 _ w).mono fun e' w' ⟨he,hw⟩=>⟨_,he,?_⟩;subst hw;have hy0:y=[]:=by rw[← hy];simp
  subst hy0;exact fin (AE.refl _ _) (own (World.ownsRow_nil _ _ _ _) rfl)
 ·have hF1:F1 gb:=hb gb rfl;have hblk:gb<w.heap.size:=hlt1 gb hF1
  let d:Array s.T:=xs.toArray
  have hfk:∀ d:Array s.T,(Go.Sort.flatK (cellsF s) s.n d).toList=(d.toList.map (cellsF s)).flatten:=Wg hk s.n_pos;have hH:Go.Sort.HoldsK (cellsF s) s.n w gb 0 d:=by
   intro j hj;refine⟨?_,?_⟩
   ·have hj':j<(Go.Sort.flatK (cellsF s) s.n d).toList.length:=by simpa using hj
    have:=ho.cells (g:=gb) rfl j (Go.Sort.flatK (cellsF s) s.n d)[j]! (by
     rw[← show d.toList=xs from rfl,← hfk,Aqo hj',getElem!_pos _ j hj]
     rfl)
    rw[C1] at this;rw[AqQ];exact this
   ·simp[World.frozen?,hheap]
  have hcf:∀ x y,φ x y=some ((φ x y).getD 0):=fun x y=>by
   have:=hsome x y;cases h:φ x y with
   | none=>rw[h] at this;cases this
   | some z=>rfl
  have heap:∀ (m:Nat) (os:Array Obj) (dk:Array s.T) (k:Nat),k<w.heap.size→(sortWorldK (cellsF s) s.n w gb 0 m dk os).heap[k]? = if k=gb then some (.cells (Go.Sort.putCells id 0 (Go.Sort.flatK (cellsF s) s.n dk) cur) e (0,0)) else w.heap[k]?:=by
   intro m os dk k hk';unfold sortWorldK Go.Sort.grow Go.Sort.putRowK Go.Sort.putRow Go.Sort.mapBlock Go.Sort.ahead;simp only;rw[Ary (by simpa using hk'),AsD]
   by_cases e1:k=gb
   ·subst e1;rw[if_pos rfl,if_pos rfl,hheap];rfl
   ·rw[if_neg (fun h=>e1 h.symm),if_neg e1]
  have hsz:∀ (m:Nat) (os:Array Obj) (dk:Array s.T),w.heap.size≤(sortWorldK (cellsF s) s.n w gb 0 m dk os).heap.size:=by
   intro m os dk;unfold sortWorldK Go.Sort.grow Go.Sort.putRowK Go.Sort.putRow Go.Sort.mapBlock Go.Sort.ahead;simp
  have hcmp:CmpLays P g caps (cellsF s) s.n (fun x y=>(φ x y).getD 0) gb 0 d.size w:=by
   intro m os dk hdk x y;have hS:Ed F2 w (sortWorldK (cellsF s) s.n w gb 0 m dk os):=⟨hsz m os dk,fun k hk2=>by
    rw[heap m os dk k (hlt2 k hk2),if_neg (show ¬ k=gb from fun e1=>hap12 gb hF1 (e1▸hk2))]⟩
   have hpk:∀ z:s.T,EB s (cellsF s z)=.agg (cellsF s z).toArray:=fun z=>by simp[EB,Ay,hag]
   have:=hcall _ hS x (cellsF s x) (fun _=>False) (fun _ h=>h.elim) (RC.ofCellsF s hfl x) y (cellsF s y) (fun _=>False) (fun _ h=>h.elim) (RC.ofCellsF s hfl y) _ (hcf x y);rw[hpk,hpk] at this;refine this.mono fun e' w' ⟨cr,he,hcr,hp⟩=>?_;have hcr:cr=[.int .i64 ((φ x y).getD 0)]:=hcr;subst hcr;exact⟨he,hp.grow⟩
  have hRuns:∀ args w,(callFunc g args).run P w=.ok (.enter g args) w:=by
   obtain⟨fn,hf,hbd,hnm⟩:=hRun;cases hbody:fn.body with
   | none=>rw[hbody] at hbd;cases hbd
   | some c=>exact enters_of hf hnm hbody
  have main:=AnyQ.slices_SortFunc_total L s.n aE zE (cellsF s) hk (fun x v hv=>Fz s x v hv) (fun x y=>(φ x y).getD 0) hO g caps gb 0 cap d w hRuns hcmp hH hblk (by simpa[d] using hlen) hT
  refine main.mono fun e' w' ⟨he,n,os,hw⟩=>⟨_,he,?_⟩;have hy':d.toList.mergeSort (fun x y=>!ltOf (fun x y=>(φ x y).getD 0) y x)=y:=hy;rw[hy'] at hw;have hly:y.length=xs.length:=by rw[← hy];simp
  subst hw;refine fin ⟨?_,rfl,rfl,rfl,hsz n os _,fun k hk' hn=>?_⟩ (own ?_ hly)
  ·refine CW.mono ?_;show w.drawn≤w.drawn+n;omega
  ·rw[heap n os _ k hk',if_neg (show ¬ k=gb from fun e1=>hn (.inl ⟨rfl,e1▸hF1⟩))]
  ·have hfl2:(y.map (cellsF s)).flatten.length=xs.length*s.n:=by
    rw[AfF (fun c hc=>by obtain⟨x,_,rfl⟩:=AqG.1 hc;exact hk x)]
    simp[hly]
   refine⟨hfl2,.inr ⟨gb,cap,_,rfl,Ari _,by rw[heap n os _ gb hblk,if_pos rfl],hncap,hcapm,?_,?_⟩⟩
   ·simp[Go.Sort.putCells,hcs]
   ·have e1:=hfk y.toArray;rw[show (y.toArray:Array s.T).toList=y from rfl] at e1
    have hle:xs.length*s.n≤cur.size:=by rw[hcs];exact Aq0 _ hncap
    rw[← e1]
    apply Arj
    intro t;rw[AqW];have hfs:(Go.Sort.flatK (cellsF s) s.n y.toArray).size=xs.length*s.n:=by simp[hly]
    split
    ·rename_i ht;simp only[Go.Sort.putCells,Art,Array.getElem?_mapIdx];rw[Arp (by omega),Arp (by omega)]
     simp only[AqU,Ari,true_and,AqQ,Nat.sub_zero,id];rw[if_pos (by omega),getElem!_pos _ t (by omega)]
    ·rw[AqC (by simp only[ArK];omega)]
noncomputable def AfH (a b:Int):Option (Int×Int):=@ite _ ((0≤a∧a<18446744073709551616)∧0≤b∧b<18446744073709551616) (Classical.propDecidable _) (some (a*b / 18446744073709551616,a*b % 18446744073709551616)) none
theorem Abb {P:Program} {ρ:Go.Shelf.Ren} {f:Nat} (L:Lays.n212 P ρ) (hf:ρ.f 212=f):Br P f ⟨[(.ro,.int .u64),(.ro,.int .u64)],[.int .u64,.int .u64],fun x=>AfH x.1 x.2.1⟩:=by
 subst hf;intro w x us Fs hW hgf hA hap;refine fun (y:Int×Int) hy=>?_;obtain⟨u1,us1,F1,Fs1,rfl,rfl,hlt1,⟨cs1,rfl,h1⟩,u2,us2,F2,Fs2,rfl,rfl,hlt2,⟨cs2,rfl,h2⟩,rfl,rfl⟩:=hA;obtain⟨a,b,x0⟩:=x;have h1:cs1=[.int .u64 a]:=h1;have h2:cs2=[.int .u64 b]:=h2;subst h1 h2;change AfH a b=some y at hy;unfold AfH at hy;split at hy
 case isFalse=>cases hy
 rename_i hab;injection hy with hy;subst hy;obtain⟨n,rfl⟩:∃ n:Nat,a=(n:Int):=⟨Int.toNat a,(ArU hab.1.1).symm⟩;obtain⟨m,rfl⟩:∃ m:Nat,b=(m:Int):=⟨Int.toNat b,(ArU hab.2.1).symm⟩;have hn:n<18446744073709551616:=by have:=hab.1.2;omega
 have hm:m<18446744073709551616:=by have:=hab.2.2;omega
 refine (Any.bits_Mul L n m hn hm w).mono fun e' w' ⟨he,hw⟩=>⟨_,he,?_⟩;subst hw;have e1:((n*m / 18446744073709551616:Nat):Int)=(n:Int)*(m:Int) / 18446744073709551616:=by simp
 have e2:((n*m % 18446744073709551616:Nat):Int)=(n:Int)*(m:Int) % 18446744073709551616:=by simp
 rw[e1,e2];exact⟨[_,_],[fun _=>False,fun _=>False],rfl,AE.refl _ _,⟨_,_,_,_,[_],rfl,rfl,rfl,rfl,fun _ h=>h.elim,⟨_,_,_,_,[_],rfl,rfl,rfl,rfl,fun _ h=>h.elim,⟨rfl,rfl⟩⟩⟩,fun G hG k hk=>by
  simp only[AqA,List.not_mem_nil,or_false,or_self] at hG;subst hG;exact hk.elim⟩
end Go.Proofs.YteheolldcpjkcaaGreat.X
