/- What typed values are in the machine's memory: read (RC) and owned (OC). -/
import Derived.Test.YteheolldcpjkcaaGreatQvXAbs
import Derived.Calls
import Derived.Below
import Derived.Laws.AppendOwn
import Derived.Laws.OwnMore
import Derived.Maps.AppendAt
set_option linter.unusedSimpArgs false
set_option linter.unusedVariables false
namespace Go.Proofs.YteheolldcpjkcaaGreat.X
open Go Go.RowKit
abbrev FP:=Nat→Prop
structure Ed (F:FP) (w w':World):Prop where
 size:w.heap.size≤w'.heap.size
 blk:∀ k,F k→w'.heap[k]? = w.heap[k]?
theorem Ed.refl (F:FP) (w:World):Ed F w w:=⟨Aqr _,fun _ _=>rfl⟩
theorem Ed.trans {F:FP} {a b c:World} (h:Ed F a b) (k:Ed F b c):Ed F a c:=⟨AqE h.size k.size,fun i hi=>(k.blk i hi).trans (h.blk i hi)⟩
theorem Ed.mono {F F':FP} {a b:World} (h:Ed F a b) (hF:∀ k,F' k→F k):Ed F' a b:=⟨h.size,fun k hk=>h.blk k (hF k hk)⟩
theorem Ed.cell {F:FP} {w w':World} (h:Ed F w w') {a:Addr} (ha:F a.block):w'.cell? a=w.cell? a:=World.cell?_of_block (h.blk _ ha)
theorem Abl {α:Type} (q:Ask α):∀ w:World,w.drawn≤(w.ask q).2.drawn:=by
 induction q with
 | done a=>intro w;exact Aqr _
 | ask what range k ih =>
  intro w;simp only[World.ask];split
  ·exact ih _ w
  ·exact AqE (Nat.le_succ _) (ih _ { w with drawn:=w.drawn+1 })
theorem KI {p:Program} {w w':World} {a b:Addr} {u:TypeId} {v:Value} {at':Bool} {l:List Addr} (h:w.viewStore p a u b v at'=.ok (w',l)):w'.drawn=w.drawn:=by
 unfold World.viewStore at h;simp only[bind,Except.bind,pure,Except.pure] at h
 repeat' split at h
 all_goals first | (cases h;done) | (cases h;rfl) | skip
theorem Abm {α:Type} {P:Program} (s:Sem α):∀ {w w':World} {x:α},s.run P w=.ok x w'→w.drawn≤w'.drawn:=by
 induction s with
 | pure a=>intro w w' x h;cases h;exact Aqr _
 | load m a k ih =>
  intro w w' x h;simp only[Sem.run] at h;split at h
  ·exact ih _ h
  ·split at h
   ·exact ih _ h
   ·cases h
 | store m a v k ih =>
  intro w w' x h;have far:∀ {w1:World} {l:List Addr},w.farStore P a v (m==Mode.atomic)=.ok (w1,l)→w1.drawn=w.drawn:=by
   intro w1 l hf;unfold World.farStore at hf;split at hf
   ·split at hf
    ·rename_i hv;cases hf;exact KI hv
    ·cases hf
   ·cases hf
  have main:(match w.cell? a with
    | some _=>if w.frozen? a then Result.halt (.unsupported (.unsafePointer "a write to bytes that a string shares")) w else k.run P (w.setCell a v)
    | none=>match w.farStore P a v (m==Mode.atomic) with
     | .ok (w,_)=>k.run P w
     | .error h=>.halt h w)=.ok x w'→w.drawn≤w'.drawn:=by
   intro h;split at h
   ·split at h
    ·cases h
    ·exact ih (w:=w.setCell a v) h
   ·split at h
    ·rename_i w1 l hf;rw[← far hf];exact ih h
    ·cases h
  cases v
  case agg=>cases h
  case tuple=>cases h
  all_goals (simp only[Sem.run] at h;exact main h)
 | new o k ih=>intro w w' x h;exact ih _ (w:={ w with heap:=w.heap.push o }) h
 | shape r k ih=>intro w w' x h;exact ih _ h
 | freeze a n k ih =>
  intro w w' x h;have:(w.freeze a n).drawn=w.drawn:=by unfold World.freeze;split<;>rfl
  rw[← this];exact ih h
 | frozen a k ih=>intro w w' x h;exact ih _ h
 | getObj r k ih =>
  intro w w' x h;simp only[Sem.run] at h;split at h
  ·cases h
  ·exact ih _ h
  ·cases h
 | setObj r o k ih =>
  intro w w' x h;simp only[Sem.run] at h;split at h
  ·cases h
  ·exact ih (w:={ w with heap:=w.heap.setIfInBounds r o }) h
  ·cases h
 | choose q k ih =>
  intro w w' x h;simp only[Sem.run] at h;split at h
  ·exact ih _ h
  ·exact AqE (Nat.le_succ _) (ih _ h)
 | sys c k ih =>
  intro w w' x h;simp only[Sem.run] at h;refine AqE ?_ (ih _ h);unfold World.sys;have:=Abl (Kernel.perform c w.os) w;split
  ·exact Aqr _
  ·rename_i e;rw[e] at this;exact this
 | program k ih=>intro w w' x h;exact ih _ h
 | mark m k ih=>intro w w' x h;exact ih h
 | halt h'=>intro w w' x h;cases h
class CW where
 f:World→Nat
 mono:∀ {w w':World},w.drawn≤w'.drawn→f w≤f w'
abbrev cwD:CW:=⟨fun w=>w.drawn,fun h=>h⟩
abbrev cwZ:CW:=⟨fun _=>0,fun _=>Aqr 0⟩
abbrev Hw [CW] (w:World):Nat:=CW.f w
theorem Ru [CW] {α:Type} {P:Program} (s:Sem α) {w w':World} {x:α} (h:s.run P w=.ok x w'):Hw w≤Hw w':=CW.mono (Abm s h)
theorem AfT [CW] (w:World):Hw w≤Hw { w with drawn:=w.drawn+1 }:=CW.mono (Nat.le_succ w.drawn)
structure ZQ [CW] (w w':World):Prop where
 drawn:Hw w≤Hw w'
 os:w'.os=w.os
 tape:w'.tape=w.tape
 output:w'.output=w.output
 size:w.heap.size≤w'.heap.size
 block:∀ k,k<w.heap.size→w'.heap[k]? = w.heap[k]?
structure Ni (w w':World):Prop where
 drawn:w.drawn≤w'.drawn
 os:w'.os=w.os
 tape:w'.tape=w.tape
 output:w'.output=w.output
 size:w.heap.size≤w'.heap.size
 block:∀ k,k<w.heap.size→w'.heap[k]? = w.heap[k]?
theorem Ni.ofD {w w':World} (h:@ZQ cwD w w'):Ni w w':=by
 obtain⟨h1,h2,h3,h4,h5,h6⟩:=h;exact⟨h1,h2,h3,h4,h5,h6⟩
theorem ZQ.below [CW] {w w':World} (h:ZQ w w'):Below w.heap.size w w':=⟨h.os,h.tape,h.output,h.size,h.block⟩
def Ay (ag:Bool) (cs:List Value):Value:=bif ag then .agg cs.toArray else cs.headD undef
abbrev EB (s:Sh) (cs:List Value):Value:=Ay s.agg cs

def J2 {α:Type} (R:α→List Value→Prop) (sz:Nat) (w:World) (F:FP) (A:Option Addr) (n:Nat) (xs:List α):Prop :=
 xs.length=n∧(0<n→∃ ad,A=some ad∧F ad.block∧∀ j x,xs[j]? = some x→∃ cs,R x cs∧cs.length=sz∧∀ i u,cs[i]? = some u→w.cell? (ad.add (j*sz+i))=some u)
def Cs (P:Program) (f:FuncId):Prop:=∃ fn,P.funcs[f]? = some fn∧fn.body.isSome=true∧(fn.name == "runtime.NumGoroutine")=false
section
variable (P:Program)
def RC:(s:Sh)→World→FP→s.T→List Value→Prop
 | .int k,_,_,n,cs=>cs=[.int k n]
 | .bool,_,_,b,cs=>cs=[.bool b]
 | .str,_,_,b,cs=>cs=[.string b]
 | .list _ s,w,F,xs,cs=>∃ A n c,cs=[.slice A n c]∧n≤c∧J2 (RC s w F) s.n w F A n xs
 | .cons a b,w,F,x,cs=>∃ c1 c2,cs=c1++c2∧RC a w F x.1 c1∧RC b w F x.2 c2
 | .fn1 a r,w,F,φ,cs=>r.flat=true∧∃ g caps,cs=[.func (.func g) #[] caps]∧Cs P g∧∀ w',Ed F w w'→∀ x ca Fa,(∀ k,Fa k→k<w'.heap.size)→RC a w' Fa x ca→∀ y,φ x=some y →
   Calls P g (#[EB a ca]++caps) w' fun e w''=>∃ cr,e=.returned (EB r cr)∧RC r w'' (fun _=>False) y cr∧Ni w' w''
 | .fn2 a b r,w,F,φ,cs=>r.flat=true∧∃ g caps,cs=[.func (.func g) #[] caps]∧Cs P g∧∀ w',Ed F w w'→∀ x ca Fa,(∀ k,Fa k→k<w'.heap.size)→RC a w' Fa x ca→∀ y cb Fb,(∀ k,Fb k→k<w'.heap.size)→RC b w' Fb y cb→∀ z,φ x y=some z →
   Calls P g (#[EB a ca,EB b cb]++caps) w' fun e w''=>∃ cr,e=.returned (EB r cr)∧RC r w'' (fun _=>False) z cr∧Ni w' w''
 | .ol _ s,w,F,x,cs=>match x with
  | some xs=>∃ A n c,cs=[.slice A n c]∧n≤c∧J2 (RC s w F) s.n w F A n xs
  | none=>∃ u,cs=[u]∧u.oneCell'=true
def DA (e:Nat) (s:Sh) (w:World) (F:FP) (v:Value) (xs:List s.T):Prop:=RC P (.list e s) w F xs [v]

def CZ {α:Type} (M:FP→α→List Value→Prop) (e sz:Nat) (w:World) (F:FP) (v:Value) (xs:List α):Prop :=
 ∃ css:List (List Value),w.ownsRow 0 e sz v xs.length css.flatten∧css.length=xs.length∧(∀ c∈css,c.length=sz∧∀ u∈c,u.oneCell'=true)∧(∀ g,v.ownBlock=some g→F g) ∧
  ∃ G:Nat→FP,(∀ j k,G j k→F k∧v.ownBlock≠some k)∧(∀ i j k,i≠j→G i k→¬ G j k)∧∀ j x c,xs[j]? = some x→css[j]? = some c→M (G j) x c
def OC:(s:Sh)→World→FP→s.T→List Value→Prop
 | .int k,_,_,n,cs=>cs=[.int k n]
 | .bool,_,_,b,cs=>cs=[.bool b]
 | .str,_,_,b,cs=>cs=[.string b]
 | .list e s,w,F,xs,cs=>∃ v,cs=[v]∧CZ (OC s w) e s.n w F v xs
 | .cons a b,w,F,x,cs=>∃ c1 c2,cs=c1++c2∧∃ G H:FP,(∀ k,G k→F k)∧(∀ k,H k→F k)∧(∀ k,G k→¬ H k)∧OC a w G x.1 c1∧OC b w H x.2 c2
 | .ol e s,w,F,x,cs=>match x with
  | some xs=>∃ v,cs=[v]∧CZ (OC s w) e s.n w F v xs
  | none=>∃ u,cs=[u]∧u.oneCell'=true
 | _,_,_,_,_=>False
def Bq (e:Nat) (s:Sh) (w:World) (F:FP) (v:Value) (xs:List s.T):Prop:=CZ (OC s w) e s.n w F v xs
end
variable {P:Program}
theorem Sh.n_pos:(s:Sh)→0<s.n
 | .cons a b=>by have:=a.n_pos;simp only[Sh.n];omega
 | .int _ | .bool | .str | .list _ _ | .fn1 _ _ | .fn2 _ _ _ | .ol _ _=>by simp[Sh.n]

theorem RC.len:(s:Sh)→∀ {w F x cs},RC P s w F x cs→cs.length=s.n
 | .int _,_,_,_,_,h | .bool,_,_,_,_,h | .str,_,_,_,_,h=>by simp only[RC] at h;subst h;rfl
 | .list _ _,_,_,_,_,h=>by obtain⟨_,_,_,rfl,_⟩:=h;rfl
 | .cons a b,_,_,_,_,h=>by obtain⟨c1,c2,rfl,h1,h2⟩:=h;simp[Sh.n,RC.len a h1,RC.len b h2]
 | .fn1 _ _,_,_,_,_,h | .fn2 _ _ _,_,_,_,_,h=>by obtain⟨_,_,_,rfl,_⟩:=h;rfl
 | .ol _ _,_,_,none,_,h=>by obtain⟨_,rfl,_⟩:=h;rfl
 | .ol _ _,_,_,some _,_,h=>by obtain⟨_,_,_,rfl,_⟩:=h;rfl
theorem RC.one:(s:Sh)→∀ {w F x cs},RC P s w F x cs→∀ u∈cs,u.oneCell'=true
 | .int _,_,_,_,_,h | .bool,_,_,_,_,h | .str,_,_,_,_,h=>by simp only[RC] at h;subst h;simp[Value.oneCell']
 | .list _ _,_,_,_,_,h=>by obtain⟨_,_,_,rfl,_⟩:=h;simp[Value.oneCell']
 | .cons a b,_,_,_,_,h=>by
  obtain⟨c1,c2,rfl,h1,h2⟩:=h;intro u hu;rcases Aqy.1 hu with hu | hu
  ·exact RC.one a h1 u hu
  ·exact RC.one b h2 u hu
 | .fn1 _ _,_,_,_,_,h | .fn2 _ _ _,_,_,_,_,h=>by obtain⟨_,_,_,rfl,_⟩:=h;simp[Value.oneCell']
 | .ol _ _,_,_,none,_,h=>by obtain⟨_,rfl,h⟩:=h;simpa using h
 | .ol _ _,_,_,some _,_,h=>by obtain⟨_,_,_,rfl,_⟩:=h;simp[Value.oneCell']
theorem J2.imp {α:Type} {R R':α→List Value→Prop} {sz:Nat} {w w':World} {F F':FP} {A:Option Addr} {n:Nat} {xs:List α} (h:J2 R sz w F A n xs)
  (hF:∀ k,F k→F' k) (hw:∀ a:Addr,F a.block→w'.cell? a=w.cell? a) (hR:∀ x cs,x∈xs→R x cs→R' x cs):J2 R' sz w' F' A n xs:=by
 refine⟨h.1,fun hn=>?_⟩;obtain⟨ad,ha,hf,hc⟩:=h.2 hn;refine⟨ad,ha,hF _ hf,fun j x hx=>?_⟩;obtain⟨cs,h1,h2,h3⟩:=hc j x hx;refine⟨cs,hR _ _ (AqH hx) h1,h2,fun i u hu=>?_⟩;rw[hw _ (by unfold Addr.add;split<;>exact hf)]
 exact h3 i u hu
theorem RC.same:(s:Sh)→∀ {w w' F x cs},Ed F w w'→RC P s w F x cs→RC P s w' F x cs
 | .int _,_,_,_,_,_,_,h | .bool,_,_,_,_,_,_,h | .str,_,_,_,_,_,_,h=>h
 | .list _ s,_,_,_,_,_,hs,h=>by
  obtain⟨A,n,c,rfl,hn,h⟩:=h;exact⟨A,n,c,rfl,hn,h.imp (fun _ h=>h) (fun a ha=>hs.cell ha) fun _ _ _ h=>RC.same s hs h⟩
 | .cons a b,_,_,_,_,_,hs,h=>by
  obtain⟨c1,c2,rfl,h1,h2⟩:=h;exact⟨c1,c2,rfl,RC.same a hs h1,RC.same b hs h2⟩
 | .fn1 _ _,_,_,_,_,_,hs,h=>by
  obtain⟨hf,g,caps,rfl,hr,h⟩:=h;exact⟨hf,g,caps,rfl,hr,fun w' h'=>h w' (hs.trans h')⟩
 | .fn2 _ _ _,_,_,_,_,_,hs,h=>by
  obtain⟨hf,g,caps,rfl,hr,h⟩:=h;exact⟨hf,g,caps,rfl,hr,fun w' h'=>h w' (hs.trans h')⟩
 | .ol _ _,_,_,_,none,_,_,h=>h
 | .ol _ s,_,_,_,some _,_,hs,h=>by
  obtain⟨A,n,c,rfl,hn,h⟩:=h;exact⟨A,n,c,rfl,hn,h.imp (fun _ h=>h) (fun a ha=>hs.cell ha) fun _ _ _ h=>RC.same s hs h⟩
theorem RC.mono:(s:Sh)→∀ {w F F' x cs},(∀ k,F k→F' k)→RC P s w F x cs→RC P s w F' x cs
 | .int _,_,_,_,_,_,_,h | .bool,_,_,_,_,_,_,h | .str,_,_,_,_,_,_,h=>h
 | .list _ s,_,_,_,_,_,hF,h=>by
  obtain⟨A,n,c,rfl,hn,h⟩:=h;exact⟨A,n,c,rfl,hn,h.imp hF (fun a _=>rfl) fun _ _ _ h=>RC.mono s hF h⟩
 | .cons a b,_,_,_,_,_,hF,h=>by
  obtain⟨c1,c2,rfl,h1,h2⟩:=h;exact⟨c1,c2,rfl,RC.mono a hF h1,RC.mono b hF h2⟩
 | .fn1 _ _,_,_,_,_,_,hF,h=>by
  obtain⟨hf,g,caps,rfl,hr,h⟩:=h;exact⟨hf,g,caps,rfl,hr,fun w' h'=>h w' (h'.mono hF)⟩
 | .fn2 _ _ _,_,_,_,_,_,hF,h=>by
  obtain⟨hf,g,caps,rfl,hr,h⟩:=h;exact⟨hf,g,caps,rfl,hr,fun w' h'=>h w' (h'.mono hF)⟩
 | .ol _ _,_,_,_,none,_,_,h=>h
 | .ol _ s,_,_,_,some _,_,hF,h=>by
  obtain⟨A,n,c,rfl,hn,h⟩:=h;exact⟨A,n,c,rfl,hn,h.imp hF (fun a _=>rfl) fun _ _ _ h=>RC.mono s hF h⟩

theorem CZ.imp {α:Type} {M M':FP→α→List Value→Prop} {e sz:Nat} {w w':World} {F F':FP} {v:Value} {xs:List α} (h:CZ M e sz w F v xs)
  (hF:∀ k,F k→F' k) (hw:∀ k,v.ownBlock=some k→w'.heap[k]? = w.heap[k]?) (hM:∀ G x c,(∀ k,G k→F k)→M G x c→M' G x c):CZ M' e sz w' F' v xs:=by
 obtain⟨css,ho,hl,hc,hb,G,hG,hd,hm⟩:=h;refine⟨css,?_,hl,hc,fun g hg=>hF _ (hb g hg),G,fun j k hk=>⟨hF _ (hG j k hk).1,(hG j k hk).2⟩,hd,fun j x c hx hc'=>hM _ _ _ (fun k hk=>(hG j k hk).1) (hm j x c hx hc')⟩;refine⟨ho.1,?_⟩;rcases ho.2 with h0 | ⟨g,cap,cur,rfl,hb0,hg,rest⟩
 ·exact .inl h0
 ·exact .inr ⟨g,cap,cur,rfl,hb0,(hw g rfl).trans hg,rest⟩
theorem OC.same:(s:Sh)→∀ {w w' F x cs},(∀ k,F k→w'.heap[k]? = w.heap[k]?)→OC s w F x cs→OC s w' F x cs
 | .int _,_,_,_,_,_,_,h | .bool,_,_,_,_,_,_,h | .str,_,_,_,_,_,_,h=>h
 | .list e s,_,_,F,_,_,hs,h=>by
  obtain⟨v,rfl,h⟩:=h;have hb:∀ g,v.ownBlock=some g→F g:=by obtain⟨_,_,_,_,hb,_⟩:=h;exact hb
  exact⟨v,rfl,h.imp (fun _ h=>h) (fun k hk=>hs k (hb k hk)) fun G x c hG h=>OC.same s (fun k hk=>hs k (hG k hk)) h⟩
 | .cons a b,_,_,_,_,_,hs,h=>by
  obtain⟨c1,c2,rfl,G,H,hG,hH,hd,h1,h2⟩:=h;exact⟨c1,c2,rfl,G,H,hG,hH,hd,OC.same a (fun k hk=>hs k (hG k hk)) h1,OC.same b (fun k hk=>hs k (hH k hk)) h2⟩
 | .ol _ _,_,_,_,none,_,_,h=>h
 | .ol e s,_,_,F,some _,_,hs,h=>by
  obtain⟨v,rfl,h⟩:=h;have hb:∀ g,v.ownBlock=some g→F g:=by obtain⟨_,_,_,_,hb,_⟩:=h;exact hb
  exact⟨v,rfl,h.imp (fun _ h=>h) (fun k hk=>hs k (hb k hk)) fun G x c hG h=>OC.same s (fun k hk=>hs k (hG k hk)) h⟩
theorem OC.mono:(s:Sh)→∀ {w F F' x cs},(∀ k,F k→F' k)→OC s w F x cs→OC s w F' x cs
 | .int _,_,_,_,_,_,_,h | .bool,_,_,_,_,_,_,h | .str,_,_,_,_,_,_,h=>h
 | .list e s,_,_,_,_,_,hF,h=>by
  obtain⟨v,rfl,h⟩:=h;exact⟨v,rfl,h.imp hF (fun _ _=>rfl) fun _ _ _ _ h=>h⟩
 | .cons a b,_,_,_,_,_,hF,h=>by
  obtain⟨c1,c2,rfl,G,H,hG,hH,hd,h1,h2⟩:=h;exact⟨c1,c2,rfl,G,H,fun k hk=>hF k (hG k hk),fun k hk=>hF k (hH k hk),hd,h1,h2⟩
 | .ol _ _,_,_,_,none,_,_,h=>h
 | .ol _ _,_,_,_,some _,_,hF,h=>by
  obtain⟨v,rfl,h⟩:=h;exact⟨v,rfl,h.imp hF (fun _ _=>rfl) fun _ _ _ _ h=>h⟩
theorem OC.len:(s:Sh)→∀ {w F x cs},OC s w F x cs→cs.length=s.n
 | .int _,_,_,_,_,h | .bool,_,_,_,_,h | .str,_,_,_,_,h=>by simp only[OC] at h;subst h;rfl
 | .list _ _,_,_,_,_,h=>by obtain⟨_,rfl,_⟩:=h;rfl
 | .cons a b,_,_,_,_,h=>by obtain⟨c1,c2,rfl,G,H,_,_,_,h1,h2⟩:=h;simp[Sh.n,OC.len a h1,OC.len b h2]
 | .ol _ _,_,_,none,_,h=>by obtain⟨_,rfl,_⟩:=h;rfl
 | .ol _ _,_,_,some _,_,h=>by obtain⟨_,rfl,_⟩:=h;rfl
theorem BO {w:World} {b e sz:Nat} {v:Value} {n:Nat} {xs:List Value} (h:w.ownsRow b e sz v n xs):∃ A c,v=.slice A n c∧n≤c:=by
 rcases h.2 with ⟨rfl,rfl⟩ | ⟨g,cap,cur,rfl,_,_,hn,_⟩
 ·exact⟨none,0,rfl,Aqr _⟩
 ·exact⟨_,cap,rfl,hn⟩
theorem Et {css:List (List Value)} {sz:Nat} (h:∀ c∈css,c.length=sz):∀ {j:Nat} {c:List Value},css[j]? = some c→∀ i u,c[i]? = some u→css.flatten[j*sz+i]? = some u:=by
 induction css with
 | nil=>intro j c hc;simp at hc
 | cons d r ih =>
  intro j c hc i u hu;have hd:=h d (by simp)
  cases j with
  | zero =>
   simp at hc;subst hc;rw[AqI,Nat.zero_mul,AqQ,AqS]
   ·exact hu
   ·exact (Aqz.1 hu).1
  | succ j =>
   rw[AqI,AqB (by rw[hd,Ard];omega),hd]
   have:=ih (fun c hc=>h c (by simp[hc])) (by simpa using hc) i u hu
   rw[← this];congr 1;rw[Ard];omega
theorem C1 (g j:Nat):(⟨g,0,none⟩:Addr).add j=⟨g,j,none⟩:=by unfold Addr.add;split<;>simp_all
theorem CZ.reads {α:Type} {M:FP→α→List Value→Prop} {R:α→List Value→Prop} {e sz:Nat} {w:World} {F:FP} {v:Value} {xs:List α} (h:CZ M e sz w F v xs)
  (hM:∀ G x c,(∀ k,G k→F k)→M G x c→R x c):∃ A c,v=.slice A xs.length c∧xs.length≤c∧J2 R sz w F A xs.length xs:=by
 obtain⟨css,ho,hl,hc,hb,G,hG,hd,hm⟩:=h;obtain⟨A,c,rfl,hle⟩:=BO ho;refine⟨A,c,rfl,hle,rfl,fun hn=>?_⟩;rcases ho.2 with ⟨_,h0⟩ | ⟨g,cap,cur,hv,_⟩
 ·omega
 ·injection hv with hA _ hcap;subst hA;subst hcap;refine⟨_,rfl,hb g rfl,fun j x hx=>?_⟩;have hj:j<css.length:=by rw[hl];exact (Aqz.1 hx).1
  have hcj:css[j]? = some css[j]:=Aqo hj;refine⟨css[j],hM _ _ _ (fun k hk=>(hG j k hk).1) (hm j x _ hx hcj),(hc _ (ArV hj)).1,fun i u hu=>?_⟩;exact ho.cells (g:=g) rfl _ _ (Et (fun c hc'=>(hc c hc').1) hcj i u hu)
theorem OC.read:(s:Sh)→∀ {w F x cs},OC s w F x cs→RC P s w F x cs
 | .int _,_,_,_,_,h | .bool,_,_,_,_,h | .str,_,_,_,_,h=>h
 | .list e s,_,_,_,_,h=>by
  obtain⟨v,rfl,h⟩:=h;obtain⟨A,c,rfl,hle,hr⟩:=h.reads (R:=RC P s _ _) fun G x c hG h=>RC.mono s hG (OC.read s h);exact⟨A,_,c,rfl,hle,hr⟩
 | .cons a b,_,_,_,_,h=>by
  obtain⟨c1,c2,rfl,G,H,hG,hH,hd,h1,h2⟩:=h;exact⟨c1,c2,rfl,RC.mono a hG (OC.read a h1),RC.mono b hH (OC.read b h2)⟩
 | .ol _ _,_,_,none,_,h=>h
 | .ol e s,_,_,some _,_,h=>by
  obtain⟨v,rfl,h⟩:=h;obtain⟨A,c,rfl,hle,hr⟩:=h.reads (R:=RC P s _ _) fun G x c hG h=>RC.mono s hG (OC.read s h);exact⟨A,_,c,rfl,hle,hr⟩
theorem OC.one (P:Program) (s:Sh) {w F x cs} (h:OC s w F x cs):∀ u∈cs,u.oneCell'=true:=RC.one (P:=P) s (OC.read s h)
theorem Bq.read {e:Nat} {s:Sh} {w:World} {F:FP} {v:Value} {xs:List s.T} (h:Bq e s w F v xs):DA P e s w F v xs:=OC.read (.list e s) ⟨v,rfl,h⟩
theorem Bq.same {e:Nat} {s:Sh} {w w':World} {F:FP} {v:Value} {xs:List s.T} (hs:∀ k,F k→w'.heap[k]? = w.heap[k]?) (h:Bq e s w F v xs):Bq e s w' F v xs:=by
 obtain⟨u,hu,h'⟩:=OC.same (.list e s) hs ⟨v,rfl,h⟩;injection hu with hu;exact hu▸h'
theorem Bq.mono {e:Nat} {s:Sh} {w:World} {F F':FP} {v:Value} {xs:List s.T} (hs:∀ k,F k→F' k) (h:Bq e s w F v xs):Bq e s w F' v xs:=by
 obtain⟨u,hu,h'⟩:=OC.mono (.list e s) hs ⟨v,rfl,h⟩;injection hu with hu;exact hu▸h'
theorem RC.flat:(s:Sh)→s.flat=true→∀ {w w' F F' x cs},RC P s w F x cs→RC P s w' F' x cs
 | .int _,_,_,_,_,_,_,_,h | .bool,_,_,_,_,_,_,_,h | .str,_,_,_,_,_,_,_,h=>h
 | .cons a b,hf,_,_,_,_,_,_,h=>by
  simp only[Sh.flat,Aql] at hf;obtain⟨c1,c2,rfl,h1,h2⟩:=h;exact⟨c1,c2,rfl,RC.flat a hf.1 h1,RC.flat b hf.2 h2⟩
theorem RC.flatOC:(s:Sh)→s.flat=true→∀ {w w' F x cs},RC P s w F x cs→OC s w' (fun _=>False) x cs
 | .int _,_,_,_,_,_,_,h | .bool,_,_,_,_,_,_,h | .str,_,_,_,_,_,_,h=>h
 | .cons a b,hf,_,_,_,_,_,h=>by
  simp only[Sh.flat,Aql] at hf;obtain⟨c1,c2,rfl,h1,h2⟩:=h;exact⟨c1,c2,rfl,_,_,fun _ h=>h,fun _ h=>h,fun _ h=>h.elim,RC.flatOC a hf.1 h1,RC.flatOC b hf.2 h2⟩
end Go.Proofs.YteheolldcpjkcaaGreat.X
