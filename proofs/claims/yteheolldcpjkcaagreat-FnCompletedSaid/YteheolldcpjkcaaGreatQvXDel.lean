/- slices.DeleteFunc at rows of rows, under a predicate that may lay blocks: its body, walked. -/
import Derived.Test.YteheolldcpjkcaaGreatQvXLib
import Derived.Shelf.SlicesE.DeleteFunc
import Derived.Shelf.SlSortCmp.Kit1
import Derived.Shelf.SlSortFuncK.RowK2
set_option linter.unusedSimpArgs false
set_option linter.unusedVariables false
set_option linter.unusedSectionVars false
namespace Go.Proofs.YteheolldcpjkcaaGreat.X
open Go Go.RowKit Go.Lib Go.Sort Go.Shelf
section walk
variable {P:Program} {ρ:Go.Shelf.Ren} {α:Type} [Inhabited α]
theorem Am7 {enc:α→Value} {w0 W:World} {blk off:Nat} {dk:Array α} (h:SW enc w0 blk off dk W) (hb:blk<w0.heap.size) (i:Nat) (x:α) (hi:i<dk.size):SW enc w0 blk off (dk.setIfInBounds i x) (W.setCell ⟨blk,off+i,none⟩ (enc x)):=by
 obtain⟨m,os,rfl⟩:=h;refine⟨m,os,?_⟩;unfold sortWorld;rw[setCell_grow _ _ _ _ _ (by rw[size_putRow];exact hb),putRow_set enc _ blk off dk i x hi]
theorem Am8 {enc:α→Value} {w0 W:World} {blk off:Nat} {dk:Array α} (h:SW enc w0 blk off dk W) (hb:blk<w0.heap.size) (k:Nat) (xs:List α) (hk:k+xs.length≤dk.size):SW enc w0 blk off (lay dk k xs) (W.setCells blk (off+k) (xs.map enc)):=by
 obtain⟨m,os,rfl⟩:=h;refine⟨m,os,?_⟩;unfold sortWorld;rw[setCells_grow _ _ _ _ _ (by rw[size_putRow];exact hb),putRow_setCells enc _ blk off xs dk k hk]
def T5 (P:Program) (g:Nat) (lb:Array Value) (enc:α→Value) (p:α→Bool) (blk off:Nat) (d:Array α) (w:World):Prop :=
 ∀ (dk:Array α) (W:World),dk.size=d.size→SW enc w blk off dk W→∀ j,j<d.size→Calls P g (#[enc d[j]!]++lb) W fun e w'=>e=.returned (.bool (p d[j]!))∧SW enc w blk off dk w'
set_option maxHeartbeats 4000000 in
theorem Afp (L:SlLaysH.n6 P ρ) (enc:α→Value) (p:α→Bool) (g:Nat) (lb:Array Value) (eg:∀ args w,(callFunc g args).run P w=.ok (.enter g args) w) (blk off cap:Nat) (d:Array α) (w:World)
  (hp:T5 P g lb enc p blk off d w) (hH:Go.Sort.Holds enc w blk off d) (hblk:blk<w.heap.size) (hbig:d.size≤9223372036854775807) :
  Calls P (ρ.f 6) #[.slice (some ⟨blk,off,none⟩) d.size cap,.func (.func g) #[] lb] w fun e w'=>e=.returned (.int .i64 (Lib.idxBy (fun _ y=>p y) d.toList default))∧SW enc w blk off d w':=by
 have mixed:=L.mixed;have t0:=L.t0;have a0:=L.a0;have z0:=L.z0;have v0:=L.v0;have t3:=L.t3;have a3:=L.a3;have z3:=L.z3;have v3:=L.v3;have t4:=L.t4;have a4:=L.a4;have z4:=L.z4;have v4:=L.v4;have t22:=L.t22;have a22:=L.a22;have z22:=L.z22;have v22:=L.v22;have a23:=L.a23;have z23:=L.z23;have t25:=L.t25;have a25:=L.a25;have z25:=L.z25;have v25:=L.v25
 have tl:∀ j,j<d.size→d.toList[j]! = d[j]!:=fun j hj=>by rw[getElem!_pos d j hj,getElem!_pos d.toList j (by simpa using hj)];simp
 have HP:Aside (T5 P g lb enc p blk off d w):=hp;have HH:Aside (Go.Sort.Holds enc w blk off d):=hH;have HS:Aside (SW enc w blk off d w):=SW.start hH;clear hp hH;obtain⟨_,_,FG⟩:=L.f6
 go_enter FG,SlBodyH.n6_ntmps ρ
 go_wp2
 go_loopg [5,8] d.size (fun gg _ s8 wr=>∃ kk:Nat,kk≤d.size∧d.size-kk≤gg∧s8=.int .i64 kk∧Aside (SW enc w blk off d wr)∧Aside (∀ j,j<kk→p d[j]! = false))
 case atStart=>exact⟨0,Ari _,by omega,rfl,HS,fun j hj=>absurd hj (Nat.not_lt_zero _)⟩
 case round =>
  obtain⟨kk,hkk,hg,rfl,S,A⟩:=hrel;by_cases hlt:kk<d.size
  ·have hltz:(kk:Int)<(d.size:Int):=by omega
   have hcell:=(S.out.holds hblk HH.out rfl kk hlt).1;have hcall:=HP.out d _ rfl S.out kk hlt;generalize hy:d[kk]! = y at hcell hcall;have B:Aside (d[kk]! = y):=hy;clear hy;cases hq:p y with
   | true =>
    rw[hq] at hcall
    go_wp2_with (go_at_fn g;refine hcall.mono ?_;rintro e w' ⟨rfl,hw'⟩)
    go_ret
    refine⟨?_,hw'⟩;have:=Lib.idxBy_hit (fun _ y=>p y) d.toList d.size kk default hlt (by simp) (by show p d.toList[kk]! = true;rw[tl kk hlt,B.out];exact hq) (fun j hj=>by show p d.toList[j]! = false;rw[tl j (by omega)];exact A.out j hj)
    rw[AqX (by simp)] at this
    rw[this];rfl
   | false =>
    rw[hq] at hcall
    go_wp2_with (go_at_fn g;refine hcall.mono ?_;rintro e w' ⟨rfl,hw'⟩)
    go_roundg (d.size-(kk+1))
    case measure=>omega
    case rel =>
     refine⟨kk+1,by omega,by omega,by go_num,hw',(show Aside _ from fun j hj=>?_)⟩
     by_cases e:j=kk
     ·subst e;rw[B.out];exact hq
     ·exact A.out j (by omega)
  ·have hltz:¬ (kk:Int)<(d.size:Int):=by omega
   have:kk=d.size:=by omega
   subst this
   go_wp2
   go_ret
   refine⟨?_,S.out⟩;have:=Lib.idxBy_miss (fun _ y=>p y) d.toList d.size default (fun j hj=>by show p d.toList[j]! = false;rw[tl j hj];exact A.out j hj)
   rw[AqX (by simp)] at this
   rw[this];rfl
set_option maxHeartbeats 4000000 in
set_option maxRecDepth 1000000 in
theorem Afq (L:SlLaysH.n10 P ρ) (enc:α→Value) (hO:OneCell enc) (p:α→Bool) (g:Nat) (lb:Array Value) (eg:∀ args w,(callFunc g args).run P w=.ok (.enter g args) w) (zr:α) (v23:∀ w,(zeroValue (ρ.t 23)).run P w=.ok (enc zr) w)
  (blk off cap:Nat) (d:Array α) (w:World) (hp:T5 P g lb enc p blk off d w) (hH:Go.Sort.Holds enc w blk off d) (hblk:blk<w.heap.size) (hsz:d.size≤9223372036854775807) (hcap:d.size≤cap) :
  Calls P (ρ.f 10) #[.slice (some ⟨blk,off,none⟩) d.size cap,.func (.func g) #[] lb] w fun e w'=>e=.returned (.slice (some ⟨blk,off,none⟩) (d.toList.filter fun x=>!p x).length cap)∧∃ dk,SW enc w blk off dk w'∧dk.size=d.size∧dk.toList.take (d.toList.filter fun x=>!p x).length=d.toList.filter fun x=>!p x:=by
 have mixed:=L.mixed;have t0:=L.t0;have a0:=L.a0;have z0:=L.z0;have v0:=L.v0;have t3:=L.t3;have a3:=L.a3;have z3:=L.z3;have v3:=L.v3;have t4:=L.t4;have a4:=L.a4;have z4:=L.z4;have v4:=L.v4;have t22:=L.t22;have a22:=L.a22;have z22:=L.z22;have v22:=L.v22;have a23:=L.a23;have z23:=L.z23;have t25:=L.t25;have a25:=L.a25;have z25:=L.z25;have v25:=L.v25
 have e6:∀ args w,(callFunc (ρ.f 6) args).run P w=.ok (.enter (ρ.f 6) args) w:=L.f6.enters rfl;have hcl0:=hO.cells;simp only[Value.cells] at hcl0;have hst:=hO.store P;have tl:∀ j,j<d.size→d.toList[j]! = d[j]!:=fun j hj=>by rw[getElem!_pos d j hj,getElem!_pos d.toList j (by simpa using hj)];simp
 have hIF:=Afp (P:=P) (ρ:=ρ) { L with } enc p g lb eg blk off cap d w hp hH hblk hsz
 obtain⟨kp,HK⟩:∃ kp:Nat→Bool,Hid (kp=fun j=>!p d[j]!):=⟨_,rfl⟩;have hfil:(d.toList.filter fun x=>!p x)=keptUpTo kp d d.size:=by rw[HK.out];exact (keptUpTo_filter (fun x=>!p x) d).symm
 rw[hfil];rcases idxByFrom_spec (fun _ y=>p y) default d.toList 0 with ⟨e1,hall⟩ | ⟨k0,hk0,e1,ht,hall⟩
 ·have e2:Lib.idxBy (fun _ y=>p y) d.toList default = -1:=e1;rw[e2] at hIF;have hkeep:∀ j,j<d.size→kp j=true:=fun j hj=>by rw[HK.out];show (!p d[j]!)=true;rw[← tl j hj,hall j (by simpa using hj)];rfl
  have e3:keptUpTo kp d d.size=d.toList:=by rw[keptUpTo_all kp d _ hkeep,range_map_get]
  clear hp hH;obtain⟨_,_,FG⟩:=L.f10
  go_enter FG,SlBodyH.n10_ntmps ρ
  go_wp2_with (go_at_fn (ρ.f 6);refine hIF.mono ?_;rintro e w' ⟨rfl,hw'⟩)
  go_ret
  rw[e3];exact⟨by simp,d,hw',rfl,AqX (by simp)⟩
 ·have hk0':k0<d.size:=by simpa using hk0
  have e2:Lib.idxBy (fun _ y=>p y) d.toList default=(k0:Int):=by unfold Lib.idxBy;rw[e1];simp
  rw[e2] at hIF;have hkeep:∀ j,j<k0→kp j=true:=fun j hj=>by rw[HK.out];show (!p d[j]!)=true;rw[← tl j (by omega),hall j hj];rfl
  have hdrop:kp k0=false:=by rw[HK.out];show (!p d[k0]!)=false;rw[← tl k0 hk0'];rw[show p d.toList[k0]! = true from ht];rfl
  have hne1:((k0:Int) == -1)=false:=beq_eq_false_iff_ne.2 (by omega)
  have HP:Aside (T5 P g lb enc p blk off d w):=hp;have HH:Aside (Go.Sort.Holds enc w blk off d):=hH;clear hp hH hall ht e1 e2 tl;obtain⟨_,_,FG⟩:=L.f10
  go_enter FG,SlBodyH.n10_ntmps ρ
  go_wp2_with (go_at_fn (ρ.f 6);refine hIF.mono ?_;rintro e w1 ⟨rfl,hw1⟩)
  go_loopg [5,6,7] d.size (fun gg s5 s6 _ wr=>∃ (i j:Nat) (dk:Array α),s5=.int .i64 i∧s6=.int .i64 j∧j≤d.size∧d.size-j≤gg∧Aside (SW enc w blk off dk wr)∧Aside (KeptInv kp d j i dk))
  case atStart=>exact⟨k0,k0+1,d,rfl,by go_num,by omega,by omega,hw1,KeptInv.start hkeep hdrop⟩
  case round =>
   obtain⟨i,j,dk,rfl,rfl,hjd,hgg,W2,I2⟩:=hrel;have hI:=I2.out;have hij:=hI.lt;have hds:=hI.size;have hHk:=W2.out.holds hblk HH.out hds;by_cases hlt:j<d.size
   ·have hltz:(j:Int)<(d.size:Int):=by omega
    obtain⟨cj,_⟩:=hHk j (by omega)
    obtain⟨ci,fi⟩:=hHk i (by omega)
    rw[hI.high j (by omega)] at cj
    have hcall:=HP.out dk _ hds W2.out j hlt;clear hHk hI;generalize hu:d[j]! = u at cj hcall;generalize dk[i]! = old at ci;have C:Aside (d[j]! = u):=hu;clear hu;cases hq:p u with
    | false =>
     rw[hq] at hcall
     go_wp2_with (go_at_fn g;refine hcall.mono ?_;rintro e w' ⟨rfl,hw'⟩;obtain⟨ci',fi'⟩:=SW.holds hw' hblk HH.out hds i (by omega);generalize dk[i]! = old' at ci';have hw':Aside _:=hw')
     go_roundg (d.size-(j+1))
     case measure=>omega
     case rel =>
      refine⟨i+1,j+1,dk.setIfInBounds i u,by go_num,by go_num,by omega,Aqr _,Am7 hw'.out hblk i u (by omega),(show Aside _ from ?_)⟩
      have:=I2.out.keep hlt (by rw[HK.out];show (!p d[j]!)=true;rw[C.out,hq];rfl)
      rwa [C.out] at this
    | true =>
     rw[hq] at hcall
     go_wp2_with (go_at_fn g;refine hcall.mono ?_;rintro e w' ⟨rfl,hw'⟩;have hw':Aside _:=hw')
     go_roundg (d.size-(j+1))
     case measure=>omega
     case rel=>exact⟨i,j+1,dk,rfl,by go_num,by omega,Aqr _,hw',I2.out.skip (by rw[HK.out];show (!p d[j]!)=false;rw[C.out,hq];rfl)⟩
   ·obtain rfl:j=d.size:=by omega
    have hltz:¬ (d.size:Int)<(d.size:Int):=by omega
    have hcl:∀ ty,(Builtin.clear_ #[ρ.t 22] ty #[.slice (some ⟨blk,off+i,none⟩) (d.size-i) (cap-i)]).run P wr=.ok (.tuple #[]) (wr.setCells blk (off+i) (List.replicate (d.size-i) (enc zr))) :=
     fun ty=>Lib.run_clear_slice wr _ _ ty _ t22 v23 (hO.cells zr) (hO zr) blk (off+i) _ _ (by omega) (fun t ht=>by rw[show off+i+t=off+(i+t) by omega,(hHk (i+t) (by omega)).1];rfl) (fun t ht=>by rw[show off+i+t=off+(i+t) by omega];exact (hHk (i+t) (by omega)).2)
    clear hHk hI
    go_wp2
    go_ret
    have hI:=I2.out;refine⟨by rw[hI.len];rfl,_,by rw[← List.map_replicate];exact Am8 W2.out hblk i (List.replicate (d.size-i) zr) (by simp;omega),?_,?_⟩
    ·rw[hI.done zr];have:=hI.len;simp only[List.size_toArray,Aqs,Ars];omega
    ·rw[hI.done zr];simp
set_option maxHeartbeats 1000000 in
theorem Aa5 (L:SlLaysH.n10 P ρ) (a:Option Addr) (c:Nat) (fv:Value) (w:World) :
  Calls P (ρ.f 10) #[.slice a 0 c,fv] w fun e w'=>e=.returned (.slice a 0 c)∧w'=w:=by
 have mixed:=L.mixed;have t0:=L.t0;have a0:=L.a0;have z0:=L.z0;have v0:=L.v0;have t3:=L.t3;have a3:=L.a3;have z3:=L.z3;have v3:=L.v3;have t4:=L.t4;have a4:=L.a4;have z4:=L.z4;have v4:=L.v4;have t22:=L.t22;have a22:=L.a22;have z22:=L.z22;have v22:=L.v22;have a23:=L.a23;have z23:=L.z23;have t25:=L.t25;have a25:=L.a25;have z25:=L.z25;have v25:=L.v25
 have e6:∀ args w,(callFunc (ρ.f 6) args).run P w=.ok (.enter (ρ.f 6) args) w:=L.f6.enters rfl;have hIF:=AnyE.slices_IndexFunc_empty (P:=P) (ρ:=ρ) { L with } a c fv w
 obtain⟨_,_,FG⟩:=L.f10
 go_enter FG,SlBodyH.n10_ntmps ρ
 go_wp2_with (go_at_fn (ρ.f 6);refine hIF.mono ?_;rintro e w' ⟨rfl,rfl⟩)
 go_ret
 exact⟨rfl,rfl⟩
end walk
variable [CW]
open Classical in
noncomputable def Afr (s:Sh) (xs:List s.T) (φ:s.T→Option Bool):Option (List s.T) :=
 if (∀ i:Fin xs.length,(φ xs[i]).isSome=true)∧xs.length≤9223372036854775807 then some (xs.filter fun x=>!(φ x).getD false) else none
noncomputable def Afs (e:Nat) (s:Sh):Mdl:=⟨[(.mv,.list e s),(.ro,.fn1 s .bool)],[.list e s],fun x=>Afr s x.1 x.2.1⟩
theorem V9 {P:Program} {ρ:Go.Shelf.Ren} {f e:Nat} {s:Sh} (L:SlLaysH.n10 P ρ) (hf:ρ.f 10=f) (hl:s.isL=true) (v23:∀ w,(zeroValue (ρ.t 23)).run P w=.ok (.slice none 0 0) w):Br P f (Afs e s):=by
 have hag:s.agg=false:=by cases s<;>simp_all [Sh.isL,Sh.agg]
 have hn1:s.n=1:=by cases s<;>simp_all [Sh.isL,Sh.n]
 subst hf;intro w x us Fs hW hgf hA hap;refine fun (y:List s.T) hy=>?_;obtain⟨u1,us1,F1,Fs1,rfl,rfl,hlt1,⟨cs1,rfl,v,rfl,hOw⟩,u2,us2,F2,Fs2,rfl,rfl,hlt2,⟨cs2,rfl,hR⟩,rfl,rfl⟩:=hA;obtain⟨_,g,caps,rfl,hRun,hcall⟩:=hR;obtain⟨css,ho,hln,hc,hb,G,hG,hd,hm⟩:=hOw;have hap12:∀ k,F1 k→¬ F2 k:=fun k h1 h2=>(hap.1 k h1).2 rfl (.inl ⟨rfl,h2⟩);obtain⟨xs,φ,x0⟩:=x;change Afr s xs φ=some y at hy;unfold Afr at hy;split at hy
 case isFalse=>cases hy
 rename_i hS;obtain⟨hsome,hlen⟩:=hS;injection hy with hy;have hln:css.length=xs.length:=hln;have fin:∀ {w':World} {v':Value},AE (hands (Afs e s).ps [F1,F2]) w w'→CZ (OC s w') e s.n w' F1 v' y→w.heap.size≤w'.heap.size→NO w (Afs e s) [Ay (Sh.list e s).agg [v],Ay (Sh.fn1 s .bool).agg [.func (.func g) #[] caps]] [F1,F2] y v' w':=by
  intro w' v' hM hO' hsz;refine⟨[v'],[F1],rfl,hM,⟨v',[],F1,[],[v'],rfl,rfl,rfl,⟨v',rfl,hO'⟩,fun _ _ _ h=>(by cases h),rfl,rfl⟩,fun G hG k hk=>?_⟩
  rw[Ara] at hG;subst hG;exact⟨.inr (.inl ⟨rfl,hk⟩),AqN (hlt1 k hk) hsz⟩
 rcases ho.2 with ⟨rfl,hn⟩ | ⟨gb,cap,cur,rfl,_,hheap,hncap,hcapm,hcs,htk⟩
 ·have hxs:xs=[]:=Arq hn;subst hxs;refine (Aa5 L none 0 _ w).mono fun e' w' ⟨he,hw⟩=>⟨_,he,?_⟩;subst hw;have hy0:y=[]:=by rw[← hy];simp
  subst hy0;exact fin (AE.refl _ _) ⟨[],World.ownsRow_nil _ _ _ _,rfl,(fun c hc=>by cases hc),hb,fun _ _=>False,fun _ _ h=>h.elim,fun _ _ _ _ h=>h.elim,fun j x c hx=>by simp at hx⟩ (Aqr _)
 ·have:Inhabited (Option (Fin xs.length)):=⟨none⟩
  let hdr:List Value→Value:=fun c=>c.headD undef
  have hone:∀ c∈css,c=[hdr c]:=fun c hcm=>by
   have:=(hc c hcm).1;rw[hn1] at this
   match c,this with
   | [u],_=>rfl
  let ce:Fin xs.length→List Value:=fun i=>css[i.val]'(by rw[hln];exact i.isLt)
  have hce:∀ i,ce i∈css:=fun i=>ArV _
  let enc:Option (Fin xs.length)→Value:=fun o=>match o with | some i=>hdr (ce i) | none=>.slice none 0 0
  have henc:∀ i,ce i=[enc (some i)]:=fun i=>hone _ (hce i);have h1:OneCell enc:=fun o=>match o with
   | some i=>(hc _ (hce i)).2 _ (by rw[henc i];simp)
   | none=>rfl
  have hF1:F1 gb:=hb gb rfl;have hblk:gb<w.heap.size:=hlt1 gb hF1
  let d:Array (Option (Fin xs.length)):=((List.finRange xs.length).map some).toArray
  have hds:d.size=xs.length:=by simp[d]
  have hdg:∀ j (hj:j<d.size),d[j]! = some ⟨j,by rw[← hds];exact hj⟩:=fun j hj=>by
   rw[getElem!_pos _ j hj];simp[d]
  have hfl:css.flatten=css.map hdr:=AfE hone;have hH:Go.Sort.Holds enc w gb 0 d:=by
   intro j hj;have hj':j<css.length:=by rw[hln,← hds];exact hj
   refine⟨?_,?_⟩
   ·have:=ho.cells (g:=gb) rfl j (enc (some ⟨j,by rw[← hds];exact hj⟩)) (by
     rw[hfl,Aqt,Aqo hj'];rfl)
    rw[C1] at this;rw[AqQ,hdg j hj];exact this
   ·simp[World.frozen?,hheap]
  have hcf:∀ i:Fin xs.length,φ xs[i]=some ((φ xs[i]).getD false):=fun i=>by
   have:=hsome i;cases h:φ xs[i] with
   | none=>rw[h] at this;cases this
   | some z=>rfl
  have heap:∀ {W:World} {dk:Array (Option (Fin xs.length))},SW enc w gb 0 dk W→∀ k,k<w.heap.size→W.heap[k]? = if k=gb then some (.cells (Go.Sort.putCells enc 0 dk cur) e (0,0)) else w.heap[k]?:=by
   rintro W dk ⟨m,os,rfl⟩ k hk'
   unfold sortWorld Go.Sort.grow Go.Sort.putRow Go.Sort.mapBlock Go.Sort.ahead;simp only;rw[Ary (by simpa using hk'),AsD]
   by_cases e1:k=gb
   ·subst e1;rw[if_pos rfl,if_pos rfl,hheap];rfl
   ·rw[if_neg (fun h=>e1 h.symm),if_neg e1]
  have hsz:∀ {W:World} {dk:Array (Option (Fin xs.length))},SW enc w gb 0 dk W→w.heap.size≤W.heap.size:=by
   rintro W dk ⟨m,os,rfl⟩
   unfold sortWorld Go.Sort.grow Go.Sort.putRow Go.Sort.mapBlock Go.Sort.ahead;simp
  have hGgb:∀ j k,G j k→k≠gb:=fun j k hk e1=>(hG j k hk).2 (by rw[e1];rfl)
  have hmi:∀ i:Fin xs.length,OC s w (G i.val) xs[i] (ce i):=fun i=>hm i.val _ _ (Aqo i.isLt) (Aqo (by rw[hln];exact i.isLt))
  have hrd:∀ {W:World} {dk:Array (Option (Fin xs.length))},SW enc w gb 0 dk W→∀ i:Fin xs.length,OC s W (G i.val) xs[i] (ce i):=fun h i =>
   OC.same s (fun k hk=>by rw[heap h k (hlt1 k (hG _ k hk).1),if_neg (hGgb _ k hk)]) (hmi i)
  let p:Option (Fin xs.length)→Bool:=fun o=>match o with | some i=>(φ xs[i]).getD false | none=>false
  have hcmp:T5 P g caps enc p gb 0 d w:=by
   intro dk W hdk hSW j hj;rw[hdg j hj];generalize (⟨j,by rw[← hds];exact hj⟩:Fin xs.length)=i
   have hS:Ed F2 w W:=⟨hsz hSW,fun k hk2=>by
    rw[heap hSW k (hlt2 k hk2),if_neg (show ¬ k=gb from fun e1=>hap12 gb hF1 (e1▸hk2))]⟩
   have hpk:EB s (ce i)=enc (some i):=by rw[henc i];simp[EB,Ay,hag]
   have:=hcall _ hS xs[i] (ce i) (G i.val) (fun k hk=>AqN (hlt1 k (hG _ k hk).1) (hsz hSW)) (OC.read s (hrd hSW i)) _ (hcf i);rw[hpk] at this;refine this.mono fun e' w' ⟨cr,he,hcr,hp⟩=>?_;have hcr:cr=[.bool ((φ xs[i]).getD false)]:=hcr;subst hcr;obtain⟨q,os,rfl⟩:=hp.grow;exact⟨he,hSW.grown q os⟩
  have hRuns:∀ args w,(callFunc g args).run P w=.ok (.enter g args) w:=by
   obtain⟨fn,hf,hbd,hnm⟩:=hRun;cases hbody:fn.body with
   | none=>rw[hbody] at hbd;cases hbd
   | some c=>exact enters_of hf hnm hbody
  have main:=Afq L enc h1 p g caps hRuns none v23 gb 0 cap d w hcmp hH hblk (by rw[hds];exact hlen) (by rw[hds];exact hncap)
  rw[hds] at main
  -- what is kept
  let K:List (Fin xs.length):=(List.finRange xs.length).filter fun i=>!(φ xs[i]).getD false
  have hK:(d.toList.filter fun x=>!p x)=K.map some:=by
   show ((List.finRange xs.length).map some).filter _=_;rw[List.filter_map];rfl
  have hyK:y=K.map fun i=>xs[i]:=by
   rw[← hy];have:xs=(List.finRange xs.length).map fun i=>xs[i]:=by
    apply List.ext_getElem
    ·simp
    ·intro j h1 h2;simp
   conv=>lhs;rw[this]
   rw[List.filter_map];rfl
  have hKn:K.Nodup:=(List.nodup_finRange _).filter _;have hly:y.length=K.length:=by rw[hyK];simp
  have hKl:K.length≤xs.length:=by
   exact AqE (Arr _ _) (by simp)
  rw[hK,AqD] at main;refine main.mono fun e' w' ⟨he,dk,hSW,hdk,htake⟩=>⟨_,he,?_⟩;obtain⟨hM1,hM2,hM3,hM4⟩:Hw w≤Hw w'∧w'.os=w.os∧w'.tape=w.tape∧w'.output=w.output:=by
   obtain⟨m,os,rfl⟩:=hSW;refine⟨CW.mono ?_,rfl,rfl,rfl⟩;show w.drawn≤w.drawn+m;omega
  refine fin ⟨hM1,hM2,hM3,hM4,hsz hSW,fun k hk' hn=>?_⟩ ⟨K.map ce,?_,by simp[hly],fun c hcm=>?_,hb,fun j=>match K[j]? with | some i=>G i.val | none=>fun _=>False,fun j k hk=>?_,fun i j k hij hi hj=>?_,fun j x c hx hc'=>?_⟩ (hsz hSW)
  ·rw[heap hSW k hk',if_neg (show ¬ k=gb from fun e1=>hn (.inl ⟨rfl,e1▸hF1⟩))]
  ·have hfl2:(K.map ce).flatten=K.map fun i=>enc (some i):=by
    rw[AfE (f:=hdr) fun c hcm=>?_,AsR]
    ·rfl
    ·obtain⟨i,_,rfl⟩:=AqG.1 hcm;exact henc i
   refine⟨by rw[hfl2,hn1];simp[hly],.inr ⟨gb,cap,_,by rw[hly],Ari _,by rw[heap hSW gb hblk,if_pos rfl],by rw[hly];exact AqE hKl hncap,hcapm,?_,?_⟩⟩
   ·simp[Go.Sort.putCells,hcs]
   ·have hle:xs.length≤cur.size:=by rw[hcs,hn1];simpa using hncap
    rw[hfl2,hn1,hly,Nat.mul_one]
    apply Arj
    intro t;rw[AqW,Aqt];have hfs:dk.size=xs.length:=hdk;split
    ·rename_i ht;have ht2:dk[t]! = some K[t]:=by
      rw[getElem!_pos _ t (by omega)]
      have:=congrArg (fun l=>l[t]?) htake;simp only[AqW,if_pos ht,Aqt,Aqo ht,AqU] at this;rw[Art,Arp (by omega)] at this
      injection this
     simp only[Go.Sort.putCells,Art,Array.getElem?_mapIdx];rw[Arp (by omega),Aqo ht]
     simp only[AqU,Ari,true_and,AqQ,Nat.sub_zero];rw[if_pos (by omega),ht2]
    ·rw[AqC (by omega)]
     rfl
  ·obtain⟨i,_,rfl⟩:=AqG.1 hcm;exact hc _ (hce i)
  ·cases hDj:K[j]? with
   | none=>simp only[hDj] at hk
   | some i=>simp only[hDj] at hk;exact hG _ k hk
  ·cases hDi:K[i]? with
   | none=>simp only[hDi] at hi
   | some a =>
    cases hDj:K[j]? with
    | none=>simp only[hDj] at hj
    | some b =>
     simp only[hDi] at hi;simp only[hDj] at hj;refine hd a.val b.val k (fun e1=>hij ?_) hi hj;have e2:a=b:=Fin.ext e1;subst e2;obtain⟨h3,e3⟩:=Aqz.1 hDi;obtain⟨h4,e4⟩:=Aqz.1 hDj;exact (List.getElem_inj hKn).1 (e3.trans e4.symm)
  ·rw[Aqt] at hc';rw[hyK,Aqt] at hx;cases hDj:K[j]? with
   | none=>rw[hDj] at hx;cases hx
   | some i =>
    rw[hDj] at hx hc';simp only[AqU,AqV] at hx hc';subst hx hc';simp only[hDj];exact hrd hSW i
end Go.Proofs.YteheolldcpjkcaaGreat.X
