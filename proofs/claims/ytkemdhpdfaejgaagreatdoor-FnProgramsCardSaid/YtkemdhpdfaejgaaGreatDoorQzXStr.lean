/- Functions on strings that have contracts in the kit: numbers as text and back, strings joined, split, cut and searched. -/
import Derived.Test.YtkemdhpdfaejgaaGreatDoorQzXStep
import Derived.Shelf.Strconv.Itoa4
import Derived.Shelf.Strconv.ParseIntPublic10
import Derived.Shelf.Strings.Split
import Derived.Shelf.Strings.Cut
import Derived.Shelf.Strings.Search3
import Derived.Shelf.Strings.OnBuilder
set_option linter.unusedSimpArgs false
set_option linter.unusedVariables false
set_option linter.unusedSectionVars false
namespace Go.Proofs.YtkemdhpdfaejgaaGreatDoor.X
open Go Go.RowKit Go.Shelf
def Sx (n:Int):Bool:=decide (-9223372036854775808≤n)&&decide (n≤9223372036854775807)
def Yq (n:Int):ByteArray:=⟨(Lib.itoa n).toArray⟩
def Aa1 (n b:Int):Option ByteArray:=bif Sx n&&(b==10) then some (Yq n) else none
def AAI:Mdl:=⟨[(.ro,.int .i64),(.ro,.int .i64)],[.str],fun x=>Aa1 x.1 x.2.1⟩
theorem Aa2 [CW] {D:FP} (w:World) (k:Nat) (os:Array Obj):Ao D w (Sort.grow (w.drewN k) os):=by
 refine⟨CW.mono (show w.drawn≤w.drawn+k by omega),rfl,rfl,rfl,?_,fun j hj _=>?_⟩
 ·show w.heap.size≤(w.heap++os).size;rw[Array.size_append];omega
 ·show (w.heap++os)[j]? = w.heap[j]?;rw[ABX hj]
theorem Yr [CW] {D:FP} (w:World) (k:Nat):Ao D w (w.drewN k):=⟨CW.mono (show w.drawn≤w.drawn+k by omega),rfl,rfl,rfl,AA9 _,fun j hj _=>rfl⟩
theorem Am6 [CW] {w w':World} {a b:Sh} {F:AT [(.ro,a),(.ro,b)]→Option ByteArray} {us:List Value} {Fs:List FP} (hu:∃ u v,us=[u,v]) (hF:∃ G H,Fs=[G,H]) {y:ByteArray} (hM:Ao (fun _=>False) w w'):LF w ⟨[(.ro,a),(.ro,b)],[.str],F⟩ us Fs y (.string y) w':=by
 obtain⟨u,v,rfl⟩:=hu;obtain⟨G,H,rfl⟩:=hF;refine⟨[_],[fun _=>False],rfl,⟨hM.drawn,hM.os,hM.tape,hM.output,hM.size,fun k hk _=>hM.block k hk id⟩,⟨_,_,_,_,[_],rfl,rfl,rfl,rfl,fun _ h=>h.elim,⟨rfl,rfl⟩⟩,fun G hG k hk=>?_⟩;simp only[AA4,ABV,or_false] at hG;subst hG;exact hk.elim
theorem Am7 [CW] {w w':World} {a b:Sh} {F:AT [(.ro,a),(.ro,b)]→Option Int} {us:List Value} {Fs:List FP} (hu:∃ u v,us=[u,v]) (hF:∃ G H,Fs=[G,H]) {y:Int} (hM:Ao (fun _=>False) w w'):LF w ⟨[(.ro,a),(.ro,b)],[.int .i64],F⟩ us Fs y (.int .i64 y) w':=by
 obtain⟨u,v,rfl⟩:=hu;obtain⟨G,H,rfl⟩:=hF;refine⟨[_],[fun _=>False],rfl,⟨hM.drawn,hM.os,hM.tape,hM.output,hM.size,fun k hk _=>hM.block k hk id⟩,⟨_,_,_,_,[_],rfl,rfl,rfl,rfl,fun _ h=>h.elim,⟨rfl,rfl⟩⟩,fun G hG k hk=>?_⟩;simp only[AA4,ABV,or_false] at hG;subst hG;exact hk.elim
theorem AwW [CW] {P:Program} {w:World} {a b:ByteArray} {us:List Value} {Fs:List FP} (hA:Dz P w [(.ro,.str),(.ro,.str)] (a,b,()) us Fs):us=[.string a,.string b]∧∃ G H,Fs=[G,H]:=by
 obtain⟨u1,us1,F1,Fs1,rfl,rfl,_,⟨cs1,rfl,h1⟩,u2,us2,F2,Fs2,rfl,rfl,_,⟨cs2,rfl,h2⟩,rfl,rfl⟩:=hA;have h1:cs1=[.string a]:=h1;have h2:cs2=[.string b]:=h2;subst h1 h2;exact⟨rfl,_,_,rfl⟩
theorem Ag7 [CW] {P:Program} {ρ:Go.Shelf.Ren} {f:Nat} (L:LaysM.n173 P ρ) (hf:ρ.f 173=f) (ht:∀ w,Dq w→Lib.TabIs P w "internal/strconv.uint64pow10" .u64 Lib.pow10Tab):Al P f AAI:=by
 subst hf;intro w x us Fs hW hgf hA hap;refine fun (y:ByteArray) hy=>?_;obtain⟨u1,us1,F1,Fs1,rfl,rfl,hlt1,⟨cs1,rfl,h1⟩,u2,us2,F2,Fs2,rfl,rfl,hlt2,⟨cs2,rfl,h2⟩,rfl,rfl⟩:=hA;obtain⟨a,b,x0⟩:=x;have h1:cs1=[.int .i64 a]:=h1;have h2:cs2=[.int .i64 b]:=h2;subst h1 h2;change Aa1 a b=some y at hy;unfold Aa1 at hy;cases hc:Sx a&&(b==10)
 ·rw[hc] at hy;cases hy
 ·rw[hc,cond_true,ABr] at hy;simp only[Sx,AA1,decide_eq_true_eq,beq_iff_eq] at hc;obtain⟨⟨ha,hb⟩,rfl⟩:=hc;subst hy;refine (Any.strconv_FormatInt_10 L a ha hb w (ht w hW)).mono fun e' w' ⟨he,k,os,hw⟩=>⟨_,he,?_⟩;subst hw;exact Am6 ⟨_,_,rfl⟩ ⟨_,_,rfl⟩ (Aa2 w k os)
def Am8 (s t:ByteArray):Option Int:=bif Nat.blt s.size 4294967281 then some (Lib.index s.data.toList t.data.toList) else none
def AAJ:Mdl:=⟨[(.ro,.str),(.ro,.str)],[.int .i64],fun x=>Am8 x.1 x.2.1⟩
theorem Ag8 [CW] {P:Program} {ρ:Go.Shelf.Ren} {f:Nat} (L:Lays.n143 P ρ) (hf:ρ.f 143=f) (ht:∀ w,Dq w→∃ m,w.cell? ⟨ρ.g 1,0,none⟩=some (.int .i64 m)):Al P f AAJ:=by
 subst hf;intro w x us Fs hW hgf hA hap;refine fun (y:Int) hy=>?_;obtain⟨a,b,x0⟩:=x;obtain⟨rfl,hFs⟩:=AwW hA;change Am8 a b=some y at hy;unfold Am8 at hy;cases hc:Nat.blt a.size 4294967281
 ·rw[hc] at hy;cases hy
 ·rw[hc,cond_true,ABr] at hy;rw[ADs] at hc;subst hy;obtain⟨m,hm⟩:=ht w hW;refine (Any.strings_Index L a b m w hc hm).mono fun e' w' ⟨he,hw⟩=>⟨_,he,?_⟩;subst hw;exact Am7 ⟨_,_,rfl⟩ hFs (Ao.refl _ _)
def Ys (s t:ByteArray):Option (ByteArray×ByteArray×Bool):=bif Nat.blt s.size 4294967281 then some (⟨(Lib.cut s.data.toList t.data.toList).1.toArray⟩,⟨(Lib.cut s.data.toList t.data.toList).2.1.toArray⟩,(Lib.cut s.data.toList t.data.toList).2.2) else none
def AAK:Mdl:=⟨[(.ro,.str),(.ro,.str)],[.str,.str,.bool],fun x=>Ys x.1 x.2.1⟩
theorem Ag9 [CW] {P:Program} {ρ:Go.Shelf.Ren} {f:Nat} (L:Lays.n145 P ρ) (hf:ρ.f 145=f) (ht:∀ w,Dq w→∃ m,w.cell? ⟨ρ.g 1,0,none⟩=some (.int .i64 m)):Al P f AAK:=by
 subst hf;intro w x us Fs hW hgf hA hap;refine fun (y:ByteArray×ByteArray×Bool) hy=>?_;obtain⟨a,b,x0⟩:=x;obtain⟨rfl,G1,G2,rfl⟩:=AwW hA;change Ys a b=some y at hy;unfold Ys at hy;cases hc:Nat.blt a.size 4294967281
 ·rw[hc] at hy;cases hy
 ·rw[hc,cond_true,ABr] at hy;rw[ADs] at hc;subst hy;obtain⟨m,hm⟩:=ht w hW;refine (Any.strings_Cut L a b m w hc hm).mono fun e' w' ⟨he,n,hw⟩=>⟨_,he,?_⟩;subst hw;have hM:Ao (fun _=>False) w (w.drewN n):=Yr w n;refine⟨[_,_,_],[fun _=>False,fun _=>False,fun _=>False],rfl,⟨hM.drawn,hM.os,hM.tape,hM.output,hM.size,fun k hk _=>hM.block k hk id⟩,⟨_,_,_,_,[_],rfl,rfl,rfl,rfl,fun _ h=>h.elim,_,_,_,_,[_],rfl,rfl,rfl,rfl,fun _ h=>h.elim,_,_,_,_,[_],rfl,rfl,rfl,rfl,fun _ h=>h.elim,⟨rfl,rfl⟩⟩,fun G hG k hk=>?_⟩;simp only[AA4,ABV,or_false] at hG;rcases hG with rfl | rfl | rfl<;>exact hk.elim
theorem Sy:∀ y:List ByteArray,(y.map fun x=>[Value.string x]).flatten=y.map Value.string
 | []=>rfl
 | x :: y=>by
  rw[ABH,ABx,Sy y];rfl
def LO (s t:ByteArray):Option (List ByteArray):=bif Nat.blt s.size 4294967281&&Nat.ble 1 t.size then some (Lib.splitB t 0 (Lib.countB s t) s) else none
def AwX (e:Nat):Mdl:=⟨[(.ro,.str),(.ro,.str)],[.list e .str],fun x=>LO x.1 x.2.1⟩
theorem Yt [CW] {P:Program} {ρ:Go.Shelf.Ren} {f e:Nat} (L:Lays.n146 P ρ) (hf:ρ.f 146=f) (he9:ρ.t 9=e) (hi9:(P.info? (ρ.t 9)).map (fun i=>(i.zero,i.size,i.bytes))=some (some (.string ByteArray.empty),1,16)) (ht:∀ w,Dq w→∃ m,w.cell? ⟨ρ.g 1,0,none⟩=some (.int .i64 m)):Al P f (AwX e):=by
 subst hf;subst he9;intro w x us Fs hW hgf hA hap;refine fun (y:List ByteArray) hy=>?_;obtain⟨a,b,x0⟩:=x;obtain⟨rfl,G1,G2,rfl⟩:=AwW hA;change LO a b=some y at hy;unfold LO at hy;cases hc:Nat.blt a.size 4294967281&&Nat.ble 1 b.size
 ·rw[hc] at hy;cases hy
 ·rw[hc,cond_true,ABr] at hy;simp only[AA1,ADs,AB4] at hc;obtain⟨hc1,hc2⟩:=hc;obtain⟨m,hm⟩:=ht w hW;have hlen:=Lib.splitB_all b hc2 0 _ a rfl;have hcle:=Lib.countB_le b hc2 a.size a (AA9 _);rw[hy] at hlen;refine (Any.strings_Split L hi9 a b m w hc1 hm hc2).mono fun e' w' ⟨he,hw⟩=>⟨_,he,?_⟩;rw[hy] at hw;subst hw;rw[← hlen];have hfl:=Sy y;have hmoves:Ao (fun _=>False) w (w.alloc (.cells (y.map Value.string).toArray (ρ.t 9))):=Ao.alloc w _ _;have hO:Dt (OC .str (w.alloc (.cells (y.map Value.string).toArray (ρ.t 9)))) (ρ.t 9) 1 (w.alloc (.cells (y.map Value.string).toArray (ρ.t 9))) (fun k=>k=w.heap.size) (.slice (some ⟨w.heap.size,0,none⟩) y.length y.length) y:=by
   refine⟨y.map fun x=>[Value.string x],?_,by simp,fun c hc=>?_,fun g hg=>?_,fun _ _=>False,fun _ _ h=>h.elim,fun _ _ _ _ h=>h.elim,fun j x c hx hc=>?_⟩
   ·rw[hfl];refine⟨by simp,.inr ⟨w.heap.size,y.length,(y.map Value.string).toArray,rfl,ABU _,?_,AA9 _,?_,by simp,?_⟩⟩
    ·exact heap_alloc_new w _
    ·rw[hlen];show _≤9223372036854775807;omega
    ·simp;rw[ABN (by simp)]
   ·obtain⟨x,_,rfl⟩:=ABe.1 hc;exact⟨rfl,fun u hu=>by rcases AB3.1 hu with rfl;rfl⟩
   ·cases hg;rfl
   ·rw[ABn,hx] at hc;cases hc;rfl
  refine⟨[_],[fun k=>k=w.heap.size],rfl,⟨hmoves.drawn,hmoves.os,hmoves.tape,hmoves.output,hmoves.size,fun k hk _=>hmoves.block k hk id⟩,⟨_,_,_,_,[_],rfl,rfl,rfl,⟨_,rfl,hO⟩,fun _ _ G hG=>(by cases hG),⟨rfl,rfl⟩⟩,fun G hG k hk=>?_⟩
  simp only[AA4,ABV,or_false] at hG;subst hG;subst hk;exact⟨.inl (AA9 _),by simp⟩
def Aha (s:ByteArray):Option (Int×Bool):=bif Nat.ble s.size 140737488355328 then (match Lib.parseIntB 64 s.data.toList with
 | .ok v=>some (v,Yq v==s)
 | .range=>some (Lib.intSat 64 s.data.toList,false)
 | _=>some (0,false)) else none
theorem Am9 {w w':World} {a:Sh} {F:AT [(.ro,a)]→Option (Int×Bool)} {u:Value} {G:FP} {n:Int} {b:Bool} (hB:Below w.heap.size w w'):@LF cwZ w ⟨[(.ro,a)],[.int .i64,.bool],F⟩ [u] [G] (n,b) (.tuple #[.int .i64 n,.bool b]) w':=by
 refine⟨[_,_],[fun _=>False,fun _=>False],rfl,@Ao.mk cwZ _ _ _ (AA9 0) hB.os hB.tape hB.output hB.size fun k hk _=>hB.block k hk,⟨_,_,_,_,[_],rfl,rfl,rfl,rfl,fun _ h=>h.elim,_,_,_,_,[_],rfl,rfl,rfl,rfl,fun _ h=>h.elim,⟨rfl,rfl⟩⟩,fun G hG k hk=>?_⟩;simp only[AA4,ABV,or_false] at hG;rcases hG with rfl | rfl<;>exact hk.elim
theorem AAL {P:Program} {w:World} {a:ByteArray} {us:List Value} {Fs:List FP} (hA:Dz P w [(.ro,.str)] (a,()) us Fs):us=[.string a]∧∃ G,Fs=[G]:=by
 obtain⟨u1,us1,F1,Fs1,rfl,rfl,_,⟨cs1,rfl,h1⟩,rfl,rfl⟩:=hA;have h1:cs1=[.string a]:=h1;subst h1;exact⟨rfl,_,rfl⟩
theorem Aa3 {P:Program} {f:Nat} {F:Int→Option ByteArray} (hS:@Al cwD P f ⟨[(.ro,.int .i64)],[.str],fun x=>F x.1⟩) {w:World} (hW:Dq w) {n:Int} {y:ByteArray} (hy:F n=some y) :
  Calls P f #[.int .i64 n] w fun e w'=>e=.returned (.string y)∧Below w.heap.size w w':=by
 refine (hS w (n,()) [.int .i64 n] [fun _=>False] hW (fun k hk=>hk.elim (fun h=>h.2.elim) fun h=>h.elim) ⟨_,[],_,[],rfl,rfl,fun _ h=>h.elim,⟨[.int .i64 n],rfl,rfl⟩,rfl,rfl⟩ ⟨fun _ h=>h.elim,trivial⟩ y hy).mono fun e w' ⟨u,eu,vs,Gs,er,hM,hO⟩=>?_;obtain⟨⟨v,vs',G,Gs',cs,rfl,rfl,rfl,hc,_,hrest⟩,_⟩:=hO;obtain⟨rfl,rfl⟩:=hrest;have hc:cs=[.string y]:=hc;subst hc;obtain⟨_,h2,h3,h4,h5,h6⟩:=hM;exact⟨by rw[eu,er];rfl,⟨h2,h3,h4,h5,fun k hk=>h6 k hk fun h=>h.elim (fun h=>h.2.elim) fun h=>h.elim⟩⟩
theorem Dq.below {w w':World} (h:Dq w) (hB:Below w.heap.size w w'):Dq w':=h.keep hB.size fun k hk=>hB.block k (ABB hk h.1)
def At5 (xs:List ByteArray) (sep:ByteArray):ByteArray:=⟨(Lib.join (xs.map (·.data.toList)) sep.data.toList).toArray⟩
def P5 (xs:List ByteArray) (sep:ByteArray):Option ByteArray:=bif Nat.blt 0 xs.length&&(Nat.ble xs.length 1000&&Nat.ble (Lib.join (xs.map (·.data.toList)) sep.data.toList).length 1000000) then some (At5 xs sep) else none
def Azy (e:Nat):Mdl:=⟨[(.mv,.list e .str),(.ro,.str)],[.str],fun x=>P5 x.1 x.2.1⟩
theorem Aa4 {P:Program} {ρ:Go.Shelf.Ren} {f e:Nat} (L:Lays.n156 P ρ) (X:Builder.Extra P ρ) (hf:ρ.f 156=f):@Al cwZ P f (Azy e):=by
 subst hf;intro w x us Fs hW hgf hA hap;refine fun (y:ByteArray) hy=>?_;obtain⟨u1,us1,F1,Fs1,rfl,rfl,hlt1,⟨cs1,rfl,v,rfl,hOw⟩,u2,us2,F2,Fs2,rfl,rfl,hlt2,⟨cs2,rfl,h2⟩,rfl,rfl⟩:=hA;obtain⟨xs,sep,x0⟩:=x;have h2:cs2=[.string sep]:=h2;subst h2;change P5 xs sep=some y at hy;obtain⟨css,ho,hl,hc,hb,G,hG,hd,hm⟩:=hOw;unfold P5 at hy;cases hcond:Nat.blt 0 xs.length&&(Nat.ble xs.length 1000&&Nat.ble (Lib.join (xs.map (·.data.toList)) sep.data.toList).length 1000000)
 ·rw[hcond] at hy;cases hy
 ·rw[hcond,cond_true,ABr] at hy;simp only[AA1,ADs,AB4] at hcond;obtain⟨h0,h3,h4⟩:=hcond;subst hy;rcases ho.2 with ⟨rfl,hn⟩ | ⟨gb,cap,cur,rfl,_,hheap,hncap,hcapm,hcs,htk⟩
  ·simp only at hn;omega
  ·have hF1:F1 gb:=hb gb rfl;have hblk:gb<w.heap.size:=hlt1 gb hF1;have hcells:∀ (j:Nat) x,xs[j]? = some x→w.cell? ⟨gb,0+j,none⟩=some (.string x):=fun j x hx=>by
    have hj:j<css.length:=by rw[hl];exact (ABd.1 hx).1
    have hr:css[j]=[.string x]:=hm j x _ hx (AA7 hj);have hf:=Fk (sz:=1) (fun c hc'=>(hc c hc').1) (j:=j) (c:=css[j]) (AA7 hj) 0 (.string x) (by rw[hr];rfl)
    have:=ho.cells (g:=gb) rfl j (.string x) (by
     rw[AEk,ACa] at hf;exact hf)
    rw[Gb] at this;rw[ABw];exact this
   refine (Any.strings_Join L X gb 0 cap xs sep w hcells hblk (ABo h3 (by decide)) hncap (ABo h4 (by decide))).mono fun e' w' ⟨he,hw⟩=>⟨_,he,?_⟩
   refine⟨[_],[fun _=>False],rfl,@Ao.mk cwZ _ _ _ (AA9 0) hw.os hw.tape hw.output hw.size fun k hk _=>hw.block k hk,⟨_,_,_,_,[_],rfl,rfl,rfl,rfl,fun _ h=>h.elim,⟨rfl,rfl⟩⟩,fun G hG k hk=>?_⟩;simp only[AA4,ABV,or_false] at hG;subst hG;exact hk.elim
end Go.Proofs.YtkemdhpdfaejgaaGreatDoor.X
