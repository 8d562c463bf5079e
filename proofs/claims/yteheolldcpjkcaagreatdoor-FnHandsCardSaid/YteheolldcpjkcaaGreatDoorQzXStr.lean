/- Functions on strings that have contracts in the kit: numbers as text and back, strings joined, split, cut and searched. -/
import Derived.Test.YteheolldcpjkcaaGreatDoorQzXStep
import Derived.Shelf.Strconv.Itoa4
import Derived.Shelf.Strconv.ParseIntPublic10
import Derived.Shelf.Strings.Split
import Derived.Shelf.Strings.Cut
import Derived.Shelf.Strings.Search3
import Derived.Shelf.Strings.OnBuilder
set_option linter.unusedSimpArgs false
set_option linter.unusedVariables false
set_option linter.unusedSectionVars false
namespace Go.Proofs.YteheolldcpjkcaaGreatDoor.X
open Go Go.RowKit Go.Shelf
def AeQ (n:Int):Bool:=decide (-9223372036854775808≤n)&&decide (n≤9223372036854775807)
def AkP (n:Int):ByteArray:=⟨(Lib.itoa n).toArray⟩
def Aja (n b:Int):Option ByteArray:=bif AeQ n&&(b==10) then some (AkP n) else none
def Aqc:Mdl:=⟨[(.ro,.int .i64),(.ro,.int .i64)],[.str],fun x=>Aja x.1 x.2.1⟩
theorem Vr [CW] {D:FP} (w:World) (k:Nat) (os:Array Obj):AG D w (Sort.grow (w.drewN k) os):=by
 refine⟨CW.mono (show w.drawn≤w.drawn+k by omega),rfl,rfl,rfl,?_,fun j hj _=>?_⟩
 ·show w.heap.size≤(w.heap++os).size;rw[Array.size_append];omega
 ·show (w.heap++os)[j]? = w.heap[j]?;rw[Asa hj]
theorem AeR [CW] {w w':World} {a b:Sh} {F:AT [(.ro,a),(.ro,b)]→Option ByteArray} {us:List Value} {Fs:List FP} (hu:∃ u v,us=[u,v]) (hF:∃ G H,Fs=[G,H]) {y:ByteArray} (hM:AG (fun _=>False) w w'):QR w ⟨[(.ro,a),(.ro,b)],[.str],F⟩ us Fs y (.string y) w':=by
 obtain⟨u,v,rfl⟩:=hu;obtain⟨G,H,rfl⟩:=hF;refine⟨[_],[fun _=>False],rfl,⟨hM.drawn,hM.os,hM.tape,hM.output,hM.size,fun k hk _=>hM.block k hk id⟩,⟨_,_,_,_,[_],rfl,rfl,rfl,rfl,fun _ h=>h.elim,⟨rfl,rfl⟩⟩,fun G hG k hk=>?_⟩;simp only[AqQ,List.not_mem_nil,or_false] at hG;subst hG;exact hk.elim
theorem Aam [CW] {P:Program} {ρ:Go.Shelf.Ren} {f:Nat} (L:LaysM.n173 P ρ) (hf:ρ.f 173=f) (ht:∀ w,D8 w→Lib.TabIs P w "internal/strconv.uint64pow10" .u64 Lib.pow10Tab):Ck P f Aqc:=by
 subst hf;intro w x us Fs hW hgf hA hap;refine fun (y:ByteArray) hy=>?_;obtain⟨u1,us1,F1,Fs1,rfl,rfl,hlt1,⟨cs1,rfl,h1⟩,u2,us2,F2,Fs2,rfl,rfl,hlt2,⟨cs2,rfl,h2⟩,rfl,rfl⟩:=hA;obtain⟨a,b,x0⟩:=x;have h1:cs1=[.int .i64 a]:=h1;have h2:cs2=[.int .i64 b]:=h2;subst h1 h2;change Aja a b=some y at hy;unfold Aja at hy;cases hc:AeQ a&&(b==10)
 ·rw[hc] at hy;cases hy
 ·rw[hc,cond_true,Arf] at hy;simp only[AeQ,AqJ,decide_eq_true_eq,beq_iff_eq] at hc;obtain⟨⟨ha,hb⟩,rfl⟩:=hc;subst hy;refine (Any.strconv_FormatInt_10 L a ha hb w (ht w hW)).mono fun e' w' ⟨he,k,os,hw⟩=>⟨_,he,?_⟩;subst hw;exact AeR ⟨_,_,rfl⟩ ⟨_,_,rfl⟩ (Vr w k os)
def Aqd (s t:ByteArray):Option Int:=bif Nat.blt s.size 4294967281 then some (Lib.index s.data.toList t.data.toList) else none
def AqG:Mdl:=⟨[(.ro,.str),(.ro,.str)],[.int .i64],fun x=>Aqd x.1 x.2.1⟩
def Aqe (s t:ByteArray):Option (ByteArray×ByteArray×Bool):=bif Nat.blt s.size 4294967281 then some (⟨(Lib.cut s.data.toList t.data.toList).1.toArray⟩,⟨(Lib.cut s.data.toList t.data.toList).2.1.toArray⟩,(Lib.cut s.data.toList t.data.toList).2.2) else none
def AqH:Mdl:=⟨[(.ro,.str),(.ro,.str)],[.str,.str,.bool],fun x=>Aqe x.1 x.2.1⟩
def AmU (s t:ByteArray):Option (List ByteArray):=bif Nat.blt s.size 4294967281&&Nat.ble 1 t.size then some (Lib.splitB t 0 (Lib.countB s t) s) else none
def Aqf (e:Nat):Mdl:=⟨[(.ro,.str),(.ro,.str)],[.list e .str],fun x=>AmU x.1 x.2.1⟩
def AqI (s:ByteArray):Option (Int×Bool):=bif Nat.ble s.size 140737488355328 then (match Lib.parseIntB 64 s.data.toList with
 | .ok v=>some (v,AkP v==s)
 | .range=>some (Lib.intSat 64 s.data.toList,false)
 | _=>some (0,false)) else none
theorem D8.below {w w':World} (h:D8 w) (hB:Below w.heap.size w w'):D8 w':=h.keep hB.size fun k hk=>hB.block k (Ard hk h.1)
def Apk (xs:List ByteArray) (sep:ByteArray):ByteArray:=⟨(Lib.join (xs.map (·.data.toList)) sep.data.toList).toArray⟩
def Apl (xs:List ByteArray) (sep:ByteArray):Option ByteArray:=bif Nat.blt 0 xs.length&&(Nat.ble xs.length 1000&&Nat.ble (Lib.join (xs.map (·.data.toList)) sep.data.toList).length 1000000) then some (Apk xs sep) else none
def Aqv (e:Nat):Mdl:=⟨[(.mv,.list e .str),(.ro,.str)],[.str],fun x=>Apl x.1 x.2.1⟩
end Go.Proofs.YteheolldcpjkcaaGreatDoor.X
