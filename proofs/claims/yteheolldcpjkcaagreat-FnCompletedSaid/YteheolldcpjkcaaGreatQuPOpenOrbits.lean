/- The plain law of OpenOrbits: both sides give the orbits without a mark. -/
import Derived.Test.YteheolldcpjkcaaGreatQuPOrbitsOf
import Derived.Test.YteheolldcpjkcaaGreatQuMS
namespace Go.Proofs.YteheolldcpjkcaaGreat.X
open Go
set_option linter.unusedSimpArgs false
set_option linter.unusedVariables false
def Co (l:Lt) (ms:List Ma) (o:List Vc):Bool:=ms.all fun x=>!o.contains (AZ l x.1)
def IX (f:Int) (l:Lt) (g:List Mo) (ms:List Ma):List (List Vc)×Int:=bif AB f l g (AA ms) != 0 then ([],AB f l g (AA ms)) else ((Ao l g).filter (Co l ms),0)
theorem VO {l:List Vc} (hn:l.length≤1000) (v:Vc):Aal KK l v=some (l.contains v):=by
 have h:=BA (X:=Int) (body:=fun L x=>Qv KK l v (fun v0=>L v0) x) l (fun q=>(q:Int)) (fun a=>!(a==v)) (some true) (some false)
  (fun L q hq=>by
   unfold Qv;rw[in1 hq,in0,gd hq,Ak (by omega)]
   simp only[aS,cT];rw[show ((l[q].1==v.1)&&(l[q].2==v.2))=(l[q]==v) from rfl]
   cases l[q]==v<;>rfl)
  (fun L=>by
   unfold Qv;rw[AS,cF]) KK 0 (by omega) (by have:=FO (n:=l.length) (by omega);omega)
 unfold Aal Ac1 Vo;refine h.trans ?_;rw[Aqq,Aso];have e:(l.all fun a=>!(a==v))=!(l.any fun a=>v==a):=by
  rw[List.not_any_eq_all_not];congr 1;funext a;rw[BEq.comm]
 rw[e];cases l.any fun a=>v==a<;>rfl
theorem NM {l:List Vc} (hn:l.length≤1000) (v:Vc):Ag4 KK l v=some (l.contains v):=by
 have hidx:Tc KK l v=some (CK (fun a=>v==a) 0 l):=by
  have h:=Dn (R:=Int) (body:=fun L x=>Lb KK l v (fun v0=>L v0) x) l (fun a=>v==a) some
   (fun L q hq=>by
    unfold Lb;rw[in1 hq,in0,gd hq];simp only[aS,cT];rw[AdK,Ak (by omega)])
   (fun L=>by
    unfold Lb;rw[AS,cF]) KK 0 (by omega) (by have:=FO (n:=l.length) (by omega);omega)
  unfold Tc Vn Qu;exact h
 unfold Ag4;rw[hidx,oB,D7];congr 1;rw[Aso]
def hol (l:Lt) (ms:List Ma) (o:List Vc):Option (List Vc):=bif Co l ms o then none else some o
def Fm (l:Lt) (ms:List Ma) (os:List (List Vc)) (q:Nat):List (Option (List Vc)):=(os.take q).map (hol l ms)++(os.drop q).map some
theorem MV (l:Lt) (ms:List Ma) (os:List (List Vc)) {q:Nat} (hq:q≤os.length):(Fm l ms os q).length=os.length:=by
 simp[Fm];omega
theorem Aeg (l:Lt) (ms:List Ma) (os:List (List Vc)) {q:Nat} (hq:q<os.length):(Fm l ms os q).getD ((0:Int)+(q:Int)).toNat none=some os[q]:=by
 have hz:((0:Int)+(q:Int)).toNat=q:=by omega
 rw[hz,AqJ,Fm,AqB (by simp;omega)]
 simp[hq];have:q-min q os.length=0:=by omega
 rw[this];simp[hq]
theorem AhI {α:Type} (A C:List α) (b c:α) {n:Nat} (h:A.length=n):(A++b :: C).set n c=A++c :: C:=by
 subst h;simp
theorem AaQ (l:Lt) (ms:List Ma) (os:List (List Vc)) {q:Nat} (hq:q<os.length):(bif Co l ms os[q] then (Fm l ms os q).set q none else Fm l ms os q)=Fm l ms os (q+1):=by
 have e1:Fm l ms os q=(os.take q).map (hol l ms)++some os[q] :: (os.drop (q+1)).map some:=by
  rw[Fm,dC hq,Arh]
 have e2:Fm l ms os (q+1)=(os.take q).map (hol l ms)++hol l ms os[q] :: (os.drop (q+1)).map some:=by
  rw[Fm,tS hq,AsM,Aqv];rfl
 rw[e1,e2];cases h:Co l ms os[q]
 ·rw[cF,show hol l ms os[q]=some os[q] by unfold hol;rw[h];rfl]
 ·rw[cT,show hol l ms os[q]=none by unfold hol;rw[h];rfl]
  exact AhI _ _ _ _ (by simp;omega)
theorem O2 (l:Lt) (o:List Vc):∀ (ms:List Ma) (s:Bool),ms.foldl (fun s x=>bif s then !o.contains (AZ l x.1) else false) s=(s&&Co l ms o)
 | [],s=>by simp[Co]
 | x :: ms,s=>by
  rw[Aq8,O2 l o ms];unfold Co;rw[Asn];cases s<;>simp
theorem cnT {α:Type} {b:Bool} {x y:α} (h:b=true):(bif b then x else y)=x:=by rw[h];rfl
theorem Aeh {l:Lt} (hl:IsL l) (a0:Int) (a2:List Mo) {ms:List Ma} (hm:∀ x∈ms,Cr x.1=true) (hn:ms.length≤1000) {os:List (List Vc)} (ho:∀ o∈os,o.length≤1000) (hos:os.length≤1000) {q:Nat} (hq:q<os.length) (out:List (List Vc)) (hout:out.length≤q) (y1:Int)
  (L:Int→List (Option (List Vc))→List (List Vc)→Option (List (List Vc)×Int)):IA KK a0 l a2 ms (q:Int) (Fm l ms os q) out y1 L KK true 0=L ((q+1:Nat):Int) (Fm l ms os (q+1)) (bif Co l ms os[q] then out++[os[q]] else out):=by
 have hg:=Aeg l ms os hq;have hlen:=MV l ms os (q:=q) (by omega)
 have hoq:os[q].length≤1000:=ho _ (gM hq);have hz:((0:Int)+(q:Int)).toNat=q:=by omega
 have h:=AQ (X:=Bool×Int) (body:=fun L' x=>Lc KK a0 l a2 ms (q:Int) (Fm l ms os q) out y1 L (fun v0 v1=>L' (v0,v1)) x.1 x.2) ms (fun j (s:Bool)=>(s,(j:Int))) (fun s x=>bif s then !os[q].contains (AZ l x.1) else false)
  (fun s=>L ((q+1:Nat):Int) (bif s then (Fm l ms os q).set q none else Fm l ms os q) (bif s then out++[os[q]] else out)) (fun _ _=>True)
  (fun L' j s hj _=>by
   refine⟨trivial,?_⟩;have hA:=CE hl (EA (hm _ (gM hj)));have hB:=VO hoq;unfold Lc;generalize Sq KK=A at hA ⊢;generalize Aal KK=B at hB ⊢;simp only;rw[in1 hj,in0,gd hj,Ak (by omega),hg,hlen,in0,in1 hq]
   cases s
   ·simp only[aS,nF,oT,tO,cT,cF,oB,Ar2]
   ·rw[cnT (show ((true&&true)||!true)=true from rfl),cnT (show (Option.isSome (some os[q])||!true)=true from rfl),cnT (show ((true&&true)||!true)=true from rfl),cnT (rfl:true=true),hA,cnT (rfl:true=true),oB,cnT (rfl:true=true),cnT (rfl:true=true),ArD,hB,oB])
  (fun L' s _=>by
   unfold Lc;simp only;rw[AS,cF,hg,hlen,in0,in1 hq,Ak (by omega),hz]
   cases s
   ·simp only[cF]
   ·simp only[aS,cT,Ar2,ArD,AqK];rw[HX (by omega),cT]) KK 0 true (by omega) (by have:=FO (n:=ms.length) (by omega);omega) trivial
 unfold IA;refine h.trans ?_;rw[Aqq,O2,AqK,AaQ l ms os hq]
theorem AaR (f:Int) (l:Lt) {g:List Mo} (hn:g.length≤1048576) {ms:List Ma} (hm:ms.length≤1048576):Ac4 KK f l g ms=some (IX f l g ms):=by
 unfold Ac4 Ac3 IX;rw[HZ f l hn hm,oB];cases h:AB f l g (AA ms) != 0
 ·have h0:AB f l g (AA ms)=0:=by simpa using h
  obtain⟨hG,hb⟩:=BJ h0;obtain⟨hv,hl⟩:=Dq hb;have hos:=Dt hG.la g;rw[cF,cF,Fk hG,oB,h0];have hh:=AQ (X:=Int×List (Option (List Vc))×List (List Vc)) (body:=fun L x=>IB KK f l g ms 0 (fun c0 c1 c2 d0 d1=>IA KK f l g ms c0 c1 c2 0 (fun v0 v1 v2=>L (v0,v1,v2)) KK d0 d1) (fun v0 v1 v2=>L (v0,v1,v2)) x.1 x.2.1 x.2.2) (Ao l g) (fun q (s:List (List Vc))=>((q:Int),Fm l ms (Ao l g) q,s)) (fun s o=>bif Co l ms o then s++[o] else s) (fun s=>some (s,(0:Int))) (fun q s=>s.length≤q)
   (fun L q s hq hi=>by
    refine⟨?_,?_⟩
    ·cases Co l ms (Ao l g)[q]<;>simp<;>omega
    unfold IB;simp only;rw[MV l ms (Ao l g) (by omega),in1 hq,cT]
    exact Aeh hG.la f g hv (by omega) (fun o ho=>by have:=(EU hG ho).2;omega) (by omega) hq s hi 0 (fun v0 v1 v2=>L (v0,v1,v2)))
   (fun L s hi=>by
    unfold IB;simp only;rw[MV l ms (Ao l g) (Aqr _),AS,cF]) KK 0 [] (by omega) (by have:=FO (n:=(Ao l g).length) (by omega);omega) (by simp)
  unfold Qx;have e0:Fm l ms (Ao l g) 0=(Ao l g).map some:=by simp[Fm]
  rw[← e0];refine hh.trans ?_;have hf:=DO (Co l ms) (fun o:List Vc=>o) (Ao l g) [];rw[List.map_id',AqM] at hf;rw[Aqq,hf]
 ·rfl
theorem AhJ {l:Lt} (hl:IsL l) {ms:List Ma} (hm:∀ x∈ms,Cr x.1=true) (hn:ms.length≤1000) {o:List Vc} (ho:o.length≤1000):Td KK o ms l=some (!Co l ms o):=by
 unfold Td;rw[C4 hn _ (fun x=>o.contains (AZ l x.1)) (fun x hx=>by
  unfold AlW;rw[CU hl (EA (hm x hx)),oB,NM ho];rfl),oB]
 congr 1;unfold Co;rw[Atb];simp
theorem AaS (f:Int) (l:Lt) {g:List Mo} (hn:g.length≤1048576) (ms:List Ma):Ag6 KK f l g ms=some (IX f l g ms):=by
 unfold Ag6 IX;rw[Fl f l hn,oB];cases h:AB f l g (AA ms) != 0
 ·have h0:AB f l g (AA ms)=0:=by simpa using h
  obtain⟨hG,hb⟩:=BJ h0;obtain⟨hv,hl⟩:=Dq hb;have hos:=Dt hG.la g;rw[cF,cF,Kp hG,oB];have hfn:∀ o∈Ao l g,Td KK o ms l=some (!Co l ms o):=fun o ho=>AhJ hG.la hv (by omega) (by have:=(EU hG ho).2;omega)
  have hd:Ag5 KK (Ao l g) (fun z3=>Td KK z3 ms l)=some ((Ao l g).filter (Co l ms)):=by
   unfold Ag5 Afr;rw[if_pos ⟨fun i=>by
    show (Td KK (Ao l g)[i.1] ms l).isSome=true;rw[hfn _ (gM i.2)];rfl,by omega⟩]
   congr 1;refine List.filter_congr fun o ho=>?_;show (!(Td KK o ms l).getD false)=Co l ms o;rw[hfn o ho];simp
  simp only;rw[hd,oB]
 ·rfl
theorem AaT {f:Int} {l:Lt} {g:List Mo} {ms:List Ma}:(IX f l g ms).1.length≤1000∧∀ o∈(IX f l g ms).1,o.length≤1000:=by
 unfold IX;cases h:AB f l g (AA ms) != 0
 ·have h0:AB f l g (AA ms)=0:=by simpa using h
  have hG:=(BJ h0).1;have:=Dt hG.la g;rw[cF];refine⟨?_,fun o ho=>?_⟩
  ·have:=Arr (Co l ms) (Ao l g);simp only;omega
  ·have:=(EU hG (AqR.1 ho).1).2;omega
 ·simp
end Go.Proofs.YteheolldcpjkcaaGreat.X
