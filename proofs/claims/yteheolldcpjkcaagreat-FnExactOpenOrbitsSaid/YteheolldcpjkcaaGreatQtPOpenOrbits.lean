/- The plain law of OpenOrbits: both sides give the orbits without a mark. -/
import Derived.Test.YteheolldcpjkcaaGreatQtPOrbitsOf
import Derived.Test.YteheolldcpjkcaaGreatQtMS
namespace Go.Proofs.YteheolldcpjkcaaGreat.X
open Go
set_option linter.unusedSimpArgs false
set_option linter.unusedVariables false
def CI (l:Lt) (ms:List Ma) (o:List Vc):Bool:=ms.all fun x=>!o.contains (Bc l x.1)
def H6 (f:Int) (l:Lt) (g:List Mo) (ms:List Ma):List (List Vc)×Int:=bif Bj f l g (BU ms) != 0 then ([],Bj f l g (BU ms)) else ((BF l g).filter (CI l ms),0)
theorem Rw {l:List Vc} (hn:l.length≤1000) (v:Vc):UM KK l v=some (l.contains v):=by
 have h:=B0 (X:=Int) (body:=fun L x=>MT KK l v (fun v0=>L v0) x) l (fun q=>(q:Int)) (fun a=>!(a==v)) (some true) (some false)
  (fun L q hq=>by
   unfold MT;rw[in1 hq,in0,gd hq,As (by omega)]
   simp only[aS,cT];rw[show ((l[q].1==v.1)&&(l[q].2==v.2))=(l[q]==v) from rfl]
   cases l[q]==v<;>rfl)
  (fun L=>by
   unfold MT;rw[AX,cF]) KK 0 (by omega) (by have:=ET (n:=l.length) (by omega);omega)
 unfold UM WF QQ;refine h.trans ?_;rw[AiR,AkC];have e:(l.all fun a=>!(a==v))=!(l.any fun a=>v==a):=by
  rw[List.not_any_eq_all_not];congr 1;funext a;rw[BEq.comm]
 rw[e];cases l.any fun a=>v==a<;>rfl
theorem KQ {l:List Vc} (hn:l.length≤1000) (v:Vc):Aai KK l v=some (l.contains v):=by
 have hidx:O3 KK l v=some (CE (fun a=>v==a) 0 l):=by
  have h:=EU (R:=Int) (body:=fun L x=>IG KK l v (fun v0=>L v0) x) l (fun a=>v==a) some
   (fun L q hq=>by
    unfold IG;rw[in1 hq,in0,gd hq];simp only[aS,cT];rw[XX,As (by omega)])
   (fun L=>by
    unfold IG;rw[AX,cF]) KK 0 (by omega) (by have:=ET (n:=l.length) (by omega);omega)
  unfold O3 Q2 M9;exact h
 unfold Aai;rw[hidx,oB,E0];congr 1;rw[AkC]
def hol (l:Lt) (ms:List Ma) (o:List Vc):Option (List Vc):=bif CI l ms o then none else some o
def Ed (l:Lt) (ms:List Ma) (os:List (List Vc)) (q:Nat):List (Option (List Vc)):=(os.take q).map (hol l ms)++(os.drop q).map some
theorem JX (l:Lt) (ms:List Ma) (os:List (List Vc)) {q:Nat} (hq:q≤os.length):(Ed l ms os q).length=os.length:=by
 simp[Ed];omega
theorem X9 (l:Lt) (ms:List Ma) (os:List (List Vc)) {q:Nat} (hq:q<os.length):(Ed l ms os q).getD ((0:Int)+(q:Int)).toNat none=some os[q]:=by
 have hz:((0:Int)+(q:Int)).toNat=q:=by omega
 rw[hz,AiZ,Ed,AiQ (by simp;omega)]
 simp[hq];have:q-min q os.length=0:=by omega
 rw[this];simp[hq]
theorem AaK {α:Type} (A C:List α) (b c:α) {n:Nat} (h:A.length=n):(A++b :: C).set n c=A++c :: C:=by
 subst h;simp
theorem Vf (l:Lt) (ms:List Ma) (os:List (List Vc)) {q:Nat} (hq:q<os.length):(bif CI l ms os[q] then (Ed l ms os q).set q none else Ed l ms os q)=Ed l ms os (q+1):=by
 have e1:Ed l ms os q=(os.take q).map (hol l ms)++some os[q] :: (os.drop (q+1)).map some:=by
  rw[Ed,dC hq,Ajw]
 have e2:Ed l ms os (q+1)=(os.take q).map (hol l ms)++hol l ms os[q] :: (os.drop (q+1)).map some:=by
  rw[Ed,tS hq,Ak0,AiT];rfl
 rw[e1,e2];cases h:CI l ms os[q]
 ·rw[cF,show hol l ms os[q]=some os[q] by unfold hol;rw[h];rfl]
 ·rw[cT,show hol l ms os[q]=none by unfold hol;rw[h];rfl]
  exact AaK _ _ _ _ (by simp;omega)
theorem LC (l:Lt) (o:List Vc):∀ (ms:List Ma) (s:Bool),ms.foldl (fun s x=>bif s then !o.contains (Bc l x.1) else false) s=(s&&CI l ms o)
 | [],s=>by simp[CI]
 | x :: ms,s=>by
  rw[Ajt,LC l o ms];unfold CI;rw[AjO];cases s<;>simp
theorem cnT {α:Type} {b:Bool} {x y:α} (h:b=true):(bif b then x else y)=x:=by rw[h];rfl
theorem Ya {l:Lt} (hl:IsL l) (a0:Int) (a2:List Mo) {ms:List Ma} (hm:∀ x∈ms,C1 x.1=true) (hn:ms.length≤1000) {os:List (List Vc)} (ho:∀ o∈os,o.length≤1000) (hos:os.length≤1000) {q:Nat} (hq:q<os.length) (out:List (List Vc)) (hout:out.length≤q) (y1:Int)
  (L:Int→List (Option (List Vc))→List (List Vc)→Option (List (List Vc)×Int)):GB KK a0 l a2 ms (q:Int) (Ed l ms os q) out y1 L KK true 0=L ((q+1:Nat):Int) (Ed l ms os (q+1)) (bif CI l ms os[q] then out++[os[q]] else out):=by
 have hg:=X9 l ms os hq;have hlen:=JX l ms os (q:=q) (by omega)
 have hoq:os[q].length≤1000:=ho _ (gM hq);have hz:((0:Int)+(q:Int)).toNat=q:=by omega
 have h:=AZ (X:=Bool×Int) (body:=fun L' x=>Ix KK a0 l a2 ms (q:Int) (Ed l ms os q) out y1 L (fun v0 v1=>L' (v0,v1)) x.1 x.2) ms (fun j (s:Bool)=>(s,(j:Int))) (fun s x=>bif s then !os[q].contains (Bc l x.1) else false)
  (fun s=>L ((q+1:Nat):Int) (bif s then (Ed l ms os q).set q none else Ed l ms os q) (bif s then out++[os[q]] else out)) (fun _ _=>True)
  (fun L' j s hj _=>by
   refine⟨trivial,?_⟩;have hA:=Ea hl (X8 (hm _ (gM hj)));have hB:=Rw hoq;unfold Ix;generalize QJ KK=A at hA ⊢;generalize UM KK=B at hB ⊢;simp only;rw[in1 hj,in0,gd hj,As (by omega),hg,hlen,in0,in1 hq]
   cases s
   ·simp only[aS,nF,oT,tO,cT,cF,oB,Ald]
   ·rw[cnT (show ((true&&true)||!true)=true from rfl),cnT (show (Option.isSome (some os[q])||!true)=true from rfl),cnT (show ((true&&true)||!true)=true from rfl),cnT (rfl:true=true),hA,cnT (rfl:true=true),oB,cnT (rfl:true=true),cnT (rfl:true=true),AjN,hB,oB])
  (fun L' s _=>by
   unfold Ix;simp only;rw[AX,cF,hg,hlen,in0,in1 hq,As (by omega),hz]
   cases s
   ·simp only[cF]
   ·simp only[aS,cT,Ald,AjN,Ai5];rw[Rn (by omega),cT]) KK 0 true (by omega) (by have:=ET (n:=ms.length) (by omega);omega) trivial
 unfold GB;refine h.trans ?_;rw[AiR,LC,Ai5,Vf l ms os hq]
theorem Vg (f:Int) (l:Lt) {g:List Mo} (hn:g.length≤1048576) {ms:List Ma} (hm:ms.length≤1048576):WI KK f l g ms=some (H6 f l g ms):=by
 unfold WI WH H6;rw[Rv f l hn hm,oB];cases h:Bj f l g (BU ms) != 0
 ·have h0:Bj f l g (BU ms)=0:=by simpa using h
  obtain⟨hG,hb⟩:=NC h0;obtain⟨hv,hl⟩:=PJ hb;have hos:=JY hG.la g;rw[cF,cF,NE hG,oB,h0];have hh:=AZ (X:=Int×List (Option (List Vc))×List (List Vc)) (body:=fun L x=>GC KK f l g ms 0 (fun c0 c1 c2 d0 d1=>GB KK f l g ms c0 c1 c2 0 (fun v0 v1 v2=>L (v0,v1,v2)) KK d0 d1) (fun v0 v1 v2=>L (v0,v1,v2)) x.1 x.2.1 x.2.2) (BF l g) (fun q (s:List (List Vc))=>((q:Int),Ed l ms (BF l g) q,s)) (fun s o=>bif CI l ms o then s++[o] else s) (fun s=>some (s,(0:Int))) (fun q s=>s.length≤q)
   (fun L q s hq hi=>by
    refine⟨?_,?_⟩
    ·cases CI l ms (BF l g)[q]<;>simp<;>omega
    unfold GC;simp only;rw[JX l ms (BF l g) (by omega),in1 hq,cT]
    exact Ya hG.la f g hv (by omega) (fun o ho=>by have:=(HA hG ho).2;omega) (by omega) hq s hi 0 (fun v0 v1 v2=>L (v0,v1,v2)))
   (fun L s hi=>by
    unfold GC;simp only;rw[JX l ms (BF l g) (AiK _),AX,cF]) KK 0 [] (by omega) (by have:=ET (n:=(BF l g).length) (by omega);omega) (by simp)
  unfold MV;have e0:Ed l ms (BF l g) 0=(BF l g).map some:=by simp[Ed]
  rw[← e0];refine hh.trans ?_;have hf:=D8 (CI l ms) (fun o:List Vc=>o) (BF l g) [];rw[List.map_id',Ai3] at hf;rw[AiR,hf]
 ·rfl
theorem AaL {l:Lt} (hl:IsL l) {ms:List Ma} (hm:∀ x∈ms,C1 x.1=true) (hn:ms.length≤1000) {o:List Vc} (ho:o.length≤1000):O4 KK o ms l=some (!CI l ms o):=by
 unfold O4;rw[Dx hn _ (fun x=>o.contains (Bc l x.1)) (fun x hx=>by
  unfold Aeh;rw[DP hl (X8 (hm x hx)),oB,KQ ho];rfl),oB]
 congr 1;unfold CI;rw[List.all_eq_not_any_not];simp
theorem Vh (f:Int) (l:Lt) {g:List Mo} (hn:g.length≤1048576) (ms:List Ma):W6 KK f l g ms=some (H6 f l g ms):=by
 unfold W6 H6;rw[NF f l hn,oB];cases h:Bj f l g (BU ms) != 0
 ·have h0:Bj f l g (BU ms)=0:=by simpa using h
  obtain⟨hG,hb⟩:=NC h0;obtain⟨hv,hl⟩:=PJ hb;have hos:=JY hG.la g;rw[cF,cF,PH hG,oB];have hfn:∀ o∈BF l g,O4 KK o ms l=some (!CI l ms o):=fun o ho=>AaL hG.la hv (by omega) (by have:=(HA hG ho).2;omega)
  have hd:Aaj KK (BF l g) (fun z3=>O4 KK z3 ms l)=some ((BF l g).filter (CI l ms)):=by
   unfold Aaj YQ;rw[if_pos ⟨fun i=>by
    show (O4 KK (BF l g)[i.1] ms l).isSome=true;rw[hfn _ (gM i.2)];rfl,by omega⟩]
   congr 1;refine List.filter_congr fun o ho=>?_;show (!(O4 KK o ms l).getD false)=CI l ms o;rw[hfn o ho];simp
  simp only;rw[hd,oB]
 ·rfl
theorem Vi {f:Int} {l:Lt} {g:List Mo} {ms:List Ma}:(H6 f l g ms).1.length≤1000∧∀ o∈(H6 f l g ms).1,o.length≤1000:=by
 unfold H6;cases h:Bj f l g (BU ms) != 0
 ·have h0:Bj f l g (BU ms)=0:=by simpa using h
  have hG:=(NC h0).1;have:=JY hG.la g;rw[cF];refine⟨?_,fun o ho=>?_⟩
  ·have:=Aj2 (CI l ms) (BF l g);simp only;omega
  ·have:=(HA hG (AjK.1 ho).1).2;omega
 ·simp
theorem Ee (a0:Int) (a1:Int×Int×Int) (a2:List ((Int×Int×Int×Int)×Int×Int)) (a3:List ((Int×Int)×Int)) (h:WfA [(.int .i64),(.cons (.int .i64) (.cons (.int .i64) (.int .i64))),(.list 96 (.cons (.cons (.int .i64) (.cons (.int .i64) (.cons (.int .i64) (.int .i64)))) (.cons (.int .i64) (.int .i64)))),(.list 135 (.cons (.cons (.int .i64) (.int .i64)) (.int .i64)))] (a0,a1,a2,a3,())):∃ K,f5G K a0 a1 a2 a3=some true:=by
 refine⟨KK,?_⟩;have hlen2:a2.length≤maxLen∧a3.length≤maxLen:=by
  simp only[WfA,Wf] at h;exact⟨h.2.2.1.1,h.2.2.2.1.1⟩
 unfold f5G f7G Ad1 f9G;by_cases hb:(a2.length:Int)≤1048576
 ·obtain⟨e1,e2⟩:=Px (left:=1048576) (by omega) (by omega) hb
  rw[e1,cF,e2,oB,dF (by omega),cF]
  by_cases hb2:(a3.length:Int)≤1048576-(a2.length:Int)
  ·obtain⟨e3,e4⟩:=Px (left:=1048576-(a2.length:Int)) (by omega) (by omega) hb2
   rw[e3,cF,e4,oB,dF (by omega),cF]
   simp only[oB];have h2:a2.length≤1048576:=by omega
   have h3:a3.length≤1048576:=by omega
   rw[Nx h2,Rs h3];simp only[oB];rw[Vg a0 a1 h2 h3,Vh a0 a1 h2];obtain⟨hr1,hr2⟩:=Vi (f:=a0) (l:=a1) (g:=a2) (ms:=a3);obtain⟨r1,⟨m1,_⟩,hm1⟩:=Ij a2 (k:=1) (by omega) (by omega) h2
   obtain⟨r3,⟨m3,_⟩,hm3⟩:=KP a3 (k:=r1.2) (by omega) (by omega) h3
   obtain⟨r2,⟨m2,hh⟩,hm2⟩:=KR (H6 a0 a1 a2 a3).1 hr1 hr2;simp only[oB];rw[Rz hr1 hr2];simp only[oB,oT,cT,nT,bne_self_eq_false,cF];rw[Ny h2];simp only[oB,nT,cF];rw[Rt h3];simp only[oB,nT,cF];rw[hm1,oB,hm3,oB,dF (show ¬ r3.2<0 by omega)]
   simp only[oB,oT,cT,nT,nF,bne_self_eq_false,cF];rw[hm2];simp only[oB];rw[hh,oB,dF (show ¬ r2.2<0 by omega)]
   simp only[bne_self_eq_false,cF];rw[oB,dF (show ¬ r2.2<0 by omega)]
   simp only[bne_self_eq_false,cF]
  ·rw[Py (left:=1048576-(a2.length:Int)) (by omega) (by omega) hlen2.2 hb2]
   rfl
 ·rw[Py (left:=1048576) (by omega) (by omega) hlen2.1 hb]
  rfl
end Go.Proofs.YteheolldcpjkcaaGreat.X
