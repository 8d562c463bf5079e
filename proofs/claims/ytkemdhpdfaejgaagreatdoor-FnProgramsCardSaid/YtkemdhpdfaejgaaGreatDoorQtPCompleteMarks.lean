/- The plain law of CompleteMarks: both sides give each cell the colour of the last mark in its orbit. -/
import Derived.Test.YtkemdhpdfaejgaaGreatDoorQtMS
import Derived.Test.YtkemdhpdfaejgaaGreatDoorQtPTwoColourPattern
namespace Go.Proofs.YtkemdhpdfaejgaaGreatDoor.X
open Go
set_option linter.unusedSimpArgs false
set_option linter.unusedVariables false
def IX (l:Lt) (ns:List Int) (ms:List Ma) (rest k:Int):Int:=ms.foldl (fun c x=>bif nmS l ns x==k then x.2 else c) rest
def GV (l:Lt) (g:List Mo) (ms:List Ma) (rest:Int):List Int:=(AP l g).map (IX l (AP l g) ms rest)
def Lm (l:Lt) (g:List Mo) (ms:List Ma) (s:List Int):List Int:=ms.foldl (fun s x=>Cn l x.2 (Bc l g (AX l x.1)) s) s
theorem AkH {f:Int} {l:Lt} {g:List Mo} {ms:List Ma} {rest:Int} {q:Nat} (hq:q<ms.length) (hqn:q≤1000) {y1:Int} {y2:Bool} {y3:Int×Int×Bool} {y5:Pt} {o:List Vc} (hl:IsL l) (ho:∀ u∈o,Ah l u=true) (hn:o.length≤1000) {L:Int→List Int→Option (Pt×Int)} {t:List Int} (ht:t.length=(Aa l).length) :
  M1 KK f l g ms rest (q:Int) y1 y2 y3 y5 o L KK 0 t=L ((q+1:Nat):Int) (Cn l ms[q].2 o t):=by
 have hh:=AJ (R:=Pt×Int) (body:=fun L' x=>Id KK f l g ms rest (q:Int) y1 y2 y3 y5 o L (fun v0 v1=>L' (v0,v1)) x.1 x.2) o (fun q s=>((q:Int),s)) (fun s u=>s.set (A8 l u) ms[q].2) (fun t=>L ((q+1:Nat):Int) t) (fun q s=>s.length=(Aa l).length)
  (fun L' i t hi hit=>by
   refine⟨by rw[ACg];exact hit,?_⟩
   show Id KK f l g ms rest (q:Int) y1 y2 y3 y5 o L (fun v0 v1=>L' (v0,v1)) (i:Int) t=_;unfold Id;have hlt:=Ck hl o[i];rw[in1 hi,in0,gd hi,gd hq];simp only[aS,cT];rw[FS hl (ho _ (gM hi)),oB,in0,in1 (show A8 l o[i]<t.length by omega),Af (by omega)]
   have e1:((0:Int)+((A8 l o[i]:Nat):Int)).toNat=A8 l o[i]:=by omega
   simp only[aS,cT,e1])
  (fun L' t hit=>by
   show Id KK f l g ms rest (q:Int) y1 y2 y3 y5 o L (fun v0 v1=>L' (v0,v1)) (o.length:Int) t=_;unfold Id;rw[AO,cF,Af (by omega)]) KK 0 t (by omega) (by simp only[KK];omega) ht
 rw[ABb] at hh;exact hh
theorem ZW {f:Int} {l:Lt} {g:List Mo} (h:Bj f l g) {ms:List Ma} (hm:∀ x∈ms,Ba x.1=true) (hn:ms.length≤1000) {rest y1:Int} {y2:Bool} {y3:Int×Int×Bool} {y5:List Int} {t:List Int} (ht:t.length=(Aa l).length):TI KK f l g ms rest y1 y2 y3 (f,l,y5) KK 0 t=some ((f,l,Lm l g ms t),0):=by
 have hgl:=h.len;have hh:=AJ (R:=Pt×Int) (body:=fun L x=>Gl KK f l g ms rest y1 y2 y3 (f,l,y5) (fun c0 c1 d0 d1=>M1 KK f l g ms rest c0 y1 y2 y3 (f,l,y5) c1 (fun v0 v1=>L (v0,v1)) KK d0 d1) (fun v0 v1=>L (v0,v1)) x.1 x.2) ms (fun q s=>((q:Int),s)) (fun s x=>Cn l x.2 (Bc l g (AX l x.1)) s) (fun s=>some ((f,l,s),0)) (fun q s=>s.length=(Aa l).length)
  (fun L q t hq hi=>by
   refine⟨by rw[C8];exact hi,?_⟩
   show Gl KK f l g ms rest y1 y2 y3 (f,l,y5) _ (fun v0 v1=>L (v0,v1)) (q:Int) t=_;unfold Gl;have hc:=AM h.la ms[q].1;rw[in1 hq,in0,gd hq,DD h.la (OL (hm _ (gM hq)))];simp only[aS,cT,oB];rw[OH h.la (by omega) h.good (EE h.la hc),oB]
   exact AkH hq (by omega) h.la (fun u hu=>CJ h hu) (by have:=OE l g (AX l ms[q].1);omega) hi)
  (fun L t hi=>by
   show Gl KK f l g ms rest y1 y2 y3 (f,l,y5) _ (fun v0 v1=>L (v0,v1)) (ms.length:Int) t=_;unfold Gl;rw[AO,cF]) KK 0 t (by omega) (by simp only[KK];omega) ht
 rw[ABb] at hh;exact hh
theorem Ry {f:Int} {l:Lt} {g:List Mo} (h:Bj f l g) {u:Vc} (hu:Ah l u=true):∀ (ms:List Ma) (s:List Int) (c:Int),s.length=(Aa l).length→s[A8 l u]? = some c→(Lm l g ms s)[A8 l u]? = some (IX l (AP l g) ms c (ixS l g u))
 | [],s,c,_,hc=>hc
 | x :: ms,s,c,hs,hc=>by
  show (Lm l g ms (Cn l x.2 (Bc l g (AX l x.1)) s))[A8 l u]? = some (IX l (AP l g) ms (bif nmS l (AP l g) x==ixS l g u then x.2 else c) (ixS l g u));refine Ry h hu ms _ _ (by rw[C8];exact hs) ?_
  rw[EI h.la _ hu _ _ (fun y hy=>CJ h hy) (by rw[hs];exact Ck h.la u),Aku h.la,Km h hu (AM h.la _),hc]
  by_cases hm:u∈Bc l g (AX l x.1)
  ·rw[if_pos hm,AA6.2 hm];rfl
  ·rw[if_neg hm];have:(Bc l g (AX l x.1)).contains u=false:=by
    cases hx:(Bc l g (AX l x.1)).contains u
    ·rfl
    ·exact absurd (AA6.1 hx) hm
   rw[this];rfl
theorem OW (l:Lt) (g:List Mo):∀ (ms:List Ma) (s:List Int),(Lm l g ms s).length=s.length
 | [],_=>rfl
 | x :: ms,s=>by
  show (Lm l g ms (Cn l x.2 (Bc l g (AX l x.1)) s)).length=_;rw[OW l g ms,C8]
theorem AkI {l:Lt} (hl:IsL l) (c:Int):Cn l c (Aa l) (List.replicate (Aa l).length 0)=List.replicate (Aa l).length c:=by
 apply ACi
 intro k;by_cases hk:k<(Aa l).length
 ·have hc:Ah l (Aa l)[k]=true:=Ay (gM hk);have e:=Bb hl hk;have:=EI hl c hc (Aa l) (List.replicate (Aa l).length 0) (fun x hx=>Ay hx) (by simp;omega)
  rw[e,if_pos (gM hk)] at this;rw[this,ACd,if_pos hk]
 ·rw[ABu (by rw[C8];simp;omega),ABu (by simp;omega)]
theorem AfY {f:Int} {l:Lt} {g:List Mo} (h:Bj f l g) (ms:List Ma) (rest:Int):Lm l g ms (List.replicate (Aa l).length rest)=GV l g ms rest:=by
 apply ACi
 intro k;by_cases hk:k<(Aa l).length
 ·have hc:Ah l (Aa l)[k]=true:=Ay (gM hk);have e:=Bb h.la hk;have h1:=Ry h hc ms (List.replicate (Aa l).length rest) rest (by simp) (by rw[ACd,if_pos (Ck h.la _)])
  rw[e] at h1;rw[h1];unfold GV;have h2:=Lg h.la g hc;rw[e] at h2;rw[ABn,h2];rfl
 ·rw[ABu (by rw[OW];simp;omega),ABu (by unfold GV;rw[ABf,DL];omega)]
def AkJ (f:Int) (l:Lt) (g:List Mo) (ms:List Ma) (rest:Int):Pt×Int:=bif BN f l g (DK ms) != 0 then (dP,BN f l g (DK ms)) else bif okC rest then (bif (cfO l (AP l g) ms 0 ms).2.2 then (dP,5) else ((f,l,GV l g ms rest),0)) else (dP,2)
theorem AfZ (f:Int) (l:Lt) {g:List Mo} (hn:g.length≤1048576) (ms:List Ma) (rest:Int):WN KK f l g ms rest=some (AkJ f l g ms rest):=by
 unfold WN Ai9 AkJ;rw[Uh f l hn,oB];cases h:BN f l g (DK ms) != 0
 ·have h0:BN f l g (DK ms)=0:=by simpa using h
  obtain⟨hG,hb⟩:=Nd h0;obtain⟨hv,hl⟩:=Akp hb;have hN:=AK hG.la;simp only[cF];unfold AiR;rw[DE,oB,oB,show decide (0≤rest∧rest≤9)=okC rest from rfl]
  cases okC rest
  ·rfl
  ·simp only[nT,cF,cT];rw[Ql hG hv (by omega),oB]
   cases (cfO l (AP l g) ms 0 ms).2.2
   ·simp only[cF];rw[J6 hG.la,oB,Z5 hG.la f rest (fun u hu=>Ay hu) (by omega),oB,AkI hG.la]
    refine (ZW hG hv (by omega) (by simp)).trans ?_
    rw[AfY hG]
   ·rfl
 ·simp only[cT];rfl
end Go.Proofs.YtkemdhpdfaejgaaGreatDoor.X
