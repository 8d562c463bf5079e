/- The plain law of CompleteMarks: both sides give each cell the colour of the last mark in its orbit. -/
import Derived.Test.YteheolldcpjkcaaGreatQuMS
import Derived.Test.YteheolldcpjkcaaGreatQuPTwoColourPattern
namespace Go.Proofs.YteheolldcpjkcaaGreat.X
open Go
set_option linter.unusedSimpArgs false
set_option linter.unusedVariables false
def FD (l:Lt) (ns:List Int) (ms:List Ma) (rest k:Int):Int:=ms.foldl (fun c x=>bif nmS l ns x==k then x.2 else c) rest
def Kq (l:Lt) (g:List Mo) (ms:List Ma) (rest:Int):List Int:=(Ax l g).map (FD l (Ax l g) ms rest)
theorem Aea {f:Int} {l:Lt} {g:List Mo} (h:Bv f l g) {ms:List Ma} (hm:∀ x∈ms,Cr x.1=true) (hn:ms.length≤1000) {rest y1:Int} {y2:Bool} {y20:Int×Int×Bool} {k:Nat} (hk:k<(Ax l g).length) {s:List Int} (hs:s.length≤1000) {L:Int→List Int→Option (Pt×Int)} :
  La KK f l g ms rest (k:Int) s y1 y2 (Ax l g) y20 L KK rest 0=L ((k+1:Nat):Int) (s++[FD l (Ax l g) ms rest (Ax l g)[k]]):=by
 have hN:=Be h.la;have hL:=Ca l g;have hh:=AQ (R:=Pt×Int) (body:=fun L' x=>G9 KK f l g ms rest (k:Int) s y1 y2 (Ax l g) y20 L (fun v0 v1=>L' (v0,v1)) x.1 x.2) ms (fun q c=>(c,(q:Int))) (fun c x=>bif nmS l (Ax l g) x==(Ax l g)[k] then x.2 else c) (fun c=>L ((k+1:Nat):Int) (s++[c])) (fun _ _=>True)
  (fun L' q c hq _=>by
   refine⟨trivial,?_⟩;show G9 KK f l g ms rest (k:Int) s y1 y2 (Ax l g) y20 L (fun v0 v1=>L' (v0,v1)) c (q:Int)=_;unfold G9;have n1:AY l ms[q].1<(Ax l g).length:=by rw[hL];exact BX h.la _
   rw[in1 hq,in0,gd hq,Ez h.la (EA (hm _ (gM hq)))];simp only[aS,cT,oB];rw[in0,in1 n1,in0,in1 hk,AhA,gd hk,Ak (by omega)]
   simp only[aS,cT];unfold nmS;cases (Ax l g).getD (AY l ms[q].1) 0==(Ax l g)[k]<;>rfl)
  (fun L' c _=>by
   show G9 KK f l g ms rest (k:Int) s y1 y2 (Ax l g) y20 L (fun v0 v1=>L' (v0,v1)) c (ms.length:Int)=_;unfold G9;rw[AS,cF,HG (by simp;omega),cT,Ak (by omega)]) KK 0 rest (by omega) (by simp only[KK];omega) trivial
 rw[Aqq] at hh;exact hh
theorem VL {f:Int} {l:Lt} {g:List Mo} (h:Bv f l g) {ms:List Ma} (hm:∀ x∈ms,Cr x.1=true) (hn:ms.length≤1000) {rest y1:Int} {y2:Bool} {y20:Int×Int×Bool}:Qt KK f l g ms rest y1 y2 (Ax l g) y20 KK 0 []=some ((f,l,Kq l g ms rest),0):=by
 have hN:=Be h.la;have hL:=Ca l g;have hh:=AQ (R:=Pt×Int) (body:=fun L x=>Fc KK f l g ms rest y1 y2 (Ax l g) y20 (fun c0 c1 d0 d1=>La KK f l g ms rest c0 c1 y1 y2 (Ax l g) y20 (fun v0 v1=>L (v0,v1)) KK d0 d1) (fun v0 v1=>L (v0,v1)) x.1 x.2) (Ax l g) (fun q s=>((q:Int),s)) (fun s k=>s++[FD l (Ax l g) ms rest k]) (fun s=>some ((f,l,s),0)) (fun q s=>s.length=q)
  (fun L q s hq hi=>by
   refine⟨by simp[hi],?_⟩
   show Fc KK f l g ms rest y1 y2 (Ax l g) y20 _ (fun v0 v1=>L (v0,v1)) (q:Int) s=_;unfold Fc;rw[in1 hq,cT];exact Aea h hm hn hq (by omega))
  (fun L s hi=>by
   show Fc KK f l g ms rest y1 y2 (Ax l g) y20 _ (fun v0 v1=>L (v0,v1)) ((Ax l g).length:Int) s=_;unfold Fc;rw[AS,cF]) KK 0 [] (by omega) (by simp only[KK];omega) rfl
 rw[Aqq,D1,AqM] at hh;exact hh
def JN (l:Lt) (g:List Mo) (ms:List Ma) (s:List Int):List Int:=ms.foldl (fun s x=>B9 l x.2 (A6 l g (AZ l x.1)) s) s
theorem Aeb {f:Int} {l:Lt} {g:List Mo} {ms:List Ma} {rest:Int} {q:Nat} (hq:q<ms.length) (hqn:q≤1000) {y1:Int} {y2:Bool} {y3:Int×Int×Bool} {y5:Pt} {o:List Vc} (hl:IsL l) (ho:∀ u∈o,Al l u=true) (hn:o.length≤1000) {L:Int→List Int→Option (Pt×Int)} {t:List Int} (ht:t.length=(Ab l).length) :
  K8 KK f l g ms rest (q:Int) y1 y2 y3 y5 o L KK 0 t=L ((q+1:Nat):Int) (B9 l ms[q].2 o t):=by
 have hh:=AQ (R:=Pt×Int) (body:=fun L' x=>G8 KK f l g ms rest (q:Int) y1 y2 y3 y5 o L (fun v0 v1=>L' (v0,v1)) x.1 x.2) o (fun q s=>((q:Int),s)) (fun s u=>s.set (AY l u) ms[q].2) (fun t=>L ((q+1:Nat):Int) t) (fun q s=>s.length=(Ab l).length)
  (fun L' i t hi hit=>by
   refine⟨by rw[Aq4];exact hit,?_⟩
   show G8 KK f l g ms rest (q:Int) y1 y2 y3 y5 o L (fun v0 v1=>L' (v0,v1)) (i:Int) t=_;unfold G8;have hlt:=BX hl o[i];rw[in1 hi,in0,gd hi,gd hq];simp only[aS,cT];rw[ET hl (ho _ (gM hi)),oB,in0,in1 (show AY l o[i]<t.length by omega),Ak (by omega)]
   have e1:((0:Int)+((AY l o[i]:Nat):Int)).toNat=AY l o[i]:=by omega
   simp only[aS,cT,e1])
  (fun L' t hit=>by
   show G8 KK f l g ms rest (q:Int) y1 y2 y3 y5 o L (fun v0 v1=>L' (v0,v1)) (o.length:Int) t=_;unfold G8;rw[AS,cF,Ak (by omega)]) KK 0 t (by omega) (by simp only[KK];omega) ht
 rw[Aqq] at hh;exact hh
theorem VM {f:Int} {l:Lt} {g:List Mo} (h:Bv f l g) {ms:List Ma} (hm:∀ x∈ms,Cr x.1=true) (hn:ms.length≤1000) {rest y1:Int} {y2:Bool} {y3:Int×Int×Bool} {y5:List Int} {t:List Int} (ht:t.length=(Ab l).length):Qr KK f l g ms rest y1 y2 y3 (f,l,y5) KK 0 t=some ((f,l,JN l g ms t),0):=by
 have hgl:=h.len;have hh:=AQ (R:=Pt×Int) (body:=fun L x=>E9 KK f l g ms rest y1 y2 y3 (f,l,y5) (fun c0 c1 d0 d1=>K8 KK f l g ms rest c0 y1 y2 y3 (f,l,y5) c1 (fun v0 v1=>L (v0,v1)) KK d0 d1) (fun v0 v1=>L (v0,v1)) x.1 x.2) ms (fun q s=>((q:Int),s)) (fun s x=>B9 l x.2 (A6 l g (AZ l x.1)) s) (fun s=>some ((f,l,s),0)) (fun q s=>s.length=(Ab l).length)
  (fun L q t hq hi=>by
   refine⟨by rw[CS];exact hi,?_⟩
   show E9 KK f l g ms rest y1 y2 y3 (f,l,y5) _ (fun v0 v1=>L (v0,v1)) (q:Int) t=_;unfold E9;have hc:=A5 h.la ms[q].1;rw[in1 hq,in0,gd hq,CU h.la (EA (hm _ (gM hq)))];simp only[aS,cT,oB];rw[MH h.la (by omega) h.good (D6 h.la hc),oB]
   exact Aeb hq (by omega) h.la (fun u hu=>Cu h hu) (by have:=MF l g (AZ l ms[q].1);omega) hi)
  (fun L t hi=>by
   show E9 KK f l g ms rest y1 y2 y3 (f,l,y5) _ (fun v0 v1=>L (v0,v1)) (ms.length:Int) t=_;unfold E9;rw[AS,cF]) KK 0 t (by omega) (by simp only[KK];omega) ht
 rw[Aqq] at hh;exact hh
theorem O0 {f:Int} {l:Lt} {g:List Mo} (h:Bv f l g) {u:Vc} (hu:Al l u=true):∀ (ms:List Ma) (s:List Int) (c:Int),s.length=(Ab l).length→s[AY l u]? = some c→(JN l g ms s)[AY l u]? = some (FD l (Ax l g) ms c (ixS l g u))
 | [],s,c,_,hc=>hc
 | x :: ms,s,c,hs,hc=>by
  show (JN l g ms (B9 l x.2 (A6 l g (AZ l x.1)) s))[AY l u]? = some (FD l (Ax l g) ms (bif nmS l (Ax l g) x==ixS l g u then x.2 else c) (ixS l g u));refine O0 h hu ms _ _ (by rw[CS];exact hs) ?_
  rw[Ea h.la _ hu _ _ (fun y hy=>Cu h hy) (by rw[hs];exact BX h.la u),Ad1 h.la,Q2 h hu (A5 h.la _),hc]
  by_cases hm:u∈A6 l g (AZ l x.1)
  ·rw[if_pos hm,Aqx.2 hm];rfl
  ·rw[if_neg hm];have:(A6 l g (AZ l x.1)).contains u=false:=by
    cases hx:(A6 l g (AZ l x.1)).contains u
    ·rfl
    ·exact absurd (Aqx.1 hx) hm
   rw[this];rfl
theorem MU (l:Lt) (g:List Mo):∀ (ms:List Ma) (s:List Int),(JN l g ms s).length=s.length
 | [],_=>rfl
 | x :: ms,s=>by
  show (JN l g ms (B9 l x.2 (A6 l g (AZ l x.1)) s)).length=_;rw[MU l g ms,CS]
theorem setCells {l:Lt} (hl:IsL l) (c:Int):B9 l c (Ab l) (List.replicate (Ab l).length 0)=List.replicate (Ab l).length c:=by
 apply Arj
 intro k;by_cases hk:k<(Ab l).length
 ·have hc:Al l (Ab l)[k]=true:=AN (gM hk);have e:=Bb hl hk;have:=Ea hl c hc (Ab l) (List.replicate (Ab l).length 0) (fun x hx=>AN hx) (by simp;omega)
  rw[e,if_pos (gM hk)] at this;rw[this,Ark,if_pos hk]
 ·rw[AqC (by rw[CS];simp;omega),AqC (by simp;omega)]
theorem AaH {f:Int} {l:Lt} {g:List Mo} (h:Bv f l g) (ms:List Ma) (rest:Int):JN l g ms (List.replicate (Ab l).length rest)=Kq l g ms rest:=by
 apply Arj
 intro k;by_cases hk:k<(Ab l).length
 ·have hc:Al l (Ab l)[k]=true:=AN (gM hk);have e:=Bb h.la hk;have h1:=O0 h hc ms (List.replicate (Ab l).length rest) rest (by simp) (by rw[Ark,if_pos (BX h.la _)])
  rw[e] at h1;rw[h1];unfold Kq;have h2:=JL h.la g hc;rw[e] at h2;rw[Aqt,h2];rfl
 ·rw[AqC (by rw[MU];simp;omega),AqC (by unfold Kq;rw[AqD,Ca];omega)]
def DL (f:Int) (l:Lt) (g:List Mo) (ms:List Ma) (rest:Int):Pt×Int:=bif AB f l g (AA ms) != 0 then (dP,AB f l g (AA ms)) else bif okC rest then (bif (cfO l (Ax l g) ms 0 ms).2.2 then (dP,5) else ((f,l,Kq l g ms rest),0)) else (dP,2)
theorem AaI (f:Int) (l:Lt) {g:List Mo} (hn:g.length≤1048576) {ms:List Ma} (hm:ms.length≤1048576) (rest:Int):AcZ KK f l g ms rest=some (DL f l g ms rest):=by
 unfold AcZ AcY DL;rw[HZ f l hn hm,oB];cases h:AB f l g (AA ms) != 0
 ·have h0:AB f l g (AA ms)=0:=by simpa using h
  obtain⟨hG,hb⟩:=BJ h0;obtain⟨hv,hl⟩:=Dq hb;have e:(AB f l g (AA ms)==0)=true:=by simpa using h0
  simp only[e,oT,tO,cT,cF];rw[Tz,oB,show decide (0≤rest∧rest≤9)=okC rest from rfl]
  cases okC rest
  ·rfl
  ·simp only[nT,cF,cT];rw[CO hG,oB,GG hG.la (Ca l g) hv (by omega),oB]
   cases (cfO l (Ax l g) ms 0 ms).2.2
   ·simp only[cF];exact VL hG hv (by omega)
   ·rfl
 ·have e:(AB f l g (AA ms)==0)=false:=by simpa using h
  simp only[e,oT,tO,cT,cF,oB];rfl
theorem AaJ (f:Int) (l:Lt) {g:List Mo} (hn:g.length≤1048576) (ms:List Ma) (rest:Int):AcS KK f l g ms rest=some (DL f l g ms rest):=by
 unfold AcS AcR DL;rw[Fl f l hn,oB];cases h:AB f l g (AA ms) != 0
 ·have h0:AB f l g (AA ms)=0:=by simpa using h
  obtain⟨hG,hb⟩:=BJ h0;obtain⟨hv,hl⟩:=Dq hb;have hN:=Be hG.la;simp only[cF];unfold Acy;rw[DU,oB,oB,show decide (0≤rest∧rest≤9)=okC rest from rfl]
  cases okC rest
  ·rfl
  ·simp only[nT,cF,cT];rw[HJ hG hv (by omega),oB]
   cases (cfO l (Ax l g) ms 0 ms).2.2
   ·simp only[cF];rw[Mq hG.la,oB,VT hG.la f rest (fun u hu=>AN hu) (by omega),oB,setCells hG.la]
    refine (VM hG hv (by omega) (by simp)).trans ?_
    rw[AaH hG]
   ·rfl
 ·simp only[cT];rfl
theorem AaK {f:Int} {l:Lt} {g:List Mo} {ms:List Ma} {rest:Int}:(DL f l g ms rest).1.2.2.length≤1000:=by
 unfold DL;cases h:AB f l g (AA ms) != 0
 ·have h0:AB f l g (AA ms)=0:=by simpa using h
  have:=Be (BJ h0).1.la;have:=Ca l g;rw[cF];cases okC rest
  ·simp[dP]
  ·cases (cfO l (Ax l g) ms 0 ms).2.2
   ·simp only[cT,cF,Kq,AqD];omega
   ·simp[dP]
 ·simp[dP]
end Go.Proofs.YteheolldcpjkcaaGreat.X
