/- Plain facts: names, strokes and marks that a code draws. -/
import Derived.Test.YteheolldcpjkcaaGreatQuMT
import Derived.Test.YteheolldcpjkcaaGreatQuNS
namespace Go.Proofs.YteheolldcpjkcaaGreat.X
open Go
set_option linter.unusedSimpArgs false
set_option linter.unusedVariables false
theorem Ad9 {c:List Int} {t:Int×Int} (h:Src c t):∃ t' v,Xw KK (c,t)=some (t',v)∧Src c t':=by
 unfold Xw;obtain⟨t1,r1,e1,h1,_⟩:=AM h 40;rw[e1,oB];simp only;cases r1==0
 ·rw[cF];obtain⟨t2,r2,e2,h2,_⟩:=DP h1 (l:=[(4:Int),9,30]) (by simp)
  rw[e2,oB];simp only;obtain⟨t3,r3,e3,h3,_⟩:=AM h2 (w ((w ((2:Int)*r2))+(1:Int)));rw[e3,oB];simp only;obtain⟨t4,r4,e4,h4,_⟩:=AM h3 (w ((w ((2:Int)*r2))+(1:Int)));rw[e4];exact⟨t4,_,rfl,h4⟩
 ·rw[cT];obtain⟨t2,r2,e2,h2,_⟩:=DP h1 (l:=[(-1000:Int),1000,1001,0]) (by simp)
  rw[e2,oB];simp only;obtain⟨t3,r3,e3,h3,_⟩:=DP h2 (l:=[(-1001:Int),1000,0]) (by simp)
  rw[e3];exact⟨t3,_,rfl,h3⟩
theorem MS {c:List Int} {t0:Int×Int}:∀ (n k:Nat) (t:Int×Int) (s:List (Vc×Int)),Src c t→s.length+k≤100→k<n →
  ∃ t' r,KU KK (c,t0) n (k:Int) t.1 t.2 s=some (t',r)∧Src c t'∧r.length≤200
 | 0,k,_,_,_,_,h=>by omega
 | n+1,k,t,s,h,hk,hn=>by
  show ∃ t' r,P8 KK (c,t0) (fun v0 v1 v2 v3=>KU KK (c,t0) n v0 v1 v2 v3) (k:Int) t.1 t.2 s=some (t',r)∧Src c t'∧r.length≤200;unfold P8;have et:((t.1,t.2):Int×Int)=t:=rfl;simp only;rw[et];cases k with
  | zero =>
   rw[dF (show ¬ ((0:Nat):Int)>0 by omega),cF]
   obtain⟨t1,r1,e1,h1,_⟩:=AM h 40;rw[e1,oB];simp only;cases r1==0
   ·rw[cF];cases r1==1
    ·exact⟨t1,s,rfl,h1,by omega⟩
    ·rw[cT];obtain⟨t2,r2,e2,h2,a2,b2⟩:=BC h1 (n:=2) (by omega)
     rw[e2,oB];simp only;have e3:(decide (0≤(w ((40:Int)+r2)))&&Nat.ble (w ((40:Int)+r2)).toNat (lim 24)&&((w ((40:Int)+r2))==(w ((40:Int)+r2))))=true:=by
      rw[AD (n:=40+r2) (by omega) (by omega),dT (show (0:Int)≤40+r2 by omega),HX (by omega)];simp
     rw[e3,cT];refine⟨t2,_,rfl,h2,?_⟩;rw[Ars,AD (n:=40+r2) (by omega) (by omega)]
     omega
   ·rw[cT];obtain⟨t2,v,e2,h2⟩:=Ad9 h1;rw[e2,oB];simp only;obtain⟨t3,r3,e3,h3,_⟩:=DP h2 (l:=[(-1:Int),9,10]) (by simp)
    rw[e3,oB,HX (by simp;omega)]
    exact⟨t3,_,rfl,h3,by simp;omega⟩
  | succ k =>
   rw[dT (show ((k+1:Nat):Int)>0 by omega),cT]
   obtain⟨t1,r1,e1,h1,_⟩:=AM h 9;rw[e1,oB];simp only;obtain⟨t2,r2,e2,h2,_⟩:=AM h1 9;rw[e2,oB];simp only;obtain⟨t3,r3,e3,h3,_⟩:=AM h2 3;rw[e3,oB,HX (by simp;omega),cT,AD (n:=((k+1:Nat):Int)-1) (by omega) (by omega)]
   have ek:((k+1:Nat):Int)-1=(k:Int):=by omega
   rw[ek];exact MS n k t3 _ h3 (by simp;omega) (by omega)
theorem MT {c:List Int} {t:Int×Int} (h:Src c t):∃ t' r,SN KK (c,t)=some (t',r)∧Src c t'∧r.length≤200:=by
 unfold SN U5;obtain⟨t1,r1,e1,h1,a1,b1⟩:=BC h (n:=7) (by omega)
 obtain⟨k,rfl⟩:∃ k:Nat,r1=(k:Int):=⟨r1.toNat,by omega⟩
 rw[e1,oB];exact MS KK k t1 [] h1 (by simp;omega) (by simp only[KK];omega)
theorem IV {c:List Int} {t0:Int×Int} {p:Pt} (hp:IsP p) {y1:Bool} {y2:(Int×Int)×Int}:∀ (n k:Nat) (t:Int×Int) (s:List (Vc×Int)),Src c t→s.length+k≤100→k<n →
  ∃ t' r,KW KK (c,t0) p y1 y2 n (k:Int) t.1 t.2 s=some (t',r)∧Src c t'∧r.length≤200
 | 0,k,_,_,_,_,h=>by omega
 | n+1,k,t,s,h,hk,hn=>by
  show ∃ t' r,P9 KK (c,t0) p y1 y2 (fun v0 v1 v2 v3=>KW KK (c,t0) p y1 y2 n v0 v1 v2 v3) (k:Int) t.1 t.2 s=some (t',r)∧Src c t'∧r.length≤200;unfold P9;have et:((t.1,t.2):Int×Int)=t:=rfl;simp only;rw[et];cases k with
  | zero =>
   rw[dF (show ¬ ((0:Nat):Int)>0 by omega),cF]
   by_cases h0:0<s.length
   ·rw[dT (show (s.length:Int)>0 by omega)]
    simp only[nT,oT,cT];obtain⟨t1,r1,e1,h1,_⟩:=AM h 4;rw[e1,oB];simp only;cases r1==0
    ·exact⟨t1,s,rfl,h1,by omega⟩
    ·rw[cT];obtain⟨t2,r2,e2,h2,a2,b2⟩:=BC h1 (n:=(s.length:Int)) (by omega)
     obtain⟨j,rfl⟩:∃ j:Nat,r2=(j:Int):=⟨r2.toNat,by omega⟩
     rw[e2,oB];simp only;obtain⟨t3,r3,e3,h3,_⟩:=AM h2 3;rw[e3,oB,in0,in1 (show j<s.length by omega)]
     exact⟨t3,_,rfl,h3,by rw[Aq4];omega⟩
   ·rw[dF (show ¬ (s.length:Int)>0 by omega)]
    exact⟨t,s,rfl,h,by omega⟩
  | succ k =>
   rw[dT (show ((k+1:Nat):Int)>0 by omega),cT]
   obtain⟨t1,r1,e1,h1,a1,b1⟩:=BC h (n:=13) (by omega)
   rw[e1,oB];simp only;obtain⟨t2,r2,e2,h2,a2,b2⟩:=BC h1 (n:=13) (by omega)
   rw[e2,oB];simp only;rw[AD (n:=r1-5) (by omega) (by omega),AD (n:=r2-5) (by omega) (by omega),Tm hp (v:=(r1-5,r2-5)) (by unfold Sm;simp only;omega),oB,HX (by simp;omega),cT,AD (n:=((k+1:Nat):Int)-1) (by omega) (by omega)]
   have ek:((k+1:Nat):Int)-1=(k:Int):=by omega
   rw[ek];exact IV hp n k t2 _ h2 (by simp;omega) (by omega)
theorem IW {c:List Int} {t:Int×Int} (h:Src c t) (p:Pt):∃ t' r,Ot KK (c,t) p=some (t',r)∧Src c t'∧r.length≤200:=by
 unfold Ot U6;rw[EP,oB];cases hb:okP p
 ·simp only[nF,nT,oT,cT,cF,oB];obtain⟨t1,r1,e1,h1,hr⟩:=MT h;rw[e1];exact⟨t1,r1,rfl,h1,hr⟩
 ·have hp:=TA hb;simp only[nF,nT,oT,cT,cF];obtain⟨t1,r1,e1,h1,_⟩:=AM h 5;rw[e1,oB];simp only;cases r1==0
  ·rw[cF];obtain⟨t2,r2,e2,h2,a2,b2⟩:=BC h1 (n:=9) (by omega)
   obtain⟨k,rfl⟩:∃ k:Nat,r2=(k:Int):=⟨r2.toNat,by omega⟩
   rw[e2,oB];exact IV hp KK k t2 [] h2 (by simp;omega) (by simp only[KK];omega)
  ·rw[cT];obtain⟨t2,r2,e2,h2,hr⟩:=MT h1;rw[e2];exact⟨t2,r2,rfl,h2,hr⟩
end Go.Proofs.YteheolldcpjkcaaGreat.X
