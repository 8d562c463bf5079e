/- A program: both sides take its lines and say the same of it. -/
import Derived.Test.YtkemdhpdfaejgaaGreatDoorQtSH
namespace Go.Proofs.YtkemdhpdfaejgaaGreatDoor.X
open Go
set_option linter.unusedSimpArgs false
set_option linter.unusedVariables false
theorem Ar1 (b:List UInt8):Aok KK (bs [83,72]) (mk b)=some (Lib.index [83,72] b):=by
 unfold Aok Am8;have e:bs [83,72]=mk [83,72]:=rfl;rw[e,Aq,B4,B4];rfl
theorem Ar2 (x:UInt8):Lib.index [83,72] [x]=if x=83 then 0 else if x=72 then 1 else -1:=by
 unfold Lib.index Lib.index Lib.index;by_cases h1:x=83
 ·subst h1;decide
 ·by_cases h2:x=72
  ·subst h2;decide
  ·simp[h1,h2]
theorem Amc {s:St} (h:GC s) (h3:s.1<4000) {line:List UInt8} (hl:line.length≤1048576):∃ r,AiG KK (XS s) (mk line)=some r∧r.2=(Cz s (spa 32 [] line)).2∧((Cz s (spa 32 [] line)).2=0→r.1=XS (Cz s (spa 32 [] line)).1)∧r.1.1=((s.1+1:Nat):Int):=by
 have hsz:=AtM hl;have hw1:w ((s.1:Int)+1)=((s.1+1:Nat):Int):=Af (by omega)
 have e32:bs [32]=mk [32]:=rfl;unfold AiG Y5;rw[e32,Lq (by omega),oB,Er]
 match hw:spa 32 [] line with
 | [] =>
  have:=(Eo 32 line []).2;rw[hw] at this;simp at this
 | [a] =>
  obtain⟨eF,eL,eM,eK,_,_⟩:=eqW a;have e2:((([a]:List (List UInt8)).length:Int) != (2:Int))=true:=rfl;have e3:((([a]:List (List UInt8)).length:Int)==(3:Int))=false:=rfl;have g0:(decide (0≤(0:Int))&&decide ((0:Int)<(([a]:List (List UInt8)).length:Int)))=true:=rfl;have k0:(([a].map mk).getD ((0:Int)+(0:Int)).toNat ByteArray.empty)=mk a:=rfl;simp only[e2,e3,g0,k0,eK,oT,tO,cT];rw[hw1];cases decide (a=wK)<;>exact⟨_,rfl,rfl,(fun h=>by cases h),rfl⟩
 | a :: b :: c :: d :: r =>
  obtain⟨eF,eL,eM,eK,_,_⟩:=eqW a;have e2:(((a :: b :: c :: d :: r).length:Int) != (2:Int))=true:=by rw[bne_iff_ne];simp;omega
  have e3:(((a :: b :: c :: d :: r).length:Int)==(3:Int))=false:=by rw[bN];simp;omega
  have g0:(decide (0≤(0:Int))&&decide ((0:Int)<((a :: b :: c :: d :: r).length:Int)))=true:=by
   rw[dT (show (0:Int)<((a :: b :: c :: d :: r).length:Int) by simp;omega)]
   rfl
  have k0:(((a :: b :: c :: d :: r).map mk).getD ((0:Int)+(0:Int)).toNat ByteArray.empty)=mk a:=rfl;simp only[e2,e3,g0,k0,eK,oT,tO,cT];rw[hw1];cases decide (a=wK)<;>exact⟨_,rfl,rfl,(fun h=>by cases h),rfl⟩
 | [a,b] =>
  rw[hw] at hsz;have hb:=hsz b (by simp)
  obtain⟨eF,eL,eM,eK,_,_⟩:=eqW a;have e2:((([a,b]:List (List UInt8)).length:Int) != (2:Int))=false:=rfl;have e3:((([a,b]:List (List UInt8)).length:Int)==(3:Int))=false:=rfl;have g0:(decide (0≤(0:Int))&&decide ((0:Int)<(([a,b]:List (List UInt8)).length:Int)))=true:=rfl;have g1:(decide (0≤(1:Int))&&decide ((1:Int)<(([a,b]:List (List UInt8)).length:Int)))=true:=rfl;have k0:(([a,b].map mk).getD ((0:Int)+(0:Int)).toNat ByteArray.empty)=mk a:=rfl;have k1:(([a,b].map mk).getD ((0:Int)+(1:Int)).toNat ByteArray.empty)=mk b:=rfl;have hk3:(bif decide (a=wK) then false else false)=false:=by cases decide (a=wK)<;>rfl
  simp only[e2,e3,g0,g1,k0,k1,eF,eL,eM,eK,hk3,oT,tO,cT,cF];unfold Cz;rw[hw1];by_cases hF:a=wF
  ·rw[dT hF];simp only[if_pos hF,cT];rw[Ar1,oB,GY];unfold frO
   match b with
   | []=>exact⟨_,rfl,rfl,(fun h=>by cases h),rfl⟩
   | x :: y :: z =>
    have e1:(((x :: y :: z).length:Int) != (1:Int))=true:=by rw[bne_iff_ne];simp;omega
    rw[e1];simp only[cT];rw[if_neg (by simp),if_neg (by simp)]
    exact⟨_,rfl,rfl,(fun h=>by cases h),rfl⟩
   | [x] =>
    have e1:((([x]:List UInt8).length:Int) != (1:Int))=false:=rfl;rw[e1,Ar2];simp only[cF];have hst:Y8 KK ((s.1:Int)==(0:Int))=some (if s.1=0 then 0 else 5):=by
     unfold Y8;by_cases h0:s.1=0
     ·rw[h0];rfl
     ·have:((s.1:Int)==(0:Int))=false:=by rw[bN];omega
      rw[this,if_neg h0];rfl
    by_cases hS:x=83
    ·subst hS;rw[if_pos rfl,if_pos rfl,dF (by omega),cF,hst,oB]
     by_cases h0:s.1=0
     ·simp only[if_pos h0];exact⟨_,rfl,rfl,(fun _=>rfl),rfl⟩
     ·simp only[if_neg h0];exact⟨_,rfl,rfl,(fun h=>by cases h),rfl⟩
    ·by_cases hH:x=72
     ·subst hH;rw[if_neg (by decide),if_pos rfl,if_neg (by decide),if_pos rfl,dF (by omega),cF,hst,oB]
      by_cases h0:s.1=0
      ·simp only[if_pos h0];exact⟨_,rfl,rfl,(fun _=>rfl),rfl⟩
      ·simp only[if_neg h0];exact⟨_,rfl,rfl,(fun h=>by cases h),rfl⟩
     ·rw[if_neg hS,if_neg hH,if_neg (by simpa using hS),if_neg (by simpa using hH),dT (by omega),cT]
      exact⟨_,rfl,rfl,(fun h=>by cases h),rfl⟩
  ·rw[dF hF];simp only[if_neg hF,cF];by_cases hL:a=wL
   ·rw[dT hL];simp only[if_pos hL,cT];rw[Awy hb,oB];have hst:Y8 KK ((s.1:Int)==(1:Int))=some (if s.1=1 then 0 else 5):=by
     unfold Y8;by_cases h0:s.1=1
     ·rw[h0];rfl
     ·have:((s.1:Int)==(1:Int))=false:=by rw[bN];omega
      rw[this,if_neg h0];rfl
    cases hr:Qn b with
    | none=>exact⟨_,rfl,rfl,(fun h=>by cases h),rfl⟩
    | some l =>
     simp only[orL,nT,cF];rw[hst,oB];by_cases h1:s.1=1
     ·simp only[if_pos h1];exact⟨_,rfl,rfl,(fun _=>rfl),rfl⟩
     ·simp only[if_neg h1];exact⟨_,rfl,rfl,(fun h=>by cases h),rfl⟩
   ·rw[dF hL];simp only[if_neg hL,cF];by_cases hM:a=wM
    ·rw[dT hM];simp only[if_pos hM,cT];unfold Auw;rw[Ar0 hb,oB];cases hr:Mx b with
     | none=>exact⟨_,rfl,rfl,(fun h=>by cases h),rfl⟩
     | some m =>
      simp only[Al8,nT,cF];by_cases h2:s.1<2
      ·rw[dT (show ((s.1:Nat):Int)<2 by omega),if_pos h2]
       exact⟨_,rfl,rfl,(fun h=>by cases h),rfl⟩
      ·rw[dF (show ¬ ((s.1:Nat):Int)<2 by omega),if_neg h2,cF]
       by_cases h8:s.2.2.2.1.length=8
       ·have:((s.2.2.2.1.length:Int)==(8:Int))=true:=by rw[h8];rfl
        rw[this,if_pos h8];exact⟨_,rfl,rfl,(fun h=>by cases h),rfl⟩
       ·have:((s.2.2.2.1.length:Int)==(8:Int))=false:=by rw[bN];omega
        have hla:=h.la (by omega)
        have hfr:=h.fr (by omega)
        rw[this,if_neg h8,cF,Xk hfr hla,oB];cases hsu:GS s.2.1 s.2.2.1 m
        ·exact⟨_,rfl,rfl,(fun h=>by cases h),rfl⟩
        ·have hml:=h.ml;simp only[nT,cF,if_true];rw[Ec hla (m:=m) (Om (Ub (XR hr))),oB,Ea (by simp;omega)]
         exact⟨_,rfl,rfl,(fun _=>rfl),rfl⟩
    ·rw[dF hM];simp only[if_neg hM,cF];exact⟨_,rfl,rfl,(fun h=>by cases h),rfl⟩
 | [a,b,c] =>
  rw[hw] at hsz;have hb:=hsz b (by simp)
  have hc:=hsz c (by simp)
  obtain⟨eF,eL,eM,eK,_,_⟩:=eqW a;have e2:((([a,b,c]:List (List UInt8)).length:Int) != (2:Int))=true:=rfl;have e3:((([a,b,c]:List (List UInt8)).length:Int)==(3:Int))=true:=rfl;have g0:(decide (0≤(0:Int))&&decide ((0:Int)<(([a,b,c]:List (List UInt8)).length:Int)))=true:=rfl;have g1:(decide (0≤(1:Int))&&decide ((1:Int)<(([a,b,c]:List (List UInt8)).length:Int)))=true:=rfl;have g2:(decide (0≤(2:Int))&&decide ((2:Int)<(([a,b,c]:List (List UInt8)).length:Int)))=true:=rfl;have k0:(([a,b,c].map mk).getD ((0:Int)+(0:Int)).toNat ByteArray.empty)=mk a:=rfl;have k1:(([a,b,c].map mk).getD ((0:Int)+(1:Int)).toNat ByteArray.empty)=mk b:=rfl;have k2:(([a,b,c].map mk).getD ((0:Int)+(2:Int)).toNat ByteArray.empty)=mk c:=rfl;simp only[e2,e3,g0,g1,g2,k0,k1,k2,eK,oT,tO,cT];unfold Cz;rw[hw1];by_cases hK:a=wK
  ·rw[dT hK];simp only[if_pos hK,cT];unfold Auv;rw[XQ hb hc,oB];cases hv:rdV b with
   | none=>exact⟨_,rfl,rfl,(fun h=>by cases h),rfl⟩
   | some v =>
    cases hk:rdC c with
    | none=>exact⟨_,rfl,rfl,(fun h=>by cases h),rfl⟩
    | some k =>
     simp only[orK,nT,cF];by_cases hs2:s.1<2
     ·rw[dT (show ((s.1:Nat):Int)<2 by omega),if_pos hs2]
      exact⟨_,rfl,rfl,(fun h=>by cases h),rfl⟩
     ·rw[dF (show ¬ ((s.1:Nat):Int)<2 by omega),if_neg hs2,cF]
      by_cases h40:s.2.2.2.2.length=40
      ·have:((s.2.2.2.2.length:Int)==(40:Int))=true:=by rw[h40];rfl
       rw[this,if_pos h40];exact⟨_,rfl,rfl,(fun h=>by cases h),rfl⟩
      ·have:((s.2.2.2.2.length:Int)==(40:Int))=false:=by rw[bN];omega
       have hkl:=h.kl;rw[this,if_neg h40,cF,OA (by simp;omega)]
       exact⟨_,rfl,rfl,(fun _=>rfl),rfl⟩
  ·rw[dF hK];simp only[if_neg hK,cF];exact⟨_,rfl,rfl,(fun h=>by cases h),rfl⟩
def BF:List (List UInt8)→St→St×Int
 | [],s=>(s,0)
 | x :: r,s=>if (Cz s (spa 32 [] x)).2=0 then BF r (Cz s (spa 32 [] x)).1 else ((s.1+1,s.2),(Cz s (spa 32 [] x)).2)
theorem KA:∀ (ws:List (List UInt8)) {s:St},GC s→s.1+ws.length≤4000→(BF ws s).2=0→GC (BF ws s).1
 | [],s,h,_,_=>h
 | x :: r,s,h,hn,h0=>by
  rw[ABc] at hn;unfold BF at h0 ⊢;by_cases hc:(Cz s (spa 32 [] x)).2=0
  ·rw[if_pos hc] at h0 ⊢;obtain⟨h1,h2⟩:=h.next (by omega) hc
   exact KA r h1 (by omega) h0
  ·rw[if_neg hc] at h0;exact absurd h0 hc
abbrev SpC:=Option (Int×Lt×Int×List Mo×List Ma)×Int×Int
noncomputable def grS (s:St):List Mo:=(FG KK s.2.2.1 s.2.2.2.1).getD []
def cfS (l:Lt) (g:List Mo) (ms:List Ma):Bool:=(cfO l (AP l g) ms 0 ms).2.2
noncomputable def GD (s:St):Int:=if s.1<2 then 4 else if cfS s.2.2.1 (grS s) s.2.2.2.2=true then 1 else 0
theorem EL {s:St} (h:GC s) (h2:¬ s.1<2):FG KK s.2.2.1 s.2.2.2.1=some (grS s)∧Ob KK s.2.2.1 s.2.2.2.1=some (grS s)∧Gd' s.2.1 s.2.2.1 s.2.2.2.1 (grS s):=by
 have hm:=h.ml;obtain⟨g,e1,e2,e3⟩:=RG (f:=s.2.1) (h.la (by omega)) (fun m hmm=>(h.mo m hmm).2) (by omega)
 unfold grS;rw[e1];exact⟨rfl,e2,e3⟩
theorem Pm {x:List UInt8} {r:List (List UInt8)} {s:St}:BF (x :: r) s=if (Cz s (spa 32 [] x)).2=0 then BF r (Cz s (spa 32 [] x)).1 else ((s.1+1,s.2),(Cz s (spa 32 [] x)).2):=rfl
theorem RL {ls:List (List UInt8)} (hsz:∀ x∈ls,x.length≤1048576) (hn:ls.length≤3500) {a0:ByteArray}:∀ (n i:Nat) (s:St),GC s→s.1=i→i+1≤ls.length→ls.length-i<n →
  ∃ r,Oj KK a0 (ls.map mk) n (i:Int) s.2.1 s.2.2.1.1 s.2.2.1.2.1 s.2.2.1.2.2 (s.1:Int) s.2.2.2.1 s.2.2.2.2=some r ∧
   ((BF (ls.dropLast.drop i) s).2≠0→r.2=(((BF (ls.dropLast.drop i) s).1.1:Int),(BF (ls.dropLast.drop i) s).2)) ∧
   ((BF (ls.dropLast.drop i) s).2=0→r=(some (Pl (BF (ls.dropLast.drop i) s).1),0,GD (BF (ls.dropLast.drop i) s).1))
 | 0,i,s,_,_,_,h=>by omega
 | n+1,i,s,hI,hs,hi,h=>by
  show ∃ r,Zu KK a0 (ls.map mk) (fun v0 v1 v2 v3 v4 v5 v6 v7=>Oj KK a0 (ls.map mk) n v0 v1 v2 v3 v4 v5 v6 v7) (i:Int) s.2.1 s.2.2.1.1 s.2.2.1.2.1 s.2.2.1.2.2 (s.1:Int) s.2.2.2.1 s.2.2.2.2=some r∧_;unfold Zu;have hw:w ((i:Int)+1)=((i+1:Nat):Int):=Af (by omega)
  rw[Er,hw];by_cases hlt:i+1<ls.length
  ·have hd:ls.dropLast.drop i=ls[i] :: ls.dropLast.drop (i+1):=by
    have h1:i<ls.dropLast.length:=by rw[List.length_dropLast];omega
    rw[dC h1,List.getElem_dropLast]
   rw[in1 hlt,in0,in1 (show i<ls.length by omega),Pv (show i<ls.length by omega)]
   simp only[aS,cT];obtain⟨r,e,h1,h2⟩:=Amb hI (by omega) (hsz ls[i] (gM _))
   have e:Ajf KK (s.2.1,(s.2.2.1.1,s.2.2.1.2.1,s.2.2.1.2.2),(s.1:Int),s.2.2.2.1,s.2.2.2.2) (mk ls[i])=some r:=e;rw[e,oB,hd,Pm,← h1];by_cases h0:r.2=0
   ·have hb:(r.2 != (0:Int))=false:=by rw[h0];rfl
    rw[hb,cF,if_pos h0];have h0':=h1▸h0;obtain⟨k1,k2⟩:=hI.next (by omega) h0'
    rw[h2 h0'];exact RL hsz hn n (i+1) _ k1 (by omega) (by omega) (by omega)
   ·have hb:(r.2 != (0:Int))=true:=by rw[bne_iff_ne];exact h0
    rw[hb,cT,if_neg h0];refine⟨_,rfl,fun _=>?_,fun h=>absurd h h0⟩;rw[hs]
  ·have hii:i+1=ls.length:=by omega
   have hd:ls.dropLast.drop i=[]:=by rw[List.drop_eq_nil_iff,List.length_dropLast];omega
   rw[show decide (((i+1:Nat):Int)<(ls.length:Int))=false from dF (by omega),cF,hd]
   show ∃ r,_∧((0:Int)≠0→_)∧((0:Int)=0→r=(some (Pl s),0,GD s));unfold GD;by_cases h2:s.1<2
   ·rw[dT (show (s.1:Int)<2 by omega),cT,if_pos h2]
    exact⟨_,rfl,fun h=>absurd rfl h,fun _=>rfl⟩
   ·obtain⟨g1,g2,g3⟩:=EL hI h2;have hmm:∀ x∈s.2.2.2.2,Ba x.1=true:=fun x hx=>(hI.ma x hx).1;have hkl:=hI.kl;rw[dF (show ¬ (s.1:Int)<2 by omega),cF,if_neg h2]
    have g1':FG KK (s.2.2.1.1,s.2.2.1.2.1,s.2.2.1.2.2) s.2.2.2.1=some (grS s):=g1;rw[g1',oB];have g4:Qg KK (s.2.2.1.1,s.2.2.1.2.1,s.2.2.1.2.2) (grS s)=some (AP s.2.2.1 (grS s)):=DT g3.orb;rw[g4,oB];have g5:Afs KK (s.2.2.1.1,s.2.2.1.2.1,s.2.2.1.2.2) (AP s.2.2.1 (grS s)) s.2.2.2.2=some (cfO s.2.2.1 (AP s.2.2.1 (grS s)) s.2.2.2.2 0 s.2.2.2.2):=ON (hI.la (by omega)) (DL _ _) hmm (by omega)
    rw[g5,oB];unfold cfS;cases hcf:(cfO s.2.2.1 (AP s.2.2.1 (grS s)) s.2.2.2.2 0 s.2.2.2.2).2.2
    ·exact⟨_,rfl,fun h=>absurd rfl h,fun _=>rfl⟩
    ·exact⟨_,rfl,fun h=>absurd rfl h,fun _=>rfl⟩
noncomputable def KB (s:St):Pt:=(s.2.1,s.2.2.1,GV s.2.2.1 (grS s) s.2.2.2.2 0)
theorem Agt {s:St} (h:GC s):DK s.2.2.2.2=true:=by
 unfold DK;rw[aT];refine⟨AA3.2 fun x hx=>?_,dT h.kl⟩;unfold Rt;rw[(h.ma x hx).1,(h.ma x hx).2];rfl
theorem Agu {f:Int} (hf:okF f=true) {l:Lt} {g:List Mo} (h:Bj f l g):BN f l g true=0:=by
 unfold BN;rw[hf,Bt.2 h.la,h.gr];rfl
theorem Agv {s:St} (h:GC s) (h2:¬ s.1<2):WN KK s.2.1 s.2.2.1 (grS s) s.2.2.2.2 0=some (bif cfS s.2.2.1 (grS s) s.2.2.2.2 then (dP,5) else (KB s,0)):=by
 obtain⟨g1,g2,g3⟩:=EL h h2;have hlen:=g3.orb.len;rw[AfZ s.2.1 s.2.2.1 (by omega) s.2.2.2.2 0]
 unfold AkJ;rw[Agt h,Agu (h.fr (by omega)) g3.orb]
 rfl
abbrev ImC:=Option (Int×Int×Lt×List Mo×List Ma)×Pt×Int×Int
theorem RM {ls:List (List UInt8)} (hsz:∀ x∈ls,x.length≤1048576) (hn:ls.length≤3500) {a0:ByteArray} {y1:ByteArray×Bool}:∀ (n i:Nat) (s:St),GC s→s.1=i→i≤ls.length→ls.length-i<n →
  ∃ r,TJ KK a0 y1 (ls.map mk) n (i:Int) (s.1:Int) s.2.1 s.2.2.1.1 s.2.2.1.2.1 s.2.2.1.2.2 s.2.2.2.1 s.2.2.2.2=some r ∧
   ((BF (ls.drop i) s).2≠0→r=(none,dP,((BF (ls.drop i) s).1.1:Int),(BF (ls.drop i) s).2)) ∧
   ((BF (ls.drop i) s).2=0→r=(if GD (BF (ls.drop i) s).1=0 then (some (XS (BF (ls.drop i) s).1),KB (BF (ls.drop i) s).1,0,0) else (none,dP,0,GD (BF (ls.drop i) s).1)))
 | 0,i,s,_,_,_,h=>by omega
 | n+1,i,s,hI,hs,hi,h=>by
  show ∃ r,Zq KK a0 y1 (ls.map mk) (fun v0 v1 v2 v3 v4 v5 v6 v7=>TJ KK a0 y1 (ls.map mk) n v0 v1 v2 v3 v4 v5 v6 v7) (i:Int) (s.1:Int) s.2.1 s.2.2.1.1 s.2.2.1.2.1 s.2.2.1.2.2 s.2.2.2.1 s.2.2.2.2=some r∧_;unfold Zq;rw[Er];by_cases hlt:i<ls.length
  ·rw[in1 hlt,in0,Pv hlt,dC hlt];simp only[aS,cT];obtain⟨r,e,h1,h2,h3⟩:=Amc hI (by omega) (hsz ls[i] (gM _))
   have e:AiG KK ((s.1:Int),s.2.1,(s.2.2.1.1,s.2.2.1.2.1,s.2.2.1.2.2),s.2.2.2.1,s.2.2.2.2) (mk ls[i])=some r:=e;rw[e,oB,Pm,← h1];by_cases h0:r.2=0
   ·have hb:(r.2 != (0:Int))=false:=by rw[h0];rfl
    rw[hb,cF,if_pos h0];have h0':=h1▸h0;obtain⟨k1,k2⟩:=hI.next (by omega) h0'
    rw[h2 h0',Af (by omega)]
    exact RM hsz hn n (i+1) _ k1 (by omega) (by omega) (by omega)
   ·have hb:(r.2 != (0:Int))=true:=by rw[bne_iff_ne];exact h0
    rw[hb,cT,if_neg h0,h3];exact⟨_,rfl,fun _=>rfl,fun h=>absurd h h0⟩
  ·have hii:i=ls.length:=by omega
   subst hii;rw[AO,cF,ABZ];show ∃ r,_∧((0:Int)≠0→_)∧((0:Int)=0→r=(if GD s=0 then (some (XS s),KB s,0,0) else (none,dP,0,GD s)));unfold GD;by_cases h2:s.1<2
   ·rw[dT (show (s.1:Int)<2 by omega),cT,if_pos h2]
    exact⟨_,rfl,fun h=>absurd rfl h,fun _=>rfl⟩
   ·obtain⟨g1,g2,g3⟩:=EL hI h2;rw[dF (show ¬ (s.1:Int)<2 by omega),cF,if_neg h2]
    unfold Ze;have g2':Ob KK (s.2.2.1.1,s.2.2.1.2.1,s.2.2.1.2.2) s.2.2.2.1=some (grS s):=g2;simp only;rw[g2',oB,oB];have g4:WN KK s.2.1 (s.2.2.1.1,s.2.2.1.2.1,s.2.2.1.2.2) (grS s) s.2.2.2.2 0=_:=Agv hI h2;rw[g4,oB];cases hcf:cfS s.2.2.1 (grS s) s.2.2.2.2
    ·exact⟨_,rfl,fun h=>absurd rfl h,fun _=>rfl⟩
    ·exact⟨_,rfl,fun h=>absurd rfl h,fun _=>rfl⟩
theorem Nr {c:UInt8}:∀ (t acc:List UInt8),spa c acc (t++[c])=spa c acc t++[[]]
 | [],acc=>by simp[spa]
 | b :: t,acc=>by
  rw[AB0,spa,spa];split
  ·rw[Nr t []];rfl
  ·exact Nr t _
theorem Pn {c b:UInt8} (hb:b≠c):∀ (t acc:List UInt8),∃ p x,spa c acc (t++[b])=p++[x++[b]]
 | [],acc=>⟨[],acc,by simp[spa,hb]⟩
 | a :: t,acc=>by
  rw[AB0,spa];split
  ·obtain⟨p,x,e⟩:=Pn hb t [];exact⟨acc :: p,x,by rw[e];rfl⟩
  ·exact Pn hb t _
def s0:St:=(0,0,(0,0,0),[],[])
theorem Po:GC s0:=⟨by simp[s0],fun h=>by simp[s0] at h,fun h=>by simp[s0] at h,fun m hm=>by simp[s0] at hm,by simp[s0],fun x hx=>by simp[s0] at hx,by simp[s0]⟩
inductive Txt:List UInt8→Type where
 | none:Txt []
 | whole (t:List UInt8):Txt (t++[10])
 | part (t:List UInt8) (b:UInt8) (h:b≠10):Txt (t++[b])
theorem Amd (l:List UInt8):Nonempty (Txt l):=by
 rcases List.eq_nil_or_concat l with rfl | ⟨t,b,e⟩
 ·exact⟨.none⟩
 ·rw[List.concat_eq_append] at e;subst e;by_cases h:b=10
  ·subst h;exact⟨.whole t⟩
  ·exact⟨.part t b h⟩
noncomputable def EY (l:List UInt8):(Int×Int) ⊕ St :=
 if 3000<l.length then .inl (0,3)
 else if l=[] then .inl (0,4)
 else if l.getLast?≠some 10 then .inl (0,6)
 else if (BF (spa 10 [] l.dropLast) s0).2≠0 then .inl (((BF (spa 10 [] l.dropLast) s0).1.1:Int),(BF (spa 10 [] l.dropLast) s0).2)
 else if GD (BF (spa 10 [] l.dropLast) s0).1≠0 then .inl (0,GD (BF (spa 10 [] l.dropLast) s0).1)
 else .inr (BF (spa 10 [] l.dropLast) s0).1
theorem Azp {l:List UInt8} (h:l.length≤1048576):J4 KK (mk l) (10:Int)=some ((spa 10 [] l).map mk):=KD (c:=10) h
theorem Ar3 {n:Nat} (h:1≤n) (hn:n≤4000):w ((n:Int)-1)=((n-1:Nat):Int):=by
 rw[As (by omega) (by omega)]
 omega
theorem Dn (l:List UInt8) (hl:l.length≤1048576):∃ r,Zv KK (mk l)=some r∧match EY l with
  | .inl (a,c)=>r.2=(a,c)∧c≠0
  | .inr s=>r=(some (Pl s),0,0)∧GC s∧¬ s.1<2:=by
 unfold Zv Ajj EY;rw[GY];by_cases h3:3000<l.length
 ·rw[dT (show (l.length:Int)>3000 by omega),cT,if_pos h3]
  exact⟨_,rfl,rfl,by decide⟩
 ·rw[dF (show ¬ (l.length:Int)>3000 by omega),cF,if_neg h3,Azp hl,oB,Er]
  have hsz:∀ x∈spa 10 [] l,x.length≤1048576:=fun x hx=>by
   have:=EK 10 l [] x hx;simp only[ABm] at this;omega
  obtain⟨k1,k2⟩:=Eo 10 l [];rw[Ar3 k2 (by omega),in1 (show (spa 10 [] l).length-1<(spa 10 [] l).length by omega),in0,Pv (show (spa 10 [] l).length-1<(spa 10 [] l).length by omega)]
  simp only[aS,cT];have hne:(mk ((spa 10 [] l)[(spa 10 [] l).length-1]'(by omega)) != ByteArray.empty)=decide ((spa 10 [] l)[(spa 10 [] l).length-1]'(by omega)≠[]):=by
   rw[Aam,Aal]
  rw[hne];have hrun:∀ (hx:(spa 10 [] l)[(spa 10 [] l).length-1]'(by omega)=[]),∃ r,Oj KK (mk l) ((spa 10 [] l).map mk) KK 0 0 0 0 0 0 [] []=some r ∧
    ((BF (spa 10 [] l).dropLast s0).2≠0→r.2=(((BF (spa 10 [] l).dropLast s0).1.1:Int),(BF (spa 10 [] l).dropLast s0).2)) ∧
    ((BF (spa 10 [] l).dropLast s0).2=0→r=(some (Pl (BF (spa 10 [] l).dropLast s0).1),0,GD (BF (spa 10 [] l).dropLast s0).1)):=fun _ =>
   RL hsz (by omega) (a0:=mk l) KK 0 s0 Po rfl (by omega) (by simp only[KK];omega)
  obtain⟨T⟩:=Amd l;cases T with
  | none =>
   rw[if_pos rfl];obtain⟨r,e,_,e2⟩:=hrun rfl;exact⟨r,e,by rw[e2 rfl];rfl,by decide⟩
  | whole t =>
   have hd:(t++[(10:UInt8)]).dropLast=t:=by simp
   have hl0:t++[(10:UInt8)]≠[]:=by simp
   have hl1:¬ (t++[(10:UInt8)]).getLast?≠some 10:=by simp
   have hs:=Nr (c:=10) t [];have hs2:(spa 10 [] (t++[10])).dropLast=spa 10 [] t:=by rw[hs];simp
   have hs3:(spa 10 [] (t++[10]))[(spa 10 [] (t++[10])).length-1]'(by omega)=[]:=by
    have:(spa 10 [] (t++[10])).getLast? = some []:=by rw[hs];simp
    rw[AD0] at this;exact (ABd.1 this).2
   obtain⟨r,e,e1,e2⟩:=hrun hs3;rw[hs2] at e1 e2;rw[hs3,if_neg hl0,if_neg hl1,hd];refine⟨r,e,?_⟩;have hlen:t.length+1≤3000:=by
    rw[lA,ABA] at h3;omega
   have hq:=(Eo 10 t []).1;by_cases h0:(BF (spa 10 [] t) s0).2=0
   ·rw[if_neg (fun h=>h h0)];have hI:=KA (spa 10 [] t) Po (by simp only[s0];omega) h0
    by_cases he:GD (BF (spa 10 [] t) s0).1=0
    ·rw[if_neg (fun h=>h he)];refine⟨by rw[e2 h0,he],hI,fun h2=>?_⟩
     unfold GD at he;rw[if_pos h2] at he;cases he
    ·rw[if_pos he];exact⟨by rw[e2 h0],he⟩
   ·rw[if_pos h0];exact⟨e1 h0,h0⟩
  | part t b hb =>
   have hl0:t++[b]≠[]:=by simp
   have hl1:(t++[b]).getLast?≠some 10:=by simpa using hb
   obtain⟨p,x,hs⟩:=Pn hb t [];have hs3:(spa 10 [] (t++[b]))[(spa 10 [] (t++[b])).length-1]'(by omega)≠[]:=by
    have:(spa 10 [] (t++[b])).getLast? = some (x++[b]):=by rw[hs];simp
    rw[AD0] at this;rw[(ABd.1 this).2];simp
   rw[if_neg hl0,if_pos hl1,dT hs3,cT];exact⟨_,rfl,rfl,by decide⟩
theorem Ame (t:List UInt8) (b:UInt8) (hl:(t++[b]).length≤4000):Aog KK (mk (t++[b])) (bs [10])=some (if b=10 then (mk t,true) else (mk (t++[b]),false)):=by
 have e10:bs [10]=mk [10]:=rfl;have hlen:(t++[b]).length=t.length+1:=by simp
 have hw:w (((t.length+1:Nat):Int)-(1:Int))=(t.length:Int):=by rw[As (by omega) (by omega)];omega
 unfold Aog Aut Aio;rw[e10,GY,GY,hlen];have hw1:w (((t.length+1:Nat):Int)-((([10]:List UInt8).length:Nat):Int))=(t.length:Int):=hw;have hge:decide (((t.length+1:Nat):Int)≥((([10]:List UInt8).length:Nat):Int))=true:=dT (by simp;omega)
 simp only[hw1,hge,le1 (show t.length≤t.length+1 by omega),le1 (AA9 (t.length+1)),in0,aS,oT,tO,cT]
 rw[UT];have e1:((t++[b]).take (t.length+1)).drop t.length=[b]:=by
  rw[show t.length+1=(t++[b]).length by simp,AB6]
  simp
 have z:(0:Int)=((0:Nat):Int):=rfl;rw[e1,Ed];by_cases hb:b=10
 ·subst hb;rw[dT rfl,if_pos rfl];simp only[nT,cF,oB,decide_true,aS,cT];rw[show (0:Nat)=((0:Nat):Int).toNat from rfl,UT]
  simp
 ·rw[if_neg hb,dF (by simpa using hb)]
  rfl
theorem Pq (l:List UInt8) (hl:l.length≤1048576):Zr KK (mk l)=some (match EY l with
  | .inl (a,c)=>(none,dP,a,c)
  | .inr s=>(some (XS s),KB s,0,0)):=by
 unfold Zr Aja EY;rw[GY];by_cases h3:3000<l.length
 ·rw[dT (show (l.length:Int)>3000 by omega),cT,if_pos h3]
  rfl
 ·rw[dF (show ¬ (l.length:Int)>3000 by omega),cF,if_neg h3]
  obtain⟨T⟩:=Amd l;cases T with
  | none=>rfl
  | whole t =>
   have hl0:t++[(10:UInt8)]≠[]:=by simp
   have hl1:¬ (t++[(10:UInt8)]).getLast?≠some 10:=by simp
   have hd:(t++[(10:UInt8)]).dropLast=t:=by simp
   have hlen:t.length+1≤3000:=by
    rw[lA,ABA] at h3;omega
   have hne:(mk (t++[10]) != ByteArray.empty)=true:=by rw[Aam,Aal,dT hl0]
   have e10:bs [10]=mk [10]:=rfl;rw[Ame t 10 (by omega),if_pos rfl,oB,hne,if_neg hl0,if_neg hl1,hd]
   simp only[oT,tO,cT,nT,cF];unfold Y5;rw[e10,Lq (by omega),oB]
   have hsz:∀ x∈spa 10 [] t,x.length≤1048576:=fun x hx=>by
    have:=EK 10 t [] x hx;simp only[ABm] at this;omega
   have hq:=(Eo 10 t []).1;obtain⟨r,e,e1,e2⟩:=RM hsz (by omega) (a0:=mk (t++[10])) (y1:=(mk t,true)) KK 0 s0 Po rfl (by omega) (by simp only[KK];omega)
   rw[ABb] at e1 e2;refine Eq.trans (show _=some r from e) ?_
   congr 1;by_cases h0:(BF (spa 10 [] t) s0).2=0
   ·rw[if_neg (fun h=>h h0),e2 h0];by_cases he:GD (BF (spa 10 [] t) s0).1=0
    ·rw[if_pos he,if_neg (fun h=>h he)]
    ·rw[if_neg he,if_pos he]
   ·rw[if_pos h0];exact e1 h0
  | part t b hb =>
   have hl0:t++[b]≠[]:=by simp
   have hl1:(t++[b]).getLast?≠some 10:=by simpa using hb
   have hlen:t.length+1≤3000:=by
    rw[lA,ABA] at h3;omega
   have hne:(mk (t++[b]) != ByteArray.empty)=true:=by rw[Aam,Aal,dT hl0]
   rw[Ame t b (by rw[lA,ABA];omega),if_neg hb,oB,hne,if_neg hl0,if_pos hl1]
   rfl
end Go.Proofs.YtkemdhpdfaejgaaGreatDoor.X
