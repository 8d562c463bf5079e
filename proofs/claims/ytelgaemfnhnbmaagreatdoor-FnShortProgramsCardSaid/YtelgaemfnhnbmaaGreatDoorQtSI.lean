/- A program: both sides take its lines and say the same of it. -/
import Derived.Test.YtelgaemfnhnbmaaGreatDoorQtSH
namespace Go.Proofs.YtelgaemfnhnbmaaGreatDoor.X
open Go
set_option linter.unusedSimpArgs false
set_option linter.unusedVariables false
theorem sub_idx (b:List UInt8):f142G KK (bs [83,72]) (mk b)=some (Lib.index [83,72] b):=by
 unfold f142G idxF;have e:bs [83,72]=mk [83,72]:=rfl;rw[e,mk_size,mk_list,mk_list];rfl
theorem idx_one (x:UInt8):Lib.index [83,72] [x]=if x=83 then 0 else if x=72 then 1 else -1:=by
 unfold Lib.index Lib.index Lib.index;by_cases h1:x=83
 ·subst h1;decide
 ·by_cases h2:x=72
  ·subst h2;decide
  ·simp[h1,h2]
theorem implTake {s:St} (h:InvS s) (h3:s.1<4000) {line:List UInt8} (hl:line.length≤1048576):∃ r,f86G KK (tupI s) (mk line)=some r∧r.2=(stepS s (spa 32 [] line)).2∧((stepS s (spa 32 [] line)).2=0→r.1=tupI (stepS s (spa 32 [] line)).1)∧r.1.1=((s.1+1:Nat):Int):=by
 have hsz:=spa32 hl;have hw1:w ((s.1:Int)+1)=((s.1+1:Nat):Int):=w_succ (by omega)
 have e32:bs [32]=mk [32]:=rfl;unfold f86G f85G;rw[e32,splitF_eq (by omega),oB,len_map]
 match hw:spa 32 [] line with
 | [] =>
  have:=(spa_len 32 line []).2;rw[hw] at this;simp at this
 | [a] =>
  obtain⟨eF,eL,eM,eK,_,_⟩:=eqW a;have e2:((([a]:List (List UInt8)).length:Int) != (2:Int))=true:=rfl;have e3:((([a]:List (List UInt8)).length:Int)==(3:Int))=false:=rfl;have g0:(decide (0≤(0:Int))&&decide ((0:Int)<(([a]:List (List UInt8)).length:Int)))=true:=rfl;have k0:(([a].map mk).getD ((0:Int)+(0:Int)).toNat ByteArray.empty)=mk a:=rfl;simp only[e2,e3,g0,k0,eK,oT,tO,cT];rw[hw1];cases decide (a=wK)<;>exact⟨_,rfl,rfl,(fun h=>by cases h),rfl⟩
 | a :: b :: c :: d :: r =>
  obtain⟨eF,eL,eM,eK,_,_⟩:=eqW a;have e2:(((a :: b :: c :: d :: r).length:Int) != (2:Int))=true:=by rw[bne_iff_ne];simp;omega
  have e3:(((a :: b :: c :: d :: r).length:Int)==(3:Int))=false:=by rw[bN];simp;omega
  have g0:(decide (0≤(0:Int))&&decide ((0:Int)<((a :: b :: c :: d :: r).length:Int)))=true:=by
   rw[dT (show (0:Int)<((a :: b :: c :: d :: r).length:Int) by simp;omega)]
   rfl
  have k0:(((a :: b :: c :: d :: r).map mk).getD ((0:Int)+(0:Int)).toNat ByteArray.empty)=mk a:=rfl;simp only[e2,e3,g0,k0,eK,oT,tO,cT];rw[hw1];cases decide (a=wK)<;>exact⟨_,rfl,rfl,(fun h=>by cases h),rfl⟩
 | [a,b] =>
  rw[hw] at hsz;have hb:=hsz b (by simp)
  obtain⟨eF,eL,eM,eK,_,_⟩:=eqW a;have e2:((([a,b]:List (List UInt8)).length:Int) != (2:Int))=false:=rfl;have e3:((([a,b]:List (List UInt8)).length:Int)==(3:Int))=false:=rfl;have g0:(decide (0≤(0:Int))&&decide ((0:Int)<(([a,b]:List (List UInt8)).length:Int)))=true:=rfl;have g1:(decide (0≤(1:Int))&&decide ((1:Int)<(([a,b]:List (List UInt8)).length:Int)))=true:=rfl;have k0:(([a,b].map mk).getD ((0:Int)+(0:Int)).toNat ByteArray.empty)=mk a:=rfl;have k1:(([a,b].map mk).getD ((0:Int)+(1:Int)).toNat ByteArray.empty)=mk b:=rfl;have hk3:(bif decide (a=wK) then false else false)=false:=by cases decide (a=wK)<;>rfl
  simp only[e2,e3,g0,g1,k0,k1,eF,eL,eM,eK,hk3,oT,tO,cT,cF];unfold stepS;rw[hw1];by_cases hF:a=wF
  ·rw[dT hF];simp only[if_pos hF,cT];rw[sub_idx,oB,sz_mk];unfold frO
   match b with
   | []=>exact⟨_,rfl,rfl,(fun h=>by cases h),rfl⟩
   | x :: y :: z =>
    have e1:(((x :: y :: z).length:Int) != (1:Int))=true:=by rw[bne_iff_ne];simp;omega
    rw[e1];simp only[cT];rw[if_neg (by simp),if_neg (by simp)]
    exact⟨_,rfl,rfl,(fun h=>by cases h),rfl⟩
   | [x] =>
    have e1:((([x]:List UInt8).length:Int) != (1:Int))=false:=rfl;rw[e1,idx_one];simp only[cF];have hst:f143G KK ((s.1:Int)==(0:Int))=some (if s.1=0 then 0 else 5):=by
     unfold f143G;by_cases h0:s.1=0
     ·rw[h0];rfl
     ·have:((s.1:Int)==(0:Int))=false:=by rw[bN];omega
      rw[this,if_neg h0];rfl
    by_cases hS:x=83
    ·subst hS;rw[if_pos rfl,if_pos rfl,dF (by omega),cF,hst,oB]
     by_cases h0:s.1=0
     ·simp only[if_pos h0];exact⟨_,rfl,rfl,(fun _=>rfl),rfl⟩
     ·simp only[if_neg h0];exact⟨_,rfl,rfl,(fun h=>by cases h),rfl⟩
    ·by_cases hH:x=72
     ·subst hH;rw[if_neg (by decide),if_pos rfl,if_neg (by decide),if_pos rfl,dF (by omega),cF,hst,oB]
      by_cases h0:s.1=0
      ·simp only[if_pos h0];exact⟨_,rfl,rfl,(fun _=>rfl),rfl⟩
      ·simp only[if_neg h0];exact⟨_,rfl,rfl,(fun h=>by cases h),rfl⟩
     ·rw[if_neg hS,if_neg hH,if_neg (by simpa using hS),if_neg (by simpa using hH),dT (by omega),cT]
      exact⟨_,rfl,rfl,(fun h=>by cases h),rfl⟩
  ·rw[dF hF];simp only[if_neg hF,cF];by_cases hL:a=wL
   ·rw[dT hL];simp only[if_pos hL,cT];rw[implRL hb,oB];have hst:f143G KK ((s.1:Int)==(1:Int))=some (if s.1=1 then 0 else 5):=by
     unfold f143G;by_cases h0:s.1=1
     ·rw[h0];rfl
     ·have:((s.1:Int)==(1:Int))=false:=by rw[bN];omega
      rw[this,if_neg h0];rfl
    cases hr:rdLt b with
    | none=>exact⟨_,rfl,rfl,(fun h=>by cases h),rfl⟩
    | some l =>
     simp only[orL,nT,cF];rw[hst,oB];by_cases h1:s.1=1
     ·simp only[if_pos h1];exact⟨_,rfl,rfl,(fun _=>rfl),rfl⟩
     ·simp only[if_neg h1];exact⟨_,rfl,rfl,(fun h=>by cases h),rfl⟩
   ·rw[dF hL];simp only[if_neg hL,cF];by_cases hM:a=wM
    ·rw[dT hM];simp only[if_pos hM,cT];unfold f145G;rw[implRMo hb,oB];cases hr:rdMo b with
     | none=>exact⟨_,rfl,rfl,(fun h=>by cases h),rfl⟩
     | some m =>
      simp only[orMo,nT,cF];by_cases h2:s.1<2
      ·rw[dT (show ((s.1:Nat):Int)<2 by omega),if_pos h2]
       exact⟨_,rfl,rfl,(fun h=>by cases h),rfl⟩
      ·rw[dF (show ¬ ((s.1:Nat):Int)<2 by omega),if_neg h2,cF]
       by_cases h8:s.2.2.2.1.length=8
       ·have:((s.2.2.2.1.length:Int)==(8:Int))=true:=by rw[h8];rfl
        rw[this,if_pos h8];exact⟨_,rfl,rfl,(fun h=>by cases h),rfl⟩
       ·have:((s.2.2.2.1.length:Int)==(8:Int))=false:=by rw[bN];omega
        have hla:=h.la (by omega)
        have hfr:=h.fr (by omega)
        rw[this,if_neg h8,cF,implSuit_eq hfr hla,oB];cases hsu:suitB s.2.1 s.2.2.1 m
        ·exact⟨_,rfl,rfl,(fun h=>by cases h),rfl⟩
        ·have hml:=h.ml;simp only[nT,cF,if_true];rw[reduceMotion_eq hla (m:=m) (Sv_Sm (vecB_Sv (rdMo_vec hr))),oB,blim48 (by simp;omega)]
         exact⟨_,rfl,rfl,(fun _=>rfl),rfl⟩
    ·rw[dF hM];simp only[if_neg hM,cF];exact⟨_,rfl,rfl,(fun h=>by cases h),rfl⟩
 | [a,b,c] =>
  rw[hw] at hsz;have hb:=hsz b (by simp)
  have hc:=hsz c (by simp)
  obtain⟨eF,eL,eM,eK,_,_⟩:=eqW a;have e2:((([a,b,c]:List (List UInt8)).length:Int) != (2:Int))=true:=rfl;have e3:((([a,b,c]:List (List UInt8)).length:Int)==(3:Int))=true:=rfl;have g0:(decide (0≤(0:Int))&&decide ((0:Int)<(([a,b,c]:List (List UInt8)).length:Int)))=true:=rfl;have g1:(decide (0≤(1:Int))&&decide ((1:Int)<(([a,b,c]:List (List UInt8)).length:Int)))=true:=rfl;have g2:(decide (0≤(2:Int))&&decide ((2:Int)<(([a,b,c]:List (List UInt8)).length:Int)))=true:=rfl;have k0:(([a,b,c].map mk).getD ((0:Int)+(0:Int)).toNat ByteArray.empty)=mk a:=rfl;have k1:(([a,b,c].map mk).getD ((0:Int)+(1:Int)).toNat ByteArray.empty)=mk b:=rfl;have k2:(([a,b,c].map mk).getD ((0:Int)+(2:Int)).toNat ByteArray.empty)=mk c:=rfl;simp only[e2,e3,g0,g1,g2,k0,k1,k2,eK,oT,tO,cT];unfold stepS;rw[hw1];by_cases hK:a=wK
  ·rw[dT hK];simp only[if_pos hK,cT];unfold f141G;rw[readMark_eq hb hc,oB];cases hv:rdV b with
   | none=>exact⟨_,rfl,rfl,(fun h=>by cases h),rfl⟩
   | some v =>
    cases hk:rdC c with
    | none=>exact⟨_,rfl,rfl,(fun h=>by cases h),rfl⟩
    | some k =>
     simp only[orK,nT,cF];by_cases hs2:s.1<2
     ·rw[dT (show ((s.1:Nat):Int)<2 by omega),if_pos hs2]
      exact⟨_,rfl,rfl,(fun h=>by cases h),rfl⟩
     ·rw[dF (show ¬ ((s.1:Nat):Int)<2 by omega),if_neg hs2,cF]
      by_cases h40:s.2.2.2.2.length=40
      ·have:((s.2.2.2.2.length:Int)==(40:Int))=true:=by rw[h40];rfl
       rw[this,if_pos h40];exact⟨_,rfl,rfl,(fun h=>by cases h),rfl⟩
      ·have:((s.2.2.2.2.length:Int)==(40:Int))=false:=by rw[bN];omega
       have hkl:=h.kl;rw[this,if_neg h40,cF,blim24 (by simp;omega)]
       exact⟨_,rfl,rfl,(fun _=>rfl),rfl⟩
  ·rw[dF hK];simp only[if_neg hK,cF];exact⟨_,rfl,rfl,(fun h=>by cases h),rfl⟩
def runS:List (List UInt8)→St→St×Int
 | [],s=>(s,0)
 | x :: r,s=>if (stepS s (spa 32 [] x)).2=0 then runS r (stepS s (spa 32 [] x)).1 else ((s.1+1,s.2),(stepS s (spa 32 [] x)).2)
theorem runS_inv:∀ (ws:List (List UInt8)) {s:St},InvS s→s.1+ws.length≤4000→(runS ws s).2=0→InvS (runS ws s).1
 | [],s,h,_,_=>h
 | x :: r,s,h,hn,h0=>by
  rw[List.length_cons] at hn;unfold runS at h0 ⊢;by_cases hc:(stepS s (spa 32 [] x)).2=0
  ·rw[if_pos hc] at h0 ⊢;obtain⟨h1,h2⟩:=h.next (by omega) hc
   exact runS_inv r h1 (by omega) h0
  ·rw[if_neg hc] at h0;exact absurd h0 hc
abbrev SpC:=Option (Int×Lt×Int×List Mo×List Ma)×Int×Int
noncomputable def grS (s:St):List Mo:=(f30G KK s.2.2.1 s.2.2.2.1).getD []
def cfS (l:Lt) (g:List Mo) (ms:List Ma):Bool:=(cfO l (numsF l g) ms 0 ms).2.2
noncomputable def endC (s:St):Int:=if s.1<2 then 4 else if cfS s.2.2.1 (grS s) s.2.2.2.2=true then 1 else 0
theorem grS_ok {s:St} (h:InvS s) (h2:¬ s.1<2):f30G KK s.2.2.1 s.2.2.2.1=some (grS s)∧f18G KK s.2.2.1 s.2.2.2.1=some (grS s)∧Gd' s.2.1 s.2.2.1 s.2.2.2.1 (grS s):=by
 have hm:=h.ml;obtain⟨g,e1,e2,e3⟩:=close_gen (f:=s.2.1) (h.la (by omega)) (fun m hmm=>(h.mo m hmm).2) (by omega)
 unfold grS;rw[e1];exact⟨rfl,e2,e3⟩
theorem run_cons {x:List UInt8} {r:List (List UInt8)} {s:St}:runS (x :: r) s=if (stepS s (spa 32 [] x)).2=0 then runS r (stepS s (spa 32 [] x)).1 else ((s.1+1,s.2),(stepS s (spa 32 [] x)).2):=rfl
noncomputable def patS (s:St):Pt:=(s.2.1,s.2.2.1,compS s.2.2.1 (grS s) s.2.2.2.2 0)
theorem marksB_of {s:St} (h:InvS s):marksB s.2.2.2.2=true:=by
 unfold marksB;rw[aT];refine⟨List.all_eq_true.2 fun x hx=>?_,dT h.kl⟩;unfold markB;rw[(h.ma x hx).1,(h.ma x hx).2];rfl
theorem codeC_orb {f:Int} (hf:okF f=true) {l:Lt} {g:List Mo} (h:OrbG f l g):codeC f l g true=0:=by
 unfold codeC;rw[hf,okL_iff.2 h.la,h.gr];rfl
theorem implCM_at {s:St} (h:InvS s) (h2:¬ s.1<2):f87G KK s.2.1 s.2.2.1 (grS s) s.2.2.2.2 0=some (bif cfS s.2.2.1 (grS s) s.2.2.2.2 then (dP,5) else (patS s,0)):=by
 obtain⟨g1,g2,g3⟩:=grS_ok h h2;have hlen:=g3.orb.len;rw[implCM_eq s.2.1 s.2.2.1 (by omega) s.2.2.2.2 0]
 unfold resCM;rw[marksB_of h,codeC_orb (h.fr (by omega)) g3.orb]
 rfl
abbrev ImC:=Option (Int×Int×Lt×List Mo×List Ma)×Pt×Int×Int
theorem impl_loop {ls:List (List UInt8)} (hsz:∀ x∈ls,x.length≤1048576) (hn:ls.length≤3500) {a0:ByteArray} {y1:ByteArray×Bool}:∀ (n i:Nat) (s:St),InvS s→s.1=i→i≤ls.length→ls.length-i<n →
  ∃ r,f35_l5 KK a0 y1 (ls.map mk) n (i:Int) (s.1:Int) s.2.1 s.2.2.1.1 s.2.2.1.2.1 s.2.2.1.2.2 s.2.2.2.1 s.2.2.2.2=some r ∧
   ((runS (ls.drop i) s).2≠0→r=(none,dP,((runS (ls.drop i) s).1.1:Int),(runS (ls.drop i) s).2)) ∧
   ((runS (ls.drop i) s).2=0→r=(if endC (runS (ls.drop i) s).1=0 then (some (tupI (runS (ls.drop i) s).1),patS (runS (ls.drop i) s).1,0,0) else (none,dP,0,endC (runS (ls.drop i) s).1)))
 | 0,i,s,_,_,_,h=>by omega
 | n+1,i,s,hI,hs,hi,h=>by
  show ∃ r,f35_b5 KK a0 y1 (ls.map mk) (fun v0 v1 v2 v3 v4 v5 v6 v7=>f35_l5 KK a0 y1 (ls.map mk) n v0 v1 v2 v3 v4 v5 v6 v7) (i:Int) (s.1:Int) s.2.1 s.2.2.1.1 s.2.2.1.2.1 s.2.2.1.2.2 s.2.2.2.1 s.2.2.2.2=some r∧_;unfold f35_b5;rw[len_map];by_cases hlt:i<ls.length
  ·rw[in1 hlt,in0,gd_map hlt,dC hlt];simp only[aS,cT];obtain⟨r,e,h1,h2,h3⟩:=implTake hI (by omega) (hsz ls[i] (gM _))
   have e:f86G KK ((s.1:Int),s.2.1,(s.2.2.1.1,s.2.2.1.2.1,s.2.2.1.2.2),s.2.2.2.1,s.2.2.2.2) (mk ls[i])=some r:=e;rw[e,oB,run_cons,← h1];by_cases h0:r.2=0
   ·have hb:(r.2 != (0:Int))=false:=by rw[h0];rfl
    rw[hb,cF,if_pos h0];have h0':=h1▸h0;obtain⟨k1,k2⟩:=hI.next (by omega) h0'
    rw[h2 h0',w_succ (by omega)]
    exact impl_loop hsz hn n (i+1) _ k1 (by omega) (by omega) (by omega)
   ·have hb:(r.2 != (0:Int))=true:=by rw[bne_iff_ne];exact h0
    rw[hb,cT,if_neg h0,h3];exact⟨_,rfl,fun _=>rfl,fun h=>absurd h h0⟩
  ·have hii:i=ls.length:=by omega
   subst hii;rw[out1,cF,List.drop_length];show ∃ r,_∧((0:Int)≠0→_)∧((0:Int)=0→r=(if endC s=0 then (some (tupI s),patS s,0,0) else (none,dP,0,endC s)));unfold endC;by_cases h2:s.1<2
   ·rw[dT (show (s.1:Int)<2 by omega),cT,if_pos h2]
    exact⟨_,rfl,fun h=>absurd rfl h,fun _=>rfl⟩
   ·obtain⟨g1,g2,g3⟩:=grS_ok hI h2;rw[dF (show ¬ (s.1:Int)<2 by omega),cF,if_neg h2]
    unfold f36G;have g2':f18G KK (s.2.2.1.1,s.2.2.1.2.1,s.2.2.1.2.2) s.2.2.2.1=some (grS s):=g2;simp only;rw[g2',oB,oB];have g4:f87G KK s.2.1 (s.2.2.1.1,s.2.2.1.2.1,s.2.2.1.2.2) (grS s) s.2.2.2.2 0=_:=implCM_at hI h2;rw[g4,oB];cases hcf:cfS s.2.2.1 (grS s) s.2.2.2.2
    ·exact⟨_,rfl,fun h=>absurd rfl h,fun _=>rfl⟩
    ·exact⟨_,rfl,fun h=>absurd rfl h,fun _=>rfl⟩
theorem spa_end {c:UInt8}:∀ (t acc:List UInt8),spa c acc (t++[c])=spa c acc t++[[]]
 | [],acc=>by simp[spa]
 | b :: t,acc=>by
  rw[List.cons_append,spa,spa];split
  ·rw[spa_end t []];rfl
  ·exact spa_end t _
def s0:St:=(0,0,(0,0,0),[],[])
theorem s0_inv:InvS s0:=⟨by simp[s0],fun h=>by simp[s0] at h,fun h=>by simp[s0] at h,fun m hm=>by simp[s0] at hm,by simp[s0],fun x hx=>by simp[s0] at hx,by simp[s0]⟩
inductive Txt:List UInt8→Type where
 | none:Txt []
 | whole (t:List UInt8):Txt (t++[10])
 | part (t:List UInt8) (b:UInt8) (h:b≠10):Txt (t++[b])
theorem txt_of (l:List UInt8):Nonempty (Txt l):=by
 rcases List.eq_nil_or_concat l with rfl | ⟨t,b,e⟩
 ·exact⟨.none⟩
 ·rw[List.concat_eq_append] at e;subst e;by_cases h:b=10
  ·subst h;exact⟨.whole t⟩
  ·exact⟨.part t b h⟩
noncomputable def cmpS (l:List UInt8):(Int×Int) ⊕ St :=
 if 3000<l.length then .inl (0,3)
 else if l=[] then .inl (0,4)
 else if l.getLast?≠some 10 then .inl (0,6)
 else if (runS (spa 10 [] l.dropLast) s0).2≠0 then .inl (((runS (spa 10 [] l.dropLast) s0).1.1:Int),(runS (spa 10 [] l.dropLast) s0).2)
 else if endC (runS (spa 10 [] l.dropLast) s0).1≠0 then .inl (0,endC (runS (spa 10 [] l.dropLast) s0).1)
 else .inr (runS (spa 10 [] l.dropLast) s0).1
theorem suf_eq (t:List UInt8) (b:UInt8) (hl:(t++[b]).length≤4000):f84G KK (mk (t++[b])) (bs [10])=some (if b=10 then (mk t,true) else (mk (t++[b]),false)):=by
 have e10:bs [10]=mk [10]:=rfl;have hlen:(t++[b]).length=t.length+1:=by simp
 have hw:w (((t.length+1:Nat):Int)-(1:Int))=(t.length:Int):=by rw[w_id (by omega) (by omega)];omega
 unfold f84G f139G f190G;rw[e10,sz_mk,sz_mk,hlen];have hw1:w (((t.length+1:Nat):Int)-((([10]:List UInt8).length:Nat):Int))=(t.length:Int):=hw;have hge:decide (((t.length+1:Nat):Int)≥((([10]:List UInt8).length:Nat):Int))=true:=dT (by simp;omega)
 simp only[hw1,hge,le1 (show t.length≤t.length+1 by omega),le1 (Nat.le_refl (t.length+1)),in0,aS,oT,tO,cT]
 rw[ex_nat];have e1:((t++[b]).take (t.length+1)).drop t.length=[b]:=by
  rw[show t.length+1=(t++[b]).length by simp,List.take_length]
  simp
 have z:(0:Int)=((0:Nat):Int):=rfl;rw[e1,mk_beq];by_cases hb:b=10
 ·subst hb;rw[dT rfl,if_pos rfl];simp only[nT,cF,oB,decide_true,aS,cT];rw[show (0:Nat)=((0:Nat):Int).toNat from rfl,ex_nat]
  simp
 ·rw[if_neg hb,dF (by simpa using hb)]
  rfl
theorem implC_eq (l:List UInt8) (hl:l.length≤1048576):f35G KK (mk l)=some (match cmpS l with
  | .inl (a,c)=>(none,dP,a,c)
  | .inr s=>(some (tupI s),patS s,0,0)):=by
 unfold f35G f35_g cmpS;rw[sz_mk];by_cases h3:3000<l.length
 ·rw[dT (show (l.length:Int)>3000 by omega),cT,if_pos h3]
  rfl
 ·rw[dF (show ¬ (l.length:Int)>3000 by omega),cF,if_neg h3]
  obtain⟨T⟩:=txt_of l;cases T with
  | none=>rfl
  | whole t =>
   have hl0:t++[(10:UInt8)]≠[]:=by simp
   have hl1:¬ (t++[(10:UInt8)]).getLast?≠some 10:=by simp
   have hd:(t++[(10:UInt8)]).dropLast=t:=by simp
   have hlen:t.length+1≤3000:=by
    rw[lA,List.length_singleton] at h3;omega
   have hne:(mk (t++[10]) != ByteArray.empty)=true:=by rw[mk_nil,mk_bne,dT hl0]
   have e10:bs [10]=mk [10]:=rfl;rw[suf_eq t 10 (by omega),if_pos rfl,oB,hne,if_neg hl0,if_neg hl1,hd]
   simp only[oT,tO,cT,nT,cF];unfold f85G;rw[e10,splitF_eq (by omega),oB]
   have hsz:∀ x∈spa 10 [] t,x.length≤1048576:=fun x hx=>by
    have:=spa_size 10 t [] x hx;simp only[List.length_nil] at this;omega
   have hq:=(spa_len 10 t []).1;obtain⟨r,e,e1,e2⟩:=impl_loop hsz (by omega) (a0:=mk (t++[10])) (y1:=(mk t,true)) KK 0 s0 s0_inv rfl (by omega) (by simp only[KK];omega)
   rw[List.drop_zero] at e1 e2;refine Eq.trans (show _=some r from e) ?_
   congr 1;by_cases h0:(runS (spa 10 [] t) s0).2=0
   ·rw[if_neg (fun h=>h h0),e2 h0];by_cases he:endC (runS (spa 10 [] t) s0).1=0
    ·rw[if_pos he,if_neg (fun h=>h he)]
    ·rw[if_neg he,if_pos he]
   ·rw[if_pos h0];exact e1 h0
  | part t b hb =>
   have hl0:t++[b]≠[]:=by simp
   have hl1:(t++[b]).getLast?≠some 10:=by simpa using hb
   have hlen:t.length+1≤3000:=by
    rw[lA,List.length_singleton] at h3;omega
   have hne:(mk (t++[b]) != ByteArray.empty)=true:=by rw[mk_nil,mk_bne,dT hl0]
   rw[suf_eq t b (by rw[lA,List.length_singleton];omega),if_neg hb,oB,hne,if_neg hl0,if_pos hl1]
   rfl
end Go.Proofs.YtelgaemfnhnbmaaGreatDoor.X
