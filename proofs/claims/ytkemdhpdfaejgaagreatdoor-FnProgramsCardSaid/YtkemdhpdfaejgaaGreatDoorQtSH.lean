/- The lines of a program: both sides take them alike. -/
import Derived.Test.YtkemdhpdfaejgaaGreatDoorQtSG
import Derived.Test.YtkemdhpdfaejgaaGreatDoorQtSB
import Derived.Test.YtkemdhpdfaejgaaGreatDoorQtPCompleteMarks
namespace Go.Proofs.YtkemdhpdfaejgaaGreatDoor.X
open Go
set_option linter.unusedSimpArgs false
set_option linter.unusedVariables false
def rdC (b:List UInt8):Option Int:=match b with
 | [x]=>if isD x=true then some ((x.toNat-48:Nat):Int) else none
 | _=>none
theorem US (x:UInt8):rdC [x]=if isD x=true then some ((x.toNat-48:Nat):Int) else none:=rfl
theorem AwC {b:List UInt8} {k:Int} (h:rdC b=some k):0≤k∧k≤9:=by
 unfold rdC at h;split at h
 ·split at h
  ·rename_i x hx;cases h;unfold isD at hx;simp only[aT,dE] at hx;omega
  ·cases h
 ·cases h
theorem XP (x:UInt8):HJ [x]=if isD x=true then some (x.toNat-48) else none:=by
 unfold HJ;by_cases h:isD x=true
 ·rw[if_pos h];have hx:=h;unfold isD at hx;simp only[aT,dE] at hx;have hv:Kt [x]=x.toNat-48:=by
   show Ep 0 x=_;unfold Ep;omega
  have hd:Lib.decDigits (Kt [x])=[x]:=by
   rw[hv,Ip (by omega),show 48+(x.toNat-48)=x.toNat by omega,UInt8.ofNat_toNat]
  rw[if_pos ⟨by simp,by simp,by simp[h],hd⟩,hv]
 ·rw[if_neg h,if_neg]
  rintro⟨_,_,h3,_⟩
  simp[h] at h3
theorem Kz {l:List UInt8} (hl:l.length≤1048576):∀ (n i:Nat) (out:List Int),i≤l.length→out.length=i→l.length-i<n →
  ∃ r b,MO KK (mk l) n (i:Int) out=some (r,b)∧b=(l.drop i).all isD∧(b=true→r=out++(l.drop i).map fun x=>((x.toNat-48:Nat):Int))
 | 0,i,_,_,_,h=>by omega
 | n+1,i,out,hi,ho,hn=>by
  show ∃ r b,Tr KK (mk l) (fun v0 v1=>MO KK (mk l) n v0 v1) (i:Int) out=some (r,b)∧_;unfold Tr;rw[GY];by_cases hlt:i<l.length
  ·have hge:(mk l).data.getD ((i:Int)).toNat 0=l[i]:=by rw[ACj,UK,AaA hlt]
   rw[dC hlt];simp only[hge,in1 hlt,in0,aS,oT,tO,cT,AeG];rw[ACk,ABH];cases hb:isD l[i]
   ·exact⟨[],false,rfl,rfl,fun h=>by cases h⟩
   ·have hbb:=hb;unfold isD at hbb;simp only[aT,dE] at hbb;have e1:IntKind.u8.wrap (((l[i].toNat:Nat):Int)-48)=((l[i].toNat-48:Nat):Int):=by
     rw[IntKind.wrap_u8];omega
    have e3:w ((l[i].toNat-48:Nat):Int)=((l[i].toNat-48:Nat):Int):=As (by omega) (by omega)
    simp only[nT,cF,ABJ];rw[e1,e3,GR (by simp;omega),cT,Af (by omega)]
    obtain⟨r,b,h1,h2,h3⟩:=Kz hl n (i+1) (out++[((l[i].toNat-48:Nat):Int)]) (by omega) (by simp;omega) (by omega)
    exact⟨r,b,h1,h2,fun h=>by rw[h3 h,AA5];rfl⟩
  ·have:i=l.length:=by omega
   subst this;rw[AO,cF,ABZ];exact⟨out,true,rfl,rfl,fun _=>by simp⟩
theorem Qo {l:List UInt8} (hl:l.length≤1048576):∃ r b,Wh KK (mk l)=some (r,b)∧b=l.all isD∧(b=true→r=l.map fun x=>((x.toNat-48:Nat):Int)):=by
 obtain⟨r,b,h1,h2,h3⟩:=Kz hl KK 0 [] (ABU _) rfl (by simp only[KK];omega)
 unfold Wh Y7;exact⟨r,b,h1,h2,h3⟩
def orK (v:Option Vc) (k:Option Int):Ma×Bool:=match v,k with | some v,some k=>((v,k),true) | _,_=>(((0,0),0),false)
theorem XQ {a c:List UInt8} (ha:a.length≤1048576) (hc:c.length≤1048576):Acq KK (mk a) (mk c)=some (orK (rdV a) (rdC c)):=by
 obtain⟨r,b,e,h1,h2⟩:=Qo hc;unfold Acq;rw[Al6 ha,oB,e,oB];simp only[oT,tO,cT];cases hv:rdV a with
 | none=>rfl
 | some v =>
  simp only[orV,nT,cF];cases hb:b
  ·have hn:rdC c=none:=by
    unfold rdC;split
    ·rename_i x;rw[if_neg];intro hx;rw[hb] at h1;simp[hx] at h1
    ·rfl
   rw[hn];rfl
  ·have hr:=h2 hb;rw[hb] at h1;subst hr;simp only[nT,cF]
   match c,h1 with
   | [],_=>rfl
   | [x],h1 =>
    have hx:isD x=true:=by simpa using h1.symm
    rw[US,if_pos hx];rfl
   | x :: y :: z,_ =>
    have:((((x :: y :: z).map fun x=>((x.toNat-48:Nat):Int)).length:Int) != (1:Int))=true:=by
     rw[bne_iff_ne];simp;omega
    rw[this];rfl
abbrev St:=Nat×Int×Lt×List Mo×List Ma
def wF:List UInt8:=[102,114,97,109,101]
def wL:List UInt8:=[108,97,116,116,105,99,101]
def wM:List UInt8:=[109,111,116,105,111,110]
def wK:List UInt8:=[109,97,114,107]
def frO (b:List UInt8):Option Int:=if b=[83] then some 0 else if b=[72] then some 1 else none
def Cz (s:St) (ws:List (List UInt8)):St×Int:=match ws with
 | [a,b] =>
  if a=wF then (match frO b with
   | some f=>if s.1=0 then ((s.1+1,f,s.2.2),0) else (s,5)
   | none=>(s,6))
  else if a=wL then (match Qn b with
   | some l=>if s.1=1 then ((s.1+1,s.2.1,l,s.2.2.2),0) else (s,5)
   | none=>(s,6))
  else if a=wM then (match Mx b with
   | some m=>if s.1<2 then (s,5) else if s.2.2.2.1.length=8 then (s,3) else if GS s.2.1 s.2.2.1 m then ((s.1+1,s.2.1,s.2.2.1,s.2.2.2.1++[(m.1,AX s.2.2.1 m.2)],s.2.2.2.2),0) else (s,2)
   | none=>(s,6))
  else (s,6)
 | [a,b,c] =>
  if a=wK then (match rdV b,rdC c with
   | some v,some k=>if s.1<2 then (s,5) else if s.2.2.2.2.length=40 then (s,3) else ((s.1+1,s.2.1,s.2.2.1,s.2.2.2.1,s.2.2.2.2++[(v,k)]),0)
   | _,_=>(s,6))
  else (s,6)
 | _=>(s,6)
structure GC (s:St):Prop where
 n:s.1≤4000
 fr:1≤s.1→okF s.2.1=true
 la:2≤s.1→IsL s.2.2.1
 mo:∀ m∈s.2.2.2.1,2≤s.1∧OkM s.2.1 s.2.2.1 m
 ml:s.2.2.2.1.length≤8
 ma:∀ x∈s.2.2.2.2,Ba x.1=true∧okC x.2=true
 kl:s.2.2.2.2.length≤40
theorem XR {l:List UInt8} {m:Mo} (h:Mx l=some m):Ba m.2=true:=by
 unfold Mx at h;split at h
 ·split at h
  ·rename_i m t hm ht;split at h
   ·cases h;exact Nq ht
   ·cases h
  ·cases h
 ·cases h
theorem GC.next {s:St} (h:GC s) (h3:s.1<4000) {ws:List (List UInt8)} (h0:(Cz s ws).2=0):GC (Cz s ws).1∧(Cz s ws).1.1=s.1+1:=by
 unfold Cz at h0 ⊢;split at h0
 ·rename_i a b;split at h0
  ·rename_i ha;simp only[if_pos ha];split at h0
   ·rename_i f hf;split at h0
    ·rename_i hs;simp only[hf,if_pos hs];have hm:s.2.2.2.1=[]:=by
      cases hx:s.2.2.2.1 with
      | nil=>rfl
      | cons m r=>have:=(h.mo m (by rw[hx];simp)).1;omega
     refine⟨⟨by simp only;omega,fun _=>?_,fun h2=>by simp only at h2;omega,fun m hmm=>?_,h.ml,h.ma,h.kl⟩,trivial⟩
     ·unfold frO at hf;split at hf
      ·cases hf;rfl
      ·split at hf
       ·cases hf;rfl
       ·cases hf
     ·simp only[hm] at hmm;cases hmm
    ·cases h0
   ·cases h0
  ·rename_i ha;simp only[if_neg ha];split at h0
   ·rename_i hb;simp only[if_pos hb];split at h0
    ·rename_i l hl;split at h0
     ·rename_i hs;simp only[hl,if_pos hs];have hm:s.2.2.2.1=[]:=by
       cases hx:s.2.2.2.1 with
       | nil=>rfl
       | cons m r=>have:=(h.mo m (by rw[hx];simp)).1;omega
      refine⟨⟨by simp only;omega,fun _=>h.fr (by omega),fun _=>?_,fun m hmm=>?_,h.ml,h.ma,h.kl⟩,trivial⟩
      ·unfold Qn at hl;split at hl
       ·split at hl
        ·rename_i hk;cases hl;exact Bt.1 hk
        ·cases hl
       ·cases hl
      ·simp only[hm] at hmm;cases hmm
     ·cases h0
    ·cases h0
   ·rename_i hb;simp only[if_neg hb];split at h0
    ·rename_i hc;simp only[if_pos hc];split at h0
     ·rename_i m hm;split at h0
      ·cases h0
      ·rename_i h2;split at h0
       ·cases h0
       ·rename_i h8;split at h0
        ·rename_i hsu;simp only[hm,if_neg h2,if_neg h8,if_pos hsu];have hl:=h.la (by omega)
         refine⟨⟨by simp only;omega,fun _=>h.fr (by omega),fun _=>hl,fun x hx=>?_,?_,h.ma,h.kl⟩,trivial⟩
         ·rcases AA8.1 hx with hx | hx
          ·exact⟨by simp only;omega,(h.mo x hx).2⟩
          ·rw[mS] at hx;subst hx;unfold GS at hsu;rw[aT,cM] at hsu;exact⟨by simp only;omega,hsu.1,AM hl _⟩
         ·have:=h.ml;simp only[lA,ABA];omega
        ·cases h0
     ·cases h0
    ·cases h0
 ·rename_i a b c;split at h0
  ·rename_i ha;simp only[if_pos ha];split at h0
   ·rename_i v k hv hk;split at h0
    ·cases h0
    ·rename_i h2;split at h0
     ·cases h0
     ·rename_i h40;simp only[hv,hk,if_neg h2,if_neg h40];refine⟨⟨by simp only;omega,fun _=>h.fr (by omega),fun _=>h.la (by omega),fun x hx=>⟨by simp only;omega,(h.mo x hx).2⟩,h.ml,fun x hx=>?_,?_⟩,by trivial⟩
      ·rcases AA8.1 hx with hx | hx
       ·exact h.ma x hx
       ·rw[mS] at hx;subst hx;refine⟨Nq hv,?_⟩;have:=AwC hk;unfold okC;exact dT this
      ·have:=h.kl;simp only[lA,ABA];omega
   ·cases h0
  ·cases h0
 ·cases h0
abbrev Pl (s:St):Int×Lt×Int×List Mo×List Ma:=(s.2.1,s.2.2.1,(s.1:Int),s.2.2.2.1,s.2.2.2.2)
abbrev XS (s:St):Int×Int×Lt×List Mo×List Ma:=((s.1:Int),s.2.1,s.2.2.1,s.2.2.2.1,s.2.2.2.2)
theorem AwD {l:List UInt8} (h:l.length≤1048576):J4 KK (mk l) (32:Int)=some ((spa 32 [] l).map mk):=KD (c:=32) h
theorem AtM {l:List UInt8} (h:l.length≤1048576):∀ x∈spa 32 [] l,x.length≤1048576:=fun x hx=>by
 have:=EK 32 l [] x hx;simp only[ABm] at this;omega
theorem AAH {c:List UInt8} (hc:c.length≤1048576):∃ n b,LW KK (mk c)=some (n,b)∧((b&&(((mk c).size:Int)==1))=(rdC c).isSome)∧∀ k,rdC c=some k→n=k:=by
 obtain⟨n,e,h⟩:=It hc;refine⟨n,_,e,?_,fun k hk=>?_⟩
 ·rw[GY]
  match c with
  | []=>rfl
  | [x] =>
   rw[XP,US];by_cases hx:isD x=true
   ·rw[if_pos hx,if_pos hx];rfl
   ·rw[if_neg hx,if_neg hx];rfl
  | x :: y :: z =>
   have:(((x :: y :: z).length:Int)==(1:Int))=false:=by
    rw[bN];simp;omega
   rw[this,ADW];rfl
 ·unfold rdC at hk;split at hk
  ·rename_i x;split at hk
   ·rename_i hx;cases hk;exact h _ (by rw[XP,if_pos hx])
   ·cases hk
  ·cases hk
theorem eqW (a:List UInt8):((mk a==bs [102,114,97,109,101])=decide (a=wF))∧((mk a==bs [108,97,116,116,105,99,101])=decide (a=wL))∧((mk a==bs [109,111,116,105,111,110])=decide (a=wM))∧((mk a==bs [109,97,114,107])=decide (a=wK))∧((mk a==bs [83])=decide (a=[83]))∧((mk a==bs [72])=decide (a=[72])) :=
 ⟨Ed a wF,Ed a wL,Ed a wM,Ed a wK,Ed a [83],Ed a [72]⟩
theorem Amb {s:St} (h:GC s) (h3:s.1<4000) {line:List UInt8} (hl:line.length≤1048576):∃ r,Ajf KK (Pl s) (mk line)=some r∧r.2=(Cz s (spa 32 [] line)).2∧((Cz s (spa 32 [] line)).2=0→r.1=Pl (Cz s (spa 32 [] line)).1):=by
 have hsz:=AtM hl;have hw1:w ((s.1:Int)+1)=((s.1+1:Nat):Int):=Af (by omega)
 unfold Ajf;rw[AwD hl,oB,Er]
 match hw:spa 32 [] line with
 | [] =>
  have:=(Eo 32 line []).2;rw[hw] at this;simp at this
 | [a]=>exact⟨_,rfl,rfl,fun h=>by cases h⟩
 | a :: b :: c :: d :: r =>
  have e2:(((a :: b :: c :: d :: r).length:Int)==(2:Int))=false:=by rw[bN];simp;omega
  have e3:(((a :: b :: c :: d :: r).length:Int)==(3:Int))=false:=by rw[bN];simp;omega
  simp only[e2,e3,nF,tO,oT,cT,cF,ADB];exact⟨_,rfl,rfl,fun h=>by cases h⟩
 | [a,b] =>
  rw[hw] at hsz;have hb:=hsz b (by simp)
  obtain⟨eF,eL,eM,eK,_,_⟩:=eqW a;obtain⟨_,_,_,_,eS,eH⟩:=eqW b;have e2:((([a,b]:List (List UInt8)).length:Int)==(2:Int))=true:=rfl;have e3:((([a,b]:List (List UInt8)).length:Int)==(3:Int))=false:=rfl;have g0:(decide (0≤(0:Int))&&decide ((0:Int)<(([a,b]:List (List UInt8)).length:Int)))=true:=rfl;have g1:(decide (0≤(1:Int))&&decide ((1:Int)<(([a,b]:List (List UInt8)).length:Int)))=true:=rfl;have k0:(([a,b].map mk).getD ((0:Int)+(0:Int)).toNat ByteArray.empty)=mk a:=rfl;have k1:(([a,b].map mk).getD ((0:Int)+(1:Int)).toNat ByteArray.empty)=mk b:=rfl;simp only[e2,e3,g0,g1,k0,k1,eF,eL,eM,eS,eH,nF,nT,oT,tO,cT,cF,ADB,ADW];unfold Cz;by_cases hF:a=wF
  ·rw[dT hF];simp only[if_pos hF,cT];unfold frO;by_cases hS:b=[83]
   ·have hH:¬ b=[72]:=by rw[hS];decide
    rw[dT hS,dF hH];simp only[if_pos hS,cT,cF];rw[hw1];by_cases h0:s.1=0
    ·have:(((s.1+1:Nat):Int) != (1:Int))=false:=by rw[h0];rfl
     rw[this,if_pos h0];exact⟨_,rfl,rfl,fun _=>rfl⟩
    ·have:(((s.1+1:Nat):Int) != (1:Int))=true:=by rw[bne_iff_ne];omega
     rw[this,if_neg h0];exact⟨_,rfl,rfl,fun h=>by cases h⟩
   ·rw[dF hS];simp only[if_neg hS,cF];by_cases hH:b=[72]
    ·rw[dT hH];simp only[if_pos hH,cT];rw[hw1];by_cases h0:s.1=0
     ·have:(((s.1+1:Nat):Int) != (1:Int))=false:=by rw[h0];rfl
      rw[this,if_pos h0];exact⟨_,rfl,rfl,fun _=>rfl⟩
     ·have:(((s.1+1:Nat):Int) != (1:Int))=true:=by rw[bne_iff_ne];omega
      rw[this,if_neg h0];exact⟨_,rfl,rfl,fun h=>by cases h⟩
    ·have hL:¬ a=wL:=by rw[hF];decide
     have hM:¬ a=wM:=by rw[hF];decide
     rw[dF hH,dF hL,dF hM];simp only[if_neg hH,cF];exact⟨_,rfl,rfl,fun h=>by cases h⟩
  ·rw[dF hF];simp only[if_neg hF,cF];by_cases hL:a=wL
   ·rw[dT hL];simp only[if_pos hL,cT];rw[Awx hb,oB];cases hr:Qn b with
    | none=>exact⟨_,rfl,rfl,fun h=>by cases h⟩
    | some l =>
     simp only[orL,nT,cF];rw[hw1];by_cases h1:s.1=1
     ·have:(((s.1+1:Nat):Int) != (2:Int))=false:=by rw[h1];rfl
      rw[this,if_pos h1];exact⟨_,rfl,rfl,fun _=>rfl⟩
     ·have:(((s.1+1:Nat):Int) != (2:Int))=true:=by rw[bne_iff_ne];omega
      rw[this,if_neg h1];exact⟨_,rfl,rfl,fun h=>by cases h⟩
   ·rw[dF hL];simp only[if_neg hL,cF];by_cases hM:a=wM
    ·rw[dT hM];simp only[if_pos hM,cT];rw[ArX hb,oB];cases hr:Mx b with
     | none=>exact⟨_,rfl,rfl,fun h=>by cases h⟩
     | some m =>
      simp only[Al8,nT,cF];rw[hw1];by_cases h2:s.1<2
      ·rw[dT (show ((s.1+1:Nat):Int)<3 by omega),if_pos h2]
       exact⟨_,rfl,rfl,fun h=>by cases h⟩
      ·rw[dF (show ¬ ((s.1+1:Nat):Int)<3 by omega),if_neg h2,cF]
       by_cases h8:s.2.2.2.1.length=8
       ·have:((s.2.2.2.1.length:Int)==(8:Int))=true:=by rw[h8];rfl
        rw[this,if_pos h8];exact⟨_,rfl,rfl,fun h=>by cases h⟩
       ·have:((s.2.2.2.1.length:Int)==(8:Int))=false:=by rw[bN];omega
        have hla:=h.la (by omega)
        rw[this,if_neg h8,cF,Qk,h.fr (by omega),Bt.2 hla,oB]
        simp only[ABJ];cases hsu:GS s.2.1 s.2.2.1 m
        ·exact⟨_,rfl,rfl,fun h=>by cases h⟩
        ·have hml:=h.ml;simp only[nT,cF,if_true];rw[Ea (by omega),cT,Dl hla (m:=m) (Om (Ub (XR hr))),oB,Ea (by simp;omega)]
         exact⟨_,rfl,rfl,fun _=>rfl⟩
    ·rw[dF hM];simp only[if_neg hM,cF];exact⟨_,rfl,rfl,fun h=>by cases h⟩
 | [a,b,c] =>
  rw[hw] at hsz;have hb:=hsz b (by simp)
  have hc:=hsz c (by simp)
  obtain⟨eF,eL,eM,eK,_,_⟩:=eqW a;have e2:((([a,b,c]:List (List UInt8)).length:Int)==(2:Int))=false:=rfl;have e3:((([a,b,c]:List (List UInt8)).length:Int)==(3:Int))=true:=rfl;have g0:(decide (0≤(0:Int))&&decide ((0:Int)<(([a,b,c]:List (List UInt8)).length:Int)))=true:=rfl;have g1:(decide (0≤(1:Int))&&decide ((1:Int)<(([a,b,c]:List (List UInt8)).length:Int)))=true:=rfl;have g2:(decide (0≤(2:Int))&&decide ((2:Int)<(([a,b,c]:List (List UInt8)).length:Int)))=true:=rfl;have k0:(([a,b,c].map mk).getD ((0:Int)+(0:Int)).toNat ByteArray.empty)=mk a:=rfl;have k1:(([a,b,c].map mk).getD ((0:Int)+(1:Int)).toNat ByteArray.empty)=mk b:=rfl;have k2:(([a,b,c].map mk).getD ((0:Int)+(2:Int)).toNat ByteArray.empty)=mk c:=rfl;simp only[e2,e3,g0,g1,g2,k0,k1,k2,eK,nF,nT,oT,tO,cT,cF,ADB,ADW];unfold Cz;by_cases hK:a=wK
  ·rw[dT hK];simp only[if_pos hK,cT];obtain⟨n,b0,e,h1,h2⟩:=AAH hc;rw[Al5 hb,oB,e,oB];cases hv:rdV b with
   | none=>exact⟨_,rfl,rfl,fun h=>by cases h⟩
   | some v =>
    simp only[orV,nT,nF,cF,cT,oT,tO];cases hk:rdC c with
    | none =>
     rw[hk] at h1;cases hb0:b0
     ·exact⟨_,rfl,rfl,fun h=>by cases h⟩
     ·rw[hb0] at h1;have h1:(((mk c).size:Int)==1)=false:=by simpa using h1
      have h1':(((mk c).size:Int) != 1)=true:=by unfold bne;rw[h1];rfl
      simp only[nT,cF,h1',cT];exact⟨_,rfl,rfl,fun h=>by cases h⟩
    | some k =>
     rw[hk] at h1;have h1:b0=true∧(((mk c).size:Int)==1)=true:=by simpa using h1
     have h1':(((mk c).size:Int) != 1)=false:=by unfold bne;rw[h1.2];rfl
     rw[h1.1];simp only[nT,cF,h1'];rw[hw1,h2 k hk];by_cases hs2:s.1<2
     ·rw[dT (show ((s.1+1:Nat):Int)<3 by omega),if_pos hs2]
      exact⟨_,rfl,rfl,fun h=>by cases h⟩
     ·rw[dF (show ¬ ((s.1+1:Nat):Int)<3 by omega),if_neg hs2,cF]
      by_cases h40:s.2.2.2.2.length=40
      ·have:((s.2.2.2.2.length:Int)==(40:Int))=true:=by rw[h40];rfl
       rw[this,if_pos h40];exact⟨_,rfl,rfl,fun h=>by cases h⟩
      ·have:((s.2.2.2.2.length:Int)==(40:Int))=false:=by rw[bN];omega
       have hkl:=h.kl;rw[this,if_neg h40,cF,OA (by omega),cT,OA (by simp;omega)]
       exact⟨_,rfl,rfl,fun _=>rfl⟩
  ·rw[dF hK];simp only[if_neg hK,cF];exact⟨_,rfl,rfl,fun h=>by cases h⟩
end Go.Proofs.YtkemdhpdfaejgaaGreatDoor.X
