/- The lines of a program: both sides take them alike. -/
import Derived.Test.YtelgaemfnhnbmaaGreatDoorQtSG
import Derived.Test.YtelgaemfnhnbmaaGreatDoorQtSB
import Derived.Test.YtelgaemfnhnbmaaGreatDoorQtPCompleteMarks
namespace Go.Proofs.YtelgaemfnhnbmaaGreatDoor.X
open Go
set_option linter.unusedSimpArgs false
set_option linter.unusedVariables false
def rdC (b:List UInt8):Option Int:=match b with
 | [x]=>if isD x=true then some ((x.toNat-48:Nat):Int) else none
 | _=>none
theorem rdC_one (x:UInt8):rdC [x]=if isD x=true then some ((x.toNat-48:Nat):Int) else none:=rfl
theorem rdC_ok {b:List UInt8} {k:Int} (h:rdC b=some k):0≤k∧k≤9:=by
 unfold rdC at h;split at h
 ·split at h
  ·rename_i x hx;cases h;unfold isD at hx;simp only[aT,dE] at hx;omega
  ·cases h
 ·cases h
theorem digits_loopI {l:List UInt8} (hl:l.length≤1048576):∀ (n i:Nat) (out:List Int),i≤l.length→out.length=i→l.length-i<n →
  ∃ r b,f228_l2 KK (mk l) n (i:Int) out=some (r,b)∧b=(l.drop i).all isD∧(b=true→r=out++(l.drop i).map fun x=>((x.toNat-48:Nat):Int))
 | 0,i,_,_,_,h=>by omega
 | n+1,i,out,hi,ho,hn=>by
  show ∃ r b,f228_b2 KK (mk l) (fun v0 v1=>f228_l2 KK (mk l) n v0 v1) (i:Int) out=some (r,b)∧_;unfold f228_b2;rw[sz_mk];by_cases hlt:i<l.length
  ·have hge:(mk l).data.getD ((i:Int)).toNat 0=l[i]:=by rw[Int.toNat_natCast,mk_get,get_in hlt]
   rw[dC hlt];simp only[hge,in1 hlt,in0,aS,oT,tO,cT,isD_cmp];rw[List.all_cons,List.map_cons];cases hb:isD l[i]
   ·exact⟨[],false,rfl,rfl,fun h=>by cases h⟩
   ·have hbb:=hb;unfold isD at hbb;simp only[aT,dE] at hbb;have e1:IntKind.u8.wrap (((l[i].toNat:Nat):Int)-48)=((l[i].toNat-48:Nat):Int):=by
     rw[IntKind.wrap_u8];omega
    have e3:w ((l[i].toNat-48:Nat):Int)=((l[i].toNat-48:Nat):Int):=w_id (by omega) (by omega)
    simp only[nT,cF,Bool.true_and];rw[e1,e3,blim8 (by simp;omega),cT,w_succ (by omega)]
    obtain⟨r,b,h1,h2,h3⟩:=digits_loopI hl n (i+1) (out++[((l[i].toNat-48:Nat):Int)]) (by omega) (by simp;omega) (by omega)
    exact⟨r,b,h1,h2,fun h=>by rw[h3 h,List.append_assoc];rfl⟩
  ·have:i=l.length:=by omega
   subst this;rw[out1,cF,List.drop_length];exact⟨out,true,rfl,rfl,fun _=>by simp⟩
theorem readDigits_eq {l:List UInt8} (hl:l.length≤1048576):∃ r b,f228G KK (mk l)=some (r,b)∧b=l.all isD∧(b=true→r=l.map fun x=>((x.toNat-48:Nat):Int)):=by
 obtain⟨r,b,h1,h2,h3⟩:=digits_loopI hl KK 0 [] (Nat.zero_le _) rfl (by simp only[KK];omega)
 unfold f228G f228_g;exact⟨r,b,h1,h2,h3⟩
def orK (v:Option Vc) (k:Option Int):Ma×Bool:=match v,k with | some v,some k=>((v,k),true) | _,_=>(((0,0),0),false)
theorem readMark_eq {a c:List UInt8} (ha:a.length≤1048576) (hc:c.length≤1048576):f193G KK (mk a) (mk c)=some (orK (rdV a) (rdC c)):=by
 obtain⟨r,b,e,h1,h2⟩:=readDigits_eq hc;unfold f193G;rw[implRV ha,oB,e,oB];simp only[oT,tO,cT];cases hv:rdV a with
 | none=>rfl
 | some v =>
  simp only[orV,nT,cF];cases hb:b
  ·have hn:rdC c=none:=by
    unfold rdC;split
    ·rename_i x;rw[if_neg];intro hx;rw[hb] at h1;simp[hx] at h1
    ·rfl
   rw[hn];rfl
  ·have hr:=h2 hb;rw[hb] at h1;subst hr;simp only[nT,cF]
   match c,h1 with
   | [],_=>rfl
   | [x],h1 =>
    have hx:isD x=true:=by simpa using h1.symm
    rw[rdC_one,if_pos hx];rfl
   | x :: y :: z,_ =>
    have:((((x :: y :: z).map fun x=>((x.toNat-48:Nat):Int)).length:Int) != (1:Int))=true:=by
     rw[bne_iff_ne];simp;omega
    rw[this];rfl
abbrev St:=Nat×Int×Lt×List Mo×List Ma
def wF:List UInt8:=[102,114,97,109,101]
def wL:List UInt8:=[108,97,116,116,105,99,101]
def wM:List UInt8:=[109,111,116,105,111,110]
def wK:List UInt8:=[109,97,114,107]
def frO (b:List UInt8):Option Int:=if b=[83] then some 0 else if b=[72] then some 1 else none
def stepS (s:St) (ws:List (List UInt8)):St×Int:=match ws with
 | [a,b] =>
  if a=wF then (match frO b with
   | some f=>if s.1=0 then ((s.1+1,f,s.2.2),0) else (s,5)
   | none=>(s,6))
  else if a=wL then (match rdLt b with
   | some l=>if s.1=1 then ((s.1+1,s.2.1,l,s.2.2.2),0) else (s,5)
   | none=>(s,6))
  else if a=wM then (match rdMo b with
   | some m=>if s.1<2 then (s,5) else if s.2.2.2.1.length=8 then (s,3) else if suitB s.2.1 s.2.2.1 m then ((s.1+1,s.2.1,s.2.2.1,s.2.2.2.1++[(m.1,redS s.2.2.1 m.2)],s.2.2.2.2),0) else (s,2)
   | none=>(s,6))
  else (s,6)
 | [a,b,c] =>
  if a=wK then (match rdV b,rdC c with
   | some v,some k=>if s.1<2 then (s,5) else if s.2.2.2.2.length=40 then (s,3) else ((s.1+1,s.2.1,s.2.2.1,s.2.2.2.1,s.2.2.2.2++[(v,k)]),0)
   | _,_=>(s,6))
  else (s,6)
 | _=>(s,6)
structure InvS (s:St):Prop where
 n:s.1≤4000
 fr:1≤s.1→okF s.2.1=true
 la:2≤s.1→IsL s.2.2.1
 mo:∀ m∈s.2.2.2.1,2≤s.1∧OkM s.2.1 s.2.2.1 m
 ml:s.2.2.2.1.length≤8
 ma:∀ x∈s.2.2.2.2,vecB x.1=true∧okC x.2=true
 kl:s.2.2.2.2.length≤40
theorem rdMo_vec {l:List UInt8} {m:Mo} (h:rdMo l=some m):vecB m.2=true:=by
 unfold rdMo at h;split at h
 ·split at h
  ·rename_i m t hm ht;split at h
   ·cases h;exact rdV_vec ht
   ·cases h
  ·cases h
 ·cases h
theorem InvS.next {s:St} (h:InvS s) (h3:s.1<4000) {ws:List (List UInt8)} (h0:(stepS s ws).2=0):InvS (stepS s ws).1∧(stepS s ws).1.1=s.1+1:=by
 unfold stepS at h0 ⊢;split at h0
 ·rename_i a b;split at h0
  ·rename_i ha;simp only[if_pos ha];split at h0
   ·rename_i f hf;split at h0
    ·rename_i hs;simp only[hf,if_pos hs];have hm:s.2.2.2.1=[]:=by
      cases hx:s.2.2.2.1 with
      | nil=>rfl
      | cons m r=>have:=(h.mo m (by rw[hx];simp)).1;omega
     refine⟨⟨by simp only;omega,fun _=>?_,fun h2=>by simp only at h2;omega,fun m hmm=>?_,h.ml,h.ma,h.kl⟩,trivial⟩
     ·unfold frO at hf;split at hf
      ·cases hf;rfl
      ·split at hf
       ·cases hf;rfl
       ·cases hf
     ·simp only[hm] at hmm;cases hmm
    ·cases h0
   ·cases h0
  ·rename_i ha;simp only[if_neg ha];split at h0
   ·rename_i hb;simp only[if_pos hb];split at h0
    ·rename_i l hl;split at h0
     ·rename_i hs;simp only[hl,if_pos hs];have hm:s.2.2.2.1=[]:=by
       cases hx:s.2.2.2.1 with
       | nil=>rfl
       | cons m r=>have:=(h.mo m (by rw[hx];simp)).1;omega
      refine⟨⟨by simp only;omega,fun _=>h.fr (by omega),fun _=>?_,fun m hmm=>?_,h.ml,h.ma,h.kl⟩,trivial⟩
      ·unfold rdLt at hl;split at hl
       ·split at hl
        ·rename_i hk;cases hl;exact okL_iff.1 hk
        ·cases hl
       ·cases hl
      ·simp only[hm] at hmm;cases hmm
     ·cases h0
    ·cases h0
   ·rename_i hb;simp only[if_neg hb];split at h0
    ·rename_i hc;simp only[if_pos hc];split at h0
     ·rename_i m hm;split at h0
      ·cases h0
      ·rename_i h2;split at h0
       ·cases h0
       ·rename_i h8;split at h0
        ·rename_i hsu;simp only[hm,if_neg h2,if_neg h8,if_pos hsu];have hl:=h.la (by omega)
         refine⟨⟨by simp only;omega,fun _=>h.fr (by omega),fun _=>hl,fun x hx=>?_,?_,h.ma,h.kl⟩,trivial⟩
         ·rcases List.mem_append.1 hx with hx | hx
          ·exact⟨by simp only;omega,(h.mo x hx).2⟩
          ·rw[mS] at hx;subst hx;unfold suitB at hsu;rw[aT,cM] at hsu;exact⟨by simp only;omega,hsu.1,redS_isCell hl _⟩
         ·have:=h.ml;simp only[lA,List.length_singleton];omega
        ·cases h0
     ·cases h0
    ·cases h0
 ·rename_i a b c;split at h0
  ·rename_i ha;simp only[if_pos ha];split at h0
   ·rename_i v k hv hk;split at h0
    ·cases h0
    ·rename_i h2;split at h0
     ·cases h0
     ·rename_i h40;simp only[hv,hk,if_neg h2,if_neg h40];refine⟨⟨by simp only;omega,fun _=>h.fr (by omega),fun _=>h.la (by omega),fun x hx=>⟨by simp only;omega,(h.mo x hx).2⟩,h.ml,fun x hx=>?_,?_⟩,by trivial⟩
      ·rcases List.mem_append.1 hx with hx | hx
       ·exact h.ma x hx
       ·rw[mS] at hx;subst hx;refine⟨rdV_vec hv,?_⟩;have:=rdC_ok hk;unfold okC;exact dT this
      ·have:=h.kl;simp only[lA,List.length_singleton];omega
   ·cases h0
  ·cases h0
 ·cases h0
abbrev tupS (s:St):Int×Lt×Int×List Mo×List Ma:=(s.2.1,s.2.2.1,(s.1:Int),s.2.2.2.1,s.2.2.2.2)
abbrev tupI (s:St):Int×Int×Lt×List Mo×List Ma:=((s.1:Int),s.2.1,s.2.2.1,s.2.2.2.1,s.2.2.2.2)
theorem spa32 {l:List UInt8} (h:l.length≤1048576):∀ x∈spa 32 [] l,x.length≤1048576:=fun x hx=>by
 have:=spa_size 32 l [] x hx;simp only[List.length_nil] at this;omega
theorem eqW (a:List UInt8):((mk a==bs [102,114,97,109,101])=decide (a=wF))∧((mk a==bs [108,97,116,116,105,99,101])=decide (a=wL))∧((mk a==bs [109,111,116,105,111,110])=decide (a=wM))∧((mk a==bs [109,97,114,107])=decide (a=wK))∧((mk a==bs [83])=decide (a=[83]))∧((mk a==bs [72])=decide (a=[72])) :=
 ⟨mk_beq a wF,mk_beq a wL,mk_beq a wM,mk_beq a wK,mk_beq a [83],mk_beq a [72]⟩
end Go.Proofs.YtelgaemfnhnbmaaGreatDoor.X
