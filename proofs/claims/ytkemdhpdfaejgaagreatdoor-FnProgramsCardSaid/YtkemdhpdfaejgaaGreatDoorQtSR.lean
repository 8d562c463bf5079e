/- Splitting a text into words, and reading numbers from words, as the reference does it. -/
import Derived.Test.YtkemdhpdfaejgaaGreatDoorQtSA
import Derived.Test.YtkemdhpdfaejgaaGreatDoorQzXRow
namespace Go.Proofs.YtkemdhpdfaejgaaGreatDoor.X
open Go
set_option linter.unusedSimpArgs false
set_option linter.unusedVariables false
theorem AaA {l:List UInt8} {i:Nat} (h:i<l.length):l.getD i 0=l[i]:=by simp[List.getD,h]
theorem le1 {q n:Nat} (h:q≤n):decide ((q:Int)≤(n:Int))=true:=by simp;omega
theorem GY (l:List UInt8):((mk l).size:Int)=(l.length:Int):=by rw[Aq]
theorem UT (l:List UInt8) (i j:Nat):(mk l).extract ((i:Int)).toNat ((j:Int)).toNat=mk ((l.take j).drop i):=by
 rw[ACj,ACj,AlQ]
theorem Agy {l:List UInt8} {i fr:Nat} (h:i<l.length) (hf:fr≤i):(l.take (i+1)).drop fr=(l.take i).drop fr++[l[i]]:=by
 rw[ADA,AA7 h,Option.toList_some,ACZ (by rw[ABv];omega)]
theorem Jo {c:UInt8} {l:List UInt8} (hl:l.length≤1048576):∀ (n i fr:Nat) (out:List ByteArray),fr≤i→i≤l.length→out.length≤i→l.length+1-i<n →
  Og KK (mk l) ((c.toNat:Nat):Int) n (fr:Int) (i:Int) out=some (out++(spa c ((l.take i).drop fr) (l.drop i)).map mk)
 | 0,i,fr,out,_,_,_,hn=>by omega
 | n+1,i,fr,out,hf,hi,ho,hn=>by
  show Of KK (mk l) ((c.toNat:Nat):Int) (fun v0 v1 v2=>Og KK (mk l) ((c.toNat:Nat):Int) n v0 v1 v2) (fr:Int) (i:Int) out=_;unfold Of;rw[GY,le1 hi,cT];have hlim:Nat.ble (out.length+[(mk l).extract ((fr:Int)).toNat ((i:Int)).toNat].length) (lim 16)=true:=Gm (by simp;omega)
  have hw:w ((i:Int)+1)=((i+1:Nat):Int):=Af (by omega)
  by_cases hlt:i<l.length
  ·have hne:((i:Int)==(l.length:Int))=false:=by rw[bN];omega
   have hge:(mk l).data.getD ((i:Int)).toNat 0=l[i]:=by rw[ACj,UK,AaA hlt]
   simp only[hne,nF,nT,ACl,ACw,oT,tO,in0,in1 hlt,le1 hf,aS,AC4,cT,cF,hge];rw[dC hlt,spa];by_cases hc:l[i]=c
   ·rw[if_pos hc,hc];have:(((c.toNat:Nat):Int)==((c.toNat:Nat):Int))=true:=by simp
    rw[this,cT,hlim,cT,hw,Jo hl n (i+1) (i+1) _ (by omega) (by omega) (by simp;omega) (by omega),UT]
    have e:(l.take (i+1)).drop (i+1)=[]:=by rw[List.drop_eq_nil_iff,ABv];omega
    rw[e,ABH,AA5];rfl
   ·rw[if_neg hc];have:(((l[i].toNat:Nat):Int)==((c.toNat:Nat):Int))=false:=by
     rw[bN];intro e;exact hc (UInt8.toNat_inj.1 (by omega))
    rw[this,cF,hw,Jo hl n (i+1) fr out (by omega) (by omega) (by omega) (by omega),Agy hlt hf]
  ·have hil:i=l.length:=by omega
   subst hil;have heq:((l.length:Int)==(l.length:Int))=true:=by simp
   simp only[heq,in0,le1 hf,aS,AC4,nT,nF,tO,oT,cT];rw[hlim,cT,hw,UT,ABZ,spa];cases n with
   | zero=>omega
   | succ n =>
    show Of KK (mk l) ((c.toNat:Nat):Int) (fun v0 v1 v2=>Og KK (mk l) ((c.toNat:Nat):Int) n v0 v1 v2) ((l.length+1:Nat):Int) ((l.length+1:Nat):Int) _=_;unfold Of;rw[GY,show decide (((l.length+1:Nat):Int)≤(l.length:Int))=false by simp;omega,cF]
    rfl
theorem KD {c:UInt8} {l:List UInt8} (hl:l.length≤1048576):J4 KK (mk l) ((c.toNat:Nat):Int)=some ((spa c [] l).map mk):=by
 have:=Jo (c:=c) hl KK 0 0 [] (AA9 _) (ABU _) (AA9 _) (by simp only[KK];omega)
 unfold J4 Ajc;exact this
theorem AeE {n:Nat} (h:n<10):strOfNums [(IntKind.u8.wrap (w ((48:Int)+(n:Int))))]=mk [UInt8.ofNat (48+n)]:=by
 rw[As (by omega) (by omega)]
 have e:IntKind.u8.wrap (48+(n:Int))=((48+n:Nat):Int):=by
  rw[IntKind.wrap_u8];omega
 rw[e];rfl
theorem AeF:∀ (k f n:Nat),n<10 ^ (k+1)→k<f→k<12→YY KK f (n:Int)=some (mk (Lib.decDigits n))
 | k,0,n,_,hf,_=>by omega
 | k,f+1,n,hn,hf,hk=>by
  show Ab3 KK (YY KK f) (n:Int)=_;unfold Ab3;by_cases h:n<10
  ·rw[dT (show (n:Int)<10 by omega),cT,AeE h,Ip h]
  ·rw[dF (show ¬ (n:Int)<10 by omega),cF]
   have hp:(10:Nat) ^ (k+1)≤10 ^ 12:=ADc (by decide) (by omega)
   have hp2:(10:Nat) ^ 12=1000000000000:=by decide
   have e1:(n:Int).tdiv 10=((n / 10:Nat):Int):=by rw[ADa (by omega)];omega
   have e2:(n:Int).tmod 10=((n % 10:Nat):Int):=by rw[Int.tmod_eq_emod_of_nonneg (by omega)];omega
   rw[e1,e2,As (n:=((n / 10:Nat):Int)) (by omega) (by omega),AeE (by omega)]
   cases k with
   | zero=>omega
   | succ k =>
    have hl:=Jl k (n / 10) (by rw[ADF] at hn;omega)
    rw[AeF k f (n / 10) (by rw[ADF] at hn;omega) (by omega) (by omega),oB,Aq,Aq,show Nat.ble ((Lib.decDigits (n / 10)).length+[UInt8.ofNat (48+n % 10)].length) 9223372036854775807=true by rw[AB4];simp only[ABA];omega,cT,Be,O6 h]
theorem Azq:(10:Nat) ^ (10+1)=100000000000:=by decide
theorem AaB {n:Nat} (h:n<100000000000):YZ KK (n:Int)=some (mk (Lib.decDigits n)) :=
 AeF 10 KK n (by rw[Azq];exact h) (by simp only[KK];omega) (by omega)
theorem AeG (b:UInt8):(bif decide (((b.toNat:Nat):Int)<(48:Int)) then true else decide (((b.toNat:Nat):Int)>(57:Int)))=!isD b:=by
 unfold isD;by_cases h1:b.toNat<48
 ·rw[dT (show ((b.toNat:Nat):Int)<48 by omega),dF (show ¬ 48≤b.toNat by omega)]
  rfl
 ·rw[dF (show ¬ ((b.toNat:Nat):Int)<48 by omega),dT (show 48≤b.toNat by omega),cF]
  by_cases h2:b.toNat≤57
  ·rw[dT h2,dF (by omega)]
   rfl
  ·rw[dF h2,dT (by omega)]
   rfl
theorem Mk {l:List UInt8} (hl:l.length≤10):∀ (n i v:Nat),i≤l.length→v<10 ^ i→l.length-i<n →
  M2 KK (mk l) n (v:Int) (i:Int)=some (bif (l.drop i).all isD then ((((l.drop i).foldl Ep v:Nat):Int),decide (Lib.decDigits ((l.drop i).foldl Ep v)=l)) else (0,false))
 | 0,i,v,_,_,hn=>by omega
 | n+1,i,v,hi,hv,hn=>by
  show TL KK (mk l) (fun v0 v1=>M2 KK (mk l) n v0 v1) (v:Int) (i:Int)=_;unfold TL;rw[GY];have hp:(10:Nat) ^ i≤10 ^ 10:=ADc (by decide) (by omega)
  have hp2:(10:Nat) ^ 10=10000000000:=by decide
  by_cases hlt:i<l.length
  ·have hge:(mk l).data.getD ((i:Int)).toNat 0=l[i]:=by rw[ACj,UK,AaA hlt]
   rw[dC hlt];simp only[hge,in1 hlt,in0,aS,oT,tO,cT,AeG];rw[ACk,ABy];cases hb:isD l[i]
   ·simp
   ·have hbb:=hb;unfold isD at hbb;simp only[aT,dE] at hbb;have e1:IntKind.u8.wrap (((l[i].toNat:Nat):Int)-48)=((l[i].toNat-48:Nat):Int):=by
     rw[IntKind.wrap_u8];omega
    have e2:w (10*(v:Int))=((10*v:Nat):Int):=by rw[As (by omega) (by omega)];omega
    have e3:w ((l[i].toNat-48:Nat):Int)=((l[i].toNat-48:Nat):Int):=As (by omega) (by omega)
    have e4:w (((10*v:Nat):Int)+((l[i].toNat-48:Nat):Int))=((Ep v l[i]:Nat):Int):=by
     rw[As (by omega) (by omega)]
     unfold Ep;omega
    simp only[nT,cF,ABJ];rw[e1,e2,e3,e4,Af (by omega),Mk hl n (i+1) (Ep v l[i]) (by omega) (by
     unfold Ep;rw[ADF];omega) (by omega)]
  ·have hil:i=l.length:=by omega
   subst hil;rw[AO,cF,ABZ,AaB (by omega),oB,Ed]
   rfl
theorem It {l:List UInt8} (hl:l.length≤1048576):∃ n:Int,LW KK (mk l)=some (n,(HJ l).isSome)∧∀ v,HJ l=some v→n=(v:Int):=by
 unfold LW Zs;rw[GY];simp only[oT,tO,cT];by_cases h1:l.length<1
 ·rw[dT (show (l.length:Int)<1 by omega)]
  refine⟨0,?_,fun v hv=>?_⟩
  ·unfold HJ;rw[if_neg (by omega)]
   rfl
  ·unfold HJ at hv;rw[if_neg (by omega)] at hv
   cases hv
 ·rw[dF (show ¬ (l.length:Int)<1 by omega),cF]
  by_cases h2:l.length≤10
  ·rw[dF (show ¬ (l.length:Int)>10 by omega),cF]
   have:=Mk h2 KK 0 0 (ABU _) (by decide) (by simp only[KK];omega)
   refine⟨if l.all isD then ((Kt l:Nat):Int) else 0,this.trans ?_,?_⟩
   ·rw[ABb];unfold HJ;cases ha:l.all isD
    ·rw[cF,if_neg (by simp),if_neg (by simp)]
     rfl
    ·rw[cT,if_pos rfl];by_cases hd:Lib.decDigits (Kt l)=l
     ·rw[if_pos ⟨by omega,h2,rfl,hd⟩]
      show some (((Kt l:Nat):Int),decide (Lib.decDigits (Kt l)=l))=_;rw[dT hd];rfl
     ·rw[if_neg (fun h=>hd h.2.2.2)];show some (((Kt l:Nat):Int),decide (Lib.decDigits (Kt l)=l))=_;rw[dF hd];rfl
   ·intro v hv;unfold HJ at hv;split at hv
    ·rename_i hh;cases hv;rw[if_pos hh.2.2.1]
    ·cases hv
  ·rw[dT (show (l.length:Int)>10 by omega),cT]
   refine⟨0,?_,fun v hv=>?_⟩
   ·unfold HJ;rw[if_neg (by omega)]
    rfl
   ·unfold HJ at hv;rw[if_neg (by omega)] at hv
    cases hv
theorem Agz {l:List UInt8} (hl:l.length≤1048576):∃ n:Int,Add KK (mk l)=some (n,(rd l).isSome)∧∀ v,rd l=some v→n=v:=by
 unfold Add;rw[GY];cases l with
 | nil =>
  obtain⟨n,h1,h2⟩:=It (l:=[]) (by simp)
  have e:decide ((([]:List UInt8).length:Int)>0)=false:=rfl;rw[e];simp only[nF,tO,oT,cT,cF,h1,oB];exact⟨n,by rfl,fun v hv=>by cases hv⟩
 | cons b r =>
  have e:decide (((b :: r).length:Int)>0)=true:=by simp
  have e0:decide (0≤(0:Int))=true:=rfl;have hg:(mk (b :: r)).data.getD 0 0=b:=by rw[UK];rfl
  rw[e,hg];simp only[e0,aS,nT,oT,tO,cT];simp only[rd];by_cases hb:b=45
  ·rw[if_pos hb,hb];have e1:(((45:UInt8).toNat:Int)==45)=true:=rfl;have e2:(decide (0≤(1:Int))&&decide ((1:Int)≤(((45:UInt8) :: r).length:Int))&&decide ((((45:UInt8) :: r).length:Int)≤(((45:UInt8) :: r).length:Int)))=true:=by simp;omega
   rw[e1,cT,e2,cT,AlQ];have e3:((((45:UInt8) :: r).take ((((45:UInt8) :: r).length:Int)).toNat).drop 1)=r:=by
    rw[ACj,AB6];rfl
   rw[e3];obtain⟨n,h1,h2⟩:=It (l:=r) (by simp at hl;omega)
   rw[h1,oB];simp only[oT,tO,cT];cases hd:HJ r with
   | none =>
    exact⟨_,rfl,fun v hv=>by cases hv⟩
   | some v =>
    have hn:=h2 v hd;have hs:=(FV hd).2.2;rw[ACv,cT,hn];simp only;by_cases hv:0<v
    ·rw[dT (show ((v:Nat):Int)>0 by omega),if_pos hv]
     refine⟨_,rfl,fun u hu=>?_⟩;cases hu;rw[As (by omega) (by omega)]
     omega
    ·rw[dF (show ¬ ((v:Nat):Int)>0 by omega),if_neg hv]
     exact⟨_,rfl,fun u hu=>by cases hu⟩
  ·rw[if_neg hb];have e1:(((b.toNat:Nat):Int)==45)=false:=by
    rw[bN];intro e;exact hb (UInt8.toNat_inj.1 (by have:(45:UInt8).toNat=45:=rfl;omega))
   rw[e1,cF];obtain⟨n,h1,h2⟩:=It (l:=b :: r) hl;rw[h1,oB];refine⟨n,by rw[Option.isSome_map],fun v hv=>?_⟩
   obtain⟨u,hu,rfl⟩:=ABl.1 hv;exact h2 u hu
def rds:List (List UInt8)→Option (List Int)
 | []=>some []
 | x :: r=>match rd x,rds r with
  | some v,some vs=>some (v :: vs)
  | _,_=>none
def rdR (ws:List (List UInt8)) (out:List Int):List Int×Bool:=match rds ws with
 | some vs=>(out++vs,true)
 | none=>([],false)
theorem Amp {x:List UInt8} {r:List (List UInt8)} {out:List Int}:rdR (x :: r) out=match rd x with
  | some v=>rdR r (out++[v])
  | none=>([],false):=by
 unfold rdR;rw[rds];cases rd x with
 | none=>rfl
 | some v =>
  cases rds r with
  | none=>rfl
  | some vs=>simp
theorem Nv:∀ {ws:List (List UInt8)} {vs:List Int},rds ws=some vs→vs.length=ws.length
 | [],vs,h=>by cases h;rfl
 | x :: r,vs,h=>by
  rw[rds] at h;split at h
  ·rename_i v us h1 h2;cases h;simp[Nv h2]
  ·cases h
theorem Pv {ws:List (List UInt8)} {q:Nat} (h:q<ws.length):(ws.map mk).getD ((0:Int)+(q:Int)).toNat ByteArray.empty=mk ws[q]:=by
 rw[gd (by rw[ABf];exact h),AEd]
theorem Er (ws:List (List UInt8)):((ws.map mk).length:Int)=(ws.length:Int):=by rw[ABf]
theorem KE {ws:List (List UInt8)} (hw:∀ x∈ws,x.length≤1048576) (hn:ws.length≤1048577):∀ (n i:Nat) (out:List Int),i≤ws.length→out.length=i→ws.length-i<n →
  M3 KK (ws.map mk) n (i:Int) out=some (rdR (ws.drop i) out)
 | 0,i,out,_,_,h=>by omega
 | n+1,i,out,hi,ho,h=>by
  show TM KK (ws.map mk) (fun v0 v1=>M3 KK (ws.map mk) n v0 v1) (i:Int) out=_;unfold TM;rw[Er];by_cases hlt:i<ws.length
  ·obtain⟨v,h1,h2⟩:=Agz (hw _ (gM hlt));rw[in1 hlt,in0,Pv hlt,h1];simp only[aS,cT,oB];rw[dC hlt,Amp];cases hr:rd ws[i] with
   | none=>rfl
   | some u =>
    rw[h2 u hr,ACv];simp only[nT,cF];rw[GR (by simp;omega),cT,Af (by omega),KE hw hn n (i+1) (out++[u]) (by omega) (by simp;omega) (by omega)]
  ·have:i=ws.length:=by omega
   subst this;rw[AO,cF,ABZ];simp[rdR,rds]
theorem Jp {ws:List (List UInt8)} (hw:∀ x∈ws,x.length≤1048576) (hn:ws.length≤1048577):Oh KK (ws.map mk)=some (rdR ws []):=by
 have:=KE hw hn KK 0 [] (ABU _) rfl (by simp only[KK];omega)
 unfold Oh Zt;exact this
end Go.Proofs.YtkemdhpdfaejgaaGreatDoor.X
