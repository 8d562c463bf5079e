/- Reading numbers between commas: both sides read the same vectors, lattices, matrices and motions. -/
import Derived.Test.YtkemdhpdfaejgaaGreatDoorQtSR
import Derived.Test.YtkemdhpdfaejgaaGreatDoorQtSE
namespace Go.Proofs.YtkemdhpdfaejgaaGreatDoor.X
open Go
set_option linter.unusedSimpArgs false
set_option linter.unusedVariables false
theorem Al3 {n:Int} (h:10<(unm (Lib.itoa n)).length):10000000000≤n.natAbs:=by
 rcases ABK n.natAbs 10000000000 with hc | hc
 ·exfalso;have e10:(10:Nat) ^ (9+1)=10000000000:=by decide
  by_cases hn:n<0
  ·obtain⟨k,rfl⟩:∃ k:Nat,n = -(k:Int):=⟨n.natAbs,by omega⟩
   rw[Lib.itoa_neg k (by omega)] at h
   simp only[unm,if_true] at h;have:=Jl 9 k (by omega)
   omega
  ·obtain⟨k,rfl⟩:∃ k:Nat,n=(k:Int):=⟨n.toNat,by omega⟩
   rw[Lib.itoa_nonneg] at h;have hl:∀ l:List UInt8,(unm l).length≤l.length:=fun l=>by
    cases l with
    | nil=>simp[unm]
    | cons b r =>
     simp only[unm];split<;>simp
   have h1:=hl (Lib.decDigits k);have:=Jl 9 k (by omega)
   omega
 ·exact hc
theorem ArV {l:List UInt8} (h:l.length≤1048576):∃ n b,Acm KK (mk l)=some (n,b)∧(b=true→rd l=some n∨(rd l=none∧10000000000≤n.natAbs))∧(b=false→rd l=none):=by
 unfold Acm;have h0:l.length≤140737488355328:=by omega
 obtain⟨n,b,e,h1,h2⟩:=Awm h0;refine⟨n,b,e,fun hb=>?_,fun hb=>?_⟩
 ·cases hr:rd l with
  | some v =>
   left;rw[(h2 v hr).1]
  | none =>
   right;refine⟨rfl,?_⟩;have hlen:¬ (unm l).length≤10:=fun hle=>by
    have:=h1.1 (by rw[hb,dT hle];rfl)
    rw[hr] at this;cases this
   have hl:Lib.itoa n=l:=by
    unfold Aha at e;rw[Aq,show Nat.ble l.length 140737488355328=true by rw[AB4];exact h0,cT,B4] at e
    split at e
    ·simp only[ABr,ACE] at e;obtain⟨rfl,e⟩:=e;rw[hb] at e;have e:(mk (Lib.itoa _)==mk l)=true:=e;rw[Ed,dE] at e;exact e
    ·simp only[ABr,ACE] at e;rw[hb] at e;exact absurd e.2 (by simp)
    ·simp only[ABr,ACE] at e;rw[hb] at e;exact absurd e.2 (by simp)
   exact Al3 (by rw[hl];omega)
 ·cases hr:rd l with
  | none=>rfl
  | some v =>
   have:=(h2 v hr).2;rw[hb] at this;cases this
theorem Pi (x:List UInt8) (r:List (List UInt8)):rds (x :: r)=match rd x,rds r with | some v,some vs=>some (v :: vs) | _,_=>none:=rfl
theorem Mj {ws:List (List UInt8)} (hw:∀ x∈ws,x.length≤1048576) (hn:ws.length≤1048577) {a0 a1:ByteArray} {a2:Int}:∀ (n i:Nat) (out:List Int),i≤ws.length→out.length=i→ws.length-i<n →
  ∃ r b,MN KK a0 a1 a2 (ws.map mk) n (i:Int) out=some (r,b)∧(b=true→∃ vs,r=out++vs∧vs.length=ws.length-i∧(rds (ws.drop i)=some vs∨(rds (ws.drop i)=none∧∃ v∈vs,10000000000≤v.natAbs)))∧(b=false→rds (ws.drop i)=none)
 | 0,i,_,_,_,h=>by omega
 | n+1,i,out,hi,ho,h=>by
  show ∃ r b,Tq KK a0 a1 a2 (ws.map mk) (fun v0 v1=>MN KK a0 a1 a2 (ws.map mk) n v0 v1) (i:Int) out=some (r,b)∧_;unfold Tq;rw[Er];by_cases hlt:i<ws.length
  ·obtain⟨v,b0,e,h1,h2⟩:=ArV (hw _ (gM hlt));rw[in1 hlt,in0,Pv hlt,e];simp only[aS,cT,oB];rw[dC hlt,Pi];cases hb0:b0
   ·rw[h2 hb0];exact⟨[],false,rfl,(fun h=>by cases h),fun _=>rfl⟩
   ·simp only[nT,cF];rw[GR (by simp;omega),cT,Af (by omega)]
    obtain⟨r,b,e3,h3,h4⟩:=Mj hw hn (a0:=a0) (a1:=a1) (a2:=a2) n (i+1) (out++[v]) (by omega) (by simp;omega) (by omega)
    refine⟨r,b,e3,fun hb=>?_,fun hb=>?_⟩
    ·obtain⟨vs,k1,k2,k3⟩:=h3 hb;refine⟨v :: vs,by rw[k1,AA5];rfl,by rw[ABc];omega,?_⟩
     rcases h1 hb0 with hr | ⟨hr,hbig⟩
     ·rw[hr];rcases k3 with k3 | ⟨k3,x,hx,hxb⟩
      ·rw[k3];exact .inl rfl
      ·rw[k3];exact .inr ⟨rfl,x,ABj _ hx,hxb⟩
     ·rw[hr];exact .inr ⟨rfl,v,List.mem_cons_self ..,hbig⟩
    ·rw[h4 hb];cases rd ws[i]<;>rfl
  ·have:i=ws.length:=by omega
   subst this;rw[AO,cF,ABZ];exact⟨out,true,rfl,fun _=>⟨[],by simp,by simp,.inl rfl⟩,fun h=>by cases h⟩
theorem Aeu {l:List UInt8} (h:l.length≤1048576):(∀ x∈spa 44 [] l,x.length≤1048576)∧(spa 44 [] l).length≤1048577:=by
 refine⟨fun x hx=>?_,?_⟩
 ·have:=EK 44 l [] x hx;simp only[ABm] at this;omega
 ·have:=Eo 44 l [];omega
theorem Lv {l:List UInt8} (h:l.length≤1048576) (k:Nat):∃ r b,IR KK (mk l) (bs [44]) (k:Int)=some (r,b)∧(b=true→r.length=k∧(rds (spa 44 [] l)=some r∨(rds (spa 44 [] l)=none∧∃ v∈r,10000000000≤v.natAbs)))∧(b=false→(spa 44 [] l).length≠k∨rds (spa 44 [] l)=none):=by
 obtain⟨h1,h2⟩:=Aeu h;unfold IR Y6 Y5;have e44:bs [44]=mk [44]:=rfl;rw[e44,Lq (by omega),oB,Er]
 by_cases hk:(spa 44 [] l).length=k
 ·have:(((spa 44 [] l).length:Int) != (k:Int))=false:=by rw[hk];simp
  rw[this,cF];obtain⟨r,b,e,k1,k2⟩:=Mj h1 h2 (a0:=mk l) (a1:=mk [44]) (a2:=(k:Int)) KK 0 [] (ABU _) rfl (by simp only[KK];omega)
  refine⟨r,b,e,fun hb=>?_,fun hb=>.inr (k2 hb)⟩;obtain⟨vs,e1,e2,e3⟩:=k1 hb;rw[ABi] at e1;subst e1;exact⟨by omega,e3⟩
 ·have:(((spa 44 [] l).length:Int) != (k:Int))=true:=by
   rw[bne_iff_ne];omega
  rw[this,cT];exact⟨[],false,rfl,(fun h=>by cases h),fun _=>.inl hk⟩
def rdV (l:List UInt8):Option Vc:=match rds (spa 44 [] l) with
 | some [x,y]=>if Ba (x,y) then some (x,y) else none
 | _=>none
def orV (o:Option Vc):Vc×Bool:=match o with | some v=>(v,true) | none=>((0,0),false)
theorem Agq {x y:Int} (h:Ba (x,y)=true):x.natAbs≤1000∧y.natAbs≤1000:=by
 obtain⟨a,b⟩:=BS.1 h;simp only at a b;omega
theorem Al4 {l:List UInt8} (h:l.length≤1048576):J4 KK (mk l) (44:Int)=some ((spa 44 [] l).map mk):=KD (c:=44) h
theorem Pj {ws:List (List UInt8)} {vs:List Int} (h:rds ws=some vs):rdR ws []=(vs,true):=by
 unfold rdR;rw[h];rfl
theorem Pk {ws:List (List UInt8)} (h:rds ws=none):rdR ws []=([],false):=by
 unfold rdR;rw[h]
theorem Aap {vs:List Int} {k:Nat} (h:vs.length≠k):((vs.length:Int) != (k:Int))=true:=by
 rw[bne_iff_ne];omega
theorem Al5 {l:List UInt8} (h:l.length≤1048576):WP KK (mk l)=some (orV (rdV l)):=by
 obtain⟨h1,h2⟩:=Aeu h;unfold WP rdV;rw[Al4 h,oB,Jp h1 h2,oB];cases hr:rds (spa 44 [] l) with
 | none =>
  rw[Pk hr];rfl
 | some vs =>
  rw[Pj hr];by_cases hk:vs.length=2
  ·obtain⟨x,y,rfl⟩:∃ x y,vs=[x,y]:=by
    match vs,hk with
    | [x,y],_=>exact⟨x,y,rfl⟩
   simp only;rw[show ((([x,y]:List Int).length:Int) != (2:Int))=false from rfl]
   simp only[nT,nF,cT,cF,oT,tO];rw[show (decide (0≤(0:Int))&&decide ((0:Int)<(([x,y]:List Int).length:Int)))=true from rfl,show (decide (0≤(1:Int))&&decide ((1:Int)<(([x,y]:List Int).length:Int)))=true from rfl]
   simp only[oT,tO,cT];rw[show (([x,y]:List Int).getD ((0:Int)+(0:Int)).toNat (0:Int))=x from rfl,show (([x,y]:List Int).getD ((0:Int)+(1:Int)).toNat (0:Int))=y from rfl,Cj,oB]
   cases Ba (x,y)<;>rfl
  ·have e:=Aap hk;simp only;have e:((vs.length:Int) != (2:Int))=true:=e;rw[e];simp only[nT,nF,cT,cF,oT,tO,oB]
   match vs,hk with
   | [],_=>rfl
   | [_],_=>rfl
   | _ :: _ :: _ :: _,_=>rfl
theorem Al6 {l:List UInt8} (h:l.length≤1048576):Wg KK (mk l)=some (orV (rdV l)):=by
 obtain⟨r,b,e,h1,h2⟩:=Lv h 2;unfold Wg rdV;have e:IR KK (mk l) (bs [44]) (2:Int)=some (r,b):=e;rw[e,oB];cases hb:b
 ·simp only[nF,nT,cT,cF,oT,tO,oB];rcases h2 hb with h3 | h3
  ·cases hr:rds (spa 44 [] l) with
   | none=>rfl
   | some vs =>
    have hl:=Nv hr
    match vs,hl with
    | [],_=>rfl
    | [_],_=>rfl
    | [_,_],hl=>exact absurd hl.symm h3
    | _ :: _ :: _ :: _,_=>rfl
  ·rw[h3];rfl
 ·obtain⟨h3,h4⟩:=h1 hb;obtain⟨x,y,rfl⟩:∃ x y,r=[x,y]:=by
   match r,h3 with
   | [x,y],_=>exact⟨x,y,rfl⟩
  simp only[nT,nF,cT,cF,oT,tO];rw[show (decide (0≤(0:Int))&&decide ((0:Int)<(([x,y]:List Int).length:Int)))=true from rfl,show (decide (0≤(1:Int))&&decide ((1:Int)<(([x,y]:List Int).length:Int)))=true from rfl]
  simp only[oT,tO,cT];rw[show (([x,y]:List Int).getD ((0:Int)+(0:Int)).toNat (0:Int))=x from rfl,show (([x,y]:List Int).getD ((0:Int)+(1:Int)).toNat (0:Int))=y from rfl,HA,oB]
  rcases h4 with h4 | ⟨h4,v,hv,hbig⟩
  ·rw[h4];cases hx:Ba (x,y)<;>simp[hx,orV]
  ·rw[h4];cases hx:Ba (x,y)
   ·rfl
   ·have:=Agq hx;simp only[AA4,ABV,or_false] at hv;omega
def Qn (l:List UInt8):Option Lt:=match rds (spa 44 [] l) with
 | some [x,y,z]=>if okL (x,y,z) then some (x,y,z) else none
 | _=>none
def orL (o:Option Lt):Lt×Bool:=match o with | some v=>(v,true) | none=>((0,0,0),false)
theorem Aaq {x y z:Int} (h:okL (x,y,z)=true):x.natAbs≤1000∧y.natAbs≤1000∧z.natAbs≤1000:=by
 have hl:=Bt.1 h;obtain⟨a1,a2,c1,c2,b1,b2,ix⟩:=hl;simp only at a1 a2 c1 c2 b1 b2;omega
theorem Awx {l:List UInt8} (h:l.length≤1048576):AoH KK (mk l)=some (orL (Qn l)):=by
 obtain⟨h1,h2⟩:=Aeu h;unfold AoH Qn;rw[Al4 h,oB,Jp h1 h2,oB];cases hr:rds (spa 44 [] l) with
 | none =>
  rw[Pk hr];rfl
 | some vs =>
  rw[Pj hr];by_cases hk:vs.length=3
  ·obtain⟨x,y,z,rfl⟩:∃ x y z,vs=[x,y,z]:=by
    match vs,hk with
    | [x,y,z],_=>exact⟨x,y,z,rfl⟩
   simp only;rw[show ((([x,y,z]:List Int).length:Int) != (3:Int))=false from rfl]
   simp only[nT,nF,cT,cF,oT,tO];rw[show (decide (0≤(0:Int))&&decide ((0:Int)<(([x,y,z]:List Int).length:Int)))=true from rfl,show (decide (0≤(1:Int))&&decide ((1:Int)<(([x,y,z]:List Int).length:Int)))=true from rfl,show (decide (0≤(2:Int))&&decide ((2:Int)<(([x,y,z]:List Int).length:Int)))=true from rfl]
   simp only[oT,tO,cT];rw[show (([x,y,z]:List Int).getD ((0:Int)+(0:Int)).toNat (0:Int))=x from rfl,show (([x,y,z]:List Int).getD ((0:Int)+(1:Int)).toNat (0:Int))=y from rfl,show (([x,y,z]:List Int).getD ((0:Int)+(2:Int)).toNat (0:Int))=z from rfl,DF,oB]
   cases okL (x,y,z)<;>rfl
  ·have e:=Aap hk;simp only;have e:((vs.length:Int) != (3:Int))=true:=e;rw[e];simp only[nT,nF,cT,cF,oT,tO,oB]
   match vs,hk with
   | [],_=>rfl
   | [_],_=>rfl
   | [_,_],_=>rfl
   | _ :: _ :: _ :: _ :: _,_=>rfl
theorem Awy {l:List UInt8} (h:l.length≤1048576):Aol KK (mk l)=some (orL (Qn l)):=by
 obtain⟨r,b,e,h1,h2⟩:=Lv h 3;unfold Aol Qn;have e:IR KK (mk l) (bs [44]) (3:Int)=some (r,b):=e;rw[e,oB];cases hb:b
 ·simp only[nF,nT,cT,cF,oT,tO,oB];rcases h2 hb with h3 | h3
  ·cases hr:rds (spa 44 [] l) with
   | none=>rfl
   | some vs =>
    have hl:=Nv hr
    match vs,hl with
    | [],_=>rfl
    | [_],_=>rfl
    | [_,_],_=>rfl
    | [_,_,_],hl=>exact absurd hl.symm h3
    | _ :: _ :: _ :: _ :: _,_=>rfl
  ·rw[h3];rfl
 ·obtain⟨h3,h4⟩:=h1 hb;obtain⟨x,y,z,rfl⟩:∃ x y z,r=[x,y,z]:=by
   match r,h3 with
   | [x,y,z],_=>exact⟨x,y,z,rfl⟩
  simp only[nT,nF,cT,cF,oT,tO];rw[show (decide (0≤(0:Int))&&decide ((0:Int)<(([x,y,z]:List Int).length:Int)))=true from rfl,show (decide (0≤(1:Int))&&decide ((1:Int)<(([x,y,z]:List Int).length:Int)))=true from rfl,show (decide (0≤(2:Int))&&decide ((2:Int)<(([x,y,z]:List Int).length:Int)))=true from rfl]
  simp only[oT,tO,cT];rw[show (([x,y,z]:List Int).getD ((0:Int)+(0:Int)).toNat (0:Int))=x from rfl,show (([x,y,z]:List Int).getD ((0:Int)+(1:Int)).toNat (0:Int))=y from rfl,show (([x,y,z]:List Int).getD ((0:Int)+(2:Int)).toNat (0:Int))=z from rfl,Em,oB]
  rcases h4 with h4 | ⟨h4,v,hv,hbig⟩
  ·rw[h4];cases hx:okL (x,y,z)<;>simp[hx,orL]
  ·rw[h4];cases hx:okL (x,y,z)
   ·rfl
   ·have:=Aaq hx;simp only[AA4,ABV,or_false] at hv;omega
def IK (m:Mt):Bool:=CE m&&((A9 m==1)||(A9 m == -1))
theorem Ky (m:Mt):Q4 KK m=some (IK m):=by
 unfold Q4 Aiw E2 JX IK;have hs:CE m=(decide (-1000≤m.1∧m.1≤1000)&&(decide (-1000≤m.2.1∧m.2.1≤1000)&&(decide (-1000≤m.2.2.1∧m.2.2.1≤1000)&&decide (-1000≤m.2.2.2∧m.2.2.2≤1000)))):=by
  unfold CE Ba;rw[Bool.and_assoc]
 simp only[DE,oB,oT,tO,cT];cases h:CE m
 ·rw[hs] at h;cases h1:decide (-1000≤m.1∧m.1≤1000)
  ·simp
  ·rw[h1,ABJ] at h;cases h2:decide (-1000≤m.2.1∧m.2.1≤1000)
   ·simp
   ·rw[h2,ABJ] at h;cases h3:decide (-1000≤m.2.2.1∧m.2.2.1≤1000)
    ·simp
    ·rw[h3,ABJ] at h;rw[h];simp
 ·have hk:=DO.1 h;rw[dT hk.a,dT hk.b,dT hk.c,dT hk.d];simp only[cT,oB];rw[Pg hk];cases h3:A9 m==1<;>cases h4:A9 m == -1<;>simp[h4]
def rdM (l:List UInt8):Option Mt:=match rds (spa 44 [] l) with
 | some [x,y,z,u]=>if IK (x,y,z,u) then some (x,y,z,u) else none
 | _=>none
def orM (o:Option Mt):Mt×Bool:=match o with | some v=>(v,true) | none=>((0,0,0,0),false)
theorem Aar {x y z u:Int} (h:IK (x,y,z,u)=true):x.natAbs≤1000∧y.natAbs≤1000∧z.natAbs≤1000∧u.natAbs≤1000:=by
 unfold IK at h;rw[aT] at h;obtain⟨a,b,c,d⟩:=DO.1 h.1;simp only at a b c d;omega
theorem Awz {l:List UInt8} (h:l.length≤1048576):Adf KK (mk l)=some (orM (rdM l)):=by
 obtain⟨h1,h2⟩:=Aeu h;unfold Adf rdM;rw[Al4 h,oB,Jp h1 h2,oB];cases hr:rds (spa 44 [] l) with
 | none =>
  rw[Pk hr];rfl
 | some vs =>
  rw[Pj hr];by_cases hk:vs.length=4
  ·obtain⟨x,y,z,u,rfl⟩:∃ x y z u,vs=[x,y,z,u]:=by
    match vs,hk with
    | [x,y,z,u],_=>exact⟨x,y,z,u,rfl⟩
   simp only;rw[show ((([x,y,z,u]:List Int).length:Int) != (4:Int))=false from rfl]
   simp only[nT,nF,cT,cF,oT,tO];rw[show (decide (0≤(0:Int))&&decide ((0:Int)<(([x,y,z,u]:List Int).length:Int)))=true from rfl,show (decide (0≤(1:Int))&&decide ((1:Int)<(([x,y,z,u]:List Int).length:Int)))=true from rfl,show (decide (0≤(2:Int))&&decide ((2:Int)<(([x,y,z,u]:List Int).length:Int)))=true from rfl,show (decide (0≤(3:Int))&&decide ((3:Int)<(([x,y,z,u]:List Int).length:Int)))=true from rfl]
   simp only[oT,tO,cT];rw[show (([x,y,z,u]:List Int).getD ((0:Int)+(0:Int)).toNat (0:Int))=x from rfl,show (([x,y,z,u]:List Int).getD ((0:Int)+(1:Int)).toNat (0:Int))=y from rfl,show (([x,y,z,u]:List Int).getD ((0:Int)+(2:Int)).toNat (0:Int))=z from rfl,show (([x,y,z,u]:List Int).getD ((0:Int)+(3:Int)).toNat (0:Int))=u from rfl,Gv,oB]
   show (bif !(IK (x,y,z,u)) then _ else _)=_;cases IK (x,y,z,u)<;>rfl
  ·have e:=Aap hk;simp only;have e:((vs.length:Int) != (4:Int))=true:=e;rw[e];simp only[nT,nF,cT,cF,oT,tO,oB]
   match vs,hk with
   | [],_=>rfl
   | [_],_=>rfl
   | [_,_],_=>rfl
   | [_,_,_],_=>rfl
   | _ :: _ :: _ :: _ :: _ :: _,_=>rfl
theorem AwA {l:List UInt8} (h:l.length≤1048576):Acr KK (mk l)=some (orM (rdM l)):=by
 obtain⟨r,b,e,h1,h2⟩:=Lv h 4;unfold Acr rdM;have e:IR KK (mk l) (bs [44]) (4:Int)=some (r,b):=e;rw[e,oB];cases hb:b
 ·simp only[nF,nT,cT,cF,oT,tO,oB];rcases h2 hb with h3 | h3
  ·cases hr:rds (spa 44 [] l) with
   | none=>rfl
   | some vs =>
    have hl:=Nv hr
    match vs,hl with
    | [],_=>rfl
    | [_],_=>rfl
    | [_,_],_=>rfl
    | [_,_,_],_=>rfl
    | [_,_,_,_],hl=>exact absurd hl.symm h3
    | _ :: _ :: _ :: _ :: _ :: _,_=>rfl
  ·rw[h3];rfl
 ·obtain⟨h3,h4⟩:=h1 hb;obtain⟨x,y,z,u,rfl⟩:∃ x y z u,r=[x,y,z,u]:=by
   match r,h3 with
   | [x,y,z,u],_=>exact⟨x,y,z,u,rfl⟩
  simp only[nT,nF,cT,cF,oT,tO];rw[show (decide (0≤(0:Int))&&decide ((0:Int)<(([x,y,z,u]:List Int).length:Int)))=true from rfl,show (decide (0≤(1:Int))&&decide ((1:Int)<(([x,y,z,u]:List Int).length:Int)))=true from rfl,show (decide (0≤(2:Int))&&decide ((2:Int)<(([x,y,z,u]:List Int).length:Int)))=true from rfl,show (decide (0≤(3:Int))&&decide ((3:Int)<(([x,y,z,u]:List Int).length:Int)))=true from rfl]
  simp only[oT,tO,cT];rw[show (([x,y,z,u]:List Int).getD ((0:Int)+(0:Int)).toNat (0:Int))=x from rfl,show (([x,y,z,u]:List Int).getD ((0:Int)+(1:Int)).toNat (0:Int))=y from rfl,show (([x,y,z,u]:List Int).getD ((0:Int)+(2:Int)).toNat (0:Int))=z from rfl,show (([x,y,z,u]:List Int).getD ((0:Int)+(3:Int)).toNat (0:Int))=u from rfl,Ky,oB]
  rcases h4 with h4 | ⟨h4,v,hv,hbig⟩
  ·rw[h4];cases hx:IK (x,y,z,u)<;>simp[hx,orM]
  ·rw[h4];cases hx:IK (x,y,z,u)
   ·rfl
   ·have:=Aar hx;simp only[AA4,ABV,or_false] at hv;omega
theorem Aev {m:Mt} (h:IK m=true):Sk m∧(A9 m=1∨A9 m = -1):=by
 unfold IK at h;rw[aT,ACB,beq_iff_eq,beq_iff_eq] at h;exact⟨DO.1 h.1,h.2⟩
theorem Agr {m:Mt} (hm:IK m=true) {t:Vc} (ht:Ba t=true):Y2 KK (m,t)=some (Ei m):=by
 obtain⟨hk,hd⟩:=Aev hm;obtain⟨k,e,e2⟩:=Agp hk hd;unfold Y2;rw[Gv];have hm':(CE m&&((A9 m==1)||(A9 m == -1)))=true:=hm;simp only;rw[hm',oB];simp only[nT,oT,tO,cT];rw[e,oB,e2];cases Ei m
 ·rfl
 ·simp only[cT];rw[Cj,ht];rfl
theorem ArW {m:Mt} (h:Sk m):w (m.1+m.2.2.2)=trS m:=by
 have:=h.a;have:=h.d;unfold trS;exact As (by omega) (by omega)
theorem Al7 {m:Mt} (hk:Sk m) (hd:A9 m=1∨A9 m = -1):Wk KK m=some (Ei m):=by
 have hdet:=Pg hk;have htr:=ArW hk;have hu:N9 KK=some (1,0,0,1):=rfl;unfold Wk Aiz AiA Acu E2 Ei;simp only[oB,hdet,htr,hu,oT,tO,cT];rw[Aao m (1,0,0,1),Aao m (-1,0,0,-1)];rcases hd with hd | hd
 ·rw[hd];cases h1:m==(1,0,0,1)
  ·cases h2:m==(-1,0,0,-1)
   ·cases h3:trS m == -1<;>cases h4:trS m==0<;>cases h5:trS m==1<;>rfl
   ·rfl
  ·rfl
 ·rw[hd];have h1:(m==(1,0,0,1))=false:=by
   rw[bN]
   rintro rfl
   simp[A9] at hd
  have h2:(m==(-1,0,0,-1))=false:=by
   rw[bN]
   rintro rfl
   simp[A9] at hd
  rw[h1,h2];cases h4:trS m==0<;>rfl
theorem Ags {m:Mt} (hm:IK m=true) {t:Vc} (ht:Ba t=true):Acv KK (m,t)=some (Ei m):=by
 obtain⟨hk,hd⟩:=Aev hm;unfold Acv;simp only;rw[Ky,hm,oB];simp only[nT,oT,tO,cT];rw[Al7 hk hd,oB];cases Ei m
 ·rfl
 ·simp only[cT];rw[HA,ht];rfl
def Mx (l:List UInt8):Option Mo:=match spa 59 [] l with
 | [a,b]=>match rdM a,rdV b with
  | some m,some t=>if Ei m then some (m,t) else none
  | _,_=>none
 | _=>none
def Al8 (o:Option Mo):Mo×Bool:=match o with | some v=>(v,true) | none=>(((0,0,0,0),0,0),false)
theorem Nq {l:List UInt8} {v:Vc} (h:rdV l=some v):Ba v=true:=by
 unfold rdV at h;split at h
 ·split at h
  ·rename_i hv;cases h;exact hv
  ·cases h
 ·cases h
theorem Aew {l:List UInt8} {m:Mt} (h:rdM l=some m):IK m=true:=by
 unfold rdM at h;split at h
 ·split at h
  ·rename_i hv;cases h;exact hv
  ·cases h
 ·cases h
def Aex (a b:List UInt8):Option Mo:=match rdM a,rdV b with
 | some m,some t=>if Ei m then some (m,t) else none
 | _,_=>none
theorem Azo {l:List UInt8} (h:l.length≤1048576):J4 KK (mk l) (59:Int)=some ((spa 59 [] l).map mk):=KD (c:=59) h
theorem ArX {l:List UInt8} (h:l.length≤1048576):Adg KK (mk l)=some (Al8 (Mx l)):=by
 have hsz:∀ x∈spa 59 [] l,x.length≤1048576:=fun x hx=>by
  have:=EK 59 l [] x hx;simp only[ABm] at this;omega
 unfold Adg Mx;rw[Azo h,oB,Er]
 match hw:spa 59 [] l with
 | []=>rfl
 | [_]=>rfl
 | a :: b :: c :: r =>
  rw[show (((a :: b :: c :: r).length:Int) != (2:Int))=true by rw[bne_iff_ne];simp;omega]
  rfl
 | [a,b] =>
  rw[hw] at hsz;have ha:=hsz a (by simp)
  have hb:=hsz b (by simp)
  rw[show ((([a,b]:List (List UInt8)).length:Int) != (2:Int))=false from rfl,cF]
  rw[show (decide (0≤(0:Int))&&decide ((0:Int)<(([a,b]:List (List UInt8)).length:Int)))=true from rfl,show (decide (0≤(1:Int))&&decide ((1:Int)<(([a,b]:List (List UInt8)).length:Int)))=true from rfl,cT]
  rw[show (([a,b].map mk).getD ((0:Int)+(0:Int)).toNat ByteArray.empty)=mk a from rfl,show (([a,b].map mk).getD ((0:Int)+(1:Int)).toNat ByteArray.empty)=mk b from rfl,Awz ha,oB,cT,Al5 hb,oB]
  simp only[oT,tO,cT];cases hm:rdM a with
  | none=>cases rdV b<;>rfl
  | some m =>
   cases ht:rdV b with
   | none=>rfl
   | some t =>
    simp only[orM,orV,nT,cF,nF,cT];rw[Agr (Aew hm) (Nq ht),oB];cases Ei m<;>rfl
def okD (b:UInt8):Prop:=isD b=true∨b=45
theorem AtL {x:List UInt8} {v:Int} (h:rd x=some v):∀ b∈x,okD b:=by
 obtain⟨h1,_⟩:=Iq.1 h;subst h1;intro b hb;by_cases hn:v<0
 ·obtain⟨k,rfl⟩:∃ k:Nat,v = -(k:Int):=⟨v.natAbs,by omega⟩
  rw[Lib.itoa_neg k (by omega)] at hb
  rcases AA4.1 hb with rfl | hb
  ·exact .inr rfl
  ·exact .inl (AA3.1 (HI k).1 b hb)
 ·obtain⟨k,rfl⟩:∃ k:Nat,v=(k:Int):=⟨v.toNat,by omega⟩
  rw[Lib.itoa_nonneg] at hb;exact .inl (AA3.1 (HI k).1 b hb)
theorem Al9:∀ {ws:List (List UInt8)} {vs:List Int},rds ws=some vs→∀ x∈ws,∀ b∈x,okD b
 | [],_,_,x,hx=>by cases hx
 | y :: r,vs,h,x,hx=>by
  rw[Pi] at h;split at h
  ·rename_i v us h1 h2;rcases AA4.1 hx with rfl | hx
   ·exact AtL h1
   ·exact Al9 h2 x hx
  ·cases h
theorem UR {c b:UInt8} (hb:b≠c):∀ (l acc:List UInt8),b∈acc∨b∈l→∃ x∈spa c acc l,b∈x
 | [],acc,h=>by
  refine⟨acc,by simp[spa],?_⟩
  rcases h with h | h
  ·exact h
  ·cases h
 | a :: l,acc,h=>by
  rw[spa];split
  ·rename_i hac;rcases h with h | h
   ·exact⟨acc,by simp,h⟩
   ·rcases AA4.1 h with h | h
    ·exact absurd (h.trans hac) hb
    ·obtain⟨x,hx,hbx⟩:=UR hb l [] (.inr h);exact⟨x,ABj _ hx,hbx⟩
  ·refine UR hb l (acc++[a]) ?_;rcases h with h | h
   ·exact .inl (AA8.2 (.inl h))
   ·rcases AA4.1 h with rfl | h
    ·exact .inl (by simp)
    ·exact .inr h
theorem Ama {l:List UInt8} (h:(59:UInt8)∈l):rdV l=none:=by
 unfold rdV;cases hr:rds (spa 44 [] l) with
 | none=>rfl
 | some vs =>
  exfalso;obtain⟨x,hx,hb⟩:=UR (c:=44) (b:=59) (by decide) l [] (.inr h)
  rcases Al9 hr x hx 59 hb with h1 | h1
  ·exact absurd h1 (by decide)
  ·exact absurd h1 (by decide)
theorem XO {c:UInt8}:∀ {a:List UInt8},c ∉ a→Lib.index a [c] = -1
 | [],_=>by
  unfold Lib.index;simp
 | b :: a,h=>by
  have h1:c≠b:=fun e=>h (by simp[e])
  have ha:c ∉ a:=fun e=>h (ABj _ e);have e:=XO (a:=a) ha;unfold Lib.index;rw[e];simp[h1]
theorem ArY {c:UInt8} {a r:List UInt8} (hl:(a++c :: r).length≤1048576) (h:c ∉ a):Ys (mk (a++c :: r)) (mk [c])=some (mk a,mk r,true):=by
 unfold Ys;rw[Aq,show Nat.blt (a++c :: r).length 4294967281=true by rw[ADs];omega,cT,B4,B4]
 unfold Lib.cut;rw[Jk h];have h2:((a.length:Int) == -1)=false:=by rw[bN];omega
 have e1:(a++c :: r).take a.length=a:=ACV;have e2:(a++c :: r).drop (a.length+1)=r:=by simp
 simp[h2,e1,e2,mk]
theorem AwB {c:UInt8} {a:List UInt8} (hl:a.length≤1048576) (h:c ∉ a):Ys (mk a) (mk [c])=some (mk a,mk [],false):=by
 unfold Ys;rw[Aq,show Nat.blt a.length 4294967281=true by rw[ADs];omega,cT,B4,B4]
 unfold Lib.cut;rw[XO h];rfl
theorem ArZ:rdV []=none:=rfl
theorem Aey {a b:List UInt8} (ha:a.length≤1048576) (hb:b.length≤1048576) {x:Bool} {l:List UInt8} (hc:Wi KK (mk l) (bs [59])=some (mk a,mk b,x)):Wl KK (mk l)=some (Al8 (Aex a b)):=by
 unfold Wl Aex;rw[hc,oB,AwA ha,oB,Al6 hb,oB]
 try simp only[oT,tO,cT]
 cases hm:rdM a with
 | none=>cases rdV b<;>rfl
 | some m =>
  cases ht:rdV b with
  | none=>rfl
  | some t =>
   simp only[orM,orV,nT,cF,nF,cT];rw[Ags (Aew hm) (Nq ht),oB];cases Ei m<;>rfl
theorem Ar0 {l:List UInt8} (h:l.length≤1048576):Wl KK (mk l)=some (Al8 (Mx l)):=by
 have e59:bs [59]=mk [59]:=rfl;by_cases hc:(59:UInt8)∈l
 ·obtain⟨a,r,rfl,ha⟩:=ADd hc;have hl:a.length≤1048576∧r.length≤1048576:=by
   simp only[lA,ABc] at h;omega
  rw[Aey hl.1 hl.2 (x:=true) (by unfold Wi;rw[e59];exact ArY h ha)]
  unfold Mx Aex;rw[En r a [] ha,ABi];by_cases hr:(59:UInt8)∈r
  ·rw[Ama hr];obtain⟨a2,r2,rfl,ha2⟩:=ADd hr;rw[En r2 a2 [] ha2];have h3:=(Eo 59 r2 []).2
   match hx:spa 59 [] r2 with
   | []=>rw[hx] at h3;simp at h3
   | x :: y=>cases rdM a<;>rfl
  ·rw[EJ r [] hr,ABi]
 ·rw[Aey (l:=l) (a:=l) (b:=[]) h (by simp) (x:=false) (by unfold Wi;rw[e59];exact AwB h hc)]
  unfold Mx Aex;rw[ArZ,EJ l [] hc];cases rdM l<;>rfl
end Go.Proofs.YtkemdhpdfaejgaaGreatDoor.X
