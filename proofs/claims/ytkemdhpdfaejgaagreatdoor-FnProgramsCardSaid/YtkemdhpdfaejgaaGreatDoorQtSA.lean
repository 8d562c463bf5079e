/- Bytes, words and numbers: splitting a text, reading a number as it is written. -/
import Derived.Test.YtkemdhpdfaejgaaGreatDoorQtMA
import Derived.Test.YtkemdhpdfaejgaaGreatDoorQzXStr
namespace Go.Proofs.YtkemdhpdfaejgaaGreatDoor.X
open Go
set_option linter.unusedSimpArgs false
set_option linter.unusedVariables false
def mk (l:List UInt8):ByteArray:=⟨l.toArray⟩
theorem B4 (a:List UInt8):(mk a).data.toList=a:=by
 unfold mk;simp
theorem UJ (b:ByteArray):mk b.data.toList=b:=by
 unfold mk
 apply ByteArray.ext
 simp
theorem Aq (a:List UInt8):(mk a).size=a.length:=by
 unfold mk ByteArray.size;simp
theorem Be (a b:List UInt8):mk a++mk b=mk (a++b):=by
 unfold mk
 apply ByteArray.ext
 simp
theorem AlQ (a:List UInt8) (i j:Nat):(mk a).extract i j=mk ((a.take j).drop i):=by
 rw[← UJ ((mk a).extract i j)];congr 1;rw[Lib.extract_data,B4,List.drop_take]
theorem Ed (a b:List UInt8):(mk a==mk b)=decide (a=b):=by
 rw[beq_toListBytes,ByteArray.toList_eq,ByteArray.toList_eq,B4,B4];by_cases h:a=b
 ·simp[h]
 ·simp[h]
theorem Aal (a b:List UInt8):(mk a != mk b)=decide (a≠b):=by
 unfold bne;rw[Ed];by_cases h:a=b<;>simp[h]
theorem UK (a:List UInt8) (i:Nat):(mk a).data.getD i 0=a.getD i 0:=by
 unfold mk;simp
theorem Aam:ByteArray.empty=mk []:=rfl
theorem Azl (b:ByteArray):∃ l,b=mk l:=⟨b.data.toList,(UJ b).symm⟩
def spa (c:UInt8):List UInt8→List UInt8→List (List UInt8)
 | acc,[]=>[acc]
 | acc,b :: l=>if b=c then acc :: spa c [] l else spa c (acc++[b]) l
theorem EJ {c:UInt8}:∀ (l acc:List UInt8),c ∉ l→spa c acc l=[acc++l]
 | [],acc,_=>by simp[spa]
 | b :: l,acc,h=>by
  have h1:b≠c:=fun e=>h (by simp[e])
  have h2:c ∉ l:=fun e=>h (by simp[e])
  rw[spa,if_neg h1,EJ l _ h2,AA5];rfl
theorem En {c:UInt8} (r:List UInt8):∀ (a acc:List UInt8),c ∉ a→spa c acc (a++c :: r)=(acc++a) :: spa c [] r
 | [],acc,_=>by simp[spa]
 | b :: a,acc,h=>by
  have h1:b≠c:=fun e=>h (by simp[e])
  have h2:c ∉ a:=fun e=>h (by simp[e])
  rw[AB0,spa,if_neg h1,En r a _ h2,AA5];rfl
theorem Eo (c:UInt8):∀ (l acc:List UInt8),(spa c acc l).length≤l.length+1∧1≤(spa c acc l).length
 | [],acc=>by simp[spa]
 | b :: l,acc=>by
  rw[spa];split
  ·have:=Eo c l [];simp only[ABc];omega
  ·have:=Eo c l (acc++[b]);simp only[ABc];omega
theorem EK (c:UInt8):∀ (l acc:List UInt8),∀ x∈spa c acc l,x.length≤acc.length+l.length
 | [],acc,x,hx=>by
  rw[spa,mS] at hx;subst hx;simp
 | b :: l,acc,x,hx=>by
  rw[spa] at hx;split at hx
  ·rcases AA4.1 hx with rfl | hx
   ·simp
   ·have:=EK c l [] x hx;simp only[ABm,ABc] at this ⊢;omega
  ·have:=EK c l (acc++[b]) x hx;simp only[lA,ABc,ABm] at this ⊢;omega
theorem Jk {c:UInt8} {r:List UInt8}:∀ {a:List UInt8},c ∉ a→Lib.index (a++c :: r) [c]=(a.length:Int)
 | [],_=>by
  unfold Lib.index;simp
 | b :: a,h=>by
  have h1:c≠b:=fun e=>h (by simp[e])
  have ha:c ∉ a:=fun e=>h (ABj _ e);have e:=Jk (r:=r) (a:=a) ha;rw[AB0];unfold Lib.index;rw[e];have h2:((a.length:Int) == -1)=false:=by rw[bN];omega
  simp[h1,h2]
theorem RD (c:UInt8):∀ (k:Nat) (l:List UInt8),l.count c=k→Lib.splitK [c] 0 k l=spa c [] l
 | 0,l,h=>by
  rw[EJ l [] (List.count_eq_zero.1 h)];rfl
 | k+1,l,h=>by
  have hm:c∈l:=List.count_pos_iff.1 (by omega)
  obtain⟨a,r,rfl,ha⟩:=ADd hm;rw[List.count_append,List.count_eq_zero.2 ha,List.count_cons_self] at h;unfold Lib.splitK;rw[Jk ha,En r a [] ha];have h2:((a.length:Int) == -1)=false:=by rw[bN];omega
  rw[h2];simp only[ADY,if_false,ACj,ACa,ABc,ABm,ABi];have e1:(a++c :: r).take a.length=a:=ACV;have e2:(a++c :: r).drop (a.length+(0+1))=r:=by simp
  rw[e1,e2,RD c k r (by omega)]
theorem Lq {c:UInt8} {l:List UInt8} (h:l.length<4294967281):LO (mk l) (mk [c])=some ((spa c [] l).map mk):=by
 unfold LO;rw[Aq,Aq];have h1:Nat.blt l.length 4294967281=true:=by rw[ADs];exact h
 rw[h1];have h2:Nat.ble 1 [c].length=true:=rfl;rw[h2];simp only[aS,cT];congr 1;have h3:=Lib.splitB_data (mk [c]) 0 (Lib.countB (mk l) (mk [c])) (mk l);rw[B4,B4] at h3;have h4:Lib.countB (mk l) (mk [c])=l.count c:=by
  show Lib.count (mk l).data.toList (mk [c]).data.toList=_;rw[B4,B4,Lib.count_one]
 rw[h4,RD c _ l rfl] at h3;rw[h4,← h3,ADf];have:(mk ∘ fun x:ByteArray=>x.data.toList)=id:=funext fun x=>UJ x;rw[this,List.map_id]
def isD (b:UInt8):Bool:=decide (48≤b.toNat)&&decide (b.toNat≤57)
def Ep (n:Nat) (b:UInt8):Nat:=10*n+(b.toNat-48)
def Kt (l:List UInt8):Nat:=l.foldl Ep 0
theorem AtH {n:Nat} (h:n<256):(UInt8.ofNat n).toNat=n:=by
 rw[UInt8.toNat_ofNat'];exact AD9 h
theorem Aen (n:Nat) (h:n<10):isD (UInt8.ofNat (48+n))=true∧(UInt8.ofNat (48+n)).toNat-48=n:=by
 unfold isD;rw[AtH (by omega)]
 refine⟨?_,by omega⟩
 simp only[aT,dE];omega
theorem O6 {n:Nat} (h:¬ n<10):Lib.decDigits n=Lib.decDigits (n / 10)++[UInt8.ofNat (48+n % 10)]:=by rw[Lib.decDigits,dif_neg h]
theorem Ip {n:Nat} (h:n<10):Lib.decDigits n=[UInt8.ofNat (48+n)]:=by rw[Lib.decDigits,dif_pos h]
theorem HI (n:Nat):(Lib.decDigits n).all isD=true∧Kt (Lib.decDigits n)=n∧1≤(Lib.decDigits n).length:=by
 induction n using Nat.strongRecOn with
 | _ n ih =>
  by_cases h:n<10
  ·rw[Ip h];obtain⟨h1,h2⟩:=Aen n h;refine⟨by rw[ACk,h1];rfl,?_,by simp⟩
   show Ep 0 _=n;unfold Ep;omega
  ·obtain⟨a,b,c⟩:=ih (n / 10) (by omega)
   obtain⟨h1,h2⟩:=Aen (n % 10) (by omega)
   rw[O6 h];refine⟨by rw[List.all_append,a,ACk,h1];rfl,?_,by simp⟩
   unfold Kt at b ⊢;rw[ADC,b];show Ep (n / 10) _=n;unfold Ep;omega
theorem Jl:∀ (k n:Nat),n<10 ^ (k+1)→(Lib.decDigits n).length≤k+1
 | 0,n,h=>by
  rw[Ip (by simpa using h)]
  simp
 | k+1,n,h=>by
  by_cases h1:n<10
  ·rw[Ip h1];simp
  ·rw[O6 h1,lA];have:=Jl k (n / 10) (by
    rw[ADF] at h;omega)
   simp only[ABA];omega
theorem AlR:∀ (l:List UInt8) (n k:Nat),n<10 ^ k→l.foldl Ep n<10 ^ (k+l.length)∨¬ l.all isD=true
 | [],n,k,h=>.inl h
 | b :: l,n,k,h=>by
  cases hb:isD b
  ·right;simp[hb]
  ·rcases AlR l (Ep n b) (k+1) (by
    unfold isD at hb;simp only[aT,dE] at hb;unfold Ep;rw[ADF];omega) with h1 | h1
   ·left;rw[ABy,ABc,show k+(l.length+1)=k+1+l.length by omega]
    exact h1
   ·right;simpa[hb] using h1
theorem Aeo:∀ (l:List UInt8) (n:Nat),n≤l.foldl Ep n
 | [],n=>AA9 _
 | b :: l,n=>by
  rw[ABy];refine ABo ?_ (Aeo l (Ep n b));unfold Ep;omega
theorem RE:∀ (l:List UInt8) (n:Nat),l.all isD=true→l.foldl Ep n≤1000000000000000000→Lib.parseUintM 18446744073709551615 n l=.ok (l.foldl Ep n)
 | [],n,_,_=>rfl
 | b :: l,n,h,hl=>by
  rw[ACk,aT] at h;obtain⟨hb,h⟩:=h;unfold isD at hb;simp only[aT,dE] at hb;rw[ABy] at hl ⊢;have hg:=Aeo l (Ep n b);have hs:Ep n b=n*10+(b.toNat-48):=by unfold Ep;omega
  rw[Lib.parseUintM,if_pos hb,if_neg (by omega),if_neg (by omega),← hs]
  exact RE l _ h hl
theorem RF {n:Nat} (h:n≤1000000000000000000):Lib.parseUintB 64 (Lib.decDigits n)=.ok n:=by
 obtain⟨h1,h2,h3⟩:=HI n;unfold Lib.parseUintB;rw[if_neg (fun e=>by rw[e] at h3;simp at h3)]
 have e:(2:Nat) ^ 64-1=18446744073709551615:=by decide
 rw[e,RE _ 0 h1 (by unfold Kt at h2;rw[h2];exact h)]
 exact congrArg _ h2
theorem XA (n:Nat):∃ b r,Lib.decDigits n=b :: r∧isD b=true:=by
 obtain⟨h1,_,h3⟩:=HI n;cases hd:Lib.decDigits n with
 | nil=>rw[hd] at h3;simp at h3
 | cons b r =>
  rw[hd,ACk,aT] at h1;exact⟨b,r,rfl,h1.1⟩
theorem Jm {v:Int} (h:v.natAbs≤1000000000000000000):Lib.parseIntB 64 (Lib.itoa v)=.ok v:=by
 unfold Lib.itoa;by_cases hv:v<0
 ·rw[if_pos hv,Lib.parseIntB_minus,RF h];unfold Lib.signedC;simp only;rw[if_neg (by
   have e:(2:Nat) ^ (64-1)=9223372036854775808:=by decide
   omega)]
  congr 1;omega
 ·rw[if_neg hv];obtain⟨b,r,e,hb⟩:=XA v.toNat;have hp:=RF (n:=v.toNat) (by omega)
  rw[e] at hp ⊢;unfold isD at hb;simp only[aT,dE] at hb;rw[Lib.parseIntB_plain 64 b r (by omega) (by omega),hp]
  unfold Lib.signlessC;simp only;rw[if_neg (by
   have e:(2:Nat) ^ (64-1)=9223372036854775808:=by decide
   omega)]
  congr 1;omega
def HJ (l:List UInt8):Option Nat:=if 1≤l.length∧l.length≤10∧l.all isD=true∧Lib.decDigits (Kt l)=l then some (Kt l) else none
theorem FV {l:List UInt8} {n:Nat} (h:HJ l=some n):l=Lib.decDigits n∧l.length≤10∧n<10000000000:=by
 unfold HJ at h;split at h
 ·rename_i hh;obtain⟨h1,h2,h3,h4⟩:=hh;cases h;refine⟨h4.symm,h2,?_⟩;rcases AlR l 0 0 (by decide) with h5 | h5
  ·have h6:(10:Nat) ^ (0+l.length)≤10 ^ 10:=ADc (by decide) (by omega)
   have h7:(10:Nat) ^ 10=10000000000:=by decide
   unfold Kt;omega
  ·exact absurd h3 h5
 ·cases h
theorem XB {n:Nat} (h:(Lib.decDigits n).length≤10):HJ (Lib.decDigits n)=some n:=by
 obtain⟨h1,h2,h3⟩:=HI n;unfold HJ;rw[if_pos ⟨h3,h,h1,by rw[h2]⟩,h2]
def rd (l:List UInt8):Option Int:=match l with
 | []=>none
 | b :: r=>if b=45 then (match HJ r with | some n=>if 0<n then some (-(n:Int)) else none | none=>none) else (HJ l).map fun (n:Nat)=>(n:Int)
def unm (l:List UInt8):List UInt8:=match l with
 | []=>[]
 | b :: r=>if b=45 then r else l
theorem Iq {l:List UInt8} {v:Int}:rd l=some v↔l=Lib.itoa v∧(unm l).length≤10:=by
 constructor
 ·intro h;cases l with
  | nil=>cases h
  | cons b r =>
   simp only[rd,unm] at h ⊢;by_cases hb:b=45
   ·rw[if_pos hb] at h ⊢;split at h
    ·rename_i n hn;split at h
     ·cases h;obtain⟨h1,h2,_⟩:=FV hn;refine⟨?_,h2⟩;rw[Lib.itoa_neg n (by omega),hb,h1]
     ·cases h
    ·cases h
   ·rw[if_neg hb] at h ⊢;obtain⟨n,hn,rfl⟩:=ABl.1 h;obtain⟨h1,h2,_⟩:=FV hn;exact⟨by rw[Lib.itoa_nonneg,← h1],h2⟩
 ·rintro⟨h1,h2⟩
  by_cases hv:v<0
  ·obtain⟨n,rfl⟩:∃ n:Nat,v = -(n:Int):=⟨v.natAbs,by omega⟩
   rw[Lib.itoa_neg n (by omega)] at h1
   subst h1;simp only[unm,if_true] at h2;simp only[rd,if_true];rw[XB h2];simp only;rw[if_pos (by omega)]
  ·obtain⟨n,rfl⟩:∃ n:Nat,v=(n:Int):=⟨v.toNat,by omega⟩
   rw[Lib.itoa_nonneg] at h1;obtain⟨b,r,e,hb⟩:=XA n;have hb45:b≠45:=fun e=>by rw[e] at hb;exact absurd hb (by decide)
   rw[h1,e] at h2;simp only[unm,if_neg hb45] at h2;rw[h1,e];simp only[rd,if_neg hb45];rw[← e] at h2 ⊢;rw[XB h2];rfl
theorem O7 {l:List UInt8} {v:Int} (h:rd l=some v):v.natAbs<10000000000:=by
 cases l with
 | nil=>cases h
 | cons b r =>
  simp only[rd] at h;split at h
  ·split at h
   ·rename_i n hn;split at h
    ·cases h;have:=(FV hn).2.2;omega
    ·cases h
   ·cases h
  ·obtain⟨n,hn,rfl⟩:=ABl.1 h;have:=(FV hn).2.2;omega
theorem Awm {l:List UInt8} (h:l.length≤140737488355328):∃ n b,Aha (mk l)=some (n,b)∧((b&&decide ((unm l).length≤10))=true↔(rd l).isSome=true)∧∀ v,rd l=some v→n=v∧b=true:=by
 unfold Aha;rw[Aq];have h1:Nat.ble l.length 140737488355328=true:=by rw[AB4];exact h
 rw[h1,cT,B4];have no:(∀ v,Lib.parseIntB 64 l≠.ok v)→rd l=none:=fun hn=>by
  cases hr:rd l with
  | none=>rfl
  | some v =>
   have h2:=(Iq.1 hr).1;have h3:=O7 hr;exact absurd (by rw[h2];exact Jm (by omega)) (hn v)
 cases hp:Lib.parseIntB 64 l with
 | ok v =>
  refine⟨v,_,rfl,?_,fun u hu=>?_⟩
  ·show ((mk (Lib.itoa v)==mk l)&&_)=true↔_;rw[Ed,aT,dE,dE,AD5];constructor
   ·rintro⟨h2,h3⟩
    exact⟨v,Iq.2 ⟨h2.symm,h3⟩⟩
   ·rintro⟨u,hu⟩
    obtain⟨h2,h3⟩:=Iq.1 hu;have h4:=O7 hu;rw[h2,Jm (by omega)] at hp
    injection hp with hp;subst hp;exact⟨h2.symm,h3⟩
  ·obtain⟨h2,h3⟩:=Iq.1 hu;have h4:=O7 hu;rw[h2,Jm (by omega)] at hp
   injection hp with hp;subst hp;refine⟨rfl,?_⟩;show (mk (Lib.itoa u)==mk l)=true;rw[Ed,dE,← h2]
 | range =>
  have hr:=no (fun v=>by rw[hp];intro e;cases e)
  exact⟨_,_,rfl,by rw[hr];simp,fun v hv=>by rw[hr] at hv;cases hv⟩
 | _ =>
  have hr:=no (fun v=>by rw[hp];intro e;cases e)
  exact⟨_,_,rfl,by rw[hr];simp,fun v hv=>by rw[hr] at hv;cases hv⟩
end Go.Proofs.YtkemdhpdfaejgaaGreatDoor.X
