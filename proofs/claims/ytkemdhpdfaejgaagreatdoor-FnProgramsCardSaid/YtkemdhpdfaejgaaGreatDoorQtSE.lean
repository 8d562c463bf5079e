/- Matrices that are rotations or reflections: the reference counts powers, the program looks at trace and determinant. -/
import Derived.Test.YtkemdhpdfaejgaaGreatDoorQtME
namespace Go.Proofs.YtkemdhpdfaejgaaGreatDoor.X
open Go
set_option linter.unusedSimpArgs false
set_option linter.unusedVariables false
structure Sk (m:Mt):Prop where
 a : -1000≤m.1∧m.1≤1000
 b : -1000≤m.2.1∧m.2.1≤1000
 c : -1000≤m.2.2.1∧m.2.2.1≤1000
 d : -1000≤m.2.2.2∧m.2.2.2≤1000
theorem DO {m:Mt}:CE m=true↔Sk m:=by
 unfold CE;rw[aT,BS,BS];exact⟨fun⟨⟨a,b⟩,c,d⟩=>⟨a,b,c,d⟩,fun⟨a,b,c,d⟩=>⟨⟨a,b⟩,c,d⟩⟩
theorem pb {x y:Int} (hx : -1000≤x∧x≤1000) (hy : -1000≤y∧y≤1000) : -1000000≤x*y∧x*y≤1000000:=by
 have:=DH (a:=x) (b:=y) (B:=1000) (by omega) hx hy
 omega
theorem Al2 {m n:Mt} (hm:Sk m) (hn:Sk n):((w ((w (m.1*n.1))+(w (m.2.1*n.2.2.1)))),(w ((w (m.1*n.2.1))+(w (m.2.1*n.2.2.2)))),(w ((w (m.2.2.1*n.1))+(w (m.2.2.2*n.2.2.1)))),(w ((w (m.2.2.1*n.2.1))+(w (m.2.2.2*n.2.2.2)))))=mmS m n:=by
 have h:∀ {x y:Int},(-1000000≤x∧x≤1000000)→(-1000000≤y∧y≤1000000)→w ((w x)+(w y))=x+y:=fun {x y} hx hy=>by
  rw[As (n:=x) (by omega) (by omega),As (n:=y) (by omega) (by omega),As (by omega) (by omega)]
 rw[h (pb hm.a hn.a) (pb hm.b hn.c),h (pb hm.a hn.b) (pb hm.b hn.d),h (pb hm.c hn.a) (pb hm.d hn.c),h (pb hm.c hn.b) (pb hm.d hn.d)];rfl
theorem XM (m:Mt):QV KK m=some (CE m):=by
 unfold QV CE;simp only[Cj,oB,oT,tO,cT];cases Ba (m.1,m.2.1)<;>simp
theorem Pg {m:Mt} (h:Sk m):w ((w (m.1*m.2.2.2))-(w (m.2.1*m.2.2.1)))=A9 m:=by
 have h1:=pb h.a h.d;have h2:=pb h.b h.c;rw[As (n:=m.1*m.2.2.2) (by omega) (by omega),As (n:=m.2.1*m.2.2.1) (by omega) (by omega),As (by omega) (by omega)]
 rfl
def goO (m:Mt):Nat→Int→Mt→Int
 | 0,_,_=>0
 | f+1,k,o=>bif CE (mmS m o) then (bif mmS m o==(1,0,0,1) then k else goO m f (k+1) (mmS m o)) else 0
theorem Aao (a b:Mt):((a.1==b.1)&&((a.2.1==b.2.1)&&((a.2.2.1==b.2.2.1)&&(a.2.2.2==b.2.2.2))))=(a==b):=rfl
theorem Ph {m:Mt} (hm:Sk m):∀ (f n:Nat) (k:Int) (o:Mt),Sk o→k+(f:Int)=7→1≤k→f<n→JW KK m n k o.1 o.2.1 o.2.2.1 o.2.2.2=some (goO m f k o)
 | f,0,k,o,_,_,_,h=>by omega
 | 0,n+1,k,o,_,hk,_,_=>by
  show JV KK m (fun v0 v1 v2 v3 v4=>JW KK m n v0 v1 v2 v3 v4) k o.1 o.2.1 o.2.2.1 o.2.2.2=_;unfold JV;rw[dF (by omega),cF]
  rfl
 | f+1,n+1,k,o,ho,hk,h1,hn=>by
  show JV KK m (fun v0 v1 v2 v3 v4=>JW KK m n v0 v1 v2 v3 v4) k o.1 o.2.1 o.2.2.1 o.2.2.2=_;unfold JV;have hu:Qd KK=some (1,0,0,1):=rfl;have e:QJ KK m (o.1,o.2.1,o.2.2.1,o.2.2.2)=some (mmS m o):=by
   unfold QJ;exact congrArg some (Al2 hm ho)
  rw[dT (show k≤6 by omega),cT,e,oB,XM,oB,hu,oB]
  rw[Aao (mmS m o) (1,0,0,1)];unfold goO;cases hs:CE (mmS m o)
  ·rfl
  ·simp only[nT,cF,cT];cases hI:mmS m o==(1,0,0,1)
   ·rw[cF,cF,As (by omega) (by omega)]
    exact Ph hm f n (k+1) (mmS m o) (DO.1 hs) (by omega) (by omega) (by omega)
   ·rfl
theorem XN {m:Mt} (hm:Sk m):N8 KK m=some (goO m 6 1 (1,0,0,1)):=by
 have h:=Ph hm 6 KK 1 (1,0,0,1) ⟨by simp,by simp,by simp,by simp⟩ (by omega) (by omega) (by simp only[KK];omega)
 unfold N8 Y1;exact h
def trS (m:Mt):Int:=m.1+m.2.2.2
def pwS (m:Mt) (x y:Int):Mt:=(x*m.1-y,x*m.2.1,x*m.2.2.1,x*m.2.2.2-y)
theorem Aws (m:Mt) (x y:Int):mmS m (pwS m x y)=pwS m (x*trS m-y) (x*A9 m):=by
 obtain⟨a,b,c,d⟩:=m;unfold mmS pwS trS A9;simp only;refine Prod.ext ?_ (Prod.ext ?_ (Prod.ext ?_ ?_))<;>simp only[ADv,ACX,AD2,ADL,ADn,AB2,AC8]<;>omega
theorem Awt (m:Mt):pwS m 0 (-1)=(1,0,0,1):=by
 unfold pwS;simp
def Ei (m:Mt):Bool:=(A9 m==1&&(m==(1,0,0,1)||(m==(-1,0,0,-1)||(trS m == -1||(trS m==0||trS m==1)))))||(A9 m == -1&&trS m==0)
def AC (t D:Int):Nat→Int×Int
 | 0=>(0,-1)
 | n+1=>((AC t D n).1*t-(AC t D n).2,(AC t D n).1*D)
theorem Nn (m:Mt) (n:Nat):mmS m (pwS m (AC (trS m) (A9 m) n).1 (AC (trS m) (A9 m) n).2)=pwS m (AC (trS m) (A9 m) (n+1)).1 (AC (trS m) (A9 m) (n+1)).2:=Aws m _ _
theorem Np {m:Mt}:∀ (f n:Nat) (k:Int),1≤k→goO m f k (pwS m (AC (trS m) (A9 m) n).1 (AC (trS m) (A9 m) n).2)≠0 →
  ∃ i,n<i∧i≤n+f∧pwS m (AC (trS m) (A9 m) i).1 (AC (trS m) (A9 m) i).2=(1,0,0,1)∧goO m f k (pwS m (AC (trS m) (A9 m) n).1 (AC (trS m) (A9 m) n).2)=k+((i-n-1:Nat):Int)
 | 0,n,k,_,h=>absurd rfl h
 | f+1,n,k,hk,h=>by
  unfold goO at h ⊢;rw[Nn] at h ⊢;cases hs:CE (pwS m (AC (trS m) (A9 m) (n+1)).1 (AC (trS m) (A9 m) (n+1)).2)
  ·rw[hs] at h;exact absurd rfl h
  ·rw[hs,cT] at h;rw[cT];cases hI:pwS m (AC (trS m) (A9 m) (n+1)).1 (AC (trS m) (A9 m) (n+1)).2==(1,0,0,1)
   ·rw[hI,cF] at h;rw[cF];obtain⟨i,h1,h2,h3,h4⟩:=Np f (n+1) (k+1) (by omega) h
    exact⟨i,by omega,by omega,h3,by rw[h4];omega⟩
   ·exact⟨n+1,by omega,by omega,by simpa using hI,by rw[cT];omega⟩
theorem UQ {m:Mt}:∀ (f n i:Nat) (k:Int),1≤k→n<i→i≤n+f→(∀ j,n<j→j≤i→Sk (pwS m (AC (trS m) (A9 m) j).1 (AC (trS m) (A9 m) j).2))→pwS m (AC (trS m) (A9 m) i).1 (AC (trS m) (A9 m) i).2=(1,0,0,1) →
  goO m f k (pwS m (AC (trS m) (A9 m) n).1 (AC (trS m) (A9 m) n).2)≠0
 | 0,n,i,k,_,h1,h2,_,_=>by omega
 | f+1,n,i,k,hk,h1,h2,hs,hi=>by
  unfold goO;rw[Nn,DO.2 (hs (n+1) (by omega) (by omega)),cT]
  cases hI:pwS m (AC (trS m) (A9 m) (n+1)).1 (AC (trS m) (A9 m) (n+1)).2==(1,0,0,1)
  ·rw[cF];have hne:n+1≠i:=fun e=>by rw[e,hi] at hI;simp at hI
   exact UQ f (n+1) i (k+1) (by omega) (by omega) (by omega) (fun j a b=>hs j (by omega) b) hi
  ·rw[cT];omega
def Awu (t:Int):Bool:=[1,2,3,4,5,6].all fun n=>(AC t 1 n).1 != 0
theorem ArT:((List.range 1999).all fun k=>Awu ((k:Int)+2))=true:=by decide +kernel
theorem ArU:((List.range 1999).all fun k=>Awu (-((k:Int)+2)))=true:=by decide +kernel
theorem Awv {t:Int} (h:2≤t.natAbs) (h2:t.natAbs≤2000) {n:Nat} (hn:1≤n) (hn6:n≤6):(AC t 1 n).1≠0:=by
 have hb:Awu t=true:=by
  rcases AEm t with e | e
  ·have:=AA3.1 ArT (t.natAbs-2) (ACG.2 (by omega))
   have e2:((t.natAbs-2:Nat):Int)+2=t:=by omega
   rwa [e2] at this
  ·have:=AA3.1 ArU (t.natAbs-2) (ACG.2 (by omega))
   have e2 : -(((t.natAbs-2:Nat):Int)+2)=t:=by omega
   rwa [e2] at this
 have:=AA3.1 hb n (by simp;omega)
 simpa using this
theorem Aet {m:Mt} {x y:Int} (h:pwS m x y=(1,0,0,1)):x*m.1-y=1∧x*m.2.1=0∧x*m.2.2.1=0∧x*m.2.2.2-y=1:=by
 unfold pwS at h;simp only[ACE] at h;exact h
theorem Aww {a:Int} (h:a*a=1) (h1 : -1000≤a∧a≤1000):a=1∨a = -1:=by
 have h2:(a.natAbs:Nat)*a.natAbs=1:=by
  rw[← ACH,h];rfl
 have:=Nat.eq_one_of_mul_eq_one_left h2;omega
theorem Agp {m:Mt} (hm:Sk m) (hd:A9 m=1∨A9 m = -1):∃ k,QY KK m=some k∧(k != 0)=Ei m:=by
 have hdet:=Pg hm;have ho:=XN hm;rw[← Awt m] at ho;have hseq:(AC (trS m) (A9 m) 0).1=0∧(AC (trS m) (A9 m) 0).2 = -1:=⟨rfl,rfl⟩;have ho:N8 KK m=some (goO m 6 1 (pwS m (AC (trS m) (A9 m) 0).1 (AC (trS m) (A9 m) 0).2)):=ho;have ht:(trS m).natAbs≤2000:=by
  have:=hm.a;have:=hm.d;unfold trS;omega
 unfold QY QW;simp only[oB];rw[hdet,ho];simp only[oB];obtain⟨a,b,c,d⟩:=m;have ha:=hm.a;have hb:=hm.b;have hc:=hm.c;have hdd:=hm.d;simp only at ha hb hc hdd;rcases hd with hd | hd
 ·-- determinant 1
  rw[hd];refine⟨_,rfl,?_⟩;rw[hd] at ho;have hD:a*d-b*c=1:=hd;rw[ABR,bne_iff_ne];unfold Ei;rw[hd];simp only[ACB,aT,beq_iff_eq,show ((1:Int) = -1)=False by simp,false_and,or_false,true_and]
  constructor
  ·intro hne;have hne:goO (a,b,c,d) 6 1 (pwS (a,b,c,d) (AC (trS (a,b,c,d)) (A9 (a,b,c,d)) 0).1 (AC (trS (a,b,c,d)) (A9 (a,b,c,d)) 0).2)≠0:=by rw[hd];exact hne
   obtain⟨i,h1,h2,h3,_⟩:=Np 6 0 1 (by omega) hne
   rw[hd] at h3;by_cases hfar:2≤(trS (a,b,c,d)).natAbs
   ·have hp:=Awv hfar ht (n:=i) (by omega) (by omega)
    obtain⟨e1,e2,e3,e4⟩:=Aet h3;simp only at e1 e2 e3 e4;have hb0:b=0:=by
     rcases ADq.1 e2 with h | h
     ·exact absurd h hp
     ·exact h
    have hc0:c=0:=by
     rcases ADq.1 e3 with h | h
     ·exact absurd h hp
     ·exact h
    have had:a=d:=by
     have:(AC (trS (a,b,c,d)) 1 i).1*a=(AC (trS (a,b,c,d)) 1 i).1*d:=by omega
     exact Int.eq_of_mul_eq_mul_left hp this
    subst hb0 hc0 had;have:a*a=1:=by simpa using hD
    rcases Aww this ha with rfl | rfl
    ·exact .inl rfl
    ·exact .inr (.inl rfl)
   ·exact .inr (.inr (by omega))
  ·intro h;show goO (a,b,c,d) 6 1 _≠0;have key:∀ i,0<i→i≤6→(∀ j,0<j→j≤i→Sk (pwS (a,b,c,d) (AC (trS (a,b,c,d)) (A9 (a,b,c,d)) j).1 (AC (trS (a,b,c,d)) (A9 (a,b,c,d)) j).2))→pwS (a,b,c,d) (AC (trS (a,b,c,d)) (A9 (a,b,c,d)) i).1 (AC (trS (a,b,c,d)) (A9 (a,b,c,d)) i).2=(1,0,0,1) →
     goO (a,b,c,d) 6 1 (pwS (a,b,c,d) (AC (trS (a,b,c,d)) 1 0).1 (AC (trS (a,b,c,d)) 1 0).2)≠0:=fun i h1 h2 h3 h4=>by
    have:=UQ 6 0 i 1 (by omega) h1 (by omega) h3 h4
    rw[hd] at this;exact this
   rcases h with h | h | h | h | h
   ·refine key 1 (by omega) (by omega) (fun j h1 h2=>?_) ?_
    ·have:j=1:=by omega
     subst this;rw[hd,h];simp only[ACE] at h;exact⟨by simp[pwS,AC],by simp[pwS,AC],by simp[pwS,AC],by simp[pwS,AC]⟩
    ·rw[hd,h];simp[pwS,AC]
   ·have hs:∀ j,0<j→j≤2→Sk (pwS (a,b,c,d) (AC (trS (a,b,c,d)) 1 j).1 (AC (trS (a,b,c,d)) 1 j).2):=fun j h1 h2=>by
     have:j=1∨j=2:=by omega
     rw[h];rcases this with rfl | rfl<;>exact⟨by simp[pwS,AC,trS],by simp[pwS,AC,trS],by simp[pwS,AC,trS],by simp[pwS,AC,trS]⟩
    refine key 2 (by omega) (by omega) (fun j h1 h2=>by rw[hd];exact hs j h1 h2) ?_
    rw[hd,h];simp[pwS,AC,trS]
   ·have hs:∀ j,0<j→j≤3→Sk (pwS (a,b,c,d) (AC (-1) 1 j).1 (AC (-1) 1 j).2):=fun j h1 h2=>by
     have h':a+d = -1:=h;have:j=1∨j=2∨j=3:=by omega
     rcases this with rfl | rfl | rfl<;>exact⟨by simp[pwS,AC]<;>omega,by simp[pwS,AC]<;>omega,by simp[pwS,AC]<;>omega,by simp[pwS,AC]<;>omega⟩
    refine key 3 (by omega) (by omega) (fun j h1 h2=>by rw[hd,h];exact hs j h1 h2) ?_
    rw[hd,h];simp[pwS,AC]
   ·have hs:∀ j,0<j→j≤4→Sk (pwS (a,b,c,d) (AC 0 1 j).1 (AC 0 1 j).2):=fun j h1 h2=>by
     have:j=1∨j=2∨j=3∨j=4:=by omega
     rcases this with rfl | rfl | rfl | rfl<;>exact⟨by simp[pwS,AC]<;>omega,by simp[pwS,AC]<;>omega,by simp[pwS,AC]<;>omega,by simp[pwS,AC]<;>omega⟩
    refine key 4 (by omega) (by omega) (fun j h1 h2=>by rw[hd,h];exact hs j h1 h2) ?_
    rw[hd,h];simp[pwS,AC]
   ·have hs:∀ j,0<j→j≤6→Sk (pwS (a,b,c,d) (AC 1 1 j).1 (AC 1 1 j).2):=fun j h1 h2=>by
     have h':a+d=1:=h;have:j=1∨j=2∨j=3∨j=4∨j=5∨j=6:=by omega
     rcases this with rfl | rfl | rfl | rfl | rfl | rfl<;>exact⟨by simp[pwS,AC]<;>omega,by simp[pwS,AC]<;>omega,by simp[pwS,AC]<;>omega,by simp[pwS,AC]<;>omega⟩
    refine key 6 (by omega) (by omega) (fun j h1 h2=>by rw[hd,h];exact hs j h1 h2) ?_
    rw[hd,h];simp[pwS,AC]
 ·-- determinant -1
  rw[hd];have hD:a*d-b*c = -1:=hd;have e1:((-1:Int)==1)=false:=rfl;rw[e1,cF];have hval:∀ x:Int,∃ k,(bif x==(2:Int) then some (-2:Int) else some (0:Int))=some k∧((k != 0)=(x==2)):=fun x=>by
   cases x==2
   ·exact⟨0,rfl,rfl⟩
   ·exact⟨-2,rfl,rfl⟩
  obtain⟨k,hk1,hk2⟩:=hval (goO (a,b,c,d) 6 1 (pwS (a,b,c,d) (AC (trS (a,b,c,d)) (-1) 0).1 (AC (trS (a,b,c,d)) (-1) 0).2));refine⟨k,hk1,hk2.trans ?_⟩;have ht:Ei (a,b,c,d)=(trS (a,b,c,d)==0):=by
   unfold Ei;rw[hd];rfl
  rw[ht,ABR,beq_iff_eq,beq_iff_eq];constructor
  ·intro h;have hne:goO (a,b,c,d) 6 1 (pwS (a,b,c,d) (AC (trS (a,b,c,d)) (A9 (a,b,c,d)) 0).1 (AC (trS (a,b,c,d)) (A9 (a,b,c,d)) 0).2)≠0:=by rw[hd,h];simp
   obtain⟨i,h1,h2,h3,h4⟩:=Np 6 0 1 (by omega) hne
   rw[hd] at h3 h4;rw[h] at h4;have hi:i=2:=by omega
   subst hi;obtain⟨k1,k2,k3,k4⟩:=Aet h3;simp only[AC] at k1 k2 k3 k4;have h5:trS (a,b,c,d)*a=0:=by
    have:trS (a,b,c,d)*a+1=1:=by simpa using k1
    omega
   have h6:trS (a,b,c,d)*d=0:=by
    have:trS (a,b,c,d)*d+1=1:=by simpa using k4
    omega
   rcases ADq.1 h5 with h7 | h7
   ·exact h7
   ·rcases ADq.1 h6 with h8 | h8
    ·exact h8
    ·show a+d=0;omega
  ·intro h;have hb0:pwS (a,b,c,d) (AC (trS (a,b,c,d)) (-1) 0).1 (AC (trS (a,b,c,d)) (-1) 0).2=pwS (a,b,c,d) (AC (trS (a,b,c,d)) (A9 (a,b,c,d)) 0).1 (AC (trS (a,b,c,d)) (A9 (a,b,c,d)) 0).2:=by rw[hd]
   have hs:∀ j,0<j→j≤2→Sk (pwS (a,b,c,d) (AC 0 (-1) j).1 (AC 0 (-1) j).2):=fun j h1 h2=>by
    have:j=1∨j=2:=by omega
    rcases this with rfl | rfl<;>exact⟨by simp[pwS,AC]<;>omega,by simp[pwS,AC]<;>omega,by simp[pwS,AC]<;>omega,by simp[pwS,AC]<;>omega⟩
   have hne:=UQ (m:=(a,b,c,d)) 6 0 2 1 (by omega) (by omega) (by omega) (fun j h1 h2=>by rw[hd,h];exact hs j h1 h2) (by rw[hd,h];simp[pwS,AC])
   obtain⟨i,h1,h2,h3,h4⟩:=Np 6 0 1 (by omega) hne
   rw[hd] at h4;rw[h4];rw[hd,h] at h3
   -- the first power isn't one
   have hi1:i≠1:=fun e=>by
    subst e;obtain⟨k1,k2,k3,k4⟩:=Aet h3;simp only[AC] at k1 k2 k3 k4;have h':a+d=0:=h;have:a=1:=by simpa using k1
    have:d=1:=by simpa using k4
    omega
   -- the second is
   have h2':goO (a,b,c,d) 6 1 (pwS (a,b,c,d) (AC (trS (a,b,c,d)) (-1) 0).1 (AC (trS (a,b,c,d)) (-1) 0).2)=2:=by
    rw[hb0];unfold goO;rw[Nn,hd,h,DO.2 (hs 1 (by omega) (by omega)),cT]
    cases hI:pwS (a,b,c,d) (AC 0 (-1) 1).1 (AC 0 (-1) 1).2==(1,0,0,1)
    ·rw[cF];unfold goO;have e3:=Nn (a,b,c,d) 1;rw[hd,h] at e3;rw[e3,DO.2 (hs 2 (by omega) (by omega)),cT]
     have e4:(pwS (a,b,c,d) (AC 0 (-1) 2).1 (AC 0 (-1) 2).2==(1,0,0,1))=true:=by simp[pwS,AC]
     rw[e4,cT];rfl
    ·exfalso;have e5:pwS (a,b,c,d) (AC 0 (-1) 1).1 (AC 0 (-1) 1).2=(1,0,0,1):=by simpa using hI
     obtain⟨k1,k2,k3,k4⟩:=Aet e5;simp only[AC] at k1 k2 k3 k4;have h':a+d=0:=h;have:a=1:=by simpa using k1
     have:d=1:=by simpa using k4
     omega
   rw[← h4];exact h2'
end Go.Proofs.YtkemdhpdfaejgaaGreatDoor.X
