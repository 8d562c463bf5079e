/- What the draws of programs are: texts that are not long; and printed programs. -/
import Derived.Test.YtkemdhpdfaejgaaGreatDoorQtPShortPrograms
namespace Go.Proofs.YtkemdhpdfaejgaaGreatDoor.X
open Go
set_option linter.unusedSimpArgs false
set_option linter.unusedVariables false
theorem Ar4 {p:Pt} (h:okP p=true):p.2.2.length=(Aa p.2.1).length:=by
 have:=congrArg List.length (Us (E7 h));rw[ABf] at this;exact this.symm
theorem AwK {p:Pt} (h:okP p=true) {q:Nat} (hq:q<(Aa p.2.1).length):p.2.2.getD ((0:Int)+(q:Int)).toNat (0:Int)=atS p (Aa p.2.1)[q]:=by
 have hl:=(E7 h).l;have e:((0:Int)+(q:Int)).toNat=q:=by omega
 unfold atS;rw[Bb hl hq,e]
theorem XU {p:Pt} (h:okP p=true) {y1:Bool} {s0:List UInt8×Nat} (hs0:s0.1.length≤100∧s0.2=0) :
  Y4 KK p y1 (Aa p.2.1) KK (mk s0.1) ((s0.2:Nat):Int) ((0:Nat):Int)=some (Kw [] ((Aa p.2.1).foldl (DN p) s0)):=by
 have hl:=(E7 h).l;have hN:=AK hl;have hc:=Ar4 h;have hh:=AJ (R:=ByteArray×Int) (body:=fun L x=>K3 KK p y1 (Aa p.2.1) (fun v0 v1 v2=>L (v0,v1,v2)) x.1 x.2.1 x.2.2) (Aa p.2.1) (fun q (s:List UInt8×Nat)=>(mk s.1,((s.2:Nat):Int),(q:Int))) (DN p) (fun s=>some (Kw [] s)) (fun q s=>s.1.length≤100+30*q∧s.2≤q)
  (fun L q s hq hi=>by
   have hvb:=CC hl (Ay (gM hq));have hb:=UP (atC h) hvb (s:=s);refine⟨by omega,?_⟩
   show K3 KK p y1 (Aa p.2.1) (fun v0 v1 v2=>L (v0,v1,v2)) (mk s.1) ((s.2:Nat):Int) (q:Int)=_;unfold K3;have ha:=atC h (Aa p.2.1)[q];have hm:=FX hvb (c:=atS p (Aa p.2.1)[q]) (by omega)
   rw[in1 hq,in0,in1 (show q<p.2.2.length by omega),AwK h hq,gd hq,HM hvb ha.1 ha.2,Af (by omega),Af (by omega)]
   simp only[aS,cT,oB];rw[Aq,Aq,AN (by omega),Be]
   unfold DN;have e3:decide (atS p (Aa p.2.1)[q]>(0:Int))=!(atS p (Aa p.2.1)[q]==0):=by
    rw[ABR,dE,AB7,bN];omega
   rw[e3];cases atS p (Aa p.2.1)[q]==0<;>rfl)
  (fun L s hi=>by
   show K3 KK p y1 (Aa p.2.1) (fun v0 v1 v2=>L (v0,v1,v2)) (mk s.1) ((s.2:Nat):Int) ((Aa p.2.1).length:Int)=_;unfold K3 Kw;rw[AO,cF,g40];cases decide (40<s.2)<;>rfl) KK 0 s0 (by omega) (by simp only[KK];omega) (by omega)
 rw[ABb] at hh;exact hh
noncomputable def GX (p:Pt):ByteArray×Int:=bif okP p then Kw (Dc p.1 p.2.1) ((Aa p.2.1).foldl (DN p) ([],0)) else (ByteArray.empty,1)
theorem RQ (p:Pt):Afk KK p=some (GX p):=by
 unfold Afk Aij GX;rw[DG,oB];cases h:okP p
 ·rfl
 ·have hp:=E7 h;have hf:=HH h;simp only[nT,cF,cT];rw[Da hp.l,oB,HL hf hp.l,oB];have:=XU h (y1:=true) (s0:=(Dc p.1 p.2.1,0)) ⟨FW _ hp.l,rfl⟩;refine Eq.trans this ?_;have hpre:=Pf p (Dc p.1 p.2.1) (Aa p.2.1) ([],0);rw[ABD] at hpre;rw[hpre];rfl
theorem Agw (p:Pt):AoV KK p=some (GX p):=by
 unfold AoV GX;rw[Ka,oB];cases h:okP p
 ·rfl
 ·have hp:=E7 h;have hf:=HH h;have hN:=AK hp.l;have hfl:=Kx (atC h) (Aa p.2.1) ([],0) fun v hv=>CC hp.l (Ay hv);have hhl:=FW p.1 hp.l;simp only[nT,cF,cT];rw[J6 hp.l,oB,Al1 hp (atC h) (fun v hv=>Ay hv) (by omega),oB]
  unfold Kw;cases hk:decide (40<((Aa p.2.1).foldl (DN p) ([],0)).2)
  ·simp only[cF,bne_self_eq_false,ABi];simp only[ABm] at hfl;rw[XK hf hp.l,oB,Aq,Aq,AN (by omega),cT,Be]
  ·rfl
theorem RR (p:Pt):(GX p).1.size≤3000:=by
 unfold GX Kw;cases h:okP p
 ·exact ABU _
 ·have hp:=E7 h;have hN:=AK hp.l;have hfl:=Kx (atC h) (Aa p.2.1) ([],0) fun v hv=>CC hp.l (Ay hv);have hhl:=FW p.1 hp.l;simp only[ABm] at hfl;cases decide (40<((Aa p.2.1).foldl (DN p) ([],0)).2)
  ·simp only[cT,cF];rw[Aq,lA];omega
  ·exact ABU _
theorem Agx (p:Pt):(CU p).1.size≤3000:=by
 rcases Int.lt_trichotomy (CU p).2 0 with h | h | h
 ·exfalso;revert h;unfold CU Agb Kw;cases okP p
  ·simp
  ·have:∀ (b:Bool) (x:ByteArray),(bif b then (ByteArray.empty,(3:Int)) else (x,(0:Int))).2<0→False:=by intro b x;cases b<;>simp
   exact this _ _
 ·obtain⟨_,T,s,e1,e2,_⟩:=Z4 h;rw[e1,Aq];exact e2
 ·revert h;unfold CU Agb Kw;cases okP p
  ·intro _;exact ABU _
  ·simp only[cT];cases decide (40<((D0 (Ap p).2.1 (Au (Ap p))).foldl (DN (Ap p)) ([],0)).2)
   ·simp
   ·intro _;exact ABU _
abbrev DrT:=Option ((Int×Int)×ByteArray)
def okR (r:DrT):Prop:=∃ t b,r=some (t,b)∧b.size≤300000
theorem Aau (a:ByteArray) (i j:Nat):(a.extract i j).size≤a.size:=by
 rw[ByteArray.size_extract];omega
theorem Amm {l:List ByteArray} {r:Int} (h0:0≤r) (h1:r<(l.length:Int)) (h:l.all (fun b=>decide (b.size≤100))=true):(l.getD ((0:Int)+r).toNat ByteArray.empty).size≤100:=by
 obtain⟨k,rfl⟩:∃ k:Nat,r=(k:Int):=⟨r.toNat,by omega⟩
 rw[gd (show k<l.length by omega)]
 exact of_decide_eq_true (AA3.1 h _ (gM _))
theorem AwL {c:List Int} {t:Int×Int} (h:Src c t) {q:ByteArray} (hq:q.size≤100000):okR (II KK (c,t) q):=by
 obtain⟨t1,r1,e1,h1,a1,b1⟩:=A5 h (n:=(q.size:Int)+1) (by omega)
 obtain⟨t2,r2,e2,h2,a2,b2⟩:=A5 h1 (n:=8) (by omega)
 obtain⟨t3,r3,e3,h3,a3,b3⟩:=A5 h2 (n:=8) (by omega)
 have g1:(decide (0≤(0:Int))&&decide ((0:Int)≤r1)&&decide (r1≤(q.size:Int)))=true:=by
  rw[dT (show (0:Int)≤0 by omega),dT a1,dT (show r1≤(q.size:Int) by omega)]
  rfl
 have g2:(decide (0≤r1)&&decide (r1≤(q.size:Int))&&decide ((q.size:Int)≤(q.size:Int)))=true:=by
  rw[dT a1,dT (show r1≤(q.size:Int) by omega),dT (show (q.size:Int)≤(q.size:Int) by omega)]
  rfl
 have z1:=Aau q 0 r1.toNat;have z2:=Aau q r1.toNat (q.size:Int).toNat;have z3:=Aau q (w (r1+1)).toNat (q.size:Int).toNat;unfold II;rw[As (n:=(q.size:Int)+1) (by omega) (by omega),e1,oB]
 simp only;rw[e2,oB];simp only[g1,g2,cT];rw[e3];cases r2==0
 ·cases r2==1
  ·cases r2==2
   ·exact⟨_,_,rfl,by omega⟩
   ·by_cases hlt:r1<(q.size:Int)
    ·have ew:w (r1+1)=r1+1:=As (by omega) (by omega)
     have g3:(decide (0≤(w (r1+1)))&&decide ((w (r1+1))≤(q.size:Int))&&decide ((q.size:Int)≤(q.size:Int)))=true:=by
      rw[ew,dT (show 0≤r1+1 by omega),dT (show r1+1≤(q.size:Int) by omega),dT (show (q.size:Int)≤(q.size:Int) by omega)]
      rfl
     simp only[dT hlt,g3,cT,cF];rw[AN (by omega)]
     exact⟨_,_,rfl,by rw[ABF];omega⟩
    ·simp only[dF hlt,cT,cF];exact⟨_,_,rfl,by omega⟩
  ·simp only[cT,cF,oB];have hb:(decide (0≤r3)&&decide (r3<([(bs [48]),(bs [49]),(bs [32]),(bs [45]),(bs [44]),(bs [59]),(bs [10]),(bs [97])].length:Int)))=true:=by
    rw[aT,dE,dE];exact⟨a3,b3⟩
   have hs:=Amm (l:=[(bs [48]),(bs [49]),(bs [32]),(bs [45]),(bs [44]),(bs [59]),(bs [10]),(bs [97])]) a3 b3 rfl;rw[hb,cT,AN (by omega),cT,AN (by rw[ABF];omega)]
   exact⟨_,_,rfl,by rw[ABF,ABF];omega⟩
 ·exact⟨_,_,rfl,by omega⟩
noncomputable def t4F (c:List Int) (t:Int×Int) (q:ByteArray):DrT:=(AL KK (c,t) 4).bind fun y=>bif y.2==(0:Int) then (II KK (c,y.1) q).bind fun z=>some z else some (y.1,q)
theorem Amn {c:List Int} {t:Int×Int} (h:Src c t) {q:ByteArray} (hq:q.size≤100000):okR (t4F c t q):=by
 obtain⟨t1,r1,e1,h1,a1,b1⟩:=A5 h (n:=4) (by omega)
 unfold t4F;rw[e1,oB];simp only;cases r1==0
 ·exact⟨_,_,rfl,by omega⟩
 ·obtain⟨t2,b,e2,h2⟩:=AwL h1 hq;rw[cT,e2];exact⟨_,_,rfl,h2⟩
noncomputable def AeB (c:List Int) (t:Int×Int) (L:ByteArray→Int→DrT) (q:ByteArray) (k:Int):DrT :=
 (bif (decide (k<(9:Int))) then (bif (Nat.ble (q.size+(bs [109,111,116,105,111,110,32,49,44,48,44,48,44,49,59,48,44,48,10]).size) 9223372036854775807) then L (q++(bs [109,111,116,105,111,110,32,49,44,48,44,48,44,49,59,48,44,48,10])) (w (k+(1:Int))) else none) else t4F c t q)
theorem KC {c:List Int} {t:Int×Int} (h:Src c t):∀ (n k:Nat) (q:ByteArray),k≤9→9-k<n→q.size≤50000+19*k→okR (Ax (X:=ByteArray×Int) (fun L x=>AeB c t (fun v0 v1=>L (v0,v1)) x.1 x.2) n (q,(k:Int)))
 | 0,k,q,_,h2,_=>by omega
 | n+1,k,q,hk,hn,hq=>by
  show okR (AeB c t (fun v0 v1=>Ax (X:=ByteArray×Int) (fun L x=>AeB c t (fun v0 v1=>L (v0,v1)) x.1 x.2) n (v0,v1)) q (k:Int));unfold AeB;by_cases hlt:k<9
  ·have e19:(bs [109,111,116,105,111,110,32,49,44,48,44,48,44,49,59,48,44,48,10]).size=19:=rfl;rw[dT (show (k:Int)<9 by omega),cT,e19,AN (by omega),cT,Af (by omega)]
   exact KC h n (k+1) _ (by omega) (by omega) (by rw[ABF,e19];omega)
  ·rw[dF (show ¬ (k:Int)<9 by omega),cF]
   exact Amn h (by omega)
theorem Amo (l:List Int):(strOfNums l).size=l.length:=by
 unfold strOfNums;simp[ByteArray.size]
noncomputable def AeC (c:List Int) (t:Int×Int) (q:ByteArray) (I:(Int×Int)×Int→ByteArray→Int→DrT):DrT :=
 (AL KK (c,t) (30:Int)).bind fun y48=>(bif (y48.2==(0:Int)) then (AL KK (c,y48.1) (5:Int)).bind fun y49=>(bif (decide (0≤y49.2)&&decide (y49.2<([(bs [102,114,97,109,101,32,83,10]),(bs [108,97,116,116,105,99,101,32,50,44,48,44,50,10]),(bs [109,97,114,107,32,48,44,48,32,49,48,10]),(bs [109,111,116,105,111,110,32,49,44,48,44,48,44,49,10]),(bs [112,97,105,110,116,10])].length:Int))) then (bif (Nat.ble (q.size+([(bs [102,114,97,109,101,32,83,10]),(bs [108,97,116,116,105,99,101,32,50,44,48,44,50,10]),(bs [109,97,114,107,32,48,44,48,32,49,48,10]),(bs [109,111,116,105,111,110,32,49,44,48,44,48,44,49,10]),(bs [112,97,105,110,116,10])].getD ((0:Int)+y49.2).toNat ByteArray.empty).size) 9223372036854775807) then some (y49.1,(q++([(bs [102,114,97,109,101,32,83,10]),(bs [108,97,116,116,105,99,101,32,50,44,48,44,50,10]),(bs [109,97,114,107,32,48,44,48,32,49,48,10]),(bs [109,111,116,105,111,110,32,49,44,48,44,48,44,49,10]),(bs [112,97,105,110,116,10])].getD ((0:Int)+y49.2).toNat ByteArray.empty))) else none) else none) else (bif (y48.2==(1:Int)) then I y48 q (0:Int) else (bif (y48.2==(2:Int)) then (bif (Nat.ble ((bs [109,97,114,107,32,48,44,48,32,49,10]).size+q.size) 9223372036854775807) then some (y48.1,((bs [109,97,114,107,32,48,44,48,32,49,10])++q)) else none) else (bif (y48.2==(3:Int)) then (AL KK (c,y48.1) (4:Int)).bind fun y55=>(bif (y55.2==(0:Int)) then (bif (decide (0≤(3001:Int))&&Nat.ble 3001 (lim 1)&&((3001:Int)==(3001:Int))) then some (y55.1,(strOfNums (List.replicate 3001 (0:Int)))) else none) else t4F c y55.1 q) else t4F c y48.1 q))))
theorem Aav {c:List Int} {t:Int×Int} (h:Src c t) {q:ByteArray} (hq:q.size≤50000) {I:(Int×Int)×Int→ByteArray→Int→DrT} (hI:∀ y,Src c y.1→okR (I y q 0)):okR (AeC c t q I):=by
 obtain⟨t1,r1,e1,h1,a1,b1⟩:=A5 h (n:=30) (by omega)
 obtain⟨t2,r2,e2,h2,a2,b2⟩:=A5 h1 (n:=5) (by omega)
 obtain⟨t3,r3,e3,h3,a3,b3⟩:=A5 h1 (n:=4) (by omega)
 unfold AeC;rw[e1,oB];simp only;cases r1==0
 ·rw[cF];cases r1==1
  ·rw[cF];cases r1==2
   ·rw[cF];cases r1==3
    ·exact Amn h1 (by omega)
    ·rw[cT,e3,oB];simp only;cases r3==0
     ·exact Amn h3 (by omega)
     ·rw[cT,show (decide (0≤(3001:Int))&&Nat.ble 3001 (lim 1)&&((3001:Int)==(3001:Int)))=true from rfl,cT]
      refine⟨_,_,rfl,?_⟩;rw[Amo,ACt];decide
   ·have e11:(bs [109,97,114,107,32,48,44,48,32,49,10]).size=11:=rfl;rw[cT,e11,AN (by omega),cT]
    exact⟨_,_,rfl,by rw[ABF,e11];omega⟩
  ·exact hI (t1,r1) h1
 ·rw[cT,e2,oB];simp only;have hb:(decide (0≤r2)&&decide (r2<([(bs [102,114,97,109,101,32,83,10]),(bs [108,97,116,116,105,99,101,32,50,44,48,44,50,10]),(bs [109,97,114,107,32,48,44,48,32,49,48,10]),(bs [109,111,116,105,111,110,32,49,44,48,44,48,44,49,10]),(bs [112,97,105,110,116,10])].length:Int)))=true:=by
   rw[aT,dE,dE];exact⟨a2,b2⟩
  have hs:=Amm (l:=[(bs [102,114,97,109,101,32,83,10]),(bs [108,97,116,116,105,99,101,32,50,44,48,44,50,10]),(bs [109,97,114,107,32,48,44,48,32,49,48,10]),(bs [109,111,116,105,111,110,32,49,44,48,44,48,44,49,10]),(bs [112,97,105,110,116,10])]) a2 b2 rfl;rw[hb,cT,AN (by omega),cT]
  exact⟨_,_,rfl,by rw[ABF];omega⟩
theorem Aaw {c:List Int} {t:Int×Int} (h:Src c t) {f:Int} {l:Lt} (hf:okF f=true) (hl:IsL l):∃ t' m,Qe KK (c,t) f l=some (t',m)∧Src c t'∧m.1∈pmQ++pmH∧Ba m.2=true:=by
 have hf':0≤f∧f≤1:=by simpa[okF] using hf
 have hs1:=Ko (f:=f) hl;have hpos:0<(AU f l).length:=AC1 hs1;unfold Qe Qd;rw[ED,hf,Bt.2 hl,Gu hf'.1 hf'.2 hl];simp only[oB,aS,if_true,beq_self_eq_true,cT];obtain⟨t1,r1,e1,h1,a1,b1⟩:=A5 h (n:=((AU f l).length:Int)) (by omega)
 obtain⟨k,rfl⟩:∃ k:Nat,r1=(k:Int):=⟨r1.toNat,by omega⟩
 have hk:k<(AU f l).length:=by omega
 rw[e1,oB];simp only;rw[in0,in1 hk,gd hk];simp only[aS,cT];obtain⟨t2,r2,e2,h2,a2,b2⟩:=A5 h1 (n:=9) (by omega)
 rw[e2,oB];simp only;obtain⟨t3,r3,e3,h3,a3,b3⟩:=A5 h2 (n:=9) (by omega)
 rw[e3,oB,As (n:=r2-4) (by omega) (by omega),As (n:=r3-4) (by omega) (by omega)]
 refine⟨t3,((AU f l)[k],(r2-4,r3-4)),rfl,h3,DX (gM hk),?_⟩;rw[BS];simp only;omega
noncomputable def Ar5 (c:List Int) (f:Int) (l:Lt) (J:Int→ByteArray→Int→Int→Int→DrT) (L:ByteArray→Int→Int→Int→DrT) (q14:ByteArray) (q15 q16 q17:Int):DrT :=
 (bif (decide (q15>(0:Int))) then (bif (Nat.ble (q14.size+(bs [109,111,116,105,111,110,32]).size) 9223372036854775807) then (Qe KK (c,q16,q17) f l).bind fun y18=>(Y3 KK y18.2).bind fun y19=>(bif (Nat.ble ((q14++(bs [109,111,116,105,111,110,32])).size+y19.size) 9223372036854775807) then (bif (Nat.ble (((q14++(bs [109,111,116,105,111,110,32]))++y19).size+(bs [10]).size) 9223372036854775807) then L (((q14++(bs [109,111,116,105,111,110,32]))++y19)++(bs [10])) (w (q15-(1:Int))) y18.1.1 y18.1.2 else none) else none) else none) else (AL KK (c,q16,q17) (5:Int)).bind fun y20=>J q15 q14 y20.2 y20.1.1 y20.1.2)
theorem Aax {c:List Int} {f:Int} {l:Lt} (hf:okF f=true) (hl:IsL l) {J:Int→ByteArray→Int→Int→Int→DrT} (hJ:∀ (k:Int) (q:ByteArray) (r:Int) (t:Int×Int),Src c t→q.size≤1000→0≤r→r<5→okR (J k q r t.1 t.2)):∀ (n k:Nat) (q:ByteArray) (t:Int×Int),Src c t→k≤4→k<n→q.size+60*k≤1000→okR (Ax (X:=ByteArray×Int×Int×Int) (fun L x=>Ar5 c f l J (fun v0 v1 v2 v3=>L (v0,v1,v2,v3)) x.1 x.2.1 x.2.2.1 x.2.2.2) n (q,(k:Int),t.1,t.2))
 | 0,k,_,_,_,_,h,_=>by omega
 | n+1,k,q,t,h,hk,hn,hq=>by
  show okR (Ar5 c f l J (fun v0 v1 v2 v3=>Ax (X:=ByteArray×Int×Int×Int) (fun L x=>Ar5 c f l J (fun v0 v1 v2 v3=>L (v0,v1,v2,v3)) x.1 x.2.1 x.2.2.1 x.2.2.2) n (v0,v1,v2,v3)) q (k:Int) t.1 t.2);unfold Ar5;cases k with
  | zero =>
   obtain⟨t1,r1,e1,h1,a1,b1⟩:=A5 h (n:=5) (by omega)
   rw[dF (show ¬ ((0:Nat):Int)>0 by omega),cF,show AL KK (c,t.1,t.2) 5=some (t1,r1) from e1,oB]
   exact hJ _ q r1 t1 h1 (by omega) a1 b1
  | succ k =>
   obtain⟨t1,m,e1,h1,m1,m2⟩:=Aaw h hf hl;have e7:(bs [109,111,116,105,111,110,32]).size=7:=rfl;have e8:(bs [10]).size=1:=rfl;have hml:=Pe m1 m2;rw[dT (show ((k+1:Nat):Int)>0 by omega),cT,e7,AN (by omega),cT,show Qe KK (c,t.1,t.2) f l=some (t1,m) from e1,oB]
   simp only;rw[RK m1 m2,oB,ABF,ABF,ABF,e7,e8,Aq,AN (by omega),AN (by omega),cT,cT,As (n:=((k+1:Nat):Int)-1) (by omega) (by omega)]
   have ek:((k+1:Nat):Int)-1=(k:Int):=by omega
   rw[ek];exact Aax hf hl hJ n k _ t1 h1 (by omega) (by omega) (by rw[ABF,ABF,ABF,e7,e8,Aq];omega)
noncomputable def Ar6 (c:List Int) (I:Int→(Int×Int)×Int→ByteArray→Int→DrT) (L:ByteArray→Int→Int→Int→DrT) (q27:ByteArray) (q28 q29 q30:Int):DrT :=
 (bif (decide (q28>(0:Int))) then (AL KK (c,q29,q30) (9:Int)).bind fun y31=>(AL KK (c,y31.1) (9:Int)).bind fun y32=>(AL KK (c,y32.1) (3:Int)).bind fun y33=>(We KK ((w (y31.2-(4:Int))),(w (y32.2-(4:Int)))) y33.2).bind fun y34=>(bif (Nat.ble (q27.size+y34.size) 9223372036854775807) then L (q27++y34) (w (q28-(1:Int))) y33.1.1 y33.1.2 else none) else AeC c (q29,q30) q27 (I q28))
theorem Aay {c:List Int} {I:Int→(Int×Int)×Int→ByteArray→Int→DrT} (hI:∀ (k:Int) (q:ByteArray) y,Src c y.1→q.size≤5000→okR (I k y q 0)):∀ (n k:Nat) (q:ByteArray) (t:Int×Int),Src c t→k≤5→k<n→q.size+60*k≤5000→okR (Ax (X:=ByteArray×Int×Int×Int) (fun L x=>Ar6 c I (fun v0 v1 v2 v3=>L (v0,v1,v2,v3)) x.1 x.2.1 x.2.2.1 x.2.2.2) n (q,(k:Int),t.1,t.2))
 | 0,k,_,_,_,_,h,_=>by omega
 | n+1,k,q,t,h,hk,hn,hq=>by
  show okR (Ar6 c I (fun v0 v1 v2 v3=>Ax (X:=ByteArray×Int×Int×Int) (fun L x=>Ar6 c I (fun v0 v1 v2 v3=>L (v0,v1,v2,v3)) x.1 x.2.1 x.2.2.1 x.2.2.2) n (v0,v1,v2,v3)) q (k:Int) t.1 t.2);unfold Ar6;cases k with
  | zero =>
   rw[dF (show ¬ ((0:Nat):Int)>0 by omega),cF]
   exact Aav h (by omega) fun y hy=>hI _ q y hy (by omega)
  | succ k =>
   obtain⟨t1,r1,e1,h1,a1,b1⟩:=A5 h (n:=9) (by omega)
   obtain⟨t2,r2,e2,h2,a2,b2⟩:=A5 h1 (n:=9) (by omega)
   obtain⟨t3,r3,e3,h3,a3,b3⟩:=A5 h2 (n:=3) (by omega)
   have hv:Ba (r1-4,r2-4)=true:=by
    rw[BS];simp only;omega
   have hml:=FX hv (c:=r3) (by omega)
   rw[dT (show ((k+1:Nat):Int)>0 by omega),cT,show AL KK (c,t.1,t.2) 9=some (t1,r1) from e1,oB]
   simp only;rw[e2,oB];simp only;rw[e3,oB];simp only;rw[As (n:=r1-4) (by omega) (by omega),As (n:=r2-4) (by omega) (by omega),HM hv a3 (by omega),oB,Aq,AN (by omega),cT,As (n:=((k+1:Nat):Int)-1) (by omega) (by omega)]
   have ek:((k+1:Nat):Int)-1=(k:Int):=by omega
   rw[ek];exact Aay hI n k _ t3 h3 (by omega) (by omega) (by rw[ABF,Aq];omega)
noncomputable def AtU (c:List Int) (p:Pt) (T:ByteArray) (t:Int×Int) (I13:(Int×Int)×Int→Bool→Pt→ByteArray→Int→Int→Int→DrT) (I50:(Int×Int)×Int→Bool→(Int×Int)×Int→ByteArray→Int→DrT):DrT :=
 (AL KK (c,t) (3:Int)).bind fun y5=>((bif (y5.2==(0:Int)) then V9 KK p else some false)).bind fun y6=>(bif (bif (y5.2==(0:Int)) then y6 else false) then (YX KK p).bind fun y7=>(Wc KK y7).bind fun y8=>(AL KK (c,y5.1) (4:Int)).bind fun y9=>I13 y5 y6 y7 y8 y9.2 y9.1.1 y9.1.2 else AeC c y5.1 T (I50 y5 y6))
theorem AeD {c:List Int} {p:Pt} {T:ByteArray} {t:Int×Int} (h:Src c t) (hT:T.size≤5000) {I13:(Int×Int)×Int→Bool→Pt→ByteArray→Int→Int→Int→DrT} {I50:(Int×Int)×Int→Bool→(Int×Int)×Int→ByteArray→Int→DrT}
  (h13:∀ y5 y6 (q:ByteArray) (k:Nat) (t':Int×Int),okP p=true→Src c t'→q.size≤100→k<4→okR (I13 y5 y6 (Ap p) q (k:Int) t'.1 t'.2)) (h50:∀ y5 y6 y,Src c y.1→okR (I50 y5 y6 y T 0)):okR (AtU c p T t I13 I50):=by
 obtain⟨t1,r1,e1,h1,a1,b1⟩:=A5 h (n:=3) (by omega)
 unfold AtU;rw[e1,oB];simp only;cases r1==0
 ·simp only[cF,oB];exact Aav h1 (by omega) fun y hy=>h50 _ _ y hy
 ·simp only[cT];rw[DG,oB];cases ho:okP p
  ·simp only[cF];exact Aav h1 (by omega) fun y hy=>h50 _ _ y hy
  ·have hp:=E7 ho;have hq:=Ig hp;have hhl:=FW p.1 hq.l;obtain⟨t2,r2,e2,h2,a2,b2⟩:=A5 h1 (n:=4) (by omega)
   obtain⟨k,rfl⟩:∃ k:Nat,r2=(k:Int):=⟨r2.toNat,by omega⟩
   simp only[cT];rw[Ot hp,oB,HL (p:=Ap p) (HH (p:=p) ho) hq.l,oB,e2,oB];exact h13 _ _ _ k t2 ho h2 (by rw[Aq];exact hhl) (by omega)
theorem Aaz {c:List Int} {t:Int×Int} (h:Src c t):okR (Ain KK (c,t)):=by
 obtain⟨t1,p,e1,h1,hp⟩:=AdL h;unfold Ain Aim;rw[e1,oB];simp only;rw[Agd,oB];have z1:=Agx p;have z2:=RR p;obtain⟨t3,r3,e3,h3⟩:∃ t3 r3,(bif !((CU p).2 != (0:Int)) then AL KK (c,t1) (3:Int) else some (t1,(0:Int)))=some (t3,r3)∧Src c t3:=by
  cases !((CU p).2 != (0:Int))
  ·exact⟨_,_,rfl,h1⟩
  ·obtain⟨t3,r3,e3,h3,_⟩:=A5 h1 (n:=3) (by omega)
   exact⟨t3,r3,e3,h3⟩
 rw[e3,oB];simp only;cases (bif ((CU p).2 != (0:Int)) then true else (r3==(0:Int)))
 ·rw[cF];refine AeD (p:=p) (T:=(CU p).1) (I13:=fun y5 y6 y7 q k a b=>To KK (c,t) (t1,p) (CU p) (t3,r3) y5 y6 y7 KK q k a b) (I50:=fun y5 y6 y q k=>Tp KK (c,t) (t1,p) (CU p) (t3,r3) y5 y6 y KK q k) h3 (by omega) ?_ ?_
  ·intro y5 y6 q k t' ho hs hq hk;have hpp:=E7 ho;have hlq:=Ig hpp;refine Aax (c:=c) (f:=(Ap p).1) (l:=(Ap p).2.1) (HH (p:=p) ho) hlq.l (J:=fun k2 q2 r2 a b=>Tn KK (c,t) k2 (t1,p) (CU p) (t3,r3) y5 y6 (Ap p) KK q2 r2 a b) ?_ KK k q t' hs (by omega) (by simp only[KK];omega) (by omega)
   intro k2 q2 r2 t2 hs2 hq2 a2 b2;obtain⟨k3,rfl⟩:∃ k3:Nat,r2=(k3:Int):=⟨r2.toNat,by omega⟩
   refine Aay (c:=c) (I:=fun k4 y q4 z=>Tm KK (c,t) k2 k4 (t1,p) (CU p) (t3,r3) y5 y6 (Ap p) y KK q4 z) ?_ KK k3 q2 t2 hs2 (by omega) (by simp only[KK];omega) (by omega)
   intro k4 q4 y4 hs4 hq4;exact KC hs4 KK 0 q4 (by omega) (by simp only[KK];omega) (by omega)
  ·intro y5 y6 y hy;exact KC hy KK 0 (CU p).1 (by omega) (by simp only[KK];omega) (by omega)
 ·rw[cT,RQ,oB];refine AeD (p:=p) (T:=(GX p).1) (I13:=fun y5 y6 y7 q k a b=>Tk KK (c,t) (t1,p) (CU p) (t3,r3) y5 y6 y7 KK q k a b) (I50:=fun y5 y6 y q k=>Tl KK (c,t) (t1,p) (CU p) (t3,r3) y5 y6 y KK q k) h3 (by omega) ?_ ?_
  ·intro y5 y6 q k t' ho hs hq hk;have hpp:=E7 ho;have hlq:=Ig hpp;refine Aax (c:=c) (f:=(Ap p).1) (l:=(Ap p).2.1) (HH (p:=p) ho) hlq.l (J:=fun k2 q2 r2 a b=>Tj KK (c,t) k2 (t1,p) (CU p) (t3,r3) y5 y6 (Ap p) KK q2 r2 a b) ?_ KK k q t' hs (by omega) (by simp only[KK];omega) (by omega)
   intro k2 q2 r2 t2 hs2 hq2 a2 b2;obtain⟨k3,rfl⟩:∃ k3:Nat,r2=(k3:Int):=⟨r2.toNat,by omega⟩
   refine Aay (c:=c) (I:=fun k4 y q4 z=>Ti KK (c,t) k2 k4 (t1,p) (CU p) (t3,r3) y5 y6 (Ap p) y KK q4 z) ?_ KK k3 q2 t2 hs2 (by omega) (by simp only[KK];omega) (by omega)
   intro k4 q4 y4 hs4 hq4;exact KC hs4 KK 0 q4 (by omega) (by simp only[KK];omega) (by omega)
  ·intro y5 y6 y hy;exact KC hy KK 0 (GX p).1 (by omega) (by simp only[KK];omega) (by omega)
end Go.Proofs.YtkemdhpdfaejgaaGreatDoor.X
