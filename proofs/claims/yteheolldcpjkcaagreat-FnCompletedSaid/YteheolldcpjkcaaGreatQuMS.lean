/- Plain facts: marks on cells, and marks that are in conflict. -/
import Derived.Test.YteheolldcpjkcaaGreatQuPOrbitNumbers
namespace Go.Proofs.YteheolldcpjkcaaGreat.X
open Go
set_option linter.unusedSimpArgs false
set_option linter.unusedVariables false
abbrev Ma:=Vc×Int
def IU (x:Ma):Bool:=Cr x.1&&okC x.2
def AA (ms:List Ma):Bool:=ms.all IU&&decide (ms.length≤40)
theorem DF {ms:List Ma} (h:ms.length≤1048576):Vl KK ms=some (AA ms):=by
 have hh:=BA (R:=Bool) (body:=fun L x=>Qs KK ms (fun v0=>L v0) x) ms (fun q=>(q:Int)) IU (some false) (some (decide ((ms.length:Int)≤40)))
  (fun L q hq=>by
   unfold Qs;rw[in1 hq,in0,gd hq];simp only[aS,cT,oT,tO];rw[Fh,oB,Ak (by omega)]
   unfold IU;cases Cr ms[q].1
   ·rfl
   ·simp only[nT,nF,cT,cF,AqK];rw[Tz,oB];unfold okC;cases decide (0≤ms[q].2∧ms[q].2≤9)<;>rfl)
  (fun L=>by
   unfold Qs;rw[AS,cF]) KK 0 (by omega) (by simp only[KK];omega)
 unfold Vl AcT Vk;refine hh.trans ?_;rw[Aqq];unfold AA;have e:decide ((ms.length:Int)≤40)=decide (ms.length≤40):=by rw[decide_eq_decide];omega
 rw[e];cases ms.all IU<;>rfl
theorem C4 {s:List Ma} (hs:s.length≤1000) (φ:Ma→Option Bool) (p:Ma→Bool) (hp:∀ v∈s,φ v=some (p v)):Z8 KK s φ=some (s.any p):=by
 have h:=Dn (R:=Int) (body:=fun L x=>K1 KK s φ (fun v0=>L v0) x) s p some
  (fun L q hq=>by
   unfold K1;rw[in1 hq,in0,gd hq];simp only[aS,cT];rw[show φ (s[q].1,s[q].2)=some (p s[q]) from hp _ (gM hq),oB,Ak (by omega)])
  (fun L=>by
   unfold K1;rw[AS,cF]) KK 0 (by omega) (by have:=FO (n:=s.length) (by omega);omega)
 unfold Z8 XV Ve Qj;have h2:=congrArg (fun x=>x.bind fun y1=>some (decide (y1≥(0:Int)))) h;refine Eq.trans h2 ?_;simp only[oB];rw[Aqq,D7]
theorem VH (x:Ma):S6 KK x=some (!IU x):=by
 unfold S6 IU;rw[TC,oB];cases Cr x.1
 ·rfl
 ·simp only[nT,nF,cT,cF,AqK,oT,tO];unfold Acy;rw[DU];rfl
theorem GF (ms:List Ma):Z9 KK ms=some (AA ms):=by
 unfold Z9 AA;have e:decide ((ms.length:Int)≤40)=decide (ms.length≤40):=by rw[decide_eq_decide];omega
 rw[e];by_cases h:ms.length≤40
 ·rw[dT h];simp only[oT,tO,cT,Bool.and_true];rw[C4 (by omega) (fun z1=>S6 KK z1) (fun x=>!IU x) (fun x _=>VH x),oB]
  congr 1;rw[← List.not_all_eq_any_not,Bool.not_not]
 ·rw[dF h];simp
theorem HZ (f:Int) (l:Lt) {g:List Mo} (hn:g.length≤1048576) {ms:List Ma} (hm:ms.length≤1048576):Aaj KK f l g ms=some (AB f l g (AA ms)):=by
 unfold Aaj;rw[DF hm,oB,TL f l hn,oB]
theorem Fl (f:Int) (l:Lt) {g:List Mo} (hn:g.length≤1048576) (ms:List Ma):Aaa KK f l g ms=some (AB f l g (AA ms)):=by
 unfold Aaa;rw[TV f l hn,oB,Aek f l g (AA ms)];cases h:AB f l g true != 0
 ·rw[cF,cF,GF,oB];cases AA ms<;>rfl
 ·rfl
theorem Dq {ms:List Ma} (h:AA ms=true):(∀ x∈ms,Cr x.1=true)∧ms.length≤40:=by
 unfold AA at h;rw[aT,dE] at h;refine⟨fun x hx=>?_,h.2⟩;have:=Aqn.1 h.1 x hx;unfold IU at this;rw[aT] at this;exact this.1
theorem Ez {l:Lt} (hl:IsL l) {v:Vc} (hv:Sm v):KC KK l v=some ((AY l v:Nat):Int):=by
 unfold KC;rw[CE hl hv,oB,(EN hl v).1]
def nmS (l:Lt) (ns:List Int) (x:Ma):Int:=ns.getD (AY l x.1) 0
def cfB (l:Lt) (ns:List Int) (y x:Ma):Bool:=(nmS l ns x==nmS l ns y)&&(x.2 != y.2)
def cfO (l:Lt) (ns:List Int) (ms:List Ma):Nat→List Ma→Int×Int×Bool
 | _,[]=>(0,0,false)
 | j,y :: r=>bif (ms.take j).any (cfB l ns y) then (CK (cfB l ns y) 0 (ms.take j),(j:Int),true) else cfO l ns ms (j+1) r
theorem EA {v:Vc} (h:Cr v=true):Sm v:=Adp (Ahu h)
theorem ML {ms:List Ma} {j q:Nat} (hq:q<(ms.take j).length):q<j∧∃ h:q<ms.length,(ms.take j)[q]=ms[q]:=by
 rw[AqT] at hq;exact⟨by omega,by omega,by rw[Asa]⟩
theorem AhA {ns:List Int} {k:Nat}:ns.getD ((0:Int)+(k:Int)).toNat (0:Int)=ns.getD k 0:=by
 have e:((0:Int)+(k:Int)).toNat=k:=by omega
 rw[e]
theorem AdY {l:Lt} (hl:IsL l) {ns:List Int} (hns:ns.length=(Ab l).length) {ms:List Ma} (hm:∀ x∈ms,Cr x.1=true) (hn:ms.length≤1000) {j:Nat} (hj:j<ms.length) {L:Int→Option (Int×Int×Bool)} :
  Iy KK l ns ms (j:Int) L KK 0=bif (ms.take j).any (cfB l ns ms[j]) then some (CK (cfB l ns ms[j]) 0 (ms.take j),(j:Int),true) else L ((j+1:Nat):Int):=by
 have hlen:(ms.take j).length=j:=by rw[AqT];omega
 have h:=Dn (R:=Int×Int×Bool) (body:=fun L' x=>Ix KK l ns ms (j:Int) L (fun v0=>L' v0) x) (ms.take j) (cfB l ns ms[j]) (fun i=>bif decide (i≥0) then some (i,(j:Int),true) else L ((j+1:Nat):Int))
  (fun L' q hq=>by
   obtain⟨hqj,hqm,e⟩:=ML hq;unfold Ix;have n1:AY l ms[q].1<ns.length:=by rw[hns];exact BX hl _
   have n2:AY l ms[j].1<ns.length:=by rw[hns];exact BX hl _
   rw[in1 hqj,in0,in1 hqm,gd hqm,in0,in1 hj,gd hj,Ez hl (EA (hm _ (gM hqm))),Ez hl (EA (hm _ (gM hj)))];simp only[aS,cT,oB,oT,tO];rw[in0,in1 n1,in0,in1 n2,AhA,AhA,Ak (by omega)]
   simp only[aS,cT,oT,tO];rw[e];unfold cfB nmS;cases ns.getD (AY l ms[q].1) 0==ns.getD (AY l ms[j].1) 0<;>rfl)
  (fun L'=>by
   unfold Ix;rw[hlen,AS,cF,Ak (by omega)]
   rfl) KK 0 (by omega) (by simp only[KK];omega)
 rw[Aqq,D7] at h;exact h
theorem MM {l:Lt} (hl:IsL l) {ns:List Int} (hns:ns.length=(Ab l).length) {ms:List Ma} (hm:∀ x∈ms,Cr x.1=true) (hn:ms.length≤1000):∀ (n j:Nat),j≤ms.length→ms.length-j<n→Iz KK l ns ms n (j:Int)=some (cfO l ns ms j (ms.drop j))
 | 0,j,_,h=>by omega
 | n+1,j,hj,h=>by
  show K9 KK l ns ms (fun c0 d0=>Iy KK l ns ms c0 (fun v0=>Iz KK l ns ms n v0) KK d0) (fun v0=>Iz KK l ns ms n v0) (j:Int)=_;unfold K9;by_cases hlt:j<ms.length
  ·rw[in1 hlt,cT,dC hlt];refine (AdY hl hns hm hn hlt).trans ?_;simp only[cfO];cases (ms.take j).any (cfB l ns ms[j])
   ·rw[cF,cF];exact MM hl hns hm hn n (j+1) (by omega) (by omega)
   ·rfl
  ·have e:j=ms.length:=by omega
   subst e;rw[AS,cF,Ash];rfl
theorem GG {l:Lt} (hl:IsL l) {ns:List Int} (hns:ns.length=(Ab l).length) {ms:List Ma} (hm:∀ x∈ms,Cr x.1=true) (hn:ms.length≤1000):Mk KK l ns ms=some (cfO l ns ms 0 ms):=by
 unfold Mk Vm;exact MM hl hns hm hn KK 0 (by omega) (by simp only[KK];omega)
theorem MN {l:Lt} (hl:IsL l) {ns:List Int} (hns:ns.length=(Ab l).length) {x:Ma} (hx:Cr x.1=true):Mj KK x ns l=some (nmS l ns x):=by
 unfold Mj nmS;have n1:AY l (AZ l x.1)<ns.length:=by rw[hns];exact BX hl _
 have e:AY l (AZ l x.1)=AY l x.1:=by unfold AY;rw[Hf hl]
 rw[CU hl (EA hx),oB,ET hl (A5 hl _),oB,in0,in1 n1,AhA,e];rfl
theorem AdZ {l:Lt} (hl:IsL l) {g:List Mo} {o:List (List Vc)} {ns:List Int} (hns:ns.length=(Ab l).length) {ms:List Ma} (hm:∀ x∈ms,Cr x.1=true) (hn:ms.length≤1000) {j:Nat} (hj:j<ms.length) {L:Int→Option (Int×Int×Bool)} :
  K6 KK l g ms (j:Int) (o,ns) L KK 0=bif (ms.take j).any (cfB l ns ms[j]) then some (CK (cfB l ns ms[j]) 0 (ms.take j),(j:Int),true) else L ((j+1:Nat):Int):=by
 have hlen:(ms.take j).length=j:=by rw[AqT];omega
 have ej:((0:Int)+(j:Int))-0=(j:Int):=by omega
 have h:=Dn (R:=Int×Int×Bool) (body:=fun L' x=>K5 KK l g ms (j:Int) (o,ns) L (fun v0=>L' v0) x) (ms.take j) (cfB l ns ms[j]) (fun i=>bif decide (i≥0) then some (i,(j:Int),true) else L ((j+1:Nat):Int))
  (fun L' q hq=>by
   obtain⟨hqj,hqm,e⟩:=ML hq;unfold K5;rw[ej,in1 hqj,in0,gd hqm,gd hj,e];simp only[aS,cT,oT,tO];have h1:Mj KK (ms[q].1,ms[q].2) ns l=some (nmS l ns ms[q]):=MN hl hns (hm _ (gM hqm));have h2:Mj KK (ms[j].1,ms[j].2) ns l=some (nmS l ns ms[j]):=MN hl hns (hm _ (gM hj));rw[h1,h2,Ak (by omega)]
   unfold cfB;cases ms[q].2 != ms[j].2
   ·rw[Bool.and_false];rfl
   ·rw[Bool.and_true];simp only[cT,oB])
  (fun L'=>by
   unfold K5;rw[hlen,ej,AS,cF,Ak (by omega)]
   rfl) KK 0 (by omega) (by simp only[KK];omega)
 rw[Aqq,D7] at h;exact h
theorem MO {l:Lt} (hl:IsL l) {g:List Mo} {o:List (List Vc)} {ns:List Int} (hns:ns.length=(Ab l).length) {ms:List Ma} (hm:∀ x∈ms,Cr x.1=true) (hn:ms.length≤1000):∀ (n j:Nat),j≤ms.length→ms.length-j<n→Iu KK l g ms (o,ns) n (j:Int)=some (cfO l ns ms j (ms.drop j))
 | 0,j,_,h=>by omega
 | n+1,j,hj,h=>by
  show K7 KK l g ms (o,ns) (fun c0 d0=>K6 KK l g ms c0 (o,ns) (fun v0=>Iu KK l g ms (o,ns) n v0) KK d0) (fun v0=>Iu KK l g ms (o,ns) n v0) (j:Int)=_;unfold K7;by_cases hlt:j<ms.length
  ·have e0:(decide (0≤(0:Int))&&decide ((0:Int)≤(j:Int))&&decide ((j:Int)≤(ms.length:Int)))=true:=by simp;omega
   rw[in1 hlt,e0,in0,dC hlt];simp only[aS,cT];refine (AdZ hl hns hm hn hlt).trans ?_;simp only[cfO];cases (ms.take j).any (cfB l ns ms[j])
   ·rw[cF,cF];exact MO hl hns hm hn n (j+1) (by omega) (by omega)
   ·rfl
  ·have e:j=ms.length:=by omega
   subst e;rw[AS,cF,Ash];rfl
theorem Ca (l:Lt) (g:List Mo):(Ax l g).length=(Ab l).length:=by simp[Ax]
theorem HJ {f:Int} {l:Lt} {g:List Mo} (h:Bv f l g) {ms:List Ma} (hm:∀ x∈ms,Cr x.1=true) (hn:ms.length≤1000):Aaf KK l g ms=some (cfO l (Ax l g) ms 0 ms):=by
 unfold Aaf AcL;rw[Kp h,oB];exact MO h.la (Ca l g) hm hn KK 0 (by omega) (by simp only[KK];omega)
def ixS (l:Lt) (g:List Mo) (u:Vc):Int:=CK (fun o=>o.contains u) 0 (Ao l g)
theorem JL {l:Lt} (hl:IsL l) (g:List Mo) {u:Vc} (hu:Al l u=true):(Ax l g)[AY l u]? = some (ixS l g u):=by
 unfold Ax;rw[Aqt,Q1 hl hu];rfl
theorem Ad0 {f:Int} {l:Lt} {g:List Mo} (h:Bv f l g) {u:Vc} (hu:Al l u=true):∃ k:Nat,∃ hk:k<(Ao l g).length,ixS l g u=(k:Int)∧u∈(Ao l g)[k]:=by
 rcases Dd (fun o:List Vc=>o.contains u) (Ao l g) 0 with ⟨_,h2⟩ | ⟨k,h1,h2,_,o,h4,h5⟩
 ·have:=MY h hu;obtain⟨o,ho,hc⟩:=Arb.1 this;rw[h2 o ho] at hc;cases hc
 ·refine⟨k,h1,by unfold ixS;rw[h2,AqQ],?_⟩
  rw[Aqo h1,AqV] at h4;rw[h4];exact Aqx.1 h5
theorem MP {α:Type} {p p':α→Bool}:∀ (l:List α) (q:Nat),(∀ a∈l,p a=p' a)→CK p q l=CK p' q l
 | [],_,_=>rfl
 | a :: l,q,h=>by
  simp only[CK];rw[h a (by simp),MP l (q+1) fun b hb=>h b (by simp[hb])]
theorem Q2 {f:Int} {l:Lt} {g:List Mo} (h:Bv f l g) {u v:Vc} (hu:Al l u=true) (hv:Al l v=true):(ixS l g v==ixS l g u)=(A6 l g v).contains u:=by
 rw[Arz,beq_iff_eq,cM];constructor
 ·intro e;obtain⟨i,hi,e1,m1⟩:=Ad0 h hv;obtain⟨j,hj,e2,m2⟩:=Ad0 h hu;have:i=j:=by omega
  subst this;obtain⟨r,hr,er⟩:=AqG.1 (gM hi);have hrc:Al l r=true:=AN (AqR.1 hr).1;rw[← er] at m1 m2;exact CX h (D9 h hrc m1) m2
 ·intro hm;unfold ixS;refine MP _ 0 fun o ho=>?_;obtain⟨r,hr,rfl⟩:=AqG.1 ho;have hrc:Al l r=true:=AN (AqR.1 hr).1;rw[Arz,cM,cM];exact⟨fun hx=>CX h hx hm,fun hx=>CX h hx (D9 h hv hm)⟩
theorem Ad1 {l:Lt} (hl:IsL l) (g:List Mo) (x:Ma):nmS l (Ax l g) x=ixS l g (AZ l x.1):=by
 unfold nmS;have e:AY l x.1=AY l (AZ l x.1):=by unfold AY;rw[Hf hl]
 rw[e,AqJ,JL hl g (A5 hl _)];rfl
end Go.Proofs.YteheolldcpjkcaaGreat.X
