/- Plain facts: marks on cells, and marks that are in conflict. -/
import Derived.Test.YtkemdhpdfaejgaaGreatDoorQtPOrbitNumbers
namespace Go.Proofs.YtkemdhpdfaejgaaGreatDoor.X
open Go
set_option linter.unusedSimpArgs false
set_option linter.unusedVariables false
abbrev Ma:=Vc×Int
def Rt (x:Ma):Bool:=Ba x.1&&okC x.2
def DK (ms:List Ma):Bool:=ms.all Rt&&decide (ms.length≤40)
theorem Kl {s:List Ma} (hs:s.length≤1000) (φ:Ma→Option Bool) (p:Ma→Bool) (hp:∀ v∈s,φ v=some (p v)):AcV KK s φ=some (s.any p):=by
 have h:=EC (R:=Int) (body:=fun L x=>MU KK s φ (fun v0=>L v0) x) s p some
  (fun L q hq=>by
   unfold MU;rw[in1 hq,in0,gd hq];simp only[aS,cT];rw[show φ (s[q].1,s[q].2)=some (p s[q]) from hp _ (gM hq),oB,Af (by omega)])
  (fun L=>by
   unfold MU;rw[AO,cF]) KK 0 (by omega) (by have:=Fp (n:=s.length) (by omega);omega)
 unfold AcV AcS Zj TB;have h2:=congrArg (fun x=>x.bind fun y1=>some (decide (y1≥(0:Int)))) h;refine Eq.trans h2 ?_;simp only[oB];rw[ABb,FQ]
theorem ZS (x:Ma):WD KK x=some (!Rt x):=by
 unfold WD Rt;rw[HA,oB];cases Ba x.1
 ·rfl
 ·simp only[nT,nF,cT,cF,ABJ,oT,tO];unfold AiR;rw[DE];rfl
theorem Xh (ms:List Ma):AcW KK ms=some (DK ms):=by
 unfold AcW DK;have e:decide ((ms.length:Int)≤40)=decide (ms.length≤40):=by rw[decide_eq_decide];omega
 rw[e];by_cases h:ms.length≤40
 ·rw[dT h];simp only[oT,tO,cT,AC4];rw[Kl (by omega) (fun z1=>WD KK z1) (fun x=>!Rt x) (fun x _=>ZS x),oB]
  congr 1;rw[← List.not_all_eq_any_not,Bool.not_not]
 ·rw[dF h];simp
theorem Uh (f:Int) (l:Lt) {g:List Mo} (hn:g.length≤1048576) (ms:List Ma):Aow KK f l g ms=some (BN f l g (DK ms)):=by
 unfold Aow;rw[Xs f l hn,oB,AkL f l g (DK ms)];cases h:BN f l g true != 0
 ·rw[cF,cF,Xh,oB];cases DK ms<;>rfl
 ·rfl
theorem Akp {ms:List Ma} (h:DK ms=true):(∀ x∈ms,Ba x.1=true)∧ms.length≤40:=by
 unfold DK at h;rw[aT,dE] at h;refine⟨fun x hx=>?_,h.2⟩;have:=AA3.1 h.1 x hx;unfold Rt at this;rw[aT] at this;exact this.1
theorem Fq {l:Lt} (hl:IsL l) {v:Vc} (hv:Sm v):N6 KK l v=some ((A8 l v:Nat):Int):=by
 unfold N6;rw[Di hl hv,oB,(EB hl v).1]
def nmS (l:Lt) (ns:List Int) (x:Ma):Int:=ns.getD (A8 l x.1) 0
def cfB (l:Lt) (ns:List Int) (y x:Ma):Bool:=(nmS l ns x==nmS l ns y)&&(x.2 != y.2)
def cfO (l:Lt) (ns:List Int) (ms:List Ma):Nat→List Ma→Int×Int×Bool
 | _,[]=>(0,0,false)
 | j,y :: r=>bif (ms.take j).any (cfB l ns y) then (C1 (cfB l ns y) 0 (ms.take j),(j:Int),true) else cfO l ns ms (j+1) r
theorem OL {v:Vc} (h:Ba v=true):Sm v:=Om (Ub h)
theorem Xi {ms:List Ma} {j q:Nat} (hq:q<(ms.take j).length):q<j∧∃ h:q<ms.length,(ms.take j)[q]=ms[q]:=by
 rw[ABv] at hq;exact⟨by omega,by omega,by rw[ADD]⟩
theorem Akq {ns:List Int} {k:Nat}:ns.getD ((0:Int)+(k:Int)).toNat (0:Int)=ns.getD k 0:=by
 have e:((0:Int)+(k:Int)).toNat=k:=by omega
 rw[e]
theorem Akr {l:Lt} (hl:IsL l) {ns:List Int} (hns:ns.length=(Aa l).length) {ms:List Ma} (hm:∀ x∈ms,Ba x.1=true) (hn:ms.length≤1000) {j:Nat} (hj:j<ms.length) {L:Int→Option (Int×Int×Bool)} :
  M5 KK l ns ms (j:Int) L KK 0=bif (ms.take j).any (cfB l ns ms[j]) then some (C1 (cfB l ns ms[j]) 0 (ms.take j),(j:Int),true) else L ((j+1:Nat):Int):=by
 have hlen:(ms.take j).length=j:=by rw[ABv];omega
 have h:=EC (R:=Int×Int×Bool) (body:=fun L' x=>M4 KK l ns ms (j:Int) L (fun v0=>L' v0) x) (ms.take j) (cfB l ns ms[j]) (fun i=>bif decide (i≥0) then some (i,(j:Int),true) else L ((j+1:Nat):Int))
  (fun L' q hq=>by
   obtain⟨hqj,hqm,e⟩:=Xi hq;unfold M4;have n1:A8 l ms[q].1<ns.length:=by rw[hns];exact Ck hl _
   have n2:A8 l ms[j].1<ns.length:=by rw[hns];exact Ck hl _
   rw[in1 hqj,in0,in1 hqm,gd hqm,in0,in1 hj,gd hj,Fq hl (OL (hm _ (gM hqm))),Fq hl (OL (hm _ (gM hj)))];simp only[aS,cT,oB,oT,tO];rw[in0,in1 n1,in0,in1 n2,Akq,Akq,Af (by omega)]
   simp only[aS,cT,oT,tO];rw[e];unfold cfB nmS;cases ns.getD (A8 l ms[q].1) 0==ns.getD (A8 l ms[j].1) 0<;>rfl)
  (fun L'=>by
   unfold M4;rw[hlen,AO,cF,Af (by omega)]
   rfl) KK 0 (by omega) (by simp only[KK];omega)
 rw[ABb,FQ] at h;exact h
theorem OM {l:Lt} (hl:IsL l) {ns:List Int} (hns:ns.length=(Aa l).length) {ms:List Ma} (hm:∀ x∈ms,Ba x.1=true) (hn:ms.length≤1000):∀ (n j:Nat),j≤ms.length→ms.length-j<n→Oi KK l ns ms n (j:Int)=some (cfO l ns ms j (ms.drop j))
 | 0,j,_,h=>by omega
 | n+1,j,hj,h=>by
  show TO KK l ns ms (fun c0 d0=>M5 KK l ns ms c0 (fun v0=>Oi KK l ns ms n v0) KK d0) (fun v0=>Oi KK l ns ms n v0) (j:Int)=_;unfold TO;by_cases hlt:j<ms.length
  ·rw[in1 hlt,cT,dC hlt];refine (Akr hl hns hm hn hlt).trans ?_;simp only[cfO];cases (ms.take j).any (cfB l ns ms[j])
   ·rw[cF,cF];exact OM hl hns hm hn n (j+1) (by omega) (by omega)
   ·rfl
  ·have e:j=ms.length:=by omega
   subst e;rw[AO,cF,ABZ];rfl
theorem ON {l:Lt} (hl:IsL l) {ns:List Int} (hns:ns.length=(Aa l).length) {ms:List Ma} (hm:∀ x∈ms,Ba x.1=true) (hn:ms.length≤1000):Afs KK l ns ms=some (cfO l ns ms 0 ms):=by
 unfold Afs Ajg;exact OM hl hns hm hn KK 0 (by omega) (by simp only[KK];omega)
theorem OO {l:Lt} (hl:IsL l) {ns:List Int} (hns:ns.length=(Aa l).length) {x:Ma} (hx:Ba x.1=true):Oe KK x ns l=some (nmS l ns x):=by
 unfold Oe nmS;have n1:A8 l (AX l x.1)<ns.length:=by rw[hns];exact Ck hl _
 have e:A8 l (AX l x.1)=A8 l x.1:=by unfold A8;rw[Gz hl]
 rw[DD hl (OL hx),oB,FS hl (AM hl _),oB,in0,in1 n1,Akq,e];rfl
theorem Aks {l:Lt} (hl:IsL l) {g:List Mo} {o:List (List Vc)} {ns:List Int} (hns:ns.length=(Aa l).length) {ms:List Ma} (hm:∀ x∈ms,Ba x.1=true) (hn:ms.length≤1000) {j:Nat} (hj:j<ms.length) {L:Int→Option (Int×Int×Bool)} :
  MZ KK l g ms (j:Int) (o,ns) L KK 0=bif (ms.take j).any (cfB l ns ms[j]) then some (C1 (cfB l ns ms[j]) 0 (ms.take j),(j:Int),true) else L ((j+1:Nat):Int):=by
 have hlen:(ms.take j).length=j:=by rw[ABv];omega
 have ej:((0:Int)+(j:Int))-0=(j:Int):=by omega
 have h:=EC (R:=Int×Int×Bool) (body:=fun L' x=>MY KK l g ms (j:Int) (o,ns) L (fun v0=>L' v0) x) (ms.take j) (cfB l ns ms[j]) (fun i=>bif decide (i≥0) then some (i,(j:Int),true) else L ((j+1:Nat):Int))
  (fun L' q hq=>by
   obtain⟨hqj,hqm,e⟩:=Xi hq;unfold MY;rw[ej,in1 hqj,in0,gd hqm,gd hj,e];simp only[aS,cT,oT,tO];have h1:Oe KK (ms[q].1,ms[q].2) ns l=some (nmS l ns ms[q]):=OO hl hns (hm _ (gM hqm));have h2:Oe KK (ms[j].1,ms[j].2) ns l=some (nmS l ns ms[j]):=OO hl hns (hm _ (gM hj));rw[h1,h2,Af (by omega)]
   unfold cfB;cases ms[q].2 != ms[j].2
   ·rw[ADW];rfl
   ·rw[AC4];simp only[cT,oB])
  (fun L'=>by
   unfold MY;rw[hlen,ej,AO,cF,Af (by omega)]
   rfl) KK 0 (by omega) (by simp only[KK];omega)
 rw[ABb,FQ] at h;exact h
theorem OP {l:Lt} (hl:IsL l) {g:List Mo} {o:List (List Vc)} {ns:List Int} (hns:ns.length=(Aa l).length) {ms:List Ma} (hm:∀ x∈ms,Ba x.1=true) (hn:ms.length≤1000):∀ (n j:Nat),j≤ms.length→ms.length-j<n→J3 KK l g ms (o,ns) n (j:Int)=some (cfO l ns ms j (ms.drop j))
 | 0,j,_,h=>by omega
 | n+1,j,hj,h=>by
  show M0 KK l g ms (o,ns) (fun c0 d0=>MZ KK l g ms c0 (o,ns) (fun v0=>J3 KK l g ms (o,ns) n v0) KK d0) (fun v0=>J3 KK l g ms (o,ns) n v0) (j:Int)=_;unfold M0;by_cases hlt:j<ms.length
  ·have e0:(decide (0≤(0:Int))&&decide ((0:Int)≤(j:Int))&&decide ((j:Int)≤(ms.length:Int)))=true:=by simp;omega
   rw[in1 hlt,e0,in0,dC hlt];simp only[aS,cT];refine (Aks hl hns hm hn hlt).trans ?_;simp only[cfO];cases (ms.take j).any (cfB l ns ms[j])
   ·rw[cF,cF];exact OP hl hns hm hn n (j+1) (by omega) (by omega)
   ·rfl
  ·have e:j=ms.length:=by omega
   subst e;rw[AO,cF,ABZ];rfl
theorem DL (l:Lt) (g:List Mo):(AP l g).length=(Aa l).length:=by simp[AP]
theorem Ql {f:Int} {l:Lt} {g:List Mo} (h:Bj f l g) {ms:List Ma} (hm:∀ x∈ms,Ba x.1=true) (hn:ms.length≤1000):Ai4 KK l g ms=some (cfO l (AP l g) ms 0 ms):=by
 unfold Ai4 Ai3;rw[Xg h,oB];exact OP h.la (DL l g) hm hn KK 0 (by omega) (by simp only[KK];omega)
def ixS (l:Lt) (g:List Mo) (u:Vc):Int:=C1 (fun o=>o.contains u) 0 (AE l g)
theorem Lg {l:Lt} (hl:IsL l) (g:List Mo) {u:Vc} (hu:Ah l u=true):(AP l g)[A8 l u]? = some (ixS l g u):=by
 unfold AP;rw[ABn,Ug hl hu];rfl
theorem Akt {f:Int} {l:Lt} {g:List Mo} (h:Bj f l g) {u:Vc} (hu:Ah l u=true):∃ k:Nat,∃ hk:k<(AE l g).length,ixS l g u=(k:Int)∧u∈(AE l g)[k]:=by
 rcases FO (fun o:List Vc=>o.contains u) (AE l g) 0 with ⟨_,h2⟩ | ⟨k,h1,h2,_,o,h4,h5⟩
 ·have:=OY h hu;obtain⟨o,ho,hc⟩:=AB1.1 this;rw[h2 o ho] at hc;cases hc
 ·refine⟨k,h1,by unfold ixS;rw[h2,ABw],?_⟩
  rw[AA7 h1,ABr] at h4;rw[h4];exact AA6.1 h5
theorem OQ {α:Type} {p p':α→Bool}:∀ (l:List α) (q:Nat),(∀ a∈l,p a=p' a)→C1 p q l=C1 p' q l
 | [],_,_=>rfl
 | a :: l,q,h=>by
  simp only[C1];rw[h a (by simp),OQ l (q+1) fun b hb=>h b (by simp[hb])]
theorem Km {f:Int} {l:Lt} {g:List Mo} (h:Bj f l g) {u v:Vc} (hu:Ah l u=true) (hv:Ah l v=true):(ixS l g v==ixS l g u)=(Bc l g v).contains u:=by
 rw[ABR,beq_iff_eq,cM];constructor
 ·intro e;obtain⟨i,hi,e1,m1⟩:=Akt h hv;obtain⟨j,hj,e2,m2⟩:=Akt h hu;have:i=j:=by omega
  subst this;obtain⟨r,hr,er⟩:=ABe.1 (gM hi);have hrc:Ah l r=true:=Ay (ABs.1 hr).1;rw[← er] at m1 m2;exact Db h (EH h hrc m1) m2
 ·intro hm;unfold ixS;refine OQ _ 0 fun o ho=>?_;obtain⟨r,hr,rfl⟩:=ABe.1 ho;have hrc:Ah l r=true:=Ay (ABs.1 hr).1;rw[ABR,cM,cM];exact⟨fun hx=>Db h hx hm,fun hx=>Db h hx (EH h hv hm)⟩
theorem Aku {l:Lt} (hl:IsL l) (g:List Mo) (x:Ma):nmS l (AP l g) x=ixS l g (AX l x.1):=by
 unfold nmS;have e:A8 l x.1=A8 l (AX l x.1):=by unfold A8;rw[Gz hl]
 rw[e,ABz,Lg hl g (AM hl _)];rfl
end Go.Proofs.YtkemdhpdfaejgaaGreatDoor.X
