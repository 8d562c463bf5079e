/- Plain facts: marks on cells, and marks that are in conflict. -/
import Derived.Test.YteheolldcpjkcaaGreatQtPOrbitNumbers
namespace Go.Proofs.YteheolldcpjkcaaGreat.X
open Go
set_option linter.unusedSimpArgs false
set_option linter.unusedVariables false
abbrev Ma:=Vc×Int
theorem Vd (m:Ma):ZI KK m=some m:=by
 unfold ZI V5;rfl
theorem Rs {l:List Ma} (hl:l.length≤1048576):Oy KK l=some l:=by
 unfold Oy V8;have h0:(decide (0≤(l.length:Int))&&Nat.ble (l.length:Int).toNat (lim 24)&&((l.length:Int)==(l.length:Int)))=true:=by
  rw[show (l.length:Int).toNat=l.length by omega,AdP hl (by omega) (by omega)];simp
 rw[h0,cT];have h:=Hx (body:=fun L x=>ML KK l (fun v0 v1=>L (v0,v1)) x.1 x.2) l
  (fun L q s hq hs=>by
   unfold ML;simp only;have hz:((0:Int)+(q:Int)).toNat=q:=by omega
   rw[in1 hq,in1 (show q<s.length by omega),in0,gd hq,As (by omega),hz]
   simp only[aS,cT];rw[Vd,oB])
  (fun L s=>by
   unfold ML;simp only;rw[AX,cF]) KK 0 (List.replicate (l.length:Int).toNat (((0,0),0):Ma)) (by omega) (by simp only[KK];omega) (by simp) (by simp)
 unfold QG;exact h
theorem Ve (m:Ma):Aao KK m m=some true:=by
 unfold Aao;rw[Pw,oB];simp
theorem Rt {l:List Ma} (hl:l.length≤1048576):Xi KK l l=some true:=by
 unfold Xi Xh Q6;rw[show ((l.length:Int) != (l.length:Int))=false by simp,cF]
 have h:=B0 (X:=Int) (body:=fun L x=>Nd KK l l (fun v0=>L v0) x) l (fun q=>(q:Int)) (fun _=>true) (some false) (some true)
  (fun L q hq=>by
   unfold Nd;rw[in1 hq,in0,gd hq,As (by omega),Ve]
   simp)
  (fun L=>by
   unfold Nd;rw[AX,cF]) KK 0 (by omega) (by simp only[KK];omega)
 refine h.trans ?_;rw[AiR,show (l.all fun _=>true)=true from AiL.mpr (by simp)]
 rfl
theorem KP (l:List Ma) {k:Int} (hk:0≤k) (hk2:k≤1000000000) (hl:l.length≤1048576):∃ r:List Ma×Int,(r.2=k+3*(l.length:Int)∧r.1.length=l.length)∧Xo KK l k=some r:=by
 unfold Xo Xn Q8;refine GT (X:=Int×Int×List Ma) (R:=List Ma×Int) l.length (fun q x=>x.1=k+3*(q:Int)∧x.2.1=(q:Int)∧x.2.2.length=l.length) _ ?_ ?_ KK 0 (k,0,l) (by omega) (by simp only[KK];omega) ⟨by simp,by simp,rfl⟩
 ·rintro L q ⟨x1,x2,s⟩ hq ⟨e1,e2,e3⟩
  simp only at e1 e2 e3;subst e2;have hq2:q<s.length:=by omega
  suffices h:∃ y:List Ma,y.length=s.length∧Jx KK (fun v0 v1 v2=>L (v0,v1,v2)) x1 (q:Int) s=L (x1+3,((q+1:Nat):Int),y) by
   obtain⟨y,hy,e⟩:=h;exact⟨(x1+3,((q+1:Nat):Int),y),⟨by simp only;omega,rfl,by simp only;omega⟩,e⟩
  unfold Jx;rw[in1 hq2,in0,As (by omega),Az (n:=x1+1) (by omega) (by omega),Az (n:=x1+1+1) (by omega) (by omega),Az (n:=x1+1+1+1) (by omega) (by omega)]
  simp (config:={ zeta:=false }) only[Ajd,in1 hq2,aS,cT]
  extract_lets s2
  have l2:s2.length=s.length:=by simp only[s2,Ajd]
  refine⟨s2,l2,?_⟩;have e5:x1+1+1+1=x1+3:=by omega
  rw[e5]
 ·rintro L ⟨x1,x2,s⟩ ⟨e1,e2,e3⟩
  simp only at e1 e2 e3;subst e2;refine⟨(s,x1),⟨e1,e3⟩,?_⟩;show Jx KK (fun v0 v1 v2=>L (v0,v1,v2)) x1 (l.length:Int) s=_;unfold Jx;rw[show decide ((l.length:Int)<(s.length:Int))=false by simp;omega,cF]
def H5 (x:Ma):Bool:=C1 x.1&&okC x.2
def BU (ms:List Ma):Bool:=ms.all H5&&decide (ms.length≤40)
theorem Ik {ms:List Ma} (h:ms.length≤1048576):Wb KK ms=some (BU ms):=by
 have hh:=B0 (R:=Bool) (body:=fun L x=>MM KK ms (fun v0=>L v0) x) ms (fun q=>(q:Int)) H5 (some false) (some (decide ((ms.length:Int)≤40)))
  (fun L q hq=>by
   unfold MM;rw[in1 hq,in0,gd hq];simp only[aS,cT,oT,tO];rw[Ec,oB,As (by omega)]
   unfold H5;cases C1 ms[q].1
   ·rfl
   ·simp only[nT,nF,cT,cF,Ai5];rw[XO,oB];unfold okC;cases decide (0≤ms[q].2∧ms[q].2≤9)<;>rfl)
  (fun L=>by
   unfold MM;rw[AX,cF]) KK 0 (by omega) (by simp only[KK];omega)
 unfold Wb Wa QH;refine hh.trans ?_;rw[AiR];unfold BU;have e:decide ((ms.length:Int)≤40)=decide (ms.length≤40):=by rw[decide_eq_decide];omega
 rw[e];cases ms.all H5<;>rfl
theorem Dx {s:List Ma} (hs:s.length≤1000) (φ:Ma→Option Bool) (p:Ma→Bool) (hp:∀ v∈s,φ v=some (p v)):WT KK s φ=some (s.any p):=by
 have h:=EU (R:=Int) (body:=fun L x=>IC KK s φ (fun v0=>L v0) x) s p some
  (fun L q hq=>by
   unfold IC;rw[in1 hq,in0,gd hq];simp only[aS,cT];rw[show φ (s[q].1,s[q].2)=some (p s[q]) from hp _ (gM hq),oB,As (by omega)])
  (fun L=>by
   unfold IC;rw[AX,cF]) KK 0 (by omega) (by have:=ET (n:=s.length) (by omega);omega)
 unfold WT Tu QX M3;have h2:=congrArg (fun x=>x.bind fun y1=>some (decide (y1≥(0:Int)))) h;refine Eq.trans h2 ?_;simp only[oB];rw[AiR,E0]
theorem Ru (x:Ma):OZ KK x=some (!H5 x):=by
 unfold OZ H5;rw[XR,oB];cases C1 x.1
 ·rfl
 ·simp only[nT,nF,cT,cF,Ai5,oT,tO];unfold Aed;rw[Fu];rfl
theorem PI (ms:List Ma):Z9 KK ms=some (BU ms):=by
 unfold Z9 BU;have e:decide ((ms.length:Int)≤40)=decide (ms.length≤40):=by rw[decide_eq_decide];omega
 rw[e];by_cases h:ms.length≤40
 ·rw[dT h];simp only[oT,tO,cT,Bool.and_true];rw[Dx (by omega) (fun z1=>OZ KK z1) (fun x=>!H5 x) (fun x _=>Ru x),oB]
  congr 1;rw[← List.not_all_eq_any_not,Bool.not_not]
 ·rw[dF h];simp
theorem Rv (f:Int) (l:Lt) {g:List Mo} (hn:g.length≤1048576) {ms:List Ma} (hm:ms.length≤1048576):ZQ KK f l g ms=some (Bj f l g (BU ms)):=by
 unfold ZQ;rw[Ik hm,oB,PB f l hn,oB]
theorem NF (f:Int) (l:Lt) {g:List Mo} (hn:g.length≤1048576) (ms:List Ma):Aaa KK f l g ms=some (Bj f l g (BU ms)):=by
 unfold Aaa;rw[PK f l hn,oB,Yc f l g (BU ms)];cases h:Bj f l g true != 0
 ·rw[cF,cF,PI,oB];cases BU ms<;>rfl
 ·rfl
theorem PJ {ms:List Ma} (h:BU ms=true):(∀ x∈ms,C1 x.1=true)∧ms.length≤40:=by
 unfold BU at h;rw[aT,dE] at h;refine⟨fun x hx=>?_,h.2⟩;have:=AiL.1 h.1 x hx;unfold H5 at this;rw[aT] at this;exact this.1
def nmS (l:Lt) (ns:List Int) (x:Ma):Int:=ns.getD (B9 l x.1) 0
def cfB (l:Lt) (ns:List Int) (y x:Ma):Bool:=(nmS l ns x==nmS l ns y)&&(x.2 != y.2)
def cfO (l:Lt) (ns:List Int) (ms:List Ma):Nat→List Ma→Int×Int×Bool
 | _,[]=>(0,0,false)
 | j,y :: r=>bif (ms.take j).any (cfB l ns y) then (CE (cfB l ns y) 0 (ms.take j),(j:Int),true) else cfO l ns ms (j+1) r
theorem X8 {v:Vc} (h:C1 v=true):Sm v:=AdK (AaC h)
def ixS (l:Lt) (g:List Mo) (u:Vc):Int:=CE (fun o=>o.contains u) 0 (BF l g)
end Go.Proofs.YteheolldcpjkcaaGreat.X
