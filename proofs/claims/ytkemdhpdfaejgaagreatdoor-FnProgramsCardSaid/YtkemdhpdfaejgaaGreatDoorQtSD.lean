/- The texts of motions, and the lines of marks of a list of cells. -/
import Derived.Test.YtkemdhpdfaejgaaGreatDoorQtSC
import Derived.Test.YtkemdhpdfaejgaaGreatDoorQtSB
namespace Go.Proofs.YtkemdhpdfaejgaaGreatDoor.X
open Go
set_option linter.unusedSimpArgs false
set_option linter.unusedVariables false
noncomputable def skK (m:Mt):Bool:=(JU KK m==some true)&&(match QY KK m with | some k=>k != 0 | none=>false)
theorem Awq:((pmQ++pmH).all skK)=true:=by kernel_rfl
theorem AtK {m:Mt} (h:m∈pmQ++pmH):JU KK m=some true∧∃ k,QY KK m=some k∧(k != 0)=true:=by
 have h1:=AA3.1 Awq m h;unfold skK at h1;rw[aT,beq_iff_eq] at h1;refine⟨h1.1,?_⟩;have h2:=h1.2;split at h2
 ·rename_i k hk;exact⟨k,hk,h2⟩
 ·cases h2
noncomputable def ikK (m:Mt):Bool:=(Q4 KK m==some true)&&(Wk KK m==some true)
def Pc (m:Mo):List UInt8:=UN m.1++[59]++Mw m.2
theorem Pd {m:Mt} (h:m∈pmQ++pmH):∀ n∈[m.1,m.2.1,m.2.2.1,m.2.2.2],n.natAbs<10000:=by
 obtain⟨a,b,c,d⟩:=Cy h;intro n hn;simp only[AA4,ABV,or_false] at hn;omega
theorem XL {m:Mt} (h:m∈pmQ++pmH):(UN m).length≤24:=Ir (Pd h)
theorem AlZ {m:Mo} (h:m.1∈pmQ++pmH) (hv:Ba m.2=true):Y2 KK m=some true:=by
 obtain⟨e1,k,e2,e3⟩:=AtK h;unfold Y2;rw[e1,oB];simp only[oT,tO,cT];rw[e2,oB,e3,Cj,hv];rfl
theorem RK {m:Mo} (h:m.1∈pmQ++pmH) (hv:Ba m.2=true):Y3 KK m=some (mk (Pc m)):=by
 have l1:=XL h;have l2:=HK hv;have e:An0 KK m.1=some (mk (UN m.1)):=by
  unfold An0 QK;rw[(AtK h).1,oB,oB,XH (Pd h) (by simp)]
  rfl
 unfold Y3;rw[AlZ h hv,oB];simp only[nT,cF];rw[e,oB,ArS,Aq,Aq,AN (by simp;omega),cT,RI hv,oB,Be,Aq,Aq,AN (by simp;omega),cT,Be]
 rfl
def Al0 (m:Mo):List UInt8:=[109,111,116,105,111,110,32]++Pc m++[10]
theorem Pe {m:Mo} (h:m.1∈pmQ++pmH) (hv:Ba m.2=true):(Pc m).length≤40:=by
 have l1:=XL h;have l2:=HK hv;simp only[Pc,lA,ABc,ABm];omega
def DN (p:Pt) (s:List UInt8×Nat) (v:Vc):List UInt8×Nat:=bif atS p v==0 then s else (s.1++RJ v (atS p v),s.2+1)
theorem Pf (p:Pt) (H:List UInt8):∀ (C:List Vc) (s:List UInt8×Nat),C.foldl (DN p) (H++s.1,s.2)=(H++(C.foldl (DN p) s).1,(C.foldl (DN p) s).2)
 | [],_=>rfl
 | v :: C,s=>by
  rw[ABy,ABy];have e:DN p (H++s.1,s.2) v=(H++(DN p s v).1,(DN p s v).2):=by
   unfold DN;cases atS p v==0
   ·simp
   ·rfl
  rw[e,Pf p H C]
theorem CC {l:Lt} (hl:IsL l) {v:Vc} (h:Ah l v=true):Ba v=true:=by
 have:=E9 hl h;exact BS.2 (by omega)
theorem Awr {c:Int} (h:okC c=true):0≤c∧c≤9:=by
 unfold okC at h;exact of_decide_eq_true h
theorem atC {p:Pt} (h:okP p=true) (v:Vc):0≤atS p v∧atS p v≤9:=by
 refine Awr ?_;unfold okP at h;simp only[aT] at h;have ha:=AA3.1 h.2;unfold atS;rw[ABz];cases he:p.2.2[A8 p.2.1 v]? with
 | none=>rfl
 | some x=>exact ha x (ABt he)
def Kw (H:List UInt8) (T:List UInt8×Nat):ByteArray×Int:=bif decide (40<T.2) then (ByteArray.empty,3) else (mk (H++T.1),0)
theorem g40 (n:Nat):decide ((n:Int)>(40:Int))=decide (40<n):=by
 rw[decide_eq_decide];omega
theorem UP {p:Pt} (hp:∀ v,0≤atS p v∧atS p v≤9) {v:Vc} (hv:Ba v=true) {s:List UInt8×Nat}:(DN p s v).1.length≤s.1.length+30∧(DN p s v).2≤s.2+1:=by
 unfold DN;have:=FX hv (c:=atS p v) (by have:=hp v;omega)
 cases atS p v==0
 ·simp only[cF,lA];omega
 ·simp only[cT];omega
theorem Kx {p:Pt} (hp:∀ v,0≤atS p v∧atS p v≤9):∀ (C:List Vc) (s:List UInt8×Nat),(∀ v∈C,Ba v=true)→(C.foldl (DN p) s).1.length≤s.1.length+30*C.length
 | [],s,_=>by simp
 | v :: C,s,hC=>by
  have h1:=(UP hp (hC v (by simp)) (s:=s)).1
  have h2:=Kx hp C (DN p s v) fun x hx=>hC x (ABj _ hx);rw[ABy,ABc];omega
theorem Al1 {p:Pt} (hp:IsP p) (hc:∀ v,0≤atS p v∧atS p v≤9) {C:List Vc} (hC:∀ v∈C,Ah p.2.1 v=true) (hN:C.length≤1000):Ajy KK p C=some (Kw [] (C.foldl (DN p) ([],0))):=by
 have hl:=hp.l;have hh:=AJ (R:=ByteArray×Int) (body:=fun L x=>K7 KK p C (fun v0 v1 v2=>L (v0,v1,v2)) x.1 x.2.1 x.2.2) C (fun q (s:List UInt8×Nat)=>(mk s.1,((s.2:Nat):Int),(q:Int))) (DN p) (fun s=>some (Kw [] s)) (fun q s=>s.1.length≤100+30*q∧s.2≤q)
  (fun L q s hq hi=>by
   have hcell:=hC _ (gM hq);have hvb:=CC hl hcell;have hb:=UP hc hvb (s:=s);refine⟨by omega,?_⟩
   show K7 KK p C (fun v0 v1 v2=>L (v0,v1,v2)) (mk s.1) ((s.2:Nat):Int) (q:Int)=_;unfold K7;have ha:=hc C[q];have hv:=HK hvb;have hd:=GB (n:=atS p C[q]) (by omega)
   have hcb:=E9 hl hcell;rw[in1 hq,in0,gd hq,Atr hp (v:=C[q]) (by unfold Sm;omega),Agl hvb,Af (by omega),Af (by omega)]
   simp only[aS,cT,oB];rw[Aes,AtJ,XJ,Be,Be,Aeq (by omega),oB,Be,Be,Be]
   simp only[Aq,lA,ABc,ABm];rw[AN (by omega),AN (by omega),AN (by omega),AN (by omega),AN (by omega)]
   unfold DN bne;cases atS p C[q]==0<;>rfl)
  (fun L s hi=>by
   show K7 KK p C (fun v0 v1 v2=>L (v0,v1,v2)) (mk s.1) ((s.2:Nat):Int) (C.length:Int)=_;unfold K7 Kw;rw[AO,cF,g40];cases decide (40<s.2)<;>rfl) KK 0 ([],0) (by omega) (by simp only[KK];omega) (by simp)
 rw[ABb] at hh;unfold Ajy Ajx;exact hh
end Go.Proofs.YtkemdhpdfaejgaaGreatDoor.X
