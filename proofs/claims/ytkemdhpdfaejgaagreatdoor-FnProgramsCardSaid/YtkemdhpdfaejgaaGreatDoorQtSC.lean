/- The texts of numbers, vectors, lattices and motions, and of the first lines of a program. -/
import Derived.Test.YtkemdhpdfaejgaaGreatDoorQtSR
import Derived.Test.YtkemdhpdfaejgaaGreatDoorQtME
namespace Go.Proofs.YtkemdhpdfaejgaaGreatDoor.X
open Go
set_option linter.unusedSimpArgs false
set_option linter.unusedVariables false
theorem Azn (a:ByteArray):(a != a)=false:=by
 unfold bne;rw[beq_toListBytes];simp
theorem AN {n:Nat} (h:n≤1000000):Nat.ble n 9223372036854775807=true:=by
 rw[AB4];omega
abbrev dg (n:Int):List UInt8:=Lib.itoa n
theorem GB {n:Int} (h:n.natAbs<10000):(dg n).length≤5:=by
 have e:(10:Nat) ^ (3+1)=10000:=by decide
 by_cases hn:n<0
 ·obtain⟨k,rfl⟩:∃ k:Nat,n = -(k:Int):=⟨n.natAbs,by omega⟩
  show (Lib.itoa _).length≤5;rw[Lib.itoa_neg k (by omega),ABc]
  have:=Jl 3 k (by omega)
  omega
 ·obtain⟨k,rfl⟩:∃ k:Nat,n=(k:Int):=⟨n.toNat,by omega⟩
  show (Lib.itoa _).length≤5;rw[Lib.itoa_nonneg];have:=Jl 3 k (by omega)
  omega
theorem Aeq {n:Int} (h:n.natAbs<10000):Aiq KK n=some (mk (dg n)):=by
 unfold Aiq Aip Aa1 Sx;rw[dT (show (-9223372036854775808:Int)≤n by omega),dT (show n≤(9223372036854775807:Int) by omega)]
 rfl
theorem Aer {n:Int} (h0:0≤n) (h:n.natAbs<10000):YZ KK n=some (mk (dg n)):=by
 obtain⟨k,rfl⟩:∃ k:Nat,n=(k:Int):=⟨n.toNat,by omega⟩
 rw[AaB (by omega)]
 show _=some (mk (Lib.itoa _));rw[Lib.itoa_nonneg]
theorem Lr {n:Int} (h:n.natAbs<10000):N7 KK n=some (mk (dg n)):=by
 unfold N7;by_cases hn:n<0
 ·obtain⟨k,rfl⟩:∃ k:Nat,n = -(k:Int):=⟨n.natAbs,by omega⟩
  have e:w ((0:Int) - -(k:Int))=(k:Int):=by rw[As (by omega) (by omega)];omega
  have e4:(10:Nat) ^ (3+1)=10000:=by decide
  have hl:=Jl 3 k (by omega)
  have e45:bs [45]=mk [45]:=rfl;rw[dT hn,cT,e,AaB (by omega),oB,e45,Aq,Aq,AN (by simp;omega),cT,Be]
  show _=some (mk (Lib.itoa _));rw[Lib.itoa_neg k (by omega)]
  rfl
 ·rw[dF hn,cF,Aer (by omega) h]
  rfl
def cml:List Int→List UInt8
 | []=>[]
 | [a]=>dg a
 | a :: b :: r=>dg a++[44]++cml (b :: r)
theorem Ir:∀ {ns:List Int},(∀ n∈ns,n.natAbs<10000)→(cml ns).length≤6*ns.length
 | [],_=>by simp[cml]
 | [a],h=>by
  have:=GB (h a (by simp))
  simp only[cml,ABA];omega
 | a :: b :: r,h=>by
  have h1:=GB (h a (by simp))
  have h2:=Ir (ns:=b :: r) fun n hn=>h n (ABj _ hn);simp only[cml,lA,ABc,ABm] at h2 ⊢;omega
theorem Mi {sep:ByteArray} {ns:List Int} (h:∀ n∈ns,n.natAbs<10000) (hl:ns.length≤100):∀ (k q:Nat) (s:List ByteArray),s.length=q→q≤ns.length→ns.length-q<k →
  M7 KK sep ns k (q:Int) s=P5 (s++(ns.drop q).map fun n=>mk (dg n)) sep
 | 0,q,_,_,_,hk=>by omega
 | k+1,q,s,hs,hq,hk=>by
  show TS KK sep ns (fun v0 v1=>M7 KK sep ns k v0 v1) (q:Int) s=_;unfold TS;by_cases hlt:q<ns.length
  ·rw[in1 hlt,in0,gd hlt];simp only[aS,cT];rw[Aeq (h _ (gM hlt)),oB,Gm (by simp;omega),cT,Af (by omega),Mi h hl k (q+1) _ (by simp;omega) (by omega) (by omega),dC hlt,ABH,AA5]
   rfl
  ·have:q=ns.length:=by omega
   subst this;rw[AO,cF,ABZ,List.map_nil,ABD];unfold Ajv;cases P5 s sep<;>rfl
theorem XF:∀ ns:List Int,Lib.join (ns.map dg) [44]=cml ns
 | []=>rfl
 | [a]=>by simp[Lib.join,List.intercalate,cml]
 | a :: b :: r=>by
  have:=XF (b :: r);simp only[Lib.join,List.intercalate,ABH,List.intersperse_cons_cons,ABx,cml] at this ⊢;rw[this];simp
theorem RH {ns:List Int} (h:∀ n∈ns,n.natAbs<10000) (hl:ns.length≤100) (h0:0<ns.length:=by simp):Rm KK (bs [44]) ns=some (mk (cml ns)):=by
 have:=Mi (sep:=bs [44]) h hl KK 0 [] rfl (by omega) (by simp only[KK];omega)
 have z:((0:Nat):Int)=0:=rfl;rw[z,ABb,ABi] at this;unfold Rm Zz;refine this.trans ?_;have e:Lib.join ((ns.map fun n=>mk (dg n)).map (·.data.toList)) (bs [44]).data.toList=cml ns:=by
  have e1:((ns.map fun n=>mk (dg n)).map (·.data.toList))=ns.map dg:=by
   rw[ADf];exact ACP fun n _=>B4 _
  rw[e1];exact XF ns
 have hc:=Ir h;unfold P5 At5;rw[e,show Nat.ble (cml ns).length 1000000=true by rw[AB4];omega,ABf,show Nat.blt 0 ns.length=true by rw[ADs];exact h0,show Nat.ble ns.length 1000=true by rw[AB4];omega]
 rfl
theorem XG:∀ {ns:List Int} (m:Int),ns≠[]→cml (ns++[m])=cml ns++[44]++dg m
 | [],_,h=>absurd rfl h
 | [a],m,_=>rfl
 | a :: b :: r,m,_=>by
  have:=XG (ns:=b :: r) m (by simp)
  simp only[AB0] at this ⊢;rw[cml,this];simp[cml]
theorem Jn {ns:List Int} (h:∀ n∈ns,n.natAbs<10000) (hl:ns.length≤100):∀ (k q:Nat),q≤ns.length→ns.length-q<k →
  MM KK ns (bs [44]) k (mk (cml (ns.take q))) (q:Int)=some (mk (cml ns))
 | 0,q,_,hk=>by omega
 | k+1,q,hq,hk=>by
  show Th KK ns (bs [44]) (fun v0 v1=>MM KK ns (bs [44]) k v0 v1) (mk (cml (ns.take q))) (q:Int)=_;unfold Th;have e44:bs [44]=mk [44]:=rfl;by_cases hlt:q<ns.length
  ·have hn:=h _ (gM hlt);have h1:=Ir (ns:=ns.take q) fun n hn=>h n (ACf hn);have h2:=GB hn;rw[ABv] at h1;rw[in1 hlt,in0,gd hlt,Lr hn,Af (by omega),e44]
   have hd:ns.take (q+1)=ns.take q++[ns[q]]:=tS hlt;cases q with
   | zero =>
    rw[dF (show ¬ ((0:Nat):Int)>0 by omega)]
    simp only[cF,aS,cT,oB];rw[Aq,Aq,AN (by omega),cT,Be]
    have e:cml (ns.take 0)++dg ns[0]=cml (ns.take (0+1)):=by rw[hd];rfl
    rw[e];exact Jn h hl k 1 (by omega) (by omega)
   | succ q =>
    rw[dT (show ((q+1:Nat):Int)>0 by omega)]
    simp only[aS,cT,oB];rw[Aq,Aq,AN (by simp;omega),cT,Be,Aq,Aq,AN (by simp;omega),cT,Be]
    have hne:ns.take (q+1)≠[]:=by
     intro e;have:=congrArg List.length e;rw[ABv,ABm] at this;omega
    rw[← XG _ hne,← hd];exact Jn h hl k (q+1+1) (by omega) (by omega)
  ·have:q=ns.length:=by omega
   subst this;rw[AO,cF,AB6]
theorem XH {ns:List Int} (h:∀ n∈ns,n.natAbs<10000) (hl:ns.length≤100):QT KK ns (bs [44])=some (mk (cml ns)):=by
 have:=Jn h hl KK 0 (by omega) (by simp only[KK];omega)
 unfold QT Y0;exact this
def Mw (v:Vc):List UInt8:=cml [v.1,v.2]
def Qm (l:Lt):List UInt8:=cml [l.1,l.2.1,l.2.2]
def UN (m:Mt):List UInt8:=cml [m.1,m.2.1,m.2.2.1,m.2.2.2]
theorem Ls {v:Vc} (h:Ba v=true):∀ n∈[v.1,v.2],n.natAbs<10000:=by
 obtain⟨a,b⟩:=BS.1 h;intro n hn;simp only[AA4,ABV,or_false] at hn;omega
theorem HK {v:Vc} (h:Ba v=true):(Mw v).length≤12:=Ir (Ls h)
theorem RI {v:Vc} (h:Ba v=true):Aif KK v=some (mk (Mw v)):=by
 have hn:=Ls h;have e44:bs [44]=mk [44]:=rfl;have l1:=GB (hn v.1 (by simp))
 have l2:=GB (hn v.2 (by simp))
 unfold Aif;rw[Cj,h,oB];simp only[nT,cF];rw[Lr (hn v.1 (by simp)),Lr (hn v.2 (by simp)),oB,e44,Aq,Aq,AN (by simp;omega),cT,oB,Be,Aq,Aq,AN (by simp;omega),cT,Be]
 rfl
theorem Agl {v:Vc} (h:Ba v=true):AoR KK v=some (mk (Mw v)):=by
 unfold AoR;rw[HA,h,oB];simp only[nT,cF];rw[RH (Ls h) (by simp)]
 rfl
theorem Lu {l:Lt} (hl:IsL l):∀ n∈[l.1,l.2.1,l.2.2],n.natAbs<10000:=by
 obtain⟨a1,a2,c1,c2,b1,b2,ix⟩:=hl;intro n hn;simp only[AA4,ABV,or_false] at hn;omega
theorem Pb {l:Lt} (hl:IsL l):(Qm l).length≤18:=Ir (Lu hl)
theorem Agm {l:Lt} (hl:IsL l):AoT KK l=some (mk (Qm l)):=by
 unfold AoT;rw[Em,Bt.2 hl,oB];simp only[nT,cF];rw[RH (Lu hl) (by simp)]
 rfl
theorem Agn {l:Lt} (hl:IsL l):AnX KK l=some (mk (Qm l)):=by
 unfold AnX;rw[DF,Bt.2 hl,oB];simp only[nT,cF];rw[XH (Lu hl) (by simp)]
 rfl
def frL (f:Int):List UInt8:=bif f==0 then [83] else [72]
def Dc (f:Int) (l:Lt):List UInt8:=[102,114,97,109,101,32]++frL f++[10,108,97,116,116,105,99,101,32]++Qm l++[10]
theorem AtI {f:Int} (h:okF f=true):(decide (0≤f)&&decide (f≤(w (f+(1:Int))))&&decide ((w (f+(1:Int)))≤((bs [83,72]).size:Int)))=true∧(bs [83,72]).extract f.toNat (w (f+(1:Int))).toNat=mk (frL f):=by
 have hf':0≤f∧f≤1:=by simpa[okF] using h
 have:f=0∨f=1:=by omega
 rcases this with rfl | rfl
 ·exact⟨by decide +kernel,by decide +kernel⟩
 ·exact⟨by decide +kernel,by decide +kernel⟩
theorem XI:bs [102,114,97,109,101,32]=mk [102,114,97,109,101,32]:=rfl
theorem AlY:bs [10,108,97,116,116,105,99,101,32]=mk [10,108,97,116,116,105,99,101,32]:=rfl
theorem XJ:bs [10]=mk [10]:=rfl
theorem Aes:bs [109,97,114,107,32]=mk [109,97,114,107,32]:=rfl
theorem Ago:bs [109,111,116,105,111,110,32]=mk [109,111,116,105,111,110,32]:=rfl
theorem ArS:bs [59]=mk [59]:=rfl
theorem AtJ:bs [32]=mk [32]:=rfl
theorem UO (f:Int):(frL f).length=1:=by
 unfold frL;cases f==0<;>rfl
theorem FW (f:Int) {l:Lt} (hl:IsL l):(Dc f l).length≤100:=by
 have:=UO f;have:=Pb hl;simp only[Dc,lA,ABc,ABm];omega
theorem HL {p:Pt} (hf:okF p.1=true) (hl:IsL p.2.1):Wc KK p=some (mk (Dc p.1 p.2.1)):=by
 obtain⟨e1,e2⟩:=AtI hf;have h1:=UO p.1;have h2:=Pb hl;unfold Wc;rw[e1,e2,cT,XI,AlY,XJ,Be,Be,Agn hl,oB,Be,Be];simp only[Aq,lA,ABc,ABm];rw[AN (by omega),AN (by omega),AN (by omega),AN (by omega)]
 rfl
theorem XK {p:Pt} (hf:okF p.1=true) (hl:IsL p.2.1):AoU KK p=some (mk (Dc p.1 p.2.1)):=by
 obtain⟨e1,e2⟩:=AtI hf;have h1:=UO p.1;have h2:=Pb hl;unfold AoU;rw[e1,e2,cT,XI,AlY,XJ,Be,Be,Agm hl,oB,Be,Be];simp only[Aq,lA,ABc,ABm];rw[AN (by omega),AN (by omega),AN (by omega),AN (by omega)]
 rfl
def RJ (v:Vc) (c:Int):List UInt8:=[109,97,114,107,32]++Mw v++[32]++dg c++[10]
theorem FX {v:Vc} (h:Ba v=true) {c:Int} (hc:c.natAbs<10000):(RJ v c).length≤30:=by
 have:=HK h;have:=GB hc;simp only[RJ,lA,ABc,ABm];omega
theorem HM {v:Vc} (h:Ba v=true) {c:Int} (h1:0≤c) (h2:c≤9):We KK v c=some (mk (RJ v c)):=by
 have l1:=HK h;have l2:=GB (n:=c) (by omega)
 unfold We;rw[RI h,oB,Aes,AtJ,XJ,Be,Be,Aer h1 (by omega),oB,Be,Be]
 simp only[Aq,lA,ABc,ABm];rw[AN (by omega),AN (by omega),AN (by omega),AN (by omega)]
 rfl
end Go.Proofs.YtkemdhpdfaejgaaGreatDoor.X
