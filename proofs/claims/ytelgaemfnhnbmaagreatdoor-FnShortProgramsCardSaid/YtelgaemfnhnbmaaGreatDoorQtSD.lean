/- The texts of motions, and the lines of marks of a list of cells. -/
import Derived.Test.YtelgaemfnhnbmaaGreatDoorQtSC
import Derived.Test.YtelgaemfnhnbmaaGreatDoorQtSB
namespace Go.Proofs.YtelgaemfnhnbmaaGreatDoor.X
open Go
set_option linter.unusedSimpArgs false
set_option linter.unusedVariables false
noncomputable def skK (m:Mt):Bool:=(f132G KK m==some true)&&(match f133G KK m with | some k=>k != 0 | none=>false)
theorem sk_all:((pmQ++pmH).all skK)=true:=by kernel_rfl
theorem sk_of {m:Mt} (h:m∈pmQ++pmH):f132G KK m=some true∧∃ k,f133G KK m=some k∧(k != 0)=true:=by
 have h1:=List.all_eq_true.1 sk_all m h;unfold skK at h1;rw[aT,beq_iff_eq] at h1;refine⟨h1.1,?_⟩;have h2:=h1.2;split at h2
 ·rename_i k hk;exact⟨k,hk,h2⟩
 ·cases h2
noncomputable def ikK (m:Mt):Bool:=(f110G KK m==some true)&&(f111G KK m==some true)
theorem ik_all:((pmQ++pmH).all ikK)=true:=by kernel_rfl
theorem ik_of {m:Mt} (h:m∈pmQ++pmH):f110G KK m=some true∧f111G KK m=some true:=by
 have h1:=List.all_eq_true.1 ik_all m h;unfold ikK at h1;rw[aT,beq_iff_eq,beq_iff_eq] at h1;exact h1
def motL (m:Mo):List UInt8:=matL m.1++[59]++vecL m.2
theorem mat_ns {m:Mt} (h:m∈pmQ++pmH):∀ n∈[m.1,m.2.1,m.2.2.1,m.2.2.2],n.natAbs<10000:=by
 obtain⟨a,b,c,d⟩:=pm_sm h;intro n hn;simp only[List.mem_cons,List.not_mem_nil,or_false] at hn;omega
theorem matL_len {m:Mt} (h:m∈pmQ++pmH):(matL m).length≤24:=cml_len (mat_ns h)
theorem specIsMo {m:Mo} (h:m.1∈pmQ++pmH) (hv:vecB m.2=true):f78G KK m=some true:=by
 obtain⟨e1,k,e2,e3⟩:=sk_of h;unfold f78G;rw[e1,oB];simp only[oT,tO,cT];rw[e2,oB,e3,specIsVec_eq,hv];rfl
theorem implIsMo {m:Mo} (h:m.1∈pmQ++pmH) (hv:vecB m.2=true):f57G KK m=some true:=by
 obtain⟨e1,e2⟩:=ik_of h;unfold f57G;rw[e1,oB];simp only[oT,tO,cT];rw[e2,oB,isVec_eq,hv];rfl
theorem specMo_eq {m:Mo} (h:m.1∈pmQ++pmH) (hv:vecB m.2=true):f31G KK m=some (mk (motL m)):=by
 have l1:=matL_len h;have l2:=vecL_len hv;have e:f79G KK m.1=some (mk (matL m.1)):=by
  unfold f79G f135G;rw[(sk_of h).1,oB,oB,sjoin_eq (mat_ns h) (by simp)]
  rfl
 unfold f31G;rw[specIsMo h hv,oB];simp only[nT,cF];rw[e,oB,bs_semi,mk_size,mk_size,okSize (by simp;omega),cT,specVT_eq hv,oB,mk_app,mk_size,mk_size,okSize (by simp;omega),cT,mk_app]
 rfl
theorem implMo_eq {m:Mo} (h:m.1∈pmQ++pmH) (hv:vecB m.2=true):f21G KK m=some (mk (motL m)):=by
 have l1:=matL_len h;have l2:=vecL_len hv;have e:f58G KK m.1=some (mk (matL m.1)):=by
  unfold f58G;rw[(ik_of h).1,oB,joined_eq (mat_ns h) (by simp)]
  rfl
 unfold f21G;rw[implIsMo h hv,oB];simp only[nT,cF];rw[e,oB,bs_semi,mk_size,mk_size,okSize (by simp;omega),cT,implVT_eq hv,oB,mk_app,mk_size,mk_size,okSize (by simp;omega),cT,mk_app]
 rfl
def mlnL (m:Mo):List UInt8:=[109,111,116,105,111,110,32]++motL m++[10]
theorem motL_len {m:Mo} (h:m.1∈pmQ++pmH) (hv:vecB m.2=true):(motL m).length≤40:=by
 have l1:=matL_len h;have l2:=vecL_len hv;simp only[motL,lA,List.length_cons,List.length_nil];omega
def stpP (p:Pt) (s:List UInt8×Nat) (v:Vc):List UInt8×Nat:=bif atS p v==0 then s else (s.1++markL v (atS p v),s.2+1)
theorem stpP_pre (p:Pt) (H:List UInt8):∀ (C:List Vc) (s:List UInt8×Nat),C.foldl (stpP p) (H++s.1,s.2)=(H++(C.foldl (stpP p) s).1,(C.foldl (stpP p) s).2)
 | [],_=>rfl
 | v :: C,s=>by
  rw[List.foldl_cons,List.foldl_cons];have e:stpP p (H++s.1,s.2) v=(H++(stpP p s v).1,(stpP p s v).2):=by
   unfold stpP;cases atS p v==0
   ·simp
   ·rfl
  rw[e,stpP_pre p H C]
theorem cell_vecB {l:Lt} (hl:IsL l) {v:Vc} (h:cellB l v=true):vecB v=true:=by
 have:=cell_bounds hl h;exact vecB_iff.2 (by omega)
theorem okC_in {c:Int} (h:okC c=true):0≤c∧c≤9:=by
 unfold okC at h;exact of_decide_eq_true h
theorem atC {p:Pt} (h:okP p=true) (v:Vc):0≤atS p v∧atS p v≤9:=by
 refine okC_in ?_;unfold okP at h;simp only[aT] at h;have ha:=List.all_eq_true.1 h.2;unfold atS;rw[List.getD_eq_getElem?_getD];cases he:p.2.2[numS p.2.1 v]? with
 | none=>rfl
 | some x=>exact ha x (List.mem_of_getElem? he)
def endT (H:List UInt8) (T:List UInt8×Nat):ByteArray×Int:=bif decide (40<T.2) then (ByteArray.empty,3) else (mk (H++T.1),0)
theorem g40 (n:Nat):decide ((n:Int)>(40:Int))=decide (40<n):=by
 rw[decide_eq_decide];omega
theorem stp_bd {p:Pt} (hp:∀ v,0≤atS p v∧atS p v≤9) {v:Vc} (hv:vecB v=true) {s:List UInt8×Nat}:(stpP p s v).1.length≤s.1.length+30∧(stpP p s v).2≤s.2+1:=by
 unfold stpP;have:=markL_len hv (c:=atS p v) (by have:=hp v;omega)
 cases atS p v==0
 ·simp only[cF,lA];omega
 ·simp only[cT];omega
theorem fold_len {p:Pt} (hp:∀ v,0≤atS p v∧atS p v≤9):∀ (C:List Vc) (s:List UInt8×Nat),(∀ v∈C,vecB v=true)→(C.foldl (stpP p) s).1.length≤s.1.length+30*C.length
 | [],s,_=>by simp
 | v :: C,s,hC=>by
  have h1:=(stp_bd hp (hC v (by simp)) (s:=s)).1
  have h2:=fold_len hp C (stpP p s v) fun x hx=>hC x (List.mem_cons_of_mem _ hx);rw[List.foldl_cons,List.length_cons];omega
theorem imark_eq {p:Pt} (hp:IsP p) (hc:∀ v,0≤atS p v∧atS p v≤9) {C:List Vc} (hC:∀ v∈C,cellB p.2.1 v=true) (hN:C.length≤1000):f23G KK p C=some (endT [] (C.foldl (stpP p) ([],0))):=by
 have hl:=hp.l;have hh:=iter_fold (R:=ByteArray×Int) (body:=fun L x=>f23_b5 KK p C (fun v0 v1 v2=>L (v0,v1,v2)) x.1 x.2.1 x.2.2) C (fun q (s:List UInt8×Nat)=>(mk s.1,((s.2:Nat):Int),(q:Int))) (stpP p) (fun s=>some (endT [] s)) (fun q s=>s.1.length≤100+30*q∧s.2≤q)
  (fun L q s hq hi=>by
   have hcell:=hC _ (gM hq);have hvb:=cell_vecB hl hcell;have hb:=stp_bd hc hvb (s:=s);refine⟨by omega,?_⟩
   show f23_b5 KK p C (fun v0 v1 v2=>L (v0,v1,v2)) (mk s.1) ((s.2:Nat):Int) (q:Int)=_;unfold f23_b5;have ha:=hc C[q];have hv:=vecL_len hvb;have hd:=dg_len (n:=atS p C[q]) (by omega)
   have hcb:=cell_bounds hl hcell;rw[in1 hq,in0,gd hq,at_eq hp (v:=C[q]) (by unfold Sm;omega),implVT_eq hvb,w_succ (by omega),w_succ (by omega)]
   simp only[aS,cT,oB];rw[bs_mark,bs_sp,bs_nl,mk_app,mk_app,text_eq (by omega),oB,mk_app,mk_app,mk_app]
   simp only[mk_size,lA,List.length_cons,List.length_nil];rw[okSize (by omega),okSize (by omega),okSize (by omega),okSize (by omega),okSize (by omega)]
   unfold stpP bne;cases atS p C[q]==0<;>rfl)
  (fun L s hi=>by
   show f23_b5 KK p C (fun v0 v1 v2=>L (v0,v1,v2)) (mk s.1) ((s.2:Nat):Int) (C.length:Int)=_;unfold f23_b5 endT;rw[out1,cF,g40];cases decide (40<s.2)<;>rfl) KK 0 ([],0) (by omega) (by simp only[KK];omega) (by simp)
 rw[List.drop_zero] at hh;unfold f23G f23_g;exact hh
end Go.Proofs.YtelgaemfnhnbmaaGreatDoor.X
