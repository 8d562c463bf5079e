/- Plain facts: marks on cells, and marks that are in conflict. -/
import Derived.Test.YtelgaemfnhnbmaaGreatDoorQtPOrbitNumbers
namespace Go.Proofs.YtelgaemfnhnbmaaGreatDoor.X
open Go
set_option linter.unusedSimpArgs false
set_option linter.unusedVariables false
abbrev Ma:=Vc×Int
def markB (x:Ma):Bool:=vecB x.1&&okC x.2
def marksB (ms:List Ma):Bool:=ms.all markB&&decide (ms.length≤40)
theorem containsFuncMa_eq {s:List Ma} (hs:s.length≤1000) (φ:Ma→Option Bool) (p:Ma→Bool) (hp:∀ v∈s,φ v=some (p v)):f239G KK s φ=some (s.any p):=by
 have h:=iter_idx (R:=Int) (body:=fun L x=>f257_b3 KK s φ (fun v0=>L v0) x) s p some
  (fun L q hq=>by
   unfold f257_b3;rw[in1 hq,in0,gd hq];simp only[aS,cT];rw[show φ (s[q].1,s[q].2)=some (p s[q]) from hp _ (gM hq),oB,w_succ (by omega)])
  (fun L=>by
   unfold f257_b3;rw[out1,cF]) KK 0 (by omega) (by have:=KKlt (n:=s.length) (by omega);omega)
 unfold f239G f257G f257_g f257_l3;have h2:=congrArg (fun x=>x.bind fun y1=>some (decide (y1≥(0:Int)))) h;refine Eq.trans h2 ?_;simp only[oB];rw[List.drop_zero,idxS_any]
theorem notMark_eq (x:Ma):f240G KK x=some (!markB x):=by
 unfold f240G markB;rw[isVec_eq,oB];cases vecB x.1
 ·rfl
 ·simp only[nT,nF,cT,cF,Bool.true_and,oT,tO];unfold f147G;rw[within_eq];rfl
theorem areMarks_eq (ms:List Ma):f199G KK ms=some (marksB ms):=by
 unfold f199G marksB;have e:decide ((ms.length:Int)≤40)=decide (ms.length≤40):=by rw[decide_eq_decide];omega
 rw[e];by_cases h:ms.length≤40
 ·rw[dT h];simp only[oT,tO,cT,Bool.and_true];rw[containsFuncMa_eq (by omega) (fun z1=>f240G KK z1) (fun x=>!markB x) (fun x _=>notMark_eq x),oB]
  congr 1;rw[← List.not_all_eq_any_not,Bool.not_not]
 ·rw[dF h];simp
theorem marksCode_eq (f:Int) (l:Lt) {g:List Mo} (hn:g.length≤1048576) (ms:List Ma):f146G KK f l g ms=some (codeC f l g (marksB ms)):=by
 unfold f146G;rw[groupCode_C f l hn,oB,codeC_in f l g (marksB ms)];cases h:codeC f l g true != 0
 ·rw[cF,cF,areMarks_eq,oB];cases marksB ms<;>rfl
 ·rfl
theorem marks_of {ms:List Ma} (h:marksB ms=true):(∀ x∈ms,vecB x.1=true)∧ms.length≤40:=by
 unfold marksB at h;rw[aT,dE] at h;refine⟨fun x hx=>?_,h.2⟩;have:=List.all_eq_true.1 h.1 x hx;unfold markB at this;rw[aT] at this;exact this.1
def nmS (l:Lt) (ns:List Int) (x:Ma):Int:=ns.getD (numS l x.1) 0
def cfB (l:Lt) (ns:List Int) (y x:Ma):Bool:=(nmS l ns x==nmS l ns y)&&(x.2 != y.2)
def cfO (l:Lt) (ns:List Int) (ms:List Ma):Nat→List Ma→Int×Int×Bool
 | _,[]=>(0,0,false)
 | j,y :: r=>bif (ms.take j).any (cfB l ns y) then (idxS (cfB l ns y) 0 (ms.take j),(j:Int),true) else cfO l ns ms (j+1) r
theorem vec_Sm {v:Vc} (h:vecB v=true):Sm v:=Sv_Sm (vecB_Sv h)
theorem take_get {ms:List Ma} {j q:Nat} (hq:q<(ms.take j).length):q<j∧∃ h:q<ms.length,(ms.take j)[q]=ms[q]:=by
 rw[List.length_take] at hq;exact⟨by omega,by omega,by rw[List.getElem_take]⟩
theorem getZ {ns:List Int} {k:Nat}:ns.getD ((0:Int)+(k:Int)).toNat (0:Int)=ns.getD k 0:=by
 have e:((0:Int)+(k:Int)).toNat=k:=by omega
 rw[e]
theorem orbitNo_eq {l:Lt} (hl:IsL l) {ns:List Int} (hns:ns.length=(cellsS l).length) {x:Ma} (hx:vecB x.1=true):f200G KK x ns l=some (nmS l ns x):=by
 unfold f200G nmS;have n1:numS l (redS l x.1)<ns.length:=by rw[hns];exact numS_lt hl _
 have e:numS l (redS l x.1)=numS l x.1:=by unfold numS;rw[red_red hl]
 rw[reduce_eq hl (vec_Sm hx),oB,number_eq hl (redS_isCell hl _),oB,in0,in1 n1,getZ,e];rfl
theorem iconf_in {l:Lt} (hl:IsL l) {g:List Mo} {o:List (List Vc)} {ns:List Int} (hns:ns.length=(cellsS l).length) {ms:List Ma} (hm:∀ x∈ms,vecB x.1=true) (hn:ms.length≤1000) {j:Nat} (hj:j<ms.length) {L:Int→Option (Int×Int×Bool)} :
  f148_l12 KK l g ms (j:Int) (o,ns) L KK 0=bif (ms.take j).any (cfB l ns ms[j]) then some (idxS (cfB l ns ms[j]) 0 (ms.take j),(j:Int),true) else L ((j+1:Nat):Int):=by
 have hlen:(ms.take j).length=j:=by rw[List.length_take];omega
 have ej:((0:Int)+(j:Int))-0=(j:Int):=by omega
 have h:=iter_idx (R:=Int×Int×Bool) (body:=fun L' x=>f148_b12 KK l g ms (j:Int) (o,ns) L (fun v0=>L' v0) x) (ms.take j) (cfB l ns ms[j]) (fun i=>bif decide (i≥0) then some (i,(j:Int),true) else L ((j+1:Nat):Int))
  (fun L' q hq=>by
   obtain⟨hqj,hqm,e⟩:=take_get hq;unfold f148_b12;rw[ej,in1 hqj,in0,gd hqm,gd hj,e];simp only[aS,cT,oT,tO];have h1:f200G KK (ms[q].1,ms[q].2) ns l=some (nmS l ns ms[q]):=orbitNo_eq hl hns (hm _ (gM hqm));have h2:f200G KK (ms[j].1,ms[j].2) ns l=some (nmS l ns ms[j]):=orbitNo_eq hl hns (hm _ (gM hj));rw[h1,h2,w_succ (by omega)]
   unfold cfB;cases ms[q].2 != ms[j].2
   ·rw[Bool.and_false];rfl
   ·rw[Bool.and_true];simp only[cT,oB])
  (fun L'=>by
   unfold f148_b12;rw[hlen,ej,out1,cF,w_succ (by omega)]
   rfl) KK 0 (by omega) (by simp only[KK];omega)
 rw[List.drop_zero,idxS_any] at h;exact h
theorem iconf_loop {l:Lt} (hl:IsL l) {g:List Mo} {o:List (List Vc)} {ns:List Int} (hns:ns.length=(cellsS l).length) {ms:List Ma} (hm:∀ x∈ms,vecB x.1=true) (hn:ms.length≤1000):∀ (n j:Nat),j≤ms.length→ms.length-j<n→f148_l10 KK l g ms (o,ns) n (j:Int)=some (cfO l ns ms j (ms.drop j))
 | 0,j,_,h=>by omega
 | n+1,j,hj,h=>by
  show f148_b10 KK l g ms (o,ns) (fun c0 d0=>f148_l12 KK l g ms c0 (o,ns) (fun v0=>f148_l10 KK l g ms (o,ns) n v0) KK d0) (fun v0=>f148_l10 KK l g ms (o,ns) n v0) (j:Int)=_;unfold f148_b10;by_cases hlt:j<ms.length
  ·have e0:(decide (0≤(0:Int))&&decide ((0:Int)≤(j:Int))&&decide ((j:Int)≤(ms.length:Int)))=true:=by simp;omega
   rw[in1 hlt,e0,in0,dC hlt];simp only[aS,cT];refine (iconf_in hl hns hm hn hlt).trans ?_;simp only[cfO];cases (ms.take j).any (cfB l ns ms[j])
   ·rw[cF,cF];exact iconf_loop hl hns hm hn n (j+1) (by omega) (by omega)
   ·rfl
  ·have e:j=ms.length:=by omega
   subst e;rw[out1,cF,List.drop_length];rfl
theorem numsF_len' (l:Lt) (g:List Mo):(numsF l g).length=(cellsS l).length:=by simp[numsF]
theorem conflictOf_eq {f:Int} {l:Lt} {g:List Mo} (h:OrbG f l g) {ms:List Ma} (hm:∀ x∈ms,vecB x.1=true) (hn:ms.length≤1000):f148G KK l g ms=some (cfO l (numsF l g) ms 0 ms):=by
 unfold f148G f148_g;rw[orbitsOf_eq h,oB];exact iconf_loop h.la (numsF_len' l g) hm hn KK 0 (by omega) (by simp only[KK];omega)
def ixS (l:Lt) (g:List Mo) (u:Vc):Int:=idxS (fun o=>o.contains u) 0 (orbsS l g)
theorem numsF_get {l:Lt} (hl:IsL l) (g:List Mo) {u:Vc} (hu:cellB l u=true):(numsF l g)[numS l u]? = some (ixS l g u):=by
 unfold numsF;rw[List.getElem?_map,cell_at hl hu];rfl
theorem ix_at {f:Int} {l:Lt} {g:List Mo} (h:OrbG f l g) {u:Vc} (hu:cellB l u=true):∃ k:Nat,∃ hk:k<(orbsS l g).length,ixS l g u=(k:Int)∧u∈(orbsS l g)[k]:=by
 rcases idxS_spec (fun o:List Vc=>o.contains u) (orbsS l g) 0 with ⟨_,h2⟩ | ⟨k,h1,h2,_,o,h4,h5⟩
 ·have:=orbs_all h hu;obtain⟨o,ho,hc⟩:=List.any_eq_true.1 this;rw[h2 o ho] at hc;cases hc
 ·refine⟨k,h1,by unfold ixS;rw[h2,Nat.zero_add],?_⟩
  rw[List.getElem?_eq_getElem h1,Option.some.injEq] at h4;rw[h4];exact List.contains_iff_mem.1 h5
theorem idxS_congr {α:Type} {p p':α→Bool}:∀ (l:List α) (q:Nat),(∀ a∈l,p a=p' a)→idxS p q l=idxS p' q l
 | [],_,_=>rfl
 | a :: l,q,h=>by
  simp only[idxS];rw[h a (by simp),idxS_congr l (q+1) fun b hb=>h b (by simp[hb])]
theorem ix_same {f:Int} {l:Lt} {g:List Mo} (h:OrbG f l g) {u v:Vc} (hu:cellB l u=true) (hv:cellB l v=true):(ixS l g v==ixS l g u)=(orbS l g v).contains u:=by
 rw[Bool.eq_iff_iff,beq_iff_eq,cM];constructor
 ·intro e;obtain⟨i,hi,e1,m1⟩:=ix_at h hv;obtain⟨j,hj,e2,m2⟩:=ix_at h hu;have:i=j:=by omega
  subst this;obtain⟨r,hr,er⟩:=List.mem_map.1 (gM hi);have hrc:cellB l r=true:=cellsS_cell (List.mem_filter.1 hr).1;rw[← er] at m1 m2;exact orb_trans h (orb_symm h hrc m1) m2
 ·intro hm;unfold ixS;refine idxS_congr _ 0 fun o ho=>?_;obtain⟨r,hr,rfl⟩:=List.mem_map.1 ho;have hrc:cellB l r=true:=cellsS_cell (List.mem_filter.1 hr).1;rw[Bool.eq_iff_iff,cM,cM];exact⟨fun hx=>orb_trans h hx hm,fun hx=>orb_trans h hx (orb_symm h hv hm)⟩
theorem nm_ix {l:Lt} (hl:IsL l) (g:List Mo) (x:Ma):nmS l (numsF l g) x=ixS l g (redS l x.1):=by
 unfold nmS;have e:numS l x.1=numS l (redS l x.1):=by unfold numS;rw[red_red hl]
 rw[e,List.getD_eq_getElem?_getD,numsF_get hl g (redS_isCell hl _)];rfl
end Go.Proofs.YtelgaemfnhnbmaaGreatDoor.X
