/- The plain law of CompleteMarks: both sides give each cell the colour of the last mark in its orbit. -/
import Derived.Test.YtelgaemfnhnbmaaGreatDoorQtMS
import Derived.Test.YtelgaemfnhnbmaaGreatDoorQtPTwoColourPattern
namespace Go.Proofs.YtelgaemfnhnbmaaGreatDoor.X
open Go
set_option linter.unusedSimpArgs false
set_option linter.unusedVariables false
def lastS (l:Lt) (ns:List Int) (ms:List Ma) (rest k:Int):Int:=ms.foldl (fun c x=>bif nmS l ns x==k then x.2 else c) rest
def compS (l:Lt) (g:List Mo) (ms:List Ma) (rest:Int):List Int:=(numsF l g).map (lastS l (numsF l g) ms rest)
def icompS (l:Lt) (g:List Mo) (ms:List Ma) (s:List Int):List Int:=ms.foldl (fun s x=>setAll l x.2 (orbS l g (redS l x.1)) s) s
theorem icomp_in {f:Int} {l:Lt} {g:List Mo} {ms:List Ma} {rest:Int} {q:Nat} (hq:q<ms.length) (hqn:q≤1000) {y1:Int} {y2:Bool} {y3:Int×Int×Bool} {y5:Pt} {o:List Vc} (hl:IsL l) (ho:∀ u∈o,cellB l u=true) (hn:o.length≤1000) {L:Int→List Int→Option (Pt×Int)} {t:List Int} (ht:t.length=(cellsS l).length) :
  f87_l20 KK f l g ms rest (q:Int) y1 y2 y3 y5 o L KK 0 t=L ((q+1:Nat):Int) (setAll l ms[q].2 o t):=by
 have hh:=iter_fold (R:=Pt×Int) (body:=fun L' x=>f87_b20 KK f l g ms rest (q:Int) y1 y2 y3 y5 o L (fun v0 v1=>L' (v0,v1)) x.1 x.2) o (fun q s=>((q:Int),s)) (fun s u=>s.set (numS l u) ms[q].2) (fun t=>L ((q+1:Nat):Int) t) (fun q s=>s.length=(cellsS l).length)
  (fun L' i t hi hit=>by
   refine⟨by rw[List.length_set];exact hit,?_⟩
   show f87_b20 KK f l g ms rest (q:Int) y1 y2 y3 y5 o L (fun v0 v1=>L' (v0,v1)) (i:Int) t=_;unfold f87_b20;have hlt:=numS_lt hl o[i];rw[in1 hi,in0,gd hi,gd hq];simp only[aS,cT];rw[number_eq hl (ho _ (gM hi)),oB,in0,in1 (show numS l o[i]<t.length by omega),w_succ (by omega)]
   have e1:((0:Int)+((numS l o[i]:Nat):Int)).toNat=numS l o[i]:=by omega
   simp only[aS,cT,e1])
  (fun L' t hit=>by
   show f87_b20 KK f l g ms rest (q:Int) y1 y2 y3 y5 o L (fun v0 v1=>L' (v0,v1)) (o.length:Int) t=_;unfold f87_b20;rw[out1,cF,w_succ (by omega)]) KK 0 t (by omega) (by simp only[KK];omega) ht
 rw[List.drop_zero] at hh;exact hh
theorem icomp_loop {f:Int} {l:Lt} {g:List Mo} (h:OrbG f l g) {ms:List Ma} (hm:∀ x∈ms,vecB x.1=true) (hn:ms.length≤1000) {rest y1:Int} {y2:Bool} {y3:Int×Int×Bool} {y5:List Int} {t:List Int} (ht:t.length=(cellsS l).length):f87_l15 KK f l g ms rest y1 y2 y3 (f,l,y5) KK 0 t=some ((f,l,icompS l g ms t),0):=by
 have hgl:=h.len;have hh:=iter_fold (R:=Pt×Int) (body:=fun L x=>f87_b15 KK f l g ms rest y1 y2 y3 (f,l,y5) (fun c0 c1 d0 d1=>f87_l20 KK f l g ms rest c0 y1 y2 y3 (f,l,y5) c1 (fun v0 v1=>L (v0,v1)) KK d0 d1) (fun v0 v1=>L (v0,v1)) x.1 x.2) ms (fun q s=>((q:Int),s)) (fun s x=>setAll l x.2 (orbS l g (redS l x.1)) s) (fun s=>some ((f,l,s),0)) (fun q s=>s.length=(cellsS l).length)
  (fun L q t hq hi=>by
   refine⟨by rw[setAll_len];exact hi,?_⟩
   show f87_b15 KK f l g ms rest y1 y2 y3 (f,l,y5) _ (fun v0 v1=>L (v0,v1)) (q:Int) t=_;unfold f87_b15;have hc:=redS_isCell h.la ms[q].1;rw[in1 hq,in0,gd hq,reduce_eq h.la (vec_Sm (hm _ (gM hq)))];simp only[aS,cT,oB];rw[orbitOf_eq h.la (by omega) h.good (cellB_Sv h.la hc),oB]
   exact icomp_in hq (by omega) h.la (fun u hu=>orb_cell h hu) (by have:=orbS_len l g (redS l ms[q].1);omega) hi)
  (fun L t hi=>by
   show f87_b15 KK f l g ms rest y1 y2 y3 (f,l,y5) _ (fun v0 v1=>L (v0,v1)) (ms.length:Int) t=_;unfold f87_b15;rw[out1,cF]) KK 0 t (by omega) (by simp only[KK];omega) ht
 rw[List.drop_zero] at hh;exact hh
theorem icomp_get {f:Int} {l:Lt} {g:List Mo} (h:OrbG f l g) {u:Vc} (hu:cellB l u=true):∀ (ms:List Ma) (s:List Int) (c:Int),s.length=(cellsS l).length→s[numS l u]? = some c→(icompS l g ms s)[numS l u]? = some (lastS l (numsF l g) ms c (ixS l g u))
 | [],s,c,_,hc=>hc
 | x :: ms,s,c,hs,hc=>by
  show (icompS l g ms (setAll l x.2 (orbS l g (redS l x.1)) s))[numS l u]? = some (lastS l (numsF l g) ms (bif nmS l (numsF l g) x==ixS l g u then x.2 else c) (ixS l g u));refine icomp_get h hu ms _ _ (by rw[setAll_len];exact hs) ?_
  rw[setAll_get h.la _ hu _ _ (fun y hy=>orb_cell h hy) (by rw[hs];exact numS_lt h.la u),nm_ix h.la,ix_same h hu (redS_isCell h.la _),hc]
  by_cases hm:u∈orbS l g (redS l x.1)
  ·rw[if_pos hm,List.contains_iff_mem.2 hm];rfl
  ·rw[if_neg hm];have:(orbS l g (redS l x.1)).contains u=false:=by
    cases hx:(orbS l g (redS l x.1)).contains u
    ·rfl
    ·exact absurd (List.contains_iff_mem.1 hx) hm
   rw[this];rfl
theorem icompS_len (l:Lt) (g:List Mo):∀ (ms:List Ma) (s:List Int),(icompS l g ms s).length=s.length
 | [],_=>rfl
 | x :: ms,s=>by
  show (icompS l g ms (setAll l x.2 (orbS l g (redS l x.1)) s)).length=_;rw[icompS_len l g ms,setAll_len]
theorem setCells {l:Lt} (hl:IsL l) (c:Int):setAll l c (cellsS l) (List.replicate (cellsS l).length 0)=List.replicate (cellsS l).length c:=by
 apply List.ext_getElem?
 intro k;by_cases hk:k<(cellsS l).length
 ·have hc:cellB l (cellsS l)[k]=true:=cellsS_cell (gM hk);have e:=cellsS_num hl hk;have:=setAll_get hl c hc (cellsS l) (List.replicate (cellsS l).length 0) (fun x hx=>cellsS_cell hx) (by simp;omega)
  rw[e,if_pos (gM hk)] at this;rw[this,List.getElem?_replicate,if_pos hk]
 ·rw[List.getElem?_eq_none (by rw[setAll_len];simp;omega),List.getElem?_eq_none (by simp;omega)]
theorem comp_same {f:Int} {l:Lt} {g:List Mo} (h:OrbG f l g) (ms:List Ma) (rest:Int):icompS l g ms (List.replicate (cellsS l).length rest)=compS l g ms rest:=by
 apply List.ext_getElem?
 intro k;by_cases hk:k<(cellsS l).length
 ·have hc:cellB l (cellsS l)[k]=true:=cellsS_cell (gM hk);have e:=cellsS_num h.la hk;have h1:=icomp_get h hc ms (List.replicate (cellsS l).length rest) rest (by simp) (by rw[List.getElem?_replicate,if_pos (numS_lt h.la _)])
  rw[e] at h1;rw[h1];unfold compS;have h2:=numsF_get h.la g hc;rw[e] at h2;rw[List.getElem?_map,h2];rfl
 ·rw[List.getElem?_eq_none (by rw[icompS_len];simp;omega),List.getElem?_eq_none (by unfold compS;rw[List.length_map,numsF_len'];omega)]
def resCM (f:Int) (l:Lt) (g:List Mo) (ms:List Ma) (rest:Int):Pt×Int:=bif codeC f l g (marksB ms) != 0 then (dP,codeC f l g (marksB ms)) else bif okC rest then (bif (cfO l (numsF l g) ms 0 ms).2.2 then (dP,5) else ((f,l,compS l g ms rest),0)) else (dP,2)
theorem implCM_eq (f:Int) (l:Lt) {g:List Mo} (hn:g.length≤1048576) (ms:List Ma) (rest:Int):f87G KK f l g ms rest=some (resCM f l g ms rest):=by
 unfold f87G f87_g resCM;rw[marksCode_eq f l hn,oB];cases h:codeC f l g (marksB ms) != 0
 ·have h0:codeC f l g (marksB ms)=0:=by simpa using h
  obtain⟨hG,hb⟩:=codeC_0 h0;obtain⟨hv,hl⟩:=marks_of hb;have hN:=cellsS_le hG.la;simp only[cF];unfold f147G;rw[within_eq,oB,oB,show decide (0≤rest∧rest≤9)=okC rest from rfl]
  cases okC rest
  ·rfl
  ·simp only[nT,cF,cT];rw[conflictOf_eq hG hv (by omega),oB]
   cases (cfO l (numsF l g) ms 0 ms).2.2
   ·simp only[cF];rw[cells_eq hG.la,oB,marked_gen hG.la f rest (fun u hu=>cellsS_cell hu) (by omega),oB,setCells hG.la]
    refine (icomp_loop hG hv (by omega) (by simp)).trans ?_
    rw[comp_same hG]
   ·rfl
 ·simp only[cT];rfl
end Go.Proofs.YtelgaemfnhnbmaaGreatDoor.X
