/- Plain facts: marks in lists of lists of vectors. -/
import Derived.Test.YtelgaemfnhnbmaaGreatDoorQtMJ
import Derived.Test.YtelgaemfnhnbmaaGreatDoorQzXRow
namespace Go.Proofs.YtelgaemfnhnbmaaGreatDoor.X
open Go
set_option linter.unusedSimpArgs false
set_option linter.unusedVariables false
def tot:List (List Vc)→Int
 | []=>0
 | o :: r=>2*(o.length:Int)+tot r
def Mk2 (k:Int):List (List Vc)→Prop
 | []=>True
 | o :: r=>MkV2 k o o.length∧Mk2 (k+2*(o.length:Int)) r
theorem pm_up:((pmQ.map numM).Pairwise fun a b=>ltL a b=true)∧((pmH.map numM).Pairwise fun a b=>ltL a b=true):=by decide +kernel
theorem pmS_up (f:Int):(pmS f).Pairwise fun a b=>ltL (numM a) (numM b)=true:=by
 unfold pmS;split
 ·exact List.pairwise_map.1 pm_up.1
 ·exact List.pairwise_map.1 pm_up.2
theorem ltM_fst {m n:Mo} (h:ltL (numM m.1) (numM n.1)=true):ltM m n=true:=by
 unfold ltM numMo;have e:∀ (a b c d:List Int),a.length=b.length→ltL a b=true→ltL (a++c) (b++d)=true:=by
  intro a
  induction a with
  | nil=>intro b c d hl h;cases b with
   | nil=>simp[ltL] at h
   | cons _ _=>simp at hl
  | cons x a ih =>
   intro b c d hl h;cases b with
   | nil=>simp at hl
   | cons y b =>
    simp only[List.cons_append,ltL] at h ⊢;cases hxy:x==y
    ·rw[hxy,cF] at h;rw[cF];exact h
    ·rw[hxy,cT] at h;rw[cT];exact ih b c d (by simpa using hl) h
 exact e _ _ _ _ rfl h
theorem ltM_snd {m:Mt} {u v:Vc} (h:ltV u v=true):ltM (m,u) (m,v)=true:=by
 unfold ltM numMo;have e:∀ (a c d:List Int),ltL c d=true→ltL (a++c) (a++d)=true:=by
  intro a
  induction a with
  | nil=>intro c d h;exact h
  | cons x a ih=>intro c d h;simp only[List.cons_append,ltL,beq_self_eq_true,cT];exact ih c d h
 exact e _ _ _ h
theorem ltV_fst {u v:Vc} (h:u.1<v.1):ltV u v=true:=by
 unfold ltV numV ltL;have e1:(u.1==v.1)=false:=by simp;omega
 rw[e1,cF,dT h]
theorem ltV_snd {x a b:Int} (h:a<b):ltV (x,a) (x,b)=true:=by
 unfold ltV numV ltL;simp only[beq_self_eq_true,cT];unfold ltL;have e1:(a==b)=false:=by simp;omega
 rw[e1,cF,dT h]
theorem cellsS_SI (l:Lt):SI (cellsS l):=by
 unfold SI cellsS;rw[List.pairwise_flatMap];refine⟨fun x _=>?_,?_⟩
 ·unfold rowS;refine List.pairwise_map.2 (List.Pairwise.imp (fun {a b} h=>ltV_snd (by omega)) List.pairwise_lt_range)
 ·refine List.Pairwise.imp (fun {a b} h u hu v hv=>?_) List.pairwise_lt_range;unfold rowS at hu hv;obtain⟨_,_,rfl⟩:=List.mem_map.1 hu;obtain⟨_,_,rfl⟩:=List.mem_map.1 hv;exact ltV_fst (by simp only;omega)
theorem groupS_up (p:Pt):(groupS p).Pairwise fun a b=>ltM a b=true:=by
 unfold groupS;rw[List.pairwise_flatMap];refine⟨fun m _=>?_,?_⟩
 ·unfold rowG;refine List.pairwise_map.2 (List.Pairwise.imp (fun {a b} h=>ltM_snd h) (List.Pairwise.sublist List.filter_sublist (cellsS_SI p.2.1)))
 ·refine List.Pairwise.imp (fun {a b} h u hu v hv=>?_) (List.Pairwise.sublist List.filter_sublist (pmS_up p.1));unfold rowG at hu hv;obtain⟨_,_,rfl⟩:=List.mem_map.1 hu;obtain⟨_,_,rfl⟩:=List.mem_map.1 hv;exact ltM_fst h
theorem groupS_iff {p:Pt} {m:Mo}:m∈groupS p↔m.1∈stabS p.1 p.2.1∧m.2∈cellsS p.2.1∧keepsS p m=true:=by
 unfold groupS rowG;simp only[List.mem_flatMap,List.mem_map,List.mem_filter];constructor
 ·rintro⟨a,ha,t,⟨ht,hk⟩,rfl⟩
  exact⟨ha,ht,hk⟩
 ·rintro⟨h1,h2,h3⟩
  exact⟨m.1,h1,m.2,⟨h2,h3⟩,rfl⟩
theorem pm_mul:((pmQ.all fun m=>pmQ.all fun n=>pmQ.contains (mmS m n))&&(pmH.all fun m=>pmH.all fun n=>pmH.contains (mmS m n)))=true:=by decide +kernel
theorem pmS_mul {f:Int} {m n:Mt} (hm:m∈pmS f) (hn:n∈pmS f):mmS m n∈pmS f:=by
 have h:=pm_mul;rw[aT] at h;unfold pmS at *;split
 ·rename_i e;rw[if_pos e] at hm hn;exact List.contains_iff_mem.1 (List.all_eq_true.1 (List.all_eq_true.1 h.1 m hm) n hn)
 ·rename_i e;rw[if_neg e] at hm hn;exact List.contains_iff_mem.1 (List.all_eq_true.1 (List.all_eq_true.1 h.2 m hm) n hn)
theorem pmS_one (f:Int):((1,0,0,1):Mt)∈pmS f:=by
 unfold pmS;split<;>decide
theorem stayL {l:Lt} (hl:IsL l) {m:Mt}:stayS l m=true↔InL l (mulS m (l.1,0))∧InL l (mulS m l.2):=by
 unfold stayS;rw[aT,beq_iff_eq,beq_iff_eq,redS_InL hl,redS_InL hl]
theorem InL_b1 (l:Lt):InL l (l.1,0):=⟨1,0,by simp⟩
theorem InL_b2 (l:Lt):InL l l.2:=⟨0,1,by simp⟩
theorem stab_mul {f:Int} {l:Lt} (hl:IsL l) {m n:Mt} (hm:m∈stabS f l) (hn:n∈stabS f l):mmS m n∈stabS f l:=by
 have hm1:=stab_stay hm;have hn1:=(stayL hl).1 (stab_stay hn);refine List.mem_filter.2 ⟨pmS_mul (List.mem_filter.1 hm).1 (List.mem_filter.1 hn).1,(stayL hl).2 ⟨?_,?_⟩⟩
 ·rw[mulS_mm];exact InL_mul hl hm1 hn1.1
 ·rw[mulS_mm];exact InL_mul hl hm1 hn1.2
theorem stab_one {f:Int} {l:Lt} (hl:IsL l):((1,0,0,1):Mt)∈stabS f l :=
 List.mem_filter.2 ⟨pmS_one f,(stayL hl).2 ⟨by rw[mulS_one];exact InL_b1 l,by rw[mulS_one];exact InL_b2 l⟩⟩
theorem atS_red {p:Pt} (hl:IsL p.2.1) (v:Vc):atS p (redS p.2.1 v)=atS p v:=by
 unfold atS numS;rw[red_red hl]
theorem keeps_iff {p:Pt} {m:Mo}:keepsS p m=true↔∀ v,cellB p.2.1 v=true→v∈cellsS p.2.1→atS p (appS m v)=atS p v:=by
 unfold keepsS;rw[List.all_eq_true];constructor
 ·intro h v _ hv;exact beq_iff_eq.1 (h v hv)
 ·intro h v hv;have:=mem_cellsS hv;exact beq_iff_eq.2 (h v (cellB_iff.2 (by omega)) hv)
theorem keep_mv {p:Pt} (hl:IsL p.2.1) {m:Mo} (h:keepsS p m=true) {v:Vc} (hv:cellB p.2.1 v=true):atS p (mvS p.2.1 m v)=atS p v:=by
 unfold mvS;rw[atS_red hl];exact keeps_iff.1 h v hv (cellB_mem hl hv)
theorem keep_of {p:Pt} (hl:IsL p.2.1) {m:Mo} (h:∀ v,cellB p.2.1 v=true→atS p (mvS p.2.1 m v)=atS p v):keepsS p m=true :=
 keeps_iff.2 fun v hv _=>by rw[← h v hv];unfold mvS;rw[atS_red hl]
theorem groupS_mul {p:Pt} (hl:IsL p.2.1) {m n:Mo} (hm:m∈groupS p) (hn:n∈groupS p):mulG p.2.1 m n∈groupS p:=by
 obtain⟨a1,a2,a3⟩:=groupS_iff.1 hm;obtain⟨b1,b2,b3⟩:=groupS_iff.1 hn;refine groupS_iff.2 ⟨stab_mul hl a1 b1,cellB_mem hl (redS_isCell hl _),keep_of hl fun v hv=>?_⟩;rw[← mv_mul hl a1 v,keep_mv hl a3 (show cellB p.2.1 (mvS p.2.1 n v)=true from redS_isCell hl _),keep_mv hl b3 hv]
theorem groupS_one {p:Pt} (hl:IsL p.2.1):uMo∈groupS p:=by
 have h0:cellB p.2.1 (0,0)=true:=cellB_iff.2 (by have:=hl.a1;have:=hl.c1;simp only;omega)
 refine groupS_iff.2 ⟨stab_one hl,cellB_mem hl h0,keep_of hl fun v hv=>?_⟩;rw[mv_one hl hv]
theorem allFrom_of {α:Type} {p:Nat→α→Bool}:∀ {l:List α} {q:Nat},(∀ i (h:i<l.length),p (q+i) l[i]=true)→allFrom p q l=true
 | [],_,_=>rfl
 | a :: l,q,h=>by
  have h0:=h 0 (by simp)
  have h1:=allFrom_of (p:=p) (l:=l) (q:=q+1) fun i hi=>by
   have:=h (i+1) (by simp;omega)
   have e:q+(i+1)=q+1+i:=by omega
   rw[e] at this;simpa using this
  simp only[allFrom];simp only[Nat.add_zero,List.getElem_cons_zero] at h0;rw[h0,h1];rfl
theorem grpB_of {f:Int} {l:Lt} (hl:IsL l) {g:List Mo} (h1:∀ m∈g,m.1∈stabS f l∧cellB l m.2=true) (h2:g.Pairwise fun a b=>ltM a b=true) (h3:uMo∈g) (h4:∀ m∈g,∀ n∈g,mulG l m n∈g):grpB f l g=true:=by
 unfold grpB;rw[aT,aT];refine⟨allFrom_of fun i hi=>?_,List.contains_iff_mem.2 h3,List.all_eq_true.2 fun m hm=>List.all_eq_true.2 fun n hn=>List.contains_iff_mem.2 (h4 m hm n hn)⟩;obtain⟨a1,a2⟩:=h1 _ (gM hi);unfold preP;rw[List.contains_iff_mem.2 a1,a2,Nat.zero_add];cases i with
 | zero=>rfl
 | succ j =>
  have:=List.pairwise_iff_getElem.1 h2 j (j+1) (by omega) hi (by omega)
  have e:(g.getD (j+1-1) dMo)=g[j]:=by simp[List.getD,show j<g.length by omega]
  rw[e,this];simp
theorem groupS_orb {p:Pt} (hp:IsP p):OrbG p.1 p.2.1 (groupS p):=by
 have hg:=grpB_of (f:=p.1) hp.l (g:=groupS p) (fun m hm=>by
  obtain⟨a1,a2,_⟩:=groupS_iff.1 hm;have:=mem_cellsS a2;exact⟨a1,cellB_iff.2 (by omega)⟩) (groupS_up p) (groupS_one hp.l) fun m hm n hn=>groupS_mul hp.l hm hn
 refine⟨hp.l,pre_of ?_,hg⟩;unfold grpB at hg;rw[aT] at hg;exact hg.1
def dP:Pt:=(0,(0,0,0),[])
theorem codeC_in (f:Int) (l:Lt) (g:List Mo) (b:Bool):codeC f l g b=bif codeC f l g true != 0 then codeC f l g true else bif b then 0 else 2:=by
 unfold codeC;cases okF f&&okL l<;>cases grpB f l g<;>cases b<;>rfl
theorem codeG_C (f:Int) (l:Lt) (g:List Mo):codeG f l g=codeC f l g true:=by
 unfold codeG codeC;rw[Bool.true_and]
theorem groupCode_C (f:Int) (l:Lt) {g:List Mo} (hn:g.length≤1048576):f198G KK f l [g]=some (codeC f l g true):=by
 rw[groupCode_eq f l hn,codeG_C]
def codeK (p:Pt) (g:List Mo):Int:=bif okP p then (if grpB p.1 p.2.1 g then 0 else 2) else 1
def keptS (p:Pt) (g:List Mo):Bool:=g.all (keepsS p)
theorem orbs_ne {f:Int} {l:Lt} {g:List Mo} (h:OrbG f l g) {o:List Vc} (ho:o∈orbsS l g):∃ x t,o=x :: t∧cellB l x=true:=by
 obtain⟨r,hr,rfl⟩:=List.mem_map.1 ho;have hc:cellB l r=true:=cellsS_cell (List.mem_filter.1 hr).1;obtain⟨x,t,e,_⟩:=orb_cons h hc;exact⟨x,t,e,orb_cell h (v:=r) (by rw[e];simp)⟩
def resOrb (f:Int) (l:Lt) (g:List Mo) (v:Vc):List Vc×Int:=bif codeC f l g (cellB l v) != 0 then ([],codeC f l g (cellB l v)) else (orbS l g v,0)
def seedS (l:Lt) (o:List Vc):List Int:=setAll l 1 o (List.replicate (cellsS l).length 0)
theorem make_ok {l:Lt} (hl:IsL l):(decide (0≤w (l.1*l.2.2))&&Nat.ble (w (l.1*l.2.2)).toNat (lim 8)&&(w (l.1*l.2.2)==w (l.1*l.2.2)))=true∧(w (l.1*l.2.2)).toNat=(cellsS l).length:=by
 have hN:=cellsS_le hl;rw[len_eq hl];have e5:(((cellsS l).length:Nat):Int).toNat=(cellsS l).length:=by omega
 rw[e5,in0,blim8 (by omega)]
 simp
def resSP (f:Int) (l:Lt) (g:List Mo) (v:Vc):Pt×Int:=bif codeC f l g (cellB l v) != 0 then ((0,(0,0,0),[]),codeC f l g (cellB l v)) else ((f,l,seedS l (orbS l g v)),0)
theorem reps_nodup {l:Lt} (hl:IsL l) (g:List Mo):(repsS l g).Nodup:=List.Pairwise.sublist List.filter_sublist (cellsS_nodup hl)
theorem reps_mem {l:Lt} {g:List Mo} {r:Vc} (h:r∈repsS l g):cellB l r=true∧repB l g r=true:=by
 obtain⟨h1,h2⟩:=List.mem_filter.1 h;exact⟨cellsS_cell h1,h2⟩
theorem orbs_apart {f:Int} {l:Lt} {g:List Mo} (h:OrbG f l g) {q:Nat} (hq:q<(orbsS l g).length) {u:Vc} (hu:u∈(orbsS l g)[q]):((orbsS l g).take q).any (fun o=>o.contains u)=false:=by
 cases hx:((orbsS l g).take q).any (fun o=>o.contains u)
 ·rfl
 ·exfalso;obtain⟨o,ho,hc⟩:=List.any_eq_true.1 hx;obtain⟨i,hi,rfl⟩:=List.getElem_of_mem ho;rw[List.length_take] at hi;rw[List.getElem_take] at hc;have hc:=List.contains_iff_mem.1 hc;have hql:q<(repsS l g).length:=by simpa[orbsS] using hq
  have hil:i<(repsS l g).length:=by omega
  have e1:(orbsS l g)[q]=orbS l g (repsS l g)[q]:=by simp[orbsS]
  have e2:(orbsS l g)[i]'(by omega)=orbS l g (repsS l g)[i]:=by simp[orbsS]
  rw[e1] at hu;rw[e2] at hc;obtain⟨c1,c2⟩:=reps_mem (gM hql);obtain⟨d1,d2⟩:=reps_mem (gM hil);have h5:(repsS l g)[q]∈orbS l g (repsS l g)[i]:=orb_trans h hc (orb_symm h c1 hu);have h6:=rep_one h d1 c1 d2 c2 h5;have:=(List.getElem_inj (reps_nodup h.la g)).1 h6;omega
theorem orbs_cell {f:Int} {l:Lt} {g:List Mo} (h:OrbG f l g) {o:List Vc} (ho:o∈orbsS l g):(∀ u∈o,cellB l u=true)∧o.length≤768:=by
 obtain⟨r,_,rfl⟩:=List.mem_map.1 ho;refine⟨fun u hu=>orb_cell h hu,?_⟩;have:=orbS_len l g r;have:=h.len;omega
theorem orbs_all {f:Int} {l:Lt} {g:List Mo} (h:OrbG f l g) {u:Vc} (hu:cellB l u=true):(orbsS l g).any (fun o=>o.contains u)=true:=by
 obtain⟨w,h1,h2,h3,_⟩:=rep_of h hu;refine List.any_eq_true.2 ⟨orbS l g w,List.mem_map.2 ⟨w,List.mem_filter.2 ⟨?_,h1⟩,rfl⟩,List.contains_iff_mem.2 h3⟩;exact cellB_mem h.la h2
theorem orbs_len {l:Lt} (hl:IsL l) (g:List Mo):(orbsS l g).length≤64:=by
 unfold orbsS repsS;rw[List.length_map];exact Nat.le_trans (List.length_filter_le _ _) (cellsS_le hl)
theorem numbers_in {f:Int} {l:Lt} {g:List Mo} (h:OrbG f l g) {q:Nat} (hq:q<(orbsS l g).length) {L:Int→List Int→Option (List Int)} {s:List Int} (hs:s.length=(cellsS l).length) :
  f153_l12 KK l g (q:Int) (orbsS l g) L KK 0 s=L (w ((q:Int)+1)) (setAll l (q:Int) (orbsS l g)[q] s):=by
 obtain⟨hoc,hol⟩:=orbs_cell h (gM hq);have hgo:(orbsS l g).getD ((0:Int)+(q:Int)).toNat []=(orbsS l g)[q]:=gd hq;have hh:=iter_fold (R:=List Int) (body:=fun L' x=>f153_b12 KK l g (q:Int) (orbsS l g) L (fun v0 v1=>L' (v0,v1)) x.1 x.2) (orbsS l g)[q] (fun i s=>((i:Int),s)) (fun s u=>s.set (numS l u) (q:Int)) (fun s=>L (w ((q:Int)+1)) s) (fun i s=>s.length=(cellsS l).length)
  (fun L' i s hi his=>by
   refine⟨by rw[List.length_set];exact his,?_⟩
   show f153_b12 KK l g (q:Int) (orbsS l g) L (fun v0 v1=>L' (v0,v1)) (i:Int) s=_;unfold f153_b12;have hlt:=numS_lt h.la ((orbsS l g)[q])[i];rw[in0,in1 hq,hgo,in0,in1 hi,gd hi];simp only[aS,cT];rw[l03Number_eq h.la (hoc _ (gM hi)),oB,in0,in1 (show numS l ((orbsS l g)[q])[i]<s.length by omega),w_succ (by omega)]
   have e1:((0:Int)+((numS l ((orbsS l g)[q])[i]:Nat):Int)).toNat=numS l ((orbsS l g)[q])[i]:=by omega
   simp only[aS,cT,e1])
  (fun L' s his=>by
   show f153_b12 KK l g (q:Int) (orbsS l g) L (fun v0 v1=>L' (v0,v1)) (((orbsS l g)[q]).length:Int) s=_;unfold f153_b12;rw[in0,in1 hq,hgo,out1];rfl) KK 0 s (by omega) (by simp only[KK];omega) hs
 rw[List.drop_zero] at hh;exact hh
theorem l07Numbers_eq {f:Int} {l:Lt} {g:List Mo} (h:OrbG f l g):f153G KK l g=some (numsF l g):=by
 have hN:=cellsS_le h.la;have hO:=orbs_len h.la g;obtain⟨r,hr,hh⟩:=iter_ex (X:=Int×List Int) (R:=List Int) (body:=fun L x=>f153_b9 KK l g (orbsS l g) (fun c0 d0 d1=>f153_l12 KK l g c0 (orbsS l g) (fun v0 v1=>L (v0,v1)) KK d0 d1) (fun v0 v1=>L (v0,v1)) x.1 x.2) (orbsS l g).length
  (fun q x=>x.1=(q:Int)∧x.2.length=(cellsS l).length∧∀ u,cellB l u=true→x.2[numS l u]? = some (bif ((orbsS l g).take q).any (fun o=>o.contains u) then idxS (fun o=>o.contains u) 0 ((orbsS l g).take q) else 0)) (fun r=>r=numsF l g)
  (fun L q x hq hP=>by
   obtain⟨c,s⟩:=x;obtain⟨rfl,hsl,hg⟩:=hP;simp only at hsl hg;refine⟨(((q+1:Nat):Int),setAll l (q:Int) (orbsS l g)[q] s),⟨rfl,by simp only[setAll_len];exact hsl,fun u hu=>?_⟩,?_⟩
   ·simp only;rw[setAll_get h.la _ hu _ _ (orbs_cell h (gM hq)).1 (by rw[hsl];exact numS_lt h.la u),tS hq,List.any_append,idxS_app]
    by_cases hm:u∈(orbsS l g)[q]
    ·have h1:=orbs_apart h hq hm;have h2:((orbsS l g)[q]).contains u=true:=List.contains_iff_mem.2 hm;rw[if_pos hm,h1];simp only[List.any_cons,List.any_nil,h2,Bool.or_false,oT,tO,Bool.false_or,cT,cF,idxS,List.length_take];congr 1;omega
    ·have h2:((orbsS l g)[q]).contains u=false:=by
      cases hc:((orbsS l g)[q]).contains u
      ·rfl
      ·exact absurd (List.contains_iff_mem.1 hc) hm
     rw[if_neg hm,hg u hu];simp only[List.any_cons,List.any_nil,h2,Bool.or_false,Bool.false_or];cases ((orbsS l g).take q).any (fun o=>o.contains u)<;>rfl
   ·show f153_b9 KK l g (orbsS l g) _ _ (q:Int) s=_;unfold f153_b9;rw[in1 hq,cT];refine (numbers_in h hq hsl).trans ?_;rw[w_succ (by omega)])
  (fun L x hP=>by
   obtain⟨c,s⟩:=x;obtain⟨rfl,hsl,hg⟩:=hP;simp only at hsl hg;refine⟨s,?_,?_⟩
   ·refine Num.all h.la ⟨hsl,fun u hu=>?_⟩;rw[hg u hu,List.take_length,orbs_all h hu,cT,orbT_all]
   ·show f153_b9 KK l g (orbsS l g) _ _ ((orbsS l g).length:Int) s=_;unfold f153_b9;rw[out1,cF]) KK 0 (0,List.replicate (cellsS l).length 0) (by omega) (by simp only[KK];omega)
  ⟨rfl,by simp,fun u hu=>by
   simp only;rw[List.getElem?_replicate,if_pos (numS_lt h.la u)];rfl⟩
 unfold f153G f153_g;obtain⟨e1,e2⟩:=make_ok h.la;rw[e1,cT,l07Orbits_eq h,oB,e2,← hr];exact hh
def resON (f:Int) (l:Lt) (g:List Mo):List Int×Int:=bif codeC f l g true != 0 then ([],codeC f l g true) else (numsF l g,0)
end Go.Proofs.YtelgaemfnhnbmaaGreatDoor.X
