/- Plain facts: point matrices, suitable motions, the order of motions. -/
import Derived.Test.YtelgaemfnhnbmaaGreatDoorQtMA
namespace Go.Proofs.YtelgaemfnhnbmaaGreatDoor.X
open Go
set_option linter.unusedSimpArgs false
attribute [local instance] cwD
set_option linter.unusedVariables false
def allFrom {α:Type} (p:Nat→α→Bool):Nat→List α→Bool
 | _,[]=>true
 | q,a :: r=>p q a&&allFrom p (q+1) r
theorem iter_scan {X R S α:Type} {body:(X→Option R)→X→Option R} (l:List α) (fr:Nat→S→X) (p:Nat→α→Bool) (step:S→α→S) (no:Option R) (fin:S→Option R) (inv:Nat→S→Prop)
  (h1:∀ L q s (hq:q<l.length),inv q s→(p q l[q]=true→inv (q+1) (step s l[q]))∧body L (fr q s)=bif p q l[q] then L (fr (q+1) (step s l[q])) else no)
  (h2:∀ L s,inv l.length s→body L (fr l.length s)=fin s):∀ n q s,q≤l.length→l.length-q<n→inv q s→iter body n (fr q s)=bif allFrom p q (l.drop q) then fin ((l.drop q).foldl step s) else no
 | 0,q,s,_,hn,_=>by omega
 | n+1,q,s,hq,hn,hi=>by
  show body (iter body n) (fr q s)=_;by_cases hlt:q<l.length
  ·obtain⟨h3,h4⟩:=h1 (iter body n) q s hlt hi;rw[h4,dC hlt];simp only[allFrom,List.foldl_cons];cases hp:p q l[q]
   ·simp
   ·rw[cT,iter_scan l fr p step no fin inv h1 h2 n (q+1) _ hlt (by omega) (h3 hp),Bool.true_and]
  ·have:q=l.length:=by omega
   subst this;rw[h2 _ _ hi];simp[allFrom]
theorem allFrom_get {α:Type} {p:Nat→α→Bool}:∀ {l:List α} {q:Nat},allFrom p q l=true→∀ i (hi:i<l.length),p (q+i) l[i]=true
 | [],_,_,i,hi=>by simp at hi
 | a :: l,q,h,i,hi=>by
  simp only[allFrom,aT] at h;cases i with
  | zero=>exact h.1
  | succ i =>
   have:=allFrom_get h.2 i (by simpa using hi)
   rw[show q+(i+1)=q+1+i by omega]
   exact this
def normS (f:Int) (v:Vc):Int:=v.1*v.1+f*v.1*v.2+v.2*v.2
def keepS (f:Int) (m:Mt):Bool:=(normS f (m.1,m.2.2.1)==1)&&(normS f (m.2.1,m.2.2.2)==1)&&(normS f (m.1+m.2.1,m.2.2.1+m.2.2.2)==2+f)
def vecB (v:Vc):Bool:=decide (-1000≤v.1∧v.1≤1000)&&decide (-1000≤v.2∧v.2≤1000)
theorem vecB_iff {v:Vc}:vecB v=true↔(-1000≤v.1∧v.1≤1000)∧(-1000≤v.2∧v.2≤1000):=by
 unfold vecB;simp only[aT,dE]
theorem specIsVec_eq (v:Vc):f134G KK v=some (vecB v):=by
 unfold f134G vecB;simp only[in_eq,oB,oT,tO,cT];by_cases h : -1000≤v.1∧v.1≤1000<;>simp[h]
theorem isVec_eq (v:Vc):f112G KK v=some (vecB v):=by
 unfold f112G f176G vecB;simp only[within_eq,oB,oT,tO,cT];by_cases h : -1000≤v.1∧v.1≤1000<;>simp[h]
theorem prod_bound {a b B:Int} (hB:0≤B) (h1 : -B≤a∧a≤B) (h2 : -B≤b∧b≤B) : -(B*B)≤a*b∧a*b≤B*B:=by
 have hh:(a*b).natAbs≤B.natAbs*B.natAbs:=by
  rw[Int.natAbs_mul];exact Nat.mul_le_mul (by omega) (by omega)
 have e:((B.natAbs*B.natAbs:Nat):Int)=B*B:=by
  rw[Int.natCast_mul];have:(B.natAbs:Int)=B:=by omega
  rw[this]
 omega
def smallB (m:Mt):Bool:=vecB (m.1,m.2.1)&&vecB m.2.2
def suitB (f:Int) (l:Lt) (m:Mo):Bool:=(stabS f l).contains m.1&&vecB m.2
def cmpL:List Int→List Int→Int
 | a :: r,b :: s=>bif a==b then cmpL r s else (if a<b then -1 else 1)
 | _,_=>0
def ltL:List Int→List Int→Bool
 | a :: r,b :: s=>bif a==b then ltL r s else decide (a<b)
 | _,_=>false
theorem cmpL_lt:∀ (a b:List Int),(decide (cmpL a b≥0))=!ltL a b
 | [],_=>rfl
 | _ :: _,[]=>rfl
 | a :: r,b :: s=>by
  have ih:=cmpL_lt r s;by_cases h:a=b
  ·subst h;simpa[cmpL,ltL] using ih
  ·have h1:(a==b)=false:=by rw[bN];exact h
   simp only[cmpL,ltL,h1,cF];by_cases h2:a<b<;>simp[h2]
theorem cmpL_app:∀ {a b:List Int} (c d:List Int),a.length=b.length→cmpL (a++c) (b++d)=if cmpL a b=0 then cmpL c d else cmpL a b
 | [],[],c,d,_=>by simp[cmpL]
 | a :: r,b :: s,c,d,h=>by
  have ih:=cmpL_app (a:=r) (b:=s) c d (by simpa using h)
  by_cases h1:a=b
  ·subst h1;simpa[cmpL] using ih
  ·have h2:(a==b)=false:=by rw[bN];exact h1
   simp only[List.cons_append,cmpL,h2,cF];by_cases h3:a<b<;>simp[h3]
theorem ltL_irrefl:∀ a:List Int,ltL a a=false
 | []=>rfl
 | a :: r=>by simp[ltL,ltL_irrefl r]
theorem ltL_trans:∀ {a b c:List Int},ltL a b=true→ltL b c=true→ltL a c=true
 | [],_,_,h,_=>by simp[ltL] at h
 | _ :: _,[],_,h,_=>by simp[ltL] at h
 | _ :: _,_ :: _,[],_,h=>by simp[ltL] at h
 | a :: r,b :: s,c :: t,h,h'=>by
  simp only[ltL] at h h' ⊢;cases h1:a==b<;>rw[h1] at h<;>cases h2:b==c<;>rw[h2] at h'<;>simp only[cT,cF,dE] at h h'
  ·have:(a==c)=false:=by rw[bN];omega
   rw[this,cF,dE];omega
  ·have e2:=eq_of_beq h2;subst e2;rw[h1,cF,dE];exact h
  ·have e1:=eq_of_beq h1;subst e1;rw[h2,cF,dE];exact h'
  ·have e1:=eq_of_beq h1;subst e1;rw[h2,cT];exact ltL_trans h h'
theorem ltL_tri:∀ {a b:List Int},a.length=b.length→ltL a b=false→ltL b a=false→a=b
 | [],[],_,_,_=>rfl
 | a :: r,b :: s,hl,h,h'=>by
  simp only[ltL] at h h';cases h1:a==b
  ·have h2:(b==a)=false:=by rw[bN] at h1 ⊢;exact fun e=>h1 e.symm
   rw[h1,cF,decide_eq_false_iff_not] at h;rw[h2,cF,decide_eq_false_iff_not] at h';rw[bN] at h1;omega
  ·have e:=eq_of_beq h1;subst e;simp only[BEq.rfl,cT] at h h';rw[ltL_tri (by simpa using hl) h h']
theorem compareNumbers_loop {a b:List Int} (hl:a.length=b.length) (hn:a.length≤1000):∀ n q,q≤a.length→a.length-q<n→f169_l2 KK a b n (q:Int)=some (cmpL (a.drop q) (b.drop q))
 | 0,q,_,h=>by omega
 | n+1,q,hq,h=>by
  show f169_b2 KK a b (fun v0=>f169_l2 KK a b n v0) (q:Int)=_;unfold f169_b2;by_cases hlt:q<a.length
  ·have hlt':q<b.length:=by omega
   rw[in1 hlt,in1 hlt',in0,gd hlt,gd hlt',dC hlt,dC hlt'];simp only[aS,cT,cmpL];cases h1:a[q]==b[q]
   ·have:(a[q] != b[q])=true:=by simp[bne,h1]
    rw[this,cT,cF];by_cases h2:a[q]<b[q]<;>simp[h2]
   ·have:(a[q] != b[q])=false:=by simp[bne,h1]
    rw[this,cF,cT,w_succ (by omega)]
    exact compareNumbers_loop hl hn n (q+1) hlt (by omega)
  ·have e:q=a.length:=by omega
   subst e;rw[out1,cF,List.drop_length];rfl
theorem compareNumbers_eq {a b:List Int} (hl:a.length=b.length) (hn:a.length≤1000):f169G KK a b=some (cmpL a b):=by
 unfold f169G f169_g;have:=compareNumbers_loop hl hn KK 0 (by omega) (by have:=KKlt (n:=a.length) (by omega);omega)
 simpa using this
def numV (v:Vc):List Int:=[v.1,v.2]
def numM (m:Mt):List Int:=[m.1,m.2.1,m.2.2.1,m.2.2.2]
def numMo (m:Mo):List Int:=numM m.1++numV m.2
def ltV (u v:Vc):Bool:=ltL (numV u) (numV v)
def ltM (m n:Mo):Bool:=ltL (numMo m) (numMo n)
theorem numMo_inj {m n:Mo} (h:numMo m=numMo n):m=n:=by
 simp only[numMo,numM,numV,List.cons_append,List.nil_append,List.cons.injEq,and_true] at h;obtain⟨h1,h2,h3,h4,h5,h6⟩:=h;exact Prod.ext (Prod.ext h1 (Prod.ext h2 (Prod.ext h3 h4))) (Prod.ext h5 h6)
theorem numV_inj {m n:Vc} (h:numV m=numV n):m=n:=by
 simp only[numV,List.cons.injEq,and_true] at h;exact Prod.ext h.1 h.2
theorem compareVecs_eq (u v:Vc):f104G KK u v=some (cmpL (numV u) (numV v)):=by
 unfold f104G;rw[compareNumbers_eq (by rfl) (by simp)]
 rfl
theorem compareMotions_eq (m n:Mo):f52G KK m n=some (cmpL (numMo m) (numMo n)):=by
 unfold f52G f103G;rw[compareNumbers_eq (by rfl) (by simp),compareVecs_eq]
 simp only[oB];unfold numMo;rw[cmpL_app _ _ (by rfl)]
 unfold numM;generalize cmpL [m.1.1,m.1.2.1,m.1.2.2.1,m.1.2.2.2] [n.1.1,n.1.2.1,n.1.2.2.1,n.1.2.2.2]=c;by_cases h:c=0
 ·simp[h]
 ·have:(c != 0)=true:=by simp[h]
  rw[this,if_neg h,cT]
theorem l01Less_eq (u v:Vc):f186G KK u v=some (ltV u v):=by
 unfold f186G
 try simp only[oT,tO,cT]
 simp only[ltV,numV,ltL];congr 1;by_cases h1:u.1<v.1
 ·have:(u.1==v.1)=false:=by rw[bN];omega
  simp[h1,this]
 ·by_cases h2:u.1=v.1
  ·by_cases h3:u.2=v.2<;>simp[h2,h3]
  ·have:(u.1==v.1)=false:=by rw[bN];exact h2
   simp[h1,this]
theorem lessList_loop {a b:List Int} (hl:a.length=b.length) (hn:a.length≤1000):∀ n q,q≤a.length→a.length-q<n→f223_l2 KK a b n (q:Int)=some (ltL (a.drop q) (b.drop q))
 | 0,q,_,h=>by omega
 | n+1,q,hq,h=>by
  show f223_b2 KK a b (fun v0=>f223_l2 KK a b n v0) (q:Int)=_;unfold f223_b2;simp only[oT,tO,cT];by_cases hlt:q<a.length
  ·have hlt':q<b.length:=by omega
   rw[in1 hlt,in1 hlt',in0,gd hlt,gd hlt',dC hlt,dC hlt'];simp only[aS,cT,ltL];cases h1:a[q]==b[q]
   ·have:(a[q] != b[q])=true:=by simp[bne,h1]
    rw[this,cT,cF]
   ·have:(a[q] != b[q])=false:=by simp[bne,h1]
    rw[this,cF,cT,w_succ (by omega)]
    exact lessList_loop hl hn n (q+1) hlt (by omega)
  ·have e:q=a.length:=by omega
   subst e;rw[out1,cF,List.drop_length,hl];simp[ltL]
theorem l05Less_eq (m n:Mo):f127G KK m n=some (ltM m n):=by
 unfold f127G f185G f135G f223G f223_g;simp only[oB];have h1:=lessList_loop (a:=numM m.1) (b:=numM n.1) rfl (by simp[numM]) KK 0 (by omega) (by have:=KKlt (n:=4) (by omega);simp[numM];omega)
 have h1':f223_l2 KK [m.1.1,m.1.2.1,m.1.2.2.1,m.1.2.2.2] [n.1.1,n.1.2.1,n.1.2.2.1,n.1.2.2.2] KK 0=some (ltL (numM m.1) (numM n.1)):=h1;rw[h1',l01Less_eq];simp only[oB];unfold ltM numMo ltV numM;cases e1:m.1.1==n.1.1<;>cases e2:m.1.2.1==n.1.2.1<;>cases e3:m.1.2.2.1==n.1.2.2.1<;>cases e4:m.1.2.2.2==n.1.2.2.2<;>simp[ltL,e1,e2,e3,e4]
def cellB (l:Lt) (v:Vc):Bool:=decide (0≤v.1∧v.1≤l.1-1)&&decide (0≤v.2∧v.2≤l.2.2-1)
theorem cellB_iff {l:Lt} {v:Vc}:cellB l v=true↔(0≤v.1∧v.1≤l.1-1)∧(0≤v.2∧v.2≤l.2.2-1):=by
 unfold cellB;simp only[aT,dE]
theorem redS_cell {l:Lt} (hl:IsL l) {v:Vc} (h:cellB l v=true):redS l v=v:=by
 obtain⟨⟨h1,h2⟩,h3,h4⟩:=cellB_iff.1 h;unfold redS;have e1:v.2 / l.2.2=0:=Int.ediv_eq_zero_of_lt h3 (by omega)
 have e2:v.2 % l.2.2=v.2:=Int.emod_eq_of_lt h3 (by omega)
 rw[e1,e2,Int.zero_mul,Int.sub_zero,Int.emod_eq_of_lt h1 (by omega)]
theorem redS_isCell {l:Lt} (hl:IsL l) (v:Vc):cellB l (redS l v)=true:=by
 obtain⟨h1,h2,h3,h4⟩:=redS_bounds hl v;rw[cellB_iff];omega
theorem cell_bounds {l:Lt} (hl:IsL l) {v:Vc} (h:cellB l v=true):0≤v.1∧v.1≤63∧0≤v.2∧v.2≤63:=by
 obtain⟨⟨h1,h2⟩,h3,h4⟩:=cellB_iff.1 h;have:=hl.a2;have:=hl.c2;omega
theorem cellB_Sv {l:Lt} (hl:IsL l) {v:Vc} (h:cellB l v=true):Sv v:=by
 have:=cell_bounds hl h;simp only[Sv];omega
theorem reduce_same {l:Lt} (hl:IsL l) (v:Vc):∃ r,f97G KK l v=some r∧(r.1==v.1&&r.2==v.2)=cellB l v:=by
 cases h:cellB l v with
 | true=>exact⟨_,reduce_eq hl (Sv_Sm (cellB_Sv hl h)),by rw[redS_cell hl h];simp⟩
 | false =>
  unfold f97G;have h0:(l.2.2 != 0)=true:=by have:=hl.c1;simp;omega
  rw[mod_eq hl.c1 (by have:=hl.c2;omega)]
  simp only[oB,h0,cT];rw[mod_eq hl.a1 (by have:=hl.a2;omega)]
  refine⟨_,rfl,?_⟩;cases h2:((w (v.1-w (w ((w (v.2-v.2 % l.2.2)).tdiv l.2.2)*l.2.1))) % l.1==v.1&&v.2 % l.2.2==v.2) with
  | false=>rfl
  | true =>
   rw[aT,beq_iff_eq,beq_iff_eq] at h2;have hc:=hl.c1;have ha:=hl.a1;have b1:=Int.emod_nonneg (w (v.1-w (w ((w (v.2-v.2 % l.2.2)).tdiv l.2.2)*l.2.1))) (show l.1≠0 by omega)
   have b2:=Int.emod_lt_of_pos (w (v.1-w (w ((w (v.2-v.2 % l.2.2)).tdiv l.2.2)*l.2.1))) (show 0<l.1 by omega)
   have b3:=Int.emod_nonneg v.2 (show l.2.2≠0 by omega)
   have b4:=Int.emod_lt_of_pos v.2 (show 0<l.2.2 by omega)
   rw[h2.1] at b1 b2;rw[h2.2] at b3 b4;have:cellB l v=true:=by rw[cellB_iff];omega
   rw[h] at this;cases this
theorem idxS_any {α:Type} (p:α→Bool):∀ (l:List α) (q:Nat),decide (idxS p q l≥0)=l.any p
 | [],_=>rfl
 | a :: l,q=>by
  have ih:=idxS_any p l (q+1);cases h:p a with
  | false=>simpa[idxS,h] using ih
  | true=>simp[idxS,h]
theorem eqMt (m n:Mt):((m.1==n.1)&&((m.2.1==n.2.1)&&((m.2.2.1==n.2.2.1)&&(m.2.2.2==n.2.2.2))))=(m==n):=by
 rw[Bool.eq_iff_iff];simp only[aT,beq_iff_eq,Prod.ext_iff]
theorem eqMo (m n:Mo):((m.1.1==n.1.1)&&((m.1.2.1==n.1.2.1)&&((m.1.2.2.1==n.1.2.2.1)&&((m.1.2.2.2==n.1.2.2.2)&&((m.2.1==n.2.1)&&(m.2.2==n.2.2))))))=(m==n):=by
 rw[Bool.eq_iff_iff];simp only[aT,beq_iff_eq,Prod.ext_iff,and_assoc]
theorem containsMat_eq {l:List Mt} (hn:l.length≤1000) (m:Mt):f236G KK l m=some (l.contains m):=by
 have hidx:f256G KK l m=some (idxS (fun a=>m==a) 0 l):=by
  have h:=iter_idx (R:=Int) (body:=fun L x=>f256_b2 KK l m (fun v0=>L v0) x) l (fun a=>m==a) some
   (fun L q hq=>by
    unfold f256_b2;rw[in1 hq,in0,gd hq];simp only[aS,cT];rw[eqMt,w_succ (by omega)])
   (fun L=>by
    unfold f256_b2;rw[out1,cF]) KK 0 (by omega) (by have:=KKlt (n:=l.length) (by omega);omega)
  unfold f256G f256_g f256_l2;exact h
 unfold f236G;rw[hidx,oB,idxS_any];congr 1;rw[List.contains_eq_any_beq]
theorem mfind_mput {K:Sh} (hK:K.flat=true) {β:Type}:∀ (xs:List (K.T×β)) (k x:K.T) (v:β),mfind (eqSh K) (mput (eqSh K) xs k v) x=bif eqSh K x k then some v else mfind (eqSh K) xs x
 | [],k,x,v=>by simp[mput,mfind]
 | p :: r,k,x,v=>by
  simp only[mput];cases h:eqSh K k p.1
  ·simp only[cF,mfind];rw[mfind_mput hK r k x v];cases h1:eqSh K x p.1
   ·simp
   ·have e1:=(eqSh_iff K hK _ _).1 h1;cases h2:eqSh K x k
    ·simp
    ·have e2:=(eqSh_iff K hK _ _).1 h2;have:eqSh K k p.1=true:=(eqSh_iff K hK _ _).2 (e2.symm.trans e1);rw[h] at this;cases this
  ·have e:=(eqSh_iff K hK _ _).1 h;simp only[cT,mfind,← e];cases eqSh K x k<;>rfl
theorem mfind_fold {K:Sh} (hK:K.flat=true) [DecidableEq K.T]:∀ (l:List K.T) (xs:List (K.T×Bool)) (x:K.T),(mfind (eqSh K) (l.foldl (fun s a=>mput (eqSh K) s a true) xs) x).getD false=(decide (x∈l)||(mfind (eqSh K) xs x).getD false)
 | [],xs,x=>by simp
 | a :: l,xs,x=>by
  rw[List.foldl_cons,mfind_fold hK l,mfind_mput hK];cases h:eqSh K x a
  ·have:x≠a:=fun e=>by rw[(eqSh_iff K hK x a).2 e] at h;cases h
   simp[this]
  ·have:=(eqSh_iff K hK x a).1 h;simp[this]
abbrev shMo:Sh:=.cons (.cons (.int .i64) (.cons (.int .i64) (.cons (.int .i64) (.int .i64)))) (.cons (.int .i64) (.int .i64))
def mapMo (g:List Mo):List (Mo×Bool):=g.foldl (fun s a=>mput (eqSh shMo) s a true) []
theorem mapMo_find (g:List Mo) (x:Mo):(mfind (eqSh shMo) (mapMo g) x).getD false=g.contains x:=by
 have h:=mfind_fold (K:=shMo) rfl g [] x;refine Eq.trans h ?_;simp[mfind,List.contains_eq_mem]
def mmS (m n:Mt):Mt:=(m.1*n.1+m.2.1*n.2.2.1,m.1*n.2.1+m.2.1*n.2.2.2,m.2.2.1*n.1+m.2.2.2*n.2.2.1,m.2.2.1*n.2.1+m.2.2.2*n.2.2.2)
def mulG (l:Lt) (m n:Mo):Mo:=(mmS m.1 n.1,redS l (appS m n.2))
theorem mm_calc {m n:Mt} (hm:SmM m) (hn:SmM n):((w ((w (m.1*n.1))+(w (m.2.1*n.2.2.1)))),(w ((w (m.1*n.2.1))+(w (m.2.1*n.2.2.2)))),(w ((w (m.2.2.1*n.1))+(w (m.2.2.2*n.2.2.1)))),(w ((w (m.2.2.1*n.2.1))+(w (m.2.2.2*n.2.2.2)))))=mmS m n:=by
 obtain⟨a,b,c,d⟩:=hm;obtain⟨a',b',c',d'⟩:=hn;have h:∀ {x y:Int},(-1≤x∧x≤1)→(-1≤y∧y≤1)→-1≤x*y∧x*y≤1:=fun {x y} hx hy=>by
  have:=unit_mul hx (B:=1) (x:=y) (by omega) (by omega) (by omega)
  omega
 have h1:=h a a';have h2:=h b c';have h3:=h a b';have h4:=h b d';have h5:=h c a';have h6:=h d c';have h7:=h c b';have h8:=h d d'
 unfold mmS;rw[w_id (n:=m.1*n.1) (by omega) (by omega),w_id (n:=m.2.1*n.2.2.1) (by omega) (by omega),w_id (n:=m.1*n.2.1) (by omega) (by omega),w_id (n:=m.2.1*n.2.2.2) (by omega) (by omega),w_id (n:=m.2.2.1*n.1) (by omega) (by omega),w_id (n:=m.2.2.2*n.2.2.1) (by omega) (by omega),w_id (n:=m.2.2.1*n.2.1) (by omega) (by omega),w_id (n:=m.2.2.2*n.2.2.2) (by omega) (by omega)]
 rw[w_id (n:=m.1*n.1+m.2.1*n.2.2.1) (by omega) (by omega),w_id (n:=m.1*n.2.1+m.2.1*n.2.2.2) (by omega) (by omega),w_id (n:=m.2.2.1*n.1+m.2.2.2*n.2.2.1) (by omega) (by omega),w_id (n:=m.2.2.1*n.2.1+m.2.2.2*n.2.2.2) (by omega) (by omega)]
def GoodG (m:Mo):Prop:=m.1∈pmQ++pmH∧Sv m.2
theorem app_calc {m:Mt×Vc} (hm:SmM m.1) {v:Vc} (hv:Sv v) (ht:Sv m.2):(w ((mulS m.1 v).1+m.2.1),w ((mulS m.1 v).2+m.2.2))=appS m v:=by
 obtain⟨h1,h2,h3,h4⟩:=mulS_bound hm hv;obtain⟨t1,t2,t3,t4⟩:=ht;unfold appS;rw[w_id (by omega) (by omega),w_id (by omega) (by omega)]
theorem times_eq {m n:Mo} (hm:GoodG m) (hn:GoodG n):f50G KK m n=some (mmS m.1 n.1,appS m n.2):=by
 unfold f50G f98G f100G;simp only[oB];rw[mm_calc (pm_sm hm.1) (pm_sm hn.1),matApply_eq (pm_sm hm.1) hn.2];simp only[oB];rw[app_calc (pm_sm hm.1) hn.2 hm.2]
theorem compose_eq {m n:Mo} (hm:GoodG m) (hn:GoodG n):f76G KK m n=some (mmS m.1 n.1,appS m n.2):=by
 unfold f76G f129G f130G;simp only[oB];rw[mm_calc (pm_sm hm.1) (pm_sm hn.1),l02Apply_eq (pm_sm hm.1) hn.2];simp only[oB];rw[app_calc (pm_sm hm.1) hn.2 hm.2]
theorem reduceMotion_eq {l:Lt} (hl:IsL l) {m:Mo} (hm:Sm m.2):f49G KK l m=some (m.1,redS l m.2):=by
 unfold f49G;rw[reduce_eq hl hm];rfl
theorem l06Reduce_eq {l:Lt} (hl:IsL l) {m:Mo} (hm:Sm m.2):f75G KK l m=some (m.1,redS l m.2):=by
 unfold f75G;rw[l03Reduce_eq hl hm];rfl
def dMo:Mo:=((0,0,0,0),0,0)
def uMo:Mo:=((1,0,0,1),0,0)
def preP (f:Int) (l:Lt) (g:List Mo) (q:Nat) (a:Mo):Bool:=(stabS f l).contains a.1&&(cellB l a.2&&(Nat.beq q 0||ltM (g.getD (q-1) dMo) a))
def grpB (f:Int) (l:Lt) (g:List Mo):Bool:=allFrom (preP f l g) 0 g&&(g.contains uMo&&g.all fun m=>g.all fun n=>g.contains (mulG l m n))
structure Pre (f:Int) (l:Lt) (g:List Mo):Prop where
 mem:∀ m∈g,m.1∈stabS f l∧cellB l m.2=true
 up:∀ i (h:i+1<g.length),ltM g[i] g[i+1]=true
theorem pre_of {f:Int} {l:Lt} {g:List Mo} (h:allFrom (preP f l g) 0 g=true):Pre f l g:=by
 have hg:=allFrom_get h;refine⟨fun m hm=>?_,fun i hi=>?_⟩
 ·obtain⟨i,hi,rfl⟩:=List.getElem_of_mem hm;have:=hg i hi;unfold preP at this;rw[aT,aT,cM] at this;exact⟨this.1,this.2.1⟩
 ·have:=hg (i+1) hi;unfold preP at this;rw[aT,aT,Bool.or_eq_true] at this;rcases this.2.2 with h1 | h1
  ·have:=Nat.eq_of_beq_eq_true h1;omega
  ·have e:(0+(i+1)-1)=i:=by omega
   rw[e] at h1;simpa[List.getD,show i<g.length by omega] using h1
theorem Pre.lt {f:Int} {l:Lt} {g:List Mo} (h:Pre f l g):∀ (j i:Nat) (hj:j<g.length) (hi:i<j),ltM g[i] g[j]=true
 | 0,i,hj,hi=>by omega
 | j+1,i,hj,hi=>by
  by_cases e:i=j
  ·subst e;exact h.up i hj
  ·exact ltL_trans (h.lt j i (by omega) (by omega)) (h.up j hj)
theorem Pre.good {f:Int} {l:Lt} (hl:IsL l) {g:List Mo} (h:Pre f l g) {m:Mo} (hm:m∈g):GoodG m:=⟨stab_mem (h.mem m hm).1,cellB_Sv hl (h.mem m hm).2⟩
theorem Pre.nodup {f:Int} {l:Lt} {g:List Mo} (h:Pre f l g):g.Nodup:=by
 rw[List.Nodup,List.pairwise_iff_getElem];intro i j hi hj hij e;have:=h.lt j i hj hij;rw[e] at this;unfold ltM at this;rw[ltL_irrefl] at this;cases this
theorem nodup_len {α:Type} [DecidableEq α]:∀ (l m:List α),l.Nodup→(∀ x∈l,x∈m)→l.length≤m.length
 | [],m,_,_=>Nat.zero_le _
 | a :: l,m,hn,h=>by
  have ha:=h a (by simp)
  rw[List.nodup_cons] at hn;have:=nodup_len l (m.erase a) hn.2 fun x hx=>by
   have hne:x≠a:=fun e=>hn.1 (e▸hx);exact (List.mem_erase_of_ne hne).2 (h x (by simp[hx]))
  rw[List.length_erase_of_mem ha] at this;have:=List.length_pos_of_mem ha;simp only[List.length_cons];omega
theorem cellB_mem {l:Lt} (hl:IsL l) {v:Vc} (h:cellB l v=true):v∈cellsS l:=by
 obtain⟨⟨h1,h2⟩,h3,h4⟩:=cellB_iff.1 h;have:=hl.a1;have:=hl.c1;unfold cellsS rowS;rw[List.mem_flatMap];refine⟨v.1.toNat,List.mem_range.2 (by omega),List.mem_map.2 ⟨v.2.toNat,List.mem_range.2 (by omega),Prod.ext ?_ ?_⟩⟩<;>simp only<;>omega
theorem Pre.len {f:Int} {l:Lt} (hl:IsL l) {g:List Mo} (h:Pre f l g):g.length≤768:=by
 have:=nodup_len g ((stabS f l).flatMap fun m=>(cellsS l).map fun v=>(m,v)) h.nodup fun x hx=>by
  obtain⟨h1,h2⟩:=h.mem x hx;exact List.mem_flatMap.2 ⟨x.1,h1,List.mem_map.2 ⟨x.2,cellB_mem hl h2,rfl⟩⟩
 have h2:=flatMap_len (fun m:Mt=>(cellsS l).map fun v:Vc=>(m,v)) 64 (fun m=>by rw[List.length_map];exact cellsS_le hl) (stabS f l)
 have h3:=stab_len f l;have:(stabS f l).length*64≤12*64:=Nat.mul_le_mul_right _ h3;omega
theorem frameCode_eq (f:Int) (l:Lt):f237G KK f l=some (if okF f&&okL l then 0 else 1):=by
 unfold f237G;rw[isFrame_eq,isLattice_eq];cases okF f<;>cases h:okL l<;>rfl
theorem getP {g:List Mo} {q:Nat} (hq:q+1<4611686018427387904) (d:Mo):g.getD ((0:Int)+(w ((((q+1:Nat)):Int)-(1:Int)))).toNat d=g.getD q d:=by
 rw[w_id (by omega) (by omega)]
 congr 1;omega
theorem inP {g:List Mo} {q:Nat} (hq:q+1<g.length) (h2:q+1<4611686018427387904):(decide (0≤(w (((q+1:Nat):Int)-(1:Int))))&&decide ((w (((q+1:Nat):Int)-(1:Int)))<(g.length:Int)))=true:=by
 rw[w_id (by omega) (by omega),aT,dE,dE]
 omega
theorem grp_body {f:Int} {l:Lt} (hl:IsL l) {g:List Mo} (hn:g.length≤1048576) {I:Int→List (Mo×Bool)→List Mt→Mt→Int→Option Bool} {L:Int→List (Mo×Bool)→Option Bool} {q:Nat} (hq:q<g.length) (s:List (Mo×Bool)) :
  f238_b6 KK f l g (stabS f l) I L (q:Int) s=bif preP f l g q g[q] then L ((q+1:Nat):Int) (mput (eqSh shMo) s g[q] true) else some false:=by
 obtain⟨r,hr,hrc⟩:=reduce_same hl g[q].2;unfold f238_b6;rw[in1 hq];simp only[cT,in0,aS,oT,tO,gd hq];rw[containsMat_eq (by have:=stab_len f l;omega),oB]
 unfold preP;cases h1:(stabS f l).contains g[q].1
 ·simp only[nT,nF,cT,cF,oB,Bool.false_and,oT,tO]
 ·simp only[nT,nF,cT,cF,oB,Bool.true_and,hr,hrc];cases h2:cellB l g[q].2
  ·simp only[nF,nT,Bool.false_and,tO,oT,cT,cF,oB]
  ·simp only[nF,nT,Bool.true_and];cases q with
   | zero =>
    have:decide (((0:Nat):Int)>0)=false:=by simp
    simp only[this,nF,tO,oT,cT,cF,oB];rfl
   | succ q =>
    have h3:decide (((q+1:Nat):Int)>0)=true:=by simp
    simp only[h3,nT,Bool.false_or,Bool.or_false,tO,oT,cT,cF,inP hq (by omega),getP (g:=g) (q:=q) (by omega)]
    rw[compareMotions_eq,oB,cmpL_lt,w_succ (by omega)]
    have e:(q+1-1)=q:=rfl;rw[e];have e2:Nat.beq (q+1) 0=false:=rfl;rw[e2,Bool.false_or];unfold ltM dMo;cases ltL (numMo (g.getD q ((0,0,0,0),0,0))) (numMo g[q+1])<;>rfl
theorem place_loop {f:Int} {l:Lt} {g:List Mo} (hp:Pre f l g) (hn:g.length≤1048576) (m:Mo):∀ (n lo hi:Nat),lo≤hi→hi≤g.length→hi-lo<n→(∀ i (h:i<g.length),i<lo→ltM g[i] m=true)→(∀ i (h:i<g.length),hi≤i→ltM g[i] m=false) →
  ∃ p:Nat,f74_l6 KK g m n (lo:Int) (hi:Int)=some (p:Int)∧p≤g.length∧(∀ i (h:i<g.length),i<p→ltM g[i] m=true)∧(∀ i (h:i<g.length),p≤i→ltM g[i] m=false)
 | 0,lo,hi,_,_,h,_,_=>by omega
 | n+1,lo,hi,hle,hhi,hd,h1,h2=>by
  show ∃ p:Nat,f74_b6 KK g m (fun v0 v1=>f74_l6 KK g m n v0 v1) (lo:Int) (hi:Int)=_∧_;unfold f74_b6;by_cases hlt:lo<hi
  ·have e1:w ((w ((lo:Int)+(hi:Int))).tdiv 2)=((((lo+hi) / 2:Nat)):Int):=by
    rw[w_id (n:=(lo:Int)+(hi:Int)) (by omega) (by omega)]
    have:((lo:Int)+(hi:Int)).tdiv 2=(((lo+hi) / 2:Nat):Int):=by
     rw[Int.tdiv_eq_ediv_of_nonneg (by omega)]
     omega
    rw[this,w_id (by omega) (by omega)]
   have hmid:(lo+hi) / 2<g.length:=by omega
   rw[in1 hlt,e1,in0,in1 hmid,gd hmid];simp only[aS,cT];rw[l05Less_eq,oB,w_succ (by omega)]
   cases hc:ltM g[(lo+hi) / 2] m
   ·rw[cF];refine place_loop hp hn m n lo ((lo+hi) / 2) (by omega) (by omega) (by omega) h1 fun i hi' hle'=>?_
    by_cases e:i=(lo+hi) / 2
    ·subst e;exact hc
    ·cases hx:ltM g[i] m with
     | false=>rfl
     | true =>
      have:=ltL_trans (hp.lt i ((lo+hi) / 2) hi' (by omega)) hx
      exact absurd (hc.symm.trans this) (by simp)
   ·rw[cT];refine place_loop hp hn m n ((lo+hi) / 2+1) hi (by omega) hhi (by omega) (fun i hi' hle'=>?_) h2
    by_cases e:i=(lo+hi) / 2
    ·subst e;exact hc
    ·exact ltL_trans (hp.lt ((lo+hi) / 2) i hmid (by omega)) hc
  ·have e:lo=hi:=by omega
   subst e;rw[out1,cF];exact⟨lo,rfl,hhi,h1,h2⟩
theorem l06Has_eq {f:Int} {l:Lt} {g:List Mo} (hp:Pre f l g) (hn:g.length≤1048576) (m:Mo):f29G KK g m=some (g.contains m):=by
 obtain⟨p,h1,h2,h3,h4⟩:=place_loop hp hn m KK 0 g.length (by omega) (by omega) (by simp only[KK];omega) (fun i _ h=>by omega) (fun i hi h=>by omega)
 unfold f29G f74G f74_g;simp only[show f74_l6 KK g m KK (0:Int) (g.length:Int)=some (p:Int) from h1,oB,oT,tO,cT]
 by_cases hlt:p<g.length
 ·rw[in1 hlt,in0,gd hlt];simp only[nT,Bool.false_or,Bool.or_false,aS,cT];rw[eqMo];congr 1;rw[Bool.eq_iff_iff,beq_iff_eq,cM];constructor
  ·intro e;rw[← e];exact gM hlt
  ·intro hm;obtain⟨j,hj,e⟩:=List.getElem_of_mem hm;by_cases hjp:j<p
   ·have:=h3 j hj hjp;rw[e] at this;unfold ltM at this;rw[ltL_irrefl] at this;cases this
   ·by_cases e2:j=p
    ·subst e2;exact e
    ·have:=hp.lt j p hj (by omega)
     rw[e,h4 p hlt (Nat.le_refl _)] at this;cases this
 ·have hpe:p=g.length:=by omega
  subst hpe;rw[out1];simp only[nF,tO,oT,cT,cF];congr 1;cases hc:g.contains m with
  | false=>rfl
  | true =>
   rw[cM] at hc;obtain⟨j,hj,e⟩:=List.getElem_of_mem hc;have:=h3 j hj hj;rw[e] at this;unfold ltM at this;rw[ltL_irrefl] at this;cases this
theorem grp_in {f:Int} {l:Lt} (hl:IsL l) {g:List Mo} (hp:Pre f l g) (hn:g.length≤1048576) {c:Int} {ms:List Mt} {L:Int→Option Bool} {x:Nat} (hx:x<g.length) :
  f238_l23 KK f l g c (mapMo g) (x:Int) ms Un L KK 0=bif g.all fun n=>g.contains (mulG l g[x] n) then L ((x+1:Nat):Int) else some false:=by
 have h:=iter_all (X:=Int) (body:=fun L23 z=>f238_b23 KK f l g c (mapMo g) (x:Int) ms Un L (fun v0=>L23 v0) z) g (fun q=>(q:Int)) (fun n=>g.contains (mulG l g[x] n)) (some false) (L ((x+1:Nat):Int))
  (fun L23 q hq=>by
   have g1:=hp.good hl (gM hx);have g2:=hp.good hl (gM hq);unfold f238_b23;rw[in1 hq,in0,gd hx,gd hq];simp only[aS,cT];rw[times_eq g1 g2,oB,reduceMotion_eq hl (m:=(mmS g[x].1 g[q].1,appS g[x] g[q].2)) (appS_Sm (pm_sm g1.1) g2.2 g1.2),oB,w_succ (by omega)]
   have:=mapMo_find g (mulG l g[x] g[q]);rw[show (mfind (eqSh shMo) (mapMo g) (mmS g[x].1 g[q].1,redS l (appS g[x] g[q].2))).getD false=g.contains (mulG l g[x] g[q]) from this]
   cases g.contains (mulG l g[x] g[q])<;>rfl)
  (fun L23=>by
   unfold f238_b23;rw[out1,cF,w_succ (by omega)]) KK 0 (by omega) (by simp only[KK];omega)
 unfold f238_l23;exact h
theorem isGroup_eq {f:Int} {l:Lt} (hf:okF f=true) (hl:IsL l) {g:List Mo} (hn:g.length≤1048576):f238G KK f l g=some (grpB f l g):=by
 have hf':0≤f∧f≤1:=by simpa[okF] using hf
 unfold f238G f238_g;rw[latticeMats_eq hf'.1 hf'.2 hl,oB];have h:=iter_scan (X:=Int×List (Mo×Bool)) (body:=fun L6 z=>f238_b6 KK f l g (stabS f l) (fun c0 c1 c2 c3 d0=>f238_l21 KK f l g c0 c1 c2 c3 KK d0) (fun v0 v1=>L6 (v0,v1)) z.1 z.2) g (fun q s=>((q:Int),s)) (preP f l g) (fun s a=>mput (eqSh shMo) s a true) (some false)
  (fun s=>f238_b6 KK f l g (stabS f l) (fun c0 c1 c2 c3 d0=>f238_l21 KK f l g c0 c1 c2 c3 KK d0) (fun _ _=>none) (g.length:Int) s) (fun q s=>True)
  (fun L6 q s hq _=>⟨fun _=>trivial,grp_body hl hn hq s⟩)
  (fun L6 s _=>by
   unfold f238_b6;rw[out1,cF,cF]) KK 0 [] (by omega) (by simp only[KK];omega) trivial
 unfold f238_l6;refine Eq.trans h ?_;simp only[List.drop_zero];unfold grpB;cases hpre:allFrom (preP f l g) 0 g
 ·rfl
 ·have hp:=pre_of hpre;simp only[cT,Bool.true_and];unfold f238_b6 f48G;rw[out1,cF];simp only[oB];have h2:=mapMo_find g uMo;rw[show (mfind (eqSh shMo) (g.foldl (fun s a=>mput (eqSh shMo) s a true) []) ((1,0,0,1),0,0)).getD false=g.contains uMo from h2]
  cases g.contains uMo
  ·rfl
  ·simp only[nT,cF,Bool.true_and];have h3:=iter_all (X:=Int) (body:=fun L21 z=>f238_b21 KK f l g (g.length:Int) (mapMo g) (stabS f l) Un (fun c0 d0=>f238_l23 KK f l g (g.length:Int) (mapMo g) c0 (stabS f l) Un (fun v0=>L21 v0) KK d0) (fun v0=>L21 v0) z) g (fun q=>(q:Int)) (fun m=>g.all fun n=>g.contains (mulG l m n)) (some false) (some true)
    (fun L21 q hq=>by
     unfold f238_b21;rw[in1 hq,in0];simp only[aS,cT];exact grp_in hl hp hn hq)
    (fun L21=>by
     unfold f238_b21;rw[out1,cF]) KK 0 (by omega) (by simp only[KK];omega)
   unfold f238_l21;refine Eq.trans h3 ?_;rw[List.drop_zero];cases g.all fun m=>g.all fun n=>g.contains (mulG l m n)<;>rfl
def codeG (f:Int) (l:Lt) (g:List Mo):Int:=if okF f&&okL l then (if grpB f l g then 0 else 2) else 1
theorem groupCode_eq (f:Int) (l:Lt) {g:List Mo} (hn:g.length≤1048576):f198G KK f l [g]=some (codeG f l g):=by
 unfold f198G f198_g codeG;rw[frameCode_eq,oB];cases hc:(okF f&&okL l)
 ·rfl
 ·rw[aT] at hc;simp only[if_true,show (((0:Int) != 0)=false) from rfl,cF]
  unfold f198_l4;show f198_b4 KK f l [g] 0 _ (0:Int)=_;unfold f198_b4;simp only[show decide ((0:Int)<(([g]:List (List Mo)).length:Int))=true from rfl,show decide ((0:Int)≤0)=true from rfl,aS,cT]
  rw[show ([g]:List (List Mo)).getD ((0:Int)+0).toNat []=g from rfl,isGroup_eq hc.1 (okL_iff.1 hc.2) hn,oB]
  cases grpB f l g
  ·rfl
  ·rfl
def tileP (t:List Vc) (q:Nat) (v:Vc):Bool:=vecB v&&(Nat.beq q 0||ltV (t.getD (q-1) (0,0)) v)
def tileB (t:List Vc):Bool:=allFrom (tileP t) 0 t&&(decide (1≤t.length)&&decide (t.length≤16))
def codeT (f:Int) (l:Lt) (g:List Mo) (t:List Vc):Int:=if okF f&&okL l&&tileB t then (if grpB f l g then 0 else 2) else 1
structure TileG (f:Int) (l:Lt) (g:List Mo) (t:List Vc):Prop where
 fr:okF f=true
 la:IsL l
 pr:Pre f l g
 vec:∀ v∈t,vecB v=true
 t1:1≤t.length
 t2:t.length≤16
theorem vecB_Sv {v:Vc} (h:vecB v=true):Sv v:=by
 rw[vecB_iff] at h;simp only[Sv];omega
def mvS (l:Lt) (m:Mo) (v:Vc):Vc:=redS l (appS m v)
theorem l07Move_gen {l:Lt} (hl:IsL l) {m:Mo} (hm:GoodG m) {v:Vc} (hv:Sv v):f138G KK l m v=some (mvS l m v):=by
 unfold f138G;rw[l05Apply_eq (pm_sm hm.1) hv hm.2,oB,l03Reduce_eq hl (appS_Sm (pm_sm hm.1) hv hm.2)];rfl
theorem take_gen {l:Lt} (hl:IsL l) {m:Mo} (hm:GoodG m) {v:Vc} (hv:Sv v):f114G KK l m v=some (mvS l m v):=by
 unfold f114G;rw[motApply_eq (pm_sm hm.1) hv hm.2,oB,reduce_eq hl (appS_Sm (pm_sm hm.1) hv hm.2)];rfl
def cpsS (l:Lt) (g:List Mo) (t:List Vc):List (List Vc):=g.map fun m=>t.map (mvS l m)
theorem blim24 {n:Nat} (h:n≤1000000):Nat.ble n (lim 24)=true:=by
 simp only[lim,Nat.ble_eq];omega
def putR (i:Int):List Nat→List Int→Option (List Int)
 | [],o=>some o
 | n :: r,o=>bif decide (o.getD n 0≥0) then none else putR i r (o.set n i)
def putA:List (List Nat)→Nat→List Int→Option (List Int)
 | [],_,o=>some o
 | c :: r,i,o=>match putR (i:Int) c o with | some o'=>putA r (i+1) o' | none=>none
def ownS:List (List Nat)→Nat→Nat→Option Nat
 | [],_,_=>none
 | c :: r,i,k=>if k∈c then some i else ownS r (i+1) k
theorem full_of_len {α:Type} [DecidableEq α] (l m:List α) (hm:m.Nodup) (h1:∀ x∈m,x∈l) (h2:l.length≤m.length):∀ x∈l,x∈m:=fun x hx=>by
 refine Decidable.byContradiction fun hn=>?_;have:=nodup_len m (l.erase x) hm fun y hy=>(List.mem_erase_of_ne (fun (e:y=x)=>hn (e▸hy))).2 (h1 y hy);rw[List.length_erase_of_mem hx] at this;have:=List.length_pos_of_mem hx;omega
abbrev shV:Sh:=.cons (.int .i64) (.int .i64)
def setV (xs:List (Vc×Bool)) (vs:List Vc):List (Vc×Bool):=vs.foldl (fun s a=>mput (eqSh shV) s a true) xs
def tilesP (l:Lt) (g:List Mo) (t:List Vc):Prop:=(cpsS l g t).flatten.Nodup∧∀ v∈cellsS l,v∈(cpsS l g t).flatten
instance (l:Lt) (g:List Mo) (t:List Vc):Decidable (tilesP l g t):=by unfold tilesP;infer_instance
theorem cellsS_nodup {l:Lt} (hl:IsL l):(cellsS l).Nodup:=by
 rw[List.Nodup,List.pairwise_iff_getElem];intro i j hi hj hij e;have h1:=cellsS_num hl hi;have h2:=cellsS_num hl hj;rw[e,h2] at h1;omega
theorem len_eq {l:Lt} (hl:IsL l):w (l.1*l.2.2)=((cellsS l).length:Int):=by
 rw[cellsS_len hl,idx_nat hl];have:=hl.ix;have:0≤l.1*l.2.2:=Int.mul_nonneg (by have:=hl.a1;omega) (by have:=hl.c1;omega)
 exact w_id (by omega) (by omega)
theorem l03Number_eq {l:Lt} (hl:IsL l) {v:Vc} (hv:cellB l v=true):f82G KK l v=some ((numS l v:Nat):Int):=by
 unfold f82G;rw[l03Reduce_eq hl (Sv_Sm (cellB_Sv hl hv)),oB,(num_calc hl v).1]
theorem numS_lt {l:Lt} (hl:IsL l) (v:Vc):numS l v<(cellsS l).length:=by
 have h1:=(num_calc hl v).2;rw[cellsS_len hl];have:=idx_nat hl;omega
def cnS (l:Lt) (C:List (List Vc)):List (List Nat):=C.map fun c=>c.map (numS l)
theorem num_inj {l:Lt} (hl:IsL l) {u v:Vc} (hu:cellB l u=true) (hv:cellB l v=true) (h:numS l u=numS l v):u=v:=by
 obtain⟨i,hi,e1⟩:=List.getElem_of_mem (cellB_mem hl hu);obtain⟨j,hj,e2⟩:=List.getElem_of_mem (cellB_mem hl hv);have h1:=cellsS_num hl hi;have h2:=cellsS_num hl hj;rw[e1] at h1;rw[e2] at h2;have:i=j:=by omega
 subst this;rw[← e1,← e2]
end Go.Proofs.YtelgaemfnhnbmaaGreatDoor.X
