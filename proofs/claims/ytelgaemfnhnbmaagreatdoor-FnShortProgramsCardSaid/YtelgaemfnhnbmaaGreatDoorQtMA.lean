/- Plain facts: numbers that do not run over, and loops that step through a list. -/
import Derived.Test.YtelgaemfnhnbmaaGreatDoorQzXLoop
import Derived.Test.YtelgaemfnhnbmaaGreatDoorQtD0
import Derived.Test.YtelgaemfnhnbmaaGreatDoorQtD1
import Derived.KernelRfl
namespace Go.Proofs.YtelgaemfnhnbmaaGreatDoor.X
open Go
set_option linter.unusedSimpArgs false
theorem oB {α β:Type} (a:α) (f:α→Option β):(some a).bind f=f a:=rfl
theorem cF {α:Type} (a b:α):cond false a b=b:=rfl
theorem cT {α:Type} (a b:α):cond true a b=a:=rfl
theorem dT {p:Prop} [Decidable p] (h:p):decide p=true:=decide_eq_true h
theorem dF {p:Prop} [Decidable p] (h:¬ p):decide p=false:=decide_eq_false h
theorem gM {α:Type} {l:List α} {n:Nat} (h:n<l.length):l[n]∈l:=List.getElem_mem h
theorem aS (a:Bool):(a&&a)=a:=Bool.and_self a
theorem cM {α:Type} [BEq α] [LawfulBEq α] {a:α} {l:List α}:l.contains a=true↔a∈l:=List.contains_iff_mem
theorem nT:(!true)=false:=rfl
theorem oT (b:Bool):(b||true)=true:=Bool.or_true b
theorem tO (b:Bool):(true||b)=true:=rfl
theorem nF:(!false)=true:=rfl
theorem bN {α:Type} [BEq α] [LawfulBEq α] {a b:α}:(a==b)=false↔a≠b:=beq_eq_false_iff_ne
theorem dC {α:Type} {l:List α} {n:Nat} (h:n<l.length):l.drop n=l[n] :: l.drop (n+1):=List.drop_eq_getElem_cons h
theorem tS {α:Type} {l:List α} {n:Nat} (h:n<l.length):l.take (n+1)=l.take n++[l[n]]:=List.take_succ_eq_append_getElem h
theorem dE (p:Prop) [Decidable p]:(decide p=true)=p:=decide_eq_true_eq
theorem mS {α:Type} {a b:α}:a∈[b]↔a=b:=List.mem_singleton
theorem lA {α:Type} {a b:List α}:(a++b).length=a.length+b.length:=List.length_append
theorem aT (a b:Bool):((a&&b)=true)=(a=true∧b=true):=Bool.and_eq_true a b
def KK:Nat:=2097152
theorem w_id {n:Int} (h1 : -9223372036854775808≤n) (h2:n≤9223372036854775807):w n=n:=by
 simp only[w,IntKind.wrap];simp[IntKind.signed,IntKind.bits];omega
theorem w_succ {q:Nat} (h:q<4611686018427387904):w ((q:Int)+1)=((q+1:Nat):Int):=by
 rw[w_id]<;>omega
theorem gd {α:Type} {l:List α} {q:Nat} {d:α} (h:q<l.length):l.getD ((0:Int)+(q:Int)).toNat d=l[q]:=by
 have:((0:Int)+(q:Int)).toNat=q:=by omega
 rw[this];simp[List.getD,h]
theorem in1 {q n:Nat} (h:q<n):decide ((q:Int)<(n:Int))=true:=by
 simp;omega
theorem in0 {q:Nat}:decide (0≤(q:Int))=true:=by simp
theorem out1 {n:Nat}:decide ((n:Int)<(n:Int))=false:=by simp
theorem blim16 {n:Nat} (h:n≤4000000):Nat.ble n (lim 16)=true:=by
 simp only[lim,Nat.ble_eq];omega
theorem blim8 {n:Nat} (h:n≤4000000):Nat.ble n (lim 8)=true:=by
 simp only[lim,Nat.ble_eq];omega
theorem blim32 {n:Nat} (h:n≤4000000):Nat.ble n (lim 32)=true:=by
 simp only[lim,Nat.ble_eq];omega
theorem blim48 {n:Nat} (h:n≤1000000):Nat.ble n (lim 48)=true:=by
 simp only[lim,Nat.ble_eq];omega
theorem iter_fold {X R S α:Type} {body:(X→Option R)→X→Option R} (l:List α) (fr:Nat→S→X) (step:S→α→S) (fin:S→Option R) (inv:Nat→S→Prop)
  (h1:∀ L q s (hq:q<l.length),inv q s→inv (q+1) (step s l[q])∧body L (fr q s)=L (fr (q+1) (step s l[q])))
  (h2:∀ L s,inv l.length s→body L (fr l.length s)=fin s):∀ n q s,q≤l.length→l.length-q<n→inv q s→iter body n (fr q s)=fin ((l.drop q).foldl step s)
 | 0,q,s,_,hn,_=>by omega
 | n+1,q,s,hq,hn,hi=>by
  show body (iter body n) (fr q s)=_;by_cases hlt:q<l.length
  ·obtain⟨h3,h4⟩:=h1 (iter body n) q s hlt hi;rw[h4,iter_fold l fr step fin inv h1 h2 n (q+1) _ hlt (by omega) h3,dC hlt]
   rfl
  ·have:q=l.length:=by omega
   subst this;rw[h2 _ _ hi];simp
theorem iter_all {X R α:Type} {body:(X→Option R)→X→Option R} (l:List α) (fr:Nat→X) (p:α→Bool) (no fin:Option R)
  (h1:∀ L q (hq:q<l.length),body L (fr q)=bif p l[q] then L (fr (q+1)) else no)
  (h2:∀ L,body L (fr l.length)=fin):∀ n q,q≤l.length→l.length-q<n→iter body n (fr q)=bif (l.drop q).all p then fin else no
 | 0,q,_,hn=>by omega
 | n+1,q,hq,hn=>by
  show body (iter body n) (fr q)=_;by_cases hlt:q<l.length
  ·rw[h1 _ q hlt,iter_all l fr p no fin h1 h2 n (q+1) hlt (by omega),dC hlt]
   simp only[List.all_cons];cases p l[q]<;>simp
  ·have:q=l.length:=by omega
   subst this;rw[h2];simp
theorem foldl_filter {α β:Type} (p:α→Bool) (g:α→β):∀ (l:List α) (s:List β),l.foldl (fun s a=>bif p a then s++[g a] else s) s=s++(l.filter p).map g
 | [],s=>by simp
 | a :: l,s=>by
  rw[List.foldl_cons,foldl_filter p g l];cases h:p a<;>simp[h]
theorem foldl_push {α β:Type} (g:α→β):∀ (l:List α) (s:List β),l.foldl (fun s a=>s++[g a]) s=s++l.map g
 | [],s=>by simp
 | a :: l,s=>by
  rw[List.foldl_cons,foldl_push g l];simp
theorem foldl_flat {α β:Type} (g:α→List β):∀ (l:List α) (s:List β),l.foldl (fun s a=>s++g a) s=s++l.flatMap g
 | [],s=>by simp
 | a :: l,s=>by
  rw[List.foldl_cons,foldl_flat g l];simp
abbrev Vc:=Int×Int
abbrev Mt:=Int×Int×Int×Int
abbrev Lt:=Int×Int×Int
abbrev Pt:=Int×Lt×List Int
structure IsL (l:Lt):Prop where
 a1:1≤l.1
 a2:l.1≤64
 c1:1≤l.2.2
 c2:l.2.2≤64
 b1:0≤l.2.1
 b2:l.2.1<l.1
 ix:l.1*l.2.2≤64
structure IsP (p:Pt):Prop where
 f1:0≤p.1
 f2:p.1≤1
 l:IsL p.2.1
 n:(p.2.2.length:Int)=p.2.1.1*p.2.1.2.2
theorem tmod_pos {a n:Int} (h:1≤n):(a.tmod n<0→a % n=a.tmod n+n)∧(0≤a.tmod n→a % n=a.tmod n)∧-n<a.tmod n∧a.tmod n<n:=by
 have h0:=Int.tmod_eq_emod (a:=a) (b:=n);have h1:=Int.emod_nonneg a (show n≠0 by omega)
 have h2:=Int.emod_lt_of_pos a (show 0<n by omega)
 have h3:(n.natAbs:Int)=n:=by omega
 split at h0<;>refine⟨?_,?_,?_,?_⟩<;>intros<;>omega
theorem l01Mod_eq {a n:Int} (h:1≤n) (h2:n≤1000000):f182G KK a n=some (a % n):=by
 obtain⟨h3,h4,h5,h6⟩:=tmod_pos (a:=a) h;unfold f182G;have:(n != 0)=true:=by simp;omega
 rw[this,cT];by_cases hl:a.tmod n<0
 ·rw[h3 hl,w_id (by omega) (by omega)]
  simp[hl]
 ·rw[h4 (by omega)]
  simp[hl]
theorem mod_eq {a n:Int} (h:1≤n) (h2:n≤1000000):f157G KK a n=some (a % n):=by
 obtain⟨h3,h4,h5,h6⟩:=tmod_pos (a:=a) h;unfold f157G;have:(n != 0)=true:=by simp;omega
 rw[this,cT,cT,w_id (by omega) (by omega)]
 obtain⟨h7,h8,h9,h10⟩:=tmod_pos (a:=a.tmod n+n) h;have h11:0≤(a.tmod n+n).tmod n:=by
  have:=Int.tmod_nonneg (a:=a.tmod n+n) n (by omega)
  exact this
 rw[← h8 h11,Int.add_emod_right];congr 1;have:=Int.emod_emod_of_dvd a (Int.dvd_refl n);by_cases hl:a.tmod n<0
 ·rw[h3 hl];rw[← Int.add_emod_right,Int.emod_eq_of_lt (by omega) (by omega)]
 ·rw[h4 (by omega)]
  exact Int.emod_eq_of_lt (by omega) (by omega)
def redS (l:Lt) (v:Vc):Vc:=((v.1-(v.2 / l.2.2)*l.2.1) % l.1,v.2 % l.2.2)
theorem div_bound {y c:Int} (hc:1≤c) {B:Int} (hB:0≤B) (h1 : -B≤y) (h2:y≤B) : -B-1≤y / c∧y / c≤B:=by
 constructor
 ·rw[Int.le_ediv_iff_mul_le (by omega)]
  have:(-B-1)*c≤(-B-1)*1:=Int.mul_le_mul_of_nonpos_left (by omega) hc
  omega
 ·have h:=Int.ediv_le_ediv (show 0<c by omega) h2
  have h3:B / c≤B:=Int.ediv_le_self c hB;omega
theorem sub_mod_tdiv {y c:Int} (hc:1≤c):(y-y % c).tdiv c=y / c:=by
 have h1:=Int.emod_def y c;have:y-y % c=c*(y / c):=by omega
 rw[this,Int.mul_comm,Int.mul_tdiv_cancel _ (by omega)]
theorem mul_bound {a b A B:Int} (hA:0≤A) (ha1 : -A≤a) (ha2:a≤A) (hb1:0≤b) (hb2:b≤B) : -(A*B)≤a*b∧a*b≤A*B:=by
 have h1:a*b≤A*b:=Int.mul_le_mul_of_nonneg_right ha2 hb1;have h2:A*b≤A*B:=Int.mul_le_mul_of_nonneg_left hb2 hA;have h3 : -A*b≤a*b:=Int.mul_le_mul_of_nonneg_right ha1 hb1;have h4 : -A*b = -(A*b):=Int.neg_mul A b;omega
def Sm (v:Vc):Prop := -1000000000≤v.1∧v.1≤1000000000∧-1000000000≤v.2∧v.2≤1000000000
theorem red_calc {l:Lt} (hl:IsL l) {v:Vc} (hv:Sm v):w (v.1-(w ((w ((w (v.2-v.2 % l.2.2)).tdiv l.2.2))*l.2.1)))=v.1-(v.2 / l.2.2)*l.2.1:=by
 obtain⟨a1,a2,c1,c2,b1,b2,ix⟩:=hl;obtain⟨v1,v2,v3,v4⟩:=hv;have h1:=Int.emod_nonneg v.2 (show l.2.2≠0 by omega)
 have h2:=Int.emod_lt_of_pos v.2 (show 0<l.2.2 by omega)
 obtain⟨h3,h4⟩:=div_bound (y:=v.2) c1 (B:=1000000000) (by omega) v3 v4
 obtain⟨h5,h6⟩:=mul_bound (a:=v.2 / l.2.2) (b:=l.2.1) (A:=1000000001) (B:=64) (by omega) (by omega) (by omega) b1 (by omega)
 rw[w_id (n:=v.2-v.2 % l.2.2) (by omega) (by omega),sub_mod_tdiv c1,w_id (n:=v.2 / l.2.2) (by omega) (by omega),w_id (n:=v.2 / l.2.2*l.2.1) (by omega) (by omega),w_id (by omega) (by omega)]
theorem l03Reduce_eq {l:Lt} (hl:IsL l) {v:Vc} (hv:Sm v):f128G KK l v=some (redS l v):=by
 unfold f128G;have h0:(l.2.2 != 0)=true:=by have:=hl.c1;simp;omega
 rw[l01Mod_eq hl.c1 (by have:=hl.c2;omega)]
 simp only[oB,h0,cT];rw[red_calc hl hv,l01Mod_eq hl.a1 (by have:=hl.a2;omega)]
 rfl
theorem reduce_eq {l:Lt} (hl:IsL l) {v:Vc} (hv:Sm v):f97G KK l v=some (redS l v):=by
 unfold f97G;have h0:(l.2.2 != 0)=true:=by have:=hl.c1;simp;omega
 rw[mod_eq hl.c1 (by have:=hl.c2;omega)]
 simp only[oB,h0,cT];rw[red_calc hl hv,mod_eq hl.a1 (by have:=hl.a2;omega)]
 rfl
theorem redS_bounds {l:Lt} (hl:IsL l) (v:Vc):0≤(redS l v).1∧(redS l v).1<l.1∧0≤(redS l v).2∧(redS l v).2<l.2.2:=by
 obtain⟨a1,a2,c1,c2,b1,b2,ix⟩:=hl;exact⟨Int.emod_nonneg _ (by omega),Int.emod_lt_of_pos _ (by omega),Int.emod_nonneg _ (by omega),Int.emod_lt_of_pos _ (by omega)⟩
theorem cell_idx {a c x y:Int} (h1:0≤x) (h2:x<a) (h3:0≤y) (h4:y<c):0≤x*c+y∧x*c+y<a*c:=by
 have e1:0≤x*c:=Int.mul_nonneg h1 (by omega)
 have e2:(x+1)*c≤a*c:=Int.mul_le_mul_of_nonneg_right (by omega) (by omega)
 have e3:(x+1)*c=x*c+c:=by rw[Int.add_mul,Int.one_mul]
 omega
def numS (l:Lt) (v:Vc):Nat:=((redS l v).1*l.2.2+(redS l v).2).toNat
theorem num_calc {l:Lt} (hl:IsL l) (v:Vc):w ((w ((redS l v).1*l.2.2))+(redS l v).2)=(numS l v:Int)∧(numS l v:Int)<l.1*l.2.2:=by
 obtain⟨h1,h2,h3,h4⟩:=redS_bounds hl v;obtain⟨h5,h6⟩:=cell_idx h1 h2 h3 h4;obtain⟨a1,a2,c1,c2,b1,b2,ix⟩:=hl;have e1:0≤(redS l v).1*l.2.2:=Int.mul_nonneg h1 (by omega)
 unfold numS;rw[w_id (n:=(redS l v).1*l.2.2) (by omega) (by omega),w_id (by omega) (by omega)]
 omega
def atS (p:Pt) (v:Vc):Int:=p.2.2.getD (numS p.2.1 v) 0
theorem l09At_eq {p:Pt} (hp:IsP p) {v:Vc} (hv:Sm v):f33G KK p v=some (atS p v):=by
 unfold f33G f82G;obtain⟨h1,h2⟩:=num_calc hp.l v;rw[l03Reduce_eq hp.l hv];simp only[oB,h1];have h3:numS p.2.1 v<p.2.2.length:=by have:=hp.n;omega
 rw[in0,in1 h3,gd h3];simp[atS,List.getD,h3]
theorem at_eq {p:Pt} (hp:IsP p) {v:Vc} (hv:Sm v):f63G KK p v=some (atS p v):=by
 unfold f63G f61G;obtain⟨h1,h2⟩:=num_calc hp.l v;rw[reduce_eq hp.l hv];simp only[oB,h1];have h3:numS p.2.1 v<p.2.2.length:=by have:=hp.n;omega
 rw[in0,in1 h3,gd h3];simp[atS,List.getD,h3]
def rowS (c x:Nat):List Vc:=(List.range c).map fun (y:Nat)=>((x:Int),(y:Int))
def cellsS (l:Lt):List Vc:=(List.range l.1.toNat).flatMap (rowS l.2.2.toNat)
theorem cells_map (a c:Nat) (hc:0<c):(List.range a).flatMap (rowS c)=(List.range (a*c)).map fun i=>(((i / c:Nat):Int),((i % c:Nat):Int)):=by
 induction a with
 | zero=>simp
 | succ a ih =>
  rw[List.range_succ,List.flatMap_append,ih,Nat.succ_mul,List.range_add,List.map_append];congr 1;simp only[List.flatMap_cons,List.flatMap_nil,List.append_nil,rowS,List.map_map]
  apply List.map_congr_left
  intro y hy;rw[List.mem_range] at hy;simp only[Function.comp];have h1:(a*c+y) / c=a:=by
   rw[Nat.mul_comm,Nat.mul_add_div hc,Nat.div_eq_of_lt hy];rfl
  have h2:(a*c+y) % c=y:=by
   rw[Nat.mul_comm,Nat.mul_add_mod,Nat.mod_eq_of_lt hy]
  rw[h1,h2]
theorem cellsS_eq {l:Lt} (hl:IsL l):cellsS l=(List.range (l.1.toNat*l.2.2.toNat)).map fun i=>(((i / l.2.2.toNat:Nat):Int),((i % l.2.2.toNat:Nat):Int)) :=
 cells_map _ _ (by have:=hl.c1;omega)
theorem idx_nat {l:Lt} (hl:IsL l):((l.1.toNat*l.2.2.toNat:Nat):Int)=l.1*l.2.2:=by
 have h1:((l.1.toNat:Nat):Int)=l.1:=by have:=hl.a1;omega
 have h2:((l.2.2.toNat:Nat):Int)=l.2.2:=by have:=hl.c1;omega
 rw[Int.natCast_mul,h1,h2]
theorem cellsS_len {l:Lt} (hl:IsL l):(cellsS l).length=l.1.toNat*l.2.2.toNat:=by
 rw[cellsS_eq hl];simp
theorem cellsS_le {l:Lt} (hl:IsL l):(cellsS l).length≤64:=by
 have:=idx_nat hl;have:=hl.ix;rw[cellsS_len hl];omega
theorem mem_cellsS {l:Lt} {v:Vc} (h:v∈cellsS l):0≤v.1∧v.1<l.1∧0≤v.2∧v.2<l.2.2:=by
 simp only[cellsS,rowS,List.mem_flatMap,List.mem_map,List.mem_range] at h;obtain⟨x,hx,y,hy,rfl⟩:=h;refine⟨?_,?_,?_,?_⟩<;>simp<;>omega
theorem cellsS_num {l:Lt} (hl:IsL l) {i:Nat} (h:i<(cellsS l).length):numS l (cellsS l)[i]=i:=by
 have hm:=mem_cellsS (gM h);have h1:(cellsS l)[i]=(((i / l.2.2.toNat:Nat):Int),((i % l.2.2.toNat:Nat):Int)):=by
  simp[cellsS_eq hl]
 unfold numS redS;obtain⟨m1,m2,m3,m4⟩:=hm;have h2:(cellsS l)[i].2 / l.2.2=0:=Int.ediv_eq_zero_of_lt m3 m4;have h3:(cellsS l)[i].2 % l.2.2=(cellsS l)[i].2:=Int.emod_eq_of_lt m3 m4;simp only[h2,h3,Int.zero_mul,Int.sub_zero,Int.emod_eq_of_lt m1 m2];rw[h1];have h4:((l.2.2.toNat:Nat):Int)=l.2.2:=by have:=hl.c1;omega
 have h5:(((i / l.2.2.toNat:Nat):Int))*l.2.2+((i % l.2.2.toNat:Nat):Int)=((i / l.2.2.toNat*l.2.2.toNat+i % l.2.2.toNat:Nat):Int):=by
  rw[Int.natCast_add,Int.natCast_mul,h4]
 simp only[h5];have:=Nat.div_add_mod' i l.2.2.toNat;omega
theorem l03Cells_row {l:Lt} (hl:IsL l) {L:Int→List Vc→Option (List Vc)} {x:Nat} (hx:x<64) {s:List Vc} (hs:s.length≤x*64) :
  f70_l9 KK l (x:Int) L KK 0 s=L ((x+1:Nat):Int) (s++rowS l.2.2.toNat x):=by
 have h2:((l.2.2.toNat:Nat):Int)=l.2.2:=by have:=hl.c1;omega
 have hc:=hl.c2;have h:=iter_fold (X:=Int×List Vc) (body:=fun L9 z=>f70_b9 KK l (x:Int) L (fun v0 v1=>L9 (v0,v1)) z.1 z.2) (List.range l.2.2.toNat) (fun q s=>((q:Int),s)) (fun s y=>s++[((x:Int),((y:Nat):Int))]) (fun s=>L ((x+1:Nat):Int) s) (fun q s=>s.length≤x*64+q)
  (fun L9 q s hq hi=>by
   simp only[List.length_range] at hq;simp only[List.getElem_range];refine⟨by simp;omega,?_⟩
   unfold f70_b9;have h3:decide ((q:Int)<l.2.2)=true:=by simp;omega
   rw[h3,cT,blim16 (by simp;omega),cT,w_succ (by omega)])
  (fun L9 s hi=>by
   unfold f70_b9;have h3:decide (((List.range l.2.2.toNat).length:Int)<l.2.2)=false:=by simp;omega
   simp only[h3,cF];rw[w_succ (by omega)]) KK 0 s (by omega) (by simp[KK];omega) (by simpa using hs)
 unfold f70_l9;refine h.trans ?_;simp only[List.drop_zero];rw[foldl_push];rfl
theorem l03Cells_eq {l:Lt} (hl:IsL l):f70G KK l=some (cellsS l):=by
 have h1:((l.1.toNat:Nat):Int)=l.1:=by have:=hl.a1;omega
 have ha:=hl.a2;have hc:=hl.c2;have h:=iter_fold (X:=Int×List Vc) (body:=fun L6 z=>f70_b6 KK l (fun c0 d0 d1=>f70_l9 KK l c0 (fun v0 v1=>L6 (v0,v1)) KK d0 d1) (fun v0 v1=>L6 (v0,v1)) z.1 z.2) (List.range l.1.toNat) (fun q s=>((q:Int),s)) (fun s x=>s++rowS l.2.2.toNat x) (fun s=>some s) (fun q s=>s.length≤q*64)
  (fun L6 q s hq hi=>by
   simp only[List.length_range] at hq;simp only[List.getElem_range];refine⟨by simp[rowS];omega,?_⟩
   unfold f70_b6;have h3:decide ((q:Int)<l.1)=true:=by simp;omega
   rw[h3,cT];exact l03Cells_row hl (by omega) hi)
  (fun L6 s hi=>by
   unfold f70_b6;have h3:decide (((List.range l.1.toNat).length:Int)<l.1)=false:=by simp;omega
   simp only[h3,cF]) KK 0 [] (by omega) (by simp[KK];omega) (by simp)
 unfold f70G f70_g f70_l6;refine h.trans ?_;simp only[List.drop_zero];rw[foldl_flat];rfl
theorem cells_row {l:Lt} (hl:IsL l) {L:Int→List Vc→Option (List Vc)} {x:Nat} (hx:x<64) {s:List Vc} (hs:s.length≤x*64) :
  f54_l9 KK l (x:Int) L KK 0 s=L ((x+1:Nat):Int) (s++rowS l.2.2.toNat x):=by
 have h2:((l.2.2.toNat:Nat):Int)=l.2.2:=by have:=hl.c1;omega
 have hc:=hl.c2;have h:=iter_fold (X:=Int×List Vc) (body:=fun L9 z=>f54_b9 KK l (x:Int) L (fun v0 v1=>L9 (v0,v1)) z.1 z.2) (List.range l.2.2.toNat) (fun q s=>((q:Int),s)) (fun s y=>s++[((x:Int),((y:Nat):Int))]) (fun s=>L ((x+1:Nat):Int) s) (fun q s=>s.length≤x*64+q)
  (fun L9 q s hq hi=>by
   simp only[List.length_range] at hq;simp only[List.getElem_range];refine⟨by simp;omega,?_⟩
   unfold f54_b9;have h3:decide ((q:Int)<l.2.2)=true:=by simp;omega
   rw[h3,cT,blim16 (by simp;omega),cT,w_succ (by omega)])
  (fun L9 s hi=>by
   unfold f54_b9;have h3:decide (((List.range l.2.2.toNat).length:Int)<l.2.2)=false:=by simp;omega
   simp only[h3,cF];rw[w_succ (by omega)]) KK 0 s (by omega) (by simp[KK];omega) (by simpa using hs)
 unfold f54_l9;refine h.trans ?_;simp only[List.drop_zero];rw[foldl_push];rfl
theorem cells_eq {l:Lt} (hl:IsL l):f54G KK l=some (cellsS l):=by
 have h1:((l.1.toNat:Nat):Int)=l.1:=by have:=hl.a1;omega
 have ha:=hl.a2;have hc:=hl.c2;have h:=iter_fold (X:=Int×List Vc) (body:=fun L6 z=>f54_b6 KK l (fun c0 d0 d1=>f54_l9 KK l c0 (fun v0 v1=>L6 (v0,v1)) KK d0 d1) (fun v0 v1=>L6 (v0,v1)) z.1 z.2) (List.range l.1.toNat) (fun q s=>((q:Int),s)) (fun s x=>s++rowS l.2.2.toNat x) (fun s=>some s) (fun q s=>s.length≤q*64)
  (fun L6 q s hq hi=>by
   simp only[List.length_range] at hq;simp only[List.getElem_range];refine⟨by simp[rowS];omega,?_⟩
   unfold f54_b6;have h3:decide ((q:Int)<l.1)=true:=by simp;omega
   rw[h3,cT];exact cells_row hl (by omega) hi)
  (fun L6 s hi=>by
   unfold f54_b6;have h3:decide (((List.range l.1.toNat).length:Int)<l.1)=false:=by simp;omega
   simp only[h3,cF]) KK 0 [] (by omega) (by simp[KK];omega) (by simp)
 unfold f54G f54_g f54_l6;refine h.trans ?_;simp only[List.drop_zero];rw[foldl_flat];rfl
structure SmM (m:Mt):Prop where
 a : -1≤m.1∧m.1≤1
 b : -1≤m.2.1∧m.2.1≤1
 c : -1≤m.2.2.1∧m.2.2.1≤1
 d : -1≤m.2.2.2∧m.2.2.2≤1
def Sv (v:Vc):Prop := -1000000≤v.1∧v.1≤1000000∧-1000000≤v.2∧v.2≤1000000
theorem one_cases {a:Int} (h : -1≤a∧a≤1):a = -1∨a=0∨a=1:=by omega
theorem unit_mul {a x:Int} (h : -1≤a∧a≤1) {B:Int} (h1 : -B≤x) (h2:x≤B) (hB:0≤B) : -B≤a*x∧a*x≤B:=by
 rcases one_cases h with rfl | rfl | rfl<;>omega
def mulS (m:Mt) (v:Vc):Vc:=(m.1*v.1+m.2.1*v.2,m.2.2.1*v.1+m.2.2.2*v.2)
def appS (m:Mt×Vc) (v:Vc):Vc:=((mulS m.1 v).1+m.2.1,(mulS m.1 v).2+m.2.2)
theorem mul_calc {m:Mt} (hm:SmM m) {v:Vc} (hv:Sv v):((w ((w (m.1*v.1))+(w (m.2.1*v.2)))),(w ((w (m.2.2.1*v.1))+(w (m.2.2.2*v.2)))))=mulS m v:=by
 obtain⟨v1,v2,v3,v4⟩:=hv;obtain⟨a1,a2⟩:=unit_mul hm.a v1 v2 (by omega)
 obtain⟨b1,b2⟩:=unit_mul hm.b v3 v4 (by omega)
 obtain⟨c1,c2⟩:=unit_mul hm.c v1 v2 (by omega)
 obtain⟨d1,d2⟩:=unit_mul hm.d v3 v4 (by omega)
 rw[w_id (n:=m.1*v.1) (by omega) (by omega),w_id (n:=m.2.1*v.2) (by omega) (by omega),w_id (n:=m.2.2.1*v.1) (by omega) (by omega),w_id (n:=m.2.2.2*v.2) (by omega) (by omega),w_id (by omega) (by omega),w_id (by omega) (by omega)]
 rfl
theorem mulS_bound {m:Mt} (hm:SmM m) {v:Vc} (hv:Sv v) : -2000000≤(mulS m v).1∧(mulS m v).1≤2000000∧-2000000≤(mulS m v).2∧(mulS m v).2≤2000000:=by
 obtain⟨v1,v2,v3,v4⟩:=hv;obtain⟨a1,a2⟩:=unit_mul hm.a v1 v2 (by omega)
 obtain⟨b1,b2⟩:=unit_mul hm.b v3 v4 (by omega)
 obtain⟨c1,c2⟩:=unit_mul hm.c v1 v2 (by omega)
 obtain⟨d1,d2⟩:=unit_mul hm.d v3 v4 (by omega)
 simp only[mulS];omega
theorem l02Apply_eq {m:Mt} (hm:SmM m) {v:Vc} (hv:Sv v):f131G KK m v=some (mulS m v):=by
 unfold f131G;rw[mul_calc hm hv]
theorem matApply_eq {m:Mt} (hm:SmM m) {v:Vc} (hv:Sv v):f99G KK m v=some (mulS m v):=by
 unfold f99G;rw[mul_calc hm hv]
theorem l05Apply_eq {m:Mt×Vc} (hm:SmM m.1) {v:Vc} (hv:Sv v) (ht:Sv m.2):f125G KK m v=some (appS m v):=by
 obtain⟨b1,b2,b3,b4⟩:=mulS_bound hm hv;obtain⟨t1,t2,t3,t4⟩:=ht;unfold f125G f130G;rw[l02Apply_eq hm hv];simp only[oB];rw[w_id (by omega) (by omega),w_id (by omega) (by omega)]
 rfl
theorem motApply_eq {m:Mt×Vc} (hm:SmM m.1) {v:Vc} (hv:Sv v) (ht:Sv m.2):f109G KK m v=some (appS m v):=by
 obtain⟨b1,b2,b3,b4⟩:=mulS_bound hm hv;obtain⟨t1,t2,t3,t4⟩:=ht;unfold f109G f100G;rw[matApply_eq hm hv];simp only[oB];rw[w_id (by omega) (by omega),w_id (by omega) (by omega)]
 rfl
theorem appS_Sm {m:Mt×Vc} (hm:SmM m.1) {v:Vc} (hv:Sv v) (ht:Sv m.2):Sm (appS m v):=by
 obtain⟨b1,b2,b3,b4⟩:=mulS_bound hm hv;obtain⟨t1,t2,t3,t4⟩:=ht;simp only[Sm,appS];omega
theorem cell_Sv {l:Lt} (hl:IsL l) {v:Vc} (h:v∈cellsS l):Sv v:=by
 obtain⟨h1,h2,h3,h4⟩:=mem_cellsS h;obtain⟨a1,a2,c1,c2,b1,b2,ix⟩:=hl;simp only[Sv];omega
theorem Sv_Sm {v:Vc} (h:Sv v):Sm v:=by
 obtain⟨h1,h2,h3,h4⟩:=h;simp only[Sm];omega
def keepsS (p:Pt) (m:Mt×Vc):Bool:=(cellsS p.2.1).all fun v=>atS p (appS m v)==atS p v
theorem l09Keeps_eq {p:Pt} (hp:IsP p) {m:Mt×Vc} (hm:SmM m.1) (ht:Sv m.2):f71G KK p m=some (keepsS p m):=by
 unfold f71G f71_g;rw[l03Cells_eq hp.l];simp only[oB];have h:=iter_all (X:=Int) (body:=fun L6 x=>f71_b6 KK p m (cellsS p.2.1) (fun v0=>L6 v0) x) (cellsS p.2.1) (fun q=>(q:Int)) (fun v=>atS p (appS m v)==atS p v) (some false) (some true)
  (fun L6 q hq=>by
   have hv:=cell_Sv hp.l (gM hq);have:=cellsS_le hp.l;unfold f71_b6;rw[in1 hq,in0,gd hq,l05Apply_eq hm hv ht,l09At_eq hp (Sv_Sm hv)];simp only[aS,cT,oB];rw[l09At_eq hp (appS_Sm hm hv ht),oB,w_succ (by omega),bne]
   cases atS p (appS m (cellsS p.2.1)[q])==atS p (cellsS p.2.1)[q]<;>rfl)
  (fun L6=>by
   unfold f71_b6;rw[out1,cF]) KK 0 (by omega) (by have:=cellsS_le hp.l;simp[KK];omega)
 unfold f71_l6;refine h.trans ?_;simp only[List.drop_zero];unfold keepsS;cases (cellsS p.2.1).all fun v=>atS p (appS m v)==atS p v<;>rfl
theorem keeps_eq {p:Pt} (hp:IsP p) {m:Mt×Vc} (hm:SmM m.1) (ht:Sv m.2):f55G KK p m=some (keepsS p m):=by
 unfold f55G f55_g;rw[cells_eq hp.l];simp only[oB];have h:=iter_all (X:=Int) (body:=fun L6 x=>f55_b5 KK p m (cellsS p.2.1) (fun v0=>L6 v0) x) (cellsS p.2.1) (fun q=>(q:Int)) (fun v=>atS p (appS m v)==atS p v) (some false) (some true)
  (fun L6 q hq=>by
   have hv:=cell_Sv hp.l (gM hq);have:=cellsS_le hp.l;have h1:=cellsS_num hp.l hq;have h2:=cellsS_len hp.l;have h3:=idx_nat hp.l;have hq2:q<p.2.2.length:=by have:=hp.n;omega
   have h4:atS p (cellsS p.2.1)[q]=p.2.2[q]:=by
    unfold atS;rw[h1];simp[List.getD,hq2]
   unfold f55_b5;rw[in1 hq,in0,gd hq,motApply_eq hm hv ht,in1 hq2,gd hq2];simp only[aS,cT,oB];rw[at_eq hp (appS_Sm hm hv ht),oB,w_succ (by omega),bne,h4]
   cases atS p (appS m (cellsS p.2.1)[q])==p.2.2[q]<;>rfl)
  (fun L6=>by
   unfold f55_b5;rw[out1,cF]) KK 0 (by omega) (by have:=cellsS_le hp.l;simp[KK];omega)
 unfold f55_l5;refine h.trans ?_;simp only[List.drop_zero];unfold keepsS;cases (cellsS p.2.1).all fun v=>atS p (appS m v)==atS p v<;>rfl
theorem abs_eq {q:Int} (h:q.natAbs≤4611686018427387904):(if (w (0-q))>q then (w (0-q)) else q)=(q.natAbs:Int):=by
 rw[w_id (by omega) (by omega)]
 split<;>omega
theorem gcd_step (a b:Int) (h:b≠0):Int.gcd b (a.tmod b)=Int.gcd a b:=by
 simp only[Int.gcd,Int.natAbs_tmod];rw[Nat.gcd_comm a.natAbs,Nat.gcd_rec b.natAbs a.natAbs,Nat.gcd_comm]
theorem gcd_loop:∀ (n:Nat) (a b:Int),b.natAbs<n→a.natAbs≤4611686018427387904→b.natAbs≤4611686018427387904→f156_l2 KK n a b=some ((Int.gcd a b:Nat):Int)
 | 0,a,b,h,_,_=>by omega
 | n+1,a,b,h,h1,h2=>by
  have e:f156_l2 KK (n+1) a b=f156_b2 KK (fun v0 v1=>f156_l2 KK n v0 v1) a b:=rfl;rw[e];unfold f156_b2
  dsimp only
  by_cases hb:b=0
  ·subst hb;simp only[bne_self_eq_false,cF,abs_eq h1];simp[Int.gcd]
  ·have h3:(b != 0)=true:=by simp[hb]
   rw[h3,cT,cT];have h4:(a.tmod b).natAbs<b.natAbs:=by rw[Int.natAbs_tmod];exact Nat.mod_lt _ (by omega)
   rw[gcd_loop n b (a.tmod b) (by omega) h2 (by omega),gcd_step a b hb]
theorem gcd_eq {a b:Int} (ha:a.natAbs≤1000000) (hb:b.natAbs≤4611686018427387904):f156G KK a b=some ((Int.gcd a b:Nat):Int):=by
 have e:f156G KK a b=f156_b2 KK (fun v0 v1=>f156_l2 KK 2097151 v0 v1) a b:=rfl;rw[e];unfold f156_b2
 dsimp only
 by_cases hb0:b=0
 ·subst hb0;simp only[bne_self_eq_false,cF];rw[abs_eq (by omega)]
  simp[Int.gcd]
 ·have h3:(b != 0)=true:=by simp[hb0]
  rw[h3,cT,cT];have h4:(a.tmod b).natAbs≤a.natAbs:=by rw[Int.natAbs_tmod];exact Nat.mod_le _ _
  rw[gcd_loop _ b (a.tmod b) (by omega) hb (by omega),gcd_step a b hb0]
theorem divisor_loop:∀ (n:Nat) (a b:Int),b.natAbs<n→a.natAbs≤4611686018427387904→b.natAbs≤4611686018427387904→f181R KK n a b=some ((Int.gcd a b:Nat):Int)
 | 0,a,b,h,_,_=>by omega
 | n+1,a,b,h,h1,h2=>by
  show f181_s KK (f181R KK n) a b=_;unfold f181_s;by_cases hb:b=0
  ·subst hb;simp only[beq_self_eq_true,cT,abs_eq h1];simp[Int.gcd]
  ·have h3:(b != 0)=true:=by simp[hb]
   have h5:(b==0)=false:=by simp[hb]
   rw[h3,h5,cT,cF];have h4:(a.tmod b).natAbs<b.natAbs:=by rw[Int.natAbs_tmod];exact Nat.mod_lt _ (by omega)
   rw[divisor_loop n b (a.tmod b) (by omega) h2 (by omega),gcd_step a b hb]
   rfl
theorem divisor_eq {a b:Int} (ha:a.natAbs≤1000000) (hb:b.natAbs≤4611686018427387904):f181G KK a b=some ((Int.gcd a b:Nat):Int):=by
 show f181_s KK (f181R KK 2097151) a b=_;unfold f181_s;by_cases hb0:b=0
 ·subst hb0;simp only[beq_self_eq_true,cT];rw[abs_eq (by omega)]
  simp[Int.gcd]
 ·have h3:(b != 0)=true:=by simp[hb0]
  have h5:(b==0)=false:=by simp[hb0]
  rw[h3,h5,cT,cF];have h4:(a.tmod b).natAbs≤a.natAbs:=by rw[Int.natAbs_tmod];exact Nat.mod_le _ _
  rw[divisor_loop _ b (a.tmod b) (by omega) hb (by omega),gcd_step a b hb0]
  rfl
def nx (p v:Vc):Vc:=(p.1-p.2.tdiv v.2*v.1,p.2-p.2.tdiv v.2*v.2)
def euS:Nat→Vc→Vc→Vc×Int
 | 0,p,v=>(p,v.1)
 | n+1,p,v=>if v.2=0 then (p,v.1) else euS n v (nx p v)
theorem nx_y (p v:Vc):(nx p v).2=p.2.tmod v.2:=by
 have:=Int.tmod_add_mul_tdiv p.2 v.2;simp only[nx];rw[Int.mul_comm];omega
theorem nx_ylt (p v:Vc) (h:v.2≠0):(nx p v).2.natAbs<v.2.natAbs:=by
 rw[nx_y,Int.natAbs_tmod];exact Nat.mod_lt _ (by omega)
def Dv (p v:Vc):Nat:=p.1.natAbs*v.2.natAbs+v.1.natAbs*p.2.natAbs
theorem nx_D (p v:Vc) (h:v.2≠0):Dv v (nx p v)≤Dv p v:=by
 have h1:(nx p v).2.natAbs=p.2.natAbs % v.2.natAbs:=by rw[nx_y,Int.natAbs_tmod]
 have h2:(nx p v).1.natAbs≤p.1.natAbs+p.2.natAbs / v.2.natAbs*v.1.natAbs:=by
  have:=Int.natAbs_sub_le p.1 (p.2.tdiv v.2*v.1);rw[Int.natAbs_mul,Int.natAbs_tdiv] at this;exact this
 have h3:=Nat.mod_add_div p.2.natAbs v.2.natAbs;unfold Dv;rw[h1];generalize p.1.natAbs=P at *;generalize v.1.natAbs=V at *;generalize p.2.natAbs / v.2.natAbs=k at *;generalize p.2.natAbs % v.2.natAbs=r at *;generalize v.2.natAbs=U at *;generalize p.2.natAbs=Q at *
 calc V*r+(nx p v).1.natAbs*U≤V*r+(P+k*V)*U:=Nat.add_le_add_left (Nat.mul_le_mul_right _ h2) _
  _=P*U+V*(r+U*k):=by
   rw[Nat.add_mul,Nat.mul_add];have:k*V*U=V*(U*k):=by rw[Nat.mul_comm k V,Nat.mul_assoc,Nat.mul_comm k U]
   omega
  _=P*U+V*Q:=by rw[h3]
structure Bd (B:Nat) (p v:Vc):Prop where
 bp:p.1.natAbs≤B
 bv:v.1.natAbs≤B
 d:Dv p v≤B
theorem Bd_nx {B:Nat} {p v:Vc} (h:Bd B p v) (hv:v.2≠0):Bd B v (nx p v):=by
 have h1:=nx_D p v hv;refine⟨h.bv,?_,by have:=h.d;omega⟩
 have h2:(nx p v).1.natAbs*v.2.natAbs≤Dv v (nx p v):=by unfold Dv;omega
 have h3:(nx p v).1.natAbs*1≤(nx p v).1.natAbs*v.2.natAbs:=Nat.mul_le_mul_left _ (by omega)
 have:=h.d;omega
theorem euS_bd {B:Nat}:∀ (n:Nat) (p v:Vc),v.2.natAbs<n→Bd B p v→(euS n p v).1.1.natAbs≤B∧(euS n p v).2.natAbs≤B
 | 0,p,v,h,_=>by omega
 | n+1,p,v,h,hb=>by
  simp only[euS];split
  ·exact⟨hb.bp,hb.bv⟩
  ·rename_i hv;exact euS_bd n v (nx p v) (by have:=nx_ylt p v hv;omega) (Bd_nx hb hv)
theorem euS_fuel:∀ (n m:Nat) (p v:Vc),v.2.natAbs<n→v.2.natAbs<m→euS n p v=euS m p v
 | 0,m,p,v,h,_=>by omega
 | n+1,0,p,v,_,h=>by omega
 | n+1,m+1,p,v,h,h'=>by
  simp only[euS];split
  ·rfl
  ·rename_i hv;exact euS_fuel n m v (nx p v) (by have:=nx_ylt p v hv;omega) (by have:=nx_ylt p v hv;omega)
theorem nx_calc {p v:Vc} (h:Bd 36028797018963968 p v) (hp:p.2.natAbs≤1000000) (hv0:v.2≠0) (hv:v.2.natAbs≤1000000) :
  w (p.1-(w ((w (p.2.tdiv v.2))*v.1)))=(nx p v).1∧w (p.2-(w ((w (p.2.tdiv v.2))*v.2)))=(nx p v).2∧w (p.1+w (w (0-(w (p.2.tdiv v.2)))*v.1))=(nx p v).1∧w (p.2+w (w (0-(w (p.2.tdiv v.2)))*v.2))=(nx p v).2:=by
 have k1:(p.2.tdiv v.2).natAbs≤p.2.natAbs:=by rw[Int.natAbs_tdiv];exact Nat.div_le_self _ _
 have k2:(p.2.tdiv v.2*v.1).natAbs≤Dv p v:=by
  rw[Int.natAbs_mul];have:=Nat.mul_le_mul_right v.1.natAbs k1;unfold Dv;rw[Nat.mul_comm v.1.natAbs];omega
 have k3:(p.2.tdiv v.2*v.2).natAbs≤p.2.natAbs:=by
  rw[Int.natAbs_mul,Int.natAbs_tdiv];exact Nat.div_mul_le_self _ _
 have e1 : -p.2.tdiv v.2*v.1 = -(p.2.tdiv v.2*v.1):=Int.neg_mul _ _;have e2 : -p.2.tdiv v.2*v.2 = -(p.2.tdiv v.2*v.2):=Int.neg_mul _ _;obtain⟨b1,b2,b3⟩:=h;rw[w_id (n:=p.2.tdiv v.2) (by omega) (by omega),w_id (n:=p.2.tdiv v.2*v.1) (by omega) (by omega),w_id (n:=p.2.tdiv v.2*v.2) (by omega) (by omega),w_id (n:=0-p.2.tdiv v.2) (by omega) (by omega),Int.zero_sub,e1,e2,
  w_id (n := -(p.2.tdiv v.2*v.1)) (by omega) (by omega),w_id (n := -(p.2.tdiv v.2*v.2)) (by omega) (by omega)]
 simp only[nx];refine⟨w_id (by omega) (by omega),w_id (by omega) (by omega),?_,?_⟩
 ·rw[w_id (by omega) (by omega)];omega
 ·rw[w_id (by omega) (by omega)];omega
theorem euS_cong (a:Int):∀ (n:Nat) (p v p' v':Vc),p.2=p'.2→v.2=v'.2→a ∣ p.1-p'.1→a ∣ v.1-v'.1 →
  (euS n p v).1.2=(euS n p' v').1.2∧a ∣ (euS n p v).1.1-(euS n p' v').1.1∧a ∣ (euS n p v).2-(euS n p' v').2
 | 0,p,v,p',v',h1,h2,h3,h4=>⟨h1,h3,h4⟩
 | n+1,p,v,p',v',h1,h2,h3,h4=>by
  simp only[euS,← h2];split
  ·exact⟨h1,h3,h4⟩
  ·refine euS_cong a n v (nx p v) v' (nx p' v') h2 ?_ h4 ?_
   ·simp only[nx,← h1,← h2]
   ·simp only[nx,← h1,← h2];obtain⟨s,hs⟩:=h3;obtain⟨t,ht⟩:=h4;refine⟨s-p.2.tdiv v.2*t,?_⟩;rw[Int.mul_sub,← hs,show a*(p.2.tdiv v.2*t)=p.2.tdiv v.2*(a*t) by rw[← Int.mul_assoc,Int.mul_comm a,Int.mul_assoc],← ht,Int.mul_sub]
    omega
def Clo (S:Vc→Prop):Prop:=∀ u v:Vc,∀ k:Int,S u→S v→S (u.1+k*v.1,u.2+k*v.2)
theorem euS_in {S:Vc→Prop} (hS:Clo S):∀ (n:Nat) (p v:Vc),v.2.natAbs<n→S p→S v→S (euS n p v).1∧S ((euS n p v).2,0)
 | 0,p,v,h,_,_=>by omega
 | n+1,p,v,h,hp,hv=>by
  simp only[euS];split
  ·rename_i h0;refine⟨hp,?_⟩;have:v=(v.1,0):=by rw[← h0]
   rwa [this] at hv
  ·rename_i h0;refine euS_in hS n v (nx p v) (by have:=nx_ylt p v h0;omega) hv ?_
   have:=hS p v (-(p.2.tdiv v.2)) hp hv;rw[Int.neg_mul,Int.neg_mul] at this;exact this
theorem euS_out {S:Vc→Prop} (hS:Clo S):∀ (n:Nat) (p v:Vc),v.2.natAbs<n→S (euS n p v).1→S ((euS n p v).2,0)→S p∧S v
 | 0,p,v,h,_,_=>by omega
 | n+1,p,v,h,h1,h2=>by
  simp only[euS] at h1 h2;split at h1
  ·rename_i h0;rw[if_pos h0] at h2;have:v=(v.1,0):=by rw[← h0]
   exact⟨h1,by rw[this];exact h2⟩
  ·rename_i h0;rw[if_neg h0] at h2;obtain⟨h3,h4⟩:=euS_out hS n v (nx p v) (by have:=nx_ylt p v h0;omega) h1 h2
   refine⟨?_,h3⟩;have:=hS (nx p v) v (p.2.tdiv v.2) h4 h3;simp only[nx,Int.sub_add_cancel] at this;exact this
theorem euS_det:∀ (n:Nat) (p v:Vc),v.2.natAbs<n→((euS n p v).2*(euS n p v).1.2).natAbs=(p.1*v.2-v.1*p.2).natAbs
 | 0,p,v,h=>by omega
 | n+1,p,v,h=>by
  simp only[euS];split
  ·rename_i h0;show (v.1*p.2).natAbs=_;rw[h0,Int.mul_zero,Int.zero_sub,Int.natAbs_neg]
  ·rename_i h0;rw[euS_det n v (nx p v) (by have:=nx_ylt p v h0;omega)]
   have e:v.1*(nx p v).2-(nx p v).1*v.2 = -(p.1*v.2-v.1*p.2):=by
    simp only[nx,Int.mul_sub,Int.sub_mul];have:v.1*(p.2.tdiv v.2*v.2)=p.2.tdiv v.2*v.1*v.2:=by rw[← Int.mul_assoc,Int.mul_comm v.1]
    omega
   rw[e,Int.natAbs_neg]
theorem euS_gcd:∀ (n:Nat) (p v:Vc),v.2.natAbs<n→(euS n p v).1.2.natAbs=Nat.gcd p.2.natAbs v.2.natAbs
 | 0,p,v,h=>by omega
 | n+1,p,v,h=>by
  simp only[euS];split
  ·rename_i h0;simp[h0]
  ·rename_i h0;rw[euS_gcd n v (nx p v) (by have:=nx_ylt p v h0;omega),nx_y,Int.natAbs_tmod,Nat.gcd_comm p.2.natAbs,Nat.gcd_rec v.2.natAbs p.2.natAbs,Nat.gcd_comm]
theorem euS_half (n:Nat) (p v:Vc) (hn:v.2.natAbs<n) (hn3:3≤n) (hp:p.2≠0):2*(euS n p v).1.2.natAbs≤p.2.natAbs∨(euS n p v).1=p∨((euS n p v).1=v∧v.2.natAbs=p.2.natAbs):=by
 have hg:=euS_gcd n p v hn;by_cases hd:p.2.natAbs ∣ v.2.natAbs
 ·right;rw[euS_fuel n (n+3) p v hn (by omega)]
  simp only[euS];split
  ·left;rfl
  ·rename_i h0;have h1:1≤v.2.natAbs:=by omega
   have hle:=Nat.le_of_dvd h1 hd;split
   ·rename_i h2;right;refine⟨rfl,?_⟩;rw[nx_y] at h2;have h3:=Int.natAbs_tmod p.2 v.2;rw[h2] at h3;have h4:v.2.natAbs ∣ p.2.natAbs:=Nat.dvd_of_mod_eq_zero h3.symm;exact Nat.le_antisymm (Nat.le_of_dvd (by omega) h4) hle
   ·rename_i h2;left;have h3:p.2.natAbs<v.2.natAbs:=by
     rcases Nat.lt_or_ge p.2.natAbs v.2.natAbs with h | h
     ·exact h
     ·exfalso
      apply h2
      have:p.2.natAbs=v.2.natAbs:=by omega
      rw[nx_y];have h3:=Int.natAbs_tmod p.2 v.2;rw[this,Nat.mod_self] at h3;omega
    have hk:p.2.tdiv v.2=0:=by
     have:(p.2.tdiv v.2).natAbs=0:=by rw[Int.natAbs_tdiv];exact Nat.div_eq_of_lt h3
     omega
    have hnx:nx p v=p:=by simp only[nx,hk,Int.zero_mul,Int.sub_zero]
    rw[hnx];have h5:(nx v p).2=0:=by
     rw[nx_y];have h6:=Int.natAbs_tmod v.2 p.2;rw[Nat.mod_eq_zero_of_dvd hd] at h6;omega
    rw[if_pos h5]
 ·left;rw[hg];have h1:=Nat.gcd_dvd_left p.2.natAbs v.2.natAbs;have h2:Nat.gcd p.2.natAbs v.2.natAbs≠p.2.natAbs:=fun h=>hd (by have:=Nat.gcd_dvd_right p.2.natAbs v.2.natAbs;rwa [h] at this)
  obtain⟨k,hk⟩:=h1;have h3:2≤k:=by
   rcases Nat.lt_or_ge k 2 with h | h
   ·have:k=0∨k=1:=by omega
    rcases this with rfl | rfl
    ·simp at hk;omega
    ·rw[Nat.mul_one] at hk;exact absurd hk.symm h2
   ·exact h
  have:=Nat.mul_le_mul_left (Nat.gcd p.2.natAbs v.2.natAbs) h3;omega
noncomputable def tailR (a:Int) (q:Int) (L:Int→Int→Int→Int→Option Lt) (r:Vc×Int):Option Lt :=
 (f181G KK a r.2).bind fun y20=>(bif (decide (y20>(0:Int))) then (f182G KK r.1.1 y20).bind fun y21=>L y20 (w (q+(1:Int))) y21 r.1.2 else L y20 (w (q+(1:Int))) r.1.1 r.1.2)
theorem herm_in (l:List Vc) (a q:Int) (L:Int→Int→Int→Int→Option Lt):∀ (n:Nat) (p v:Vc),v.2.natAbs<n→Bd 36028797018963968 p v→p.2.natAbs≤1000000→v.2.natAbs≤1000000 →
  f122_l15 KK l a q L n p.1 p.2 v.1 v.2=tailR a q L (euS n p v)
 | 0,p,v,h,_,_,_=>by omega
 | n+1,p,v,h,hb,hp,hv=>by
  have e:f122_l15 KK l a q L (n+1) p.1 p.2 v.1 v.2=f122_b15 KK l a q L (fun v0 v1 v2 v3=>f122_l15 KK l a q L n v0 v1 v2 v3) p.1 p.2 v.1 v.2:=rfl;rw[e];unfold f122_b15
  dsimp only
  by_cases h0:v.2=0
  ·have h1:(v.2 != 0)=false:=by simp[h0]
   rw[h1,cF];simp only[euS,h0,if_true];rfl
  ·have h1:(v.2 != 0)=true:=by simp[h0]
   obtain⟨c1,c2,c3,c4⟩:=nx_calc hb hp h0 hv;have h2:=nx_ylt p v h0;rw[h1,cT,cT,c1,c2,herm_in l a q L n v (nx p v) (by omega) (Bd_nx hb h0) hv (by omega)]
   simp only[euS,if_neg h0]
noncomputable def tailI (a:Int) (q:Int) (L:Int→Int→Int→Int→Option Lt) (r:Vc×Int):Option Lt :=
 (f156G KK a r.2).bind fun y25=>L y25 (w (q+(1:Int))) r.1.1 r.1.2
theorem latt_in (l:List Vc) (a q:Int) (L:Int→Int→Int→Int→Option Lt):∀ (n:Nat) (p v:Vc),v.2.natAbs<n→Bd 36028797018963968 p v→p.2.natAbs≤1000000→v.2.natAbs≤1000000 →
  f95_l18 KK l a q L n p.1 p.2 v.1 v.2=tailI a q L (euS n p v)
 | 0,p,v,h,_,_,_=>by omega
 | n+1,p,v,h,hb,hp,hv=>by
  have e:f95_l18 KK l a q L (n+1) p.1 p.2 v.1 v.2=f95_b18 KK l a q L (fun v0 v1 v2 v3=>f95_l18 KK l a q L n v0 v1 v2 v3) p.1 p.2 v.1 v.2:=rfl;rw[e];unfold f95_b18 f155G f100G
  dsimp only
  by_cases h0:v.2=0
  ·have h1:(v.2 != 0)=false:=by simp[h0]
   rw[h1,cF];simp only[euS,h0,if_true];rfl
  ·have h1:(v.2 != 0)=true:=by simp[h0]
   obtain⟨c1,c2,c3,c4⟩:=nx_calc hb hp h0 hv;have h2:=nx_ylt p v h0;simp only[oB];rw[h1,cT,cT,c3,c4,latt_in l a q L n v (nx p v) (by omega) (Bd_nx hb h0) hv (by omega)]
   simp only[euS,if_neg h0]
abbrev Hs:=Int×Vc
def gI (a x:Int):Int:=((Int.gcd a x:Nat):Int)
def stI (s:Hs) (t:Vc):Hs:=(gI s.1 (euS KK s.2 t).2,(euS KK s.2 t).1)
def stR (s:Hs) (t:Vc):Hs:=(gI s.1 (euS KK s.2 t).2,((if gI s.1 (euS KK s.2 t).2>0 then (euS KK s.2 t).1.1 % gI s.1 (euS KK s.2 t).2 else (euS KK s.2 t).1.1),(euS KK s.2 t).1.2))
structure Oks (s:Hs) (t:Vc):Prop where
 bd:Bd 36028797018963968 s.2 t
 y:s.2.2.natAbs≤1000000
 ty:t.2.natAbs≤1000000
 a:s.1.natAbs≤1000000
 g:gI s.1 (euS KK s.2 t).2≤1000000
def finR (s:Hs):Lt:=(s.1,(if s.1>0 then (if s.2.2<0 then -s.2.1 else s.2.1) % s.1 else (if s.2.2<0 then -s.2.1 else s.2.1)),(if s.2.2<0 then -s.2.2 else s.2.2))
theorem gI_pos (a x:Int):0≤gI a x:=by unfold gI;omega
theorem KKlt {n:Nat} (h:n≤1000000):n<KK:=by simp only[KK];omega
theorem KKlt2 {n:Nat} (h:n≤1048576):n<KK:=by simp only[KK];omega
theorem hermite_eq (l:List Vc) (hl:l.length≤1000000) (inv:Nat→Hs→Prop) (h0:inv 0 (0,0,0)) (h1:∀ q s (hq:q<l.length),inv q s→Oks s l[q]∧inv (q+1) (stR s l[q]))
  (h2:∀ s,inv l.length s→s.1≤1000000∧s.2.1.natAbs≤36028797018963968∧s.2.2.natAbs≤36028797018963968):f122G KK l=some (finR (l.foldl stR (0,0,0))):=by
 have h:=iter_fold (X:=Int×Int×Int×Int) (body:=fun L x=>f122_b10 KK l (fun c0 c1 d0 d1 d2 d3=>f122_l15 KK l c0 c1 (fun v0 v1 v2 v3=>L (v0,v1,v2,v3)) KK d0 d1 d2 d3) (fun v0 v1 v2 v3=>L (v0,v1,v2,v3)) x.1 x.2.1 x.2.2.1 x.2.2.2) l (fun q s=>(s.1,(q:Int),s.2.1,s.2.2)) stR (fun s=>some (finR s)) inv
  (fun L q s hq hi=>by
   obtain⟨ok,hn⟩:=h1 q s hq hi;refine⟨hn,?_⟩;have hy:=KKlt ok.ty;have hbd:=euS_bd KK s.2 l[q] hy ok.bd;unfold f122_b10;simp only;rw[in1 hq,in0,gd hq,herm_in l s.1 q _ KK s.2 l[q] hy ok.bd ok.y ok.ty];simp only[aS,cT];unfold tailR;rw[divisor_eq ok.a (by have:=hbd.2;omega),oB,w_succ (by omega)]
   show (bif decide (gI s.1 (euS KK s.2 l[q]).2>0) then _ else _)=_;unfold stR;by_cases hg:gI s.1 (euS KK s.2 l[q]).2>0
   ·rw[dT hg,cT];show (f182G KK (euS KK s.2 l[q]).1.1 (gI s.1 (euS KK s.2 l[q]).2)).bind _=_;rw[l01Mod_eq (by omega) ok.g]
    simp only[oB,if_pos hg];rfl
   ·rw[dF hg,cF];simp only[if_neg hg];rfl)
  (fun L s hi=>by
   obtain⟨e1,e2,e3⟩:=h2 s hi;unfold f122_b10 f183G;simp only;rw[out1,cF];unfold finR;by_cases hy:s.2.2<0
   ·rw[dT hy,cT,oB,w_id (n := -1*s.2.1) (by omega) (by omega),w_id (n := -1*s.2.2) (by omega) (by omega)]
    simp only[if_pos hy];have e4 : -1*s.2.1 = -s.2.1:=by omega
    have e5 : -1*s.2.2 = -s.2.2:=by omega
    rw[e4,e5];by_cases ha:s.1>0
    ·rw[dT ha,cT,l01Mod_eq (by omega) e1,if_pos ha];rfl
    ·rw[dF ha,cF,if_neg ha]
   ·rw[dF hy,cF];simp only[if_neg hy];by_cases ha:s.1>0
    ·rw[dT ha,cT,l01Mod_eq (by omega) e1,if_pos ha];rfl
    ·rw[dF ha,cF,if_neg ha]) KK 0 (0,0,0) (by omega) (by have:=KKlt hl;omega) h0
 unfold f122G f122_g f122_l10;refine h.trans ?_;simp only[List.drop_zero]
theorem lattice_eq (l:List Vc) (hl:l.length≤1000000) (inv:Nat→Hs→Prop) (h0:inv 0 (0,0,0)) (h1:∀ q s (hq:q<l.length),inv q s→Oks s l[q]∧inv (q+1) (stI s l[q]))
  (h2:∀ s,inv l.length s→1≤s.1∧s.1≤1000000∧s.2.1.natAbs≤36028797018963968∧s.2.2.natAbs≤36028797018963968):f95G KK l=some (finR (l.foldl stI (0,0,0))):=by
 have h:=iter_fold (X:=Int×Int×Int×Int) (body:=fun L x=>f95_b13 KK l (fun c0 c1 d0 d1 d2 d3=>f95_l18 KK l c0 c1 (fun v0 v1 v2 v3=>L (v0,v1,v2,v3)) KK d0 d1 d2 d3) (fun v0 v1 v2 v3=>L (v0,v1,v2,v3)) x.1 x.2.1 x.2.2.1 x.2.2.2) l (fun q s=>(s.1,(q:Int),s.2.1,s.2.2)) stI (fun s=>some (finR s)) inv
  (fun L q s hq hi=>by
   obtain⟨ok,hn⟩:=h1 q s hq hi;refine⟨hn,?_⟩;have hy:=KKlt ok.ty;have hbd:=euS_bd KK s.2 l[q] hy ok.bd;unfold f95_b13;simp only;rw[in1 hq,in0,gd hq,latt_in l s.1 q _ KK s.2 l[q] hy ok.bd ok.y ok.ty];simp only[aS,cT];unfold tailI;rw[gcd_eq ok.a (by have:=hbd.2;omega),oB,w_succ (by omega)]
   rfl)
  (fun L s hi=>by
   obtain⟨e0,e1,e2,e3⟩:=h2 s hi;unfold f95_b13 f155G;simp only;rw[out1,cF];unfold finR;have ha:s.1>0:=by omega
   by_cases hy:s.2.2<0
   ·rw[dT hy,cT,oB,w_id (n := -1*s.2.1) (by omega) (by omega),w_id (n := -1*s.2.2) (by omega) (by omega)]
    simp only[if_pos hy];have e4 : -1*s.2.1 = -s.2.1:=by omega
    have e5 : -1*s.2.2 = -s.2.2:=by omega
    rw[e4,e5,mod_eq e0 e1,if_pos ha];rfl
   ·rw[dF hy,cF];simp only[if_neg hy];rw[mod_eq e0 e1,if_pos ha];rfl) KK 0 (0,0,0) (by omega) (by have:=KKlt hl;omega) h0
 unfold f95G f95_g f95_l13;refine h.trans ?_;simp only[List.drop_zero]
theorem gcd_cong {a x y:Int} (h:a ∣ x-y):Int.gcd a x=Int.gcd a y:=by
 obtain⟨k,hk⟩:=h;have:x=y+a*k:=by omega
 subst this;simp
theorem emod_cong {a x y:Int} (h:a ∣ x-y):x % a=y % a :=
 Int.emod_eq_emod_iff_emod_sub_eq_zero.mpr (Int.emod_eq_zero_of_dvd h)
structure Rl (s r:Hs):Prop where
 a:s.1=r.1
 p:0≤s.1
 y:s.2.2=r.2.2
 x:s.1 ∣ s.2.1-r.2.1
theorem Rl_step {s r:Hs} (h:Rl s r) (t:Vc):Rl (stI s t) (stR r t):=by
 obtain⟨c1,c2,c3⟩:=euS_cong s.1 KK s.2 t r.2 t h.y rfl h.x (by simp)
 have hg:gI s.1 (euS KK s.2 t).2=gI r.1 (euS KK r.2 t).2:=by
  unfold gI;rw[gcd_cong c3,h.a]
 have hd:gI s.1 (euS KK s.2 t).2 ∣ s.1:=by unfold gI;exact Int.gcd_dvd_left ..
 refine⟨hg,gI_pos _ _,c1,?_⟩;have h1:=Int.dvd_trans hd c2;show gI s.1 (euS KK s.2 t).2 ∣ (euS KK s.2 t).1.1-(stR r t).2.1;unfold stR;simp only[← hg];split
 ·have e:(euS KK s.2 t).1.1-(euS KK r.2 t).1.1 % gI s.1 (euS KK s.2 t).2=((euS KK s.2 t).1.1-(euS KK r.2 t).1.1)+((euS KK r.2 t).1.1-(euS KK r.2 t).1.1 % gI s.1 (euS KK s.2 t).2):=by omega
  rw[e];exact Int.dvd_add h1 (Int.dvd_self_sub_emod)
 ·exact h1
theorem Rl_fold:∀ (l:List Vc) {s r:Hs},Rl s r→Rl (l.foldl stI s) (l.foldl stR r)
 | [],_,_,h=>h
 | t :: l,_,_,h=>Rl_fold l (Rl_step h t)
theorem Rl_fin {s r:Hs} (h:Rl s r):finR s=finR r:=by
 unfold finR;rw[← h.a,← h.y];have hx:=h.x;congr 2;split
 ·split
  ·apply emod_cong
   have e : -s.2.1 - -r.2.1 = -(s.2.1-r.2.1):=by omega
   rw[e];exact Int.dvd_neg.mpr hx
  ·exact emod_cong hx
 ·have h0:s.1=0:=by have:=h.p;omega
  rw[h0,Int.zero_dvd] at hx;have:s.2.1=r.2.1:=by omega
  rw[this]
def Gd (Y X:Nat):Prop:=(Y≤64∧X≤64)∨(Y≤32∧X≤8192)∨(Y≤16∧X≤1048576)∨(Y≤8∧X≤134217728)∨(Y≤4∧X≤17179869184)∨(Y≤2∧X≤2199023255552)∨(Y≤1∧X≤281474976710656)
structure Bx (t:Vc):Prop where
 x1:0≤t.1
 x2:t.1≤64
 y1:0≤t.2
 y2:t.2≤64
structure Pp (p:Vc):Prop where
 y:0≤p.2
 z:p.2=0→p=(0,0)
 g:1≤p.2→Gd p.2.natAbs p.1.natAbs
theorem euS_nonneg:∀ (n:Nat) (p v:Vc),0≤p.2→0≤v.2→0≤(euS n p v).1.2
 | 0,p,v,h,_=>h
 | n+1,p,v,h,h2=>by
  simp only[euS];split
  ·exact h
  ·exact euS_nonneg n v (nx p v) h2 (by rw[nx_y];exact Int.tmod_nonneg _ h)
theorem euS_z (n:Nat) {p v:Vc} (h:v.2=0):euS (n+1) p v=(p,v.1):=by
 simp only[euS,h,if_true]
theorem euS_zero {p v:Vc} (h:v.2=0):euS KK p v=(p,v.1):=euS_z 2097151 h
theorem Gd_le {Y X:Nat} (h:Gd Y X):Y≤64∧X≤281474976710656:=by unfold Gd at h;omega
theorem Dv_le {p t:Vc} (ht:Bx t) (hp:p.2.natAbs≤64):Dv p t≤p.1.natAbs*64+4096:=by
 unfold Dv;have h1:p.1.natAbs*t.2.natAbs≤p.1.natAbs*64:=Nat.mul_le_mul_left _ (by have:=ht.y1;have:=ht.y2;omega)
 have h2:t.1.natAbs*p.2.natAbs≤64*64:=Nat.mul_le_mul (by have:=ht.x1;have:=ht.x2;omega) hp
 omega
theorem Pp_bd {p t:Vc} (ht:Bx t) (hp:Pp p):Bd 36028797018963968 p t∧p.2.natAbs≤64:=by
 obtain⟨x1,x2,y1,y2⟩:=ht;have hy:p.2.natAbs≤64∧p.1.natAbs≤281474976710656:=by
  rcases Int.lt_or_le p.2 1 with h | h
  ·have h0:p.2=0:=by have:=hp.y;omega
   rw[hp.z h0];simp
  ·exact Gd_le (hp.g h)
 refine⟨⟨by omega,by omega,?_⟩,hy.1⟩
 have:=Dv_le ⟨x1,x2,y1,y2⟩ hy.1;omega
theorem Pp_eu {p t:Vc} (ht:Bx t) (hp:Pp p):Pp (euS KK p t).1∧(1≤p.2→1≤(euS KK p t).1.2∧(euS KK p t).1.2≤p.2)∧(p.2=0→(euS KK p t).1.2=t.2):=by
 obtain⟨hb,h64⟩:=Pp_bd ht hp;have hn:=euS_nonneg KK p t hp.y ht.y1;have hlt:t.2.natAbs<KK:=KKlt (by have:=ht.y1;have:=ht.y2;omega)
 have hg:=euS_gcd KK p t hlt;have hx1:=ht.x1;have hx2:=ht.x2;have hy1:=ht.y1;have hy2:=ht.y2;rcases Int.lt_or_le p.2 1 with h | h
 ·have h0:p.2=0:=by have:=hp.y;omega
  have hp0:=hp.z h0;subst hp0;have hy:(euS KK (0,0) t).1.2=t.2:=by
   simp at hg;omega
  refine⟨⟨hn,fun h1=>?_,fun h1=>?_⟩,fun h1=>by simp at h1,fun _=>hy⟩
  ·rw[euS_zero (by omega)]
  ·have:=(euS_bd (B:=64) KK (0,0) t hlt ⟨by simp,by omega,by simp[Dv]⟩).1
   unfold Gd;omega
 ·have hG:=hp.g h;have h1:1≤(euS KK p t).1.2.natAbs:=by
   rw[hg];exact Nat.gcd_pos_of_pos_left _ (by omega)
  have h2:(euS KK p t).1.2.natAbs≤p.2.natAbs:=by
   rw[hg];exact Nat.gcd_le_left _ (by omega)
  refine⟨⟨hn,fun h3=>by omega,fun _=>?_⟩,fun _=>by omega,fun h0=>by omega⟩
  rcases Int.lt_or_le t.2 1 with h4 | h4
  ·rw[euS_zero (by omega)];exact hG
  ·have hD:=Dv_le ht h64;have hP:p.1.natAbs≤Dv p t:=by
    unfold Dv;have:p.1.natAbs*1≤p.1.natAbs*t.2.natAbs:=Nat.mul_le_mul_left _ (by omega)
    omega
   have hV:t.1.natAbs≤Dv p t:=by
    unfold Dv;have:t.1.natAbs*1≤t.1.natAbs*p.2.natAbs:=Nat.mul_le_mul_left _ (by omega)
    omega
   have hB:=(euS_bd (B:=Dv p t) KK p t hlt ⟨hP,hV,Nat.le_refl _⟩).1;rcases euS_half KK p t hlt (by simp[KK]) (by omega) with h5 | h5 | ⟨h5,h6⟩
   ·generalize (euS KK p t).1.2.natAbs=Y at *;generalize (euS KK p t).1.1.natAbs=X at *;unfold Gd at hG ⊢;omega
   ·rw[h5];exact hG
   ·rw[h5];unfold Gd at hG ⊢;omega
structure Iv (l:Lt) (q:Nat) (s:Hs):Prop where
 z:q=0→s=(0,0,0)
 a:1≤q→1≤s.1∧s.1≤l.1
 o:q=1→s.2.2=0
 y:2≤q→1≤s.2.2∧s.2.2≤l.2.2
 p:Pp s.2
theorem gI_le {a x:Int} (h:1≤a):1≤gI a x∧gI a x≤a:=by
 have h1:0<Int.gcd a x:=Int.gcd_pos_of_ne_zero_left _ (by omega)
 have h2:gI a x ∣ a:=by unfold gI;exact Int.gcd_dvd_left ..
 have h3:=Int.le_of_dvd (by omega) h2
 unfold gI at *;omega
theorem Iv_ok {l:Lt} (hl:IsL l) {q:Nat} {s:Hs} (h:Iv l q s) {t:Vc} (ht:Bx t):Oks s t:=by
 obtain⟨hb,h64⟩:=Pp_bd ht h.p;have ha:=hl.a2;refine⟨hb,by omega,by have:=ht.y1;have:=ht.y2;omega,?_,?_⟩
 ·rcases Nat.eq_zero_or_pos q with h0 | h0
  ·rw[h.z h0];simp
  ·have:=h.a h0;omega
 ·rcases Nat.eq_zero_or_pos q with h0 | h0
  ·rw[h.z h0];have:=(euS_bd (B:=64) KK (0,0) t (KKlt (by have:=ht.y1;have:=ht.y2;omega)) ⟨by simp,by have:=ht.x1;have:=ht.x2;omega,by simp[Dv]⟩).2
   unfold gI;simp only[Int.gcd_zero_left];omega
  ·have h1:=h.a h0;have:=gI_le (x:=(euS KK s.2 t).2) h1.1;omega
theorem Iv_nx {l:Lt} (hl:IsL l) {q:Nat} {s:Hs} (h:Iv l q s) {t:Vc} (ht:Bx t) (h0:q=0→t=(l.1,0)) (h1:q=1→t.2=l.2.2) (s':Hs) (e1:s'.1=gI s.1 (euS KK s.2 t).2) (e2:s'.2.2=(euS KK s.2 t).1.2) (e3:Pp s'.2):Iv l (q+1) s':=by
 obtain⟨k1,k2,k3⟩:=Pp_eu ht h.p;refine⟨fun h=>by omega,fun _=>?_,fun hq=>?_,fun hq=>?_,e3⟩
 ·rw[e1];rcases Nat.eq_zero_or_pos q with hq | hq
  ·rw[h.z hq,h0 hq,euS_zero rfl];unfold gI;simp only[Int.gcd_zero_left];have:=hl.a1;omega
  ·have h1:=h.a hq;have:=gI_le (x:=(euS KK s.2 t).2) h1.1;omega
 ·have hq0:q=0:=by omega
  rw[e2,h.z hq0,h0 hq0,euS_zero rfl]
 ·rw[e2];rcases Nat.lt_or_ge q 2 with hq2 | hq2
  ·have hq1:q=1:=by omega
   rw[k3 (h.o hq1),h1 hq1];have:=hl.c1;omega
  ·have:=h.y hq2;have:=k2 this.1;omega
theorem Pp_mod {p:Vc} (h:Pp p) {a:Int} (ha:a≤64):Pp ((if a>0 then p.1 % a else p.1),p.2):=by
 refine⟨h.y,fun h0=>?_,fun h1=>?_⟩
 ·have:=h.z h0;rw[this];simp
 ·have hg:=h.g h1;split
  ·rename_i h2;have h3:=Int.emod_nonneg p.1 (show a≠0 by omega)
   have h4:=Int.emod_lt_of_pos p.1 h2;simp only;unfold Gd at hg ⊢;omega
  ·exact hg
theorem Iv_I {l:Lt} (hl:IsL l) {q:Nat} {s:Hs} (h:Iv l q s) {t:Vc} (ht:Bx t) (h0:q=0→t=(l.1,0)) (h1:q=1→t.2=l.2.2):Iv l (q+1) (stI s t) :=
 Iv_nx hl h ht h0 h1 _ rfl rfl (Pp_eu ht h.p).1
theorem Iv_R {l:Lt} (hl:IsL l) {q:Nat} {s:Hs} (h:Iv l q s) {t:Vc} (ht:Bx t) (h0:q=0→t=(l.1,0)) (h1:q=1→t.2=l.2.2):Iv l (q+1) (stR s t):=by
 refine Iv_nx hl h ht h0 h1 _ rfl rfl (Pp_mod (Pp_eu ht h.p).1 ?_);have ha:=hl.a2;rcases Nat.eq_zero_or_pos q with hq | hq
 ·rw[h.z hq,h0 hq,euS_zero rfl];unfold gI;simp only[Int.gcd_zero_left];have:=hl.a1;omega
 ·have h1:=h.a hq;have:=gI_le (x:=(euS KK s.2 t).2) h1.1;omega
theorem Iv_0 (l:Lt):Iv l 0 (0,0,0) :=
 ⟨fun _=>rfl,fun h=>by omega,fun h=>by omega,fun h=>by omega,⟨by simp,fun _=>rfl,fun h=>by simp at h⟩⟩
theorem Iv_fin {l:Lt} (hl:IsL l) {q:Nat} (hq:2≤q) {s:Hs} (h:Iv l q s):IsL (finR s):=by
 obtain⟨a1,a2⟩:=h.a (by omega)
 obtain⟨y1,y2⟩:=h.y hq;obtain⟨b1,b2,b3,b4,b5,b6,b7⟩:=hl;have hy:¬ s.2.2<0:=by omega
 unfold finR;simp only[if_neg hy,if_pos (show s.1>0 by omega)]
 refine⟨a1,by simp only;omega,y1,by simp only;omega,Int.emod_nonneg _ (by omega),Int.emod_lt_of_pos _ (by omega),?_⟩
 have m1:s.1*s.2.2≤l.1*s.2.2:=Int.mul_le_mul_of_nonneg_right a2 (by omega)
 have m2:l.1*s.2.2≤l.1*l.2.2:=Int.mul_le_mul_of_nonneg_left y2 (by omega)
 simp only;omega
theorem foldl_inv {α S:Type} (f:S→α→S) (P:Nat→S→Prop):∀ (l:List α) (q:Nat) (s:S),P q s→(∀ i s (h:i<l.length),P (q+i) s→P (q+i+1) (f s l[i]))→P (q+l.length) (l.foldl f s)
 | [],q,s,h,_=>h
 | a :: l,q,s,h,hs=>by
  rw[List.foldl_cons];have:=foldl_inv f P l (q+1) (f s a) (hs 0 s (by simp) h) (fun i s' hi hP=>by
   have:=hs (i+1) s' (by simp;omega) (by rw[show q+(i+1)=q+1+i by omega];exact hP)
   rw[show q+(i+1)+1=q+1+i+1 by omega] at this
   simpa using this)
  rw[List.length_cons,show q+(l.length+1)=q+1+l.length by omega]
  exact this
def latS (l:List Vc):Lt:=finR (l.foldl stI (0,0,0))
theorem full_eq {l:Lt} (hl:IsL l) (rest:List Vc) (hn:rest.length≤1000) (hr:∀ t∈rest,Bx t) :
  f122G KK ((l.1,0) :: (l.2.1,l.2.2) :: rest)=some (latS ((l.1,0) :: (l.2.1,l.2.2) :: rest))∧f95G KK ((l.1,0) :: (l.2.1,l.2.2) :: rest)=some (latS ((l.1,0) :: (l.2.1,l.2.2) :: rest))∧IsL (latS ((l.1,0) :: (l.2.1,l.2.2) :: rest)):=by
 have hb:∀ q (hq:q<((l.1,0) :: (l.2.1,l.2.2) :: rest).length),Bx ((l.1,0) :: (l.2.1,l.2.2) :: rest)[q]∧(q=0→((l.1,0) :: (l.2.1,l.2.2) :: rest)[q]=(l.1,0))∧(q=1→((l.1,0) :: (l.2.1,l.2.2) :: rest)[q].2=l.2.2):=by
  obtain⟨a1,a2,c1,c2,b1,b2,ix⟩:=hl;intro q hq
  match q,hq with
  | 0,_=>exact⟨⟨by simp;omega,by simp;omega,by simp,by simp⟩,fun _=>rfl,fun h=>by omega⟩
  | 1,_=>exact⟨⟨by simp;omega,by simp;omega,by simp;omega,by simp;omega⟩,fun h=>by omega,fun _=>rfl⟩
  | q+2,hq=>exact⟨hr _ (by simp),fun h=>by omega,fun h=>by omega⟩
 have hlen:((l.1,0) :: (l.2.1,l.2.2) :: rest).length=rest.length+2:=by simp
 have hfin:∀ s,Iv l ((l.1,0) :: (l.2.1,l.2.2) :: rest).length s→1≤s.1∧s.1≤1000000∧s.2.1.natAbs≤36028797018963968∧s.2.2.natAbs≤36028797018963968:=by
  intro s h;obtain⟨a1,a2⟩:=h.a (by omega)
  obtain⟨y1,y2⟩:=h.y (by omega)
  have:=Gd_le (h.p.g y1);have:=hl.a2;omega
 have e1:=hermite_eq _ (by omega) (Iv l) (Iv_0 l) (fun q s hq h=>by
  obtain⟨b1,b2,b3⟩:=hb q hq;exact⟨Iv_ok hl h b1,Iv_R hl h b1 b2 b3⟩) (fun s h=>(hfin s h).2)
 have e2:=lattice_eq _ (by omega) (Iv l) (Iv_0 l) (fun q s hq h=>by
  obtain⟨b1,b2,b3⟩:=hb q hq;exact⟨Iv_ok hl h b1,Iv_I hl h b1 b2 b3⟩) hfin
 have hrl:=Rl_fin (Rl_fold ((l.1,0) :: (l.2.1,l.2.2) :: rest) (s:=(0,0,0)) (r:=(0,0,0)) ⟨rfl,by simp,rfl,by simp⟩)
 refine⟨by rw[e1,← hrl];rfl,e2,?_⟩
 have:=foldl_inv stI (Iv l) ((l.1,0) :: (l.2.1,l.2.2) :: rest) 0 (0,0,0) (Iv_0 l) (fun i s hi h=>by
  rw[Nat.zero_add] at h ⊢;obtain⟨b1,b2,b3⟩:=hb i hi;exact Iv_I hl h b1 b2 b3)
 exact Iv_fin hl (by omega) this
abbrev Un:Mt:=(1,0,0,1)
theorem Un_sm:SmM Un:=⟨by simp,by simp,by simp,by simp⟩
def fullL (p:Pt):List Vc:=(cellsS p.2.1).filter fun t=>keepsS p (Un,t)
def fullS (p:Pt):Lt:=latS ((p.2.1.1,0) :: (p.2.1.2.1,p.2.1.2.2) :: fullL p)
theorem cell_Bx {l:Lt} (hl:IsL l) {v:Vc} (h:v∈cellsS l):Bx v:=by
 obtain⟨h1,h2,h3,h4⟩:=mem_cellsS h;obtain⟨a1,a2,c1,c2,b1,b2,ix⟩:=hl;exact⟨by omega,by omega,by omega,by omega⟩
theorem full_all {p:Pt} (hp:IsP p):f122G KK ([(p.2.1.1,0),p.2.1.2]++fullL p)=some (fullS p)∧f95G KK ([(p.2.1.1,0),p.2.1.2]++fullL p)=some (fullS p)∧IsL (fullS p):=by
 have h1:(fullL p).length≤64:=Nat.le_trans (List.length_filter_le _ _) (cellsS_le hp.l);exact full_eq hp.l (fullL p) (by omega) (fun t ht=>cell_Bx hp.l (List.mem_filter.mp ht).1)
theorem fold_full (p:Pt) (s:List Vc):(cellsS p.2.1).foldl (fun s t=>bif keepsS p (Un,t) then s++[t] else s) s=s++fullL p:=by
 have:=foldl_filter (fun t=>keepsS p (Un,t)) (fun t:Vc=>t) (cellsS p.2.1) s;rw[List.map_id'] at this;exact this
theorem l09Full_eq {p:Pt} (hp:IsP p):f68G KK p=some (fullS p):=by
 unfold f68G f68_g f121G;rw[l03Cells_eq hp.l];simp only[oB];have hc:=cellsS_le hp.l;have h:=iter_fold (X:=Int×List Vc) (body:=fun L x=>f68_b6 KK p (cellsS p.2.1) (fun v0 v1=>L (v0,v1)) x.1 x.2) (cellsS p.2.1) (fun q s=>((q:Int),s)) (fun s t=>bif keepsS p (Un,t) then s++[t] else s) (fun s=>(f122G KK s).bind fun y=>some y) (fun q s=>s.length≤q+2)
  (fun L q s hq hi=>by
   have hv:=cell_Sv hp.l (gM hq);refine⟨?_,?_⟩
   ·cases keepsS p (Un,(cellsS p.2.1)[q])<;>simp<;>omega
   unfold f68_b6 f73G;simp only;rw[in1 hq,in0,gd hq];simp only[aS,cT,oB];rw[l09Keeps_eq hp (m:=(Un,(cellsS p.2.1)[q])) Un_sm hv,oB,blim16 (by simp;omega),w_succ (by omega)]
   cases keepsS p (Un,(cellsS p.2.1)[q])<;>rfl)
  (fun L s hi=>by
   unfold f68_b6;simp only;rw[out1,cF]) KK 0 [(p.2.1.1,0),p.2.1.2] (by omega) (by have:=KKlt (n:=(cellsS p.2.1).length) (by omega);omega) (by simp)
 unfold f68_l6;refine h.trans ?_;simp only[List.drop_zero];rw[fold_full,(full_all hp).1];rfl
theorem fullLattice_eq {p:Pt} (hp:IsP p):f46G KK p=some (fullS p):=by
 unfold f46G f46_g f94G;rw[cells_eq hp.l];simp only[oB];have hc:=cellsS_le hp.l;have h:=iter_fold (X:=Int×List Vc) (body:=fun L x=>f46_b6 KK p ((p.2.1.1,0),p.2.1.2) (cellsS p.2.1) (fun v0 v1=>L (v0,v1)) x.1 x.2) (cellsS p.2.1) (fun q s=>((q:Int),s)) (fun s t=>bif keepsS p (Un,t) then s++[t] else s) (fun s=>(f95G KK s).bind fun y=>some y) (fun q s=>s.length≤q+2)
  (fun L q s hq hi=>by
   have hv:=cell_Sv hp.l (gM hq);refine⟨?_,?_⟩
   ·cases keepsS p (Un,(cellsS p.2.1)[q])<;>simp<;>omega
   unfold f46_b6 f48G;simp only;rw[in1 hq,in0,gd hq];simp only[aS,cT,oB];rw[keeps_eq hp (m:=(Un,(cellsS p.2.1)[q])) Un_sm hv,oB,blim16 (by simp;omega),w_succ (by omega)]
   cases keepsS p (Un,(cellsS p.2.1)[q])<;>rfl)
  (fun L s hi=>by
   unfold f46_b6;simp only;rw[out1,cF]) KK 0 [(p.2.1.1,0),p.2.1.2] (by omega) (by have:=KKlt (n:=(cellsS p.2.1).length) (by omega);omega) (by simp)
 unfold f46_l6;refine h.trans ?_;simp only[List.drop_zero];rw[fold_full,(full_all hp).2.1];rfl
def onS (p:Pt) (l:Lt):Pt:=(p.1,l,(cellsS l).map (atS p))
theorem l09On_eq {p:Pt} (hp:IsP p) {l:Lt} (hl:IsL l):f67G KK p l=some (onS p l):=by
 unfold f67G f67_g;rw[l03Cells_eq hl];simp only[oB];have hc:=cellsS_le hl;have h:=iter_fold (X:=Int×List Int) (body:=fun L x=>f67_b4 KK p l (cellsS l) (fun v0 v1=>L (v0,v1)) x.1 x.2) (cellsS l) (fun q s=>((q:Int),s)) (fun s t=>s++[atS p t]) (fun s=>some (p.1,l,s)) (fun q s=>s.length≤q)
  (fun L q s hq hi=>by
   have hv:=cell_Sv hl (gM hq);refine⟨by simp;omega,?_⟩
   unfold f67_b4;simp only;rw[in1 hq,in0,gd hq];simp only[aS,cT];rw[l09At_eq hp (Sv_Sm hv),oB,blim8 (by simp;omega),w_succ (by omega)]
   rfl)
  (fun L s hi=>by
   unfold f67_b4;simp only;rw[out1,cF]) KK 0 [] (by omega) (by have:=KKlt (n:=(cellsS l).length) (by omega);omega) (by simp)
 unfold f67_l4;refine h.trans ?_;simp only[List.drop_zero];rw[foldl_push];rfl
theorem spread_eq {p:Pt} (hp:IsP p) {l:Lt} (hl:IsL l):f45G KK p l=some (onS p l):=by
 unfold f45G f45_g;rw[cells_eq hl];simp only[oB];have hc:=cellsS_le hl;have h:=iter_fold (X:=Int×List Int) (body:=fun L x=>f45_b4 KK p l (cellsS l) (fun v0 v1=>L (v0,v1)) x.1 x.2) (cellsS l) (fun q s=>((q:Int),s)) (fun s t=>s++[atS p t]) (fun s=>some (p.1,l,s)) (fun q s=>s.length≤q)
  (fun L q s hq hi=>by
   have hv:=cell_Sv hl (gM hq);refine⟨by simp;omega,?_⟩
   unfold f45_b4;simp only;rw[in1 hq,in0,gd hq];simp only[aS,cT];rw[at_eq hp (Sv_Sm hv),oB,blim8 (by simp;omega),w_succ (by omega)]
   rfl)
  (fun L s hi=>by
   unfold f45_b4;simp only;rw[out1,cF]) KK 0 [] (by omega) (by have:=KKlt (n:=(cellsS l).length) (by omega);omega) (by simp)
 unfold f45_l4;refine h.trans ?_;simp only[List.drop_zero];rw[foldl_push];rfl
def leanS (p:Pt):Pt:=onS p (fullS p)
theorem leanS_P {p:Pt} (hp:IsP p):IsP (leanS p):=by
 have hl:=(full_all hp).2.2;refine⟨hp.f1,hp.f2,hl,?_⟩;show ((((cellsS (fullS p)).map (atS p)).length:Nat):Int)=_;rw[List.length_map,cellsS_len hl,idx_nat hl];rfl
theorem l09Lean_eq {p:Pt} (hp:IsP p):f25G KK p=some (leanS p):=by
 unfold f25G;rw[l09Full_eq hp,oB,l09On_eq hp (full_all hp).2.2,oB];rfl
theorem lean_eq {p:Pt} (hp:IsP p):f16G KK p=some (leanS p):=by
 unfold f16G;rw[fullLattice_eq hp,oB,spread_eq hp (full_all hp).2.2,oB];rfl
def InL (l:Lt) (v:Vc):Prop:=∃ i j:Int,v=(i*l.1+j*l.2.1,j*l.2.2)
theorem InL_clo (l:Lt):Clo (InL l):=by
 rintro u v k ⟨i,j,rfl⟩ ⟨i',j',rfl⟩
 refine⟨i+k*i',j+k*j',?_⟩;simp only[Int.add_mul,Int.mul_add,Int.mul_assoc];congr 1;omega
theorem redS_InL {l:Lt} (hl:IsL l) (v:Vc):redS l v=(0,0)↔InL l v:=by
 obtain⟨a1,a2,c1,c2,b1,b2,ix⟩:=hl;unfold redS;constructor
 ·intro h;simp only[Prod.mk.injEq] at h;obtain⟨h1,h2⟩:=h;obtain⟨i,hi⟩:=Int.dvd_of_emod_eq_zero h1;refine⟨i,v.2 / l.2.2,?_⟩;have h3:=Int.ediv_mul_cancel (Int.dvd_of_emod_eq_zero h2);have h4:i*l.1=l.1*i:=Int.mul_comm _ _;refine Prod.ext ?_ h3.symm;simp only;omega
 ·rintro⟨i,j,rfl⟩
  simp only;have h1:j*l.2.2 / l.2.2=j:=Int.mul_ediv_cancel _ (by omega)
  rw[h1,show i*l.1+j*l.2.1-j*l.2.1=i*l.1 by omega,Int.mul_emod_left,Int.mul_emod_left]
theorem euS_z2 (n:Nat) {a:Vc} (h:a.2≠0):euS (n+2) (0,0) a=(a,0):=by
 have h1:nx (0,0) a=(0,0):=by simp[nx]
 simp only[euS,h,if_false,h1,if_true]
theorem Clo_neg {S:Vc→Prop} (hS:Clo S) {v:Vc} (h:S v):S (-v.1,-v.2):=by
 have:=hS v v (-2) h h;have e1:v.1 + -2*v.1 = -v.1:=by omega
 have e2:v.2 + -2*v.2 = -v.2:=by omega
 rwa [e1,e2] at this
theorem Clo_abs {S:Vc→Prop} (hS:Clo S) (x:Int):S ((x.natAbs:Int),0)↔S (x,0):=by
 rcases Int.natAbs_eq x with h | h
 ·rw[← h]
 ·constructor
  ·intro h1;have:=Clo_neg hS h1;simp only[Int.neg_zero] at this
   rwa [← h] at this
  ·intro h1;have:=Clo_neg hS h1;simp only[Int.neg_zero] at this;rw[show (x.natAbs:Int) = -x by omega]
   exact this
theorem two {a b:Vc} (ha:a.2.natAbs<1000000) (hb:b.2.natAbs<1000000) (hd:a.1*b.2-b.1*a.2≠0) :
  let s:=stI (stI (0,0,0) a) b
  0<s.1∧s.1*(s.2.2.natAbs:Int)=((a.1*b.2-b.1*a.2).natAbs:Int)∧∀ S:Vc→Prop,Clo S→((S a∧S b)↔(S (s.1,0)∧S s.2)):=by
 intro s;have hs:s=stI (stI (0,0,0) a) b:=rfl;by_cases h0:a.2=0
 ·have e1:stI (0,0,0) a=((a.1.natAbs:Int),(0,0)):=by
   simp only[stI,euS_zero h0,gI,Int.gcd_zero_left]
  have hb0:b.2≠0:=by
   intro h;apply hd;rw[h0,h];simp
  have e2:euS KK (0,0) b=(b,0):=euS_z2 2097150 hb0;have e3:s=((a.1.natAbs:Int),b):=by
   rw[hs,e1];simp only[stI,e2,gI];congr 1;simp
  rw[e3];have ea:a=(a.1,0):=by rw[← h0]
  rw[h0] at hd ⊢;simp only[Int.mul_zero,Int.sub_zero] at hd ⊢;refine⟨?_,?_,?_⟩
  ·have:a.1≠0:=by rintro h;apply hd;rw[h];simp
   omega
  ·rw[Int.natAbs_mul,Int.natCast_mul]
  ·intro S hS;rw[Clo_abs hS a.1,← ea]
 ·have e1:stI (0,0,0) a=(0,a):=by
   have e2:euS KK (0,0) a=(a,0):=euS_z2 2097150 h0;simp only[stI,e2,gI];rfl
  have e3:s=(((euS KK a b).2.natAbs:Int),(euS KK a b).1):=by
   rw[hs,e1];simp only[stI,gI,Int.gcd_zero_left]
  have hlt:=KKlt (n:=b.2.natAbs) (by omega)
  have hdet:=euS_det KK a b hlt;rw[e3];simp only;rw[Int.natAbs_mul] at hdet;refine⟨?_,?_,?_⟩
  ·rcases Nat.eq_zero_or_pos (euS KK a b).2.natAbs with h | h
   ·rw[h,Nat.zero_mul] at hdet;omega
   ·omega
  ·rw[← hdet,Int.natCast_mul]
  ·intro S hS;rw[Clo_abs hS];constructor
   ·rintro⟨h1,h2⟩
    exact (euS_in hS KK a b hlt h1 h2).symm
   ·rintro⟨h1,h2⟩
    exact euS_out hS KK a b hlt h2 h1
def det2 (a b:Vc):Int:=a.1*b.2-b.1*a.2
theorem fix_iff {l:Lt} (hl:IsL l) {a b:Vc} (ha:a.2.natAbs<1000000) (hb:b.2.natAbs<1000000) (hd:(det2 a b).natAbs=l.1*l.2.2) :
  finR (stI (stI (0,0,0) a) b)=l↔InL l a∧InL l b:=by
 obtain⟨a1,a2,c1,c2,b1,b2,ix⟩:=hl;have hAC:0<l.1*l.2.2:=Int.mul_pos (by omega) (by omega)
 obtain⟨hg,hm,hS⟩:=two ha hb (by unfold det2 at hd;omega)
 have hS:=hS (InL l) (InL_clo l);generalize stI (stI (0,0,0) a) b=s at *;rw[show a.1*b.2-b.1*a.2=det2 a b from rfl,hd] at hm
 rw[hS];have e0:finR s=(s.1,(if s.2.2<0 then -s.2.1 else s.2.1) % s.1,(if s.2.2<0 then -s.2.2 else s.2.2)):=by
  unfold finR;rw[if_pos hg]
 rw[e0];constructor
 ·intro h;rw[Prod.ext_iff,Prod.ext_iff] at h;obtain⟨h1,h2,h3⟩:=h;simp only at h1 h2 h3;rw[h1] at h2;refine⟨⟨1,0,by rw[h1];simp⟩,?_⟩
  split at h2
  ·rename_i hn;rw[if_pos hn] at h3;have h4:=Int.emod_def (-s.2.1) l.1;refine⟨-(-s.2.1 / l.1),-1,?_⟩;have h5:l.1*(-s.2.1 / l.1)=(-s.2.1 / l.1)*l.1:=Int.mul_comm _ _;rw[Int.neg_mul];refine Prod.ext ?_ ?_<;>simp only<;>omega
  ·rename_i hn;rw[if_neg hn] at h3;have h4:=Int.emod_def s.2.1 l.1;refine⟨s.2.1 / l.1,1,?_⟩;have h5:l.1*(s.2.1 / l.1)=(s.2.1 / l.1)*l.1:=Int.mul_comm _ _;refine Prod.ext ?_ ?_<;>simp only<;>omega
 ·rintro⟨⟨i,j,h1⟩,⟨i',j',h2⟩⟩
  have h3:s.1=i*l.1+j*l.2.1:=congrArg (fun x:Vc=>x.1) h1;have h4:(0:Int)=j*l.2.2:=congrArg (fun x:Vc=>x.2) h1;have h5:s.2.1=i'*l.1+j'*l.2.1:=congrArg (fun x:Vc=>x.1) h2;have h6:s.2.2=j'*l.2.2:=congrArg (fun x:Vc=>x.2) h2;have hj:j=0:=by
   rcases Int.mul_eq_zero.mp h4.symm with h | h
   ·exact h
   ·omega
  subst hj;rw[Int.zero_mul,Int.add_zero] at h3;have hi:1≤i:=by
   rcases Int.lt_or_le i 1 with h | h
   ·have:i*l.1≤0:=Int.mul_nonpos_of_nonpos_of_nonneg (by omega) (by omega)
    omega
   ·exact h
  have h7:(s.2.2.natAbs:Int)=(j'.natAbs:Int)*l.2.2:=by
   rw[h6,Int.natAbs_mul,Int.natCast_mul];congr 1;omega
  have hj':1≤(j'.natAbs:Int):=by
   rcases Int.lt_or_le (j'.natAbs:Int) 1 with h | h
   ·have:(j'.natAbs:Int)=0:=by omega
    rw[this,Int.zero_mul] at h7;rw[h7,Int.mul_zero] at hm;omega
   ·exact h
  have h8:i*(j'.natAbs:Int)*(l.1*l.2.2)=l.1*l.2.2:=by
   have e:i*(j'.natAbs:Int)*(l.1*l.2.2)=(i*l.1)*((j'.natAbs:Int)*l.2.2):=by ac_rfl
   rw[e,← h3,← h7,hm]
  have h9:i*(j'.natAbs:Int)=1:=by
   have:i*(j'.natAbs:Int)*(l.1*l.2.2)=1*(l.1*l.2.2):=by rw[h8,Int.one_mul]
   exact Int.eq_of_mul_eq_mul_right (by omega) this
  have hi1:i=1:=by
   have:=Int.mul_le_mul_of_nonneg_left hj' (show 0≤i by omega)
   omega
  subst hi1;rw[Int.one_mul] at h9 h3;have e1:(i'*l.1+l.2.1) % l.1=l.2.1:=by
   rw[Int.add_comm,Int.add_mul_emod_self_right,Int.emod_eq_of_lt b1 b2]
  have e2:(-i'*l.1+l.2.1) % l.1=l.2.1:=by
   rw[Int.add_comm,Int.add_mul_emod_self_right,Int.emod_eq_of_lt b1 b2]
  have hjc:j'=1∨j' = -1:=by omega
  rcases hjc with rfl | rfl
  ·rw[Int.one_mul] at h6 h5;have hn:¬ s.2.2<0:=by omega
   rw[if_neg hn,if_neg hn,h3,h5,h6,e1]
  ·have hn:s.2.2<0:=by omega
   have e9 : -i'*l.1 = -(i'*l.1):=Int.neg_mul _ _;rw[if_pos hn,if_pos hn,h3,h5,h6,show -(i'*l.1 + -1*l.2.1) = -i'*l.1+l.2.1 by omega,e2]
   have : -(-1*l.2.2)=l.2.2:=by omega
   rw[this]
structure Bw (v:Vc):Prop where
 x:v.1.natAbs≤200
 y:v.2.natAbs≤200
theorem mod_abs {a x:Int} {B:Nat} (h:x.natAbs≤B) (ha:a.natAbs≤B):(if a>0 then x % a else x).natAbs≤B:=by
 split
 ·rename_i h1;have h3:=Int.emod_nonneg x (show a≠0 by omega)
  have h4:=Int.emod_lt_of_pos x h1;omega
 ·exact h
theorem herm2_eq {a b:Vc} (ha:Bw a) (hb:Bw b):f122G KK [a,b]=some (finR (stI (stI (0,0,0) a) b)):=by
 have hrl:=Rl_fin (Rl_fold [a,b] (s:=(0,0,0)) (r:=(0,0,0)) ⟨rfl,by simp,rfl,by simp⟩)
 have hB0:Bd 200 (0,0) a:=⟨by simp,ha.x,by simp[Dv]⟩
 have hla:=KKlt (n:=a.2.natAbs) (by have:=ha.y;omega)
 have hlb:=KKlt (n:=b.2.natAbs) (by have:=hb.y;omega)
 obtain⟨k1,k2⟩:=euS_bd KK (0,0) a hla hB0;have k3:=euS_gcd KK (0,0) a hla;have k4:gI 0 (euS KK (0,0) a).2≤200:=by unfold gI;simp only[Int.gcd_zero_left];omega
 have s1y:(stR (0,0,0) a).2.2.natAbs≤200:=by
  show (euS KK (0,0) a).1.2.natAbs≤200;simp at k3;have:=ha.y;omega
 have s1x:(stR (0,0,0) a).2.1.natAbs≤200:=mod_abs k1 (by have:=gI_pos 0 (euS KK (0,0) a).2;show (gI 0 (euS KK (0,0) a).2).natAbs≤200;omega)
 have s1a:(stR (0,0,0) a).1≤200:=k4;have s1p:0≤(stR (0,0,0) a).1:=gI_pos _ _;have hB1:Bd 80000 (stR (0,0,0) a).2 b:=by
  refine⟨by omega,by have:=hb.x;omega,?_⟩
  unfold Dv;have e1:=Nat.mul_le_mul s1x hb.y;have e2:=Nat.mul_le_mul hb.x s1y;omega
 obtain⟨m1,m2⟩:=euS_bd KK _ b hlb hB1;have m3:=euS_gcd KK (stR (0,0,0) a).2 b hlb;have m4:gI (stR (0,0,0) a).1 (euS KK (stR (0,0,0) a).2 b).2≤80000:=by
  rcases Int.lt_or_le (stR (0,0,0) a).1 1 with h | h
  ·have:(stR (0,0,0) a).1=0:=by omega
   rw[this];unfold gI;simp only[Int.gcd_zero_left];omega
  ·have:=gI_le (x:=(euS KK (stR (0,0,0) a).2 b).2) h;omega
 have m5:=gI_pos (stR (0,0,0) a).1 (euS KK (stR (0,0,0) a).2 b).2;have e:=hermite_eq [a,b] (by simp) (fun q s=>s=([a,b].take q).foldl stR (0,0,0)) rfl
  (fun q s hq h=>by
   match q,hq with
   | 0,_ =>
    subst h;refine⟨⟨⟨by simp,by have:=ha.x;simp;omega,by simp[Dv]⟩,by simp,by have:=ha.y;simp;omega,by simp,?_⟩,rfl⟩
    show gI 0 (euS KK (0,0) a).2≤_;omega
   | 1,_ =>
    subst h;refine⟨⟨⟨?_,?_,?_⟩,?_,?_,?_,?_⟩,rfl⟩
    ·have:=hB1.bp;show (stR (0,0,0) a).2.1.natAbs≤_;omega
    ·have:=hB1.bv;show b.1.natAbs≤_;omega
    ·have:=hB1.d;show Dv (stR (0,0,0) a).2 b≤_;omega
    ·show (stR (0,0,0) a).2.2.natAbs≤_;omega
    ·show b.2.natAbs≤_;have:=hb.y;omega
    ·show (stR (0,0,0) a).1.natAbs≤_;omega
    ·show gI (stR (0,0,0) a).1 (euS KK (stR (0,0,0) a).2 b).2≤_;omega)
  (fun s h=>by
   subst h;have y2:(euS KK (stR (0,0,0) a).2 b).1.2.natAbs≤200:=by
    rw[m3];rcases Nat.eq_zero_or_pos b.2.natAbs with h | h
    ·rw[h,Nat.gcd_zero_right];exact s1y
    ·have:=Nat.gcd_le_right (m:=(stR (0,0,0) a).2.2.natAbs) h;have:=hb.y;omega
   refine⟨?_,?_,?_⟩
   ·show gI (stR (0,0,0) a).1 (euS KK (stR (0,0,0) a).2 b).2≤_;omega
   ·have:=mod_abs (a:=gI (stR (0,0,0) a).1 (euS KK (stR (0,0,0) a).2 b).2) m1 (by omega)
    show (stR (stR (0,0,0) a) b).2.1.natAbs≤_;unfold stR at this ⊢;exact Nat.le_trans this (by omega)
   ·show (euS KK (stR (0,0,0) a).2 b).1.2.natAbs≤_;omega)
 rw[e,← hrl];rfl
def pmQ:List Mt:=[(-1,0,0,-1),(-1,0,0,1),(0,-1,-1,0),(0,-1,1,0),(0,1,-1,0),(0,1,1,0),(1,0,0,-1),(1,0,0,1)]
def pmH:List Mt:=[(-1,-1,0,1),(-1,-1,1,0),(-1,0,0,-1),(-1,0,1,1),(0,-1,-1,0),(0,-1,1,1),(0,1,-1,-1),(0,1,1,0),(1,0,-1,-1),(1,0,0,1),(1,1,-1,0),(1,1,0,-1)]
def pmS (f:Int):List Mt:=if f=0 then pmQ else pmH
theorem l04Mats_0:f123G KK 0=some pmQ:=by kernel_rfl
theorem l04Mats_1:f123G KK 1=some pmH:=by kernel_rfl
theorem pointMats_0:f106G KK 0=some pmQ:=by kernel_rfl
theorem pointMats_1:f106G KK 1=some pmH:=by kernel_rfl
theorem l04Mats_eq {f:Int} (h1:0≤f) (h2:f≤1):f123G KK f=some (pmS f):=by
 have:f=0∨f=1:=by omega
 rcases this with rfl | rfl
 ·exact l04Mats_0
 ·exact l04Mats_1
theorem pointMats_eq {f:Int} (h1:0≤f) (h2:f≤1):f106G KK f=some (pmS f):=by
 have:f=0∨f=1:=by omega
 rcases this with rfl | rfl
 ·exact pointMats_0
 ·exact pointMats_1
def detS (m:Mt):Int:=m.1*m.2.2.2-m.2.1*m.2.2.1
theorem pm_all:∀ m∈pmQ++pmH,(-1≤m.1∧m.1≤1)∧(-1≤m.2.1∧m.2.1≤1)∧(-1≤m.2.2.1∧m.2.2.1≤1)∧(-1≤m.2.2.2∧m.2.2.2≤1)∧(detS m=1∨detS m = -1):=by decide +kernel
theorem pmS_mem {f:Int} {m:Mt} (h:m∈pmS f):m∈pmQ++pmH:=by
 unfold pmS at h;split at h
 ·exact List.mem_append_left _ h
 ·exact List.mem_append_right _ h
theorem pm_sm {m:Mt} (h:m∈pmQ++pmH):SmM m:=by
 obtain⟨h1,h2,h3,h4,_⟩:=pm_all m h;exact⟨h1,h2,h3,h4⟩
theorem pm_det {m:Mt} (h:m∈pmQ++pmH):detS m=1∨detS m = -1:=(pm_all m h).2.2.2.2
theorem pmS_len (f:Int):(pmS f).length≤12:=by
 unfold pmS;split<;>decide
def stayS (l:Lt) (m:Mt):Bool:=(redS l (mulS m (l.1,0))==(0,0))&&(redS l (mulS m l.2)==(0,0))
theorem basis_Sv {l:Lt} (hl:IsL l):Sv (l.1,0)∧Sv l.2:=by
 obtain⟨a1,a2,c1,c2,b1,b2,ix⟩:=hl;simp only[Sv];omega
theorem mul_Bw {l:Lt} (hl:IsL l) {m:Mt} (hm:SmM m):Bw (mulS m (l.1,0))∧Bw (mulS m l.2):=by
 obtain⟨a1,a2,c1,c2,b1,b2,ix⟩:=hl;have p1:=unit_mul hm.a (x:=l.1) (B:=64) (by omega) (by omega) (by omega)
 have p2:=unit_mul hm.c (x:=l.1) (B:=64) (by omega) (by omega) (by omega)
 have p3:=unit_mul hm.a (x:=l.2.1) (B:=64) (by omega) (by omega) (by omega)
 have p4:=unit_mul hm.b (x:=l.2.2) (B:=64) (by omega) (by omega) (by omega)
 have p5:=unit_mul hm.c (x:=l.2.1) (B:=64) (by omega) (by omega) (by omega)
 have p6:=unit_mul hm.d (x:=l.2.2) (B:=64) (by omega) (by omega) (by omega)
 simp only[mulS,Int.mul_zero,Int.add_zero];exact⟨⟨by simp only;omega,by simp only;omega⟩,⟨by simp only;omega,by simp only;omega⟩⟩
theorem det_mul (l:Lt) (m:Mt):det2 (mulS m (l.1,0)) (mulS m l.2)=detS m*(l.1*l.2.2):=by
 simp only[det2,mulS,detS,Int.mul_zero,Int.add_zero,Int.mul_add,Int.add_mul,Int.sub_mul];have e1:m.1*l.1*(m.2.2.1*l.2.1)=m.1*l.2.1*(m.2.2.1*l.1):=by ac_rfl
 have e2:m.1*m.2.2.2*(l.1*l.2.2)=m.1*l.1*(m.2.2.2*l.2.2):=by ac_rfl
 have e3:m.2.1*m.2.2.1*(l.1*l.2.2)=m.2.1*l.2.2*(m.2.2.1*l.1):=by ac_rfl
 omega
theorem stay_iff {l:Lt} (hl:IsL l) {m:Mt} (hm:m∈pmQ++pmH):finR (stI (stI (0,0,0) (mulS m (l.1,0))) (mulS m l.2))=l↔stayS l m=true:=by
 obtain⟨b1,b2⟩:=mul_Bw hl (pm_sm hm);rw[fix_iff hl (by have:=b1.y;omega) (by have:=b2.y;omega) ?_]
 ·unfold stayS;rw[aT,beq_iff_eq,beq_iff_eq,redS_InL hl,redS_InL hl]
 ·rw[det_mul];have h0:0<l.1*l.2.2:=Int.mul_pos (by have:=hl.a1;omega) (by have:=hl.c1;omega)
  rcases pm_det hm with h | h<;>rw[h]<;>omega
theorem l04Image_eq {l:Lt} (hl:IsL l) {m:Mt} (hm:SmM m):f124G KK m l=some (finR (stI (stI (0,0,0) (mulS m (l.1,0))) (mulS m l.2))):=by
 unfold f124G f121G;simp only[oB];have e1:([(l.1,(0:Int)),l.2].getD ((0:Int)+(0:Int)).toNat ((0:Int),(0:Int)))=(l.1,0):=rfl;have e2:([(l.1,(0:Int)),l.2].getD ((0:Int)+(1:Int)).toNat ((0:Int),(0:Int)))=l.2:=rfl;obtain⟨s1,s2⟩:=basis_Sv hl;obtain⟨b1,b2⟩:=mul_Bw hl hm;rw[e1,e2,l02Apply_eq hm s1,l02Apply_eq hm s2];simp only[oB];rw[herm2_eq b1 b2];rfl
def stabS (f:Int) (l:Lt):List Mt:=(pmS f).filter (stayS l)
theorem l04Stable_eq {f:Int} (h1:0≤f) (h2:f≤1) {l:Lt} (hl:IsL l):f69G KK f l=some (stabS f l):=by
 unfold f69G f69_g;rw[l04Mats_eq h1 h2];simp only[oB];have hc:=pmS_len f;have h:=iter_fold (X:=Int×List Mt) (body:=fun L x=>f69_b4 KK f l (pmS f) (fun v0 v1=>L (v0,v1)) x.1 x.2) (pmS f) (fun q s=>((q:Int),s)) (fun s m=>bif stayS l m then s++[m] else s) (fun s=>some s) (fun q s=>s.length≤q)
  (fun L q s hq hi=>by
   have hm:=pmS_mem (gM hq);refine⟨?_,?_⟩
   ·cases stayS l (pmS f)[q]<;>simp<;>omega
   unfold f69_b4;simp only;rw[in1 hq,in0,gd hq];simp only[aS,cT];rw[l04Image_eq hl (m:=(pmS f)[q]) (pm_sm hm),oB,blim32 (by simp;omega),w_succ (by omega)]
   have hst:=stay_iff hl hm;generalize finR (stI (stI (0,0,0) (mulS (pmS f)[q] (l.1,0))) (mulS (pmS f)[q] l.2))=r at *;have hr:((r.1==l.1)&&((r.2.1==l.2.1)&&(r.2.2==l.2.2)))=stayS l (pmS f)[q]:=by
    rw[Bool.eq_iff_iff,← hst];simp only[aT,beq_iff_eq];rw[Prod.ext_iff,Prod.ext_iff]
   rw[hr];cases stayS l (pmS f)[q]<;>rfl)
  (fun L s hi=>by
   unfold f69_b4;simp only;rw[out1,cF]) KK 0 [] (by omega) (by have:=KKlt (n:=(pmS f).length) (by omega);omega) (by simp)
 unfold f69_l4;refine h.trans ?_;simp only[List.drop_zero];have:=foldl_filter (stayS l) (fun t:Mt=>t) (pmS f) [];rw[List.map_id',List.nil_append] at this;exact congrArg some this
theorem has_eq {l:Lt} (hl:IsL l) {v:Vc} (hv:Sm v):f108G KK l v=some (redS l v==(0,0)):=by
 unfold f108G;rw[reduce_eq hl hv];rfl
theorem Bw_Sm {v:Vc} (h:Bw v):Sm v:=by
 obtain⟨h1,h2⟩:=h;simp only[Sm];omega
theorem drop_pred {l:Lt} (hl:IsL l) {m:Mt} (hm:SmM m):f107G KK m l (l.1,0) l.2=some (!stayS l m):=by
 obtain⟨s1,s2⟩:=basis_Sv hl;obtain⟨b1,b2⟩:=mul_Bw hl hm;unfold f107G;rw[matApply_eq hm s1,matApply_eq hm s2];simp only[oB,oT,tO,cT];rw[has_eq hl (Bw_Sm b1)];simp only[oB];unfold stayS;cases h:(redS l (mulS m (l.1,0))==(0,0))
 ·rfl
 ·simp only[nT,nF,cT,oB,Bool.true_and,cF];rw[has_eq hl (Bw_Sm b2)];rfl
def idxS {α:Type} (p:α→Bool):Nat→List α→Int
 | _,[] => -1
 | q,a :: l=>bif p a then (q:Int) else idxS p (q+1) l
theorem iter_idx {R α:Type} {body:(Int→Option R)→Int→Option R} (l:List α) (p:α→Bool) (fin:Int→Option R)
  (h1:∀ L q (hq:q<l.length),body L (q:Int)=bif p l[q] then fin (q:Int) else L ((q+1:Nat):Int))
  (h2:∀ L,body L (l.length:Int)=fin (-1)):∀ n q,q≤l.length→l.length-q<n→iter body n (q:Int)=fin (idxS p q (l.drop q))
 | 0,q,_,hn=>by omega
 | n+1,q,hq,hn=>by
  show body (iter body n) (q:Int)=_;by_cases hlt:q<l.length
  ·rw[h1 _ q hlt,iter_idx l p fin h1 h2 n (q+1) hlt (by omega),dC hlt]
   simp only[idxS];cases p l[q]<;>simp
  ·have:q=l.length:=by omega
   subst this;rw[h2,List.drop_length];rfl
theorem idxS_spec {α:Type} (p:α→Bool):∀ (l:List α) (q:Nat),(idxS p q l = -1∧∀ a∈l,p a=false)∨(∃ k,k<l.length∧idxS p q l=((q+k:Nat):Int)∧(∀ a∈l.take k,p a=false)∧∃ a,l[k]? = some a∧p a=true)
 | [],q=>Or.inl ⟨rfl,by simp⟩
 | a :: l,q=>by
  simp only[idxS];cases h:p a
  ·rcases idxS_spec p l (q+1) with ⟨h1,h2⟩ | ⟨k,h1,h2,h3,b,h4,h5⟩
   ·left;refine⟨by simpa using h1,?_⟩
    intro b hb;rcases List.mem_cons.mp hb with rfl | hb
    ·exact h
    ·exact h2 b hb
   ·right;refine⟨k+1,by simp;omega,by simp[h2];omega,?_,b,by simpa using h4,h5⟩
    intro c hc;rw[List.take_succ_cons] at hc;rcases List.mem_cons.mp hc with rfl | hc
    ·exact h
    ·exact h3 c hc
  ·right;exact⟨0,by simp,by simp,by simp,a,by simp,h⟩
theorem filter_of_none {α:Type} {p:α→Bool} {l:List α} (h:∀ a∈l,p a=false):l.filter (fun a=>!p a)=l :=
 List.filter_eq_self.mpr fun a ha=>by simp[h a ha]
abbrev Ds:=Nat×List Mt
def delI (p:Mt→Bool) (s:Ds) (a:Mt):Ds:=bif p a then s else (s.1+1,s.2.set s.1 a)
structure Dv2 (p:Mt→Bool) (l:List Mt) (q:Nat) (s:Ds):Prop where
 n:s.2.length=l.length
 i:s.1<q
 le:q≤l.length
 t:s.2.take s.1=(l.take q).filter fun a=>!p a
 d:s.2.drop q=l.drop q
theorem Dv2_step {p:Mt→Bool} {l:List Mt} {q:Nat} {s:Ds} (h:Dv2 p l q s) (hq:q<l.length):Dv2 p l (q+1) (delI p s l[q]):=by
 obtain⟨h1,h2,h3,h4,h5⟩:=h;have hd:s.2.drop (q+1)=l.drop (q+1):=by
  rw[← List.drop_drop,← List.drop_drop,h5]
 have ht:l.take (q+1)=l.take q++[l[q]]:=by rw[List.take_add_one];simp[hq]
 unfold delI;cases hp:p l[q]
 ·simp only[cF];refine⟨by simp[h1],by simp only;omega,hq,?_,?_⟩
  ·simp only;rw[ht,List.filter_append,← h4,List.take_add_one];congr 1
   ·rw[List.take_set_of_le (Nat.le_refl _)]
   ·rw[List.getElem?_set_self (by omega)]
    simp[hp]
  ·simp only;rw[List.drop_set_of_lt (by omega),hd]
 ·simp only[cT];refine⟨h1,by omega,hq,?_,hd⟩
  rw[ht,List.filter_append,← h4];simp[hp]
theorem deleteFunc_eq (l:List Mt) (hn:l.length≤1000) (f:Mt→Option Bool) (p:Mt→Bool) (hf:∀ m∈l,f m=some (p m)) :
  f105G KK l f=some (l.filter fun a=>!p a):=by
 have hidx:f170G KK l f=some (idxS p 0 l):=by
  have h:=iter_idx (R:=Int) (body:=fun L x=>f170_b3 KK l f (fun v0=>L v0) x) l p some
   (fun L q hq=>by
    unfold f170_b3;rw[in1 hq,in0,gd hq];simp only[aS,cT];rw[show f (l[q].1,l[q].2.1,l[q].2.2)=some (p l[q]) from hf _ (gM hq),oB,w_succ (by omega)])
   (fun L=>by
    unfold f170_b3;rw[out1,cF]) KK 0 (by omega) (by have:=KKlt (n:=l.length) (by omega);omega)
  unfold f170G f170_g f170_l3;exact h
 unfold f105G f105_g;rw[hidx];simp only[oB];rcases idxS_spec p l 0 with ⟨h1,h2⟩ | ⟨k,h1,h2,h3,b,h4,h5⟩
 ·rw[h1,filter_of_none h2];rfl
 ·rw[Nat.zero_add] at h2;have hne:((k:Int) == -1)=false:=by
   rw[bN];omega
  rw[h2,hne,cF,w_succ (by omega)]
  have hb:l[k]=b:=by
   rw[List.getElem?_eq_getElem h1] at h4;exact Option.some.inj h4
  have hinv:Dv2 p l (k+1) (k,l):=by
   refine⟨rfl,by simp,h1,?_,rfl⟩
   have ht:l.take (k+1)=l.take k++[l[k]]:=by rw[List.take_add_one];simp[h1]
   simp only;rw[ht,List.filter_append,filter_of_none h3,hb];simp[h5]
  have h:=iter_fold (X:=Int×Int×List Mt) (body:=fun L x=>f105_b4 KK f (k:Int) (fun v0 v1 v2=>L (v0,v1,v2)) x.1 x.2.1 x.2.2) l (fun q s=>((s.1:Int),(q:Int),s.2)) (delI p) (fun s=>some (s.2.take s.1)) (Dv2 p l)
   (fun L q s hq hi=>by
    refine⟨Dv2_step hi hq,?_⟩;obtain⟨i1,i2,i3,i4,i5⟩:=hi;have hq2:q<s.2.length:=by omega
    have hs1:s.1<s.2.length:=by omega
    have hg:s.2[q]=l[q]:=by
     have h6:(s.2.drop q)[0]? = (l.drop q)[0]?:=by rw[i5]
     simpa[hq,hq2] using h6
    unfold f105_b4;simp only;rw[in1 hq2,in0,gd hq2,hg];simp only[aS,cT];rw[show f (l[q].1,l[q].2.1,l[q].2.2)=some (p l[q]) from hf _ (gM hq),oB,w_succ (by omega),w_succ (by omega)]
    unfold delI;cases p l[q]
    ·simp only[nF,cT,cF];rw[in1 hs1,in0];have hz:((0:Int)+(s.1:Int)).toNat=s.1:=by omega
     rw[hz];rfl
    ·rfl)
   (fun L s hi=>by
    obtain⟨i1,i2,i3,i4,i5⟩:=hi;unfold f105_b4;simp only;have ho:decide ((l.length:Int)<(s.2.length:Int))=false:=by simp;omega
    have hz:((0:Int)+(s.1:Int)).toNat=s.1:=by omega
    have hz2:(((0:Int)+(s.1:Int))+(((0:Int)+(s.2.length:Int))-((0:Int)+(s.1:Int)))).toNat=s.2.length:=by omega
    have hc:(clr s.2 s.1 s.2.length ((0:Int),((0:Int),((0:Int),(0:Int))))).length=s.2.length:=by
     unfold clr;simp;omega
    have hct:(clr s.2 s.1 s.2.length ((0:Int),((0:Int),((0:Int),(0:Int))))).take s.1=s.2.take s.1:=by
     unfold clr;rw[List.append_assoc,List.take_append_of_le_length (by simp;omega),List.take_take,Nat.min_self]
    rw[ho,cF,hz,hz2,hc,hct,in0];have d1:decide ((s.1:Int)≤(s.2.length:Int))=true:=by simp;omega
    rw[d1];simp) KK (k+1) (k,l) h1 (by have:=KKlt (n:=l.length) (by omega);omega) hinv
  unfold f105_l4;refine h.trans ?_;have hf:=foldl_inv (delI p) (fun q s=>Dv2 p l q s) (l.drop (k+1)) (k+1) (k,l) hinv (fun i s hi hP=>by
   have hlt:k+1+i<l.length:=by simp at hi;omega
   have:=Dv2_step hP hlt;simpa using this)
  have hend:k+1+(l.drop (k+1)).length=l.length:=by simp;omega
  rw[hend] at hf;have:=hf.t;rw[List.take_length] at this;exact congrArg some this
theorem latticeMats_eq {f:Int} (h1:0≤f) (h2:f≤1) {l:Lt} (hl:IsL l):f53G KK f l=some (stabS f l):=by
 unfold f53G f94G;rw[pointMats_eq h1 h2];simp only[oB];rw[deleteFunc_eq (pmS f) (by have:=pmS_len f;omega) _ (fun m=>!stayS l m) (fun m hm=>drop_pred hl (pm_sm (pmS_mem hm))),oB]
 unfold stabS;simp only[Bool.not_not]
abbrev Mo:=Mt×Vc
def rowG (p:Pt) (m:Mt):List Mo:=((cellsS p.2.1).filter fun t=>keepsS p (m,t)).map fun t=>(m,t)
def groupS (p:Pt):List Mo:=(stabS p.1 p.2.1).flatMap (rowG p)
theorem fold_row (p:Pt) (m:Mt) (s:List Mo):(cellsS p.2.1).foldl (fun s t=>bif keepsS p (m,t) then s++[(m,t)] else s) s=s++rowG p m :=
 foldl_filter (fun t=>keepsS p (m,t)) (fun t:Vc=>((m,t):Mo)) (cellsS p.2.1) s
theorem stab_mem {f:Int} {l:Lt} {m:Mt} (h:m∈stabS f l):m∈pmQ++pmH:=pmS_mem (List.mem_filter.mp h).1
theorem stab_len (f:Int) (l:Lt):(stabS f l).length≤12:=Nat.le_trans (List.length_filter_le _ _) (pmS_len f)
theorem rowG_len {p:Pt} (hp:IsP p) (m:Mt):(rowG p m).length≤64:=by
 unfold rowG;rw[List.length_map];exact Nat.le_trans (List.length_filter_le _ _) (cellsS_le hp.l)
theorem l10_row {p:Pt} (hp:IsP p) {ms:List Mt} (hms:∀ m∈ms,m∈pmQ++pmH) {L:Int→List Mo→Option (List Mo)} {x:Nat} (hx:x<ms.length) (hx2:x<100) {s:List Mo} (hs:s.length≤x*64) :
  f26_l13 KK p (x:Int) ms (cellsS p.2.1) L KK 0 s=L ((x+1:Nat):Int) (s++rowG p ms[x]):=by
 have hc:=cellsS_le hp.l;have hm:=hms _ (gM hx);have h:=iter_fold (X:=Int×List Mo) (body:=fun L13 z=>f26_b13 KK p (x:Int) ms (cellsS p.2.1) L (fun v0 v1=>L13 (v0,v1)) z.1 z.2) (cellsS p.2.1) (fun q s=>((q:Int),s)) (fun s t=>bif keepsS p (ms[x],t) then s++[(ms[x],t)] else s) (fun s=>L ((x+1:Nat):Int) s) (fun q s=>s.length≤x*64+q)
  (fun L13 q s hq hi=>by
   have hv:=cell_Sv hp.l (gM hq);refine⟨?_,?_⟩
   ·cases keepsS p (ms[x],(cellsS p.2.1)[q])<;>simp<;>omega
   unfold f26_b13;simp only;rw[in1 hq,in1 hx,in0,in0,gd hq,gd hx];simp only[aS,cT];rw[l09Keeps_eq hp (m:=(ms[x],(cellsS p.2.1)[q])) (pm_sm hm) hv,oB,blim48 (by simp;omega),w_succ (by omega)]
   cases keepsS p (ms[x],(cellsS p.2.1)[q])<;>rfl)
  (fun L13 s hi=>by
   unfold f26_b13;simp only;rw[out1,cF,w_succ (by omega)]) KK 0 s (by omega) (by have:=KKlt (n:=(cellsS p.2.1).length) (by omega);omega) (by simpa using hs)
 unfold f26_l13;refine h.trans ?_;simp only[List.drop_zero];rw[fold_row]
theorem l10Group_eq {p:Pt} (hp:IsP p):f26G KK p=some (groupS p):=by
 unfold f26G f26_g;rw[l04Stable_eq hp.f1 hp.f2 hp.l,l03Cells_eq hp.l];simp only[oB];have hc:=stab_len p.1 p.2.1;have h:=iter_fold (X:=Int×List Mo) (body:=fun L10 z=>f26_b10 KK p (stabS p.1 p.2.1) (cellsS p.2.1) (fun c0 d0 d1=>f26_l13 KK p c0 (stabS p.1 p.2.1) (cellsS p.2.1) (fun v0 v1=>L10 (v0,v1)) KK d0 d1) (fun v0 v1=>L10 (v0,v1)) z.1 z.2) (stabS p.1 p.2.1) (fun q s=>((q:Int),s)) (fun s m=>s++rowG p m) (fun s=>some s) (fun q s=>s.length≤q*64)
  (fun L10 q s hq hi=>by
   refine⟨by have:=rowG_len hp (stabS p.1 p.2.1)[q];simp;omega,?_⟩
   unfold f26_b10;simp only;rw[in1 hq,cT];exact l10_row hp (fun m hm=>stab_mem hm) hq (by omega) hi)
  (fun L10 s hi=>by
   unfold f26_b10;simp only;rw[out1,cF]) KK 0 [] (by omega) (by have:=KKlt (n:=(stabS p.1 p.2.1).length) (by omega);omega) (by simp)
 unfold f26_l10;refine h.trans ?_;simp only[List.drop_zero];rw[foldl_flat];rfl
theorem gr_row {p:Pt} (hp:IsP p) {ms:List Mt} (hms:∀ m∈ms,m∈pmQ++pmH) {L:Int→List Mo→Option (List Mo)} {x:Nat} (hx:x<ms.length) (hx2:x<100) {s:List Mo} (hs:s.length≤x*64) :
  f19_l14 KK p (x:Int) ms (cellsS p.2.1) L KK 0 s=L ((x+1:Nat):Int) (s++rowG p ms[x]):=by
 have hc:=cellsS_le hp.l;have hm:=hms _ (gM hx);have h:=iter_fold (X:=Int×List Mo) (body:=fun L14 z=>f19_b14 KK p (x:Int) ms (cellsS p.2.1) L (fun v0 v1=>L14 (v0,v1)) z.1 z.2) (cellsS p.2.1) (fun q s=>((q:Int),s)) (fun s t=>bif keepsS p (ms[x],t) then s++[(ms[x],t)] else s) (fun s=>L ((x+1:Nat):Int) s) (fun q s=>s.length≤x*64+q)
  (fun L14 q s hq hi=>by
   have hv:=cell_Sv hp.l (gM hq);refine⟨?_,?_⟩
   ·cases keepsS p (ms[x],(cellsS p.2.1)[q])<;>simp<;>omega
   unfold f19_b14;simp only;rw[in1 hq,in0,gd hq,gd hx];simp only[aS,cT];rw[keeps_eq hp (m:=(ms[x],(cellsS p.2.1)[q])) (pm_sm hm) hv,oB,blim48 (by simp;omega),w_succ (by omega)]
   cases keepsS p (ms[x],(cellsS p.2.1)[q])<;>rfl)
  (fun L14 s hi=>by
   unfold f19_b14;simp only;rw[out1,cF,w_succ (by omega)]) KK 0 s (by omega) (by have:=KKlt (n:=(cellsS p.2.1).length) (by omega);omega) (by simpa using hs)
 unfold f19_l14;refine h.trans ?_;simp only[List.drop_zero];rw[fold_row]
theorem groupOf_eq {p:Pt} (hp:IsP p):f19G KK p=some (groupS p):=by
 unfold f19G f19_g;rw[latticeMats_eq hp.f1 hp.f2 hp.l];simp only[oB];have hc:=stab_len p.1 p.2.1;have h:=iter_fold (X:=Int×List Mo) (body:=fun L10 z=>f19_b10 KK p (stabS p.1 p.2.1) (fun c0 c1 d0 d1=>f19_l14 KK p c0 (stabS p.1 p.2.1) c1 (fun v0 v1=>L10 (v0,v1)) KK d0 d1) (fun v0 v1=>L10 (v0,v1)) z.1 z.2) (stabS p.1 p.2.1) (fun q s=>((q:Int),s)) (fun s m=>s++rowG p m) (fun s=>some s) (fun q s=>s.length≤q*64)
  (fun L10 q s hq hi=>by
   refine⟨by have:=rowG_len hp (stabS p.1 p.2.1)[q];simp;omega,?_⟩
   unfold f19_b10;simp only;rw[in1 hq,in0,cells_eq hp.l];simp only[aS,cT,oB];exact gr_row hp (fun m hm=>stab_mem hm) hq (by omega) hi)
  (fun L10 s hi=>by
   unfold f19_b10;simp only;rw[out1,cF]) KK 0 [] (by omega) (by have:=KKlt (n:=(stabS p.1 p.2.1).length) (by omega);omega) (by simp)
 unfold f19_l10;refine h.trans ?_;simp only[List.drop_zero];rw[foldl_flat];rfl
theorem flatMap_len {α β:Type} (f:α→List β) (B:Nat) (hf:∀ a,(f a).length≤B):∀ l:List α,(l.flatMap f).length≤l.length*B
 | []=>by simp
 | a :: l=>by
  rw[List.flatMap_cons,lA,List.length_cons,Nat.add_mul];have:=flatMap_len f B hf l;have:=hf a;omega
def dv (a b:Int):Int:=if b=0 then 0 else a / b
def negS (m:Mt):Mt:=(-m.1,-m.2.1,-m.2.2.1,-m.2.2.2)
def le3 (x:Int):Bool:=decide (-3≤x)&&decide (x≤3)
def mulV (k:Nat) (v:Vc):Vc:=((k:Int)*v.1,(k:Int)*v.2)
theorem in_eq (a b c:Int):f120G KK a b c=some (decide (b≤a∧a≤c)):=by
 unfold f120G
 try simp only[oT,tO,cT]
 by_cases h:b≤a<;>simp[h]
theorem within_eq (a b c:Int):f91G KK a b c=some (decide (b≤a∧a≤c)):=by
 unfold f91G
 try simp only[oT,tO,cT]
 by_cases h:b≤a<;>simp[h]
def okL (l:Lt):Bool:=decide (1≤l.1∧l.1≤64)&&decide (1≤l.2.2∧l.2.2≤64)&&decide (0≤l.2.1∧l.2.1≤l.1-1)&&decide (l.1*l.2.2≤64)
theorem okL_iff {l:Lt}:okL l=true↔IsL l:=by
 unfold okL;simp only[aT,dE];constructor
 ·rintro⟨⟨⟨⟨a1,a2⟩,c1,c2⟩,b1,b2⟩,ix⟩
  exact⟨a1,a2,c1,c2,b1,by omega,ix⟩
 ·rintro⟨a1,a2,c1,c2,b1,b2,ix⟩
  exact⟨⟨⟨⟨a1,a2⟩,c1,c2⟩,b1,by omega⟩,ix⟩
theorem mul64 {a c:Int} (h1:1≤a) (h2:a≤64) (h3:1≤c) (h4:c≤64):0≤a*c∧a*c≤4096:=by
 have e1:0≤a*c:=Int.mul_nonneg (by omega) (by omega)
 have e2:a*c≤64*c:=Int.mul_le_mul_of_nonneg_right h2 (by omega)
 omega
theorem specIsLattice_eq (l:Lt):f119G KK l=some (okL l):=by
 unfold f119G okL;simp only[in_eq,oB,oT,tO,cT];by_cases h1:1≤l.1∧l.1≤64
 ·by_cases h2:1≤l.2.2∧l.2.2≤64
  ·have:=mul64 h1.1 h1.2 h2.1 h2.2;rw[w_id (n:=l.1-1) (by omega) (by omega),w_id (n:=l.1*l.2.2) (by omega) (by omega)]
   by_cases h3:0≤l.2.1∧l.2.1≤l.1-1<;>simp[h1,h2,h3]
  ·simp[h1,h2]
 ·simp[h1]
theorem isLattice_eq (l:Lt):f42G KK l=some (okL l):=by
 unfold f42G f43G okL;simp only[within_eq,oB,oT,tO,cT];by_cases h1:1≤l.1∧l.1≤64
 ·by_cases h2:1≤l.2.2∧l.2.2≤64
  ·have:=mul64 h1.1 h1.2 h2.1 h2.2;rw[w_id (n:=l.1-1) (by omega) (by omega),w_id (n:=l.1*l.2.2) (by omega) (by omega)]
   by_cases h3:0≤l.2.1∧l.2.1≤l.1-1<;>simp[h1,h2,h3]
  ·simp[h1,h2]
 ·simp[h1]
def okF (f:Int):Bool:=decide (0≤f∧f≤1)
theorem specIsFrame_eq (f:Int):f118G KK f=some (okF f):=by
 unfold f118G okF
 try simp only[oT,tO,cT]
 by_cases h:f=0
 ·subst h;rfl
 ·by_cases h1:f=1
  ·subst h1;rfl
  ·have h2:(f==0)=false:=by simp[h]
   have h3:(f==1)=false:=by simp[h1]
   rw[h2,h3];have:¬ (0≤f∧f≤1):=by omega
   simp[this]
theorem isFrame_eq (f:Int):f41G KK f=some (okF f):=by
 unfold f41G;rw[within_eq];rfl
theorem l04Code_eq (f:Int) (l:Lt):f65G KK f l=some (if okF f&&okL l then 0 else 1):=by
 unfold f65G;rw[specIsFrame_eq,specIsLattice_eq];cases okF f<;>cases h:okL l<;>rfl
def okC (c:Int):Bool:=decide (0≤c∧c≤9)
theorem l01Within_eq {l:List Int} (hl:l.length≤1048576):f66G KK l 64 0 9=some (l.all okC&&decide (l.length≤64)):=by
 have h:=iter_all (X:=Int) (body:=fun L x=>f66_b3 KK l 64 0 9 (fun v0=>L v0) x) l (fun q=>(q:Int)) okC (some false) (some (decide ((l.length:Int)≤64)))
  (fun L q hq=>by
   unfold f66_b3;rw[in1 hq,in0,gd hq,in_eq];simp only[aS,cT,oB];rw[w_succ (by omega)]
   show (bif !okC l[q] then _ else _)=_;cases okC l[q]<;>rfl)
  (fun L=>by
   unfold f66_b3;rw[out1,cF]) KK 0 (by omega) (by have:=KKlt2 hl;omega)
 unfold f66G f66_g f66_l3;refine h.trans ?_;simp only[List.drop_zero];have e:decide ((l.length:Int)≤64)=decide (l.length≤64):=by
  rw[decide_eq_decide];omega
 rw[e];cases l.all okC<;>rfl
theorem allWithin_eq {l:List Int} (hl:l.length≤1048576):f44G KK l 0 9=some (l.all okC):=by
 unfold f44G f92G f154G f154_g f154_l3;have h:=iter_idx (R:=Int) (body:=fun L x=>f154_b3 KK l (fun z1=>f93G KK z1 0 9) (fun v0=>L v0) x) l (fun c=>!okC c) some
  (fun L q hq=>by
   unfold f154_b3 f93G;rw[in1 hq,in0,gd hq];simp only[aS,cT,within_eq,oB];rw[w_succ (by omega)]
   rfl)
  (fun L=>by
   unfold f154_b3;rw[out1,cF]) KK 0 (by omega) (by have:=KKlt2 hl;omega)
 rw[List.drop_zero] at h;refine Eq.trans (congrArg (fun o:Option Int=>(o.bind fun y1=>some (decide (y1≥(0:Int)))).bind fun y2=>some (!y2)) h) ?_;simp only[oB,Option.some.injEq];rcases idxS_spec (fun c=>!okC c) l 0 with ⟨h1,h2⟩ | ⟨k,h1,h2,h3,b,h4,h5⟩
 ·rw[h1];have:l.all okC=true:=List.all_eq_true.mpr fun a ha=>by have:=h2 a ha;simpa using this
  rw[this];rfl
 ·rw[h2];have:l.all okC=false:=by
   rw[List.all_eq_false];refine⟨b,List.mem_of_getElem? h4,?_⟩;simpa using h5
  rw[this];simp
def okP (p:Pt):Bool:=okF p.1&&okL p.2.1&&decide ((p.2.2.length:Int)=p.2.1.1*p.2.1.2.2)&&p.2.2.all okC
theorem okP_P {p:Pt} (h:okP p=true):IsP p:=by
 unfold okP at h;simp only[aT,dE] at h;obtain⟨⟨⟨h1,h2⟩,h3⟩,h4⟩:=h;unfold okF at h1;rw[dE] at h1;exact⟨h1.1,h1.2,okL_iff.mp h2,h3⟩
theorem specIsPattern_eq (p:Pt):f24G KK p=some (okP p):=by
 unfold f24G okP;rw[l04Code_eq];simp only[oB,oT,tO,cT];cases h:okF p.1&&okL p.2.1
 ·simp
 ·have hl:IsL p.2.1:=okL_iff.mp (aT _ _▸h).2;have:=mul64 hl.a1 hl.a2 hl.c1 hl.c2;have hix:=hl.ix;rw[w_id (n:=p.2.1.1*p.2.1.2.2) (by omega) (by omega)]
  by_cases h2:(p.2.2.length:Int)=p.2.1.1*p.2.1.2.2
  ·have h3:p.2.2.length≤64:=by omega
   rw[l01Within_eq (by omega)]
   simp[h2,h3]
  ·have h4:((p.2.2.length:Int)==p.2.1.1*p.2.1.2.2)=false:=by simp[h2]
   simp[h2,h4]
theorem isPattern_eq (p:Pt):f15G KK p=some (okP p):=by
 unfold f15G f43G okP;rw[isFrame_eq,isLattice_eq];simp only[oB,oT,tO,cT];cases h0:okF p.1
 ·simp
 cases h:okL p.2.1
 ·simp
 ·have hl:IsL p.2.1:=okL_iff.mp h;have:=mul64 hl.a1 hl.a2 hl.c1 hl.c2;have hix:=hl.ix;rw[w_id (n:=p.2.1.1*p.2.1.2.2) (by omega) (by omega)]
  by_cases h2:(p.2.2.length:Int)=p.2.1.1*p.2.1.2.2
  ·have h3:p.2.2.length≤64:=by omega
   rw[allWithin_eq (by omega)]
   simp[h2]
  ·have h4:((p.2.2.length:Int)==p.2.1.1*p.2.1.2.2)=false:=by simp[h2]
   simp[h2,h4]
structure Cp (l:List Int) (q:Nat) (s:Nat×List Int):Prop where
 i:s.1=q
 n:s.2.length=l.length
 t:s.2.take q=l.take q
end Go.Proofs.YtelgaemfnhnbmaaGreatDoor.X
