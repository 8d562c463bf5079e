/- Plain facts: numbers that do not run over, and loops that Ey through a list. -/
import Derived.Test.YteheolldcpjkcaaGreatQzXLoop
import Derived.Test.YteheolldcpjkcaaGreatQtD0
import Derived.KernelRfl
namespace Go.Proofs.YteheolldcpjkcaaGreat.X
open Go
set_option linter.unusedSimpArgs false
theorem oB {α β:Type} (a:α) (f:α→Option β):(some a).bind f=f a:=rfl
theorem cF {α:Type} (a b:α):cond false a b=b:=rfl
theorem cT {α:Type} (a b:α):cond true a b=a:=rfl
theorem dT {p:Prop} [Decidable p] (h:p):decide p=true:=decide_eq_true h
theorem dF {p:Prop} [Decidable p] (h:¬ p):decide p=false:=decide_eq_false h
theorem gM {α:Type} {l:List α} {n:Nat} (h:n<l.length):l[n]∈l:=Aj8 h
theorem aS (a:Bool):(a&&a)=a:=Bool.and_self a
theorem cM {α:Type} [BEq α] [LawfulBEq α] {a:α} {l:List α}:l.contains a=true↔a∈l:=AjD
theorem nT:(!true)=false:=rfl
theorem oT (b:Bool):(b||true)=true:=Bool.or_true b
theorem tO (b:Bool):(true||b)=true:=rfl
theorem nF:(!false)=true:=rfl
theorem bN {α:Type} [BEq α] [LawfulBEq α] {a b:α}:(a==b)=false↔a≠b:=beq_eq_false_iff_ne
theorem dC {α:Type} {l:List α} {n:Nat} (h:n<l.length):l.drop n=l[n] :: l.drop (n+1):=Aj3 h
theorem tS {α:Type} {l:List α} {n:Nat} (h:n<l.length):l.take (n+1)=l.take n++[l[n]]:=List.take_succ_eq_append_getElem h
theorem dE (p:Prop) [Decidable p]:(decide p=true)=p:=decide_eq_true_eq
theorem mS {α:Type} {a b:α}:a∈[b]↔a=b:=Ajp
theorem lA {α:Type} {a b:List α}:(a++b).length=a.length+b.length:=AiM
theorem aT (a b:Bool):((a&&b)=true)=(a=true∧b=true):=AiG a b
def KK:Nat:=2097152
theorem Az {n:Int} (h1 : -9223372036854775808≤n) (h2:n≤9223372036854775807):w n=n:=by
 simp only[w,IntKind.wrap];simp[IntKind.signed,IntKind.bits];omega
theorem As {q:Nat} (h:q<4611686018427387904):w ((q:Int)+1)=((q+1:Nat):Int):=by
 rw[Az]<;>omega
theorem gd {α:Type} {l:List α} {q:Nat} {d:α} (h:q<l.length):l.getD ((0:Int)+(q:Int)).toNat d=l[q]:=by
 have:((0:Int)+(q:Int)).toNat=q:=by omega
 rw[this];simp[List.getD,h]
theorem in1 {q n:Nat} (h:q<n):decide ((q:Int)<(n:Int))=true:=by
 simp;omega
theorem in0 {q:Nat}:decide (0≤(q:Int))=true:=by simp
theorem AX {n:Nat}:decide ((n:Int)<(n:Int))=false:=by simp
theorem Hl {n:Nat} (h:n≤4000000):Nat.ble n (lim 16)=true:=by
 simp only[lim,AjV];omega
theorem Ahr {n:Nat} (h:n≤4000000):Nat.ble n (lim 8)=true:=by
 simp only[lim,AjV];omega
theorem AZ {X R S α:Type} {body:(X→Option R)→X→Option R} (l:List α) (fr:Nat→S→X) (Ey:S→α→S) (fin:S→Option R) (inv:Nat→S→Prop)
  (h1:∀ L q s (hq:q<l.length),inv q s→inv (q+1) (Ey s l[q])∧body L (fr q s)=L (fr (q+1) (Ey s l[q])))
  (h2:∀ L s,inv l.length s→body L (fr l.length s)=fin s):∀ n q s,q≤l.length→l.length-q<n→inv q s→AL body n (fr q s)=fin ((l.drop q).foldl Ey s)
 | 0,q,s,_,hn,_=>by omega
 | n+1,q,s,hq,hn,hi=>by
  show body (AL body n) (fr q s)=_;by_cases hlt:q<l.length
  ·obtain⟨h3,h4⟩:=h1 (AL body n) q s hlt hi;rw[h4,AZ l fr Ey fin inv h1 h2 n (q+1) _ hlt (by omega) h3,dC hlt]
   rfl
  ·have:q=l.length:=by omega
   subst this;rw[h2 _ _ hi];simp
theorem B0 {X R α:Type} {body:(X→Option R)→X→Option R} (l:List α) (fr:Nat→X) (p:α→Bool) (no fin:Option R)
  (h1:∀ L q (hq:q<l.length),body L (fr q)=bif p l[q] then L (fr (q+1)) else no)
  (h2:∀ L,body L (fr l.length)=fin):∀ n q,q≤l.length→l.length-q<n→AL body n (fr q)=bif (l.drop q).all p then fin else no
 | 0,q,_,hn=>by omega
 | n+1,q,hq,hn=>by
  show body (AL body n) (fr q)=_;by_cases hlt:q<l.length
  ·rw[h1 _ q hlt,B0 l fr p no fin h1 h2 n (q+1) hlt (by omega),dC hlt]
   simp only[AjO];cases p l[q]<;>simp
  ·have:q=l.length:=by omega
   subst this;rw[h2];simp
theorem D8 {α β:Type} (p:α→Bool) (g:α→β):∀ (l:List α) (s:List β),l.foldl (fun s a=>bif p a then s++[g a] else s) s=s++(l.filter p).map g
 | [],s=>by simp
 | a :: l,s=>by
  rw[Ajt,D8 p g l];cases h:p a<;>simp[h]
theorem D9 {α β:Type} (g:α→β):∀ (l:List α) (s:List β),l.foldl (fun s a=>s++[g a]) s=s++l.map g
 | [],s=>by simp
 | a :: l,s=>by
  rw[Ajt,D9 g l];simp
theorem FX {α β:Type} (g:α→List β):∀ (l:List α) (s:List β),l.foldl (fun s a=>s++g a) s=s++l.flatMap g
 | [],s=>by simp
 | a :: l,s=>by
  rw[Ajt,FX g l];simp
abbrev Vc:=Int×Int
abbrev Mt:=Int×Int×Int×Int
abbrev Lt:=Int×Int×Int
abbrev Pt:=Int×Lt×List Int
structure IsL (l:Lt):Prop where
 a1:1≤l.1
 a2:l.1≤64
 c1:1≤l.2.2
 c2:l.2.2≤64
 b1:0≤l.2.1
 b2:l.2.1<l.1
 ix:l.1*l.2.2≤64
structure IsP (p:Pt):Prop where
 f1:0≤p.1
 f2:p.1≤1
 l:IsL p.2.1
 n:(p.2.2.length:Int)=p.2.1.1*p.2.1.2.2
theorem JC {a n:Int} (h:1≤n):(a.tmod n<0→a % n=a.tmod n+n)∧(0≤a.tmod n→a % n=a.tmod n)∧-n<a.tmod n∧a.tmod n<n:=by
 have h0:=Int.tmod_eq_emod (a:=a) (b:=n);have h1:=Aj4 a (show n≠0 by omega)
 have h2:=AjM a (show 0<n by omega)
 have h3:(n.natAbs:Int)=n:=by omega
 split at h0<;>refine⟨?_,?_,?_,?_⟩<;>intros<;>omega
theorem DO {a n:Int} (h:1≤n) (h2:n≤1000000):FM KK a n=some (a % n):=by
 obtain⟨h3,h4,h5,h6⟩:=JC (a:=a) h;unfold FM;have:(n != 0)=true:=by simp;omega
 rw[this,cT];by_cases hl:a.tmod n<0
 ·rw[h3 hl,Az (by omega) (by omega)]
  simp[hl]
 ·rw[h4 (by omega)]
  simp[hl]
theorem Nh {a n:Int} (h:1≤n) (h2:n≤1000000):ON KK a n=some (a % n):=by
 obtain⟨h3,h4,h5,h6⟩:=JC (a:=a) h;unfold ON;have:(n != 0)=true:=by simp;omega
 rw[this,cT,cT,Az (by omega) (by omega)]
 obtain⟨h7,h8,h9,h10⟩:=JC (a:=a.tmod n+n) h;have h11:0≤(a.tmod n+n).tmod n:=by
  have:=Int.tmod_nonneg (a:=a.tmod n+n) n (by omega)
  exact this
 rw[← h8 h11,Int.add_emod_right];congr 1;have:=Int.emod_emod_of_dvd a (Int.dvd_refl n);by_cases hl:a.tmod n<0
 ·rw[h3 hl];rw[← Int.add_emod_right,AjH (by omega) (by omega)]
 ·rw[h4 (by omega)]
  exact AjH (by omega) (by omega)
def Bc (l:Lt) (v:Vc):Vc:=((v.1-(v.2 / l.2.2)*l.2.1) % l.1,v.2 % l.2.2)
theorem U0 {y c:Int} (hc:1≤c) {B:Int} (hB:0≤B) (h1 : -B≤y) (h2:y≤B) : -B-1≤y / c∧y / c≤B:=by
 constructor
 ·rw[Int.le_ediv_iff_mul_le (by omega)]
  have:(-B-1)*c≤(-B-1)*1:=Int.mul_le_mul_of_nonpos_left (by omega) hc
  omega
 ·have h:=Int.ediv_le_ediv (show 0<c by omega) h2
  have h3:B / c≤B:=Int.ediv_le_self c hB;omega
theorem Ni {y c:Int} (hc:1≤c):(y-y % c).tdiv c=y / c:=by
 have h1:=Int.emod_def y c;have:y-y % c=c*(y / c):=by omega
 rw[this,AjP,Int.mul_tdiv_cancel _ (by omega)]
theorem U1 {a b A B:Int} (hA:0≤A) (ha1 : -A≤a) (ha2:a≤A) (hb1:0≤b) (hb2:b≤B) : -(A*B)≤a*b∧a*b≤A*B:=by
 have h1:a*b≤A*b:=Ajy ha2 hb1;have h2:A*b≤A*B:=AjR hb2 hA;have h3 : -A*b≤a*b:=Ajy ha1 hb1;have h4 : -A*b = -(A*b):=AkH A b;omega
def Sm (v:Vc):Prop := -1000000000≤v.1∧v.1≤1000000000∧-1000000000≤v.2∧v.2≤1000000000
theorem O5 {l:Lt} (hl:IsL l) {v:Vc} (hv:Sm v):w (v.1-(w ((w ((w (v.2-v.2 % l.2.2)).tdiv l.2.2))*l.2.1)))=v.1-(v.2 / l.2.2)*l.2.1:=by
 obtain⟨a1,a2,c1,c2,b1,b2,ix⟩:=hl;obtain⟨v1,v2,v3,v4⟩:=hv;have h1:=Aj4 v.2 (show l.2.2≠0 by omega)
 have h2:=AjM v.2 (show 0<l.2.2 by omega)
 obtain⟨h3,h4⟩:=U0 (y:=v.2) c1 (B:=1000000000) (by omega) v3 v4
 obtain⟨h5,h6⟩:=U1 (a:=v.2 / l.2.2) (b:=l.2.1) (A:=1000000001) (B:=64) (by omega) (by omega) (by omega) b1 (by omega)
 rw[Az (n:=v.2-v.2 % l.2.2) (by omega) (by omega),Ni c1,Az (n:=v.2 / l.2.2) (by omega) (by omega),Az (n:=v.2 / l.2.2*l.2.1) (by omega) (by omega),Az (by omega) (by omega)]
theorem Ea {l:Lt} (hl:IsL l) {v:Vc} (hv:Sm v):QJ KK l v=some (Bc l v):=by
 unfold QJ;have h0:(l.2.2 != 0)=true:=by have:=hl.c1;simp;omega
 rw[DO hl.c1 (by have:=hl.c2;omega)]
 simp only[oB,h0,cT];rw[O5 hl hv,DO hl.a1 (by have:=hl.a2;omega)]
 rfl
theorem DP {l:Lt} (hl:IsL l) {v:Vc} (hv:Sm v):KM KK l v=some (Bc l v):=by
 unfold KM;have h0:(l.2.2 != 0)=true:=by have:=hl.c1;simp;omega
 rw[Nh hl.c1 (by have:=hl.c2;omega)]
 simp only[oB,h0,cT];rw[O5 hl hv,Nh hl.a1 (by have:=hl.a2;omega)]
 rfl
theorem HY {l:Lt} (hl:IsL l) (v:Vc):0≤(Bc l v).1∧(Bc l v).1<l.1∧0≤(Bc l v).2∧(Bc l v).2<l.2.2:=by
 obtain⟨a1,a2,c1,c2,b1,b2,ix⟩:=hl;exact⟨Aj4 _ (by omega),AjM _ (by omega),Aj4 _ (by omega),AjM _ (by omega)⟩
theorem XA {a c x y:Int} (h1:0≤x) (h2:x<a) (h3:0≤y) (h4:y<c):0≤x*c+y∧x*c+y<a*c:=by
 have e1:0≤x*c:=Aj9 h1 (by omega)
 have e2:(x+1)*c≤a*c:=Ajy (by omega) (by omega)
 have e3:(x+1)*c=x*c+c:=by rw[AkI,AkX]
 omega
def B9 (l:Lt) (v:Vc):Nat:=((Bc l v).1*l.2.2+(Bc l v).2).toNat
theorem O6 {l:Lt} (hl:IsL l) (v:Vc):w ((w ((Bc l v).1*l.2.2))+(Bc l v).2)=(B9 l v:Int)∧(B9 l v:Int)<l.1*l.2.2:=by
 obtain⟨h1,h2,h3,h4⟩:=HY hl v;obtain⟨h5,h6⟩:=XA h1 h2 h3 h4;obtain⟨a1,a2,c1,c2,b1,b2,ix⟩:=hl;have e1:0≤(Bc l v).1*l.2.2:=Aj9 h1 (by omega)
 unfold B9;rw[Az (n:=(Bc l v).1*l.2.2) (by omega) (by omega),Az (by omega) (by omega)]
 omega
def atS (p:Pt) (v:Vc):Int:=p.2.2.getD (B9 p.2.1 v) 0
def JD (c x:Nat):List Vc:=(List.range c).map fun (y:Nat)=>((x:Int),(y:Int))
def Ac (l:Lt):List Vc:=(List.range l.1.toNat).flatMap (JD l.2.2.toNat)
theorem U2 (a c:Nat) (hc:0<c):(List.range a).flatMap (JD c)=(List.range (a*c)).map fun i=>(((i / c:Nat):Int),((i % c:Nat):Int)):=by
 induction a with
 | zero=>simp
 | succ a ih =>
  rw[List.range_succ,List.flatMap_append,ih,Ajr,List.range_add,Ak0];congr 1;simp only[List.flatMap_cons,List.flatMap_nil,Aju,JD,Alp]
  apply List.map_congr_left
  intro y hy;rw[Akq] at hy;simp only[Function.comp];have h1:(a*c+y) / c=a:=by
   rw[Akw,Nat.mul_add_div hc,Nat.div_eq_of_lt hy];rfl
  have h2:(a*c+y) % c=y:=by
   rw[Akw,Nat.mul_add_mod,Nat.mod_eq_of_lt hy]
  rw[h1,h2]
theorem Lu {l:Lt} (hl:IsL l):Ac l=(List.range (l.1.toNat*l.2.2.toNat)).map fun i=>(((i / l.2.2.toNat:Nat):Int),((i % l.2.2.toNat:Nat):Int)) :=
 U2 _ _ (by have:=hl.c1;omega)
theorem Nj {l:Lt} (hl:IsL l):((l.1.toNat*l.2.2.toNat:Nat):Int)=l.1*l.2.2:=by
 have h1:((l.1.toNat:Nat):Int)=l.1:=by have:=hl.a1;omega
 have h2:((l.2.2.toNat:Nat):Int)=l.2.2:=by have:=hl.c1;omega
 rw[Aki,h1,h2]
theorem FY {l:Lt} (hl:IsL l):(Ac l).length=l.1.toNat*l.2.2.toNat:=by
 rw[Lu hl];simp
theorem Fp {l:Lt} (hl:IsL l):(Ac l).length≤64:=by
 have:=Nj hl;have:=hl.ix;rw[FY hl];omega
theorem FZ {l:Lt} {v:Vc} (h:v∈Ac l):0≤v.1∧v.1<l.1∧0≤v.2∧v.2<l.2.2:=by
 simp only[Ac,JD,AjZ,Ai9,Akq] at h;obtain⟨x,hx,y,hy,rfl⟩:=h;refine⟨?_,?_,?_,?_⟩<;>simp<;>omega
theorem B1 {l:Lt} (hl:IsL l) {i:Nat} (h:i<(Ac l).length):B9 l (Ac l)[i]=i:=by
 have hm:=FZ (gM h);have h1:(Ac l)[i]=(((i / l.2.2.toNat:Nat):Int),((i % l.2.2.toNat:Nat):Int)):=by
  simp[Lu hl]
 unfold B9 Bc;obtain⟨m1,m2,m3,m4⟩:=hm;have h2:(Ac l)[i].2 / l.2.2=0:=Int.ediv_eq_zero_of_lt m3 m4;have h3:(Ac l)[i].2 % l.2.2=(Ac l)[i].2:=AjH m3 m4;simp only[h2,h3,Ak7,Int.sub_zero,AjH m1 m2];rw[h1];have h4:((l.2.2.toNat:Nat):Int)=l.2.2:=by have:=hl.c1;omega
 have h5:(((i / l.2.2.toNat:Nat):Int))*l.2.2+((i % l.2.2.toNat:Nat):Int)=((i / l.2.2.toNat*l.2.2.toNat+i % l.2.2.toNat:Nat):Int):=by
  rw[Int.natCast_add,Aki,h4]
 simp only[h5];have:=Nat.div_add_mod' i l.2.2.toNat;omega
theorem Nk {l:Lt} (hl:IsL l) {L:Int→List Vc→Option (List Vc)} {x:Nat} (hx:x<64) {s:List Vc} (hs:s.length≤x*64) :
  Jr KK l (x:Int) L KK 0 s=L ((x+1:Nat):Int) (s++JD l.2.2.toNat x):=by
 have h2:((l.2.2.toNat:Nat):Int)=l.2.2:=by have:=hl.c1;omega
 have hc:=hl.c2;have h:=AZ (X:=Int×List Vc) (body:=fun L9 z=>MQ KK l (x:Int) L (fun v0 v1=>L9 (v0,v1)) z.1 z.2) (List.range l.2.2.toNat) (fun q s=>((q:Int),s)) (fun s y=>s++[((x:Int),((y:Nat):Int))]) (fun s=>L ((x+1:Nat):Int) s) (fun q s=>s.length≤x*64+q)
  (fun L9 q s hq hi=>by
   simp only[Aj6] at hq;simp only[Akg];refine⟨by simp;omega,?_⟩
   unfold MQ;have h3:decide ((q:Int)<l.2.2)=true:=by simp;omega
   rw[h3,cT,Hl (by simp;omega),cT,As (by omega)])
  (fun L9 s hi=>by
   unfold MQ;have h3:decide (((List.range l.2.2.toNat).length:Int)<l.2.2)=false:=by simp;omega
   simp only[h3,cF];rw[As (by omega)]) KK 0 s (by omega) (by simp[KK];omega) (by simpa using hs)
 unfold Jr;refine h.trans ?_;simp only[AiR];rw[D9];rfl
theorem O7 {l:Lt} (hl:IsL l):Wy KK l=some (Ac l):=by
 have h1:((l.1.toNat:Nat):Int)=l.1:=by have:=hl.a1;omega
 have ha:=hl.a2;have hc:=hl.c2;have h:=AZ (X:=Int×List Vc) (body:=fun L6 z=>Js KK l (fun c0 d0 d1=>Jr KK l c0 (fun v0 v1=>L6 (v0,v1)) KK d0 d1) (fun v0 v1=>L6 (v0,v1)) z.1 z.2) (List.range l.1.toNat) (fun q s=>((q:Int),s)) (fun s x=>s++JD l.2.2.toNat x) (fun s=>some s) (fun q s=>s.length≤q*64)
  (fun L6 q s hq hi=>by
   simp only[Aj6] at hq;simp only[Akg];refine⟨by simp[JD];omega,?_⟩
   unfold Js;have h3:decide ((q:Int)<l.1)=true:=by simp;omega
   rw[h3,cT];exact Nk hl (by omega) hi)
  (fun L6 s hi=>by
   unfold Js;have h3:decide (((List.range l.1.toNat).length:Int)<l.1)=false:=by simp;omega
   simp only[h3,cF]) KK 0 [] (by omega) (by simp[KK];omega) (by simp)
 unfold Wy Wx QM;refine h.trans ?_;simp only[AiR];rw[FX];rfl
theorem U3 {l:Lt} (hl:IsL l) {L:Int→List Vc→Option (List Vc)} {x:Nat} (hx:x<64) {s:List Vc} (hs:s.length≤x*64) :
  Jt KK l (x:Int) L KK 0 s=L ((x+1:Nat):Int) (s++JD l.2.2.toNat x):=by
 have h2:((l.2.2.toNat:Nat):Int)=l.2.2:=by have:=hl.c1;omega
 have hc:=hl.c2;have h:=AZ (X:=Int×List Vc) (body:=fun L9 z=>M6 KK l (x:Int) L (fun v0 v1=>L9 (v0,v1)) z.1 z.2) (List.range l.2.2.toNat) (fun q s=>((q:Int),s)) (fun s y=>s++[((x:Int),((y:Nat):Int))]) (fun s=>L ((x+1:Nat):Int) s) (fun q s=>s.length≤x*64+q)
  (fun L9 q s hq hi=>by
   simp only[Aj6] at hq;simp only[Akg];refine⟨by simp;omega,?_⟩
   unfold M6;have h3:decide ((q:Int)<l.2.2)=true:=by simp;omega
   rw[h3,cT,Hl (by simp;omega),cT,As (by omega)])
  (fun L9 s hi=>by
   unfold M6;have h3:decide (((List.range l.2.2.toNat).length:Int)<l.2.2)=false:=by simp;omega
   simp only[h3,cF];rw[As (by omega)]) KK 0 s (by omega) (by simp[KK];omega) (by simpa using hs)
 unfold Jt;refine h.trans ?_;simp only[AiR];rw[D9];rfl
theorem XB {l:Lt} (hl:IsL l):WW KK l=some (Ac l):=by
 have h1:((l.1.toNat:Nat):Int)=l.1:=by have:=hl.a1;omega
 have ha:=hl.a2;have hc:=hl.c2;have h:=AZ (X:=Int×List Vc) (body:=fun L6 z=>Ju KK l (fun c0 d0 d1=>Jt KK l c0 (fun v0 v1=>L6 (v0,v1)) KK d0 d1) (fun v0 v1=>L6 (v0,v1)) z.1 z.2) (List.range l.1.toNat) (fun q s=>((q:Int),s)) (fun s x=>s++JD l.2.2.toNat x) (fun s=>some s) (fun q s=>s.length≤q*64)
  (fun L6 q s hq hi=>by
   simp only[Aj6] at hq;simp only[Akg];refine⟨by simp[JD];omega,?_⟩
   unfold Ju;have h3:decide ((q:Int)<l.1)=true:=by simp;omega
   rw[h3,cT];exact U3 hl (by omega) hi)
  (fun L6 s hi=>by
   unfold Ju;have h3:decide (((List.range l.1.toNat).length:Int)<l.1)=false:=by simp;omega
   simp only[h3,cF]) KK 0 [] (by omega) (by simp[KK];omega) (by simp)
 unfold WW WV QZ;refine h.trans ?_;simp only[AiR];rw[FX];rfl
structure SmM (m:Mt):Prop where
 a : -1≤m.1∧m.1≤1
 b : -1≤m.2.1∧m.2.1≤1
 c : -1≤m.2.2.1∧m.2.2.1≤1
 d : -1≤m.2.2.2∧m.2.2.2≤1
def Sv (v:Vc):Prop := -1000000≤v.1∧v.1≤1000000∧-1000000≤v.2∧v.2≤1000000
theorem Lv {a:Int} (h : -1≤a∧a≤1):a = -1∨a=0∨a=1:=by omega
theorem Bf {a x:Int} (h : -1≤a∧a≤1) {B:Int} (h1 : -B≤x) (h2:x≤B) (hB:0≤B) : -B≤a*x∧a*x≤B:=by
 rcases Lv h with rfl | rfl | rfl<;>omega
def AN (m:Mt) (v:Vc):Vc:=(m.1*v.1+m.2.1*v.2,m.2.2.1*v.1+m.2.2.2*v.2)
def BT (m:Mt×Vc) (v:Vc):Vc:=((AN m.1 v).1+m.2.1,(AN m.1 v).2+m.2.2)
theorem O8 {m:Mt} (hm:SmM m) {v:Vc} (hv:Sv v):((w ((w (m.1*v.1))+(w (m.2.1*v.2)))),(w ((w (m.2.2.1*v.1))+(w (m.2.2.2*v.2)))))=AN m v:=by
 obtain⟨v1,v2,v3,v4⟩:=hv;obtain⟨a1,a2⟩:=Bf hm.a v1 v2 (by omega)
 obtain⟨b1,b2⟩:=Bf hm.b v3 v4 (by omega)
 obtain⟨c1,c2⟩:=Bf hm.c v1 v2 (by omega)
 obtain⟨d1,d2⟩:=Bf hm.d v3 v4 (by omega)
 rw[Az (n:=m.1*v.1) (by omega) (by omega),Az (n:=m.2.1*v.2) (by omega) (by omega),Az (n:=m.2.2.1*v.1) (by omega) (by omega),Az (n:=m.2.2.2*v.2) (by omega) (by omega),Az (by omega) (by omega),Az (by omega) (by omega)]
 rfl
theorem Eb {m:Mt} (hm:SmM m) {v:Vc} (hv:Sv v) : -2000000≤(AN m v).1∧(AN m v).1≤2000000∧-2000000≤(AN m v).2∧(AN m v).2≤2000000:=by
 obtain⟨v1,v2,v3,v4⟩:=hv;obtain⟨a1,a2⟩:=Bf hm.a v1 v2 (by omega)
 obtain⟨b1,b2⟩:=Bf hm.b v3 v4 (by omega)
 obtain⟨c1,c2⟩:=Bf hm.c v1 v2 (by omega)
 obtain⟨d1,d2⟩:=Bf hm.d v3 v4 (by omega)
 simp only[AN];omega
theorem Dq {m:Mt} (hm:SmM m) {v:Vc} (hv:Sv v):Jn KK m v=some (AN m v):=by
 unfold Jn;rw[O8 hm hv]
theorem Dt {m:Mt} (hm:SmM m) {v:Vc} (hv:Sv v):FN KK m v=some (AN m v):=by
 unfold FN;rw[O8 hm hv]
theorem O9 {m:Mt×Vc} (hm:SmM m.1) {v:Vc} (hv:Sv v) (ht:Sv m.2):ZS KK m v=some (BT m v):=by
 obtain⟨b1,b2,b3,b4⟩:=Eb hm hv;obtain⟨t1,t2,t3,t4⟩:=ht;unfold ZS Jm;rw[Dq hm hv];simp only[oB];rw[Az (by omega) (by omega),Az (by omega) (by omega)]
 rfl
theorem Pa {m:Mt×Vc} (hm:SmM m.1) {v:Vc} (hv:Sv v) (ht:Sv m.2):TA KK m v=some (BT m v):=by
 obtain⟨b1,b2,b3,b4⟩:=Eb hm hv;obtain⟨t1,t2,t3,t4⟩:=ht;unfold TA OT;rw[Dt hm hv];simp only[oB];rw[Az (by omega) (by omega),Az (by omega) (by omega)]
 rfl
theorem IH {m:Mt×Vc} (hm:SmM m.1) {v:Vc} (hv:Sv v) (ht:Sv m.2):Sm (BT m v):=by
 obtain⟨b1,b2,b3,b4⟩:=Eb hm hv;obtain⟨t1,t2,t3,t4⟩:=ht;simp only[Sm,BT];omega
theorem AdK {v:Vc} (h:Sv v):Sm v:=by
 obtain⟨h1,h2,h3,h4⟩:=h;simp only[Sm];omega
def Rc (p:Pt) (m:Mt×Vc):Bool:=(Ac p.2.1).all fun v=>atS p (BT m v)==atS p v
theorem XC {q:Int} (h:q.natAbs≤4611686018427387904):(if (w (0-q))>q then (w (0-q)) else q)=(q.natAbs:Int):=by
 rw[Az (by omega) (by omega)]
 split<;>omega
theorem Pb (a b:Int) (h:b≠0):Int.gcd b (a.tmod b)=Int.gcd a b:=by
 simp only[Int.gcd,Akj];rw[Alq a.natAbs,Nat.gcd_rec b.natAbs a.natAbs,Alq]
theorem GI:∀ (n:Nat) (a b:Int),b.natAbs<n→a.natAbs≤4611686018427387904→b.natAbs≤4611686018427387904→HW KK n a b=some ((Int.gcd a b:Nat):Int)
 | 0,a,b,h,_,_=>by omega
 | n+1,a,b,h,h1,h2=>by
  show Hh KK (HW KK n) a b=_;unfold Hh;by_cases hb:b=0
  ·subst hb;simp only[beq_self_eq_true,cT,XC h1];simp[Int.gcd]
  ·have h3:(b != 0)=true:=by simp[hb]
   have h5:(b==0)=false:=by simp[hb]
   rw[h3,h5,cT,cF];have h4:(a.tmod b).natAbs<b.natAbs:=by rw[Akj];exact Alr _ (by omega)
   rw[GI n b (a.tmod b) (by omega) h2 (by omega),Pb a b hb]
   rfl
theorem Re {a b:Int} (ha:a.natAbs≤1000000) (hb:b.natAbs≤4611686018427387904):SK KK a b=some ((Int.gcd a b:Nat):Int):=by
 show Hh KK (HW KK 2097151) a b=_;unfold Hh;by_cases hb0:b=0
 ·subst hb0;simp only[beq_self_eq_true,cT];rw[XC (by omega)]
  simp[Int.gcd]
 ·have h3:(b != 0)=true:=by simp[hb0]
  have h5:(b==0)=false:=by simp[hb0]
  rw[h3,h5,cT,cF];have h4:(a.tmod b).natAbs≤a.natAbs:=by rw[Akj];exact Nat.mod_le _ _
  rw[GI _ b (a.tmod b) (by omega) hb (by omega),Pb a b hb0]
  rfl
def nx (p v:Vc):Vc:=(p.1-p.2.tdiv v.2*v.1,p.2-p.2.tdiv v.2*v.2)
def euS:Nat→Vc→Vc→Vc×Int
 | 0,p,v=>(p,v.1)
 | n+1,p,v=>if v.2=0 then (p,v.1) else euS n v (nx p v)
theorem Aew (p v:Vc):(nx p v).2=p.2.tmod v.2:=by
 have:=Int.tmod_add_mul_tdiv p.2 v.2;simp only[nx];rw[AjP];omega
theorem Hm (p v:Vc) (h:v.2≠0):(nx p v).2.natAbs<v.2.natAbs:=by
 rw[Aew,Akj];exact Alr _ (by omega)
def Dv (p v:Vc):Nat:=p.1.natAbs*v.2.natAbs+v.1.natAbs*p.2.natAbs
theorem Aic (p v:Vc) (h:v.2≠0):Dv v (nx p v)≤Dv p v:=by
 have h1:(nx p v).2.natAbs=p.2.natAbs % v.2.natAbs:=by rw[Aew,Akj]
 have h2:(nx p v).1.natAbs≤p.1.natAbs+p.2.natAbs / v.2.natAbs*v.1.natAbs:=by
  have:=Int.natAbs_sub_le p.1 (p.2.tdiv v.2*v.1);rw[Aka,Als] at this;exact this
 have h3:=Nat.mod_add_div p.2.natAbs v.2.natAbs;unfold Dv;rw[h1];generalize p.1.natAbs=P at *;generalize v.1.natAbs=V at *;generalize p.2.natAbs / v.2.natAbs=k at *;generalize p.2.natAbs % v.2.natAbs=r at *;generalize v.2.natAbs=U at *;generalize p.2.natAbs=Q at *
 calc V*r+(nx p v).1.natAbs*U≤V*r+(P+k*V)*U:=Nat.add_le_add_left (Aji _ h2) _
  _=P*U+V*(r+U*k):=by
   rw[Ake,Nat.mul_add];have:k*V*U=V*(U*k):=by rw[Akw k V,Nat.mul_assoc,Akw k U]
   omega
  _=P*U+V*Q:=by rw[h3]
structure Bd (B:Nat) (p v:Vc):Prop where
 bp:p.1.natAbs≤B
 bv:v.1.natAbs≤B
 d:Dv p v≤B
theorem AdL {B:Nat} {p v:Vc} (h:Bd B p v) (hv:v.2≠0):Bd B v (nx p v):=by
 have h1:=Aic p v hv;refine⟨h.bv,?_,by have:=h.d;omega⟩
 have h2:(nx p v).1.natAbs*v.2.natAbs≤Dv v (nx p v):=by unfold Dv;omega
 have h3:(nx p v).1.natAbs*1≤(nx p v).1.natAbs*v.2.natAbs:=Nat.mul_le_mul_left _ (by omega)
 have:=h.d;omega
theorem Nl {B:Nat}:∀ (n:Nat) (p v:Vc),v.2.natAbs<n→Bd B p v→(euS n p v).1.1.natAbs≤B∧(euS n p v).2.natAbs≤B
 | 0,p,v,h,_=>by omega
 | n+1,p,v,h,hb=>by
  simp only[euS];split
  ·exact⟨hb.bp,hb.bv⟩
  ·rename_i hv;exact Nl n v (nx p v) (by have:=Hm p v hv;omega) (AdL hb hv)
theorem Aaw {p v:Vc} (h:Bd 36028797018963968 p v) (hp:p.2.natAbs≤1000000) (hv0:v.2≠0) (hv:v.2.natAbs≤1000000) :
  w (p.1-(w ((w (p.2.tdiv v.2))*v.1)))=(nx p v).1∧w (p.2-(w ((w (p.2.tdiv v.2))*v.2)))=(nx p v).2∧w (p.1+w (w (0-(w (p.2.tdiv v.2)))*v.1))=(nx p v).1∧w (p.2+w (w (0-(w (p.2.tdiv v.2)))*v.2))=(nx p v).2:=by
 have k1:(p.2.tdiv v.2).natAbs≤p.2.natAbs:=by rw[Als];exact Nat.div_le_self _ _
 have k2:(p.2.tdiv v.2*v.1).natAbs≤Dv p v:=by
  rw[Aka];have:=Aji v.1.natAbs k1;unfold Dv;rw[Akw v.1.natAbs];omega
 have k3:(p.2.tdiv v.2*v.2).natAbs≤p.2.natAbs:=by
  rw[Aka,Als];exact Nat.div_mul_le_self _ _
 have e1 : -p.2.tdiv v.2*v.1 = -(p.2.tdiv v.2*v.1):=AkH _ _;have e2 : -p.2.tdiv v.2*v.2 = -(p.2.tdiv v.2*v.2):=AkH _ _;obtain⟨b1,b2,b3⟩:=h;rw[Az (n:=p.2.tdiv v.2) (by omega) (by omega),Az (n:=p.2.tdiv v.2*v.1) (by omega) (by omega),Az (n:=p.2.tdiv v.2*v.2) (by omega) (by omega),Az (n:=0-p.2.tdiv v.2) (by omega) (by omega),Int.zero_sub,e1,e2,
  Az (n := -(p.2.tdiv v.2*v.1)) (by omega) (by omega),Az (n := -(p.2.tdiv v.2*v.2)) (by omega) (by omega)]
 simp only[nx];refine⟨Az (by omega) (by omega),Az (by omega) (by omega),?_,?_⟩
 ·rw[Az (by omega) (by omega)];omega
 ·rw[Az (by omega) (by omega)];omega
theorem Pc (a:Int):∀ (n:Nat) (p v p' v':Vc),p.2=p'.2→v.2=v'.2→a ∣ p.1-p'.1→a ∣ v.1-v'.1 →
  (euS n p v).1.2=(euS n p' v').1.2∧a ∣ (euS n p v).1.1-(euS n p' v').1.1∧a ∣ (euS n p v).2-(euS n p' v').2
 | 0,p,v,p',v',h1,h2,h3,h4=>⟨h1,h3,h4⟩
 | n+1,p,v,p',v',h1,h2,h3,h4=>by
  simp only[euS,← h2];split
  ·exact⟨h1,h3,h4⟩
  ·refine Pc a n v (nx p v) v' (nx p' v') h2 ?_ h4 ?_
   ·simp only[nx,← h1,← h2]
   ·simp only[nx,← h1,← h2];obtain⟨s,hs⟩:=h3;obtain⟨t,ht⟩:=h4;refine⟨s-p.2.tdiv v.2*t,?_⟩;rw[Alt,← hs,show a*(p.2.tdiv v.2*t)=p.2.tdiv v.2*(a*t) by rw[← AkW,AjP a,AkW],← ht,Alt]
    omega
def Clo (S:Vc→Prop):Prop:=∀ u v:Vc,∀ k:Int,S u→S v→S (u.1+k*v.1,u.2+k*v.2)
theorem XD {S:Vc→Prop} (hS:Clo S):∀ (n:Nat) (p v:Vc),v.2.natAbs<n→S p→S v→S (euS n p v).1∧S ((euS n p v).2,0)
 | 0,p,v,h,_,_=>by omega
 | n+1,p,v,h,hp,hv=>by
  simp only[euS];split
  ·rename_i h0;refine⟨hp,?_⟩;have:v=(v.1,0):=by rw[← h0]
   rwa [this] at hv
  ·rename_i h0;refine XD hS n v (nx p v) (by have:=Hm p v h0;omega) hv ?_
   have:=hS p v (-(p.2.tdiv v.2)) hp hv;rw[AkH,AkH] at this;exact this
theorem TP {S:Vc→Prop} (hS:Clo S):∀ (n:Nat) (p v:Vc),v.2.natAbs<n→S (euS n p v).1→S ((euS n p v).2,0)→S p∧S v
 | 0,p,v,h,_,_=>by omega
 | n+1,p,v,h,h1,h2=>by
  simp only[euS] at h1 h2;split at h1
  ·rename_i h0;rw[if_pos h0] at h2;have:v=(v.1,0):=by rw[← h0]
   exact⟨h1,by rw[this];exact h2⟩
  ·rename_i h0;rw[if_neg h0] at h2;obtain⟨h3,h4⟩:=TP hS n v (nx p v) (by have:=Hm p v h0;omega) h1 h2
   refine⟨?_,h3⟩;have:=hS (nx p v) v (p.2.tdiv v.2) h4 h3;simp only[nx,Int.sub_add_cancel] at this;exact this
theorem TQ:∀ (n:Nat) (p v:Vc),v.2.natAbs<n→((euS n p v).2*(euS n p v).1.2).natAbs=(p.1*v.2-v.1*p.2).natAbs
 | 0,p,v,h=>by omega
 | n+1,p,v,h=>by
  simp only[euS];split
  ·rename_i h0;show (v.1*p.2).natAbs=_;rw[h0,Ak8,Int.zero_sub,Int.natAbs_neg]
  ·rename_i h0;rw[TQ n v (nx p v) (by have:=Hm p v h0;omega)]
   have e:v.1*(nx p v).2-(nx p v).1*v.2 = -(p.1*v.2-v.1*p.2):=by
    simp only[nx,Alt,Alg];have:v.1*(p.2.tdiv v.2*v.2)=p.2.tdiv v.2*v.1*v.2:=by rw[← AkW,AjP v.1]
    omega
   rw[e,Int.natAbs_neg]
theorem Nm:∀ (n:Nat) (p v:Vc),v.2.natAbs<n→(euS n p v).1.2.natAbs=Nat.gcd p.2.natAbs v.2.natAbs
 | 0,p,v,h=>by omega
 | n+1,p,v,h=>by
  simp only[euS];split
  ·rename_i h0;simp[h0]
  ·rename_i h0;rw[Nm n v (nx p v) (by have:=Hm p v h0;omega),Aew,Akj,Alq p.2.natAbs,Nat.gcd_rec v.2.natAbs p.2.natAbs,Alq]
noncomputable def AdM (a:Int) (q:Int) (L:Int→Int→Int→Int→Option Lt) (r:Vc×Int):Option Lt :=
 (SK KK a r.2).bind fun y20=>(bif (decide (y20>(0:Int))) then (FM KK r.1.1 y20).bind fun y21=>L y20 (w (q+(1:Int))) y21 r.1.2 else L y20 (w (q+(1:Int))) r.1.1 r.1.2)
theorem TR (l:List Vc) (a q:Int) (L:Int→Int→Int→Int→Option Lt):∀ (n:Nat) (p v:Vc),v.2.natAbs<n→Bd 36028797018963968 p v→p.2.natAbs≤1000000→v.2.natAbs≤1000000 →
  DM KK l a q L n p.1 p.2 v.1 v.2=AdM a q L (euS n p v)
 | 0,p,v,h,_,_,_=>by omega
 | n+1,p,v,h,hb,hp,hv=>by
  have e:DM KK l a q L (n+1) p.1 p.2 v.1 v.2=Jo KK l a q L (fun v0 v1 v2 v3=>DM KK l a q L n v0 v1 v2 v3) p.1 p.2 v.1 v.2:=rfl;rw[e];unfold Jo
  dsimp only
  by_cases h0:v.2=0
  ·have h1:(v.2 != 0)=false:=by simp[h0]
   rw[h1,cF];simp only[euS,h0,if_true];rfl
  ·have h1:(v.2 != 0)=true:=by simp[h0]
   obtain⟨c1,c2,c3,c4⟩:=Aaw hb hp h0 hv;have h2:=Hm p v h0;rw[h1,cT,cT,c1,c2,TR l a q L n v (nx p v) (by omega) (AdL hb h0) hv (by omega)]
   simp only[euS,if_neg h0]
abbrev Hs:=Int×Vc
def gI (a x:Int):Int:=((Int.gcd a x:Nat):Int)
def stI (s:Hs) (t:Vc):Hs:=(gI s.1 (euS KK s.2 t).2,(euS KK s.2 t).1)
def stR (s:Hs) (t:Vc):Hs:=(gI s.1 (euS KK s.2 t).2,((if gI s.1 (euS KK s.2 t).2>0 then (euS KK s.2 t).1.1 % gI s.1 (euS KK s.2 t).2 else (euS KK s.2 t).1.1),(euS KK s.2 t).1.2))
structure Oks (s:Hs) (t:Vc):Prop where
 bd:Bd 36028797018963968 s.2 t
 y:s.2.2.natAbs≤1000000
 ty:t.2.natAbs≤1000000
 a:s.1.natAbs≤1000000
 g:gI s.1 (euS KK s.2 t).2≤1000000
def GJ (s:Hs):Lt:=(s.1,(if s.1>0 then (if s.2.2<0 then -s.2.1 else s.2.1) % s.1 else (if s.2.2<0 then -s.2.1 else s.2.1)),(if s.2.2<0 then -s.2.2 else s.2.2))
theorem Nn (a x:Int):0≤gI a x:=by unfold gI;omega
theorem ET {n:Nat} (h:n≤1000000):n<KK:=by simp only[KK];omega
theorem Rf (l:List Vc) (hl:l.length≤1000000) (inv:Nat→Hs→Prop) (h0:inv 0 (0,0,0)) (h1:∀ q s (hq:q<l.length),inv q s→Oks s l[q]∧inv (q+1) (stR s l[q]))
  (h2:∀ s,inv l.length s→s.1≤1000000∧s.2.1.natAbs≤36028797018963968∧s.2.2.natAbs≤36028797018963968):Lb KK l=some (GJ (l.foldl stR (0,0,0))):=by
 have h:=AZ (X:=Int×Int×Int×Int) (body:=fun L x=>EP KK l (fun c0 c1 d0 d1 d2 d3=>DM KK l c0 c1 (fun v0 v1 v2 v3=>L (v0,v1,v2,v3)) KK d0 d1 d2 d3) (fun v0 v1 v2 v3=>L (v0,v1,v2,v3)) x.1 x.2.1 x.2.2.1 x.2.2.2) l (fun q s=>(s.1,(q:Int),s.2.1,s.2.2)) stR (fun s=>some (GJ s)) inv
  (fun L q s hq hi=>by
   obtain⟨ok,hn⟩:=h1 q s hq hi;refine⟨hn,?_⟩;have hy:=ET ok.ty;have hbd:=Nl KK s.2 l[q] hy ok.bd;unfold EP;simp only;rw[in1 hq,in0,gd hq,TR l s.1 q _ KK s.2 l[q] hy ok.bd ok.y ok.ty];simp only[aS,cT];unfold AdM;rw[Re ok.a (by have:=hbd.2;omega),oB,As (by omega)]
   show (bif decide (gI s.1 (euS KK s.2 l[q]).2>0) then _ else _)=_;unfold stR;by_cases hg:gI s.1 (euS KK s.2 l[q]).2>0
   ·rw[dT hg,cT];show (FM KK (euS KK s.2 l[q]).1.1 (gI s.1 (euS KK s.2 l[q]).2)).bind _=_;rw[DO (by omega) ok.g]
    simp only[oB,if_pos hg];rfl
   ·rw[dF hg,cF];simp only[if_neg hg];rfl)
  (fun L s hi=>by
   obtain⟨e1,e2,e3⟩:=h2 s hi;unfold EP Wi;simp only;rw[AX,cF];unfold GJ;by_cases hy:s.2.2<0
   ·rw[dT hy,cT,oB,Az (n := -1*s.2.1) (by omega) (by omega),Az (n := -1*s.2.2) (by omega) (by omega)]
    simp only[if_pos hy];have e4 : -1*s.2.1 = -s.2.1:=by omega
    have e5 : -1*s.2.2 = -s.2.2:=by omega
    rw[e4,e5];by_cases ha:s.1>0
    ·rw[dT ha,cT,DO (by omega) e1,if_pos ha];rfl
    ·rw[dF ha,cF,if_neg ha]
   ·rw[dF hy,cF];simp only[if_neg hy];by_cases ha:s.1>0
    ·rw[dT ha,cT,DO (by omega) e1,if_pos ha];rfl
    ·rw[dF ha,cF,if_neg ha]) KK 0 (0,0,0) (by omega) (by have:=ET hl;omega) h0
 unfold Lb QI Jp;refine h.trans ?_;simp only[AiR]
theorem XE {a x y:Int} (h:a ∣ x-y):Int.gcd a x=Int.gcd a y:=by
 obtain⟨k,hk⟩:=h;have:x=y+a*k:=by omega
 subst this;simp
theorem Fq {a x y:Int} (h:a ∣ x-y):x % a=y % a :=
 Int.emod_eq_emod_iff_emod_sub_eq_zero.mpr (Int.emod_eq_zero_of_dvd h)
structure Rl (s r:Hs):Prop where
 a:s.1=r.1
 p:0≤s.1
 y:s.2.2=r.2.2
 x:s.1 ∣ s.2.1-r.2.1
theorem Aax {s r:Hs} (h:Rl s r) (t:Vc):Rl (stI s t) (stR r t):=by
 obtain⟨c1,c2,c3⟩:=Pc s.1 KK s.2 t r.2 t h.y rfl h.x (by simp)
 have hg:gI s.1 (euS KK s.2 t).2=gI r.1 (euS KK r.2 t).2:=by
  unfold gI;rw[XE c3,h.a]
 have hd:gI s.1 (euS KK s.2 t).2 ∣ s.1:=by unfold gI;exact Int.gcd_dvd_left ..
 refine⟨hg,Nn _ _,c1,?_⟩;have h1:=Int.dvd_trans hd c2;show gI s.1 (euS KK s.2 t).2 ∣ (euS KK s.2 t).1.1-(stR r t).2.1;unfold stR;simp only[← hg];split
 ·have e:(euS KK s.2 t).1.1-(euS KK r.2 t).1.1 % gI s.1 (euS KK s.2 t).2=((euS KK s.2 t).1.1-(euS KK r.2 t).1.1)+((euS KK r.2 t).1.1-(euS KK r.2 t).1.1 % gI s.1 (euS KK s.2 t).2):=by omega
  rw[e];exact Int.dvd_add h1 (Int.dvd_self_sub_emod)
 ·exact h1
theorem TS:∀ (l:List Vc) {s r:Hs},Rl s r→Rl (l.foldl stI s) (l.foldl stR r)
 | [],_,_,h=>h
 | t :: l,_,_,h=>TS l (Aax h t)
theorem Aex {s r:Hs} (h:Rl s r):GJ s=GJ r:=by
 unfold GJ;rw[← h.a,← h.y];have hx:=h.x;congr 2;split
 ·split
  ·apply Fq
   have e : -s.2.1 - -r.2.1 = -(s.2.1-r.2.1):=by omega
   rw[e];exact Int.dvd_neg.mpr hx
  ·exact Fq hx
 ·have h0:s.1=0:=by have:=h.p;omega
  rw[h0,Int.zero_dvd] at hx;have:s.2.1=r.2.1:=by omega
  rw[this]
def Gd (Y X:Nat):Prop:=(Y≤64∧X≤64)∨(Y≤32∧X≤8192)∨(Y≤16∧X≤1048576)∨(Y≤8∧X≤134217728)∨(Y≤4∧X≤17179869184)∨(Y≤2∧X≤2199023255552)∨(Y≤1∧X≤281474976710656)
structure Bx (t:Vc):Prop where
 x1:0≤t.1
 x2:t.1≤64
 y1:0≤t.2
 y2:t.2≤64
structure Pp (p:Vc):Prop where
 y:0≤p.2
 z:p.2=0→p=(0,0)
 g:1≤p.2→Gd p.2.natAbs p.1.natAbs
theorem Ahs (n:Nat) {p v:Vc} (h:v.2=0):euS (n+1) p v=(p,v.1):=by
 simp only[euS,h,if_true]
theorem XF {p v:Vc} (h:v.2=0):euS KK p v=(p,v.1):=Ahs 2097151 h
structure Iv (l:Lt) (q:Nat) (s:Hs):Prop where
 z:q=0→s=(0,0,0)
 a:1≤q→1≤s.1∧s.1≤l.1
 o:q=1→s.2.2=0
 y:2≤q→1≤s.2.2∧s.2.2≤l.2.2
 p:Pp s.2
theorem Aht {a x:Int} (h:1≤a):1≤gI a x∧gI a x≤a:=by
 have h1:0<Int.gcd a x:=Int.gcd_pos_of_ne_zero_left _ (by omega)
 have h2:gI a x ∣ a:=by unfold gI;exact Int.gcd_dvd_left ..
 have h3:=Int.le_of_dvd (by omega) h2
 unfold gI at *;omega
theorem Hn {α S:Type} (f:S→α→S) (P:Nat→S→Prop):∀ (l:List α) (q:Nat) (s:S),P q s→(∀ i s (h:i<l.length),P (q+i) s→P (q+i+1) (f s l[i]))→P (q+l.length) (l.foldl f s)
 | [],q,s,h,_=>h
 | a :: l,q,s,h,hs=>by
  rw[Ajt];have:=Hn f P l (q+1) (f s a) (hs 0 s (by simp) h) (fun i s' hi hP=>by
   have:=hs (i+1) s' (by simp;omega) (by rw[show q+(i+1)=q+1+i by omega];exact hP)
   rw[show q+(i+1)+1=q+1+i+1 by omega] at this
   simpa using this)
  rw[Ajc,show q+(l.length+1)=q+1+l.length by omega]
  exact this
def Aid (l:List Vc):Lt:=GJ (l.foldl stI (0,0,0))
abbrev Un:Mt:=(1,0,0,1)
def Ahu (p:Pt):List Vc:=(Ac p.2.1).filter fun t=>Rc p (Un,t)
def Ahv (p:Pt):Lt:=Aid ((p.2.1.1,0) :: (p.2.1.2.1,p.2.1.2.2) :: Ahu p)
def onS (p:Pt) (l:Lt):Pt:=(p.1,l,(Ac l).map (atS p))
def Ail (p:Pt):Pt:=onS p (Ahv p)
def InL (l:Lt) (v:Vc):Prop:=∃ i j:Int,v=(i*l.1+j*l.2.1,j*l.2.2)
theorem II (l:Lt):Clo (InL l):=by
 rintro u v k ⟨i,j,rfl⟩ ⟨i',j',rfl⟩
 refine⟨i+k*i',j+k*j',?_⟩;simp only[AkI,AkY,AkW];congr 1;omega
theorem GK {l:Lt} (hl:IsL l) (v:Vc):Bc l v=(0,0)↔InL l v:=by
 obtain⟨a1,a2,c1,c2,b1,b2,ix⟩:=hl;unfold Bc;constructor
 ·intro h;simp only[Alk] at h;obtain⟨h1,h2⟩:=h;obtain⟨i,hi⟩:=Aln h1;refine⟨i,v.2 / l.2.2,?_⟩;have h3:=Int.ediv_mul_cancel (Aln h2);have h4:i*l.1=l.1*i:=AjP _ _;refine Prod.ext ?_ h3.symm;simp only;omega
 ·rintro⟨i,j,rfl⟩
  simp only;have h1:j*l.2.2 / l.2.2=j:=Int.mul_ediv_cancel _ (by omega)
  rw[h1,show i*l.1+j*l.2.1-j*l.2.1=i*l.1 by omega,Int.mul_emod_left,Int.mul_emod_left]
theorem XG (n:Nat) {a:Vc} (h:a.2≠0):euS (n+2) (0,0) a=(a,0):=by
 have h1:nx (0,0) a=(0,0):=by simp[nx]
 simp only[euS,h,if_false,h1,if_true]
theorem Np {S:Vc→Prop} (hS:Clo S) {v:Vc} (h:S v):S (-v.1,-v.2):=by
 have:=hS v v (-2) h h;have e1:v.1 + -2*v.1 = -v.1:=by omega
 have e2:v.2 + -2*v.2 = -v.2:=by omega
 rwa [e1,e2] at this
theorem TT {S:Vc→Prop} (hS:Clo S) (x:Int):S ((x.natAbs:Int),0)↔S (x,0):=by
 rcases Int.natAbs_eq x with h | h
 ·rw[← h]
 ·constructor
  ·intro h1;have:=Np hS h1;simp only[Int.neg_zero] at this
   rwa [← h] at this
  ·intro h1;have:=Np hS h1;simp only[Int.neg_zero] at this;rw[show (x.natAbs:Int) = -x by omega]
   exact this
theorem two {a b:Vc} (ha:a.2.natAbs<1000000) (hb:b.2.natAbs<1000000) (hd:a.1*b.2-b.1*a.2≠0) :
  let s:=stI (stI (0,0,0) a) b
  0<s.1∧s.1*(s.2.2.natAbs:Int)=((a.1*b.2-b.1*a.2).natAbs:Int)∧∀ S:Vc→Prop,Clo S→((S a∧S b)↔(S (s.1,0)∧S s.2)):=by
 intro s;have hs:s=stI (stI (0,0,0) a) b:=rfl;by_cases h0:a.2=0
 ·have e1:stI (0,0,0) a=((a.1.natAbs:Int),(0,0)):=by
   simp only[stI,XF h0,gI,AkJ]
  have hb0:b.2≠0:=by
   intro h;apply hd;rw[h0,h];simp
  have e2:euS KK (0,0) b=(b,0):=XG 2097150 hb0;have e3:s=((a.1.natAbs:Int),b):=by
   rw[hs,e1];simp only[stI,e2,gI];congr 1;simp
  rw[e3];have ea:a=(a.1,0):=by rw[← h0]
  rw[h0] at hd ⊢;simp only[Ak8,Int.sub_zero] at hd ⊢;refine⟨?_,?_,?_⟩
  ·have:a.1≠0:=by rintro h;apply hd;rw[h];simp
   omega
  ·rw[Aka,Aki]
  ·intro S hS;rw[TT hS a.1,← ea]
 ·have e1:stI (0,0,0) a=(0,a):=by
   have e2:euS KK (0,0) a=(a,0):=XG 2097150 h0;simp only[stI,e2,gI];rfl
  have e3:s=(((euS KK a b).2.natAbs:Int),(euS KK a b).1):=by
   rw[hs,e1];simp only[stI,gI,AkJ]
  have hlt:=ET (n:=b.2.natAbs) (by omega)
  have hdet:=TQ KK a b hlt;rw[e3];simp only;rw[Aka] at hdet;refine⟨?_,?_,?_⟩
  ·rcases Ajs (euS KK a b).2.natAbs with h | h
   ·rw[h,Nat.zero_mul] at hdet;omega
   ·omega
  ·rw[← hdet,Aki]
  ·intro S hS;rw[TT hS];constructor
   ·rintro⟨h1,h2⟩
    exact (XD hS KK a b hlt h1 h2).symm
   ·rintro⟨h1,h2⟩
    exact TP hS KK a b hlt h2 h1
def XH (a b:Vc):Int:=a.1*b.2-b.1*a.2
theorem Aay {l:Lt} (hl:IsL l) {a b:Vc} (ha:a.2.natAbs<1000000) (hb:b.2.natAbs<1000000) (hd:(XH a b).natAbs=l.1*l.2.2) :
  GJ (stI (stI (0,0,0) a) b)=l↔InL l a∧InL l b:=by
 obtain⟨a1,a2,c1,c2,b1,b2,ix⟩:=hl;have hAC:0<l.1*l.2.2:=Int.mul_pos (by omega) (by omega)
 obtain⟨hg,hm,hS⟩:=two ha hb (by unfold XH at hd;omega)
 have hS:=hS (InL l) (II l);generalize stI (stI (0,0,0) a) b=s at *;rw[show a.1*b.2-b.1*a.2=XH a b from rfl,hd] at hm
 rw[hS];have e0:GJ s=(s.1,(if s.2.2<0 then -s.2.1 else s.2.1) % s.1,(if s.2.2<0 then -s.2.2 else s.2.2)):=by
  unfold GJ;rw[if_pos hg]
 rw[e0];constructor
 ·intro h;rw[Akx,Akx] at h;obtain⟨h1,h2,h3⟩:=h;simp only at h1 h2 h3;rw[h1] at h2;refine⟨⟨1,0,by rw[h1];simp⟩,?_⟩
  split at h2
  ·rename_i hn;rw[if_pos hn] at h3;have h4:=Int.emod_def (-s.2.1) l.1;refine⟨-(-s.2.1 / l.1),-1,?_⟩;have h5:l.1*(-s.2.1 / l.1)=(-s.2.1 / l.1)*l.1:=AjP _ _;rw[AkH];refine Prod.ext ?_ ?_<;>simp only<;>omega
  ·rename_i hn;rw[if_neg hn] at h3;have h4:=Int.emod_def s.2.1 l.1;refine⟨s.2.1 / l.1,1,?_⟩;have h5:l.1*(s.2.1 / l.1)=(s.2.1 / l.1)*l.1:=AjP _ _;refine Prod.ext ?_ ?_<;>simp only<;>omega
 ·rintro⟨⟨i,j,h1⟩,⟨i',j',h2⟩⟩
  have h3:s.1=i*l.1+j*l.2.1:=congrArg (fun x:Vc=>x.1) h1;have h4:(0:Int)=j*l.2.2:=congrArg (fun x:Vc=>x.2) h1;have h5:s.2.1=i'*l.1+j'*l.2.1:=congrArg (fun x:Vc=>x.1) h2;have h6:s.2.2=j'*l.2.2:=congrArg (fun x:Vc=>x.2) h2;have hj:j=0:=by
   rcases Int.mul_eq_zero.mp h4.symm with h | h
   ·exact h
   ·omega
  subst hj;rw[Ak7,Ak9] at h3;have hi:1≤i:=by
   rcases Int.lt_or_le i 1 with h | h
   ·have:i*l.1≤0:=Int.mul_nonpos_of_nonpos_of_nonneg (by omega) (by omega)
    omega
   ·exact h
  have h7:(s.2.2.natAbs:Int)=(j'.natAbs:Int)*l.2.2:=by
   rw[h6,Aka,Aki];congr 1;omega
  have hj':1≤(j'.natAbs:Int):=by
   rcases Int.lt_or_le (j'.natAbs:Int) 1 with h | h
   ·have:(j'.natAbs:Int)=0:=by omega
    rw[this,Ak7] at h7;rw[h7,Ak8] at hm;omega
   ·exact h
  have h8:i*(j'.natAbs:Int)*(l.1*l.2.2)=l.1*l.2.2:=by
   have e:i*(j'.natAbs:Int)*(l.1*l.2.2)=(i*l.1)*((j'.natAbs:Int)*l.2.2):=by ac_rfl
   rw[e,← h3,← h7,hm]
  have h9:i*(j'.natAbs:Int)=1:=by
   have:i*(j'.natAbs:Int)*(l.1*l.2.2)=1*(l.1*l.2.2):=by rw[h8,AkX]
   exact Int.eq_of_mul_eq_mul_right (by omega) this
  have hi1:i=1:=by
   have:=AjR hj' (show 0≤i by omega)
   omega
  subst hi1;rw[AkX] at h9 h3;have e1:(i'*l.1+l.2.1) % l.1=l.2.1:=by
   rw[Int.add_comm,Ala,AjH b1 b2]
  have e2:(-i'*l.1+l.2.1) % l.1=l.2.1:=by
   rw[Int.add_comm,Ala,AjH b1 b2]
  have hjc:j'=1∨j' = -1:=by omega
  rcases hjc with rfl | rfl
  ·rw[AkX] at h6 h5;have hn:¬ s.2.2<0:=by omega
   rw[if_neg hn,if_neg hn,h3,h5,h6,e1]
  ·have hn:s.2.2<0:=by omega
   have e9 : -i'*l.1 = -(i'*l.1):=AkH _ _;rw[if_pos hn,if_pos hn,h3,h5,h6,show -(i'*l.1 + -1*l.2.1) = -i'*l.1+l.2.1 by omega,e2]
   have : -(-1*l.2.2)=l.2.2:=by omega
   rw[this]
structure Bw (v:Vc):Prop where
 x:v.1.natAbs≤200
 y:v.2.natAbs≤200
theorem TU {a x:Int} {B:Nat} (h:x.natAbs≤B) (ha:a.natAbs≤B):(if a>0 then x % a else x).natAbs≤B:=by
 split
 ·rename_i h1;have h3:=Aj4 x (show a≠0 by omega)
  have h4:=AjM x h1;omega
 ·exact h
theorem XI {a b:Vc} (ha:Bw a) (hb:Bw b):Lb KK [a,b]=some (GJ (stI (stI (0,0,0) a) b)):=by
 have hrl:=Aex (TS [a,b] (s:=(0,0,0)) (r:=(0,0,0)) ⟨rfl,by simp,rfl,by simp⟩)
 have hB0:Bd 200 (0,0) a:=⟨by simp,ha.x,by simp[Dv]⟩
 have hla:=ET (n:=a.2.natAbs) (by have:=ha.y;omega)
 have hlb:=ET (n:=b.2.natAbs) (by have:=hb.y;omega)
 obtain⟨k1,k2⟩:=Nl KK (0,0) a hla hB0;have k3:=Nm KK (0,0) a hla;have k4:gI 0 (euS KK (0,0) a).2≤200:=by unfold gI;simp only[AkJ];omega
 have s1y:(stR (0,0,0) a).2.2.natAbs≤200:=by
  show (euS KK (0,0) a).1.2.natAbs≤200;simp at k3;have:=ha.y;omega
 have s1x:(stR (0,0,0) a).2.1.natAbs≤200:=TU k1 (by have:=Nn 0 (euS KK (0,0) a).2;show (gI 0 (euS KK (0,0) a).2).natAbs≤200;omega)
 have s1a:(stR (0,0,0) a).1≤200:=k4;have s1p:0≤(stR (0,0,0) a).1:=Nn _ _;have hB1:Bd 80000 (stR (0,0,0) a).2 b:=by
  refine⟨by omega,by have:=hb.x;omega,?_⟩
  unfold Dv;have e1:=Alb s1x hb.y;have e2:=Alb hb.x s1y;omega
 obtain⟨m1,m2⟩:=Nl KK _ b hlb hB1;have m3:=Nm KK (stR (0,0,0) a).2 b hlb;have m4:gI (stR (0,0,0) a).1 (euS KK (stR (0,0,0) a).2 b).2≤80000:=by
  rcases Int.lt_or_le (stR (0,0,0) a).1 1 with h | h
  ·have:(stR (0,0,0) a).1=0:=by omega
   rw[this];unfold gI;simp only[AkJ];omega
  ·have:=Aht (x:=(euS KK (stR (0,0,0) a).2 b).2) h;omega
 have m5:=Nn (stR (0,0,0) a).1 (euS KK (stR (0,0,0) a).2 b).2;have e:=Rf [a,b] (by simp) (fun q s=>s=([a,b].take q).foldl stR (0,0,0)) rfl
  (fun q s hq h=>by
   match q,hq with
   | 0,_ =>
    subst h;refine⟨⟨⟨by simp,by have:=ha.x;simp;omega,by simp[Dv]⟩,by simp,by have:=ha.y;simp;omega,by simp,?_⟩,rfl⟩
    show gI 0 (euS KK (0,0) a).2≤_;omega
   | 1,_ =>
    subst h;refine⟨⟨⟨?_,?_,?_⟩,?_,?_,?_,?_⟩,rfl⟩
    ·have:=hB1.bp;show (stR (0,0,0) a).2.1.natAbs≤_;omega
    ·have:=hB1.bv;show b.1.natAbs≤_;omega
    ·have:=hB1.d;show Dv (stR (0,0,0) a).2 b≤_;omega
    ·show (stR (0,0,0) a).2.2.natAbs≤_;omega
    ·show b.2.natAbs≤_;have:=hb.y;omega
    ·show (stR (0,0,0) a).1.natAbs≤_;omega
    ·show gI (stR (0,0,0) a).1 (euS KK (stR (0,0,0) a).2 b).2≤_;omega)
  (fun s h=>by
   subst h;have y2:(euS KK (stR (0,0,0) a).2 b).1.2.natAbs≤200:=by
    rw[m3];rcases Ajs b.2.natAbs with h | h
    ·rw[h,Nat.gcd_zero_right];exact s1y
    ·have:=Nat.gcd_le_right (m:=(stR (0,0,0) a).2.2.natAbs) h;have:=hb.y;omega
   refine⟨?_,?_,?_⟩
   ·show gI (stR (0,0,0) a).1 (euS KK (stR (0,0,0) a).2 b).2≤_;omega
   ·have:=TU (a:=gI (stR (0,0,0) a).1 (euS KK (stR (0,0,0) a).2 b).2) m1 (by omega)
    show (stR (stR (0,0,0) a) b).2.1.natAbs≤_;unfold stR at this ⊢;exact AiX this (by omega)
   ·show (euS KK (stR (0,0,0) a).2 b).1.2.natAbs≤_;omega)
 rw[e,← hrl];rfl
def pmQ:List Mt:=[(-1,0,0,-1),(-1,0,0,1),(0,-1,-1,0),(0,-1,1,0),(0,1,-1,0),(0,1,1,0),(1,0,0,-1),(1,0,0,1)]
def pmH:List Mt:=[(-1,-1,0,1),(-1,-1,1,0),(-1,0,0,-1),(-1,0,1,1),(0,-1,-1,0),(0,-1,1,1),(0,1,-1,-1),(0,1,1,0),(1,0,-1,-1),(1,0,0,1),(1,1,-1,0),(1,1,0,-1)]
def pmS (f:Int):List Mt:=if f=0 then pmQ else pmH
theorem Pd:Li KK 0=some pmQ:=by kernel_rfl
theorem Pe:Li KK 1=some pmH:=by kernel_rfl
theorem Nq {f:Int} (h1:0≤f) (h2:f≤1):Li KK f=some (pmS f):=by
 have:f=0∨f=1:=by omega
 rcases this with rfl | rfl
 ·exact Pd
 ·exact Pe
def F3 (m:Mt):Int:=m.1*m.2.2.2-m.2.1*m.2.2.1
theorem XJ:∀ m∈pmQ++pmH,(-1≤m.1∧m.1≤1)∧(-1≤m.2.1∧m.2.1≤1)∧(-1≤m.2.2.1∧m.2.2.1≤1)∧(-1≤m.2.2.2∧m.2.2.2≤1)∧(F3 m=1∨F3 m = -1):=by decide +kernel
theorem Ft {f:Int} {m:Mt} (h:m∈pmS f):m∈pmQ++pmH:=by
 unfold pmS at h;split at h
 ·exact List.mem_append_left _ h
 ·exact List.mem_append_right _ h
theorem Cn {m:Mt} (h:m∈pmQ++pmH):SmM m:=by
 obtain⟨h1,h2,h3,h4,_⟩:=XJ m h;exact⟨h1,h2,h3,h4⟩
theorem XK {m:Mt} (h:m∈pmQ++pmH):F3 m=1∨F3 m = -1:=(XJ m h).2.2.2.2
theorem TV (f:Int):(pmS f).length≤12:=by
 unfold pmS;split<;>decide
def Du (l:Lt) (m:Mt):Bool:=(Bc l (AN m (l.1,0))==(0,0))&&(Bc l (AN m l.2)==(0,0))
theorem Pf {l:Lt} (hl:IsL l):Sv (l.1,0)∧Sv l.2:=by
 obtain⟨a1,a2,c1,c2,b1,b2,ix⟩:=hl;simp only[Sv];omega
theorem Rg {l:Lt} (hl:IsL l) {m:Mt} (hm:SmM m):Bw (AN m (l.1,0))∧Bw (AN m l.2):=by
 obtain⟨a1,a2,c1,c2,b1,b2,ix⟩:=hl;have p1:=Bf hm.a (x:=l.1) (B:=64) (by omega) (by omega) (by omega)
 have p2:=Bf hm.c (x:=l.1) (B:=64) (by omega) (by omega) (by omega)
 have p3:=Bf hm.a (x:=l.2.1) (B:=64) (by omega) (by omega) (by omega)
 have p4:=Bf hm.b (x:=l.2.2) (B:=64) (by omega) (by omega) (by omega)
 have p5:=Bf hm.c (x:=l.2.1) (B:=64) (by omega) (by omega) (by omega)
 have p6:=Bf hm.d (x:=l.2.2) (B:=64) (by omega) (by omega) (by omega)
 simp only[AN,Ak8,Ak9];exact⟨⟨by simp only;omega,by simp only;omega⟩,⟨by simp only;omega,by simp only;omega⟩⟩
theorem Aaz (l:Lt) (m:Mt):XH (AN m (l.1,0)) (AN m l.2)=F3 m*(l.1*l.2.2):=by
 simp only[XH,AN,F3,Ak8,Ak9,AkY,AkI,Alg];have e1:m.1*l.1*(m.2.2.1*l.2.1)=m.1*l.2.1*(m.2.2.1*l.1):=by ac_rfl
 have e2:m.1*m.2.2.2*(l.1*l.2.2)=m.1*l.1*(m.2.2.2*l.2.2):=by ac_rfl
 have e3:m.2.1*m.2.2.1*(l.1*l.2.2)=m.2.1*l.2.2*(m.2.2.1*l.1):=by ac_rfl
 omega
theorem XL {l:Lt} (hl:IsL l) {m:Mt} (hm:m∈pmQ++pmH):GJ (stI (stI (0,0,0) (AN m (l.1,0))) (AN m l.2))=l↔Du l m=true:=by
 obtain⟨b1,b2⟩:=Rg hl (Cn hm);rw[Aay hl (by have:=b1.y;omega) (by have:=b2.y;omega) ?_]
 ·unfold Du;rw[aT,beq_iff_eq,beq_iff_eq,GK hl,GK hl]
 ·rw[Aaz];have h0:0<l.1*l.2.2:=Int.mul_pos (by have:=hl.a1;omega) (by have:=hl.c1;omega)
  rcases XK hm with h | h<;>rw[h]<;>omega
theorem Pg {l:Lt} (hl:IsL l) {m:Mt} (hm:SmM m):SM KK m l=some (GJ (stI (stI (0,0,0) (AN m (l.1,0))) (AN m l.2))):=by
 unfold SM Wg;simp only[oB];have e1:([(l.1,(0:Int)),l.2].getD ((0:Int)+(0:Int)).toNat ((0:Int),(0:Int)))=(l.1,0):=rfl;have e2:([(l.1,(0:Int)),l.2].getD ((0:Int)+(1:Int)).toNat ((0:Int),(0:Int)))=l.2:=rfl;obtain⟨s1,s2⟩:=Pf hl;obtain⟨b1,b2⟩:=Rg hl hm;rw[e1,e2,Dq hm s1,Dq hm s2];simp only[oB];rw[XI b1 b2];rfl
def BP (f:Int) (l:Lt):List Mt:=(pmS f).filter (Du l)
theorem XM {l:Lt} (hl:IsL l) {v:Vc} (hv:Sm v):OO KK l v=some (Bc l v==(0,0)):=by
 unfold OO;rw[DP hl hv];rfl
theorem AdN {v:Vc} (h:Bw v):Sm v:=by
 obtain⟨h1,h2⟩:=h;simp only[Sm];omega
theorem U4 {l:Lt} (hl:IsL l) {m:Mt} (hm:SmM m):Tc KK m l (l.1,0) l.2=some (!Du l m):=by
 obtain⟨s1,s2⟩:=Pf hl;obtain⟨b1,b2⟩:=Rg hl hm;unfold Tc;rw[Dt hm s1,Dt hm s2];simp only[oB,oT,tO,cT];rw[XM hl (AdN b1)];simp only[oB];unfold Du;cases h:(Bc l (AN m (l.1,0))==(0,0))
 ·rfl
 ·simp only[nT,nF,cT,oB,Ai5,cF];rw[XM hl (AdN b2)];rfl
def CE {α:Type} (p:α→Bool):Nat→List α→Int
 | _,[] => -1
 | q,a :: l=>bif p a then (q:Int) else CE p (q+1) l
theorem EU {R α:Type} {body:(Int→Option R)→Int→Option R} (l:List α) (p:α→Bool) (fin:Int→Option R)
  (h1:∀ L q (hq:q<l.length),body L (q:Int)=bif p l[q] then fin (q:Int) else L ((q+1:Nat):Int))
  (h2:∀ L,body L (l.length:Int)=fin (-1)):∀ n q,q≤l.length→l.length-q<n→AL body n (q:Int)=fin (CE p q (l.drop q))
 | 0,q,_,hn=>by omega
 | n+1,q,hq,hn=>by
  show body (AL body n) (q:Int)=_;by_cases hlt:q<l.length
  ·rw[h1 _ q hlt,EU l p fin h1 h2 n (q+1) hlt (by omega),dC hlt]
   simp only[CE];cases p l[q]<;>simp
  ·have:q=l.length:=by omega
   subst this;rw[h2,Alo];rfl
theorem Ho {α:Type} (p:α→Bool):∀ (l:List α) (q:Nat),(CE p q l = -1∧∀ a∈l,p a=false)∨(∃ k,k<l.length∧CE p q l=((q+k:Nat):Int)∧(∀ a∈l.take k,p a=false)∧∃ a,l[k]? = some a∧p a=true)
 | [],q=>Or.inl ⟨rfl,by simp⟩
 | a :: l,q=>by
  simp only[CE];cases h:p a
  ·rcases Ho p l (q+1) with ⟨h1,h2⟩ | ⟨k,h1,h2,h3,b,h4,h5⟩
   ·left;refine⟨by simpa using h1,?_⟩
    intro b hb;rcases AiS.mp hb with rfl | hb
    ·exact h
    ·exact h2 b hb
   ·right;refine⟨k+1,by simp;omega,by simp[h2];omega,?_,b,by simpa using h4,h5⟩
    intro c hc;rw[AkB] at hc;rcases AiS.mp hc with rfl | hc
    ·exact h
    ·exact h3 c hc
  ·right;exact⟨0,by simp,by simp,by simp,a,by simp,h⟩
theorem EV {α:Type} {p:α→Bool} {l:List α} (h:∀ a∈l,p a=false):l.filter (fun a=>!p a)=l :=
 List.filter_eq_self.mpr fun a ha=>by simp[h a ha]
abbrev Ds:=Nat×List Mt
def XN (p:Mt→Bool) (s:Ds) (a:Mt):Ds:=bif p a then s else (s.1+1,s.2.set s.1 a)
structure Dv2 (p:Mt→Bool) (l:List Mt) (q:Nat) (s:Ds):Prop where
 n:s.2.length=l.length
 i:s.1<q
 le:q≤l.length
 t:s.2.take s.1=(l.take q).filter fun a=>!p a
 d:s.2.drop q=l.drop q
theorem Ph {p:Mt→Bool} {l:List Mt} {q:Nat} {s:Ds} (h:Dv2 p l q s) (hq:q<l.length):Dv2 p l (q+1) (XN p s l[q]):=by
 obtain⟨h1,h2,h3,h4,h5⟩:=h;have hd:s.2.drop (q+1)=l.drop (q+1):=by
  rw[← AjS,← AjS,h5]
 have ht:l.take (q+1)=l.take q++[l[q]]:=by rw[Ako];simp[hq]
 unfold XN;cases hp:p l[q]
 ·simp only[cF];refine⟨by simp[h1],by simp only;omega,hq,?_,?_⟩
  ·simp only;rw[ht,AkF,← h4,Ako];congr 1
   ·rw[Ak3 (AiK _)]
   ·rw[AjI (by omega)]
    simp[hp]
  ·simp only;rw[List.drop_set_of_lt (by omega),hd]
 ·simp only[cT];refine⟨h1,by omega,hq,?_,hd⟩
  rw[ht,AkF,← h4];simp[hp]
theorem KN (l:List Mt) (hn:l.length≤1000) (f:Mt→Option Bool) (p:Mt→Bool) (hf:∀ m∈l,f m=some (p m)) :
  OQ KK l f=some (l.filter fun a=>!p a):=by
 have hidx:OP KK l f=some (CE p 0 l):=by
  have h:=EU (R:=Int) (body:=fun L x=>Iy KK l f (fun v0=>L v0) x) l p some
   (fun L q hq=>by
    unfold Iy;rw[in1 hq,in0,gd hq];simp only[aS,cT];rw[show f (l[q].1,l[q].2.1,l[q].2.2)=some (p l[q]) from hf _ (gM hq),oB,As (by omega)])
   (fun L=>by
    unfold Iy;rw[AX,cF]) KK 0 (by omega) (by have:=ET (n:=l.length) (by omega);omega)
  unfold OP QR MW;exact h
 unfold OQ QS;rw[hidx];simp only[oB];rcases Ho p l 0 with ⟨h1,h2⟩ | ⟨k,h1,h2,h3,b,h4,h5⟩
 ·rw[h1,EV h2];rfl
 ·rw[Ajj] at h2;have hne:((k:Int) == -1)=false:=by
   rw[bN];omega
  rw[h2,hne,cF,As (by omega)]
  have hb:l[k]=b:=by
   rw[AiI h1] at h4;exact Option.some.inj h4
  have hinv:Dv2 p l (k+1) (k,l):=by
   refine⟨rfl,by simp,h1,?_,rfl⟩
   have ht:l.take (k+1)=l.take k++[l[k]]:=by rw[Ako];simp[h1]
   simp only;rw[ht,AkF,EV h3,hb];simp[h5]
  have h:=AZ (X:=Int×Int×List Mt) (body:=fun L x=>Iz KK f (k:Int) (fun v0 v1 v2=>L (v0,v1,v2)) x.1 x.2.1 x.2.2) l (fun q s=>((s.1:Int),(q:Int),s.2)) (XN p) (fun s=>some (s.2.take s.1)) (Dv2 p l)
   (fun L q s hq hi=>by
    refine⟨Ph hi hq,?_⟩;obtain⟨i1,i2,i3,i4,i5⟩:=hi;have hq2:q<s.2.length:=by omega
    have hs1:s.1<s.2.length:=by omega
    have hg:s.2[q]=l[q]:=by
     have h6:(s.2.drop q)[0]? = (l.drop q)[0]?:=by rw[i5]
     simpa[hq,hq2] using h6
    unfold Iz;simp only;rw[in1 hq2,in0,gd hq2,hg];simp only[aS,cT];rw[show f (l[q].1,l[q].2.1,l[q].2.2)=some (p l[q]) from hf _ (gM hq),oB,As (by omega),As (by omega)]
    unfold XN;cases p l[q]
    ·simp only[nF,cT,cF];rw[in1 hs1,in0];have hz:((0:Int)+(s.1:Int)).toNat=s.1:=by omega
     rw[hz];rfl
    ·rfl)
   (fun L s hi=>by
    obtain⟨i1,i2,i3,i4,i5⟩:=hi;unfold Iz;simp only;have ho:decide ((l.length:Int)<(s.2.length:Int))=false:=by simp;omega
    have hz:((0:Int)+(s.1:Int)).toNat=s.1:=by omega
    have hz2:(((0:Int)+(s.1:Int))+(((0:Int)+(s.2.length:Int))-((0:Int)+(s.1:Int)))).toNat=s.2.length:=by omega
    have hc:(clr s.2 s.1 s.2.length ((0:Int),((0:Int),((0:Int),(0:Int))))).length=s.2.length:=by
     unfold clr;simp;omega
    have hct:(clr s.2 s.1 s.2.length ((0:Int),((0:Int),((0:Int),(0:Int))))).take s.1=s.2.take s.1:=by
     unfold clr;rw[AiT,Ajq (by simp;omega),Alc,Nat.min_self]
    rw[ho,cF,hz,hz2,hc,hct,in0];have d1:decide ((s.1:Int)≤(s.2.length:Int))=true:=by simp;omega
    rw[d1];simp) KK (k+1) (k,l) h1 (by have:=ET (n:=l.length) (by omega);omega) hinv
  unfold MX;refine h.trans ?_;have hf:=Hn (XN p) (fun q s=>Dv2 p l q s) (l.drop (k+1)) (k+1) (k,l) hinv (fun i s hi hP=>by
   have hlt:k+1+i<l.length:=by simp at hi;omega
   have:=Ph hP hlt;simpa using this)
  have hend:k+1+(l.drop (k+1)).length=l.length:=by simp;omega
  rw[hend] at hf;have:=hf.t;rw[Aj0] at this;exact congrArg some this
theorem JE {f:Int} (h1:0≤f) (h2:f≤1) {l:Lt} (hl:IsL l):Th KK f l=some (BP f l):=by
 unfold Th WK;rw[Nq h1 h2];simp only[oB];rw[KN (pmS f) (by have:=TV f;omega) _ (fun m=>!Du l m) (fun m hm=>U4 hl (Cn (Ft hm))),oB]
 unfold BP;simp only[Bool.not_not]
abbrev Mo:=Mt×Vc
def Aie (p:Pt) (m:Mt):List Mo:=((Ac p.2.1).filter fun t=>Rc p (m,t)).map fun t=>(m,t)
def Aif (p:Pt):List Mo:=(BP p.1 p.2.1).flatMap (Aie p)
theorem Pi {f:Int} {l:Lt} {m:Mt} (h:m∈BP f l):m∈pmQ++pmH:=Ft (AjK.mp h).1
theorem Pj (f:Int) (l:Lt):(BP f l).length≤12:=AiX (Aj2 _ _) (TV f)
theorem HZ {α β:Type} (f:α→List β) (B:Nat) (hf:∀ a,(f a).length≤B):∀ l:List α,(l.flatMap f).length≤l.length*B
 | []=>by simp
 | a :: l=>by
  rw[List.flatMap_cons,lA,Ajc,Ake];have:=HZ f B hf l;have:=hf a;omega
def dv (a b:Int):Int:=if b=0 then 0 else a / b
def AiD (m:Mt):Mt:=(-m.1,-m.2.1,-m.2.2.1,-m.2.2.2)
def le3 (x:Int):Bool:=decide (-3≤x)&&decide (x≤3)
def AiE (k:Nat) (v:Vc):Vc:=((k:Int)*v.1,(k:Int)*v.2)
theorem XO (a b c:Int):Gw KK a b c=some (decide (b≤a∧a≤c)):=by
 unfold Gw
 try simp only[oT,tO,cT]
 by_cases h:b≤a<;>simp[h]
theorem Fu (a b c:Int):GD KK a b c=some (decide (b≤a∧a≤c)):=by
 unfold GD
 try simp only[oT,tO,cT]
 by_cases h:b≤a<;>simp[h]
def okL (l:Lt):Bool:=decide (1≤l.1∧l.1≤64)&&decide (1≤l.2.2∧l.2.2≤64)&&decide (0≤l.2.1∧l.2.1≤l.1-1)&&decide (l.1*l.2.2≤64)
theorem GL {l:Lt}:okL l=true↔IsL l:=by
 unfold okL;simp only[aT,dE];constructor
 ·rintro⟨⟨⟨⟨a1,a2⟩,c1,c2⟩,b1,b2⟩,ix⟩
  exact⟨a1,a2,c1,c2,b1,by omega,ix⟩
 ·rintro⟨a1,a2,c1,c2,b1,b2,ix⟩
  exact⟨⟨⟨⟨a1,a2⟩,c1,c2⟩,b1,by omega⟩,ix⟩
theorem AdO {a c:Int} (h1:1≤a) (h2:a≤64) (h3:1≤c) (h4:c≤64):0≤a*c∧a*c≤4096:=by
 have e1:0≤a*c:=Aj9 (by omega) (by omega)
 have e2:a*c≤64*c:=Ajy h2 (by omega)
 omega
theorem Hp (l:Lt):SA KK l=some (okL l):=by
 unfold SA okL;simp only[XO,oB,oT,tO,cT];by_cases h1:1≤l.1∧l.1≤64
 ·by_cases h2:1≤l.2.2∧l.2.2≤64
  ·have:=AdO h1.1 h1.2 h2.1 h2.2;rw[Az (n:=l.1-1) (by omega) (by omega),Az (n:=l.1*l.2.2) (by omega) (by omega)]
   by_cases h3:0≤l.2.1∧l.2.1≤l.1-1<;>simp[h1,h2,h3]
  ·simp[h1,h2]
 ·simp[h1]
theorem Nr (l:Lt):S6 KK l=some (okL l):=by
 unfold S6 WJ okL;simp only[Fu,oB,oT,tO,cT];by_cases h1:1≤l.1∧l.1≤64
 ·by_cases h2:1≤l.2.2∧l.2.2≤64
  ·have:=AdO h1.1 h1.2 h2.1 h2.2;rw[Az (n:=l.1-1) (by omega) (by omega),Az (n:=l.1*l.2.2) (by omega) (by omega)]
   by_cases h3:0≤l.2.1∧l.2.1≤l.1-1<;>simp[h1,h2,h3]
  ·simp[h1,h2]
 ·simp[h1]
def okF (f:Int):Bool:=decide (0≤f∧f≤1)
theorem EW (f:Int):Oz KK f=some (okF f):=by
 unfold Oz okF
 try simp only[oT,tO,cT]
 by_cases h:f=0
 ·subst h;rfl
 ·by_cases h1:f=1
  ·subst h1;rfl
  ·have h2:(f==0)=false:=by simp[h]
   have h3:(f==1)=false:=by simp[h1]
   rw[h2,h3];have:¬ (0≤f∧f≤1):=by omega
   simp[this]
theorem Rh (f:Int):S5 KK f=some (okF f):=by
 unfold S5;rw[Fu];rfl
theorem F4 (f:Int) (l:Lt):K9 KK f l=some (if okF f&&okL l then 0 else 1):=by
 unfold K9;rw[EW,Hp];cases okF f<;>cases h:okL l<;>rfl
def okC (c:Int):Bool:=decide (0≤c∧c≤9)
def okP (p:Pt):Bool:=okF p.1&&okL p.2.1&&decide ((p.2.2.length:Int)=p.2.1.1*p.2.1.2.2)&&p.2.2.all okC
structure Cp (l:List Int) (q:Nat) (s:Nat×List Int):Prop where
 i:s.1=q
 n:s.2.length=l.length
 t:s.2.take q=l.take q
end Go.Proofs.YteheolldcpjkcaaGreat.X
