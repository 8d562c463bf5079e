/- Plain facts: numbers that do not run over, and loops that FN through a list. -/
import Derived.Test.YteheolldcpjkcaaGreatQvXLoop
import Derived.Test.YteheolldcpjkcaaGreatQuD0
import Derived.Test.YteheolldcpjkcaaGreatQuD1
import Derived.KernelRfl
namespace Go.Proofs.YteheolldcpjkcaaGreat.X
open Go
set_option linter.unusedSimpArgs false
theorem oB {α β:Type} (a:α) (f:α→Option β):(some a).bind f=f a:=rfl
theorem cF {α:Type} (a b:α):cond false a b=b:=rfl
theorem cT {α:Type} (a b:α):cond true a b=a:=rfl
theorem dT {p:Prop} [Decidable p] (h:p):decide p=true:=decide_eq_true h
theorem dF {p:Prop} [Decidable p] (h:¬ p):decide p=false:=decide_eq_false h
theorem gM {α:Type} {l:List α} {n:Nat} (h:n<l.length):l[n]∈l:=ArV h
theorem aS (a:Bool):(a&&a)=a:=As5 a
theorem cM {α:Type} [BEq α] [LawfulBEq α] {a:α} {l:List α}:l.contains a=true↔a∈l:=Aqx
theorem nT:(!true)=false:=rfl
theorem oT (b:Bool):(b||true)=true:=Bool.or_true b
theorem tO (b:Bool):(true||b)=true:=rfl
theorem nF:(!false)=true:=rfl
theorem bN {α:Type} [BEq α] [LawfulBEq α] {a b:α}:(a==b)=false↔a≠b:=beq_eq_false_iff_ne
theorem dC {α:Type} {l:List α} {n:Nat} (h:n<l.length):l.drop n=l[n] :: l.drop (n+1):=ArN h
theorem tS {α:Type} {l:List α} {n:Nat} (h:n<l.length):l.take (n+1)=l.take n++[l[n]]:=List.take_succ_eq_append_getElem h
theorem dE (p:Prop) [Decidable p]:(decide p=true)=p:=decide_eq_true_eq
theorem mS {α:Type} {a b:α}:a∈[b]↔a=b:=Ara
theorem lA {α:Type} {a b:List α}:(a++b).length=a.length+b.length:=Aqs
theorem aT (a b:Bool):((a&&b)=true)=(a=true∧b=true):=Aql a b
def KK:Nat:=2097152
theorem AD {n:Int} (h1 : -9223372036854775808≤n) (h2:n≤9223372036854775807):w n=n:=by
 simp only[w,IntKind.wrap];simp[IntKind.signed,IntKind.bits];omega
theorem Ak {q:Nat} (h:q<4611686018427387904):w ((q:Int)+1)=((q+1:Nat):Int):=by
 rw[AD]<;>omega
theorem gd {α:Type} {l:List α} {q:Nat} {d:α} (h:q<l.length):l.getD ((0:Int)+(q:Int)).toNat d=l[q]:=by
 have:((0:Int)+(q:Int)).toNat=q:=by omega
 rw[this];simp[List.getD,h]
theorem in1 {q n:Nat} (h:q<n):decide ((q:Int)<(n:Int))=true:=by
 simp;omega
theorem in0 {q:Nat}:decide (0≤(q:Int))=true:=by simp
theorem AS {n:Nat}:decide ((n:Int)<(n:Int))=false:=by simp
theorem JC {n:Nat} (h:n≤4000000):Nat.ble n (lim 16)=true:=by
 simp only[lim,ArB];omega
theorem HG {n:Nat} (h:n≤4000000):Nat.ble n (lim 8)=true:=by
 simp only[lim,ArB];omega
theorem Al7 {n:Nat} (h:n≤4000000):Nat.ble n (lim 32)=true:=by
 simp only[lim,ArB];omega
theorem Ey {n:Nat} (h:n≤1000000):Nat.ble n (lim 48)=true:=by
 simp only[lim,ArB];omega
theorem AQ {X R S α:Type} {body:(X→Option R)→X→Option R} (l:List α) (fr:Nat→S→X) (FN:S→α→S) (fin:S→Option R) (inv:Nat→S→Prop)
  (h1:∀ L q s (hq:q<l.length),inv q s→inv (q+1) (FN s l[q])∧body L (fr q s)=L (fr (q+1) (FN s l[q])))
  (h2:∀ L s,inv l.length s→body L (fr l.length s)=fin s):∀ n q s,q≤l.length→l.length-q<n→inv q s→AH body n (fr q s)=fin ((l.drop q).foldl FN s)
 | 0,q,s,_,hn,_=>by omega
 | n+1,q,s,hq,hn,hi=>by
  show body (AH body n) (fr q s)=_;by_cases hlt:q<l.length
  ·obtain⟨h3,h4⟩:=h1 (AH body n) q s hlt hi;rw[h4,AQ l fr FN fin inv h1 h2 n (q+1) _ hlt (by omega) h3,dC hlt]
   rfl
  ·have:q=l.length:=by omega
   subst this;rw[h2 _ _ hi];simp
theorem BA {X R α:Type} {body:(X→Option R)→X→Option R} (l:List α) (fr:Nat→X) (p:α→Bool) (no fin:Option R)
  (h1:∀ L q (hq:q<l.length),body L (fr q)=bif p l[q] then L (fr (q+1)) else no)
  (h2:∀ L,body L (fr l.length)=fin):∀ n q,q≤l.length→l.length-q<n→AH body n (fr q)=bif (l.drop q).all p then fin else no
 | 0,q,_,hn=>by omega
 | n+1,q,hq,hn=>by
  show body (AH body n) (fr q)=_;by_cases hlt:q<l.length
  ·rw[h1 _ q hlt,BA l fr p no fin h1 h2 n (q+1) hlt (by omega),dC hlt]
   simp only[Asn];cases p l[q]<;>simp
  ·have:q=l.length:=by omega
   subst this;rw[h2];simp
theorem DO {α β:Type} (p:α→Bool) (g:α→β):∀ (l:List α) (s:List β),l.foldl (fun s a=>bif p a then s++[g a] else s) s=s++(l.filter p).map g
 | [],s=>by simp
 | a :: l,s=>by
  rw[Aq8,DO p g l];cases h:p a<;>simp[h]
theorem D1 {α β:Type} (g:α→β):∀ (l:List α) (s:List β),l.foldl (fun s a=>s++[g a]) s=s++l.map g
 | [],s=>by simp
 | a :: l,s=>by
  rw[Aq8,D1 g l];simp
theorem HT {α β:Type} (g:α→List β):∀ (l:List α) (s:List β),l.foldl (fun s a=>s++g a) s=s++l.flatMap g
 | [],s=>by simp
 | a :: l,s=>by
  rw[Aq8,HT g l];simp
abbrev Vc:=Int×Int
abbrev Mt:=Int×Int×Int×Int
abbrev Lt:=Int×Int×Int
abbrev Pt:=Int×Lt×List Int
structure IsL (l:Lt):Prop where
 a1:1≤l.1
 a2:l.1≤64
 c1:1≤l.2.2
 c2:l.2.2≤64
 b1:0≤l.2.1
 b2:l.2.1<l.1
 ix:l.1*l.2.2≤64
structure IsP (p:Pt):Prop where
 f1:0≤p.1
 f2:p.1≤1
 l:IsL p.2.1
 n:(p.2.2.length:Int)=p.2.1.1*p.2.1.2.2
theorem Mn {a n:Int} (h:1≤n):(a.tmod n<0→a % n=a.tmod n+n)∧(0≤a.tmod n→a % n=a.tmod n)∧-n<a.tmod n∧a.tmod n<n:=by
 have h0:=Int.tmod_eq_emod (a:=a) (b:=n);have h1:=ArO a (show n≠0 by omega)
 have h2:=ArC a (show 0<n by omega)
 have h3:(n.natAbs:Int)=n:=by omega
 split at h0<;>refine⟨?_,?_,?_,?_⟩<;>intros<;>omega
theorem EM {a n:Int} (h:1≤n) (h2:n≤1000000):HB KK a n=some (a % n):=by
 obtain⟨h3,h4,h5,h6⟩:=Mn (a:=a) h;unfold HB;have:(n != 0)=true:=by simp;omega
 rw[this,cT];by_cases hl:a.tmod n<0
 ·rw[h3 hl,AD (by omega) (by omega)]
  simp[hl]
 ·rw[h4 (by omega)]
  simp[hl]
theorem QG {a n:Int} (h:1≤n) (h2:n≤1000000):SS KK a n=some (a % n):=by
 obtain⟨h3,h4,h5,h6⟩:=Mn (a:=a) h;unfold SS;have:(n != 0)=true:=by simp;omega
 rw[this,cT,cT,AD (by omega) (by omega)]
 obtain⟨h7,h8,h9,h10⟩:=Mn (a:=a.tmod n+n) h;have h11:0≤(a.tmod n+n).tmod n:=by
  have:=AsL (a:=a.tmod n+n) n (by omega)
  exact this
 rw[← h8 h11,Int.add_emod_right];congr 1;have:=Int.emod_emod_of_dvd a (Int.dvd_refl n);by_cases hl:a.tmod n<0
 ·rw[h3 hl];rw[← Int.add_emod_right,Arx (by omega) (by omega)]
 ·rw[h4 (by omega)]
  exact Arx (by omega) (by omega)
def AZ (l:Lt) (v:Vc):Vc:=((v.1-(v.2 / l.2.2)*l.2.1) % l.1,v.2 % l.2.2)
theorem Aaq {y c:Int} (hc:1≤c) {B:Int} (hB:0≤B) (h1 : -B≤y) (h2:y≤B) : -B-1≤y / c∧y / c≤B:=by
 constructor
 ·rw[Int.le_ediv_iff_mul_le (by omega)]
  have:(-B-1)*c≤(-B-1)*1:=Int.mul_le_mul_of_nonpos_left (by omega) hc
  omega
 ·have h:=Int.ediv_le_ediv (show 0<c by omega) h2
  have h3:B / c≤B:=Int.ediv_le_self c hB;omega
theorem QH {y c:Int} (hc:1≤c):(y-y % c).tdiv c=y / c:=by
 have h1:=Int.emod_def y c;have:y-y % c=c*(y / c):=by omega
 rw[this,ArE,Int.mul_tdiv_cancel _ (by omega)]
theorem Aar {a b A B:Int} (hA:0≤A) (ha1 : -A≤a) (ha2:a≤A) (hb1:0≤b) (hb2:b≤B) : -(A*B)≤a*b∧a*b≤A*B:=by
 have h1:a*b≤A*b:=Arn ha2 hb1;have h2:A*b≤A*B:=ArG hb2 hA;have h3 : -A*b≤a*b:=Arn ha1 hb1;have h4 : -A*b = -(A*b):=Ast A b;omega
def Sm (v:Vc):Prop := -1000000000≤v.1∧v.1≤1000000000∧-1000000000≤v.2∧v.2≤1000000000
theorem Tl {l:Lt} (hl:IsL l) {v:Vc} (hv:Sm v):w (v.1-(w ((w ((w (v.2-v.2 % l.2.2)).tdiv l.2.2))*l.2.1)))=v.1-(v.2 / l.2.2)*l.2.1:=by
 obtain⟨a1,a2,c1,c2,b1,b2,ix⟩:=hl;obtain⟨v1,v2,v3,v4⟩:=hv;have h1:=ArO v.2 (show l.2.2≠0 by omega)
 have h2:=ArC v.2 (show 0<l.2.2 by omega)
 obtain⟨h3,h4⟩:=Aaq (y:=v.2) c1 (B:=1000000000) (by omega) v3 v4
 obtain⟨h5,h6⟩:=Aar (a:=v.2 / l.2.2) (b:=l.2.1) (A:=1000000001) (B:=64) (by omega) (by omega) (by omega) b1 (by omega)
 rw[AD (n:=v.2-v.2 % l.2.2) (by omega) (by omega),QH c1,AD (n:=v.2 / l.2.2) (by omega) (by omega),AD (n:=v.2 / l.2.2*l.2.1) (by omega) (by omega),AD (by omega) (by omega)]
theorem CE {l:Lt} (hl:IsL l) {v:Vc} (hv:Sm v):Sq KK l v=some (AZ l v):=by
 unfold Sq;have h0:(l.2.2 != 0)=true:=by have:=hl.c1;simp;omega
 rw[EM hl.c1 (by have:=hl.c2;omega)]
 simp only[oB,h0,cT];rw[Tl hl hv,EM hl.a1 (by have:=hl.a2;omega)]
 rfl
theorem CU {l:Lt} (hl:IsL l) {v:Vc} (hv:Sm v):Jz KK l v=some (AZ l v):=by
 unfold Jz;have h0:(l.2.2 != 0)=true:=by have:=hl.c1;simp;omega
 rw[QG hl.c1 (by have:=hl.c2;omega)]
 simp only[oB,h0,cT];rw[Tl hl hv,QG hl.a1 (by have:=hl.a2;omega)]
 rfl
theorem Kf {l:Lt} (hl:IsL l) (v:Vc):0≤(AZ l v).1∧(AZ l v).1<l.1∧0≤(AZ l v).2∧(AZ l v).2<l.2.2:=by
 obtain⟨a1,a2,c1,c2,b1,b2,ix⟩:=hl;exact⟨ArO _ (by omega),ArC _ (by omega),ArO _ (by omega),ArC _ (by omega)⟩
theorem Adn {a c x y:Int} (h1:0≤x) (h2:x<a) (h3:0≤y) (h4:y<c):0≤x*c+y∧x*c+y<a*c:=by
 have e1:0≤x*c:=ArW h1 (by omega)
 have e2:(x+1)*c≤a*c:=Arn (by omega) (by omega)
 have e3:(x+1)*c=x*c+c:=by rw[Asu,AsH]
 omega
def AY (l:Lt) (v:Vc):Nat:=((AZ l v).1*l.2.2+(AZ l v).2).toNat
theorem EN {l:Lt} (hl:IsL l) (v:Vc):w ((w ((AZ l v).1*l.2.2))+(AZ l v).2)=(AY l v:Int)∧(AY l v:Int)<l.1*l.2.2:=by
 obtain⟨h1,h2,h3,h4⟩:=Kf hl v;obtain⟨h5,h6⟩:=Adn h1 h2 h3 h4;obtain⟨a1,a2,c1,c2,b1,b2,ix⟩:=hl;have e1:0≤(AZ l v).1*l.2.2:=ArW h1 (by omega)
 unfold AY;rw[AD (n:=(AZ l v).1*l.2.2) (by omega) (by omega),AD (by omega) (by omega)]
 omega
def atS (p:Pt) (v:Vc):Int:=p.2.2.getD (AY p.2.1 v) 0
theorem Tm {p:Pt} (hp:IsP p) {v:Vc} (hv:Sm v):SO KK p v=some (atS p v):=by
 unfold SO KC;obtain⟨h1,h2⟩:=EN hp.l v;rw[CE hp.l hv];simp only[oB,h1];have h3:AY p.2.1 v<p.2.2.length:=by have:=hp.n;omega
 rw[in0,in1 h3,gd h3];simp[atS,List.getD,h3]
theorem Ado {p:Pt} (hp:IsP p) {v:Vc} (hv:Sm v):OK KK p v=some (atS p v):=by
 unfold OK HF;obtain⟨h1,h2⟩:=EN hp.l v;rw[CU hp.l hv];simp only[oB,h1];have h3:AY p.2.1 v<p.2.2.length:=by have:=hp.n;omega
 rw[in0,in1 h3,gd h3];simp[atS,List.getD,h3]
def Mp (c x:Nat):List Vc:=(List.range c).map fun (y:Nat)=>((x:Int),(y:Int))
def Ab (l:Lt):List Vc:=(List.range l.1.toNat).flatMap (Mp l.2.2.toNat)
theorem Aas (a c:Nat) (hc:0<c):(List.range a).flatMap (Mp c)=(List.range (a*c)).map fun i=>(((i / c:Nat):Int),((i % c:Nat):Int)):=by
 induction a with
 | zero=>simp
 | succ a ih =>
  rw[List.range_succ,List.flatMap_append,ih,Ard,List.range_add,AsM];congr 1;simp only[List.flatMap_cons,List.flatMap_nil,Aq9,Mp,AsR]
  apply List.map_congr_left
  intro y hy;rw[Asc] at hy;simp only[Function.comp];have h1:(a*c+y) / c=a:=by
   rw[Asg,Nat.mul_add_div hc,Nat.div_eq_of_lt hy];rfl
  have h2:(a*c+y) % c=y:=by
   rw[Asg,Nat.mul_add_mod,Nat.mod_eq_of_lt hy]
  rw[h1,h2]
theorem OP {l:Lt} (hl:IsL l):Ab l=(List.range (l.1.toNat*l.2.2.toNat)).map fun i=>(((i / l.2.2.toNat:Nat):Int),((i % l.2.2.toNat:Nat):Int)) :=
 Aas _ _ (by have:=hl.c1;omega)
theorem Ll {l:Lt} (hl:IsL l):((l.1.toNat*l.2.2.toNat:Nat):Int)=l.1*l.2.2:=by
 have h1:((l.1.toNat:Nat):Int)=l.1:=by have:=hl.a1;omega
 have h2:((l.2.2.toNat:Nat):Int)=l.2.2:=by have:=hl.c1;omega
 rw[ArP,h1,h2]
theorem D2 {l:Lt} (hl:IsL l):(Ab l).length=l.1.toNat*l.2.2.toNat:=by
 rw[OP hl];simp
theorem Be {l:Lt} (hl:IsL l):(Ab l).length≤64:=by
 have:=Ll hl;have:=hl.ix;rw[D2 hl];omega
theorem D3 {l:Lt} {v:Vc} (h:v∈Ab l):0≤v.1∧v.1<l.1∧0≤v.2∧v.2<l.2.2:=by
 simp only[Ab,Mp,ArL,AqG,Asc] at h;obtain⟨x,hx,y,hy,rfl⟩:=h;refine⟨?_,?_,?_,?_⟩<;>simp<;>omega
theorem Bb {l:Lt} (hl:IsL l) {i:Nat} (h:i<(Ab l).length):AY l (Ab l)[i]=i:=by
 have hm:=D3 (gM h);have h1:(Ab l)[i]=(((i / l.2.2.toNat:Nat):Int),((i % l.2.2.toNat:Nat):Int)):=by
  simp[OP hl]
 unfold AY AZ;obtain⟨m1,m2,m3,m4⟩:=hm;have h2:(Ab l)[i].2 / l.2.2=0:=Int.ediv_eq_zero_of_lt m3 m4;have h3:(Ab l)[i].2 % l.2.2=(Ab l)[i].2:=Arx m3 m4;simp only[h2,h3,AsS,Int.sub_zero,Arx m1 m2];rw[h1];have h4:((l.2.2.toNat:Nat):Int)=l.2.2:=by have:=hl.c1;omega
 have h5:(((i / l.2.2.toNat:Nat):Int))*l.2.2+((i % l.2.2.toNat:Nat):Int)=((i / l.2.2.toNat*l.2.2.toNat+i % l.2.2.toNat:Nat):Int):=by
  rw[Int.natCast_add,ArP,h4]
 simp only[h5];have:=Nat.div_add_mod' i l.2.2.toNat;omega
theorem QI {l:Lt} (hl:IsL l) {L:Int→List Vc→Option (List Vc)} {x:Nat} (hx:x<64) {s:List Vc} (hs:s.length≤x*64) :
  Mc KK l (x:Int) L KK 0 s=L ((x+1:Nat):Int) (s++Mp l.2.2.toNat x):=by
 have h2:((l.2.2.toNat:Nat):Int)=l.2.2:=by have:=hl.c1;omega
 have hc:=hl.c2;have h:=AQ (X:=Int×List Vc) (body:=fun L9 z=>P3 KK l (x:Int) L (fun v0 v1=>L9 (v0,v1)) z.1 z.2) (List.range l.2.2.toNat) (fun q s=>((q:Int),s)) (fun s y=>s++[((x:Int),((y:Nat):Int))]) (fun s=>L ((x+1:Nat):Int) s) (fun q s=>s.length≤x*64+q)
  (fun L9 q s hq hi=>by
   simp only[ArR] at hq;simp only[Ar0];refine⟨by simp;omega,?_⟩
   unfold P3;have h3:decide ((q:Int)<l.2.2)=true:=by simp;omega
   rw[h3,cT,JC (by simp;omega),cT,Ak (by omega)])
  (fun L9 s hi=>by
   unfold P3;have h3:decide (((List.range l.2.2.toNat).length:Int)<l.2.2)=false:=by simp;omega
   simp only[h3,cF];rw[Ak (by omega)]) KK 0 s (by omega) (by simp[KK];omega) (by simpa using hs)
 unfold Mc;refine h.trans ?_;simp only[Aqq];rw[D1];rfl
theorem Tn {l:Lt} (hl:IsL l):Aca KK l=some (Ab l):=by
 have h1:((l.1.toNat:Nat):Int)=l.1:=by have:=hl.a1;omega
 have ha:=hl.a2;have hc:=hl.c2;have h:=AQ (X:=Int×List Vc) (body:=fun L6 z=>Me KK l (fun c0 d0 d1=>Mc KK l c0 (fun v0 v1=>L6 (v0,v1)) KK d0 d1) (fun v0 v1=>L6 (v0,v1)) z.1 z.2) (List.range l.1.toNat) (fun q s=>((q:Int),s)) (fun s x=>s++Mp l.2.2.toNat x) (fun s=>some s) (fun q s=>s.length≤q*64)
  (fun L6 q s hq hi=>by
   simp only[ArR] at hq;simp only[Ar0];refine⟨by simp[Mp];omega,?_⟩
   unfold Me;have h3:decide ((q:Int)<l.1)=true:=by simp;omega
   rw[h3,cT];exact QI hl (by omega) hi)
  (fun L6 s hi=>by
   unfold Me;have h3:decide (((List.range l.1.toNat).length:Int)<l.1)=false:=by simp;omega
   simp only[h3,cF]) KK 0 [] (by omega) (by simp[KK];omega) (by simp)
 unfold Aca Ab9 UW;refine h.trans ?_;simp only[Aqq];rw[HT];rfl
theorem Aat {l:Lt} (hl:IsL l) {L:Int→List Vc→Option (List Vc)} {x:Nat} (hx:x<64) {s:List Vc} (hs:s.length≤x*64) :
  Mh KK l (x:Int) L KK 0 s=L ((x+1:Nat):Int) (s++Mp l.2.2.toNat x):=by
 have h2:((l.2.2.toNat:Nat):Int)=l.2.2:=by have:=hl.c1;omega
 have hc:=hl.c2;have h:=AQ (X:=Int×List Vc) (body:=fun L9 z=>Qm KK l (x:Int) L (fun v0 v1=>L9 (v0,v1)) z.1 z.2) (List.range l.2.2.toNat) (fun q s=>((q:Int),s)) (fun s y=>s++[((x:Int),((y:Nat):Int))]) (fun s=>L ((x+1:Nat):Int) s) (fun q s=>s.length≤x*64+q)
  (fun L9 q s hq hi=>by
   simp only[ArR] at hq;simp only[Ar0];refine⟨by simp;omega,?_⟩
   unfold Qm;have h3:decide ((q:Int)<l.2.2)=true:=by simp;omega
   rw[h3,cT,JC (by simp;omega),cT,Ak (by omega)])
  (fun L9 s hi=>by
   unfold Qm;have h3:decide (((List.range l.2.2.toNat).length:Int)<l.2.2)=false:=by simp;omega
   simp only[h3,cF];rw[Ak (by omega)]) KK 0 s (by omega) (by simp[KK];omega) (by simpa using hs)
 unfold Mh;refine h.trans ?_;simp only[Aqq];rw[D1];rfl
theorem Mq {l:Lt} (hl:IsL l):Vh KK l=some (Ab l):=by
 have h1:((l.1.toNat:Nat):Int)=l.1:=by have:=hl.a1;omega
 have ha:=hl.a2;have hc:=hl.c2;have h:=AQ (X:=Int×List Vc) (body:=fun L6 z=>Mi KK l (fun c0 d0 d1=>Mh KK l c0 (fun v0 v1=>L6 (v0,v1)) KK d0 d1) (fun v0 v1=>L6 (v0,v1)) z.1 z.2) (List.range l.1.toNat) (fun q s=>((q:Int),s)) (fun s x=>s++Mp l.2.2.toNat x) (fun s=>some s) (fun q s=>s.length≤q*64)
  (fun L6 q s hq hi=>by
   simp only[ArR] at hq;simp only[Ar0];refine⟨by simp[Mp];omega,?_⟩
   unfold Mi;have h3:decide ((q:Int)<l.1)=true:=by simp;omega
   rw[h3,cT];exact Aat hl (by omega) hi)
  (fun L6 s hi=>by
   unfold Mi;have h3:decide (((List.range l.1.toNat).length:Int)<l.1)=false:=by simp;omega
   simp only[h3,cF]) KK 0 [] (by omega) (by simp[KK];omega) (by simp)
 unfold Vh AcB Vg;refine h.trans ?_;simp only[Aqq];rw[HT];rfl
structure SmM (m:Mt):Prop where
 a : -1≤m.1∧m.1≤1
 b : -1≤m.2.1∧m.2.1≤1
 c : -1≤m.2.2.1∧m.2.2.1≤1
 d : -1≤m.2.2.2∧m.2.2.2≤1
def Sv (v:Vc):Prop := -1000000≤v.1∧v.1≤1000000∧-1000000≤v.2∧v.2≤1000000
theorem OQ {a:Int} (h : -1≤a∧a≤1):a = -1∨a=0∨a=1:=by omega
theorem BB {a x:Int} (h : -1≤a∧a≤1) {B:Int} (h1 : -B≤x) (h2:x≤B) (hB:0≤B) : -B≤a*x∧a*x≤B:=by
 rcases OQ h with rfl | rfl | rfl<;>omega
def AW (m:Mt) (v:Vc):Vc:=(m.1*v.1+m.2.1*v.2,m.2.2.1*v.1+m.2.2.2*v.2)
def BH (m:Mt×Vc) (v:Vc):Vc:=((AW m.1 v).1+m.2.1,(AW m.1 v).2+m.2.2)
theorem To {m:Mt} (hm:SmM m) {v:Vc} (hv:Sv v):((w ((w (m.1*v.1))+(w (m.2.1*v.2)))),(w ((w (m.2.2.1*v.1))+(w (m.2.2.2*v.2)))))=AW m v:=by
 obtain⟨v1,v2,v3,v4⟩:=hv;obtain⟨a1,a2⟩:=BB hm.a v1 v2 (by omega)
 obtain⟨b1,b2⟩:=BB hm.b v3 v4 (by omega)
 obtain⟨c1,c2⟩:=BB hm.c v1 v2 (by omega)
 obtain⟨d1,d2⟩:=BB hm.d v3 v4 (by omega)
 rw[AD (n:=m.1*v.1) (by omega) (by omega),AD (n:=m.2.1*v.2) (by omega) (by omega),AD (n:=m.2.2.1*v.1) (by omega) (by omega),AD (n:=m.2.2.2*v.2) (by omega) (by omega),AD (by omega) (by omega),AD (by omega) (by omega)]
 rfl
theorem Fd {m:Mt} (hm:SmM m) {v:Vc} (hv:Sv v) : -2000000≤(AW m v).1∧(AW m v).1≤2000000∧-2000000≤(AW m v).2∧(AW m v).2≤2000000:=by
 obtain⟨v1,v2,v3,v4⟩:=hv;obtain⟨a1,a2⟩:=BB hm.a v1 v2 (by omega)
 obtain⟨b1,b2⟩:=BB hm.b v3 v4 (by omega)
 obtain⟨c1,c2⟩:=BB hm.c v1 v2 (by omega)
 obtain⟨d1,d2⟩:=BB hm.d v3 v4 (by omega)
 simp only[AW];omega
theorem El {m:Mt} (hm:SmM m) {v:Vc} (hv:Sv v):LY KK m v=some (AW m v):=by
 unfold LY;rw[To hm hv]
theorem Em {m:Mt} (hm:SmM m) {v:Vc} (hv:Sv v):HE KK m v=some (AW m v):=by
 unfold HE;rw[To hm hv]
theorem Tp {m:Mt×Vc} (hm:SmM m.1) {v:Vc} (hv:Sv v) (ht:Sv m.2):Agu KK m v=some (BH m v):=by
 obtain⟨b1,b2,b3,b4⟩:=Fd hm hv;obtain⟨t1,t2,t3,t4⟩:=ht;unfold Agu LX;rw[El hm hv];simp only[oB];rw[AD (by omega) (by omega),AD (by omega) (by omega)]
 rfl
theorem Kg {m:Mt×Vc} (hm:SmM m.1) {v:Vc} (hv:Sv v) (ht:Sv m.2):S8 KK m v=some (BH m v):=by
 obtain⟨b1,b2,b3,b4⟩:=Fd hm hv;obtain⟨t1,t2,t3,t4⟩:=ht;unfold S8 SZ;rw[Em hm hv];simp only[oB];rw[AD (by omega) (by omega),AD (by omega) (by omega)]
 rfl
theorem Fe {m:Mt×Vc} (hm:SmM m.1) {v:Vc} (hv:Sv v) (ht:Sv m.2):Sm (BH m v):=by
 obtain⟨b1,b2,b3,b4⟩:=Fd hm hv;obtain⟨t1,t2,t3,t4⟩:=ht;simp only[Sm,BH];omega
theorem Ahn {l:Lt} (hl:IsL l) {v:Vc} (h:v∈Ab l):Sv v:=by
 obtain⟨h1,h2,h3,h4⟩:=D3 h;obtain⟨a1,a2,c1,c2,b1,b2,ix⟩:=hl;simp only[Sv];omega
theorem Adp {v:Vc} (h:Sv v):Sm v:=by
 obtain⟨h1,h2,h3,h4⟩:=h;simp only[Sm];omega
def DE (p:Pt) (m:Mt×Vc):Bool:=(Ab p.2.1).all fun v=>atS p (BH m v)==atS p v
theorem Adq {p:Pt} (hp:IsP p) {m:Mt×Vc} (hm:SmM m.1) (ht:Sv m.2):ON KK p m=some (DE p m):=by
 unfold ON Vv;rw[Mq hp.l];simp only[oB];have h:=BA (X:=Int) (body:=fun L6 x=>Lj KK p m (Ab p.2.1) (fun v0=>L6 v0) x) (Ab p.2.1) (fun q=>(q:Int)) (fun v=>atS p (BH m v)==atS p v) (some false) (some true)
  (fun L6 q hq=>by
   have hv:=Ahn hp.l (gM hq);have:=Be hp.l;have h1:=Bb hp.l hq;have h2:=D2 hp.l;have h3:=Ll hp.l;have hq2:q<p.2.2.length:=by have:=hp.n;omega
   have h4:atS p (Ab p.2.1)[q]=p.2.2[q]:=by
    unfold atS;rw[h1];simp[List.getD,hq2]
   unfold Lj;rw[in1 hq,in0,gd hq,Kg hm hv ht,in1 hq2,gd hq2];simp only[aS,cT,oB];rw[Ado hp (Fe hm hv ht),oB,Ak (by omega),bne,h4]
   cases atS p (BH m (Ab p.2.1)[q])==p.2.2[q]<;>rfl)
  (fun L6=>by
   unfold Lj;rw[AS,cF]) KK 0 (by omega) (by have:=Be hp.l;simp[KK];omega)
 unfold QD;refine h.trans ?_;simp only[Aqq];unfold DE;cases (Ab p.2.1).all fun v=>atS p (BH m v)==atS p v<;>rfl
theorem Adr {q:Int} (h:q.natAbs≤4611686018427387904):(if (w (0-q))>q then (w (0-q)) else q)=(q.natAbs:Int):=by
 rw[AD (by omega) (by omega)]
 split<;>omega
theorem Tq (a b:Int) (h:b≠0):Int.gcd b (a.tmod b)=Int.gcd a b:=by
 simp only[Int.gcd,Ar4];rw[Atc a.natAbs,Nat.gcd_rec b.natAbs a.natAbs,Atc]
theorem IF:∀ (n:Nat) (a b:Int),b.natAbs<n→a.natAbs≤4611686018427387904→b.natAbs≤4611686018427387904→Kb KK n a b=some ((Int.gcd a b:Nat):Int)
 | 0,a,b,h,_,_=>by omega
 | n+1,a,b,h,h1,h2=>by
  show Jw KK (Kb KK n) a b=_;unfold Jw;by_cases hb:b=0
  ·subst hb;simp only[beq_self_eq_true,cT,Adr h1];simp[Int.gcd]
  ·have h3:(b != 0)=true:=by simp[hb]
   have h5:(b==0)=false:=by simp[hb]
   rw[h3,h5,cT,cF];have h4:(a.tmod b).natAbs<b.natAbs:=by rw[Ar4];exact Atd _ (by omega)
   rw[IF n b (a.tmod b) (by omega) h2 (by omega),Tq a b hb]
   rfl
theorem Vy {a b:Int} (ha:a.natAbs≤1000000) (hb:b.natAbs≤4611686018427387904):W1 KK a b=some ((Int.gcd a b:Nat):Int):=by
 show Jw KK (Kb KK 2097151) a b=_;unfold Jw;by_cases hb0:b=0
 ·subst hb0;simp only[beq_self_eq_true,cT];rw[Adr (by omega)]
  simp[Int.gcd]
 ·have h3:(b != 0)=true:=by simp[hb0]
  have h5:(b==0)=false:=by simp[hb0]
  rw[h3,h5,cT,cF];have h4:(a.tmod b).natAbs≤a.natAbs:=by rw[Ar4];exact Nat.mod_le _ _
  rw[IF _ b (a.tmod b) (by omega) hb (by omega),Tq a b hb0]
  rfl
def nx (p v:Vc):Vc:=(p.1-p.2.tdiv v.2*v.1,p.2-p.2.tdiv v.2*v.2)
def euS:Nat→Vc→Vc→Vc×Int
 | 0,p,v=>(p,v.1)
 | n+1,p,v=>if v.2=0 then (p,v.1) else euS n v (nx p v)
theorem Al8 (p v:Vc):(nx p v).2=p.2.tmod v.2:=by
 have:=Int.tmod_add_mul_tdiv p.2 v.2;simp only[nx];rw[ArE];omega
theorem JD (p v:Vc) (h:v.2≠0):(nx p v).2.natAbs<v.2.natAbs:=by
 rw[Al8,Ar4];exact Atd _ (by omega)
def Dv (p v:Vc):Nat:=p.1.natAbs*v.2.natAbs+v.1.natAbs*p.2.natAbs
theorem ApN (p v:Vc) (h:v.2≠0):Dv v (nx p v)≤Dv p v:=by
 have h1:(nx p v).2.natAbs=p.2.natAbs % v.2.natAbs:=by rw[Al8,Ar4]
 have h2:(nx p v).1.natAbs≤p.1.natAbs+p.2.natAbs / v.2.natAbs*v.1.natAbs:=by
  have:=Int.natAbs_sub_le p.1 (p.2.tdiv v.2*v.1);rw[ArX,Atf] at this;exact this
 have h3:=Nat.mod_add_div p.2.natAbs v.2.natAbs;unfold Dv;rw[h1];generalize p.1.natAbs=P at *;generalize v.1.natAbs=V at *;generalize p.2.natAbs / v.2.natAbs=k at *;generalize p.2.natAbs % v.2.natAbs=r at *;generalize v.2.natAbs=U at *;generalize p.2.natAbs=Q at *
 calc V*r+(nx p v).1.natAbs*U≤V*r+(P+k*V)*U:=Nat.add_le_add_left (Aq0 _ h2) _
  _=P*U+V*(r+U*k):=by
   rw[ArZ,Nat.mul_add];have:k*V*U=V*(U*k):=by rw[Asg k V,Nat.mul_assoc,Asg k U]
   omega
  _=P*U+V*Q:=by rw[h3]
structure Bd (B:Nat) (p v:Vc):Prop where
 bp:p.1.natAbs≤B
 bv:v.1.natAbs≤B
 d:Dv p v≤B
theorem Alp {B:Nat} {p v:Vc} (h:Bd B p v) (hv:v.2≠0):Bd B v (nx p v):=by
 have h1:=ApN p v hv;refine⟨h.bv,?_,by have:=h.d;omega⟩
 have h2:(nx p v).1.natAbs*v.2.natAbs≤Dv v (nx p v):=by unfold Dv;omega
 have h3:(nx p v).1.natAbs*1≤(nx p v).1.natAbs*v.2.natAbs:=Nat.mul_le_mul_left _ (by omega)
 have:=h.d;omega
theorem QJ {B:Nat}:∀ (n:Nat) (p v:Vc),v.2.natAbs<n→Bd B p v→(euS n p v).1.1.natAbs≤B∧(euS n p v).2.natAbs≤B
 | 0,p,v,h,_=>by omega
 | n+1,p,v,h,hb=>by
  simp only[euS];split
  ·exact⟨hb.bp,hb.bv⟩
  ·rename_i hv;exact QJ n v (nx p v) (by have:=JD p v hv;omega) (Alp hb hv)
theorem Aho {p v:Vc} (h:Bd 36028797018963968 p v) (hp:p.2.natAbs≤1000000) (hv0:v.2≠0) (hv:v.2.natAbs≤1000000) :
  w (p.1-(w ((w (p.2.tdiv v.2))*v.1)))=(nx p v).1∧w (p.2-(w ((w (p.2.tdiv v.2))*v.2)))=(nx p v).2∧w (p.1+w (w (0-(w (p.2.tdiv v.2)))*v.1))=(nx p v).1∧w (p.2+w (w (0-(w (p.2.tdiv v.2)))*v.2))=(nx p v).2:=by
 have k1:(p.2.tdiv v.2).natAbs≤p.2.natAbs:=by rw[Atf];exact Nat.div_le_self _ _
 have k2:(p.2.tdiv v.2*v.1).natAbs≤Dv p v:=by
  rw[ArX];have:=Aq0 v.1.natAbs k1;unfold Dv;rw[Asg v.1.natAbs];omega
 have k3:(p.2.tdiv v.2*v.2).natAbs≤p.2.natAbs:=by
  rw[ArX,Atf];exact Nat.div_mul_le_self _ _
 have e1 : -p.2.tdiv v.2*v.1 = -(p.2.tdiv v.2*v.1):=Ast _ _;have e2 : -p.2.tdiv v.2*v.2 = -(p.2.tdiv v.2*v.2):=Ast _ _;obtain⟨b1,b2,b3⟩:=h;rw[AD (n:=p.2.tdiv v.2) (by omega) (by omega),AD (n:=p.2.tdiv v.2*v.1) (by omega) (by omega),AD (n:=p.2.tdiv v.2*v.2) (by omega) (by omega),AD (n:=0-p.2.tdiv v.2) (by omega) (by omega),Int.zero_sub,e1,e2,
  AD (n := -(p.2.tdiv v.2*v.1)) (by omega) (by omega),AD (n := -(p.2.tdiv v.2*v.2)) (by omega) (by omega)]
 simp only[nx];refine⟨AD (by omega) (by omega),AD (by omega) (by omega),?_,?_⟩
 ·rw[AD (by omega) (by omega)];omega
 ·rw[AD (by omega) (by omega)];omega
theorem Tr (a:Int):∀ (n:Nat) (p v p' v':Vc),p.2=p'.2→v.2=v'.2→a ∣ p.1-p'.1→a ∣ v.1-v'.1 →
  (euS n p v).1.2=(euS n p' v').1.2∧a ∣ (euS n p v).1.1-(euS n p' v').1.1∧a ∣ (euS n p v).2-(euS n p' v').2
 | 0,p,v,p',v',h1,h2,h3,h4=>⟨h1,h3,h4⟩
 | n+1,p,v,p',v',h1,h2,h3,h4=>by
  simp only[euS,← h2];split
  ·exact⟨h1,h3,h4⟩
  ·refine Tr a n v (nx p v) v' (nx p' v') h2 ?_ h4 ?_
   ·simp only[nx,← h1,← h2]
   ·simp only[nx,← h1,← h2];obtain⟨s,hs⟩:=h3;obtain⟨t,ht⟩:=h4;refine⟨s-p.2.tdiv v.2*t,?_⟩;rw[Ath,← hs,show a*(p.2.tdiv v.2*t)=p.2.tdiv v.2*(a*t) by rw[← AsG,ArE a,AsG],← ht,Ath]
    omega
def Clo (S:Vc→Prop):Prop:=∀ u v:Vc,∀ k:Int,S u→S v→S (u.1+k*v.1,u.2+k*v.2)
theorem Ads {S:Vc→Prop} (hS:Clo S):∀ (n:Nat) (p v:Vc),v.2.natAbs<n→S p→S v→S (euS n p v).1∧S ((euS n p v).2,0)
 | 0,p,v,h,_,_=>by omega
 | n+1,p,v,h,hp,hv=>by
  simp only[euS];split
  ·rename_i h0;refine⟨hp,?_⟩;have:v=(v.1,0):=by rw[← h0]
   rwa [this] at hv
  ·rename_i h0;refine Ads hS n v (nx p v) (by have:=JD p v h0;omega) hv ?_
   have:=hS p v (-(p.2.tdiv v.2)) hp hv;rw[Ast,Ast] at this;exact this
theorem YN {S:Vc→Prop} (hS:Clo S):∀ (n:Nat) (p v:Vc),v.2.natAbs<n→S (euS n p v).1→S ((euS n p v).2,0)→S p∧S v
 | 0,p,v,h,_,_=>by omega
 | n+1,p,v,h,h1,h2=>by
  simp only[euS] at h1 h2;split at h1
  ·rename_i h0;rw[if_pos h0] at h2;have:v=(v.1,0):=by rw[← h0]
   exact⟨h1,by rw[this];exact h2⟩
  ·rename_i h0;rw[if_neg h0] at h2;obtain⟨h3,h4⟩:=YN hS n v (nx p v) (by have:=JD p v h0;omega) h1 h2
   refine⟨?_,h3⟩;have:=hS (nx p v) v (p.2.tdiv v.2) h4 h3;simp only[nx,Int.sub_add_cancel] at this;exact this
theorem YO:∀ (n:Nat) (p v:Vc),v.2.natAbs<n→((euS n p v).2*(euS n p v).1.2).natAbs=(p.1*v.2-v.1*p.2).natAbs
 | 0,p,v,h=>by omega
 | n+1,p,v,h=>by
  simp only[euS];split
  ·rename_i h0;show (v.1*p.2).natAbs=_;rw[h0,AsT,Int.zero_sub,Int.natAbs_neg]
  ·rename_i h0;rw[YO n v (nx p v) (by have:=JD p v h0;omega)]
   have e:v.1*(nx p v).2-(nx p v).1*v.2 = -(p.1*v.2-v.1*p.2):=by
    simp only[nx,Ath,As1];have:v.1*(p.2.tdiv v.2*v.2)=p.2.tdiv v.2*v.1*v.2:=by rw[← AsG,ArE v.1]
    omega
   rw[e,Int.natAbs_neg]
theorem QK:∀ (n:Nat) (p v:Vc),v.2.natAbs<n→(euS n p v).1.2.natAbs=Nat.gcd p.2.natAbs v.2.natAbs
 | 0,p,v,h=>by omega
 | n+1,p,v,h=>by
  simp only[euS];split
  ·rename_i h0;simp[h0]
  ·rename_i h0;rw[QK n v (nx p v) (by have:=JD p v h0;omega),Al8,Ar4,Atc p.2.natAbs,Nat.gcd_rec v.2.natAbs p.2.natAbs,Atc]
noncomputable def Alq (a:Int) (q:Int) (L:Int→Int→Int→Int→Option Lt) (r:Vc×Int):Option Lt :=
 (W1 KK a r.2).bind fun y20=>(bif (decide (y20>(0:Int))) then (HB KK r.1.1 y20).bind fun y21=>L y20 (w (q+(1:Int))) y21 r.1.2 else L y20 (w (q+(1:Int))) r.1.1 r.1.2)
theorem YP (l:List Vc) (a q:Int) (L:Int→Int→Int→Int→Option Lt):∀ (n:Nat) (p v:Vc),v.2.natAbs<n→Bd 36028797018963968 p v→p.2.natAbs≤1000000→v.2.natAbs≤1000000 →
  EI KK l a q L n p.1 p.2 v.1 v.2=Alq a q L (euS n p v)
 | 0,p,v,h,_,_,_=>by omega
 | n+1,p,v,h,hb,hp,hv=>by
  have e:EI KK l a q L (n+1) p.1 p.2 v.1 v.2=LZ KK l a q L (fun v0 v1 v2 v3=>EI KK l a q L n v0 v1 v2 v3) p.1 p.2 v.1 v.2:=rfl;rw[e];unfold LZ
  dsimp only
  by_cases h0:v.2=0
  ·have h1:(v.2 != 0)=false:=by simp[h0]
   rw[h1,cF];simp only[euS,h0,if_true];rfl
  ·have h1:(v.2 != 0)=true:=by simp[h0]
   obtain⟨c1,c2,c3,c4⟩:=Aho hb hp h0 hv;have h2:=JD p v h0;rw[h1,cT,cT,c1,c2,YP l a q L n v (nx p v) (by omega) (Alp hb h0) hv (by omega)]
   simp only[euS,if_neg h0]
abbrev Hs:=Int×Vc
def gI (a x:Int):Int:=((Int.gcd a x:Nat):Int)
def stI (s:Hs) (t:Vc):Hs:=(gI s.1 (euS KK s.2 t).2,(euS KK s.2 t).1)
def stR (s:Hs) (t:Vc):Hs:=(gI s.1 (euS KK s.2 t).2,((if gI s.1 (euS KK s.2 t).2>0 then (euS KK s.2 t).1.1 % gI s.1 (euS KK s.2 t).2 else (euS KK s.2 t).1.1),(euS KK s.2 t).1.2))
structure Oks (s:Hs) (t:Vc):Prop where
 bd:Bd 36028797018963968 s.2 t
 y:s.2.2.natAbs≤1000000
 ty:t.2.natAbs≤1000000
 a:s.1.natAbs≤1000000
 g:gI s.1 (euS KK s.2 t).2≤1000000
def HU (s:Hs):Lt:=(s.1,(if s.1>0 then (if s.2.2<0 then -s.2.1 else s.2.1) % s.1 else (if s.2.2<0 then -s.2.1 else s.2.1)),(if s.2.2<0 then -s.2.2 else s.2.2))
theorem QL (a x:Int):0≤gI a x:=by unfold gI;omega
theorem FO {n:Nat} (h:n≤1000000):n<KK:=by simp only[KK];omega
theorem Alr {n:Nat} (h:n≤1048576):n<KK:=by simp only[KK];omega
theorem Vz (l:List Vc) (hl:l.length≤1000000) (inv:Nat→Hs→Prop) (h0:inv 0 (0,0,0)) (h1:∀ q s (hq:q<l.length),inv q s→Oks s l[q]∧inv (q+1) (stR s l[q]))
  (h2:∀ s,inv l.length s→s.1≤1000000∧s.2.1.natAbs≤36028797018963968∧s.2.2.natAbs≤36028797018963968):Od KK l=some (HU (l.foldl stR (0,0,0))):=by
 have h:=AQ (X:=Int×Int×Int×Int) (body:=fun L x=>Gk KK l (fun c0 c1 d0 d1 d2 d3=>EI KK l c0 c1 (fun v0 v1 v2 v3=>L (v0,v1,v2,v3)) KK d0 d1 d2 d3) (fun v0 v1 v2 v3=>L (v0,v1,v2,v3)) x.1 x.2.1 x.2.2.1 x.2.2.2) l (fun q s=>(s.1,(q:Int),s.2.1,s.2.2)) stR (fun s=>some (HU s)) inv
  (fun L q s hq hi=>by
   obtain⟨ok,hn⟩:=h1 q s hq hi;refine⟨hn,?_⟩;have hy:=FO ok.ty;have hbd:=QJ KK s.2 l[q] hy ok.bd;unfold Gk;simp only;rw[in1 hq,in0,gd hq,YP l s.1 q _ KK s.2 l[q] hy ok.bd ok.y ok.ty];simp only[aS,cT];unfold Alq;rw[Vy ok.a (by have:=hbd.2;omega),oB,Ak (by omega)]
   show (bif decide (gI s.1 (euS KK s.2 l[q]).2>0) then _ else _)=_;unfold stR;by_cases hg:gI s.1 (euS KK s.2 l[q]).2>0
   ·rw[dT hg,cT];show (HB KK (euS KK s.2 l[q]).1.1 (gI s.1 (euS KK s.2 l[q]).2)).bind _=_;rw[EM (by omega) ok.g]
    simp only[oB,if_pos hg];rfl
   ·rw[dF hg,cF];simp only[if_neg hg];rfl)
  (fun L s hi=>by
   obtain⟨e1,e2,e3⟩:=h2 s hi;unfold Gk AbS;simp only;rw[AS,cF];unfold HU;by_cases hy:s.2.2<0
   ·rw[dT hy,cT,oB,AD (n := -1*s.2.1) (by omega) (by omega),AD (n := -1*s.2.2) (by omega) (by omega)]
    simp only[if_pos hy];have e4 : -1*s.2.1 = -s.2.1:=by omega
    have e5 : -1*s.2.2 = -s.2.2:=by omega
    rw[e4,e5];by_cases ha:s.1>0
    ·rw[dT ha,cT,EM (by omega) e1,if_pos ha];rfl
    ·rw[dF ha,cF,if_neg ha]
   ·rw[dF hy,cF];simp only[if_neg hy];by_cases ha:s.1>0
    ·rw[dT ha,cT,EM (by omega) e1,if_pos ha];rfl
    ·rw[dF ha,cF,if_neg ha]) KK 0 (0,0,0) (by omega) (by have:=FO hl;omega) h0
 unfold Od UR L0;refine h.trans ?_;simp only[Aqq]
theorem Adt {a x y:Int} (h:a ∣ x-y):Int.gcd a x=Int.gcd a y:=by
 obtain⟨k,hk⟩:=h;have:x=y+a*k:=by omega
 subst this;simp
theorem Ha {a x y:Int} (h:a ∣ x-y):x % a=y % a :=
 Int.emod_eq_emod_iff_emod_sub_eq_zero.mpr (Int.emod_eq_zero_of_dvd h)
structure Rl (s r:Hs):Prop where
 a:s.1=r.1
 p:0≤s.1
 y:s.2.2=r.2.2
 x:s.1 ∣ s.2.1-r.2.1
theorem Ahp {s r:Hs} (h:Rl s r) (t:Vc):Rl (stI s t) (stR r t):=by
 obtain⟨c1,c2,c3⟩:=Tr s.1 KK s.2 t r.2 t h.y rfl h.x (by simp)
 have hg:gI s.1 (euS KK s.2 t).2=gI r.1 (euS KK r.2 t).2:=by
  unfold gI;rw[Adt c3,h.a]
 have hd:gI s.1 (euS KK s.2 t).2 ∣ s.1:=by unfold gI;exact Int.gcd_dvd_left ..
 refine⟨hg,QL _ _,c1,?_⟩;have h1:=Int.dvd_trans hd c2;show gI s.1 (euS KK s.2 t).2 ∣ (euS KK s.2 t).1.1-(stR r t).2.1;unfold stR;simp only[← hg];split
 ·have e:(euS KK s.2 t).1.1-(euS KK r.2 t).1.1 % gI s.1 (euS KK s.2 t).2=((euS KK s.2 t).1.1-(euS KK r.2 t).1.1)+((euS KK r.2 t).1.1-(euS KK r.2 t).1.1 % gI s.1 (euS KK s.2 t).2):=by omega
  rw[e];exact Int.dvd_add h1 (Int.dvd_self_sub_emod)
 ·exact h1
theorem YQ:∀ (l:List Vc) {s r:Hs},Rl s r→Rl (l.foldl stI s) (l.foldl stR r)
 | [],_,_,h=>h
 | t :: l,_,_,h=>YQ l (Ahp h t)
theorem Al9 {s r:Hs} (h:Rl s r):HU s=HU r:=by
 unfold HU;rw[← h.a,← h.y];have hx:=h.x;congr 2;split
 ·split
  ·apply Ha
   have e : -s.2.1 - -r.2.1 = -(s.2.1-r.2.1):=by omega
   rw[e];exact Int.dvd_neg.mpr hx
  ·exact Ha hx
 ·have h0:s.1=0:=by have:=h.p;omega
  rw[h0,Int.zero_dvd] at hx;have:s.2.1=r.2.1:=by omega
  rw[this]
def Gd (Y X:Nat):Prop:=(Y≤64∧X≤64)∨(Y≤32∧X≤8192)∨(Y≤16∧X≤1048576)∨(Y≤8∧X≤134217728)∨(Y≤4∧X≤17179869184)∨(Y≤2∧X≤2199023255552)∨(Y≤1∧X≤281474976710656)
structure Bx (t:Vc):Prop where
 x1:0≤t.1
 x2:t.1≤64
 y1:0≤t.2
 y2:t.2≤64
structure Pp (p:Vc):Prop where
 y:0≤p.2
 z:p.2=0→p=(0,0)
 g:1≤p.2→Gd p.2.natAbs p.1.natAbs
theorem AoX (n:Nat) {p v:Vc} (h:v.2=0):euS (n+1) p v=(p,v.1):=by
 simp only[euS,h,if_true]
theorem Adu {p v:Vc} (h:v.2=0):euS KK p v=(p,v.1):=AoX 2097151 h
structure Iv (l:Lt) (q:Nat) (s:Hs):Prop where
 z:q=0→s=(0,0,0)
 a:1≤q→1≤s.1∧s.1≤l.1
 o:q=1→s.2.2=0
 y:2≤q→1≤s.2.2∧s.2.2≤l.2.2
 p:Pp s.2
theorem AoY {a x:Int} (h:1≤a):1≤gI a x∧gI a x≤a:=by
 have h1:0<Int.gcd a x:=Int.gcd_pos_of_ne_zero_left _ (by omega)
 have h2:gI a x ∣ a:=by unfold gI;exact Int.gcd_dvd_left ..
 have h3:=Int.le_of_dvd (by omega) h2
 unfold gI at *;omega
theorem OR {α S:Type} (f:S→α→S) (P:Nat→S→Prop):∀ (l:List α) (q:Nat) (s:S),P q s→(∀ i s (h:i<l.length),P (q+i) s→P (q+i+1) (f s l[i]))→P (q+l.length) (l.foldl f s)
 | [],q,s,h,_=>h
 | a :: l,q,s,h,hs=>by
  rw[Aq8];have:=OR f P l (q+1) (f s a) (hs 0 s (by simp) h) (fun i s' hi hP=>by
   have:=hs (i+1) s' (by simp;omega) (by rw[show q+(i+1)=q+1+i by omega];exact hP)
   rw[show q+(i+1)+1=q+1+i+1 by omega] at this
   simpa using this)
  rw[Aq3,show q+(l.length+1)=q+1+l.length by omega]
  exact this
def ApO (l:List Vc):Lt:=HU (l.foldl stI (0,0,0))
abbrev Un:Mt:=(1,0,0,1)
def AoZ (p:Pt):List Vc:=(Ab p.2.1).filter fun t=>DE p (Un,t)
def Ao0 (p:Pt):Lt:=ApO ((p.2.1.1,0) :: (p.2.1.2.1,p.2.1.2.2) :: AoZ p)
def onS (p:Pt) (l:Lt):Pt:=(p.1,l,(Ab l).map (atS p))
def Ap0 (p:Pt):Pt:=onS p (Ao0 p)
def InL (l:Lt) (v:Vc):Prop:=∃ i j:Int,v=(i*l.1+j*l.2.1,j*l.2.2)
theorem Lm (l:Lt):Clo (InL l):=by
 rintro u v k ⟨i,j,rfl⟩ ⟨i',j',rfl⟩
 refine⟨i+k*i',j+k*j',?_⟩;simp only[Asu,AsI,AsG];congr 1;omega
theorem EO {l:Lt} (hl:IsL l) (v:Vc):AZ l v=(0,0)↔InL l v:=by
 obtain⟨a1,a2,c1,c2,b1,b2,ix⟩:=hl;unfold AZ;constructor
 ·intro h;simp only[As6] at h;obtain⟨h1,h2⟩:=h;obtain⟨i,hi⟩:=Ata h1;refine⟨i,v.2 / l.2.2,?_⟩;have h3:=Int.ediv_mul_cancel (Ata h2);have h4:i*l.1=l.1*i:=ArE _ _;refine Prod.ext ?_ h3.symm;simp only;omega
 ·rintro⟨i,j,rfl⟩
  simp only;have h1:j*l.2.2 / l.2.2=j:=Int.mul_ediv_cancel _ (by omega)
  rw[h1,show i*l.1+j*l.2.1-j*l.2.1=i*l.1 by omega,Int.mul_emod_left,Int.mul_emod_left]
theorem Adv (n:Nat) {a:Vc} (h:a.2≠0):euS (n+2) (0,0) a=(a,0):=by
 have h1:nx (0,0) a=(0,0):=by simp[nx]
 simp only[euS,h,if_false,h1,if_true]
theorem QM {S:Vc→Prop} (hS:Clo S) {v:Vc} (h:S v):S (-v.1,-v.2):=by
 have:=hS v v (-2) h h;have e1:v.1 + -2*v.1 = -v.1:=by omega
 have e2:v.2 + -2*v.2 = -v.2:=by omega
 rwa [e1,e2] at this
theorem YR {S:Vc→Prop} (hS:Clo S) (x:Int):S ((x.natAbs:Int),0)↔S (x,0):=by
 rcases Int.natAbs_eq x with h | h
 ·rw[← h]
 ·constructor
  ·intro h1;have:=QM hS h1;simp only[Int.neg_zero] at this
   rwa [← h] at this
  ·intro h1;have:=QM hS h1;simp only[Int.neg_zero] at this;rw[show (x.natAbs:Int) = -x by omega]
   exact this
theorem two {a b:Vc} (ha:a.2.natAbs<1000000) (hb:b.2.natAbs<1000000) (hd:a.1*b.2-b.1*a.2≠0) :
  let s:=stI (stI (0,0,0) a) b
  0<s.1∧s.1*(s.2.2.natAbs:Int)=((a.1*b.2-b.1*a.2).natAbs:Int)∧∀ S:Vc→Prop,Clo S→((S a∧S b)↔(S (s.1,0)∧S s.2)):=by
 intro s;have hs:s=stI (stI (0,0,0) a) b:=rfl;by_cases h0:a.2=0
 ·have e1:stI (0,0,0) a=((a.1.natAbs:Int),(0,0)):=by
   simp only[stI,Adu h0,gI,Asv]
  have hb0:b.2≠0:=by
   intro h;apply hd;rw[h0,h];simp
  have e2:euS KK (0,0) b=(b,0):=Adv 2097150 hb0;have e3:s=((a.1.natAbs:Int),b):=by
   rw[hs,e1];simp only[stI,e2,gI];congr 1;simp
  rw[e3];have ea:a=(a.1,0):=by rw[← h0]
  rw[h0] at hd ⊢;simp only[AsT,Int.sub_zero] at hd ⊢;refine⟨?_,?_,?_⟩
  ·have:a.1≠0:=by rintro h;apply hd;rw[h];simp
   omega
  ·rw[ArX,ArP]
  ·intro S hS;rw[YR hS a.1,← ea]
 ·have e1:stI (0,0,0) a=(0,a):=by
   have e2:euS KK (0,0) a=(a,0):=Adv 2097150 h0;simp only[stI,e2,gI];rfl
  have e3:s=(((euS KK a b).2.natAbs:Int),(euS KK a b).1):=by
   rw[hs,e1];simp only[stI,gI,Asv]
  have hlt:=FO (n:=b.2.natAbs) (by omega)
  have hdet:=YO KK a b hlt;rw[e3];simp only;rw[ArX] at hdet;refine⟨?_,?_,?_⟩
  ·rcases Are (euS KK a b).2.natAbs with h | h
   ·rw[h,Nat.zero_mul] at hdet;omega
   ·omega
  ·rw[← hdet,ArP]
  ·intro S hS;rw[YR hS];constructor
   ·rintro⟨h1,h2⟩
    exact (Ads hS KK a b hlt h1 h2).symm
   ·rintro⟨h1,h2⟩
    exact YN hS KK a b hlt h2 h1
def Adw (a b:Vc):Int:=a.1*b.2-b.1*a.2
theorem Ahq {l:Lt} (hl:IsL l) {a b:Vc} (ha:a.2.natAbs<1000000) (hb:b.2.natAbs<1000000) (hd:(Adw a b).natAbs=l.1*l.2.2) :
  HU (stI (stI (0,0,0) a) b)=l↔InL l a∧InL l b:=by
 obtain⟨a1,a2,c1,c2,b1,b2,ix⟩:=hl;have hAC:0<l.1*l.2.2:=Int.mul_pos (by omega) (by omega)
 obtain⟨hg,hm,hS⟩:=two ha hb (by unfold Adw at hd;omega)
 have hS:=hS (InL l) (Lm l);generalize stI (stI (0,0,0) a) b=s at *;rw[show a.1*b.2-b.1*a.2=Adw a b from rfl,hd] at hm
 rw[hS];have e0:HU s=(s.1,(if s.2.2<0 then -s.2.1 else s.2.1) % s.1,(if s.2.2<0 then -s.2.2 else s.2.2)):=by
  unfold HU;rw[if_pos hg]
 rw[e0];constructor
 ·intro h;rw[ArS,ArS] at h;obtain⟨h1,h2,h3⟩:=h;simp only at h1 h2 h3;rw[h1] at h2;refine⟨⟨1,0,by rw[h1];simp⟩,?_⟩
  split at h2
  ·rename_i hn;rw[if_pos hn] at h3;have h4:=Int.emod_def (-s.2.1) l.1;refine⟨-(-s.2.1 / l.1),-1,?_⟩;have h5:l.1*(-s.2.1 / l.1)=(-s.2.1 / l.1)*l.1:=ArE _ _;rw[Ast];refine Prod.ext ?_ ?_<;>simp only<;>omega
  ·rename_i hn;rw[if_neg hn] at h3;have h4:=Int.emod_def s.2.1 l.1;refine⟨s.2.1 / l.1,1,?_⟩;have h5:l.1*(s.2.1 / l.1)=(s.2.1 / l.1)*l.1:=ArE _ _;refine Prod.ext ?_ ?_<;>simp only<;>omega
 ·rintro⟨⟨i,j,h1⟩,⟨i',j',h2⟩⟩
  have h3:s.1=i*l.1+j*l.2.1:=congrArg (fun x:Vc=>x.1) h1;have h4:(0:Int)=j*l.2.2:=congrArg (fun x:Vc=>x.2) h1;have h5:s.2.1=i'*l.1+j'*l.2.1:=congrArg (fun x:Vc=>x.1) h2;have h6:s.2.2=j'*l.2.2:=congrArg (fun x:Vc=>x.2) h2;have hj:j=0:=by
   rcases Int.mul_eq_zero.mp h4.symm with h | h
   ·exact h
   ·omega
  subst hj;rw[AsS,AsU] at h3;have hi:1≤i:=by
   rcases Int.lt_or_le i 1 with h | h
   ·have:i*l.1≤0:=Int.mul_nonpos_of_nonpos_of_nonneg (by omega) (by omega)
    omega
   ·exact h
  have h7:(s.2.2.natAbs:Int)=(j'.natAbs:Int)*l.2.2:=by
   rw[h6,ArX,ArP];congr 1;omega
  have hj':1≤(j'.natAbs:Int):=by
   rcases Int.lt_or_le (j'.natAbs:Int) 1 with h | h
   ·have:(j'.natAbs:Int)=0:=by omega
    rw[this,AsS] at h7;rw[h7,AsT] at hm;omega
   ·exact h
  have h8:i*(j'.natAbs:Int)*(l.1*l.2.2)=l.1*l.2.2:=by
   have e:i*(j'.natAbs:Int)*(l.1*l.2.2)=(i*l.1)*((j'.natAbs:Int)*l.2.2):=by ac_rfl
   rw[e,← h3,← h7,hm]
  have h9:i*(j'.natAbs:Int)=1:=by
   have:i*(j'.natAbs:Int)*(l.1*l.2.2)=1*(l.1*l.2.2):=by rw[h8,AsH]
   exact Int.eq_of_mul_eq_mul_right (by omega) this
  have hi1:i=1:=by
   have:=ArG hj' (show 0≤i by omega)
   omega
  subst hi1;rw[AsH] at h9 h3;have e1:(i'*l.1+l.2.1) % l.1=l.2.1:=by
   rw[Int.add_comm,AsV,Arx b1 b2]
  have e2:(-i'*l.1+l.2.1) % l.1=l.2.1:=by
   rw[Int.add_comm,AsV,Arx b1 b2]
  have hjc:j'=1∨j' = -1:=by omega
  rcases hjc with rfl | rfl
  ·rw[AsH] at h6 h5;have hn:¬ s.2.2<0:=by omega
   rw[if_neg hn,if_neg hn,h3,h5,h6,e1]
  ·have hn:s.2.2<0:=by omega
   have e9 : -i'*l.1 = -(i'*l.1):=Ast _ _;rw[if_pos hn,if_pos hn,h3,h5,h6,show -(i'*l.1 + -1*l.2.1) = -i'*l.1+l.2.1 by omega,e2]
   have : -(-1*l.2.2)=l.2.2:=by omega
   rw[this]
structure Bw (v:Vc):Prop where
 x:v.1.natAbs≤200
 y:v.2.natAbs≤200
theorem YS {a x:Int} {B:Nat} (h:x.natAbs≤B) (ha:a.natAbs≤B):(if a>0 then x % a else x).natAbs≤B:=by
 split
 ·rename_i h1;have h3:=ArO x (show a≠0 by omega)
  have h4:=ArC x h1;omega
 ·exact h
theorem Adx {a b:Vc} (ha:Bw a) (hb:Bw b):Od KK [a,b]=some (HU (stI (stI (0,0,0) a) b)):=by
 have hrl:=Al9 (YQ [a,b] (s:=(0,0,0)) (r:=(0,0,0)) ⟨rfl,by simp,rfl,by simp⟩)
 have hB0:Bd 200 (0,0) a:=⟨by simp,ha.x,by simp[Dv]⟩
 have hla:=FO (n:=a.2.natAbs) (by have:=ha.y;omega)
 have hlb:=FO (n:=b.2.natAbs) (by have:=hb.y;omega)
 obtain⟨k1,k2⟩:=QJ KK (0,0) a hla hB0;have k3:=QK KK (0,0) a hla;have k4:gI 0 (euS KK (0,0) a).2≤200:=by unfold gI;simp only[Asv];omega
 have s1y:(stR (0,0,0) a).2.2.natAbs≤200:=by
  show (euS KK (0,0) a).1.2.natAbs≤200;simp at k3;have:=ha.y;omega
 have s1x:(stR (0,0,0) a).2.1.natAbs≤200:=YS k1 (by have:=QL 0 (euS KK (0,0) a).2;show (gI 0 (euS KK (0,0) a).2).natAbs≤200;omega)
 have s1a:(stR (0,0,0) a).1≤200:=k4;have s1p:0≤(stR (0,0,0) a).1:=QL _ _;have hB1:Bd 80000 (stR (0,0,0) a).2 b:=by
  refine⟨by omega,by have:=hb.x;omega,?_⟩
  unfold Dv;have e1:=Ati s1x hb.y;have e2:=Ati hb.x s1y;omega
 obtain⟨m1,m2⟩:=QJ KK _ b hlb hB1;have m3:=QK KK (stR (0,0,0) a).2 b hlb;have m4:gI (stR (0,0,0) a).1 (euS KK (stR (0,0,0) a).2 b).2≤80000:=by
  rcases Int.lt_or_le (stR (0,0,0) a).1 1 with h | h
  ·have:(stR (0,0,0) a).1=0:=by omega
   rw[this];unfold gI;simp only[Asv];omega
  ·have:=AoY (x:=(euS KK (stR (0,0,0) a).2 b).2) h;omega
 have m5:=QL (stR (0,0,0) a).1 (euS KK (stR (0,0,0) a).2 b).2;have e:=Vz [a,b] (by simp) (fun q s=>s=([a,b].take q).foldl stR (0,0,0)) rfl
  (fun q s hq h=>by
   match q,hq with
   | 0,_ =>
    subst h;refine⟨⟨⟨by simp,by have:=ha.x;simp;omega,by simp[Dv]⟩,by simp,by have:=ha.y;simp;omega,by simp,?_⟩,rfl⟩
    show gI 0 (euS KK (0,0) a).2≤_;omega
   | 1,_ =>
    subst h;refine⟨⟨⟨?_,?_,?_⟩,?_,?_,?_,?_⟩,rfl⟩
    ·have:=hB1.bp;show (stR (0,0,0) a).2.1.natAbs≤_;omega
    ·have:=hB1.bv;show b.1.natAbs≤_;omega
    ·have:=hB1.d;show Dv (stR (0,0,0) a).2 b≤_;omega
    ·show (stR (0,0,0) a).2.2.natAbs≤_;omega
    ·show b.2.natAbs≤_;have:=hb.y;omega
    ·show (stR (0,0,0) a).1.natAbs≤_;omega
    ·show gI (stR (0,0,0) a).1 (euS KK (stR (0,0,0) a).2 b).2≤_;omega)
  (fun s h=>by
   subst h;have y2:(euS KK (stR (0,0,0) a).2 b).1.2.natAbs≤200:=by
    rw[m3];rcases Are b.2.natAbs with h | h
    ·rw[h,Nat.gcd_zero_right];exact s1y
    ·have:=Nat.gcd_le_right (m:=(stR (0,0,0) a).2.2.natAbs) h;have:=hb.y;omega
   refine⟨?_,?_,?_⟩
   ·show gI (stR (0,0,0) a).1 (euS KK (stR (0,0,0) a).2 b).2≤_;omega
   ·have:=YS (a:=gI (stR (0,0,0) a).1 (euS KK (stR (0,0,0) a).2 b).2) m1 (by omega)
    show (stR (stR (0,0,0) a) b).2.1.natAbs≤_;unfold stR at this ⊢;exact AqE this (by omega)
   ·show (euS KK (stR (0,0,0) a).2 b).1.2.natAbs≤_;omega)
 rw[e,← hrl];rfl
def pmQ:List Mt:=[(-1,0,0,-1),(-1,0,0,1),(0,-1,-1,0),(0,-1,1,0),(0,1,-1,0),(0,1,1,0),(1,0,0,-1),(1,0,0,1)]
def pmH:List Mt:=[(-1,-1,0,1),(-1,-1,1,0),(-1,0,0,-1),(-1,0,1,1),(0,-1,-1,0),(0,-1,1,1),(0,1,-1,-1),(0,1,1,0),(1,0,-1,-1),(1,0,0,1),(1,1,-1,0),(1,1,0,-1)]
def pmS (f:Int):List Mt:=if f=0 then pmQ else pmH
theorem Aau:Oc KK 0=some pmQ:=by kernel_rfl
theorem Aav:Oc KK 1=some pmH:=by kernel_rfl
theorem Ts:Ow KK 0=some pmQ:=by kernel_rfl
theorem Tt:Ow KK 1=some pmH:=by kernel_rfl
theorem VA {f:Int} (h1:0≤f) (h2:f≤1):Oc KK f=some (pmS f):=by
 have:f=0∨f=1:=by omega
 rcases this with rfl | rfl
 ·exact Aau
 ·exact Aav
theorem QN {f:Int} (h1:0≤f) (h2:f≤1):Ow KK f=some (pmS f):=by
 have:f=0∨f=1:=by omega
 rcases this with rfl | rfl
 ·exact Ts
 ·exact Tt
def HV (m:Mt):Int:=m.1*m.2.2.2-m.2.1*m.2.2.1
theorem Ady:∀ m∈pmQ++pmH,(-1≤m.1∧m.1≤1)∧(-1≤m.2.1∧m.2.1≤1)∧(-1≤m.2.2.1∧m.2.2.1≤1)∧(-1≤m.2.2.2∧m.2.2.2≤1)∧(HV m=1∨HV m = -1):=by decide +kernel
theorem Ff {f:Int} {m:Mt} (h:m∈pmS f):m∈pmQ++pmH:=by
 unfold pmS at h;split at h
 ·exact List.mem_append_left _ h
 ·exact List.mem_append_right _ h
theorem Ct {m:Mt} (h:m∈pmQ++pmH):SmM m:=by
 obtain⟨h1,h2,h3,h4,_⟩:=Ady m h;exact⟨h1,h2,h3,h4⟩
theorem Adz {m:Mt} (h:m∈pmQ++pmH):HV m=1∨HV m = -1:=(Ady m h).2.2.2.2
theorem QO (f:Int):(pmS f).length≤12:=by
 unfold pmS;split<;>decide
def CM (l:Lt) (m:Mt):Bool:=(AZ l (AW m (l.1,0))==(0,0))&&(AZ l (AW m l.2)==(0,0))
theorem Tu {l:Lt} (hl:IsL l):Sv (l.1,0)∧Sv l.2:=by
 obtain⟨a1,a2,c1,c2,b1,b2,ix⟩:=hl;simp only[Sv];omega
theorem VB {l:Lt} (hl:IsL l) {m:Mt} (hm:SmM m):Bw (AW m (l.1,0))∧Bw (AW m l.2):=by
 obtain⟨a1,a2,c1,c2,b1,b2,ix⟩:=hl;have p1:=BB hm.a (x:=l.1) (B:=64) (by omega) (by omega) (by omega)
 have p2:=BB hm.c (x:=l.1) (B:=64) (by omega) (by omega) (by omega)
 have p3:=BB hm.a (x:=l.2.1) (B:=64) (by omega) (by omega) (by omega)
 have p4:=BB hm.b (x:=l.2.2) (B:=64) (by omega) (by omega) (by omega)
 have p5:=BB hm.c (x:=l.2.1) (B:=64) (by omega) (by omega) (by omega)
 have p6:=BB hm.d (x:=l.2.2) (B:=64) (by omega) (by omega) (by omega)
 simp only[AW,AsT,AsU];exact⟨⟨by simp only;omega,by simp only;omega⟩,⟨by simp only;omega,by simp only;omega⟩⟩
theorem Ahr (l:Lt) (m:Mt):Adw (AW m (l.1,0)) (AW m l.2)=HV m*(l.1*l.2.2):=by
 simp only[Adw,AW,HV,AsT,AsU,AsI,Asu,As1];have e1:m.1*l.1*(m.2.2.1*l.2.1)=m.1*l.2.1*(m.2.2.1*l.1):=by ac_rfl
 have e2:m.1*m.2.2.2*(l.1*l.2.2)=m.1*l.1*(m.2.2.2*l.2.2):=by ac_rfl
 have e3:m.2.1*m.2.2.1*(l.1*l.2.2)=m.2.1*l.2.2*(m.2.2.1*l.1):=by ac_rfl
 omega
theorem Tv {l:Lt} (hl:IsL l) {m:Mt} (hm:m∈pmQ++pmH):HU (stI (stI (0,0,0) (AW m (l.1,0))) (AW m l.2))=l↔CM l m=true:=by
 obtain⟨b1,b2⟩:=VB hl (Ct hm);rw[Ahq hl (by have:=b1.y;omega) (by have:=b2.y;omega) ?_]
 ·unfold CM;rw[aT,beq_iff_eq,beq_iff_eq,EO hl,EO hl]
 ·rw[Ahr];have h0:0<l.1*l.2.2:=Int.mul_pos (by have:=hl.a1;omega) (by have:=hl.c1;omega)
  rcases Adz hm with h | h<;>rw[h]<;>omega
theorem Kh {l:Lt} (hl:IsL l) {m:Mt} (hm:SmM m):Sn KK m l=some (HU (stI (stI (0,0,0) (AW m (l.1,0))) (AW m l.2))):=by
 unfold Sn AbQ;simp only[oB];have e1:([(l.1,(0:Int)),l.2].getD ((0:Int)+(0:Int)).toNat ((0:Int),(0:Int)))=(l.1,0):=rfl;have e2:([(l.1,(0:Int)),l.2].getD ((0:Int)+(1:Int)).toNat ((0:Int),(0:Int)))=l.2:=rfl;obtain⟨s1,s2⟩:=Tu hl;obtain⟨b1,b2⟩:=VB hl hm;rw[e1,e2,El hm s1,El hm s2];simp only[oB];rw[Adx b1 b2];rfl
def Ba (f:Int) (l:Lt):List Mt:=(pmS f).filter (CM l)
theorem QP {f:Int} (h1:0≤f) (h2:f≤1) {l:Lt} (hl:IsL l):So KK f l=some (Ba f l):=by
 unfold So US;rw[VA h1 h2];simp only[oB];have hc:=QO f;have h:=AQ (X:=Int×List Mt) (body:=fun L x=>KO KK f l (pmS f) (fun v0 v1=>L (v0,v1)) x.1 x.2) (pmS f) (fun q s=>((q:Int),s)) (fun s m=>bif CM l m then s++[m] else s) (fun s=>some s) (fun q s=>s.length≤q)
  (fun L q s hq hi=>by
   have hm:=Ff (gM hq);refine⟨?_,?_⟩
   ·cases CM l (pmS f)[q]<;>simp<;>omega
   unfold KO;simp only;rw[in1 hq,in0,gd hq];simp only[aS,cT];rw[Kh hl (m:=(pmS f)[q]) (Ct hm),oB,Al7 (by simp;omega),Ak (by omega)]
   have hst:=Tv hl hm;generalize HU (stI (stI (0,0,0) (AW (pmS f)[q] (l.1,0))) (AW (pmS f)[q] l.2))=r at *;have hr:((r.1==l.1)&&((r.2.1==l.2.1)&&(r.2.2==l.2.2)))=CM l (pmS f)[q]:=by
    rw[Arz,← hst];simp only[aT,beq_iff_eq];rw[ArS,ArS]
   rw[hr];cases CM l (pmS f)[q]<;>rfl)
  (fun L s hi=>by
   unfold KO;simp only;rw[AS,cF]) KK 0 [] (by omega) (by have:=FO (n:=(pmS f).length) (by omega);omega) (by simp)
 unfold PX;refine h.trans ?_;simp only[Aqq];have:=DO (CM l) (fun t:Mt=>t) (pmS f) [];rw[List.map_id',AqM] at this;exact congrArg some this
theorem AdA {l:Lt} (hl:IsL l) {v:Vc} (hv:Sm v):ST KK l v=some (AZ l v==(0,0)):=by
 unfold ST;rw[CU hl hv];rfl
theorem Als {v:Vc} (h:Bw v):Sm v:=by
 obtain⟨h1,h2⟩:=h;simp only[Sm];omega
theorem Aaw {l:Lt} (hl:IsL l) {m:Mt} (hm:SmM m):XE KK m l (l.1,0) l.2=some (!CM l m):=by
 obtain⟨s1,s2⟩:=Tu hl;obtain⟨b1,b2⟩:=VB hl hm;unfold XE;rw[Em hm s1,Em hm s2];simp only[oB,oT,tO,cT];rw[AdA hl (Als b1)];simp only[oB];unfold CM;cases h:(AZ l (AW m (l.1,0))==(0,0))
 ·rfl
 ·simp only[nT,nF,cT,oB,AqK,cF];rw[AdA hl (Als b2)];rfl
def CK {α:Type} (p:α→Bool):Nat→List α→Int
 | _,[] => -1
 | q,a :: l=>bif p a then (q:Int) else CK p (q+1) l
theorem Dn {R α:Type} {body:(Int→Option R)→Int→Option R} (l:List α) (p:α→Bool) (fin:Int→Option R)
  (h1:∀ L q (hq:q<l.length),body L (q:Int)=bif p l[q] then fin (q:Int) else L ((q+1:Nat):Int))
  (h2:∀ L,body L (l.length:Int)=fin (-1)):∀ n q,q≤l.length→l.length-q<n→AH body n (q:Int)=fin (CK p q (l.drop q))
 | 0,q,_,hn=>by omega
 | n+1,q,hq,hn=>by
  show body (AH body n) (q:Int)=_;by_cases hlt:q<l.length
  ·rw[h1 _ q hlt,Dn l p fin h1 h2 n (q+1) hlt (by omega),dC hlt]
   simp only[CK];cases p l[q]<;>simp
  ·have:q=l.length:=by omega
   subst this;rw[h2,Ash];rfl
theorem Dd {α:Type} (p:α→Bool):∀ (l:List α) (q:Nat),(CK p q l = -1∧∀ a∈l,p a=false)∨(∃ k,k<l.length∧CK p q l=((q+k:Nat):Int)∧(∀ a∈l.take k,p a=false)∧∃ a,l[k]? = some a∧p a=true)
 | [],q=>Or.inl ⟨rfl,by simp⟩
 | a :: l,q=>by
  simp only[CK];cases h:p a
  ·rcases Dd p l (q+1) with ⟨h1,h2⟩ | ⟨k,h1,h2,h3,b,h4,h5⟩
   ·left;refine⟨by simpa using h1,?_⟩
    intro b hb;rcases AqA.mp hb with rfl | hb
    ·exact h
    ·exact h2 b hb
   ·right;refine⟨k+1,by simp;omega,by simp[h2];omega,?_,b,by simpa using h4,h5⟩
    intro c hc;rw[Asm] at hc;rcases AqA.mp hc with rfl | hc
    ·exact h
    ·exact h3 c hc
  ·right;exact⟨0,by simp,by simp,by simp,a,by simp,h⟩
theorem Gw {α:Type} {p:α→Bool} {l:List α} (h:∀ a∈l,p a=false):l.filter (fun a=>!p a)=l :=
 List.filter_eq_self.mpr fun a ha=>by simp[h a ha]
abbrev Ds:=Nat×List Mt
def AdB (p:Mt→Bool) (s:Ds) (a:Mt):Ds:=bif p a then s else (s.1+1,s.2.set s.1 a)
structure Dv2 (p:Mt→Bool) (l:List Mt) (q:Nat) (s:Ds):Prop where
 n:s.2.length=l.length
 i:s.1<q
 le:q≤l.length
 t:s.2.take s.1=(l.take q).filter fun a=>!p a
 d:s.2.drop q=l.drop q
theorem Tw {p:Mt→Bool} {l:List Mt} {q:Nat} {s:Ds} (h:Dv2 p l q s) (hq:q<l.length):Dv2 p l (q+1) (AdB p s l[q]):=by
 obtain⟨h1,h2,h3,h4,h5⟩:=h;have hd:s.2.drop (q+1)=l.drop (q+1):=by
  rw[← ArH,← ArH,h5]
 have ht:l.take (q+1)=l.take q++[l[q]]:=by rw[As2];simp[hq]
 unfold AdB;cases hp:p l[q]
 ·simp only[cF];refine⟨by simp[h1],by simp only;omega,hq,?_,?_⟩
  ·simp only;rw[ht,Asr,← h4,As2];congr 1
   ·rw[List.take_set_of_le (Aqr _)]
   ·rw[Asw (by omega)]
    simp[hp]
  ·simp only;rw[List.drop_set_of_lt (by omega),hd]
 ·simp only[cT];refine⟨h1,by omega,hq,?_,hd⟩
  rw[ht,Asr,← h4];simp[hp]
theorem NI (l:List Mt) (hn:l.length≤1000) (f:Mt→Option Bool) (p:Mt→Bool) (hf:∀ m∈l,f m=some (p m)) :
  SV KK l f=some (l.filter fun a=>!p a):=by
 have hidx:SU KK l f=some (CK p 0 l):=by
  have h:=Dn (R:=Int) (body:=fun L x=>KX KK l f (fun v0=>L v0) x) l p some
   (fun L q hq=>by
    unfold KX;rw[in1 hq,in0,gd hq];simp only[aS,cT];rw[show f (l[q].1,l[q].2.1,l[q].2.2)=some (p l[q]) from hf _ (gM hq),oB,Ak (by omega)])
   (fun L=>by
    unfold KX;rw[AS,cF]) KK 0 (by omega) (by have:=FO (n:=l.length) (by omega);omega)
  unfold SU U7 Qc;exact h
 unfold SV U8;rw[hidx];simp only[oB];rcases Dd p l 0 with ⟨h1,h2⟩ | ⟨k,h1,h2,h3,b,h4,h5⟩
 ·rw[h1,Gw h2];rfl
 ·rw[AqQ] at h2;have hne:((k:Int) == -1)=false:=by
   rw[bN];omega
  rw[h2,hne,cF,Ak (by omega)]
  have hb:l[k]=b:=by
   rw[Aqo h1] at h4;exact Option.some.inj h4
  have hinv:Dv2 p l (k+1) (k,l):=by
   refine⟨rfl,by simp,h1,?_,rfl⟩
   have ht:l.take (k+1)=l.take k++[l[k]]:=by rw[As2];simp[h1]
   simp only;rw[ht,Asr,Gw h3,hb];simp[h5]
  have h:=AQ (X:=Int×Int×List Mt) (body:=fun L x=>KY KK f (k:Int) (fun v0 v1 v2=>L (v0,v1,v2)) x.1 x.2.1 x.2.2) l (fun q s=>((s.1:Int),(q:Int),s.2)) (AdB p) (fun s=>some (s.2.take s.1)) (Dv2 p l)
   (fun L q s hq hi=>by
    refine⟨Tw hi hq,?_⟩;obtain⟨i1,i2,i3,i4,i5⟩:=hi;have hq2:q<s.2.length:=by omega
    have hs1:s.1<s.2.length:=by omega
    have hg:s.2[q]=l[q]:=by
     have h6:(s.2.drop q)[0]? = (l.drop q)[0]?:=by rw[i5]
     simpa[hq,hq2] using h6
    unfold KY;simp only;rw[in1 hq2,in0,gd hq2,hg];simp only[aS,cT];rw[show f (l[q].1,l[q].2.1,l[q].2.2)=some (p l[q]) from hf _ (gM hq),oB,Ak (by omega),Ak (by omega)]
    unfold AdB;cases p l[q]
    ·simp only[nF,cT,cF];rw[in1 hs1,in0];have hz:((0:Int)+(s.1:Int)).toNat=s.1:=by omega
     rw[hz];rfl
    ·rfl)
   (fun L s hi=>by
    obtain⟨i1,i2,i3,i4,i5⟩:=hi;unfold KY;simp only;have ho:decide ((l.length:Int)<(s.2.length:Int))=false:=by simp;omega
    have hz:((0:Int)+(s.1:Int)).toNat=s.1:=by omega
    have hz2:(((0:Int)+(s.1:Int))+(((0:Int)+(s.2.length:Int))-((0:Int)+(s.1:Int)))).toNat=s.2.length:=by omega
    have hc:(clr s.2 s.1 s.2.length ((0:Int),((0:Int),((0:Int),(0:Int))))).length=s.2.length:=by
     unfold clr;simp;omega
    have hct:(clr s.2 s.1 s.2.length ((0:Int),((0:Int),((0:Int),(0:Int))))).take s.1=s.2.take s.1:=by
     unfold clr;rw[Aqv,Arc (by simp;omega),AsW,Nat.min_self]
    rw[ho,cF,hz,hz2,hc,hct,in0];have d1:decide ((s.1:Int)≤(s.2.length:Int))=true:=by simp;omega
    rw[d1];simp) KK (k+1) (k,l) h1 (by have:=FO (n:=l.length) (by omega);omega) hinv
  unfold Qd;refine h.trans ?_;have hf:=OR (AdB p) (fun q s=>Dv2 p l q s) (l.drop (k+1)) (k+1) (k,l) hinv (fun i s hi hP=>by
   have hlt:k+1+i<l.length:=by simp at hi;omega
   have:=Tw hP hlt;simpa using this)
  have hend:k+1+(l.drop (k+1)).length=l.length:=by simp;omega
  rw[hend] at hf;have:=hf.t;rw[Aru] at this;exact congrArg some this
theorem Mr {f:Int} (h1:0≤f) (h2:f≤1) {l:Lt} (hl:IsL l):XJ KK f l=some (Ba f l):=by
 unfold XJ Aco;rw[QN h1 h2];simp only[oB];rw[NI (pmS f) (by have:=QO f;omega) _ (fun m=>!CM l m) (fun m hm=>Aaw hl (Ct (Ff hm))),oB]
 unfold Ba;simp only[Bool.not_not]
abbrev Mo:=Mt×Vc
def ApP (p:Pt) (m:Mt):List Mo:=((Ab p.2.1).filter fun t=>DE p (m,t)).map fun t=>(m,t)
def ApQ (p:Pt):List Mo:=(Ba p.1 p.2.1).flatMap (ApP p)
theorem Ms {f:Int} {l:Lt} {m:Mt} (h:m∈Ba f l):m∈pmQ++pmH:=Ff (AqR.mp h).1
theorem Tx (f:Int) (l:Lt):(Ba f l).length≤12:=AqE (Arr _ _) (QO f)
theorem Ki {α β:Type} (f:α→List β) (B:Nat) (hf:∀ a,(f a).length≤B):∀ l:List α,(l.flatMap f).length≤l.length*B
 | []=>by simp
 | a :: l=>by
  rw[List.flatMap_cons,lA,Aq3,ArZ];have:=Ki f B hf l;have:=hf a;omega
def dv (a b:Int):Int:=if b=0 then 0 else a / b
def Aqg (m:Mt):Mt:=(-m.1,-m.2.1,-m.2.2.1,-m.2.2.2)
def le3 (x:Int):Bool:=decide (-3≤x)&&decide (x≤3)
def Aqh (k:Nat) (v:Vc):Vc:=((k:Int)*v.1,(k:Int)*v.2)
theorem Tz (a b c:Int):Gi KK a b c=some (decide (b≤a∧a≤c)):=by
 unfold Gi
 try simp only[oT,tO,cT]
 by_cases h:b≤a<;>simp[h]
theorem DU (a b c:Int):HD KK a b c=some (decide (b≤a∧a≤c)):=by
 unfold HD
 try simp only[oT,tO,cT]
 by_cases h:b≤a<;>simp[h]
def okL (l:Lt):Bool:=decide (1≤l.1∧l.1≤64)&&decide (1≤l.2.2∧l.2.2≤64)&&decide (0≤l.2.1∧l.2.1≤l.1-1)&&decide (l.1*l.2.2≤64)
theorem Cn {l:Lt}:okL l=true↔IsL l:=by
 unfold okL;simp only[aT,dE];constructor
 ·rintro⟨⟨⟨⟨a1,a2⟩,c1,c2⟩,b1,b2⟩,ix⟩
  exact⟨a1,a2,c1,c2,b1,by omega,ix⟩
 ·rintro⟨a1,a2,c1,c2,b1,b2,ix⟩
  exact⟨⟨⟨⟨a1,a2⟩,c1,c2⟩,b1,by omega⟩,ix⟩
theorem YT {a c:Int} (h1:1≤a) (h2:a≤64) (h3:1≤c) (h4:c≤64):0≤a*c∧a*c≤4096:=by
 have e1:0≤a*c:=ArW (by omega) (by omega)
 have e2:a*c≤64*c:=Arn h2 (by omega)
 omega
theorem JE (l:Lt):WV KK l=some (okL l):=by
 unfold WV okL;simp only[Tz,oB,oT,tO,cT];by_cases h1:1≤l.1∧l.1≤64
 ·by_cases h2:1≤l.2.2∧l.2.2≤64
  ·have:=YT h1.1 h1.2 h2.1 h2.2;rw[AD (n:=l.1-1) (by omega) (by omega),AD (n:=l.1*l.2.2) (by omega) (by omega)]
   by_cases h3:0≤l.2.1∧l.2.1≤l.1-1<;>simp[h1,h2,h3]
  ·simp[h1,h2]
 ·simp[h1]
theorem IG (l:Lt):SQ KK l=some (okL l):=by
 unfold SQ Qa okL;simp only[DU,oB,oT,tO,cT];by_cases h1:1≤l.1∧l.1≤64
 ·by_cases h2:1≤l.2.2∧l.2.2≤64
  ·have:=YT h1.1 h1.2 h2.1 h2.2;rw[AD (n:=l.1-1) (by omega) (by omega),AD (n:=l.1*l.2.2) (by omega) (by omega)]
   by_cases h3:0≤l.2.1∧l.2.1≤l.1-1<;>simp[h1,h2,h3]
  ·simp[h1,h2]
 ·simp[h1]
def okF (f:Int):Bool:=decide (0≤f∧f≤1)
theorem Gx (f:Int):Se KK f=some (okF f):=by
 unfold Se okF
 try simp only[oT,tO,cT]
 by_cases h:f=0
 ·subst h;rfl
 ·by_cases h1:f=1
  ·subst h1;rfl
  ·have h2:(f==0)=false:=by simp[h]
   have h3:(f==1)=false:=by simp[h1]
   rw[h2,h3];have:¬ (0≤f∧f≤1):=by omega
   simp[this]
theorem Mu (f:Int):SP KK f=some (okF f):=by
 unfold SP;rw[DU];rfl
theorem CR (f:Int) (l:Lt):HA KK f l=some (if okF f&&okL l then 0 else 1):=by
 unfold HA;rw[Gx,JE];cases okF f<;>cases h:okL l<;>rfl
def okC (c:Int):Bool:=decide (0≤c∧c≤9)
theorem QQ {l:List Int} (hl:l.length≤1048576):SK KK l 64 0 9=some (l.all okC&&decide (l.length≤64)):=by
 have h:=BA (X:=Int) (body:=fun L x=>KT KK l 64 0 9 (fun v0=>L v0) x) l (fun q=>(q:Int)) okC (some false) (some (decide ((l.length:Int)≤64)))
  (fun L q hq=>by
   unfold KT;rw[in1 hq,in0,gd hq,Tz];simp only[aS,cT,oB];rw[Ak (by omega)]
   show (bif !okC l[q] then _ else _)=_;cases okC l[q]<;>rfl)
  (fun L=>by
   unfold KT;rw[AS,cF]) KK 0 (by omega) (by have:=Alr hl;omega)
 unfold SK U4 P7;refine h.trans ?_;simp only[Aqq];have e:decide ((l.length:Int)≤64)=decide (l.length≤64):=by
  rw[decide_eq_decide];omega
 rw[e];cases l.all okC<;>rfl
theorem QR {l:List Int} (hl:l.length≤1048576):YC KK l 0 9=some (l.all okC):=by
 unfold YC Ada Yz Vq Qy;have h:=Dn (R:=Int) (body:=fun L x=>Lh KK l (fun z1=>Yy KK z1 0 9) (fun v0=>L v0) x) l (fun c=>!okC c) some
  (fun L q hq=>by
   unfold Lh Yy;rw[in1 hq,in0,gd hq];simp only[aS,cT,DU,oB];rw[Ak (by omega)]
   rfl)
  (fun L=>by
   unfold Lh;rw[AS,cF]) KK 0 (by omega) (by have:=Alr hl;omega)
 rw[Aqq] at h;refine Eq.trans (congrArg (fun o:Option Int=>(o.bind fun y1=>some (decide (y1≥(0:Int)))).bind fun y2=>some (!y2)) h) ?_;simp only[oB,AqV];rcases Dd (fun c=>!okC c) l 0 with ⟨h1,h2⟩ | ⟨k,h1,h2,h3,b,h4,h5⟩
 ·rw[h1];have:l.all okC=true:=Aqn.mpr fun a ha=>by have:=h2 a ha;simpa using this
  rw[this];rfl
 ·rw[h2];have:l.all okC=false:=by
   rw[List.all_eq_false];refine⟨b,AqH h4,?_⟩;simpa using h5
  rw[this];simp
def okP (p:Pt):Bool:=okF p.1&&okL p.2.1&&decide ((p.2.2.length:Int)=p.2.1.1*p.2.1.2.2)&&p.2.2.all okC
theorem TA {p:Pt} (h:okP p=true):IsP p:=by
 unfold okP at h;simp only[aT,dE] at h;obtain⟨⟨⟨h1,h2⟩,h3⟩,h4⟩:=h;unfold okF at h1;rw[dE] at h1;exact⟨h1.1,h1.2,Cn.mp h2,h3⟩
theorem EP (p:Pt):SL KK p=some (okP p):=by
 unfold SL okP;rw[CR];simp only[oB,oT,tO,cT];cases h:okF p.1&&okL p.2.1
 ·simp
 ·have hl:IsL p.2.1:=Cn.mp (aT _ _▸h).2;have:=YT hl.a1 hl.a2 hl.c1 hl.c2;have hix:=hl.ix;rw[AD (n:=p.2.1.1*p.2.1.2.2) (by omega) (by omega)]
  by_cases h2:(p.2.2.length:Int)=p.2.1.1*p.2.1.2.2
  ·have h3:p.2.2.length≤64:=by omega
   rw[QQ (by omega)]
   simp[h2,h3]
  ·have h4:((p.2.2.length:Int)==p.2.1.1*p.2.1.2.2)=false:=by simp[h2]
   simp[h2,h4]
theorem Fg (p:Pt):Aam KK p=some (okP p):=by
 unfold Aam Qa okP;rw[Mu,IG];simp only[oB,oT,tO,cT];cases h0:okF p.1
 ·simp
 cases h:okL p.2.1
 ·simp
 ·have hl:IsL p.2.1:=Cn.mp h;have:=YT hl.a1 hl.a2 hl.c1 hl.c2;have hix:=hl.ix;rw[AD (n:=p.2.1.1*p.2.1.2.2) (by omega) (by omega)]
  by_cases h2:(p.2.2.length:Int)=p.2.1.1*p.2.1.2.2
  ·have h3:p.2.2.length≤64:=by omega
   rw[QR (by omega)]
   simp[h2]
  ·have h4:((p.2.2.length:Int)==p.2.1.1*p.2.1.2.2)=false:=by simp[h2]
   simp[h2,h4]
structure Cp (l:List Int) (q:Nat) (s:Nat×List Int):Prop where
 i:s.1=q
 n:s.2.length=l.length
 t:s.2.take q=l.take q
end Go.Proofs.YteheolldcpjkcaaGreat.X
