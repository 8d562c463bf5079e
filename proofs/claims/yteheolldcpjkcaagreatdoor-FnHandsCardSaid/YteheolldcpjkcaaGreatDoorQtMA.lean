/- Plain facts: numbers that do not run over, and loops that Ka through a list. -/
import Derived.Test.YteheolldcpjkcaaGreatDoorQzXLoop
import Derived.Test.YteheolldcpjkcaaGreatDoorQtD0
import Derived.Test.YteheolldcpjkcaaGreatDoorQtD1
import Derived.KernelRfl
namespace Go.Proofs.YteheolldcpjkcaaGreatDoor.X
open Go
set_option linter.unusedSimpArgs false
theorem oB {α β:Type} (a:α) (f:α→Option β):(some a).bind f=f a:=rfl
theorem cF {α:Type} (a b:α):cond false a b=b:=rfl
theorem cT {α:Type} (a b:α):cond true a b=a:=rfl
theorem dT {p:Prop} [Decidable p] (h:p):decide p=true:=decide_eq_true h
theorem dF {p:Prop} [Decidable p] (h:¬ p):decide p=false:=decide_eq_false h
theorem gM {α:Type} {l:List α} {n:Nat} (h:n<l.length):l[n]∈l:=As6 h
theorem aS (a:Bool):(a&&a)=a:=Atz a
theorem cM {α:Type} [BEq α] [LawfulBEq α] {a:α} {l:List α}:l.contains a=true↔a∈l:=AqW
theorem nT:(!true)=false:=rfl
theorem oT (b:Bool):(b||true)=true:=Bool.or_true b
theorem tO (b:Bool):(true||b)=true:=rfl
theorem nF:(!false)=true:=rfl
theorem bN {α:Type} [BEq α] [LawfulBEq α] {a b:α}:(a==b)=false↔a≠b:=beq_eq_false_iff_ne
theorem dC {α:Type} {l:List α} {n:Nat} (h:n<l.length):l.drop n=l[n] :: l.drop (n+1):=Asb h
theorem tS {α:Type} {l:List α} {n:Nat} (h:n<l.length):l.take (n+1)=l.take n++[l[n]]:=List.take_succ_eq_append_getElem h
theorem dE (p:Prop) [Decidable p]:(decide p=true)=p:=decide_eq_true_eq
theorem mS {α:Type} {a b:α}:a∈[b]↔a=b:=Asr
theorem lA {α:Type} {a b:List α}:(a++b).length=a.length+b.length:=AqS
theorem aT (a b:Bool):((a&&b)=true)=(a=true∧b=true):=AqJ a b
def KK:Nat:=2097152
theorem Ay {n:Int} (h1 : -9223372036854775808≤n) (h2:n≤9223372036854775807):w n=n:=by
 simp only[w,IntKind.wrap];simp[IntKind.signed,IntKind.bits];omega
theorem Aq {q:Nat} (h:q<4611686018427387904):w ((q:Int)+1)=((q+1:Nat):Int):=by
 rw[Ay]<;>omega
theorem gd {α:Type} {l:List α} {q:Nat} {d:α} (h:q<l.length):l.getD ((0:Int)+(q:Int)).toNat d=l[q]:=by
 have:((0:Int)+(q:Int)).toNat=q:=by omega
 rw[this];simp[List.getD,h]
theorem in1 {q n:Nat} (h:q<n):decide ((q:Int)<(n:Int))=true:=by
 simp;omega
theorem in0 {q:Nat}:decide (0≤(q:Int))=true:=by simp
theorem AY {n:Nat}:decide ((n:Int)<(n:Int))=false:=by simp
theorem DV {n:Nat} (h:n≤4000000):Nat.ble n (lim 16)=true:=by
 simp only[lim,ArW];omega
theorem Hi {n:Nat} (h:n≤4000000):Nat.ble n (lim 8)=true:=by
 simp only[lim,ArW];omega
theorem All {n:Nat} (h:n≤4000000):Nat.ble n (lim 32)=true:=by
 simp only[lim,ArW];omega
theorem E1 {n:Nat} (h:n≤1000000):Nat.ble n (lim 48)=true:=by
 simp only[lim,ArW];omega
theorem Ao {X R S α:Type} {body:(X→Option R)→X→Option R} (l:List α) (fr:Nat→S→X) (Ka:S→α→S) (fin:S→Option R) (inv:Nat→S→Prop)
  (h1:∀ L q s (hq:q<l.length),inv q s→inv (q+1) (Ka s l[q])∧body L (fr q s)=L (fr (q+1) (Ka s l[q])))
  (h2:∀ L s,inv l.length s→body L (fr l.length s)=fin s):∀ n q s,q≤l.length→l.length-q<n→inv q s→AJ body n (fr q s)=fin ((l.drop q).foldl Ka s)
 | 0,q,s,_,hn,_=>by omega
 | n+1,q,s,hq,hn,hi=>by
  show body (AJ body n) (fr q s)=_;by_cases hlt:q<l.length
  ·obtain⟨h3,h4⟩:=h1 (AJ body n) q s hlt hi;rw[h4,Ao l fr Ka fin inv h1 h2 n (q+1) _ hlt (by omega) h3,dC hlt]
   rfl
  ·have:q=l.length:=by omega
   subst this;rw[h2 _ _ hi];simp
theorem CZ {X R α:Type} {body:(X→Option R)→X→Option R} (l:List α) (fr:Nat→X) (p:α→Bool) (no fin:Option R)
  (h1:∀ L q (hq:q<l.length),body L (fr q)=bif p l[q] then L (fr (q+1)) else no)
  (h2:∀ L,body L (fr l.length)=fin):∀ n q,q≤l.length→l.length-q<n→AJ body n (fr q)=bif (l.drop q).all p then fin else no
 | 0,q,_,hn=>by omega
 | n+1,q,hq,hn=>by
  show body (AJ body n) (fr q)=_;by_cases hlt:q<l.length
  ·rw[h1 _ q hlt,CZ l fr p no fin h1 h2 n (q+1) hlt (by omega),dC hlt]
   simp only[AsR];cases p l[q]<;>simp
  ·have:q=l.length:=by omega
   subst this;rw[h2];simp
theorem Bm {α β:Type} (p:α→Bool) (g:α→β):∀ (l:List α) (s:List β),l.foldl (fun s a=>bif p a then s++[g a] else s) s=s++(l.filter p).map g
 | [],s=>by simp
 | a :: l,s=>by
  rw[Arq,Bm p g l];cases h:p a<;>simp[h]
theorem Dd {α β:Type} (g:α→β):∀ (l:List α) (s:List β),l.foldl (fun s a=>s++[g a]) s=s++l.map g
 | [],s=>by simp
 | a :: l,s=>by
  rw[Arq,Dd g l];simp
theorem DW {α β:Type} (g:α→List β):∀ (l:List α) (s:List β),l.foldl (fun s a=>s++g a) s=s++l.flatMap g
 | [],s=>by simp
 | a :: l,s=>by
  rw[Arq,DW g l];simp
abbrev Vc:=Int×Int
abbrev Mt:=Int×Int×Int×Int
abbrev Lt:=Int×Int×Int
abbrev Pt:=Int×Lt×List Int
structure IsL (l:Lt):Prop where
 a1:1≤l.1
 a2:l.1≤64
 c1:1≤l.2.2
 c2:l.2.2≤64
 b1:0≤l.2.1
 b2:l.2.1<l.1
 ix:l.1*l.2.2≤64
structure IsP (p:Pt):Prop where
 f1:0≤p.1
 f2:p.1≤1
 l:IsL p.2.1
 n:(p.2.2.length:Int)=p.2.1.1*p.2.1.2.2
theorem Lu {a n:Int} (h:1≤n):(a.tmod n<0→a % n=a.tmod n+n)∧(0≤a.tmod n→a % n=a.tmod n)∧-n<a.tmod n∧a.tmod n<n:=by
 have h0:=Int.tmod_eq_emod (a:=a) (b:=n);have h1:=Ar3 a (show n≠0 by omega)
 have h2:=ArP a (show 0<n by omega)
 have h3:(n.natAbs:Int)=n:=by omega
 split at h0<;>refine⟨?_,?_,?_,?_⟩<;>intros<;>omega
theorem EF {a n:Int} (h:1≤n) (h2:n≤1000000):He KK a n=some (a % n):=by
 obtain⟨h3,h4,h5,h6⟩:=Lu (a:=a) h;unfold He;have:(n != 0)=true:=by simp;omega
 rw[this,cT];by_cases hl:a.tmod n<0
 ·rw[h3 hl,Ay (by omega) (by omega)]
  simp[hl]
 ·rw[h4 (by omega)]
  simp[hl]
theorem P0 {a n:Int} (h:1≤n) (h2:n≤1000000):Ln KK a n=some (a % n):=by
 obtain⟨h3,h4,h5,h6⟩:=Lu (a:=a) h;unfold Ln;have:(n != 0)=true:=by simp;omega
 rw[this,cT,cT,Ay (by omega) (by omega)]
 obtain⟨h7,h8,h9,h10⟩:=Lu (a:=a.tmod n+n) h;have h11:0≤(a.tmod n+n).tmod n:=by
  have:=AsT (a:=a.tmod n+n) n (by omega)
  exact this
 rw[← h8 h11,Int.add_emod_right];congr 1;have:=Int.emod_emod_of_dvd a (Int.dvd_refl n);by_cases hl:a.tmod n<0
 ·rw[h3 hl];rw[← Int.add_emod_right,ArT (by omega) (by omega)]
 ·rw[h4 (by omega)]
  exact ArT (by omega) (by omega)
def As (l:Lt) (v:Vc):Vc:=((v.1-(v.2 / l.2.2)*l.2.1) % l.1,v.2 % l.2.2)
theorem Ze {y c:Int} (hc:1≤c) {B:Int} (hB:0≤B) (h1 : -B≤y) (h2:y≤B) : -B-1≤y / c∧y / c≤B:=by
 constructor
 ·rw[Int.le_ediv_iff_mul_le (by omega)]
  have:(-B-1)*c≤(-B-1)*1:=Int.mul_le_mul_of_nonpos_left (by omega) hc
  omega
 ·have h:=Int.ediv_le_ediv (show 0<c by omega) h2
  have h3:B / c≤B:=Int.ediv_le_self c hB;omega
theorem P1 {y c:Int} (hc:1≤c):(y-y % c).tdiv c=y / c:=by
 have h1:=AsX y c;have:y-y % c=c*(y / c):=by omega
 rw[this,Aq5,Ath _ (by omega)]
theorem Zf {a b A B:Int} (hA:0≤A) (ha1 : -A≤a) (ha2:a≤A) (hb1:0≤b) (hb2:b≤B) : -(A*B)≤a*b∧a*b≤A*B:=by
 have h1:a*b≤A*b:=Arj ha2 hb1;have h2:A*b≤A*B:=ArX hb2 hA;have h3 : -A*b≤a*b:=Arj ha1 hb1;have h4 : -A*b = -(A*b):=ArB A b;omega
def Sm (v:Vc):Prop := -1000000000≤v.1∧v.1≤1000000000∧-1000000000≤v.2∧v.2≤1000000000
theorem R8 {l:Lt} (hl:IsL l) {v:Vc} (hv:Sm v):w (v.1-(w ((w ((w (v.2-v.2 % l.2.2)).tdiv l.2.2))*l.2.1)))=v.1-(v.2 / l.2.2)*l.2.1:=by
 obtain⟨a1,a2,c1,c2,b1,b2,ix⟩:=hl;obtain⟨v1,v2,v3,v4⟩:=hv;have h1:=Ar3 v.2 (show l.2.2≠0 by omega)
 have h2:=ArP v.2 (show 0<l.2.2 by omega)
 obtain⟨h3,h4⟩:=Ze (y:=v.2) c1 (B:=1000000000) (by omega) v3 v4
 obtain⟨h5,h6⟩:=Zf (a:=v.2 / l.2.2) (b:=l.2.1) (A:=1000000001) (B:=64) (by omega) (by omega) (by omega) b1 (by omega)
 rw[Ay (n:=v.2-v.2 % l.2.2) (by omega) (by omega),P1 c1,Ay (n:=v.2 / l.2.2) (by omega) (by omega),Ay (n:=v.2 / l.2.2*l.2.1) (by omega) (by omega),Ay (by omega) (by omega)]
theorem CB {l:Lt} (hl:IsL l) {v:Vc} (hv:Sm v):Nu KK l v=some (As l v):=by
 unfold Nu;have h0:(l.2.2 != 0)=true:=by have:=hl.c1;simp;omega
 rw[EF hl.c1 (by have:=hl.c2;omega)]
 simp only[oB,h0,cT];rw[R8 hl hv,EF hl.a1 (by have:=hl.a2;omega)]
 rfl
theorem Jm {l:Lt} (hl:IsL l) {v:Vc} (hv:Sm v):ND KK l v=some (As l v):=by
 unfold ND;have h0:(l.2.2 != 0)=true:=by have:=hl.c1;simp;omega
 rw[P0 hl.c1 (by have:=hl.c2;omega)]
 simp only[oB,h0,cT];rw[R8 hl hv,P0 hl.a1 (by have:=hl.a2;omega)]
 rfl
theorem JT {l:Lt} (hl:IsL l) (v:Vc):0≤(As l v).1∧(As l v).1<l.1∧0≤(As l v).2∧(As l v).2<l.2.2:=by
 obtain⟨a1,a2,c1,c2,b1,b2,ix⟩:=hl;exact⟨Ar3 _ (by omega),ArP _ (by omega),Ar3 _ (by omega),ArP _ (by omega)⟩
theorem Aco {a c x y:Int} (h1:0≤x) (h2:x<a) (h3:0≤y) (h4:y<c):0≤x*c+y∧x*c+y<a*c:=by
 have e1:0≤x*c:=Atm h1 (by omega)
 have e2:(x+1)*c≤a*c:=Arj (by omega) (by omega)
 have e3:(x+1)*c=x*c+c:=by rw[Ar5,ArY]
 omega
def BH (l:Lt) (v:Vc):Nat:=((As l v).1*l.2.2+(As l v).2).toNat
theorem F4 {l:Lt} (hl:IsL l) (v:Vc):w ((w ((As l v).1*l.2.2))+(As l v).2)=(BH l v:Int)∧(BH l v:Int)<l.1*l.2.2:=by
 obtain⟨h1,h2,h3,h4⟩:=JT hl v;obtain⟨h5,h6⟩:=Aco h1 h2 h3 h4;obtain⟨a1,a2,c1,c2,b1,b2,ix⟩:=hl;have e1:0≤(As l v).1*l.2.2:=Atm h1 (by omega)
 unfold BH;rw[Ay (n:=(As l v).1*l.2.2) (by omega) (by omega),Ay (by omega) (by omega)]
 omega
def atS (p:Pt) (v:Vc):Int:=p.2.2.getD (BH p.2.1 v) 0
theorem Lv {p:Pt} (hp:IsP p) {v:Vc} (hv:Sm v):NG KK p v=some (atS p v):=by
 unfold NG Ph;obtain⟨h1,h2⟩:=F4 hp.l v;rw[CB hp.l hv];simp only[oB,h1];have h3:BH p.2.1 v<p.2.2.length:=by have:=hp.n;omega
 rw[in0,in1 h3,gd h3];simp[atS,List.getD,h3]
theorem Acp {p:Pt} (hp:IsP p) {v:Vc} (hv:Sm v):YR KK p v=some (atS p v):=by
 unfold YR Ak4;obtain⟨h1,h2⟩:=F4 hp.l v;rw[Jm hp.l hv];simp only[oB,h1];have h3:BH p.2.1 v<p.2.2.length:=by have:=hp.n;omega
 rw[in0,in1 h3,gd h3];simp[atS,List.getD,h3]
def Jn (c x:Nat):List Vc:=(List.range c).map fun (y:Nat)=>((x:Int),(y:Int))
def Ab (l:Lt):List Vc:=(List.range l.1.toNat).flatMap (Jn l.2.2.toNat)
theorem Zg (a c:Nat) (hc:0<c):(List.range a).flatMap (Jn c)=(List.range (a*c)).map fun i=>(((i / c:Nat):Int),((i % c:Nat):Int)):=by
 induction a with
 | zero=>simp
 | succ a ih =>
  rw[List.range_succ,List.flatMap_append,ih,ArE,List.range_add,List.map_append];congr 1;simp only[List.flatMap_cons,List.flatMap_nil,Arx,Jn,List.map_map]
  apply AsO
  intro y hy;rw[Ar8] at hy;simp only[Function.comp];have h1:(a*c+y) / c=a:=by
   rw[AsK,Nat.mul_add_div hc,Nat.div_eq_of_lt hy];rfl
  have h2:(a*c+y) % c=y:=by
   rw[AsK,Nat.mul_add_mod,Nat.mod_eq_of_lt hy]
  rw[h1,h2]
theorem NX {l:Lt} (hl:IsL l):Ab l=(List.range (l.1.toNat*l.2.2.toNat)).map fun i=>(((i / l.2.2.toNat:Nat):Int),((i % l.2.2.toNat:Nat):Int)) :=
 Zg _ _ (by have:=hl.c1;omega)
theorem BB {l:Lt} (hl:IsL l):((l.1.toNat*l.2.2.toNat:Nat):Int)=l.1*l.2.2:=by
 have h1:((l.1.toNat:Nat):Int)=l.1:=by have:=hl.a1;omega
 have h2:((l.2.2.toNat:Nat):Int)=l.2.2:=by have:=hl.c1;omega
 rw[Asc,h1,h2]
theorem A9 {l:Lt} (hl:IsL l):(Ab l).length=l.1.toNat*l.2.2.toNat:=by
 rw[NX hl];simp
theorem AD {l:Lt} (hl:IsL l):(Ab l).length≤64:=by
 have:=BB hl;have:=hl.ix;rw[A9 hl];omega
theorem CO {l:Lt} {v:Vc} (h:v∈Ab l):0≤v.1∧v.1<l.1∧0≤v.2∧v.2<l.2.2:=by
 simp only[Ab,Jn,ArH,Aq6,Ar8] at h;obtain⟨x,hx,y,hy,rfl⟩:=h;refine⟨?_,?_,?_,?_⟩<;>simp<;>omega
theorem Bu {l:Lt} (hl:IsL l) {i:Nat} (h:i<(Ab l).length):BH l (Ab l)[i]=i:=by
 have hm:=CO (gM h);have h1:(Ab l)[i]=(((i / l.2.2.toNat:Nat):Int),((i % l.2.2.toNat:Nat):Int)):=by
  simp[NX hl]
 unfold BH As;obtain⟨m1,m2,m3,m4⟩:=hm;have h2:(Ab l)[i].2 / l.2.2=0:=Int.ediv_eq_zero_of_lt m3 m4;have h3:(Ab l)[i].2 % l.2.2=(Ab l)[i].2:=ArT m3 m4;simp only[h2,h3,Ass,AtG,ArT m1 m2];rw[h1];have h4:((l.2.2.toNat:Nat):Int)=l.2.2:=by have:=hl.c1;omega
 have h5:(((i / l.2.2.toNat:Nat):Int))*l.2.2+((i % l.2.2.toNat:Nat):Int)=((i / l.2.2.toNat*l.2.2.toNat+i % l.2.2.toNat:Nat):Int):=by
  rw[Ate,Asc,h4]
 simp only[h5];have:=Nat.div_add_mod' i l.2.2.toNat;omega
theorem P2 {l:Lt} (hl:IsL l) {L:Int→List Vc→Option (List Vc)} {x:Nat} (hx:x<64) {s:List Vc} (hs:s.length≤x*64) :
  Lg KK l (x:Int) L KK 0 s=L ((x+1:Nat):Int) (s++Jn l.2.2.toNat x):=by
 have h2:((l.2.2.toNat:Nat):Int)=l.2.2:=by have:=hl.c1;omega
 have hc:=hl.c2;have h:=Ao (X:=Int×List Vc) (body:=fun L9 z=>Pe KK l (x:Int) L (fun v0 v1=>L9 (v0,v1)) z.1 z.2) (List.range l.2.2.toNat) (fun q s=>((q:Int),s)) (fun s y=>s++[((x:Int),((y:Nat):Int))]) (fun s=>L ((x+1:Nat):Int) s) (fun q s=>s.length≤x*64+q)
  (fun L9 q s hq hi=>by
   simp only[Asd] at hq;simp only[Ast];refine⟨by simp;omega,?_⟩
   unfold Pe;have h3:decide ((q:Int)<l.2.2)=true:=by simp;omega
   rw[h3,cT,DV (by simp;omega),cT,Aq (by omega)])
  (fun L9 s hi=>by
   unfold Pe;have h3:decide (((List.range l.2.2.toNat).length:Int)<l.2.2)=false:=by simp;omega
   simp only[h3,cF];rw[Aq (by omega)]) KK 0 s (by omega) (by simp[KK];omega) (by simpa using hs)
 unfold Lg;refine h.trans ?_;simp only[AqN];rw[Dd];rfl
theorem B1 {l:Lt} (hl:IsL l):Kb KK l=some (Ab l):=by
 have h1:((l.1.toNat:Nat):Int)=l.1:=by have:=hl.a1;omega
 have ha:=hl.a2;have hc:=hl.c2;have h:=Ao (X:=Int×List Vc) (body:=fun L6 z=>Lh KK l (fun c0 d0 d1=>Lg KK l c0 (fun v0 v1=>L6 (v0,v1)) KK d0 d1) (fun v0 v1=>L6 (v0,v1)) z.1 z.2) (List.range l.1.toNat) (fun q s=>((q:Int),s)) (fun s x=>s++Jn l.2.2.toNat x) (fun s=>some s) (fun q s=>s.length≤q*64)
  (fun L6 q s hq hi=>by
   simp only[Asd] at hq;simp only[Ast];refine⟨by simp[Jn];omega,?_⟩
   unfold Lh;have h3:decide ((q:Int)<l.1)=true:=by simp;omega
   rw[h3,cT];exact P2 hl (by omega) hi)
  (fun L6 s hi=>by
   unfold Lh;have h3:decide (((List.range l.1.toNat).length:Int)<l.1)=false:=by simp;omega
   simp only[h3,cF]) KK 0 [] (by omega) (by simp[KK];omega) (by simp)
 unfold Kb AaR TO;refine h.trans ?_;simp only[AqN];rw[DW];rfl
theorem Zh {l:Lt} (hl:IsL l) {L:Int→List Vc→Option (List Vc)} {x:Nat} (hx:x<64) {s:List Vc} (hs:s.length≤x*64) :
  Lk KK l (x:Int) L KK 0 s=L ((x+1:Nat):Int) (s++Jn l.2.2.toNat x):=by
 have h2:((l.2.2.toNat:Nat):Int)=l.2.2:=by have:=hl.c1;omega
 have hc:=hl.c2;have h:=Ao (X:=Int×List Vc) (body:=fun L9 z=>Pq KK l (x:Int) L (fun v0 v1=>L9 (v0,v1)) z.1 z.2) (List.range l.2.2.toNat) (fun q s=>((q:Int),s)) (fun s y=>s++[((x:Int),((y:Nat):Int))]) (fun s=>L ((x+1:Nat):Int) s) (fun q s=>s.length≤x*64+q)
  (fun L9 q s hq hi=>by
   simp only[Asd] at hq;simp only[Ast];refine⟨by simp;omega,?_⟩
   unfold Pq;have h3:decide ((q:Int)<l.2.2)=true:=by simp;omega
   rw[h3,cT,DV (by simp;omega),cT,Aq (by omega)])
  (fun L9 s hi=>by
   unfold Pq;have h3:decide (((List.range l.2.2.toNat).length:Int)<l.2.2)=false:=by simp;omega
   simp only[h3,cF];rw[Aq (by omega)]) KK 0 s (by omega) (by simp[KK];omega) (by simpa using hs)
 unfold Lk;refine h.trans ?_;simp only[AqN];rw[Dd];rfl
theorem DX {l:Lt} (hl:IsL l):Lm KK l=some (Ab l):=by
 have h1:((l.1.toNat:Nat):Int)=l.1:=by have:=hl.a1;omega
 have ha:=hl.a2;have hc:=hl.c2;have h:=Ao (X:=Int×List Vc) (body:=fun L6 z=>Ll KK l (fun c0 d0 d1=>Lk KK l c0 (fun v0 v1=>L6 (v0,v1)) KK d0 d1) (fun v0 v1=>L6 (v0,v1)) z.1 z.2) (List.range l.1.toNat) (fun q s=>((q:Int),s)) (fun s x=>s++Jn l.2.2.toNat x) (fun s=>some s) (fun q s=>s.length≤q*64)
  (fun L6 q s hq hi=>by
   simp only[Asd] at hq;simp only[Ast];refine⟨by simp[Jn];omega,?_⟩
   unfold Ll;have h3:decide ((q:Int)<l.1)=true:=by simp;omega
   rw[h3,cT];exact Zh hl (by omega) hi)
  (fun L6 s hi=>by
   unfold Ll;have h3:decide (((List.range l.1.toNat).length:Int)<l.1)=false:=by simp;omega
   simp only[h3,cF]) KK 0 [] (by omega) (by simp[KK];omega) (by simp)
 unfold Lm Aa7 TV;refine h.trans ?_;simp only[AqN];rw[DW];rfl
structure SmM (m:Mt):Prop where
 a : -1≤m.1∧m.1≤1
 b : -1≤m.2.1∧m.2.1≤1
 c : -1≤m.2.2.1∧m.2.2.1≤1
 d : -1≤m.2.2.2∧m.2.2.2≤1
def Sv (v:Vc):Prop := -1000000≤v.1∧v.1≤1000000∧-1000000≤v.2∧v.2≤1000000
theorem Zi {a:Int} (h : -1≤a∧a≤1):a = -1∨a=0∨a=1:=by omega
theorem AX {a x:Int} (h : -1≤a∧a≤1) {B:Int} (h1 : -B≤x) (h2:x≤B) (hB:0≤B) : -B≤a*x∧a*x≤B:=by
 rcases Zi h with rfl | rfl | rfl<;>omega
def Ag (m:Mt) (v:Vc):Vc:=(m.1*v.1+m.2.1*v.2,m.2.2.1*v.1+m.2.2.2*v.2)
def Ar (m:Mt×Vc) (v:Vc):Vc:=((Ag m.1 v).1+m.2.1,(Ag m.1 v).2+m.2.2)
theorem R9 {m:Mt} (hm:SmM m) {v:Vc} (hv:Sv v):((w ((w (m.1*v.1))+(w (m.2.1*v.2)))),(w ((w (m.2.2.1*v.1))+(w (m.2.2.2*v.2)))))=Ag m v:=by
 obtain⟨v1,v2,v3,v4⟩:=hv;obtain⟨a1,a2⟩:=AX hm.a v1 v2 (by omega)
 obtain⟨b1,b2⟩:=AX hm.b v3 v4 (by omega)
 obtain⟨c1,c2⟩:=AX hm.c v1 v2 (by omega)
 obtain⟨d1,d2⟩:=AX hm.d v3 v4 (by omega)
 rw[Ay (n:=m.1*v.1) (by omega) (by omega),Ay (n:=m.2.1*v.2) (by omega) (by omega),Ay (n:=m.2.2.1*v.1) (by omega) (by omega),Ay (n:=m.2.2.2*v.2) (by omega) (by omega),Ay (by omega) (by omega),Ay (by omega) (by omega)]
 rfl
theorem De {m:Mt} (hm:SmM m) {v:Vc} (hv:Sv v) : -2000000≤(Ag m v).1∧(Ag m v).1≤2000000∧-2000000≤(Ag m v).2∧(Ag m v).2≤2000000:=by
 obtain⟨v1,v2,v3,v4⟩:=hv;obtain⟨a1,a2⟩:=AX hm.a v1 v2 (by omega)
 obtain⟨b1,b2⟩:=AX hm.b v3 v4 (by omega)
 obtain⟨c1,c2⟩:=AX hm.c v1 v2 (by omega)
 obtain⟨d1,d2⟩:=AX hm.d v3 v4 (by omega)
 simp only[Ag];omega
theorem Eb {m:Mt} (hm:SmM m) {v:Vc} (hv:Sv v):La KK m v=some (Ag m v):=by
 unfold La;rw[R9 hm hv]
theorem Cq {m:Mt} (hm:SmM m) {v:Vc} (hv:Sv v):Jl KK m v=some (Ag m v):=by
 unfold Jl;rw[R9 hm hv]
theorem Ec {m:Mt×Vc} (hm:SmM m.1) {v:Vc} (hv:Sv v) (ht:Sv m.2):YO KK m v=some (Ar m v):=by
 obtain⟨b1,b2,b3,b4⟩:=De hm hv;obtain⟨t1,t2,t3,t4⟩:=ht;unfold YO Nr;rw[Eb hm hv];simp only[oB];rw[Ay (by omega) (by omega),Ay (by omega) (by omega)]
 rfl
theorem F5 {m:Mt×Vc} (hm:SmM m.1) {v:Vc} (hv:Sv v) (ht:Sv m.2):YQ KK m v=some (Ar m v):=by
 obtain⟨b1,b2,b3,b4⟩:=De hm hv;obtain⟨t1,t2,t3,t4⟩:=ht;unfold YQ Hg;rw[Cq hm hv];simp only[oB];rw[Ay (by omega) (by omega),Ay (by omega) (by omega)]
 rfl
theorem GP {m:Mt×Vc} (hm:SmM m.1) {v:Vc} (hv:Sv v) (ht:Sv m.2):Sm (Ar m v):=by
 obtain⟨b1,b2,b3,b4⟩:=De hm hv;obtain⟨t1,t2,t3,t4⟩:=ht;simp only[Sm,Ar];omega
theorem BS {l:Lt} (hl:IsL l) {v:Vc} (h:v∈Ab l):Sv v:=by
 obtain⟨h1,h2,h3,h4⟩:=CO h;obtain⟨a1,a2,c1,c2,b1,b2,ix⟩:=hl;simp only[Sv];omega
theorem Xy {v:Vc} (h:Sv v):Sm v:=by
 obtain⟨h1,h2,h3,h4⟩:=h;simp only[Sm];omega
def AZ (p:Pt) (m:Mt×Vc):Bool:=(Ab p.2.1).all fun v=>atS p (Ar m v)==atS p v
theorem JU {p:Pt} (hp:IsP p) {m:Mt×Vc} (hm:SmM m.1) (ht:Sv m.2):NI KK p m=some (AZ p m):=by
 unfold NI T2;rw[B1 hp.l];simp only[oB];have h:=CZ (X:=Int) (body:=fun L6 x=>Ks KK p m (Ab p.2.1) (fun v0=>L6 v0) x) (Ab p.2.1) (fun q=>(q:Int)) (fun v=>atS p (Ar m v)==atS p v) (some false) (some true)
  (fun L6 q hq=>by
   have hv:=BS hp.l (gM hq);have:=AD hp.l;unfold Ks;rw[in1 hq,in0,gd hq,Ec hm hv ht,Lv hp (Xy hv)];simp only[aS,cT,oB];rw[Lv hp (GP hm hv ht),oB,Aq (by omega),bne]
   cases atS p (Ar m (Ab p.2.1)[q])==atS p (Ab p.2.1)[q]<;>rfl)
  (fun L6=>by
   unfold Ks;rw[AY,cF]) KK 0 (by omega) (by have:=AD hp.l;simp[KK];omega)
 unfold PA;refine h.trans ?_;simp only[AqN];unfold AZ;cases (Ab p.2.1).all fun v=>atS p (Ar m v)==atS p v<;>rfl
theorem Sa {p:Pt} (hp:IsP p) {m:Mt×Vc} (hm:SmM m.1) (ht:Sv m.2):YT KK p m=some (AZ p m):=by
 unfold YT Abd;rw[DX hp.l];simp only[oB];have h:=CZ (X:=Int) (body:=fun L6 x=>Pr KK p m (Ab p.2.1) (fun v0=>L6 v0) x) (Ab p.2.1) (fun q=>(q:Int)) (fun v=>atS p (Ar m v)==atS p v) (some false) (some true)
  (fun L6 q hq=>by
   have hv:=BS hp.l (gM hq);have:=AD hp.l;have h1:=Bu hp.l hq;have h2:=A9 hp.l;have h3:=BB hp.l;have hq2:q<p.2.2.length:=by have:=hp.n;omega
   have h4:atS p (Ab p.2.1)[q]=p.2.2[q]:=by
    unfold atS;rw[h1];simp[List.getD,hq2]
   unfold Pr;rw[in1 hq,in0,gd hq,F5 hm hv ht,in1 hq2,gd hq2];simp only[aS,cT,oB];rw[Acp hp (GP hm hv ht),oB,Aq (by omega),bne,h4]
   cases atS p (Ar m (Ab p.2.1)[q])==p.2.2[q]<;>rfl)
  (fun L6=>by
   unfold Pr;rw[AY,cF]) KK 0 (by omega) (by have:=AD hp.l;simp[KK];omega)
 unfold TX;refine h.trans ?_;simp only[AqN];unfold AZ;cases (Ab p.2.1).all fun v=>atS p (Ar m v)==atS p v<;>rfl
theorem Lw {q:Int} (h:q.natAbs≤4611686018427387904):(if (w (0-q))>q then (w (0-q)) else q)=(q.natAbs:Int):=by
 rw[Ay (by omega) (by omega)]
 split<;>omega
theorem Io (a b:Int) (h:b≠0):Int.gcd b (a.tmod b)=Int.gcd a b:=by
 simp only[Int.gcd,ArF];rw[AtH a.natAbs,Nat.gcd_rec b.natAbs a.natAbs,AtH]
theorem Sb:∀ (n:Nat) (a b:Int),b.natAbs<n→a.natAbs≤4611686018427387904→b.natAbs≤4611686018427387904→GM KK n a b=some ((Int.gcd a b:Nat):Int)
 | 0,a,b,h,_,_=>by omega
 | n+1,a,b,h,h1,h2=>by
  have e:GM KK (n+1) a b=Ib KK (fun v0 v1=>GM KK n v0 v1) a b:=rfl;rw[e];unfold Ib
  dsimp only
  by_cases hb:b=0
  ·subst hb;simp only[bne_self_eq_false,cF,Lw h1];simp[Int.gcd]
  ·have h3:(b != 0)=true:=by simp[hb]
   rw[h3,cT,cT];have h4:(a.tmod b).natAbs<b.natAbs:=by rw[ArF];exact AtI _ (by omega)
   rw[Sb n b (a.tmod b) (by omega) h2 (by omega),Io a b hb]
theorem Acq {a b:Int} (ha:a.natAbs≤1000000) (hb:b.natAbs≤4611686018427387904):Ic KK a b=some ((Int.gcd a b:Nat):Int):=by
 have e:Ic KK a b=Ib KK (fun v0 v1=>GM KK 2097151 v0 v1) a b:=rfl;rw[e];unfold Ib
 dsimp only
 by_cases hb0:b=0
 ·subst hb0;simp only[bne_self_eq_false,cF];rw[Lw (by omega)]
  simp[Int.gcd]
 ·have h3:(b != 0)=true:=by simp[hb0]
  rw[h3,cT,cT];have h4:(a.tmod b).natAbs≤a.natAbs:=by rw[ArF];exact Nat.mod_le _ _
  rw[Sb _ b (a.tmod b) (by omega) hb (by omega),Io a b hb0]
theorem Ip:∀ (n:Nat) (a b:Int),b.natAbs<n→a.natAbs≤4611686018427387904→b.natAbs≤4611686018427387904→JQ KK n a b=some ((Int.gcd a b:Nat):Int)
 | 0,a,b,h,_,_=>by omega
 | n+1,a,b,h,h1,h2=>by
  show Jj KK (JQ KK n) a b=_;unfold Jj;by_cases hb:b=0
  ·subst hb;simp only[beq_self_eq_true,cT,Lw h1];simp[Int.gcd]
  ·have h3:(b != 0)=true:=by simp[hb]
   have h5:(b==0)=false:=by simp[hb]
   rw[h3,h5,cT,cF];have h4:(a.tmod b).natAbs<b.natAbs:=by rw[ArF];exact AtI _ (by omega)
   rw[Ip n b (a.tmod b) (by omega) h2 (by omega),Io a b hb]
   rfl
theorem Um {a b:Int} (ha:a.natAbs≤1000000) (hb:b.natAbs≤4611686018427387904):V3 KK a b=some ((Int.gcd a b:Nat):Int):=by
 show Jj KK (JQ KK 2097151) a b=_;unfold Jj;by_cases hb0:b=0
 ·subst hb0;simp only[beq_self_eq_true,cT];rw[Lw (by omega)]
  simp[Int.gcd]
 ·have h3:(b != 0)=true:=by simp[hb0]
  have h5:(b==0)=false:=by simp[hb0]
  rw[h3,h5,cT,cF];have h4:(a.tmod b).natAbs≤a.natAbs:=by rw[ArF];exact Nat.mod_le _ _
  rw[Ip _ b (a.tmod b) (by omega) hb (by omega),Io a b hb0]
  rfl
def nx (p v:Vc):Vc:=(p.1-p.2.tdiv v.2*v.1,p.2-p.2.tdiv v.2*v.2)
def euS:Nat→Vc→Vc→Vc×Int
 | 0,p,v=>(p,v.1)
 | n+1,p,v=>if v.2=0 then (p,v.1) else euS n v (nx p v)
theorem Uo (p v:Vc):(nx p v).2=p.2.tmod v.2:=by
 have:=Int.tmod_add_mul_tdiv p.2 v.2;simp only[nx];rw[Aq5];omega
theorem E2 (p v:Vc) (h:v.2≠0):(nx p v).2.natAbs<v.2.natAbs:=by
 rw[Uo,ArF];exact AtI _ (by omega)
def Dv (p v:Vc):Nat:=p.1.natAbs*v.2.natAbs+v.1.natAbs*p.2.natAbs
theorem ApX (p v:Vc) (h:v.2≠0):Dv v (nx p v)≤Dv p v:=by
 have h1:(nx p v).2.natAbs=p.2.natAbs % v.2.natAbs:=by rw[Uo,ArF]
 have h2:(nx p v).1.natAbs≤p.1.natAbs+p.2.natAbs / v.2.natAbs*v.1.natAbs:=by
  have:=Int.natAbs_sub_le p.1 (p.2.tdiv v.2*v.1);rw[Ar9,Atf] at this;exact this
 have h3:=Nat.mod_add_div p.2.natAbs v.2.natAbs;unfold Dv;rw[h1];generalize p.1.natAbs=P at *;generalize v.1.natAbs=V at *;generalize p.2.natAbs / v.2.natAbs=k at *;generalize p.2.natAbs % v.2.natAbs=r at *;generalize v.2.natAbs=U at *;generalize p.2.natAbs=Q at *
 calc V*r+(nx p v).1.natAbs*U≤V*r+(P+k*V)*U:=Nat.add_le_add_left (Arl _ h2) _
  _=P*U+V*(r+U*k):=by
   rw[Asp,Nat.mul_add];have:k*V*U=V*(U*k):=by rw[AsK k V,Nat.mul_assoc,AsK k U]
   omega
  _=P*U+V*Q:=by rw[h3]
structure Bd (B:Nat) (p v:Vc):Prop where
 bp:p.1.natAbs≤B
 bv:v.1.natAbs≤B
 d:Dv p v≤B
theorem Acr {B:Nat} {p v:Vc} (h:Bd B p v) (hv:v.2≠0):Bd B v (nx p v):=by
 have h1:=ApX p v hv;refine⟨h.bv,?_,by have:=h.d;omega⟩
 have h2:(nx p v).1.natAbs*v.2.natAbs≤Dv v (nx p v):=by unfold Dv;omega
 have h3:(nx p v).1.natAbs*1≤(nx p v).1.natAbs*v.2.natAbs:=Ar4 _ (by omega)
 have:=h.d;omega
theorem Em {B:Nat}:∀ (n:Nat) (p v:Vc),v.2.natAbs<n→Bd B p v→(euS n p v).1.1.natAbs≤B∧(euS n p v).2.natAbs≤B
 | 0,p,v,h,_=>by omega
 | n+1,p,v,h,hb=>by
  simp only[euS];split
  ·exact⟨hb.bp,hb.bv⟩
  ·rename_i hv;exact Em n v (nx p v) (by have:=E2 p v hv;omega) (Acr hb hv)
theorem Sc:∀ (n m:Nat) (p v:Vc),v.2.natAbs<n→v.2.natAbs<m→euS n p v=euS m p v
 | 0,m,p,v,h,_=>by omega
 | n+1,0,p,v,_,h=>by omega
 | n+1,m+1,p,v,h,h'=>by
  simp only[euS];split
  ·rfl
  ·rename_i hv;exact Sc n m v (nx p v) (by have:=E2 p v hv;omega) (by have:=E2 p v hv;omega)
theorem Xz {p v:Vc} (h:Bd 36028797018963968 p v) (hp:p.2.natAbs≤1000000) (hv0:v.2≠0) (hv:v.2.natAbs≤1000000) :
  w (p.1-(w ((w (p.2.tdiv v.2))*v.1)))=(nx p v).1∧w (p.2-(w ((w (p.2.tdiv v.2))*v.2)))=(nx p v).2∧w (p.1+w (w (0-(w (p.2.tdiv v.2)))*v.1))=(nx p v).1∧w (p.2+w (w (0-(w (p.2.tdiv v.2)))*v.2))=(nx p v).2:=by
 have k1:(p.2.tdiv v.2).natAbs≤p.2.natAbs:=by rw[Atf];exact Nat.div_le_self _ _
 have k2:(p.2.tdiv v.2*v.1).natAbs≤Dv p v:=by
  rw[Ar9];have:=Arl v.1.natAbs k1;unfold Dv;rw[AsK v.1.natAbs];omega
 have k3:(p.2.tdiv v.2*v.2).natAbs≤p.2.natAbs:=by
  rw[Ar9,Atf];exact Nat.div_mul_le_self _ _
 have e1 : -p.2.tdiv v.2*v.1 = -(p.2.tdiv v.2*v.1):=ArB _ _;have e2 : -p.2.tdiv v.2*v.2 = -(p.2.tdiv v.2*v.2):=ArB _ _;obtain⟨b1,b2,b3⟩:=h;rw[Ay (n:=p.2.tdiv v.2) (by omega) (by omega),Ay (n:=p.2.tdiv v.2*v.1) (by omega) (by omega),Ay (n:=p.2.tdiv v.2*v.2) (by omega) (by omega),Ay (n:=0-p.2.tdiv v.2) (by omega) (by omega),Int.zero_sub,e1,e2,
  Ay (n := -(p.2.tdiv v.2*v.1)) (by omega) (by omega),Ay (n := -(p.2.tdiv v.2*v.2)) (by omega) (by omega)]
 simp only[nx];refine⟨Ay (by omega) (by omega),Ay (by omega) (by omega),?_,?_⟩
 ·rw[Ay (by omega) (by omega)];omega
 ·rw[Ay (by omega) (by omega)];omega
theorem Sd (a:Int):∀ (n:Nat) (p v p' v':Vc),p.2=p'.2→v.2=v'.2→a ∣ p.1-p'.1→a ∣ v.1-v'.1 →
  (euS n p v).1.2=(euS n p' v').1.2∧a ∣ (euS n p v).1.1-(euS n p' v').1.1∧a ∣ (euS n p v).2-(euS n p' v').2
 | 0,p,v,p',v',h1,h2,h3,h4=>⟨h1,h3,h4⟩
 | n+1,p,v,p',v',h1,h2,h3,h4=>by
  simp only[euS,← h2];split
  ·exact⟨h1,h3,h4⟩
  ·refine Sd a n v (nx p v) v' (nx p' v') h2 ?_ h4 ?_
   ·simp only[nx,← h1,← h2]
   ·simp only[nx,← h1,← h2];obtain⟨s,hs⟩:=h3;obtain⟨t,ht⟩:=h4;refine⟨s-p.2.tdiv v.2*t,?_⟩;rw[AtM,← hs,show a*(p.2.tdiv v.2*t)=p.2.tdiv v.2*(a*t) by rw[← Ata,Aq5 a,Ata],← ht,AtM]
    omega
def Clo (S:Vc→Prop):Prop:=∀ u v:Vc,∀ k:Int,S u→S v→S (u.1+k*v.1,u.2+k*v.2)
theorem Uq {S:Vc→Prop} (hS:Clo S):∀ (n:Nat) (p v:Vc),v.2.natAbs<n→S p→S v→S (euS n p v).1∧S ((euS n p v).2,0)
 | 0,p,v,h,_,_=>by omega
 | n+1,p,v,h,hp,hv=>by
  simp only[euS];split
  ·rename_i h0;refine⟨hp,?_⟩;have:v=(v.1,0):=by rw[← h0]
   rwa [this] at hv
  ·rename_i h0;refine Uq hS n v (nx p v) (by have:=E2 p v h0;omega) hv ?_
   have:=hS p v (-(p.2.tdiv v.2)) hp hv;rw[ArB,ArB] at this;exact this
theorem P3 {S:Vc→Prop} (hS:Clo S):∀ (n:Nat) (p v:Vc),v.2.natAbs<n→S (euS n p v).1→S ((euS n p v).2,0)→S p∧S v
 | 0,p,v,h,_,_=>by omega
 | n+1,p,v,h,h1,h2=>by
  simp only[euS] at h1 h2;split at h1
  ·rename_i h0;rw[if_pos h0] at h2;have:v=(v.1,0):=by rw[← h0]
   exact⟨h1,by rw[this];exact h2⟩
  ·rename_i h0;rw[if_neg h0] at h2;obtain⟨h3,h4⟩:=P3 hS n v (nx p v) (by have:=E2 p v h0;omega) h1 h2
   refine⟨?_,h3⟩;have:=hS (nx p v) v (p.2.tdiv v.2) h4 h3;simp only[nx,Int.sub_add_cancel] at this;exact this
theorem XA:∀ (n:Nat) (p v:Vc),v.2.natAbs<n→((euS n p v).2*(euS n p v).1.2).natAbs=(p.1*v.2-v.1*p.2).natAbs
 | 0,p,v,h=>by omega
 | n+1,p,v,h=>by
  simp only[euS];split
  ·rename_i h0;show (v.1*p.2).natAbs=_;rw[h0,Ase,Int.zero_sub,Int.natAbs_neg]
  ·rename_i h0;rw[XA n v (nx p v) (by have:=E2 p v h0;omega)]
   have e:v.1*(nx p v).2-(nx p v).1*v.2 = -(p.1*v.2-v.1*p.2):=by
    simp only[nx,AtM,Atc];have:v.1*(p.2.tdiv v.2*v.2)=p.2.tdiv v.2*v.1*v.2:=by rw[← Ata,Aq5 v.1]
    omega
   rw[e,Int.natAbs_neg]
theorem E3:∀ (n:Nat) (p v:Vc),v.2.natAbs<n→(euS n p v).1.2.natAbs=Nat.gcd p.2.natAbs v.2.natAbs
 | 0,p,v,h=>by omega
 | n+1,p,v,h=>by
  simp only[euS];split
  ·rename_i h0;simp[h0]
  ·rename_i h0;rw[E3 n v (nx p v) (by have:=E2 p v h0;omega),Uo,ArF,AtH p.2.natAbs,Nat.gcd_rec v.2.natAbs p.2.natAbs,AtH]
theorem Acs (n:Nat) (p v:Vc) (hn:v.2.natAbs<n) (hn3:3≤n) (hp:p.2≠0):2*(euS n p v).1.2.natAbs≤p.2.natAbs∨(euS n p v).1=p∨((euS n p v).1=v∧v.2.natAbs=p.2.natAbs):=by
 have hg:=E3 n p v hn;by_cases hd:p.2.natAbs ∣ v.2.natAbs
 ·right;rw[Sc n (n+3) p v hn (by omega)]
  simp only[euS];split
  ·left;rfl
  ·rename_i h0;have h1:1≤v.2.natAbs:=by omega
   have hle:=Nat.le_of_dvd h1 hd;split
   ·rename_i h2;right;refine⟨rfl,?_⟩;rw[Uo] at h2;have h3:=ArF p.2 v.2;rw[h2] at h3;have h4:v.2.natAbs ∣ p.2.natAbs:=Nat.dvd_of_mod_eq_zero h3.symm;exact Nat.le_antisymm (Nat.le_of_dvd (by omega) h4) hle
   ·rename_i h2;left;have h3:p.2.natAbs<v.2.natAbs:=by
     rcases Arv p.2.natAbs v.2.natAbs with h | h
     ·exact h
     ·exfalso
      apply h2
      have:p.2.natAbs=v.2.natAbs:=by omega
      rw[Uo];have h3:=ArF p.2 v.2;rw[this,Nat.mod_self] at h3;omega
    have hk:p.2.tdiv v.2=0:=by
     have:(p.2.tdiv v.2).natAbs=0:=by rw[Atf];exact Nat.div_eq_of_lt h3
     omega
    have hnx:nx p v=p:=by simp only[nx,hk,Ass,AtG]
    rw[hnx];have h5:(nx v p).2=0:=by
     rw[Uo];have h6:=ArF v.2 p.2;rw[Nat.mod_eq_zero_of_dvd hd] at h6;omega
    rw[if_pos h5]
 ·left;rw[hg];have h1:=Nat.gcd_dvd_left p.2.natAbs v.2.natAbs;have h2:Nat.gcd p.2.natAbs v.2.natAbs≠p.2.natAbs:=fun h=>hd (by have:=Nat.gcd_dvd_right p.2.natAbs v.2.natAbs;rwa [h] at this)
  obtain⟨k,hk⟩:=h1;have h3:2≤k:=by
   rcases Arv k 2 with h | h
   ·have:k=0∨k=1:=by omega
    rcases this with rfl | rfl
    ·simp at hk;omega
    ·rw[Nat.mul_one] at hk;exact absurd hk.symm h2
   ·exact h
  have:=Ar4 (Nat.gcd p.2.natAbs v.2.natAbs) h3;omega
noncomputable def Akn (a:Int) (q:Int) (L:Int→Int→Int→Int→Option Lt) (r:Vc×Int):Option Lt :=
 (V3 KK a r.2).bind fun y20=>(bif (decide (y20>(0:Int))) then (He KK r.1.1 y20).bind fun y21=>L y20 (w (q+(1:Int))) y21 r.1.2 else L y20 (w (q+(1:Int))) r.1.1 r.1.2)
theorem XB (l:List Vc) (a q:Int) (L:Int→Int→Int→Int→Option Lt):∀ (n:Nat) (p v:Vc),v.2.natAbs<n→Bd 36028797018963968 p v→p.2.natAbs≤1000000→v.2.natAbs≤1000000 →
  EA KK l a q L n p.1 p.2 v.1 v.2=Akn a q L (euS n p v)
 | 0,p,v,h,_,_,_=>by omega
 | n+1,p,v,h,hb,hp,hv=>by
  have e:EA KK l a q L (n+1) p.1 p.2 v.1 v.2=Lb KK l a q L (fun v0 v1 v2 v3=>EA KK l a q L n v0 v1 v2 v3) p.1 p.2 v.1 v.2:=rfl;rw[e];unfold Lb
  dsimp only
  by_cases h0:v.2=0
  ·have h1:(v.2 != 0)=false:=by simp[h0]
   rw[h1,cF];simp only[euS,h0,if_true];rfl
  ·have h1:(v.2 != 0)=true:=by simp[h0]
   obtain⟨c1,c2,c3,c4⟩:=Xz hb hp h0 hv;have h2:=E2 p v h0;rw[h1,cT,cT,c1,c2,XB l a q L n v (nx p v) (by omega) (Acr hb h0) hv (by omega)]
   simp only[euS,if_neg h0]
noncomputable def Ako (a:Int) (q:Int) (L:Int→Int→Int→Int→Option Lt) (r:Vc×Int):Option Lt :=
 (Ic KK a r.2).bind fun y25=>L y25 (w (q+(1:Int))) r.1.1 r.1.2
theorem XC (l:List Vc) (a q:Int) (L:Int→Int→Int→Int→Option Lt):∀ (n:Nat) (p v:Vc),v.2.natAbs<n→Bd 36028797018963968 p v→p.2.natAbs≤1000000→v.2.natAbs≤1000000 →
  GN KK l a q L n p.1 p.2 v.1 v.2=Ako a q L (euS n p v)
 | 0,p,v,h,_,_,_=>by omega
 | n+1,p,v,h,hb,hp,hv=>by
  have e:GN KK l a q L (n+1) p.1 p.2 v.1 v.2=Pu KK l a q L (fun v0 v1 v2 v3=>GN KK l a q L n v0 v1 v2 v3) p.1 p.2 v.1 v.2:=rfl;rw[e];unfold Pu Fo Hg
  dsimp only
  by_cases h0:v.2=0
  ·have h1:(v.2 != 0)=false:=by simp[h0]
   rw[h1,cF];simp only[euS,h0,if_true];rfl
  ·have h1:(v.2 != 0)=true:=by simp[h0]
   obtain⟨c1,c2,c3,c4⟩:=Xz hb hp h0 hv;have h2:=E2 p v h0;simp only[oB];rw[h1,cT,cT,c3,c4,XC l a q L n v (nx p v) (by omega) (Acr hb h0) hv (by omega)]
   simp only[euS,if_neg h0]
abbrev Hs:=Int×Vc
def gI (a x:Int):Int:=((Int.gcd a x:Nat):Int)
def stI (s:Hs) (t:Vc):Hs:=(gI s.1 (euS KK s.2 t).2,(euS KK s.2 t).1)
def stR (s:Hs) (t:Vc):Hs:=(gI s.1 (euS KK s.2 t).2,((if gI s.1 (euS KK s.2 t).2>0 then (euS KK s.2 t).1.1 % gI s.1 (euS KK s.2 t).2 else (euS KK s.2 t).1.1),(euS KK s.2 t).1.2))
structure Oks (s:Hs) (t:Vc):Prop where
 bd:Bd 36028797018963968 s.2 t
 y:s.2.2.natAbs≤1000000
 ty:t.2.natAbs≤1000000
 a:s.1.natAbs≤1000000
 g:gI s.1 (euS KK s.2 t).2≤1000000
def CG (s:Hs):Lt:=(s.1,(if s.1>0 then (if s.2.2<0 then -s.2.1 else s.2.1) % s.1 else (if s.2.2<0 then -s.2.1 else s.2.1)),(if s.2.2<0 then -s.2.2 else s.2.2))
theorem Hx (a x:Int):0≤gI a x:=by unfold gI;omega
theorem B4 {n:Nat} (h:n≤1000000):n<KK:=by simp only[KK];omega
theorem Akp {n:Nat} (h:n≤1048576):n<KK:=by simp only[KK];omega
theorem Lx (l:List Vc) (hl:l.length≤1000000) (inv:Nat→Hs→Prop) (h0:inv 0 (0,0,0)) (h1:∀ q s (hq:q<l.length),inv q s→Oks s l[q]∧inv (q+1) (stR s l[q]))
  (h2:∀ s,inv l.length s→s.1≤1000000∧s.2.1.natAbs≤36028797018963968∧s.2.2.natAbs≤36028797018963968):Hf KK l=some (CG (l.foldl stR (0,0,0))):=by
 have h:=Ao (X:=Int×Int×Int×Int) (body:=fun L x=>FX KK l (fun c0 c1 d0 d1 d2 d3=>EA KK l c0 c1 (fun v0 v1 v2 v3=>L (v0,v1,v2,v3)) KK d0 d1 d2 d3) (fun v0 v1 v2 v3=>L (v0,v1,v2,v3)) x.1 x.2.1 x.2.2.1 x.2.2.2) l (fun q s=>(s.1,(q:Int),s.2.1,s.2.2)) stR (fun s=>some (CG s)) inv
  (fun L q s hq hi=>by
   obtain⟨ok,hn⟩:=h1 q s hq hi;refine⟨hn,?_⟩;have hy:=B4 ok.ty;have hbd:=Em KK s.2 l[q] hy ok.bd;unfold FX;simp only;rw[in1 hq,in0,gd hq,XB l s.1 q _ KK s.2 l[q] hy ok.bd ok.y ok.ty];simp only[aS,cT];unfold Akn;rw[Um ok.a (by have:=hbd.2;omega),oB,Aq (by omega)]
   show (bif decide (gI s.1 (euS KK s.2 l[q]).2>0) then _ else _)=_;unfold stR;by_cases hg:gI s.1 (euS KK s.2 l[q]).2>0
   ·rw[dT hg,cT];show (He KK (euS KK s.2 l[q]).1.1 (gI s.1 (euS KK s.2 l[q]).2)).bind _=_;rw[EF (by omega) ok.g]
    simp only[oB,if_pos hg];rfl
   ·rw[dF hg,cF];simp only[if_neg hg];rfl)
  (fun L s hi=>by
   obtain⟨e1,e2,e3⟩:=h2 s hi;unfold FX AaH;simp only;rw[AY,cF];unfold CG;by_cases hy:s.2.2<0
   ·rw[dT hy,cT,oB,Ay (n := -1*s.2.1) (by omega) (by omega),Ay (n := -1*s.2.2) (by omega) (by omega)]
    simp only[if_pos hy];have e4 : -1*s.2.1 = -s.2.1:=by omega
    have e5 : -1*s.2.2 = -s.2.2:=by omega
    rw[e4,e5];by_cases ha:s.1>0
    ·rw[dT ha,cT,EF (by omega) e1,if_pos ha];rfl
    ·rw[dF ha,cF,if_neg ha]
   ·rw[dF hy,cF];simp only[if_neg hy];by_cases ha:s.1>0
    ·rw[dT ha,cT,EF (by omega) e1,if_pos ha];rfl
    ·rw[dF ha,cF,if_neg ha]) KK 0 (0,0,0) (by omega) (by have:=B4 hl;omega) h0
 unfold Hf TK Lc;refine h.trans ?_;simp only[AqN]
theorem Ly (l:List Vc) (hl:l.length≤1000000) (inv:Nat→Hs→Prop) (h0:inv 0 (0,0,0)) (h1:∀ q s (hq:q<l.length),inv q s→Oks s l[q]∧inv (q+1) (stI s l[q]))
  (h2:∀ s,inv l.length s→1≤s.1∧s.1≤1000000∧s.2.1.natAbs≤36028797018963968∧s.2.2.natAbs≤36028797018963968):Lo KK l=some (CG (l.foldl stI (0,0,0))):=by
 have h:=Ao (X:=Int×Int×Int×Int) (body:=fun L x=>Id KK l (fun c0 c1 d0 d1 d2 d3=>GN KK l c0 c1 (fun v0 v1 v2 v3=>L (v0,v1,v2,v3)) KK d0 d1 d2 d3) (fun v0 v1 v2 v3=>L (v0,v1,v2,v3)) x.1 x.2.1 x.2.2.1 x.2.2.2) l (fun q s=>(s.1,(q:Int),s.2.1,s.2.2)) stI (fun s=>some (CG s)) inv
  (fun L q s hq hi=>by
   obtain⟨ok,hn⟩:=h1 q s hq hi;refine⟨hn,?_⟩;have hy:=B4 ok.ty;have hbd:=Em KK s.2 l[q] hy ok.bd;unfold Id;simp only;rw[in1 hq,in0,gd hq,XC l s.1 q _ KK s.2 l[q] hy ok.bd ok.y ok.ty];simp only[aS,cT];unfold Ako;rw[Acq ok.a (by have:=hbd.2;omega),oB,Aq (by omega)]
   rfl)
  (fun L s hi=>by
   obtain⟨e0,e1,e2,e3⟩:=h2 s hi;unfold Id Fo;simp only;rw[AY,cF];unfold CG;have ha:s.1>0:=by omega
   by_cases hy:s.2.2<0
   ·rw[dT hy,cT,oB,Ay (n := -1*s.2.1) (by omega) (by omega),Ay (n := -1*s.2.2) (by omega) (by omega)]
    simp only[if_pos hy];have e4 : -1*s.2.1 = -s.2.1:=by omega
    have e5 : -1*s.2.2 = -s.2.2:=by omega
    rw[e4,e5,P0 e0 e1,if_pos ha];rfl
   ·rw[dF hy,cF];simp only[if_neg hy];rw[P0 e0 e1,if_pos ha];rfl) KK 0 (0,0,0) (by omega) (by have:=B4 hl;omega) h0
 unfold Lo Abh Pv;refine h.trans ?_;simp only[AqN]
theorem Acu {a x y:Int} (h:a ∣ x-y):Int.gcd a x=Int.gcd a y:=by
 obtain⟨k,hk⟩:=h;have:x=y+a*k:=by omega
 subst this;simp
theorem GQ {a x y:Int} (h:a ∣ x-y):x % a=y % a :=
 Int.emod_eq_emod_iff_emod_sub_eq_zero.mpr (Int.emod_eq_zero_of_dvd h)
structure Rl (s r:Hs):Prop where
 a:s.1=r.1
 p:0≤s.1
 y:s.2.2=r.2.2
 x:s.1 ∣ s.2.1-r.2.1
theorem Agk {s r:Hs} (h:Rl s r) (t:Vc):Rl (stI s t) (stR r t):=by
 obtain⟨c1,c2,c3⟩:=Sd s.1 KK s.2 t r.2 t h.y rfl h.x (by simp)
 have hg:gI s.1 (euS KK s.2 t).2=gI r.1 (euS KK r.2 t).2:=by
  unfold gI;rw[Acu c3,h.a]
 have hd:gI s.1 (euS KK s.2 t).2 ∣ s.1:=by unfold gI;exact As7 ..
 refine⟨hg,Hx _ _,c1,?_⟩;have h1:=AtR hd c2;show gI s.1 (euS KK s.2 t).2 ∣ (euS KK s.2 t).1.1-(stR r t).2.1;unfold stR;simp only[← hg];split
 ·have e:(euS KK s.2 t).1.1-(euS KK r.2 t).1.1 % gI s.1 (euS KK s.2 t).2=((euS KK s.2 t).1.1-(euS KK r.2 t).1.1)+((euS KK r.2 t).1.1-(euS KK r.2 t).1.1 % gI s.1 (euS KK s.2 t).2):=by omega
  rw[e];exact Int.dvd_add h1 (Int.dvd_self_sub_emod)
 ·exact h1
theorem P4:∀ (l:List Vc) {s r:Hs},Rl s r→Rl (l.foldl stI s) (l.foldl stR r)
 | [],_,_,h=>h
 | t :: l,_,_,h=>P4 l (Agk h t)
theorem Acv {s r:Hs} (h:Rl s r):CG s=CG r:=by
 unfold CG;rw[← h.a,← h.y];have hx:=h.x;congr 2;split
 ·split
  ·apply GQ
   have e : -s.2.1 - -r.2.1 = -(s.2.1-r.2.1):=by omega
   rw[e];exact Int.dvd_neg.mpr hx
  ·exact GQ hx
 ·have h0:s.1=0:=by have:=h.p;omega
  rw[h0,Int.zero_dvd] at hx;have:s.2.1=r.2.1:=by omega
  rw[this]
def Gd (Y X:Nat):Prop:=(Y≤64∧X≤64)∨(Y≤32∧X≤8192)∨(Y≤16∧X≤1048576)∨(Y≤8∧X≤134217728)∨(Y≤4∧X≤17179869184)∨(Y≤2∧X≤2199023255552)∨(Y≤1∧X≤281474976710656)
structure Bx (t:Vc):Prop where
 x1:0≤t.1
 x2:t.1≤64
 y1:0≤t.2
 y2:t.2≤64
structure Pp (p:Vc):Prop where
 y:0≤p.2
 z:p.2=0→p=(0,0)
 g:1≤p.2→Gd p.2.natAbs p.1.natAbs
theorem Lz:∀ (n:Nat) (p v:Vc),0≤p.2→0≤v.2→0≤(euS n p v).1.2
 | 0,p,v,h,_=>h
 | n+1,p,v,h,h2=>by
  simp only[euS];split
  ·exact h
  ·exact Lz n v (nx p v) h2 (by rw[Uo];exact AsT _ h)
theorem AoF (n:Nat) {p v:Vc} (h:v.2=0):euS (n+1) p v=(p,v.1):=by
 simp only[euS,h,if_true]
theorem EG {p v:Vc} (h:v.2=0):euS KK p v=(p,v.1):=AoF 2097151 h
theorem Akq {Y X:Nat} (h:Gd Y X):Y≤64∧X≤281474976710656:=by unfold Gd at h;omega
theorem Akr {p t:Vc} (ht:Bx t) (hp:p.2.natAbs≤64):Dv p t≤p.1.natAbs*64+4096:=by
 unfold Dv;have h1:p.1.natAbs*t.2.natAbs≤p.1.natAbs*64:=Ar4 _ (by have:=ht.y1;have:=ht.y2;omega)
 have h2:t.1.natAbs*p.2.natAbs≤64*64:=Asj (by have:=ht.x1;have:=ht.x2;omega) hp
 omega
theorem Aks {p t:Vc} (ht:Bx t) (hp:Pp p):Bd 36028797018963968 p t∧p.2.natAbs≤64:=by
 obtain⟨x1,x2,y1,y2⟩:=ht;have hy:p.2.natAbs≤64∧p.1.natAbs≤281474976710656:=by
  rcases Asu p.2 1 with h | h
  ·have h0:p.2=0:=by have:=hp.y;omega
   rw[hp.z h0];simp
  ·exact Akq (hp.g h)
 refine⟨⟨by omega,by omega,?_⟩,hy.1⟩
 have:=Akr ⟨x1,x2,y1,y2⟩ hy.1;omega
theorem Acw {p t:Vc} (ht:Bx t) (hp:Pp p):Pp (euS KK p t).1∧(1≤p.2→1≤(euS KK p t).1.2∧(euS KK p t).1.2≤p.2)∧(p.2=0→(euS KK p t).1.2=t.2):=by
 obtain⟨hb,h64⟩:=Aks ht hp;have hn:=Lz KK p t hp.y ht.y1;have hlt:t.2.natAbs<KK:=B4 (by have:=ht.y1;have:=ht.y2;omega)
 have hg:=E3 KK p t hlt;have hx1:=ht.x1;have hx2:=ht.x2;have hy1:=ht.y1;have hy2:=ht.y2;rcases Asu p.2 1 with h | h
 ·have h0:p.2=0:=by have:=hp.y;omega
  have hp0:=hp.z h0;subst hp0;have hy:(euS KK (0,0) t).1.2=t.2:=by
   simp at hg;omega
  refine⟨⟨hn,fun h1=>?_,fun h1=>?_⟩,fun h1=>by simp at h1,fun _=>hy⟩
  ·rw[EG (by omega)]
  ·have:=(Em (B:=64) KK (0,0) t hlt ⟨by simp,by omega,by simp[Dv]⟩).1
   unfold Gd;omega
 ·have hG:=hp.g h;have h1:1≤(euS KK p t).1.2.natAbs:=by
   rw[hg];exact Nat.gcd_pos_of_pos_left _ (by omega)
  have h2:(euS KK p t).1.2.natAbs≤p.2.natAbs:=by
   rw[hg];exact Nat.gcd_le_left _ (by omega)
  refine⟨⟨hn,fun h3=>by omega,fun _=>?_⟩,fun _=>by omega,fun h0=>by omega⟩
  rcases Asu t.2 1 with h4 | h4
  ·rw[EG (by omega)];exact hG
  ·have hD:=Akr ht h64;have hP:p.1.natAbs≤Dv p t:=by
    unfold Dv;have:p.1.natAbs*1≤p.1.natAbs*t.2.natAbs:=Ar4 _ (by omega)
    omega
   have hV:t.1.natAbs≤Dv p t:=by
    unfold Dv;have:t.1.natAbs*1≤t.1.natAbs*p.2.natAbs:=Ar4 _ (by omega)
    omega
   have hB:=(Em (B:=Dv p t) KK p t hlt ⟨hP,hV,AqO _⟩).1;rcases Acs KK p t hlt (by simp[KK]) (by omega) with h5 | h5 | ⟨h5,h6⟩
   ·generalize (euS KK p t).1.2.natAbs=Y at *;generalize (euS KK p t).1.1.natAbs=X at *;unfold Gd at hG ⊢;omega
   ·rw[h5];exact hG
   ·rw[h5];unfold Gd at hG ⊢;omega
structure Iv (l:Lt) (q:Nat) (s:Hs):Prop where
 z:q=0→s=(0,0,0)
 a:1≤q→1≤s.1∧s.1≤l.1
 o:q=1→s.2.2=0
 y:2≤q→1≤s.2.2∧s.2.2≤l.2.2
 p:Pp s.2
theorem Se {a x:Int} (h:1≤a):1≤gI a x∧gI a x≤a:=by
 have h1:0<Int.gcd a x:=Int.gcd_pos_of_ne_zero_left _ (by omega)
 have h2:gI a x ∣ a:=by unfold gI;exact As7 ..
 have h3:=AtS (by omega) h2
 unfold gI at *;omega
theorem Akt {l:Lt} (hl:IsL l) {q:Nat} {s:Hs} (h:Iv l q s) {t:Vc} (ht:Bx t):Oks s t:=by
 obtain⟨hb,h64⟩:=Aks ht h.p;have ha:=hl.a2;refine⟨hb,by omega,by have:=ht.y1;have:=ht.y2;omega,?_,?_⟩
 ·rcases Arc q with h0 | h0
  ·rw[h.z h0];simp
  ·have:=h.a h0;omega
 ·rcases Arc q with h0 | h0
  ·rw[h.z h0];have:=(Em (B:=64) KK (0,0) t (B4 (by have:=ht.y1;have:=ht.y2;omega)) ⟨by simp,by have:=ht.x1;have:=ht.x2;omega,by simp[Dv]⟩).2
   unfold gI;simp only[ArL];omega
  ·have h1:=h.a h0;have:=Se (x:=(euS KK s.2 t).2) h1.1;omega
theorem Aku {l:Lt} (hl:IsL l) {q:Nat} {s:Hs} (h:Iv l q s) {t:Vc} (ht:Bx t) (h0:q=0→t=(l.1,0)) (h1:q=1→t.2=l.2.2) (s':Hs) (e1:s'.1=gI s.1 (euS KK s.2 t).2) (e2:s'.2.2=(euS KK s.2 t).1.2) (e3:Pp s'.2):Iv l (q+1) s':=by
 obtain⟨k1,k2,k3⟩:=Acw ht h.p;refine⟨fun h=>by omega,fun _=>?_,fun hq=>?_,fun hq=>?_,e3⟩
 ·rw[e1];rcases Arc q with hq | hq
  ·rw[h.z hq,h0 hq,EG rfl];unfold gI;simp only[ArL];have:=hl.a1;omega
  ·have h1:=h.a hq;have:=Se (x:=(euS KK s.2 t).2) h1.1;omega
 ·have hq0:q=0:=by omega
  rw[e2,h.z hq0,h0 hq0,EG rfl]
 ·rw[e2];rcases Arv q 2 with hq2 | hq2
  ·have hq1:q=1:=by omega
   rw[k3 (h.o hq1),h1 hq1];have:=hl.c1;omega
  ·have:=h.y hq2;have:=k2 this.1;omega
theorem Alm {p:Vc} (h:Pp p) {a:Int} (ha:a≤64):Pp ((if a>0 then p.1 % a else p.1),p.2):=by
 refine⟨h.y,fun h0=>?_,fun h1=>?_⟩
 ·have:=h.z h0;rw[this];simp
 ·have hg:=h.g h1;split
  ·rename_i h2;have h3:=Ar3 p.1 (show a≠0 by omega)
   have h4:=ArP p.1 h2;simp only;unfold Gd at hg ⊢;omega
  ·exact hg
theorem AoG {l:Lt} (hl:IsL l) {q:Nat} {s:Hs} (h:Iv l q s) {t:Vc} (ht:Bx t) (h0:q=0→t=(l.1,0)) (h1:q=1→t.2=l.2.2):Iv l (q+1) (stI s t) :=
 Aku hl h ht h0 h1 _ rfl rfl (Acw ht h.p).1
theorem ApY {l:Lt} (hl:IsL l) {q:Nat} {s:Hs} (h:Iv l q s) {t:Vc} (ht:Bx t) (h0:q=0→t=(l.1,0)) (h1:q=1→t.2=l.2.2):Iv l (q+1) (stR s t):=by
 refine Aku hl h ht h0 h1 _ rfl rfl (Alm (Acw ht h.p).1 ?_);have ha:=hl.a2;rcases Arc q with hq | hq
 ·rw[h.z hq,h0 hq,EG rfl];unfold gI;simp only[ArL];have:=hl.a1;omega
 ·have h1:=h.a hq;have:=Se (x:=(euS KK s.2 t).2) h1.1;omega
theorem Aln (l:Lt):Iv l 0 (0,0,0) :=
 ⟨fun _=>rfl,fun h=>by omega,fun h=>by omega,fun h=>by omega,⟨by simp,fun _=>rfl,fun h=>by simp at h⟩⟩
theorem Alo {l:Lt} (hl:IsL l) {q:Nat} (hq:2≤q) {s:Hs} (h:Iv l q s):IsL (CG s):=by
 obtain⟨a1,a2⟩:=h.a (by omega)
 obtain⟨y1,y2⟩:=h.y hq;obtain⟨b1,b2,b3,b4,b5,b6,b7⟩:=hl;have hy:¬ s.2.2<0:=by omega
 unfold CG;simp only[if_neg hy,if_pos (show s.1>0 by omega)]
 refine⟨a1,by simp only;omega,y1,by simp only;omega,Ar3 _ (by omega),ArP _ (by omega),?_⟩
 have m1:s.1*s.2.2≤l.1*s.2.2:=Arj a2 (by omega)
 have m2:l.1*s.2.2≤l.1*l.2.2:=ArX y2 (by omega)
 simp only;omega
theorem GR {α S:Type} (f:S→α→S) (P:Nat→S→Prop):∀ (l:List α) (q:Nat) (s:S),P q s→(∀ i s (h:i<l.length),P (q+i) s→P (q+i+1) (f s l[i]))→P (q+l.length) (l.foldl f s)
 | [],q,s,h,_=>h
 | a :: l,q,s,h,hs=>by
  rw[Arq];have:=GR f P l (q+1) (f s a) (hs 0 s (by simp) h) (fun i s' hi hP=>by
   have:=hs (i+1) s' (by simp;omega) (by rw[show q+(i+1)=q+1+i by omega];exact hP)
   rw[show q+(i+1)+1=q+1+i+1 by omega] at this
   simpa using this)
  rw[Ark,show q+(l.length+1)=q+1+l.length by omega]
  exact this
def Agl (l:List Vc):Lt:=CG (l.foldl stI (0,0,0))
theorem Acx {l:Lt} (hl:IsL l) (rest:List Vc) (hr:∀ t∈rest,Bx t) :
  ∀ q (hq:q<((l.1,0) :: (l.2.1,l.2.2) :: rest).length),Bx ((l.1,0) :: (l.2.1,l.2.2) :: rest)[q]∧(q=0→((l.1,0) :: (l.2.1,l.2.2) :: rest)[q]=(l.1,0))∧(q=1→((l.1,0) :: (l.2.1,l.2.2) :: rest)[q].2=l.2.2):=by
 obtain⟨a1,a2,c1,c2,b1,b2,ix⟩:=hl;intro q hq
 match q,hq with
 | 0,_=>exact⟨⟨by simp;omega,by simp;omega,by simp,by simp⟩,fun _=>rfl,fun h=>by omega⟩
 | 1,_=>exact⟨⟨by simp;omega,by simp;omega,by simp;omega,by simp;omega⟩,fun h=>by omega,fun _=>rfl⟩
 | q+2,hq=>exact⟨hr _ (by simp),fun h=>by omega,fun h=>by omega⟩
theorem Sf {l:Lt} (hl:IsL l) (rest:List Vc):∀ s,Iv l ((l.1,0) :: (l.2.1,l.2.2) :: rest).length s→1≤s.1∧s.1≤1000000∧s.2.1.natAbs≤36028797018963968∧s.2.2.natAbs≤36028797018963968:=by
 intro s h;have hlen:((l.1,0) :: (l.2.1,l.2.2) :: rest).length=rest.length+2:=by simp
 obtain⟨a1,a2⟩:=h.a (by omega)
 obtain⟨y1,y2⟩:=h.y (by omega)
 have:=Akq (h.p.g y1);have:=hl.a2;omega
theorem Acy {l:Lt} (hl:IsL l) (rest:List Vc) (hn:rest.length≤1000) (hr:∀ t∈rest,Bx t) :
  Hf KK ((l.1,0) :: (l.2.1,l.2.2) :: rest)=some (Agl ((l.1,0) :: (l.2.1,l.2.2) :: rest))∧IsL (Agl ((l.1,0) :: (l.2.1,l.2.2) :: rest)):=by
 have hb:=Acx hl rest hr;have hlen:((l.1,0) :: (l.2.1,l.2.2) :: rest).length=rest.length+2:=by simp
 have e1:=Lx _ (by omega) (Iv l) (Aln l) (fun q s hq h=>by
  obtain⟨b1,b2,b3⟩:=hb q hq;exact⟨Akt hl h b1,ApY hl h b1 b2 b3⟩) (fun s h=>(Sf hl rest s h).2)
 have hrl:=Acv (P4 ((l.1,0) :: (l.2.1,l.2.2) :: rest) (s:=(0,0,0)) (r:=(0,0,0)) ⟨rfl,by simp,rfl,by simp⟩)
 refine⟨by rw[e1,← hrl];rfl,?_⟩
 have:=GR stI (Iv l) ((l.1,0) :: (l.2.1,l.2.2) :: rest) 0 (0,0,0) (Aln l) (fun i s hi h=>by
  rw[Ari] at h ⊢;obtain⟨b1,b2,b3⟩:=hb i hi;exact AoG hl h b1 b2 b3)
 exact Alo hl (by omega) this
theorem Acz {l:Lt} (hl:IsL l) (rest:List Vc) (hn:rest.length≤1000) (hr:∀ t∈rest,Bx t) :
  Lo KK ((l.1,0) :: (l.2.1,l.2.2) :: rest)=some (Agl ((l.1,0) :: (l.2.1,l.2.2) :: rest)):=by
 have hb:=Acx hl rest hr;have hlen:((l.1,0) :: (l.2.1,l.2.2) :: rest).length=rest.length+2:=by simp
 exact Ly _ (by omega) (Iv l) (Aln l) (fun q s hq h=>by
  obtain⟨b1,b2,b3⟩:=hb q hq;exact⟨Akt hl h b1,AoG hl h b1 b2 b3⟩) (Sf hl rest)
abbrev Un:Mt:=(1,0,0,1)
theorem Akv:SmM Un:=⟨by simp,by simp,by simp,by simp⟩
def Hj (p:Pt):List Vc:=(Ab p.2.1).filter fun t=>AZ p (Un,t)
def BI (p:Pt):Lt:=Agl ((p.2.1.1,0) :: (p.2.1.2.1,p.2.1.2.2) :: Hj p)
theorem P5 {l:Lt} (hl:IsL l) {v:Vc} (h:v∈Ab l):Bx v:=by
 obtain⟨h1,h2,h3,h4⟩:=CO h;obtain⟨a1,a2,c1,c2,b1,b2,ix⟩:=hl;exact⟨by omega,by omega,by omega,by omega⟩
theorem En {p:Pt} (hp:IsP p):Hf KK ([(p.2.1.1,0),p.2.1.2]++Hj p)=some (BI p)∧IsL (BI p):=by
 have h1:(Hj p).length≤64:=Aq0 (ArA _ _) (AD hp.l);exact Acy hp.l (Hj p) (by omega) (fun t ht=>P5 hp.l (AqY.mp ht).1)
theorem Alp {p:Pt} (hp:IsP p):Lo KK ([(p.2.1.1,0),p.2.1.2]++Hj p)=some (BI p):=by
 have h1:(Hj p).length≤64:=Aq0 (ArA _ _) (AD hp.l);exact Acz hp.l (Hj p) (by omega) (fun t ht=>P5 hp.l (AqY.mp ht).1)
theorem NY (p:Pt) (s:List Vc):(Ab p.2.1).foldl (fun s t=>bif AZ p (Un,t) then s++[t] else s) s=s++Hj p:=by
 have:=Bm (fun t=>AZ p (Un,t)) (fun t:Vc=>t) (Ab p.2.1) s;rw[AsY] at this;exact this
theorem Ur {p:Pt} (hp:IsP p):Abx KK p=some (BI p):=by
 unfold Abx Abw RD;rw[B1 hp.l];simp only[oB];have hc:=AD hp.l;have h:=Ao (X:=Int×List Vc) (body:=fun L x=>PB KK p (Ab p.2.1) (fun v0 v1=>L (v0,v1)) x.1 x.2) (Ab p.2.1) (fun q s=>((q:Int),s)) (fun s t=>bif AZ p (Un,t) then s++[t] else s) (fun s=>(Hf KK s).bind fun y=>some y) (fun q s=>s.length≤q+2)
  (fun L q s hq hi=>by
   have hv:=BS hp.l (gM hq);refine⟨?_,?_⟩
   ·cases AZ p (Un,(Ab p.2.1)[q])<;>simp<;>omega
   unfold PB JP;simp only;rw[in1 hq,in0,gd hq];simp only[aS,cT,oB];rw[JU hp (m:=(Un,(Ab p.2.1)[q])) Akv hv,oB,DV (by simp;omega),Aq (by omega)]
   cases AZ p (Un,(Ab p.2.1)[q])<;>rfl)
  (fun L s hi=>by
   unfold PB;simp only;rw[AY,cF]) KK 0 [(p.2.1.1,0),p.2.1.2] (by omega) (by have:=B4 (n:=(Ab p.2.1).length) (by omega);omega) (by simp)
 unfold T3;refine h.trans ?_;simp only[AqN];rw[NY,(En hp).1];rfl
theorem LA {p:Pt} (hp:IsP p):Abk KK p=some (BI p):=by
 unfold Abk Abj Pn;rw[DX hp.l];simp only[oB];have hc:=AD hp.l;have h:=Ao (X:=Int×List Vc) (body:=fun L x=>Pw KK p ((p.2.1.1,0),p.2.1.2) (Ab p.2.1) (fun v0 v1=>L (v0,v1)) x.1 x.2) (Ab p.2.1) (fun q s=>((q:Int),s)) (fun s t=>bif AZ p (Un,t) then s++[t] else s) (fun s=>(Lo KK s).bind fun y=>some y) (fun q s=>s.length≤q+2)
  (fun L q s hq hi=>by
   have hv:=BS hp.l (gM hq);refine⟨?_,?_⟩
   ·cases AZ p (Un,(Ab p.2.1)[q])<;>simp<;>omega
   unfold Pw Wy;simp only;rw[in1 hq,in0,gd hq];simp only[aS,cT,oB];rw[Sa hp (m:=(Un,(Ab p.2.1)[q])) Akv hv,oB,DV (by simp;omega),Aq (by omega)]
   cases AZ p (Un,(Ab p.2.1)[q])<;>rfl)
  (fun L s hi=>by
   unfold Pw;simp only;rw[AY,cF]) KK 0 [(p.2.1.1,0),p.2.1.2] (by omega) (by have:=B4 (n:=(Ab p.2.1).length) (by omega);omega) (by simp)
 unfold TY;refine h.trans ?_;simp only[AqN];rw[NY,(Alp hp)];rfl
def onS (p:Pt) (l:Lt):Pt:=(p.1,l,(Ab l).map (atS p))
theorem AcA {p:Pt} (hp:IsP p) {l:Lt} (hl:IsL l):AbA KK p l=some (onS p l):=by
 unfold AbA Abz;rw[B1 hl];simp only[oB];have hc:=AD hl;have h:=Ao (X:=Int×List Int) (body:=fun L x=>PC KK p l (Ab l) (fun v0 v1=>L (v0,v1)) x.1 x.2) (Ab l) (fun q s=>((q:Int),s)) (fun s t=>s++[atS p t]) (fun s=>some (p.1,l,s)) (fun q s=>s.length≤q)
  (fun L q s hq hi=>by
   have hv:=BS hl (gM hq);refine⟨by simp;omega,?_⟩
   unfold PC;simp only;rw[in1 hq,in0,gd hq];simp only[aS,cT];rw[Lv hp (Xy hv),oB,Hi (by simp;omega),Aq (by omega)]
   rfl)
  (fun L s hi=>by
   unfold PC;simp only;rw[AY,cF]) KK 0 [] (by omega) (by have:=B4 (n:=(Ab l).length) (by omega);omega) (by simp)
 unfold T4;refine h.trans ?_;simp only[AqN];rw[Dd];rfl
theorem Zj {p:Pt} (hp:IsP p) {l:Lt} (hl:IsL l):Abn KK p l=some (onS p l):=by
 unfold Abn Abm;rw[DX hl];simp only[oB];have hc:=AD hl;have h:=Ao (X:=Int×List Int) (body:=fun L x=>Px KK p l (Ab l) (fun v0 v1=>L (v0,v1)) x.1 x.2) (Ab l) (fun q s=>((q:Int),s)) (fun s t=>s++[atS p t]) (fun s=>some (p.1,l,s)) (fun q s=>s.length≤q)
  (fun L q s hq hi=>by
   have hv:=BS hl (gM hq);refine⟨by simp;omega,?_⟩
   unfold Px;simp only;rw[in1 hq,in0,gd hq];simp only[aS,cT];rw[Acp hp (Xy hv),oB,Hi (by simp;omega),Aq (by omega)]
   rfl)
  (fun L s hi=>by
   unfold Px;simp only;rw[AY,cF]) KK 0 [] (by omega) (by have:=B4 (n:=(Ab l).length) (by omega);omega) (by simp)
 unfold TZ;refine h.trans ?_;simp only[AqN];rw[Dd];rfl
def Af (p:Pt):Pt:=onS p (BI p)
theorem Bn {p:Pt} (hp:IsP p):IsP (Af p):=by
 have hl:=(En hp).2;refine⟨hp.f1,hp.f2,hl,?_⟩;show ((((Ab (BI p)).map (atS p)).length:Nat):Int)=_;rw[AqZ,A9 hl,BB hl];rfl
theorem Hy {p:Pt} (hp:IsP p):Y1 KK p=some (Af p):=by
 unfold Y1;rw[Ur hp,oB,AcA hp (En hp).2,oB];rfl
theorem E4 {p:Pt} (hp:IsP p):M2 KK p=some (Af p):=by
 unfold M2;rw[LA hp,oB,Zj hp (En hp).2,oB];rfl
def InL (l:Lt) (v:Vc):Prop:=∃ i j:Int,v=(i*l.1+j*l.2.1,j*l.2.2)
theorem Bp (l:Lt):Clo (InL l):=by
 rintro u v k ⟨i,j,rfl⟩ ⟨i',j',rfl⟩
 refine⟨i+k*i',j+k*j',?_⟩;simp only[Ar5,Atv,Ata];congr 1;omega
theorem C1 {l:Lt} (hl:IsL l) (v:Vc):As l v=(0,0)↔InL l v:=by
 obtain⟨a1,a2,c1,c2,b1,b2,ix⟩:=hl;unfold As;constructor
 ·intro h;simp only[AtA] at h;obtain⟨h1,h2⟩:=h;obtain⟨i,hi⟩:=AtE h1;refine⟨i,v.2 / l.2.2,?_⟩;have h3:=Int.ediv_mul_cancel (AtE h2);have h4:i*l.1=l.1*i:=Aq5 _ _;refine Prod.ext ?_ h3.symm;simp only;omega
 ·rintro⟨i,j,rfl⟩
  simp only;have h1:j*l.2.2 / l.2.2=j:=Int.mul_ediv_cancel _ (by omega)
  rw[h1,show i*l.1+j*l.2.1-j*l.2.1=i*l.1 by omega,Int.mul_emod_left,Int.mul_emod_left]
theorem AcB (n:Nat) {a:Vc} (h:a.2≠0):euS (n+2) (0,0) a=(a,0):=by
 have h1:nx (0,0) a=(0,0):=by simp[nx]
 simp only[euS,h,if_false,h1,if_true]
theorem Dl {S:Vc→Prop} (hS:Clo S) {v:Vc} (h:S v):S (-v.1,-v.2):=by
 have:=hS v v (-2) h h;have e1:v.1 + -2*v.1 = -v.1:=by omega
 have e2:v.2 + -2*v.2 = -v.2:=by omega
 rwa [e1,e2] at this
theorem KF {S:Vc→Prop} (hS:Clo S) (x:Int):S ((x.natAbs:Int),0)↔S (x,0):=by
 rcases Int.natAbs_eq x with h | h
 ·rw[← h]
 ·constructor
  ·intro h1;have:=Dl hS h1;simp only[Int.neg_zero] at this
   rwa [← h] at this
  ·intro h1;have:=Dl hS h1;simp only[Int.neg_zero] at this;rw[show (x.natAbs:Int) = -x by omega]
   exact this
theorem two {a b:Vc} (ha:a.2.natAbs<1000000) (hb:b.2.natAbs<1000000) (hd:a.1*b.2-b.1*a.2≠0) :
  let s:=stI (stI (0,0,0) a) b
  0<s.1∧s.1*(s.2.2.natAbs:Int)=((a.1*b.2-b.1*a.2).natAbs:Int)∧∀ S:Vc→Prop,Clo S→((S a∧S b)↔(S (s.1,0)∧S s.2)):=by
 intro s;have hs:s=stI (stI (0,0,0) a) b:=rfl;by_cases h0:a.2=0
 ·have e1:stI (0,0,0) a=((a.1.natAbs:Int),(0,0)):=by
   simp only[stI,EG h0,gI,ArL]
  have hb0:b.2≠0:=by
   intro h;apply hd;rw[h0,h];simp
  have e2:euS KK (0,0) b=(b,0):=AcB 2097150 hb0;have e3:s=((a.1.natAbs:Int),b):=by
   rw[hs,e1];simp only[stI,e2,gI];congr 1;simp
  rw[e3];have ea:a=(a.1,0):=by rw[← h0]
  rw[h0] at hd ⊢;simp only[Ase,AtG] at hd ⊢;refine⟨?_,?_,?_⟩
  ·have:a.1≠0:=by rintro h;apply hd;rw[h];simp
   omega
  ·rw[Ar9,Asc]
  ·intro S hS;rw[KF hS a.1,← ea]
 ·have e1:stI (0,0,0) a=(0,a):=by
   have e2:euS KK (0,0) a=(a,0):=AcB 2097150 h0;simp only[stI,e2,gI];rfl
  have e3:s=(((euS KK a b).2.natAbs:Int),(euS KK a b).1):=by
   rw[hs,e1];simp only[stI,gI,ArL]
  have hlt:=B4 (n:=b.2.natAbs) (by omega)
  have hdet:=XA KK a b hlt;rw[e3];simp only;rw[Ar9] at hdet;refine⟨?_,?_,?_⟩
  ·rcases Arc (euS KK a b).2.natAbs with h | h
   ·rw[h,Nat.zero_mul] at hdet;omega
   ·omega
  ·rw[← hdet,Asc]
  ·intro S hS;rw[KF hS];constructor
   ·rintro⟨h1,h2⟩
    exact (Uq hS KK a b hlt h1 h2).symm
   ·rintro⟨h1,h2⟩
    exact P3 hS KK a b hlt h2 h1
def Hb (a b:Vc):Int:=a.1*b.2-b.1*a.2
theorem Agm {l:Lt} (hl:IsL l) {a b:Vc} (ha:a.2.natAbs<1000000) (hb:b.2.natAbs<1000000) (hd:(Hb a b).natAbs=l.1*l.2.2) :
  CG (stI (stI (0,0,0) a) b)=l↔InL l a∧InL l b:=by
 obtain⟨a1,a2,c1,c2,b1,b2,ix⟩:=hl;have hAC:0<l.1*l.2.2:=Atw (by omega) (by omega)
 obtain⟨hg,hm,hS⟩:=two ha hb (by unfold Hb at hd;omega)
 have hS:=hS (InL l) (Bp l);generalize stI (stI (0,0,0) a) b=s at *;rw[show a.1*b.2-b.1*a.2=Hb a b from rfl,hd] at hm
 rw[hS];have e0:CG s=(s.1,(if s.2.2<0 then -s.2.1 else s.2.1) % s.1,(if s.2.2<0 then -s.2.2 else s.2.2)):=by
  unfold CG;rw[if_pos hg]
 rw[e0];constructor
 ·intro h;rw[Asv,Asv] at h;obtain⟨h1,h2,h3⟩:=h;simp only at h1 h2 h3;rw[h1] at h2;refine⟨⟨1,0,by rw[h1];simp⟩,?_⟩
  split at h2
  ·rename_i hn;rw[if_pos hn] at h3;have h4:=AsX (-s.2.1) l.1;refine⟨-(-s.2.1 / l.1),-1,?_⟩;have h5:l.1*(-s.2.1 / l.1)=(-s.2.1 / l.1)*l.1:=Aq5 _ _;rw[ArB];refine Prod.ext ?_ ?_<;>simp only<;>omega
  ·rename_i hn;rw[if_neg hn] at h3;have h4:=AsX s.2.1 l.1;refine⟨s.2.1 / l.1,1,?_⟩;have h5:l.1*(s.2.1 / l.1)=(s.2.1 / l.1)*l.1:=Aq5 _ _;refine Prod.ext ?_ ?_<;>simp only<;>omega
 ·rintro⟨⟨i,j,h1⟩,⟨i',j',h2⟩⟩
  have h3:s.1=i*l.1+j*l.2.1:=congrArg (fun x:Vc=>x.1) h1;have h4:(0:Int)=j*l.2.2:=congrArg (fun x:Vc=>x.2) h1;have h5:s.2.1=i'*l.1+j'*l.2.1:=congrArg (fun x:Vc=>x.1) h2;have h6:s.2.2=j'*l.2.2:=congrArg (fun x:Vc=>x.2) h2;have hj:j=0:=by
   rcases AsU.mp h4.symm with h | h
   ·exact h
   ·omega
  subst hj;rw[Ass,Asw] at h3;have hi:1≤i:=by
   rcases Asu i 1 with h | h
   ·have:i*l.1≤0:=Int.mul_nonpos_of_nonpos_of_nonneg (by omega) (by omega)
    omega
   ·exact h
  have h7:(s.2.2.natAbs:Int)=(j'.natAbs:Int)*l.2.2:=by
   rw[h6,Ar9,Asc];congr 1;omega
  have hj':1≤(j'.natAbs:Int):=by
   rcases Asu (j'.natAbs:Int) 1 with h | h
   ·have:(j'.natAbs:Int)=0:=by omega
    rw[this,Ass] at h7;rw[h7,Ase] at hm;omega
   ·exact h
  have h8:i*(j'.natAbs:Int)*(l.1*l.2.2)=l.1*l.2.2:=by
   have e:i*(j'.natAbs:Int)*(l.1*l.2.2)=(i*l.1)*((j'.natAbs:Int)*l.2.2):=by ac_rfl
   rw[e,← h3,← h7,hm]
  have h9:i*(j'.natAbs:Int)=1:=by
   have:i*(j'.natAbs:Int)*(l.1*l.2.2)=1*(l.1*l.2.2):=by rw[h8,ArY]
   exact Int.eq_of_mul_eq_mul_right (by omega) this
  have hi1:i=1:=by
   have:=ArX hj' (show 0≤i by omega)
   omega
  subst hi1;rw[ArY] at h9 h3;have e1:(i'*l.1+l.2.1) % l.1=l.2.1:=by
   rw[Int.add_comm,Atl,ArT b1 b2]
  have e2:(-i'*l.1+l.2.1) % l.1=l.2.1:=by
   rw[Int.add_comm,Atl,ArT b1 b2]
  have hjc:j'=1∨j' = -1:=by omega
  rcases hjc with rfl | rfl
  ·rw[ArY] at h6 h5;have hn:¬ s.2.2<0:=by omega
   rw[if_neg hn,if_neg hn,h3,h5,h6,e1]
  ·have hn:s.2.2<0:=by omega
   have e9 : -i'*l.1 = -(i'*l.1):=ArB _ _;rw[if_pos hn,if_pos hn,h3,h5,h6,show -(i'*l.1 + -1*l.2.1) = -i'*l.1+l.2.1 by omega,e2]
   have : -(-1*l.2.2)=l.2.2:=by omega
   rw[this]
structure Bw (v:Vc):Prop where
 x:v.1.natAbs≤200
 y:v.2.natAbs≤200
theorem XD {a x:Int} {B:Nat} (h:x.natAbs≤B) (ha:a.natAbs≤B):(if a>0 then x % a else x).natAbs≤B:=by
 split
 ·rename_i h1;have h3:=Ar3 x (show a≠0 by omega)
  have h4:=ArP x h1;omega
 ·exact h
theorem AcC {a b:Vc} (ha:Bw a) (hb:Bw b):Hf KK [a,b]=some (CG (stI (stI (0,0,0) a) b)):=by
 have hrl:=Acv (P4 [a,b] (s:=(0,0,0)) (r:=(0,0,0)) ⟨rfl,by simp,rfl,by simp⟩)
 have hB0:Bd 200 (0,0) a:=⟨by simp,ha.x,by simp[Dv]⟩
 have hla:=B4 (n:=a.2.natAbs) (by have:=ha.y;omega)
 have hlb:=B4 (n:=b.2.natAbs) (by have:=hb.y;omega)
 obtain⟨k1,k2⟩:=Em KK (0,0) a hla hB0;have k3:=E3 KK (0,0) a hla;have k4:gI 0 (euS KK (0,0) a).2≤200:=by unfold gI;simp only[ArL];omega
 have s1y:(stR (0,0,0) a).2.2.natAbs≤200:=by
  show (euS KK (0,0) a).1.2.natAbs≤200;simp at k3;have:=ha.y;omega
 have s1x:(stR (0,0,0) a).2.1.natAbs≤200:=XD k1 (by have:=Hx 0 (euS KK (0,0) a).2;show (gI 0 (euS KK (0,0) a).2).natAbs≤200;omega)
 have s1a:(stR (0,0,0) a).1≤200:=k4;have s1p:0≤(stR (0,0,0) a).1:=Hx _ _;have hB1:Bd 80000 (stR (0,0,0) a).2 b:=by
  refine⟨by omega,by have:=hb.x;omega,?_⟩
  unfold Dv;have e1:=Asj s1x hb.y;have e2:=Asj hb.x s1y;omega
 obtain⟨m1,m2⟩:=Em KK _ b hlb hB1;have m3:=E3 KK (stR (0,0,0) a).2 b hlb;have m4:gI (stR (0,0,0) a).1 (euS KK (stR (0,0,0) a).2 b).2≤80000:=by
  rcases Asu (stR (0,0,0) a).1 1 with h | h
  ·have:(stR (0,0,0) a).1=0:=by omega
   rw[this];unfold gI;simp only[ArL];omega
  ·have:=Se (x:=(euS KK (stR (0,0,0) a).2 b).2) h;omega
 have m5:=Hx (stR (0,0,0) a).1 (euS KK (stR (0,0,0) a).2 b).2;have e:=Lx [a,b] (by simp) (fun q s=>s=([a,b].take q).foldl stR (0,0,0)) rfl
  (fun q s hq h=>by
   match q,hq with
   | 0,_ =>
    subst h;refine⟨⟨⟨by simp,by have:=ha.x;simp;omega,by simp[Dv]⟩,by simp,by have:=ha.y;simp;omega,by simp,?_⟩,rfl⟩
    show gI 0 (euS KK (0,0) a).2≤_;omega
   | 1,_ =>
    subst h;refine⟨⟨⟨?_,?_,?_⟩,?_,?_,?_,?_⟩,rfl⟩
    ·have:=hB1.bp;show (stR (0,0,0) a).2.1.natAbs≤_;omega
    ·have:=hB1.bv;show b.1.natAbs≤_;omega
    ·have:=hB1.d;show Dv (stR (0,0,0) a).2 b≤_;omega
    ·show (stR (0,0,0) a).2.2.natAbs≤_;omega
    ·show b.2.natAbs≤_;have:=hb.y;omega
    ·show (stR (0,0,0) a).1.natAbs≤_;omega
    ·show gI (stR (0,0,0) a).1 (euS KK (stR (0,0,0) a).2 b).2≤_;omega)
  (fun s h=>by
   subst h;have y2:(euS KK (stR (0,0,0) a).2 b).1.2.natAbs≤200:=by
    rw[m3];rcases Arc b.2.natAbs with h | h
    ·rw[h,Nat.gcd_zero_right];exact s1y
    ·have:=Nat.gcd_le_right (m:=(stR (0,0,0) a).2.2.natAbs) h;have:=hb.y;omega
   refine⟨?_,?_,?_⟩
   ·show gI (stR (0,0,0) a).1 (euS KK (stR (0,0,0) a).2 b).2≤_;omega
   ·have:=XD (a:=gI (stR (0,0,0) a).1 (euS KK (stR (0,0,0) a).2 b).2) m1 (by omega)
    show (stR (stR (0,0,0) a) b).2.1.natAbs≤_;unfold stR at this ⊢;exact Aq0 this (by omega)
   ·show (euS KK (stR (0,0,0) a).2 b).1.2.natAbs≤_;omega)
 rw[e,← hrl];rfl
def pmQ:List Mt:=[(-1,0,0,-1),(-1,0,0,1),(0,-1,-1,0),(0,-1,1,0),(0,1,-1,0),(0,1,1,0),(1,0,0,-1),(1,0,0,1)]
def pmH:List Mt:=[(-1,-1,0,1),(-1,-1,1,0),(-1,0,0,-1),(-1,0,1,1),(0,-1,-1,0),(0,-1,1,1),(0,1,-1,-1),(0,1,1,0),(1,0,-1,-1),(1,0,0,1),(1,1,-1,0),(1,1,0,-1)]
def pmS (f:Int):List Mt:=if f=0 then pmQ else pmH
theorem Zk:Nt KK 0=some pmQ:=by kernel_rfl
theorem Zl:Nt KK 1=some pmH:=by kernel_rfl
theorem Si:NK KK 0=some pmQ:=by kernel_rfl
theorem Sj:NK KK 1=some pmH:=by kernel_rfl
theorem Us {f:Int} (h1:0≤f) (h2:f≤1):Nt KK f=some (pmS f):=by
 have:f=0∨f=1:=by omega
 rcases this with rfl | rfl
 ·exact Zk
 ·exact Zl
theorem P6 {f:Int} (h1:0≤f) (h2:f≤1):NK KK f=some (pmS f):=by
 have:f=0∨f=1:=by omega
 rcases this with rfl | rfl
 ·exact Si
 ·exact Sj
def AO (m:Mt):Int:=m.1*m.2.2.2-m.2.1*m.2.2.1
theorem AcD:∀ m∈pmQ++pmH,(-1≤m.1∧m.1≤1)∧(-1≤m.2.1∧m.2.1≤1)∧(-1≤m.2.2.1∧m.2.2.1≤1)∧(-1≤m.2.2.2∧m.2.2.2≤1)∧(AO m=1∨AO m = -1):=by decide +kernel
theorem P7 {f:Int} {m:Mt} (h:m∈pmS f):m∈pmQ++pmH:=by
 unfold pmS at h;split at h
 ·exact List.mem_append_left _ h
 ·exact List.mem_append_right _ h
theorem Bq {m:Mt} (h:m∈pmQ++pmH):SmM m:=by
 obtain⟨h1,h2,h3,h4,_⟩:=AcD m h;exact⟨h1,h2,h3,h4⟩
theorem P8 {m:Mt} (h:m∈pmQ++pmH):AO m=1∨AO m = -1:=(AcD m h).2.2.2.2
theorem P9 (f:Int):(pmS f).length≤12:=by
 unfold pmS;split<;>decide
def BJ (l:Lt) (m:Mt):Bool:=(As l (Ag m (l.1,0))==(0,0))&&(As l (Ag m l.2)==(0,0))
theorem Iq {l:Lt} (hl:IsL l):Sv (l.1,0)∧Sv l.2:=by
 obtain⟨a1,a2,c1,c2,b1,b2,ix⟩:=hl;simp only[Sv];omega
theorem LB {l:Lt} (hl:IsL l) {m:Mt} (hm:SmM m):Bw (Ag m (l.1,0))∧Bw (Ag m l.2):=by
 obtain⟨a1,a2,c1,c2,b1,b2,ix⟩:=hl;have p1:=AX hm.a (x:=l.1) (B:=64) (by omega) (by omega) (by omega)
 have p2:=AX hm.c (x:=l.1) (B:=64) (by omega) (by omega) (by omega)
 have p3:=AX hm.a (x:=l.2.1) (B:=64) (by omega) (by omega) (by omega)
 have p4:=AX hm.b (x:=l.2.2) (B:=64) (by omega) (by omega) (by omega)
 have p5:=AX hm.c (x:=l.2.1) (B:=64) (by omega) (by omega) (by omega)
 have p6:=AX hm.d (x:=l.2.2) (B:=64) (by omega) (by omega) (by omega)
 simp only[Ag,Ase,Asw];exact⟨⟨by simp only;omega,by simp only;omega⟩,⟨by simp only;omega,by simp only;omega⟩⟩
theorem XE (l:Lt) (m:Mt):Hb (Ag m (l.1,0)) (Ag m l.2)=AO m*(l.1*l.2.2):=by
 simp only[Hb,Ag,AO,Ase,Asw,Atv,Ar5,Atc];have e1:m.1*l.1*(m.2.2.1*l.2.1)=m.1*l.2.1*(m.2.2.1*l.1):=by ac_rfl
 have e2:m.1*m.2.2.2*(l.1*l.2.2)=m.1*l.1*(m.2.2.2*l.2.2):=by ac_rfl
 have e3:m.2.1*m.2.2.1*(l.1*l.2.2)=m.2.1*l.2.2*(m.2.2.1*l.1):=by ac_rfl
 omega
theorem AcE {l:Lt} (hl:IsL l) {m:Mt} (hm:m∈pmQ++pmH):CG (stI (stI (0,0,0) (Ag m (l.1,0))) (Ag m l.2))=l↔BJ l m=true:=by
 obtain⟨b1,b2⟩:=LB hl (Bq hm);rw[Agm hl (by have:=b1.y;omega) (by have:=b2.y;omega) ?_]
 ·unfold BJ;rw[aT,beq_iff_eq,beq_iff_eq,C1 hl,C1 hl]
 ·rw[XE];have h0:0<l.1*l.2.2:=Atw (by have:=hl.a1;omega) (by have:=hl.c1;omega)
  rcases P8 hm with h | h<;>rw[h]<;>omega
theorem JV {l:Lt} (hl:IsL l) {m:Mt} (hm:SmM m):YL KK m l=some (CG (stI (stI (0,0,0) (Ag m (l.1,0))) (Ag m l.2))):=by
 unfold YL RD;simp only[oB];have e1:([(l.1,(0:Int)),l.2].getD ((0:Int)+(0:Int)).toNat ((0:Int),(0:Int)))=(l.1,0):=rfl;have e2:([(l.1,(0:Int)),l.2].getD ((0:Int)+(1:Int)).toNat ((0:Int),(0:Int)))=l.2:=rfl;obtain⟨s1,s2⟩:=Iq hl;obtain⟨b1,b2⟩:=LB hl hm;rw[e1,e2,Eb hm s1,Eb hm s2];simp only[oB];rw[AcC b1 b2];rfl
def AP (f:Int) (l:Lt):List Mt:=(pmS f).filter (BJ l)
theorem Ir {f:Int} (h1:0≤f) (h2:f≤1) {l:Lt} (hl:IsL l):YN KK f l=some (AP f l):=by
 unfold YN AaJ;rw[Us h1 h2];simp only[oB];have hc:=P9 f;have h:=Ao (X:=Int×List Mt) (body:=fun L x=>O9 KK f l (pmS f) (fun v0 v1=>L (v0,v1)) x.1 x.2) (pmS f) (fun q s=>((q:Int),s)) (fun s m=>bif BJ l m then s++[m] else s) (fun s=>some s) (fun q s=>s.length≤q)
  (fun L q s hq hi=>by
   have hm:=P7 (gM hq);refine⟨?_,?_⟩
   ·cases BJ l (pmS f)[q]<;>simp<;>omega
   unfold O9;simp only;rw[in1 hq,in0,gd hq];simp only[aS,cT];rw[JV hl (m:=(pmS f)[q]) (Bq hm),oB,All (by simp;omega),Aq (by omega)]
   have hst:=AcE hl hm;generalize CG (stI (stI (0,0,0) (Ag (pmS f)[q] (l.1,0))) (Ag (pmS f)[q] l.2))=r at *;have hr:((r.1==l.1)&&((r.2.1==l.2.1)&&(r.2.2==l.2.2)))=BJ l (pmS f)[q]:=by
    rw[ArU,← hst];simp only[aT,beq_iff_eq];rw[Asv,Asv]
   rw[hr];cases BJ l (pmS f)[q]<;>rfl)
  (fun L s hi=>by
   unfold O9;simp only;rw[AY,cF]) KK 0 [] (by omega) (by have:=B4 (n:=(pmS f).length) (by omega);omega) (by simp)
 unfold TL;refine h.trans ?_;simp only[AqN];have:=Bm (BJ l) (fun t:Mt=>t) (pmS f) [];rw[AsY,Aq8] at this;exact congrArg some this
theorem LC {l:Lt} (hl:IsL l) {v:Vc} (hv:Sm v):Lp KK l v=some (As l v==(0,0)):=by
 unfold Lp;rw[Jm hl hv];rfl
theorem Akw {v:Vc} (h:Bw v):Sm v:=by
 obtain⟨h1,h2⟩:=h;simp only[Sm];omega
theorem Zm {l:Lt} (hl:IsL l) {m:Mt} (hm:SmM m):WK KK m l (l.1,0) l.2=some (!BJ l m):=by
 obtain⟨s1,s2⟩:=Iq hl;obtain⟨b1,b2⟩:=LB hl hm;unfold WK;rw[Cq hm s1,Cq hm s2];simp only[oB,oT,tO,cT];rw[LC hl (Akw b1)];simp only[oB];unfold BJ;cases h:(As l (Ag m (l.1,0))==(0,0))
 ·rfl
 ·simp only[nT,nF,cT,oB,Atb,cF];rw[LC hl (Akw b2)];rfl
def F7 {α:Type} (p:α→Bool):Nat→List α→Int
 | _,[] => -1
 | q,a :: l=>bif p a then (q:Int) else F7 p (q+1) l
theorem LD {R α:Type} {body:(Int→Option R)→Int→Option R} (l:List α) (p:α→Bool) (fin:Int→Option R)
  (h1:∀ L q (hq:q<l.length),body L (q:Int)=bif p l[q] then fin (q:Int) else L ((q+1:Nat):Int))
  (h2:∀ L,body L (l.length:Int)=fin (-1)):∀ n q,q≤l.length→l.length-q<n→AJ body n (q:Int)=fin (F7 p q (l.drop q))
 | 0,q,_,hn=>by omega
 | n+1,q,hq,hn=>by
  show body (AJ body n) (q:Int)=_;by_cases hlt:q<l.length
  ·rw[h1 _ q hlt,LD l p fin h1 h2 n (q+1) hlt (by omega),dC hlt]
   simp only[F7];cases p l[q]<;>simp
  ·have:q=l.length:=by omega
   subst this;rw[h2,AtF];rfl
theorem GS {α:Type} (p:α→Bool):∀ (l:List α) (q:Nat),(F7 p q l = -1∧∀ a∈l,p a=false)∨(∃ k,k<l.length∧F7 p q l=((q+k:Nat):Int)∧(∀ a∈l.take k,p a=false)∧∃ a,l[k]? = some a∧p a=true)
 | [],q=>Or.inl ⟨rfl,by simp⟩
 | a :: l,q=>by
  simp only[F7];cases h:p a
  ·rcases GS p l (q+1) with ⟨h1,h2⟩ | ⟨k,h1,h2,h3,b,h4,h5⟩
   ·left;refine⟨by simpa using h1,?_⟩
    intro b hb;rcases AqQ.mp hb with rfl | hb
    ·exact h
    ·exact h2 b hb
   ·right;refine⟨k+1,by simp;omega,by simp[h2];omega,?_,b,by simpa using h4,h5⟩
    intro c hc;rw[AsP] at hc;rcases AqQ.mp hc with rfl | hc
    ·exact h
    ·exact h3 c hc
  ·right;exact⟨0,by simp,by simp,by simp,a,by simp,h⟩
theorem F8 {α:Type} {p:α→Bool} {l:List α} (h:∀ a∈l,p a=false):l.filter (fun a=>!p a)=l :=
 List.filter_eq_self.mpr fun a ha=>by simp[h a ha]
abbrev Ds:=Nat×List Mt
def AcF (p:Mt→Bool) (s:Ds) (a:Mt):Ds:=bif p a then s else (s.1+1,s.2.set s.1 a)
structure Dv2 (p:Mt→Bool) (l:List Mt) (q:Nat) (s:Ds):Prop where
 n:s.2.length=l.length
 i:s.1<q
 le:q≤l.length
 t:s.2.take s.1=(l.take q).filter fun a=>!p a
 d:s.2.drop q=l.drop q
theorem Sk {p:Mt→Bool} {l:List Mt} {q:Nat} {s:Ds} (h:Dv2 p l q s) (hq:q<l.length):Dv2 p l (q+1) (AcF p s l[q]):=by
 obtain⟨h1,h2,h3,h4,h5⟩:=h;have hd:s.2.drop (q+1)=l.drop (q+1):=by
  rw[← ArZ,← ArZ,h5]
 have ht:l.take (q+1)=l.take q++[l[q]]:=by rw[Atx];simp[hq]
 unfold AcF;cases hp:p l[q]
 ·simp only[cF];refine⟨by simp[h1],by simp only;omega,hq,?_,?_⟩
  ·simp only;rw[ht,Atn,← h4,Atx];congr 1
   ·rw[List.take_set_of_le (AqO _)]
   ·rw[AsZ (by omega)]
    simp[hp]
  ·simp only;rw[List.drop_set_of_lt (by omega),hd]
 ·simp only[cT];refine⟨h1,by omega,hq,?_,hd⟩
  rw[ht,Atn,← h4];simp[hp]
theorem M4 (l:List Mt) (hn:l.length≤1000) (f:Mt→Option Bool) (p:Mt→Bool) (hf:∀ m∈l,f m=some (p m)) :
  RY KK l f=some (l.filter fun a=>!p a):=by
 have hidx:RX KK l f=some (F7 p 0 l):=by
  have h:=LD (R:=Int) (body:=fun L x=>Kt KK l f (fun v0=>L v0) x) l p some
   (fun L q hq=>by
    unfold Kt;rw[in1 hq,in0,gd hq];simp only[aS,cT];rw[show f (l[q].1,l[q].2.1,l[q].2.2)=some (p l[q]) from hf _ (gM hq),oB,Aq (by omega)])
   (fun L=>by
    unfold Kt;rw[AY,cF]) KK 0 (by omega) (by have:=B4 (n:=l.length) (by omega);omega)
  unfold RX T6 PE;exact h
 unfold RY T7;rw[hidx];simp only[oB];rcases GS p l 0 with ⟨h1,h2⟩ | ⟨k,h1,h2,h3,b,h4,h5⟩
 ·rw[h1,F8 h2];rfl
 ·rw[Ari] at h2;have hne:((k:Int) == -1)=false:=by
   rw[bN];omega
  rw[h2,hne,cF,Aq (by omega)]
  have hb:l[k]=b:=by
   rw[AqR h1] at h4;exact Option.some.inj h4
  have hinv:Dv2 p l (k+1) (k,l):=by
   refine⟨rfl,by simp,h1,?_,rfl⟩
   have ht:l.take (k+1)=l.take k++[l[k]]:=by rw[Atx];simp[h1]
   simp only;rw[ht,Atn,F8 h3,hb];simp[h5]
  have h:=Ao (X:=Int×Int×List Mt) (body:=fun L x=>Ku KK f (k:Int) (fun v0 v1 v2=>L (v0,v1,v2)) x.1 x.2.1 x.2.2) l (fun q s=>((s.1:Int),(q:Int),s.2)) (AcF p) (fun s=>some (s.2.take s.1)) (Dv2 p l)
   (fun L q s hq hi=>by
    refine⟨Sk hi hq,?_⟩;obtain⟨i1,i2,i3,i4,i5⟩:=hi;have hq2:q<s.2.length:=by omega
    have hs1:s.1<s.2.length:=by omega
    have hg:s.2[q]=l[q]:=by
     have h6:(s.2.drop q)[0]? = (l.drop q)[0]?:=by rw[i5]
     simpa[hq,hq2] using h6
    unfold Ku;simp only;rw[in1 hq2,in0,gd hq2,hg];simp only[aS,cT];rw[show f (l[q].1,l[q].2.1,l[q].2.2)=some (p l[q]) from hf _ (gM hq),oB,Aq (by omega),Aq (by omega)]
    unfold AcF;cases p l[q]
    ·simp only[nF,cT,cF];rw[in1 hs1,in0];have hz:((0:Int)+(s.1:Int)).toNat=s.1:=by omega
     rw[hz];rfl
    ·rfl)
   (fun L s hi=>by
    obtain⟨i1,i2,i3,i4,i5⟩:=hi;unfold Ku;simp only;have ho:decide ((l.length:Int)<(s.2.length:Int))=false:=by simp;omega
    have hz:((0:Int)+(s.1:Int)).toNat=s.1:=by omega
    have hz2:(((0:Int)+(s.1:Int))+(((0:Int)+(s.2.length:Int))-((0:Int)+(s.1:Int)))).toNat=s.2.length:=by omega
    have hc:(clr s.2 s.1 s.2.length ((0:Int),((0:Int),((0:Int),(0:Int))))).length=s.2.length:=by
     unfold clr;simp;omega
    have hct:(clr s.2 s.1 s.2.length ((0:Int),((0:Int),((0:Int),(0:Int))))).take s.1=s.2.take s.1:=by
     unfold clr;rw[AqT,Ar0 (by simp;omega),AtN,Nat.min_self]
    rw[ho,cF,hz,hz2,hc,hct,in0];have d1:decide ((s.1:Int)≤(s.2.length:Int))=true:=by simp;omega
    rw[d1];simp) KK (k+1) (k,l) h1 (by have:=B4 (n:=l.length) (by omega);omega) hinv
  unfold PF;refine h.trans ?_;have hf:=GR (AcF p) (fun q s=>Dv2 p l q s) (l.drop (k+1)) (k+1) (k,l) hinv (fun i s hi hP=>by
   have hlt:k+1+i<l.length:=by simp at hi;omega
   have:=Sk hP hlt;simpa using this)
  have hend:k+1+(l.drop (k+1)).length=l.length:=by simp;omega
  rw[hend] at hf;have:=hf.t;rw[Asl] at this;exact congrArg some this
theorem LE {f:Int} (h1:0≤f) (h2:f≤1) {l:Lt} (hl:IsL l):AfM KK f l=some (AP f l):=by
 unfold AfM Pn;rw[P6 h1 h2];simp only[oB];rw[M4 (pmS f) (by have:=P9 f;omega) _ (fun m=>!BJ l m) (fun m hm=>Zm hl (Bq (P7 hm))),oB]
 unfold AP;simp only[Bool.not_not]
abbrev Mo:=Mt×Vc
def Jo (p:Pt) (m:Mt):List Mo:=((Ab p.2.1).filter fun t=>AZ p (m,t)).map fun t=>(m,t)
def Ad (p:Pt):List Mo:=(AP p.1 p.2.1).flatMap (Jo p)
theorem Sl (p:Pt) (m:Mt) (s:List Mo):(Ab p.2.1).foldl (fun s t=>bif AZ p (m,t) then s++[(m,t)] else s) s=s++Jo p m :=
 Bm (fun t=>AZ p (m,t)) (fun t:Vc=>((m,t):Mo)) (Ab p.2.1) s
theorem Cc {f:Int} {l:Lt} {m:Mt} (h:m∈AP f l):m∈pmQ++pmH:=P7 (AqY.mp h).1
theorem Is (f:Int) (l:Lt):(AP f l).length≤12:=Aq0 (ArA _ _) (P9 f)
theorem LF {p:Pt} (hp:IsP p) (m:Mt):(Jo p m).length≤64:=by
 unfold Jo;rw[AqZ];exact Aq0 (ArA _ _) (AD hp.l)
theorem Agn {p:Pt} (hp:IsP p) {ms:List Mt} (hms:∀ m∈ms,m∈pmQ++pmH) {L:Int→List Mo→Option (List Mo)} {x:Nat} (hx:x<ms.length) (hx2:x<100) {s:List Mo} (hs:s.length≤x*64) :
  Ih KK p (x:Int) ms (Ab p.2.1) L KK 0 s=L ((x+1:Nat):Int) (s++Jo p ms[x]):=by
 have hc:=AD hp.l;have hm:=hms _ (gM hx);have h:=Ao (X:=Int×List Mo) (body:=fun L13 z=>Kx KK p (x:Int) ms (Ab p.2.1) L (fun v0 v1=>L13 (v0,v1)) z.1 z.2) (Ab p.2.1) (fun q s=>((q:Int),s)) (fun s t=>bif AZ p (ms[x],t) then s++[(ms[x],t)] else s) (fun s=>L ((x+1:Nat):Int) s) (fun q s=>s.length≤x*64+q)
  (fun L13 q s hq hi=>by
   have hv:=BS hp.l (gM hq);refine⟨?_,?_⟩
   ·cases AZ p (ms[x],(Ab p.2.1)[q])<;>simp<;>omega
   unfold Kx;simp only;rw[in1 hq,in1 hx,in0,in0,gd hq,gd hx];simp only[aS,cT];rw[JU hp (m:=(ms[x],(Ab p.2.1)[q])) (Bq hm) hv,oB,E1 (by simp;omega),Aq (by omega)]
   cases AZ p (ms[x],(Ab p.2.1)[q])<;>rfl)
  (fun L13 s hi=>by
   unfold Kx;simp only;rw[AY,cF,Aq (by omega)]) KK 0 s (by omega) (by have:=B4 (n:=(Ab p.2.1).length) (by omega);omega) (by simpa using hs)
 unfold Ih;refine h.trans ?_;simp only[AqN];rw[Sl]
theorem JW {p:Pt} (hp:IsP p):Y5 KK p=some (Ad p):=by
 unfold Y5 AbN;rw[Ir hp.f1 hp.f2 hp.l,B1 hp.l];simp only[oB];have hc:=Is p.1 p.2.1;have h:=Ao (X:=Int×List Mo) (body:=fun L10 z=>Ii KK p (AP p.1 p.2.1) (Ab p.2.1) (fun c0 d0 d1=>Ih KK p c0 (AP p.1 p.2.1) (Ab p.2.1) (fun v0 v1=>L10 (v0,v1)) KK d0 d1) (fun v0 v1=>L10 (v0,v1)) z.1 z.2) (AP p.1 p.2.1) (fun q s=>((q:Int),s)) (fun s m=>s++Jo p m) (fun s=>some s) (fun q s=>s.length≤q*64)
  (fun L10 q s hq hi=>by
   refine⟨by have:=LF hp (AP p.1 p.2.1)[q];simp;omega,?_⟩
   unfold Ii;simp only;rw[in1 hq,cT];exact Agn hp (fun m hm=>Cc hm) hq (by omega) hi)
  (fun L10 s hi=>by
   unfold Ii;simp only;rw[AY,cF]) KK 0 [] (by omega) (by have:=B4 (n:=(AP p.1 p.2.1).length) (by omega);omega) (by simp)
 unfold PK;refine h.trans ?_;simp only[AqN];rw[DW];rfl
theorem Alq {p:Pt} (hp:IsP p) {ms:List Mt} (hms:∀ m∈ms,m∈pmQ++pmH) {L:Int→List Mo→Option (List Mo)} {x:Nat} (hx:x<ms.length) (hx2:x<100) {s:List Mo} (hs:s.length≤x*64) :
  Ie KK p (x:Int) ms (Ab p.2.1) L KK 0 s=L ((x+1:Nat):Int) (s++Jo p ms[x]):=by
 have hc:=AD hp.l;have hm:=hms _ (gM hx);have h:=Ao (X:=Int×List Mo) (body:=fun L14 z=>Kw KK p (x:Int) ms (Ab p.2.1) L (fun v0 v1=>L14 (v0,v1)) z.1 z.2) (Ab p.2.1) (fun q s=>((q:Int),s)) (fun s t=>bif AZ p (ms[x],t) then s++[(ms[x],t)] else s) (fun s=>L ((x+1:Nat):Int) s) (fun q s=>s.length≤x*64+q)
  (fun L14 q s hq hi=>by
   have hv:=BS hp.l (gM hq);refine⟨?_,?_⟩
   ·cases AZ p (ms[x],(Ab p.2.1)[q])<;>simp<;>omega
   unfold Kw;simp only;rw[in1 hq,in0,gd hq,gd hx];simp only[aS,cT];rw[Sa hp (m:=(ms[x],(Ab p.2.1)[q])) (Bq hm) hv,oB,E1 (by simp;omega),Aq (by omega)]
   cases AZ p (ms[x],(Ab p.2.1)[q])<;>rfl)
  (fun L14 s hi=>by
   unfold Kw;simp only;rw[AY,cF,Aq (by omega)]) KK 0 s (by omega) (by have:=B4 (n:=(Ab p.2.1).length) (by omega);omega) (by simpa using hs)
 unfold Ie;refine h.trans ?_;simp only[AqN];rw[Sl]
theorem E5 {p:Pt} (hp:IsP p):RZ KK p=some (Ad p):=by
 unfold RZ AbI;rw[LE hp.f1 hp.f2 hp.l];simp only[oB];have hc:=Is p.1 p.2.1;have h:=Ao (X:=Int×List Mo) (body:=fun L10 z=>Ig KK p (AP p.1 p.2.1) (fun c0 c1 d0 d1=>Ie KK p c0 (AP p.1 p.2.1) c1 (fun v0 v1=>L10 (v0,v1)) KK d0 d1) (fun v0 v1=>L10 (v0,v1)) z.1 z.2) (AP p.1 p.2.1) (fun q s=>((q:Int),s)) (fun s m=>s++Jo p m) (fun s=>some s) (fun q s=>s.length≤q*64)
  (fun L10 q s hq hi=>by
   refine⟨by have:=LF hp (AP p.1 p.2.1)[q];simp;omega,?_⟩
   unfold Ig;simp only;rw[in1 hq,in0,DX hp.l];simp only[aS,cT,oB];exact Alq hp (fun m hm=>Cc hm) hq (by omega) hi)
  (fun L10 s hi=>by
   unfold Ig;simp only;rw[AY,cF]) KK 0 [] (by omega) (by have:=B4 (n:=(AP p.1 p.2.1).length) (by omega);omega) (by simp)
 unfold PH;refine h.trans ?_;simp only[AqN];rw[DW];rfl
theorem LG {p:Pt} {g:Mo} (h:g∈Ad p):g.1∈AP p.1 p.2.1∧g.2∈Ab p.2.1:=by
 unfold Ad Jo at h;simp only[ArH,Aq6,AqY] at h;obtain⟨m,hm,t,⟨ht,_⟩,rfl⟩:=h;exact⟨hm,ht⟩
theorem Ga {α β:Type} (f:α→List β) (B:Nat) (hf:∀ a,(f a).length≤B):∀ l:List α,(l.flatMap f).length≤l.length*B
 | []=>by simp
 | a :: l=>by
  rw[List.flatMap_cons,lA,Ark,Asp];have:=Ga f B hf l;have:=hf a;omega
theorem DY {p:Pt} (hp:IsP p):(Ad p).length≤768:=by
 have h1:=Ga (Jo p) 64 (LF hp) (AP p.1 p.2.1);have h2:=Is p.1 p.2.1;have:(AP p.1 p.2.1).length*64≤12*64:=Arl _ h2;unfold Ad;omega
def dv (a b:Int):Int:=if b=0 then 0 else a / b
noncomputable def axS (m:Mt):Vc:=(FZ KK m).getD (0,0)
def EH (m:Mt):Mt:=(-m.1,-m.2.1,-m.2.2.1,-m.2.2.2)
noncomputable def alS (m:Mt):Int:=if (axS m).1=0 then dv m.2.2.1 (axS m).2 else dv (1+m.1) (axS m).1
noncomputable def beS (m:Mt):Int:=if (axS m).1=0 then dv (1+m.2.2.2) (axS m).2 else dv m.2.1 (axS m).1
def le3 (x:Int):Bool:=decide (-3≤x)&&decide (x≤3)
noncomputable def AoH (m:Mt):Bool:=(AO m != -1)||((R2 KK m==some true)&&(FZ KK m==some (axS m))&&(Xr KK m==some (EH m))&&(FZ KK (EH m)==some (axS (EH m))) &&
 ((1+m.1==alS m*(axS m).1)&&(m.2.1==beS m*(axS m).1)&&(m.2.2.1==alS m*(axS m).2)&&(1+m.2.2.2==beS m*(axS m).2)) &&
 ((axS m).1 != 0||(axS m).2 != 0)&&(alS m != 0||beS m != 0)&&le3 (alS m)&&le3 (beS m)&&le3 (axS m).1&&le3 (axS m).2&&le3 (axS (EH m)).1&&le3 (axS (EH m)).2)
theorem Ago:(pmQ++pmH).all AoH=true:=by kernel_rfl
structure Rf (m:Mt):Prop where
 r:R2 KK m=some true
 ax:FZ KK m=some (axS m)
 ng:Xr KK m=some (EH m)
 an:FZ KK (EH m)=some (axS (EH m))
 c1:1+m.1=alS m*(axS m).1
 c2:m.2.1=beS m*(axS m).1
 c3:m.2.2.1=alS m*(axS m).2
 c4:1+m.2.2.2=beS m*(axS m).2
 nz:(axS m).1≠0∨(axS m).2≠0
 ab:alS m≠0∨beS m≠0
 la : -3≤alS m∧alS m≤3
 lb : -3≤beS m∧beS m≤3
 x1 : -3≤(axS m).1∧(axS m).1≤3
 x2 : -3≤(axS m).2∧(axS m).2≤3
 y1 : -3≤(axS (EH m)).1∧(axS (EH m)).1≤3
 y2 : -3≤(axS (EH m)).2∧(axS (EH m)).2≤3
theorem AcG {m:Mt} (hm:m∈pmQ++pmH) (hd:AO m = -1):Rf m:=by
 have h:=AqL.mp Ago m hm;unfold AoH at h;simp only[hd,bne_self_eq_false,Aro,Ash,aT,beq_iff_eq,ArG,bne_iff_ne,le3,dE] at h;obtain⟨⟨⟨⟨⟨⟨⟨⟨⟨⟨⟨⟨k1,k2⟩,k3⟩,k4⟩,⟨⟨⟨k5,k6⟩,k7⟩,k8⟩⟩,k9⟩,k10⟩,k11⟩,k12⟩,k13⟩,k14⟩,k15⟩,k16⟩:=h;exact⟨k1,k2,k3,k4,k5,k6,k7,k8,k9,k10,k11,k12,k13,k14,k15,k16⟩
noncomputable def AC (m:Mt) (v:Vc):Int:=alS m*v.1+beS m*v.2
theorem Df {a x:Int} (h : -3≤a∧a≤3) {B:Int} (h1 : -B≤x) (h2:x≤B) (hB:0≤B) : -(3*B)≤a*x∧a*x≤3*B:=by
 have:a = -3∨a = -2∨a = -1∨a=0∨a=1∨a=2∨a=3:=by omega
 rcases this with rfl | rfl | rfl | rfl | rfl | rfl | rfl<;>omega
theorem JX {m:Mt} (hr:Rf m) {v:Vc} (hv:Sv v) : -6000000≤AC m v∧AC m v≤6000000:=by
 obtain⟨v1,v2,v3,v4⟩:=hv;have h1:=Df hr.la v1 v2 (by omega)
 have h2:=Df hr.lb v3 v4 (by omega)
 unfold AC;omega
theorem LH {m:Mt} (hm:SmM m) (hr:Rf m) {v:Vc} (hv:Sv v):NU KK m v=some (AC m v):=by
 obtain⟨b1,b2,b3,b4⟩:=De hm hv;obtain⟨v1,v2,v3,v4⟩:=id hv;have hal:=JX hr hv;unfold NU Hg;rw[Cq hm hv];simp only[oB];rw[hr.ax,oB,Ay (n:=v.1+(Ag m v).1) (by omega) (by omega),Ay (n:=v.2+(Ag m v).2) (by omega) (by omega)]
 have e1:v.1+(Ag m v).1=AC m v*(axS m).1:=by
  have h1:v.1+(Ag m v).1=(1+m.1)*v.1+m.2.1*v.2:=by simp only[Ag,Ar5];omega
  rw[h1,hr.c1,hr.c2];simp only[AC,Ar5];have h2:alS m*(axS m).1*v.1=alS m*v.1*(axS m).1:=by ac_rfl
  have h3:beS m*(axS m).1*v.2=beS m*v.2*(axS m).1:=by ac_rfl
  omega
 have e2:v.2+(Ag m v).2=AC m v*(axS m).2:=by
  have h1:v.2+(Ag m v).2=m.2.2.1*v.1+(1+m.2.2.2)*v.2:=by simp only[Ag,Ar5];omega
  rw[h1,hr.c3,hr.c4];simp only[AC,Ar5];have h2:alS m*(axS m).2*v.1=alS m*v.1*(axS m).2:=by ac_rfl
  have h3:beS m*(axS m).2*v.2=beS m*v.2*(axS m).2:=by ac_rfl
  omega
 rw[e1,e2];by_cases h0:(axS m).1=0
 ·have h1:((axS m).1 != 0)=false:=by simp[h0]
  have h2:(axS m).2≠0:=by rcases hr.nz with h | h;exact absurd h0 h;exact h
  have h3:((axS m).2 != 0)=true:=by simp[h2]
  rw[h1,h3,cF,cT,Ath _ h2,Ay (by omega) (by omega)]
 ·have h1:((axS m).1 != 0)=true:=by simp[h0]
  rw[h1,cT,cT,Ath _ h0,Ay (by omega) (by omega)]
noncomputable def gS (l:Lt) (m:Mt):Int:=gI (AC m (l.1,0)) (AC m l.2)
noncomputable def Hz (l:Lt) (g:Mo):Bool:=(AC g.1 g.2).tmod (gS l g.1)==0
theorem Alr {l:Lt} (hl:IsL l) {m:Mt} (hr:Rf m):gS l m≠0:=by
 intro h;unfold gS gI at h;have h1:Int.gcd (AC m (l.1,0)) (AC m l.2)=0:=by omega
 rw[Int.gcd_eq_zero_iff] at h1;obtain⟨h2,h3⟩:=h1;simp only[AC,Ase,Asw] at h2;have h4:alS m=0:=by
  rcases AsU.mp h2 with h | h
  ·exact h
  ·have:=hl.a1;omega
 have h5:beS m≠0:=by rcases hr.ab with h | h;exact absurd h4 h;exact h
 unfold AC at h3;rw[h4,Ass,AtJ] at h3;rcases AsU.mp h3 with h | h
 ·exact h5 h
 ·have:=hl.c1;omega
theorem M5 {l:Lt} (hl:IsL l) {g:Mo} (hm:SmM g.1) (hr:Rf g.1) (ht:Sv g.2):NV KK l g=some (Hz l g):=by
 obtain⟨s1,s2⟩:=Iq hl;have b1 : -500≤AC g.1 (l.1,0)∧AC g.1 (l.1,0)≤500:=by
  have:=Df (x:=l.1) hr.la (B:=64) (by have:=hl.a1;omega) (by have:=hl.a2;omega) (by omega)
  simp only[AC,Ase];omega
 have b2:=JX hr s2;unfold NV Pn;rw[hr.r,LH hm hr ht];simp only[oB,nT,cF];rw[LH hm hr s1,LH hm hr s2];simp only[oB];rw[Acq (by omega) (by omega),oB]
 have h0:((((AC g.1 (l.1,0)).gcd (AC g.1 l.2):Nat):Int) != 0)=true:=by
  rw[bne_iff_ne];exact Alr hl hr
 rw[h0];rfl
def A5 (k:Nat) (v:Vc):Vc:=((k:Int)*v.1,(k:Int)*v.2)
theorem XF {l:Lt} (hl:IsL l) (v:Vc):As l (A5 (l.1.toNat*l.2.2.toNat) v)=(0,0):=by
 rw[C1 hl];refine⟨l.2.2*v.1-v.2*l.2.1,l.1*v.2,?_⟩;unfold A5;rw[BB hl,Atc];have e1:l.1*l.2.2*v.1=l.2.2*v.1*l.1:=by ac_rfl
 have e2:v.2*l.2.1*l.1=l.1*v.2*l.2.1:=by ac_rfl
 have e3:l.1*l.2.2*v.2=l.1*v.2*l.2.2:=by ac_rfl
 refine Prod.ext ?_ e3;simp only;omega
theorem NZ (k:Nat) (v:Vc):((A5 k v).1+v.1,(A5 k v).2+v.2)=A5 (k+1) v:=by
 simp only[A5,Ate,Ar5];simp
theorem Dg {v:Vc} (h1 : -3≤v.1∧v.1≤3) (h2 : -3≤v.2∧v.2≤3) {k:Nat} (hk:k≤70) : -210≤(A5 k v).1∧(A5 k v).1≤210∧-210≤(A5 k v).2∧(A5 k v).2≤210:=by
 have e1:=Df h1 (x:=(k:Int)) (B:=70) (by omega) (by omega) (by omega)
 have e2:=Df h2 (x:=(k:Int)) (B:=70) (by omega) (by omega) (by omega)
 have c1:(k:Int)*v.1=v.1*k:=Aq5 _ _;have c2:(k:Int)*v.2=v.2*k:=Aq5 _ _;simp only[A5];omega
theorem Hk {l:Lt} (hl:IsL l) {v:Vc} (h1 : -3≤v.1∧v.1≤3) (h2 : -3≤v.2∧v.2≤3):∀ (n k:Nat),k≤l.1.toNat*l.2.2.toNat→l.1.toNat*l.2.2.toNat-k<n→∃ r,Ea KK l v n (A5 k v).1 (A5 k v).2=some r
 | 0,k,_,hn=>by omega
 | n+1,k,hk,hn=>by
  have hix:=BB hl;have h64:=hl.ix;have hb:=Dg h1 h2 (k:=k) (by omega)
  have hb2:=Dg h1 h2 (k:=k+1) (by omega)
  have e:Ea KK l v (n+1) (A5 k v).1 (A5 k v).2=Il KK l v (fun v0 v1=>Ea KK l v n v0 v1) (A5 k v).1 (A5 k v).2:=rfl;rw[e];unfold Il Hg;rw[LC hl (v:=((A5 k v).1,(A5 k v).2)) (by simp only[Sm];omega)]
  simp only[oB];cases hr:(As l ((A5 k v).1,(A5 k v).2)==(0,0))
  ·simp only[nF,cT];have hne:k≠l.1.toNat*l.2.2.toNat:=by
    intro h;rw[bN] at hr
    apply hr
    rw[h];exact XF hl v
   have hs:=NZ k v;rw[Asv] at hs;simp only at hs;rw[Ay (n:=(A5 k v).1+v.1) (by omega) (by omega),Ay (n:=(A5 k v).2+v.2) (by omega) (by omega),hs.1,hs.2]
   exact Hk hl h1 h2 n (k+1) (by omega) (by omega)
  ·exact⟨_,rfl⟩
theorem Hl {l:Lt} (hl:IsL l) {v:Vc} (h1 : -3≤v.1∧v.1≤3) (h2 : -3≤v.2∧v.2≤3):∃ r,Hh KK l v=some r:=by
 unfold Hh PW;have hix:=BB hl;have h64:=hl.ix;have h0:0<l.1*l.2.2:=Atw (by have:=hl.a1;omega) (by have:=hl.c1;omega)
 have e:(A5 1 v)=v:=by simp[A5]
 have:=Hk hl h1 h2 KK 1 (by omega) (by have:=B4 (n:=l.1.toNat*l.2.2.toNat) (by omega);omega)
 rw[e] at this;exact this
theorem Qa {l:Lt} (hl:IsL l) {m:Mt} (hr:Rf m):∃ b,F3 KK l m=some b:=by
 obtain⟨r1,e1⟩:=Hl hl hr.x1 hr.x2;obtain⟨r2,e2⟩:=Hl hl hr.y1 hr.y2;unfold F3 Xs RR;rw[hr.ax,oB,e1,oB,hr.ng,oB,hr.an,oB,e2];exact⟨_,rfl⟩
noncomputable def Gb (l:Lt) (m:Mt):Bool:=(F3 KK l m).getD false
theorem Qb {l:Lt} (hl:IsL l) {m:Mt} (hr:Rf m):F3 KK l m=some (Gb l m):=by
 obtain⟨b,hb⟩:=Qa hl hr;unfold Gb;rw[hb];rfl
noncomputable def Aqz (l:Lt) (s:Int×Int) (g:Mo):Int×Int :=
 bif AO g.1==1 then s else bif !Hz l g then (s.1+2,s.2) else bif Gb l g.1 then (s.1+1,s.2+1) else (s.1,s.2+2)
theorem Ut {m:Mt} (hm:SmM m):ED KK m=some (AO m)∧WZ KK m=some (AO m):=by
 have h1:=AX hm.a (x:=m.2.2.2) (B:=1) hm.d.1 hm.d.2 (by omega)
 have h2:=AX hm.b (x:=m.2.2.1) (B:=1) hm.c.1 hm.c.2 (by omega)
 unfold ED WZ AO;rw[Ay (n:=m.1*m.2.2.2) (by omega) (by omega),Ay (n:=m.2.1*m.2.2.1) (by omega) (by omega),Ay (by omega) (by omega)]
 exact⟨rfl,rfl⟩
theorem Akx (a b c:Int):HZ KK a b c=some (decide (b≤a∧a≤c)):=by
 unfold HZ
 try simp only[oT,tO,cT]
 by_cases h:b≤a<;>simp[h]
theorem EI (a b c:Int):EC KK a b c=some (decide (b≤a∧a≤c)):=by
 unfold EC
 try simp only[oT,tO,cT]
 by_cases h:b≤a<;>simp[h]
def okL (l:Lt):Bool:=decide (1≤l.1∧l.1≤64)&&decide (1≤l.2.2∧l.2.2≤64)&&decide (0≤l.2.1∧l.2.1≤l.1-1)&&decide (l.1*l.2.2≤64)
theorem C2 {l:Lt}:okL l=true↔IsL l:=by
 unfold okL;simp only[aT,dE];constructor
 ·rintro⟨⟨⟨⟨a1,a2⟩,c1,c2⟩,b1,b2⟩,ix⟩
  exact⟨a1,a2,c1,c2,b1,by omega,ix⟩
 ·rintro⟨a1,a2,c1,c2,b1,b2,ix⟩
  exact⟨⟨⟨⟨a1,a2⟩,c1,c2⟩,b1,by omega⟩,ix⟩
theorem Sn {a c:Int} (h1:1≤a) (h2:a≤64) (h3:1≤c) (h4:c≤64):0≤a*c∧a*c≤4096:=by
 have e1:0≤a*c:=Atm (by omega) (by omega)
 have e2:a*c≤64*c:=Arj h2 (by omega)
 omega
theorem Jp (l:Lt):VW KK l=some (okL l):=by
 unfold VW okL;simp only[Akx,oB,oT,tO,cT];by_cases h1:1≤l.1∧l.1≤64
 ·by_cases h2:1≤l.2.2∧l.2.2≤64
  ·have:=Sn h1.1 h1.2 h2.1 h2.2;rw[Ay (n:=l.1-1) (by omega) (by omega),Ay (n:=l.1*l.2.2) (by omega) (by omega)]
   by_cases h3:0≤l.2.1∧l.2.1≤l.1-1<;>simp[h1,h2,h3]
  ·simp[h1,h2]
 ·simp[h1]
theorem Qc (l:Lt):Afp KK l=some (okL l):=by
 unfold Afp RR okL;simp only[EI,oB,oT,tO,cT];by_cases h1:1≤l.1∧l.1≤64
 ·by_cases h2:1≤l.2.2∧l.2.2≤64
  ·have:=Sn h1.1 h1.2 h2.1 h2.2;rw[Ay (n:=l.1-1) (by omega) (by omega),Ay (n:=l.1*l.2.2) (by omega) (by omega)]
   by_cases h3:0≤l.2.1∧l.2.1≤l.1-1<;>simp[h1,h2,h3]
  ·simp[h1,h2]
 ·simp[h1]
def okF (f:Int):Bool:=decide (0≤f∧f≤1)
theorem LJ (f:Int):VU KK f=some (okF f):=by
 unfold VU okF
 try simp only[oT,tO,cT]
 by_cases h:f=0
 ·subst h;rfl
 ·by_cases h1:f=1
  ·subst h1;rfl
  ·have h2:(f==0)=false:=by simp[h]
   have h3:(f==1)=false:=by simp[h1]
   rw[h2,h3];have:¬ (0≤f∧f≤1):=by omega
   simp[this]
theorem Uu (f:Int):Afn KK f=some (okF f):=by
 unfold Afn;rw[EI];rfl
theorem HA (f:Int) (l:Lt):YK KK f l=some (if okF f&&okL l then 0 else 1):=by
 unfold YK;rw[LJ,Jp];cases okF f<;>cases h:okL l<;>rfl
def okC (c:Int):Bool:=decide (0≤c∧c≤9)
theorem Qd {l:List Int} (hl:l.length≤1048576):Abt KK l 64 0 9=some (l.all okC&&decide (l.length≤64)):=by
 have h:=CZ (X:=Int) (body:=fun L x=>Pz KK l 64 0 9 (fun v0=>L v0) x) l (fun q=>(q:Int)) okC (some false) (some (decide ((l.length:Int)≤64)))
  (fun L q hq=>by
   unfold Pz;rw[in1 hq,in0,gd hq,Akx];simp only[aS,cT,oB];rw[Aq (by omega)]
   show (bif !okC l[q] then _ else _)=_;cases okC l[q]<;>rfl)
  (fun L=>by
   unfold Pz;rw[AY,cF]) KK 0 (by omega) (by have:=Akp hl;omega)
 unfold Abt Abs T1;refine h.trans ?_;simp only[AqN];have e:decide ((l.length:Int)≤64)=decide (l.length≤64):=by
  rw[decide_eq_decide];omega
 rw[e];cases l.all okC<;>rfl
theorem Qe {l:List Int} (hl:l.length≤1048576):Afr KK l 0 9=some (l.all okC):=by
 unfold Afr Aa5 Wv TT Pm;have h:=LD (R:=Int) (body:=fun L x=>Kq KK l (fun z1=>Wu KK z1 0 9) (fun v0=>L v0) x) l (fun c=>!okC c) some
  (fun L q hq=>by
   unfold Kq Wu;rw[in1 hq,in0,gd hq];simp only[aS,cT,EI,oB];rw[Aq (by omega)]
   rfl)
  (fun L=>by
   unfold Kq;rw[AY,cF]) KK 0 (by omega) (by have:=Akp hl;omega)
 rw[AqN] at h;refine Eq.trans (congrArg (fun o:Option Int=>(o.bind fun y1=>some (decide (y1≥(0:Int)))).bind fun y2=>some (!y2)) h) ?_;simp only[oB,Arf];rcases GS (fun c=>!okC c) l 0 with ⟨h1,h2⟩ | ⟨k,h1,h2,h3,b,h4,h5⟩
 ·rw[h1];have:l.all okC=true:=AqL.mpr fun a ha=>by have:=h2 a ha;simpa using this
  rw[this];rfl
 ·rw[h2];have:l.all okC=false:=by
   rw[List.all_eq_false];refine⟨b,Aq4 h4,?_⟩;simpa using h5
  rw[this];simp
def okP (p:Pt):Bool:=okF p.1&&okL p.2.1&&decide ((p.2.2.length:Int)=p.2.1.1*p.2.1.2.2)&&p.2.2.all okC
theorem DJ {p:Pt} (h:okP p=true):IsP p:=by
 unfold okP at h;simp only[aT,dE] at h;obtain⟨⟨⟨h1,h2⟩,h3⟩,h4⟩:=h;unfold okF at h1;rw[dE] at h1;exact⟨h1.1,h1.2,C2.mp h2,h3⟩
theorem Dh (p:Pt):YY KK p=some (okP p):=by
 unfold YY okP;rw[HA];simp only[oB,oT,tO,cT];cases h:okF p.1&&okL p.2.1
 ·simp
 ·have hl:IsL p.2.1:=C2.mp (aT _ _▸h).2;have:=Sn hl.a1 hl.a2 hl.c1 hl.c2;have hix:=hl.ix;rw[Ay (n:=p.2.1.1*p.2.1.2.2) (by omega) (by omega)]
  by_cases h2:(p.2.2.length:Int)=p.2.1.1*p.2.1.2.2
  ·have h3:p.2.2.length≤64:=by omega
   rw[Qd (by omega)]
   simp[h2,h3]
  ·have h4:((p.2.2.length:Int)==p.2.1.1*p.2.1.2.2)=false:=by simp[h2]
   simp[h2,h4]
theorem B5 (p:Pt):M0 KK p=some (okP p):=by
 unfold M0 RR okP;rw[Uu,Qc];simp only[oB,oT,tO,cT];cases h0:okF p.1
 ·simp
 cases h:okL p.2.1
 ·simp
 ·have hl:IsL p.2.1:=C2.mp h;have:=Sn hl.a1 hl.a2 hl.c1 hl.c2;have hix:=hl.ix;rw[Ay (n:=p.2.1.1*p.2.1.2.2) (by omega) (by omega)]
  by_cases h2:(p.2.2.length:Int)=p.2.1.1*p.2.1.2.2
  ·have h3:p.2.2.length≤64:=by omega
   rw[Qe (by omega)]
   simp[h2]
  ·have h4:((p.2.2.length:Int)==p.2.1.1*p.2.1.2.2)=false:=by simp[h2]
   simp[h2,h4]
structure Cp (l:List Int) (q:Nat) (s:Nat×List Int):Prop where
 i:s.1=q
 n:s.2.length=l.length
 t:s.2.take q=l.take q
end Go.Proofs.YteheolldcpjkcaaGreatDoor.X
