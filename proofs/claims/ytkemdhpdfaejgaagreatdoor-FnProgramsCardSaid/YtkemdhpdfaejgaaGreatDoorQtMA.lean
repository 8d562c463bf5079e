/- Plain facts: numbers that do not run over, and loops that Hd through a list. -/
import Derived.Test.YtkemdhpdfaejgaaGreatDoorQzXLoop
import Derived.Test.YtkemdhpdfaejgaaGreatDoorQtD0
import Derived.Test.YtkemdhpdfaejgaaGreatDoorQtD1
import Derived.KernelRfl
namespace Go.Proofs.YtkemdhpdfaejgaaGreatDoor.X
open Go
set_option linter.unusedSimpArgs false
theorem oB {α β:Type} (a:α) (f:α→Option β):(some a).bind f=f a:=rfl
theorem cF {α:Type} (a b:α):cond false a b=b:=rfl
theorem cT {α:Type} (a b:α):cond true a b=a:=rfl
theorem dT {p:Prop} [Decidable p] (h:p):decide p=true:=decide_eq_true h
theorem dF {p:Prop} [Decidable p] (h:¬ p):decide p=false:=decide_eq_false h
theorem gM {α:Type} {l:List α} {n:Nat} (h:n<l.length):l[n]∈l:=ADJ h
theorem aS (a:Bool):(a&&a)=a:=ADm a
theorem cM {α:Type} [BEq α] [LawfulBEq α] {a:α} {l:List α}:l.contains a=true↔a∈l:=AA6
theorem nT:(!true)=false:=rfl
theorem oT (b:Bool):(b||true)=true:=Bool.or_true b
theorem tO (b:Bool):(true||b)=true:=rfl
theorem nF:(!false)=true:=rfl
theorem bN {α:Type} [BEq α] [LawfulBEq α] {a b:α}:(a==b)=false↔a≠b:=beq_eq_false_iff_ne
theorem dC {α:Type} {l:List α} {n:Nat} (h:n<l.length):l.drop n=l[n] :: l.drop (n+1):=ACJ h
theorem tS {α:Type} {l:List α} {n:Nat} (h:n<l.length):l.take (n+1)=l.take n++[l[n]]:=List.take_succ_eq_append_getElem h
theorem dE (p:Prop) [Decidable p]:(decide p=true)=p:=decide_eq_true_eq
theorem mS {α:Type} {a b:α}:a∈[b]↔a=b:=AB3
theorem lA {α:Type} {a b:List α}:(a++b).length=a.length+b.length:=ABh
theorem aT (a b:Bool):((a&&b)=true)=(a=true∧b=true):=AA1 a b
def KK:Nat:=2097152
theorem As {n:Int} (h1 : -9223372036854775808≤n) (h2:n≤9223372036854775807):w n=n:=by
 simp only[w,IntKind.wrap];simp[IntKind.signed,IntKind.bits];omega
theorem Af {q:Nat} (h:q<4611686018427387904):w ((q:Int)+1)=((q+1:Nat):Int):=by
 rw[As]<;>omega
theorem gd {α:Type} {l:List α} {q:Nat} {d:α} (h:q<l.length):l.getD ((0:Int)+(q:Int)).toNat d=l[q]:=by
 have:((0:Int)+(q:Int)).toNat=q:=by omega
 rw[this];simp[List.getD,h]
theorem in1 {q n:Nat} (h:q<n):decide ((q:Int)<(n:Int))=true:=by
 simp;omega
theorem in0 {q:Nat}:decide (0≤(q:Int))=true:=by simp
theorem AO {n:Nat}:decide ((n:Int)<(n:Int))=false:=by simp
theorem Gm {n:Nat} (h:n≤4000000):Nat.ble n (lim 16)=true:=by
 simp only[lim,AB4];omega
theorem GR {n:Nat} (h:n≤4000000):Nat.ble n (lim 8)=true:=by
 simp only[lim,AB4];omega
theorem AuS {n:Nat} (h:n≤4000000):Nat.ble n (lim 32)=true:=by
 simp only[lim,AB4];omega
theorem Ea {n:Nat} (h:n≤1000000):Nat.ble n (lim 48)=true:=by
 simp only[lim,AB4];omega
theorem AJ {X R S α:Type} {body:(X→Option R)→X→Option R} (l:List α) (fr:Nat→S→X) (Hd:S→α→S) (fin:S→Option R) (inv:Nat→S→Prop)
  (h1:∀ L q s (hq:q<l.length),inv q s→inv (q+1) (Hd s l[q])∧body L (fr q s)=L (fr (q+1) (Hd s l[q])))
  (h2:∀ L s,inv l.length s→body L (fr l.length s)=fin s):∀ n q s,q≤l.length→l.length-q<n→inv q s→Ax body n (fr q s)=fin ((l.drop q).foldl Hd s)
 | 0,q,s,_,hn,_=>by omega
 | n+1,q,s,hq,hn,hi=>by
  show body (Ax body n) (fr q s)=_;by_cases hlt:q<l.length
  ·obtain⟨h3,h4⟩:=h1 (Ax body n) q s hlt hi;rw[h4,AJ l fr Hd fin inv h1 h2 n (q+1) _ hlt (by omega) h3,dC hlt]
   rfl
  ·have:q=l.length:=by omega
   subst this;rw[h2 _ _ hi];simp
theorem Dg {X R α:Type} {body:(X→Option R)→X→Option R} (l:List α) (fr:Nat→X) (p:α→Bool) (no fin:Option R)
  (h1:∀ L q (hq:q<l.length),body L (fr q)=bif p l[q] then L (fr (q+1)) else no)
  (h2:∀ L,body L (fr l.length)=fin):∀ n q,q≤l.length→l.length-q<n→Ax body n (fr q)=bif (l.drop q).all p then fin else no
 | 0,q,_,hn=>by omega
 | n+1,q,hq,hn=>by
  show body (Ax body n) (fr q)=_;by_cases hlt:q<l.length
  ·rw[h1 _ q hlt,Dg l fr p no fin h1 h2 n (q+1) hlt (by omega),dC hlt]
   simp only[ACk];cases p l[q]<;>simp
  ·have:q=l.length:=by omega
   subst this;rw[h2];simp
theorem Dh {α β:Type} (p:α→Bool) (g:α→β):∀ (l:List α) (s:List β),l.foldl (fun s a=>bif p a then s++[g a] else s) s=s++(l.filter p).map g
 | [],s=>by simp
 | a :: l,s=>by
  rw[ABy,Dh p g l];cases h:p a<;>simp[h]
theorem EA {α β:Type} (g:α→β):∀ (l:List α) (s:List β),l.foldl (fun s a=>s++[g a]) s=s++l.map g
 | [],s=>by simp
 | a :: l,s=>by
  rw[ABy,EA g l];simp
theorem Gp {α β:Type} (g:α→List β):∀ (l:List α) (s:List β),l.foldl (fun s a=>s++g a) s=s++l.flatMap g
 | [],s=>by simp
 | a :: l,s=>by
  rw[ABy,Gp g l];simp
abbrev Vc:=Int×Int
abbrev Mt:=Int×Int×Int×Int
abbrev Lt:=Int×Int×Int
abbrev Pt:=Int×Lt×List Int
structure IsL (l:Lt):Prop where
 a1:1≤l.1
 a2:l.1≤64
 c1:1≤l.2.2
 c2:l.2.2≤64
 b1:0≤l.2.1
 b2:l.2.1<l.1
 ix:l.1*l.2.2≤64
structure IsP (p:Pt):Prop where
 f1:0≤p.1
 f2:p.1≤1
 l:IsL p.2.1
 n:(p.2.2.length:Int)=p.2.1.1*p.2.1.2.2
theorem Ol {a n:Int} (h:1≤n):(a.tmod n<0→a % n=a.tmod n+n)∧(0≤a.tmod n→a % n=a.tmod n)∧-n<a.tmod n∧a.tmod n<n:=by
 have h0:=Int.tmod_eq_emod (a:=a) (b:=n);have h1:=ACp a (show n≠0 by omega)
 have h2:=ACe a (show 0<n by omega)
 have h3:(n.natAbs:Int)=n:=by omega
 split at h0<;>refine⟨?_,?_,?_,?_⟩<;>intros<;>omega
theorem FK {a n:Int} (h:1≤n) (h2:n≤1000000):IP KK a n=some (a % n):=by
 obtain⟨h3,h4,h5,h6⟩:=Ol (a:=a) h;unfold IP;have:(n != 0)=true:=by simp;omega
 rw[this,cT];by_cases hl:a.tmod n<0
 ·rw[h3 hl,As (by omega) (by omega)]
  simp[hl]
 ·rw[h4 (by omega)]
  simp[hl]
theorem TX {a n:Int} (h:1≤n) (h2:n≤1000000):Wn KK a n=some (a % n):=by
 obtain⟨h3,h4,h5,h6⟩:=Ol (a:=a) h;unfold Wn;have:(n != 0)=true:=by simp;omega
 rw[this,cT,cT,As (by omega) (by omega)]
 obtain⟨h7,h8,h9,h10⟩:=Ol (a:=a.tmod n+n) h;have h11:0≤(a.tmod n+n).tmod n:=by
  have:=ADp (a:=a.tmod n+n) n (by omega)
  exact this
 rw[← h8 h11,Int.add_emod_right];congr 1;have:=Int.emod_emod_of_dvd a (Int.dvd_refl n);by_cases hl:a.tmod n<0
 ·rw[h3 hl];rw[← Int.add_emod_right,ACn (by omega) (by omega)]
 ·rw[h4 (by omega)]
  exact ACn (by omega) (by omega)
def AX (l:Lt) (v:Vc):Vc:=((v.1-(v.2 / l.2.2)*l.2.1) % l.1,v.2 % l.2.2)
theorem AfD {y c:Int} (hc:1≤c) {B:Int} (hB:0≤B) (h1 : -B≤y) (h2:y≤B) : -B-1≤y / c∧y / c≤B:=by
 constructor
 ·rw[Int.le_ediv_iff_mul_le (by omega)]
  have:(-B-1)*c≤(-B-1)*1:=Int.mul_le_mul_of_nonpos_left (by omega) hc
  omega
 ·have h:=Int.ediv_le_ediv (show 0<c by omega) h2
  have h3:B / c≤B:=Int.ediv_le_self c hB;omega
theorem TY {y c:Int} (hc:1≤c):(y-y % c).tdiv c=y / c:=by
 have h1:=ADw y c;have:y-y % c=c*(y / c):=by omega
 rw[this,AB2,Int.mul_tdiv_cancel _ (by omega)]
theorem AfE {a b A B:Int} (hA:0≤A) (ha1 : -A≤a) (ha2:a≤A) (hb1:0≤b) (hb2:b≤B) : -(A*B)≤a*b∧a*b≤A*B:=by
 have h1:a*b≤A*b:=AB5 ha2 hb1;have h2:A*b≤A*B:=ACh hb2 hA;have h3 : -A*b≤a*b:=AB5 ha1 hb1;have h4 : -A*b = -(A*b):=ACD A b;omega
def Sm (v:Vc):Prop := -1000000000≤v.1∧v.1≤1000000000∧-1000000000≤v.2∧v.2≤1000000000
theorem WS {l:Lt} (hl:IsL l) {v:Vc} (hv:Sm v):w (v.1-(w ((w ((w (v.2-v.2 % l.2.2)).tdiv l.2.2))*l.2.1)))=v.1-(v.2 / l.2.2)*l.2.1:=by
 obtain⟨a1,a2,c1,c2,b1,b2,ix⟩:=hl;obtain⟨v1,v2,v3,v4⟩:=hv;have h1:=ACp v.2 (show l.2.2≠0 by omega)
 have h2:=ACe v.2 (show 0<l.2.2 by omega)
 obtain⟨h3,h4⟩:=AfD (y:=v.2) c1 (B:=1000000000) (by omega) v3 v4
 obtain⟨h5,h6⟩:=AfE (a:=v.2 / l.2.2) (b:=l.2.1) (A:=1000000001) (B:=64) (by omega) (by omega) (by omega) b1 (by omega)
 rw[As (n:=v.2-v.2 % l.2.2) (by omega) (by omega),TY c1,As (n:=v.2 / l.2.2) (by omega) (by omega),As (n:=v.2 / l.2.2*l.2.1) (by omega) (by omega),As (by omega) (by omega)]
theorem Di {l:Lt} (hl:IsL l) {v:Vc} (hv:Sm v):Afb KK l v=some (AX l v):=by
 unfold Afb;have h0:(l.2.2 != 0)=true:=by have:=hl.c1;simp;omega
 rw[FK hl.c1 (by have:=hl.c2;omega)]
 simp only[oB,h0,cT];rw[WS hl hv,FK hl.a1 (by have:=hl.a2;omega)]
 rfl
theorem DD {l:Lt} (hl:IsL l) {v:Vc} (hv:Sm v):Mu KK l v=some (AX l v):=by
 unfold Mu;have h0:(l.2.2 != 0)=true:=by have:=hl.c1;simp;omega
 rw[TX hl.c1 (by have:=hl.c2;omega)]
 simp only[oB,h0,cT];rw[WS hl hv,TX hl.a1 (by have:=hl.a2;omega)]
 rfl
theorem LX {l:Lt} (hl:IsL l) (v:Vc):0≤(AX l v).1∧(AX l v).1<l.1∧0≤(AX l v).2∧(AX l v).2<l.2.2:=by
 obtain⟨a1,a2,c1,c2,b1,b2,ix⟩:=hl;exact⟨ACp _ (by omega),ACe _ (by omega),ACp _ (by omega),ACe _ (by omega)⟩
theorem AjO {a c x y:Int} (h1:0≤x) (h2:x<a) (h3:0≤y) (h4:y<c):0≤x*c+y∧x*c+y<a*c:=by
 have e1:0≤x*c:=ACS h1 (by omega)
 have e2:(x+1)*c≤a*c:=AB5 (by omega) (by omega)
 have e3:(x+1)*c=x*c+c:=by rw[ACX,ADu]
 omega
def A8 (l:Lt) (v:Vc):Nat:=((AX l v).1*l.2.2+(AX l v).2).toNat
theorem EB {l:Lt} (hl:IsL l) (v:Vc):w ((w ((AX l v).1*l.2.2))+(AX l v).2)=(A8 l v:Int)∧(A8 l v:Int)<l.1*l.2.2:=by
 obtain⟨h1,h2,h3,h4⟩:=LX hl v;obtain⟨h5,h6⟩:=AjO h1 h2 h3 h4;obtain⟨a1,a2,c1,c2,b1,b2,ix⟩:=hl;have e1:0≤(AX l v).1*l.2.2:=ACS h1 (by omega)
 unfold A8;rw[As (n:=(AX l v).1*l.2.2) (by omega) (by omega),As (by omega) (by omega)]
 omega
def atS (p:Pt) (v:Vc):Int:=p.2.2.getD (A8 p.2.1 v) 0
theorem J5 {p:Pt} (hp:IsP p) {v:Vc} (hv:Sm v):YT KK p v=some (atS p v):=by
 unfold YT N6;obtain⟨h1,h2⟩:=EB hp.l v;rw[Di hp.l hv];simp only[oB,h1];have h3:A8 p.2.1 v<p.2.2.length:=by have:=hp.n;omega
 rw[in0,in1 h3,gd h3];simp[atS,List.getD,h3]
theorem Atr {p:Pt} (hp:IsP p) {v:Vc} (hv:Sm v):Aju KK p v=some (atS p v):=by
 unfold Aju Qi;obtain⟨h1,h2⟩:=EB hp.l v;rw[DD hp.l hv];simp only[oB,h1];have h3:A8 p.2.1 v<p.2.2.length:=by have:=hp.n;omega
 rw[in0,in1 h3,gd h3];simp[atS,List.getD,h3]
def K8 (c x:Nat):List Vc:=(List.range c).map fun (y:Nat)=>((x:Int),(y:Int))
def Aa (l:Lt):List Vc:=(List.range l.1.toNat).flatMap (K8 l.2.2.toNat)
theorem AfF (a c:Nat) (hc:0<c):(List.range a).flatMap (K8 c)=(List.range (a*c)).map fun i=>(((i / c:Nat):Int),((i % c:Nat):Int)):=by
 induction a with
 | zero=>simp
 | succ a ih =>
  rw[List.range_succ,List.flatMap_append,ih,AB9,List.range_add,ADM];congr 1;simp only[List.flatMap_cons,List.flatMap_nil,ABD,K8,ADf]
  apply ACP
  intro y hy;rw[ACG] at hy;simp only[Function.comp];have h1:(a*c+y) / c=a:=by
   rw[ADg,Nat.mul_add_div hc,Nat.div_eq_of_lt hy];rfl
  have h2:(a*c+y) % c=y:=by
   rw[ADg,Nat.mul_add_mod,AD9 hy]
  rw[h1,h2]
theorem Rn {l:Lt} (hl:IsL l):Aa l=(List.range (l.1.toNat*l.2.2.toNat)).map fun i=>(((i / l.2.2.toNat:Nat):Int),((i % l.2.2.toNat:Nat):Int)) :=
 AfF _ _ (by have:=hl.c1;omega)
theorem Gq {l:Lt} (hl:IsL l):((l.1.toNat*l.2.2.toNat:Nat):Int)=l.1*l.2.2:=by
 have h1:((l.1.toNat:Nat):Int)=l.1:=by have:=hl.a1;omega
 have h2:((l.2.2.toNat:Nat):Int)=l.2.2:=by have:=hl.c1;omega
 rw[ACA,h1,h2]
theorem CH {l:Lt} (hl:IsL l):(Aa l).length=l.1.toNat*l.2.2.toNat:=by
 rw[Rn hl];simp
theorem AK {l:Lt} (hl:IsL l):(Aa l).length≤64:=by
 have:=Gq hl;have:=hl.ix;rw[CH hl];omega
theorem Ci {l:Lt} {v:Vc} (h:v∈Aa l):0≤v.1∧v.1<l.1∧0≤v.2∧v.2<l.2.2:=by
 simp only[Aa,K8,ACu,ABe,ACG] at h;obtain⟨x,hx,y,hy,rfl⟩:=h;refine⟨?_,?_,?_,?_⟩<;>simp<;>omega
theorem Bb {l:Lt} (hl:IsL l) {i:Nat} (h:i<(Aa l).length):A8 l (Aa l)[i]=i:=by
 have hm:=Ci (gM h);have h1:(Aa l)[i]=(((i / l.2.2.toNat:Nat):Int),((i % l.2.2.toNat:Nat):Int)):=by
  simp[Rn hl]
 unfold A8 AX;obtain⟨m1,m2,m3,m4⟩:=hm;have h2:(Aa l)[i].2 / l.2.2=0:=Int.ediv_eq_zero_of_lt m3 m4;have h3:(Aa l)[i].2 % l.2.2=(Aa l)[i].2:=ACn m3 m4;simp only[h2,h3,ADx,AEe,ACn m1 m2];rw[h1];have h4:((l.2.2.toNat:Nat):Int)=l.2.2:=by have:=hl.c1;omega
 have h5:(((i / l.2.2.toNat:Nat):Int))*l.2.2+((i % l.2.2.toNat:Nat):Int)=((i / l.2.2.toNat*l.2.2.toNat+i % l.2.2.toNat:Nat):Int):=by
  rw[AEi,ACA,h4]
 simp only[h5];have:=Nat.div_add_mod' i l.2.2.toNat;omega
theorem TZ {l:Lt} (hl:IsL l) {L:Int→List Vc→Option (List Vc)} {x:Nat} (hx:x<64) {s:List Vc} (hs:s.length≤x*64) :
  N4 KK l (x:Int) L KK 0 s=L ((x+1:Nat):Int) (s++K8 l.2.2.toNat x):=by
 have h2:((l.2.2.toNat:Nat):Int)=l.2.2:=by have:=hl.c1;omega
 have hc:=hl.c2;have h:=AJ (X:=Int×List Vc) (body:=fun L9 z=>S2 KK l (x:Int) L (fun v0 v1=>L9 (v0,v1)) z.1 z.2) (List.range l.2.2.toNat) (fun q s=>((q:Int),s)) (fun s y=>s++[((x:Int),((y:Nat):Int))]) (fun s=>L ((x+1:Nat):Int) s) (fun q s=>s.length≤x*64+q)
  (fun L9 q s hq hi=>by
   simp only[ACL] at hq;simp only[AC0];refine⟨by simp;omega,?_⟩
   unfold S2;have h3:decide ((q:Int)<l.2.2)=true:=by simp;omega
   rw[h3,cT,Gm (by simp;omega),cT,Af (by omega)])
  (fun L9 s hi=>by
   unfold S2;have h3:decide (((List.range l.2.2.toNat).length:Int)<l.2.2)=false:=by simp;omega
   simp only[h3,cF];rw[Af (by omega)]) KK 0 s (by omega) (by simp[KK];omega) (by simpa using hs)
 unfold N4;refine h.trans ?_;simp only[ABb];rw[EA];rfl
theorem Da {l:Lt} (hl:IsL l):Qf KK l=some (Aa l):=by
 have h1:((l.1.toNat:Nat):Int)=l.1:=by have:=hl.a1;omega
 have ha:=hl.a2;have hc:=hl.c2;have h:=AJ (X:=Int×List Vc) (body:=fun L6 z=>N5 KK l (fun c0 d0 d1=>N4 KK l c0 (fun v0 v1=>L6 (v0,v1)) KK d0 d1) (fun v0 v1=>L6 (v0,v1)) z.1 z.2) (List.range l.1.toNat) (fun q s=>((q:Int),s)) (fun s x=>s++K8 l.2.2.toNat x) (fun s=>some s) (fun q s=>s.length≤q*64)
  (fun L6 q s hq hi=>by
   simp only[ACL] at hq;simp only[AC0];refine⟨by simp[K8];omega,?_⟩
   unfold N5;have h3:decide ((q:Int)<l.1)=true:=by simp;omega
   rw[h3,cT];exact TZ hl (by omega) hi)
  (fun L6 s hi=>by
   unfold N5;have h3:decide (((List.range l.1.toNat).length:Int)<l.1)=false:=by simp;omega
   simp only[h3,cF]) KK 0 [] (by omega) (by simp[KK];omega) (by simp)
 unfold Qf AhK YO;refine h.trans ?_;simp only[ABb];rw[Gp];rfl
theorem AfG {l:Lt} (hl:IsL l) {L:Int→List Vc→Option (List Vc)} {x:Nat} (hx:x<64) {s:List Vc} (hs:s.length≤x*64) :
  Oc KK l (x:Int) L KK 0 s=L ((x+1:Nat):Int) (s++K8 l.2.2.toNat x):=by
 have h2:((l.2.2.toNat:Nat):Int)=l.2.2:=by have:=hl.c1;omega
 have hc:=hl.c2;have h:=AJ (X:=Int×List Vc) (body:=fun L9 z=>TE KK l (x:Int) L (fun v0 v1=>L9 (v0,v1)) z.1 z.2) (List.range l.2.2.toNat) (fun q s=>((q:Int),s)) (fun s y=>s++[((x:Int),((y:Nat):Int))]) (fun s=>L ((x+1:Nat):Int) s) (fun q s=>s.length≤x*64+q)
  (fun L9 q s hq hi=>by
   simp only[ACL] at hq;simp only[AC0];refine⟨by simp;omega,?_⟩
   unfold TE;have h3:decide ((q:Int)<l.2.2)=true:=by simp;omega
   rw[h3,cT,Gm (by simp;omega),cT,Af (by omega)])
  (fun L9 s hi=>by
   unfold TE;have h3:decide (((List.range l.2.2.toNat).length:Int)<l.2.2)=false:=by simp;omega
   simp only[h3,cF];rw[Af (by omega)]) KK 0 s (by omega) (by simp[KK];omega) (by simpa using hs)
 unfold Oc;refine h.trans ?_;simp only[ABb];rw[EA];rfl
theorem J6 {l:Lt} (hl:IsL l):WF KK l=some (Aa l):=by
 have h1:((l.1.toNat:Nat):Int)=l.1:=by have:=hl.a1;omega
 have ha:=hl.a2;have hc:=hl.c2;have h:=AJ (X:=Int×List Vc) (body:=fun L6 z=>Od KK l (fun c0 d0 d1=>Oc KK l c0 (fun v0 v1=>L6 (v0,v1)) KK d0 d1) (fun v0 v1=>L6 (v0,v1)) z.1 z.2) (List.range l.1.toNat) (fun q s=>((q:Int),s)) (fun s x=>s++K8 l.2.2.toNat x) (fun s=>some s) (fun q s=>s.length≤q*64)
  (fun L6 q s hq hi=>by
   simp only[ACL] at hq;simp only[AC0];refine⟨by simp[K8];omega,?_⟩
   unfold Od;have h3:decide ((q:Int)<l.1)=true:=by simp;omega
   rw[h3,cT];exact AfG hl (by omega) hi)
  (fun L6 s hi=>by
   unfold Od;have h3:decide (((List.range l.1.toNat).length:Int)<l.1)=false:=by simp;omega
   simp only[h3,cF]) KK 0 [] (by omega) (by simp[KK];omega) (by simp)
 unfold WF AiU Zl;refine h.trans ?_;simp only[ABb];rw[Gp];rfl
structure SmM (m:Mt):Prop where
 a : -1≤m.1∧m.1≤1
 b : -1≤m.2.1∧m.2.1≤1
 c : -1≤m.2.2.1∧m.2.2.1≤1
 d : -1≤m.2.2.2∧m.2.2.2≤1
def Sv (v:Vc):Prop := -1000000≤v.1∧v.1≤1000000∧-1000000≤v.2∧v.2≤1000000
theorem Ro {a:Int} (h : -1≤a∧a≤1):a = -1∨a=0∨a=1:=by omega
theorem BH {a x:Int} (h : -1≤a∧a≤1) {B:Int} (h1 : -B≤x) (h2:x≤B) (hB:0≤B) : -B≤a*x∧a*x≤B:=by
 rcases Ro h with rfl | rfl | rfl<;>omega
def AQ (m:Mt) (v:Vc):Vc:=(m.1*v.1+m.2.1*v.2,m.2.2.1*v.1+m.2.2.2*v.2)
def Bl (m:Mt×Vc) (v:Vc):Vc:=((AQ m.1 v).1+m.2.1,(AQ m.1 v).2+m.2.2)
theorem WT {m:Mt} (hm:SmM m) {v:Vc} (hv:Sv v):((w ((w (m.1*v.1))+(w (m.2.1*v.2)))),(w ((w (m.2.2.1*v.1))+(w (m.2.2.2*v.2)))))=AQ m v:=by
 obtain⟨v1,v2,v3,v4⟩:=hv;obtain⟨a1,a2⟩:=BH hm.a v1 v2 (by omega)
 obtain⟨b1,b2⟩:=BH hm.b v3 v4 (by omega)
 obtain⟨c1,c2⟩:=BH hm.c v1 v2 (by omega)
 obtain⟨d1,d2⟩:=BH hm.d v3 v4 (by omega)
 rw[As (n:=m.1*v.1) (by omega) (by omega),As (n:=m.2.1*v.2) (by omega) (by omega),As (n:=m.2.2.1*v.1) (by omega) (by omega),As (n:=m.2.2.2*v.2) (by omega) (by omega),As (by omega) (by omega),As (by omega) (by omega)]
 rfl
theorem Gr {m:Mt} (hm:SmM m) {v:Vc} (hv:Sv v) : -2000000≤(AQ m v).1∧(AQ m v).1≤2000000∧-2000000≤(AQ m v).2∧(AQ m v).2≤2000000:=by
 obtain⟨v1,v2,v3,v4⟩:=hv;obtain⟨a1,a2⟩:=BH hm.a v1 v2 (by omega)
 obtain⟨b1,b2⟩:=BH hm.b v3 v4 (by omega)
 obtain⟨c1,c2⟩:=BH hm.c v1 v2 (by omega)
 obtain⟨d1,d2⟩:=BH hm.d v3 v4 (by omega)
 simp only[AQ];omega
theorem E4 {m:Mt} (hm:SmM m) {v:Vc} (hv:Sv v):N1 KK m v=some (AQ m v):=by
 unfold N1;rw[WT hm hv]
theorem E5 {m:Mt} (hm:SmM m) {v:Vc} (hv:Sv v):IV KK m v=some (AQ m v):=by
 unfold IV;rw[WT hm hv]
theorem LY {m:Mt×Vc} (hm:SmM m.1) {v:Vc} (hv:Sv v) (ht:Sv m.2):V6 KK m v=some (Bl m v):=by
 obtain⟨b1,b2,b3,b4⟩:=Gr hm hv;obtain⟨t1,t2,t3,t4⟩:=ht;unfold V6 N0;rw[E4 hm hv];simp only[oB];rw[As (by omega) (by omega),As (by omega) (by omega)]
 rfl
theorem LZ {m:Mt×Vc} (hm:SmM m.1) {v:Vc} (hv:Sv v) (ht:Sv m.2):WG KK m v=some (Bl m v):=by
 obtain⟨b1,b2,b3,b4⟩:=Gr hm hv;obtain⟨t1,t2,t3,t4⟩:=ht;unfold WG Wv;rw[E5 hm hv];simp only[oB];rw[As (by omega) (by omega),As (by omega) (by omega)]
 rfl
theorem E6 {m:Mt×Vc} (hm:SmM m.1) {v:Vc} (hv:Sv v) (ht:Sv m.2):Sm (Bl m v):=by
 obtain⟨b1,b2,b3,b4⟩:=Gr hm hv;obtain⟨t1,t2,t3,t4⟩:=ht;simp only[Sm,Bl];omega
theorem J7 {l:Lt} (hl:IsL l) {v:Vc} (h:v∈Aa l):Sv v:=by
 obtain⟨h1,h2,h3,h4⟩:=Ci h;obtain⟨a1,a2,c1,c2,b1,b2,ix⟩:=hl;simp only[Sv];omega
theorem Om {v:Vc} (h:Sv v):Sm v:=by
 obtain⟨h1,h2,h3,h4⟩:=h;simp only[Sm];omega
def Bh (p:Pt) (m:Mt×Vc):Bool:=(Aa p.2.1).all fun v=>atS p (Bl m v)==atS p v
theorem L0 {p:Pt} (hp:IsP p) {m:Mt×Vc} (hm:SmM m.1) (ht:Sv m.2):QR KK p m=some (Bh p m):=by
 unfold QR YU;rw[Da hp.l];simp only[oB];have h:=Dg (X:=Int) (body:=fun L6 x=>MK KK p m (Aa p.2.1) (fun v0=>L6 v0) x) (Aa p.2.1) (fun q=>(q:Int)) (fun v=>atS p (Bl m v)==atS p v) (some false) (some true)
  (fun L6 q hq=>by
   have hv:=J7 hp.l (gM hq);have:=AK hp.l;unfold MK;rw[in1 hq,in0,gd hq,LY hm hv ht,J5 hp (Om hv)];simp only[aS,cT,oB];rw[J5 hp (E6 hm hv ht),oB,Af (by omega),bne]
   cases atS p (Bl m (Aa p.2.1)[q])==atS p (Aa p.2.1)[q]<;>rfl)
  (fun L6=>by
   unfold MK;rw[AO,cF]) KK 0 (by omega) (by have:=AK hp.l;simp[KK];omega)
 unfold Tc;refine h.trans ?_;simp only[ABb];unfold Bh;cases (Aa p.2.1).all fun v=>atS p (Bl m v)==atS p v<;>rfl
theorem AjP {p:Pt} (hp:IsP p) {m:Mt×Vc} (hm:SmM m.1) (ht:Sv m.2):Afz KK p m=some (Bh p m):=by
 unfold Afz AjH;rw[J6 hp.l];simp only[oB];have h:=Dg (X:=Int) (body:=fun L6 x=>TV KK p m (Aa p.2.1) (fun v0=>L6 v0) x) (Aa p.2.1) (fun q=>(q:Int)) (fun v=>atS p (Bl m v)==atS p v) (some false) (some true)
  (fun L6 q hq=>by
   have hv:=J7 hp.l (gM hq);have:=AK hp.l;have h1:=Bb hp.l hq;have h2:=CH hp.l;have h3:=Gq hp.l;have hq2:q<p.2.2.length:=by have:=hp.n;omega
   have h4:atS p (Aa p.2.1)[q]=p.2.2[q]:=by
    unfold atS;rw[h1];simp[List.getD,hq2]
   unfold TV;rw[in1 hq,in0,gd hq,LZ hm hv ht,in1 hq2,gd hq2];simp only[aS,cT,oB];rw[Atr hp (E6 hm hv ht),oB,Af (by omega),bne,h4]
   cases atS p (Bl m (Aa p.2.1)[q])==p.2.2[q]<;>rfl)
  (fun L6=>by
   unfold TV;rw[AO,cF]) KK 0 (by omega) (by have:=AK hp.l;simp[KK];omega)
 unfold ZC;refine h.trans ?_;simp only[ABb];unfold Bh;cases (Aa p.2.1).all fun v=>atS p (Bl m v)==atS p v<;>rfl
theorem AjQ {q:Int} (h:q.natAbs≤4611686018427387904):(if (w (0-q))>q then (w (0-q)) else q)=(q.natAbs:Int):=by
 rw[As (by omega) (by omega)]
 split<;>omega
theorem WU (a b:Int) (h:b≠0):Int.gcd b (a.tmod b)=Int.gcd a b:=by
 simp only[Int.gcd,ACq];rw[AEf a.natAbs,Nat.gcd_rec b.natAbs a.natAbs,AEf]
theorem J8:∀ (n:Nat) (a b:Int),b.natAbs<n→a.natAbs≤4611686018427387904→b.natAbs≤4611686018427387904→LT KK n a b=some ((Int.gcd a b:Nat):Int)
 | 0,a,b,h,_,_=>by omega
 | n+1,a,b,h,h1,h2=>by
  show K1 KK (LT KK n) a b=_;unfold K1;by_cases hb:b=0
  ·subst hb;simp only[beq_self_eq_true,cT,AjQ h1];simp[Int.gcd]
  ·have h3:(b != 0)=true:=by simp[hb]
   have h5:(b==0)=false:=by simp[hb]
   rw[h3,h5,cT,cF];have h4:(a.tmod b).natAbs<b.natAbs:=by rw[ACq];exact AEg _ (by omega)
   rw[J8 n b (a.tmod b) (by omega) h2 (by omega),WU a b hb]
   rfl
theorem ZE {a b:Int} (ha:a.natAbs≤1000000) (hb:b.natAbs≤4611686018427387904):AbG KK a b=some ((Int.gcd a b:Nat):Int):=by
 show K1 KK (LT KK 2097151) a b=_;unfold K1;by_cases hb0:b=0
 ·subst hb0;simp only[beq_self_eq_true,cT];rw[AjQ (by omega)]
  simp[Int.gcd]
 ·have h3:(b != 0)=true:=by simp[hb0]
  have h5:(b==0)=false:=by simp[hb0]
  rw[h3,h5,cT,cF];have h4:(a.tmod b).natAbs≤a.natAbs:=by rw[ACq];exact Nat.mod_le _ _
  rw[J8 _ b (a.tmod b) (by omega) hb (by omega),WU a b hb0]
  rfl
def nx (p v:Vc):Vc:=(p.1-p.2.tdiv v.2*v.1,p.2-p.2.tdiv v.2*v.2)
def euS:Nat→Vc→Vc→Vc×Int
 | 0,p,v=>(p,v.1)
 | n+1,p,v=>if v.2=0 then (p,v.1) else euS n v (nx p v)
theorem ZF (p v:Vc):(nx p v).2=p.2.tmod v.2:=by
 have:=Int.tmod_add_mul_tdiv p.2 v.2;simp only[nx];rw[AB2];omega
theorem Hv (p v:Vc) (h:v.2≠0):(nx p v).2.natAbs<v.2.natAbs:=by
 rw[ZF,ACq];exact AEg _ (by omega)
def Dv (p v:Vc):Nat:=p.1.natAbs*v.2.natAbs+v.1.natAbs*p.2.natAbs
theorem AAt (p v:Vc) (h:v.2≠0):Dv v (nx p v)≤Dv p v:=by
 have h1:(nx p v).2.natAbs=p.2.natAbs % v.2.natAbs:=by rw[ZF,ACq]
 have h2:(nx p v).1.natAbs≤p.1.natAbs+p.2.natAbs / v.2.natAbs*v.1.natAbs:=by
  have:=Int.natAbs_sub_le p.1 (p.2.tdiv v.2*v.1);rw[ACH,ADN] at this;exact this
 have h3:=Nat.mod_add_div p.2.natAbs v.2.natAbs;unfold Dv;rw[h1];generalize p.1.natAbs=P at *;generalize v.1.natAbs=V at *;generalize p.2.natAbs / v.2.natAbs=k at *;generalize p.2.natAbs % v.2.natAbs=r at *;generalize v.2.natAbs=U at *;generalize p.2.natAbs=Q at *
 calc V*r+(nx p v).1.natAbs*U≤V*r+(P+k*V)*U:=Nat.add_le_add_left (ABO _ h2) _
  _=P*U+V*(r+U*k):=by
   rw[ACY,Nat.mul_add];have:k*V*U=V*(U*k):=by rw[ADg k V,Nat.mul_assoc,ADg k U]
   omega
  _=P*U+V*Q:=by rw[h3]
structure Bd (B:Nat) (p v:Vc):Prop where
 bp:p.1.natAbs≤B
 bv:v.1.natAbs≤B
 d:Dv p v≤B
theorem Ats {B:Nat} {p v:Vc} (h:Bd B p v) (hv:v.2≠0):Bd B v (nx p v):=by
 have h1:=AAt p v hv;refine⟨h.bv,?_,by have:=h.d;omega⟩
 have h2:(nx p v).1.natAbs*v.2.natAbs≤Dv v (nx p v):=by unfold Dv;omega
 have h3:(nx p v).1.natAbs*1≤(nx p v).1.natAbs*v.2.natAbs:=ACQ _ (by omega)
 have:=h.d;omega
theorem Jf {B:Nat}:∀ (n:Nat) (p v:Vc),v.2.natAbs<n→Bd B p v→(euS n p v).1.1.natAbs≤B∧(euS n p v).2.natAbs≤B
 | 0,p,v,h,_=>by omega
 | n+1,p,v,h,hb=>by
  simp only[euS];split
  ·exact⟨hb.bp,hb.bv⟩
  ·rename_i hv;exact Jf n v (nx p v) (by have:=Hv p v hv;omega) (Ats hb hv)
theorem WV:∀ (n m:Nat) (p v:Vc),v.2.natAbs<n→v.2.natAbs<m→euS n p v=euS m p v
 | 0,m,p,v,h,_=>by omega
 | n+1,0,p,v,_,h=>by omega
 | n+1,m+1,p,v,h,h'=>by
  simp only[euS];split
  ·rfl
  ·rename_i hv;exact WV n m v (nx p v) (by have:=Hv p v hv;omega) (by have:=Hv p v hv;omega)
theorem Ao2 {p v:Vc} (h:Bd 36028797018963968 p v) (hp:p.2.natAbs≤1000000) (hv0:v.2≠0) (hv:v.2.natAbs≤1000000) :
  w (p.1-(w ((w (p.2.tdiv v.2))*v.1)))=(nx p v).1∧w (p.2-(w ((w (p.2.tdiv v.2))*v.2)))=(nx p v).2∧w (p.1+w (w (0-(w (p.2.tdiv v.2)))*v.1))=(nx p v).1∧w (p.2+w (w (0-(w (p.2.tdiv v.2)))*v.2))=(nx p v).2:=by
 have k1:(p.2.tdiv v.2).natAbs≤p.2.natAbs:=by rw[ADN];exact Nat.div_le_self _ _
 have k2:(p.2.tdiv v.2*v.1).natAbs≤Dv p v:=by
  rw[ACH];have:=ABO v.1.natAbs k1;unfold Dv;rw[ADg v.1.natAbs];omega
 have k3:(p.2.tdiv v.2*v.2).natAbs≤p.2.natAbs:=by
  rw[ACH,ADN];exact Nat.div_mul_le_self _ _
 have e1 : -p.2.tdiv v.2*v.1 = -(p.2.tdiv v.2*v.1):=ACD _ _;have e2 : -p.2.tdiv v.2*v.2 = -(p.2.tdiv v.2*v.2):=ACD _ _;obtain⟨b1,b2,b3⟩:=h;rw[As (n:=p.2.tdiv v.2) (by omega) (by omega),As (n:=p.2.tdiv v.2*v.1) (by omega) (by omega),As (n:=p.2.tdiv v.2*v.2) (by omega) (by omega),As (n:=0-p.2.tdiv v.2) (by omega) (by omega),Int.zero_sub,e1,e2,
  As (n := -(p.2.tdiv v.2*v.1)) (by omega) (by omega),As (n := -(p.2.tdiv v.2*v.2)) (by omega) (by omega)]
 simp only[nx];refine⟨As (by omega) (by omega),As (by omega) (by omega),?_,?_⟩
 ·rw[As (by omega) (by omega)];omega
 ·rw[As (by omega) (by omega)];omega
theorem WW (a:Int):∀ (n:Nat) (p v p' v':Vc),p.2=p'.2→v.2=v'.2→a ∣ p.1-p'.1→a ∣ v.1-v'.1 →
  (euS n p v).1.2=(euS n p' v').1.2∧a ∣ (euS n p v).1.1-(euS n p' v').1.1∧a ∣ (euS n p v).2-(euS n p' v').2
 | 0,p,v,p',v',h1,h2,h3,h4=>⟨h1,h3,h4⟩
 | n+1,p,v,p',v',h1,h2,h3,h4=>by
  simp only[euS,← h2];split
  ·exact⟨h1,h3,h4⟩
  ·refine WW a n v (nx p v) v' (nx p' v') h2 ?_ h4 ?_
   ·simp only[nx,← h1,← h2]
   ·simp only[nx,← h1,← h2];obtain⟨s,hs⟩:=h3;obtain⟨t,ht⟩:=h4;refine⟨s-p.2.tdiv v.2*t,?_⟩;rw[AD2,← hs,show a*(p.2.tdiv v.2*t)=p.2.tdiv v.2*(a*t) by rw[← ADn,AB2 a,ADn],← ht,AD2]
    omega
def Clo (S:Vc→Prop):Prop:=∀ u v:Vc,∀ k:Int,S u→S v→S (u.1+k*v.1,u.2+k*v.2)
theorem ZG {S:Vc→Prop} (hS:Clo S):∀ (n:Nat) (p v:Vc),v.2.natAbs<n→S p→S v→S (euS n p v).1∧S ((euS n p v).2,0)
 | 0,p,v,h,_,_=>by omega
 | n+1,p,v,h,hp,hv=>by
  simp only[euS];split
  ·rename_i h0;refine⟨hp,?_⟩;have:v=(v.1,0):=by rw[← h0]
   rwa [this] at hv
  ·rename_i h0;refine ZG hS n v (nx p v) (by have:=Hv p v h0;omega) hv ?_
   have:=hS p v (-(p.2.tdiv v.2)) hp hv;rw[ACD,ACD] at this;exact this
theorem T0 {S:Vc→Prop} (hS:Clo S):∀ (n:Nat) (p v:Vc),v.2.natAbs<n→S (euS n p v).1→S ((euS n p v).2,0)→S p∧S v
 | 0,p,v,h,_,_=>by omega
 | n+1,p,v,h,h1,h2=>by
  simp only[euS] at h1 h2;split at h1
  ·rename_i h0;rw[if_pos h0] at h2;have:v=(v.1,0):=by rw[← h0]
   exact⟨h1,by rw[this];exact h2⟩
  ·rename_i h0;rw[if_neg h0] at h2;obtain⟨h3,h4⟩:=T0 hS n v (nx p v) (by have:=Hv p v h0;omega) h1 h2
   refine⟨?_,h3⟩;have:=hS (nx p v) v (p.2.tdiv v.2) h4 h3;simp only[nx,Int.sub_add_cancel] at this;exact this
theorem Adq:∀ (n:Nat) (p v:Vc),v.2.natAbs<n→((euS n p v).2*(euS n p v).1.2).natAbs=(p.1*v.2-v.1*p.2).natAbs
 | 0,p,v,h=>by omega
 | n+1,p,v,h=>by
  simp only[euS];split
  ·rename_i h0;show (v.1*p.2).natAbs=_;rw[h0,ADy,Int.zero_sub,Int.natAbs_neg]
  ·rename_i h0;rw[Adq n v (nx p v) (by have:=Hv p v h0;omega)]
   have e:v.1*(nx p v).2-(nx p v).1*v.2 = -(p.1*v.2-v.1*p.2):=by
    simp only[nx,AD2,ADL];have:v.1*(p.2.tdiv v.2*v.2)=p.2.tdiv v.2*v.1*v.2:=by rw[← ADn,AB2 v.1]
    omega
   rw[e,Int.natAbs_neg]
theorem J9:∀ (n:Nat) (p v:Vc),v.2.natAbs<n→(euS n p v).1.2.natAbs=Nat.gcd p.2.natAbs v.2.natAbs
 | 0,p,v,h=>by omega
 | n+1,p,v,h=>by
  simp only[euS];split
  ·rename_i h0;simp[h0]
  ·rename_i h0;rw[J9 n v (nx p v) (by have:=Hv p v h0;omega),ZF,ACq,AEf p.2.natAbs,Nat.gcd_rec v.2.natAbs p.2.natAbs,AEf]
theorem AjR (n:Nat) (p v:Vc) (hn:v.2.natAbs<n) (hn3:3≤n) (hp:p.2≠0):2*(euS n p v).1.2.natAbs≤p.2.natAbs∨(euS n p v).1=p∨((euS n p v).1=v∧v.2.natAbs=p.2.natAbs):=by
 have hg:=J9 n p v hn;by_cases hd:p.2.natAbs ∣ v.2.natAbs
 ·right;rw[WV n (n+3) p v hn (by omega)]
  simp only[euS];split
  ·left;rfl
  ·rename_i h0;have h1:1≤v.2.natAbs:=by omega
   have hle:=Nat.le_of_dvd h1 hd;split
   ·rename_i h2;right;refine⟨rfl,?_⟩;rw[ZF] at h2;have h3:=ACq p.2 v.2;rw[h2] at h3;have h4:v.2.natAbs ∣ p.2.natAbs:=Nat.dvd_of_mod_eq_zero h3.symm;exact Nat.le_antisymm (Nat.le_of_dvd (by omega) h4) hle
   ·rename_i h2;left;have h3:p.2.natAbs<v.2.natAbs:=by
     rcases ABK p.2.natAbs v.2.natAbs with h | h
     ·exact h
     ·exfalso
      apply h2
      have:p.2.natAbs=v.2.natAbs:=by omega
      rw[ZF];have h3:=ACq p.2 v.2;rw[this,Nat.mod_self] at h3;omega
    have hk:p.2.tdiv v.2=0:=by
     have:(p.2.tdiv v.2).natAbs=0:=by rw[ADN];exact Nat.div_eq_of_lt h3
     omega
    have hnx:nx p v=p:=by simp only[nx,hk,ADx,AEe]
    rw[hnx];have h5:(nx v p).2=0:=by
     rw[ZF];have h6:=ACq v.2 p.2;rw[Nat.mod_eq_zero_of_dvd hd] at h6;omega
    rw[if_pos h5]
 ·left;rw[hg];have h1:=Nat.gcd_dvd_left p.2.natAbs v.2.natAbs;have h2:Nat.gcd p.2.natAbs v.2.natAbs≠p.2.natAbs:=fun h=>hd (by have:=Nat.gcd_dvd_right p.2.natAbs v.2.natAbs;rwa [h] at this)
  obtain⟨k,hk⟩:=h1;have h3:2≤k:=by
   rcases ABK k 2 with h | h
   ·have:k=0∨k=1:=by omega
    rcases this with rfl | rfl
    ·simp at hk;omega
    ·rw[AEk] at hk;exact absurd hk.symm h2
   ·exact h
  have:=ACQ (Nat.gcd p.2.natAbs v.2.natAbs) h3;omega
noncomputable def Att (a:Int) (q:Int) (L:Int→Int→Int→Int→Option Lt) (r:Vc×Int):Option Lt :=
 (AbG KK a r.2).bind fun y20=>(bif (decide (y20>(0:Int))) then (IP KK r.1.1 y20).bind fun y21=>L y20 (w (q+(1:Int))) y21 r.1.2 else L y20 (w (q+(1:Int))) r.1.1 r.1.2)
theorem Adr (l:List Vc) (a q:Int) (L:Int→Int→Int→Int→Option Lt):∀ (n:Nat) (p v:Vc),v.2.natAbs<n→Bd 36028797018963968 p v→p.2.natAbs≤1000000→v.2.natAbs≤1000000 →
  FE KK l a q L n p.1 p.2 v.1 v.2=Att a q L (euS n p v)
 | 0,p,v,h,_,_,_=>by omega
 | n+1,p,v,h,hb,hp,hv=>by
  have e:FE KK l a q L (n+1) p.1 p.2 v.1 v.2=N2 KK l a q L (fun v0 v1 v2 v3=>FE KK l a q L n v0 v1 v2 v3) p.1 p.2 v.1 v.2:=rfl;rw[e];unfold N2
  dsimp only
  by_cases h0:v.2=0
  ·have h1:(v.2 != 0)=false:=by simp[h0]
   rw[h1,cF];simp only[euS,h0,if_true];rfl
  ·have h1:(v.2 != 0)=true:=by simp[h0]
   obtain⟨c1,c2,c3,c4⟩:=Ao2 hb hp h0 hv;have h2:=Hv p v h0;rw[h1,cT,cT,c1,c2,Adr l a q L n v (nx p v) (by omega) (Ats hb h0) hv (by omega)]
   simp only[euS,if_neg h0]
abbrev Hs:=Int×Vc
def gI (a x:Int):Int:=((Int.gcd a x:Nat):Int)
def stI (s:Hs) (t:Vc):Hs:=(gI s.1 (euS KK s.2 t).2,(euS KK s.2 t).1)
def stR (s:Hs) (t:Vc):Hs:=(gI s.1 (euS KK s.2 t).2,((if gI s.1 (euS KK s.2 t).2>0 then (euS KK s.2 t).1.1 % gI s.1 (euS KK s.2 t).2 else (euS KK s.2 t).1.1),(euS KK s.2 t).1.2))
structure Oks (s:Hs) (t:Vc):Prop where
 bd:Bd 36028797018963968 s.2 t
 y:s.2.2.natAbs≤1000000
 ty:t.2.natAbs≤1000000
 a:s.1.natAbs≤1000000
 g:gI s.1 (euS KK s.2 t).2≤1000000
def Eb (s:Hs):Lt:=(s.1,(if s.1>0 then (if s.2.2<0 then -s.2.1 else s.2.1) % s.1 else (if s.2.2<0 then -s.2.1 else s.2.1)),(if s.2.2<0 then -s.2.2 else s.2.2))
theorem T1 (a x:Int):0≤gI a x:=by unfold gI;omega
theorem Fp {n:Nat} (h:n≤1000000):n<KK:=by simp only[KK];omega
theorem Atu {n:Nat} (h:n≤1048576):n<KK:=by simp only[KK];omega
theorem On (l:List Vc) (hl:l.length≤1000000) (inv:Nat→Hs→Prop) (h0:inv 0 (0,0,0)) (h1:∀ q s (hq:q<l.length),inv q s→Oks s l[q]∧inv (q+1) (stR s l[q]))
  (h2:∀ s,inv l.length s→s.1≤1000000∧s.2.1.natAbs≤36028797018963968∧s.2.2.natAbs≤36028797018963968):IQ KK l=some (Eb (l.foldl stR (0,0,0))):=by
 have h:=AJ (X:=Int×Int×Int×Int) (body:=fun L x=>Hp KK l (fun c0 c1 d0 d1 d2 d3=>FE KK l c0 c1 (fun v0 v1 v2 v3=>L (v0,v1,v2,v3)) KK d0 d1 d2 d3) (fun v0 v1 v2 v3=>L (v0,v1,v2,v3)) x.1 x.2.1 x.2.2.1 x.2.2.2) l (fun q s=>(s.1,(q:Int),s.2.1,s.2.2)) stR (fun s=>some (Eb s)) inv
  (fun L q s hq hi=>by
   obtain⟨ok,hn⟩:=h1 q s hq hi;refine⟨hn,?_⟩;have hy:=Fp ok.ty;have hbd:=Jf KK s.2 l[q] hy ok.bd;unfold Hp;simp only;rw[in1 hq,in0,gd hq,Adr l s.1 q _ KK s.2 l[q] hy ok.bd ok.y ok.ty];simp only[aS,cT];unfold Att;rw[ZE ok.a (by have:=hbd.2;omega),oB,Af (by omega)]
   show (bif decide (gI s.1 (euS KK s.2 l[q]).2>0) then _ else _)=_;unfold stR;by_cases hg:gI s.1 (euS KK s.2 l[q]).2>0
   ·rw[dT hg,cT];show (IP KK (euS KK s.2 l[q]).1.1 (gI s.1 (euS KK s.2 l[q]).2)).bind _=_;rw[FK (by omega) ok.g]
    simp only[oB,if_pos hg];rfl
   ·rw[dF hg,cF];simp only[if_neg hg];rfl)
  (fun L s hi=>by
   obtain⟨e1,e2,e3⟩:=h2 s hi;unfold Hp Ahy;simp only;rw[AO,cF];unfold Eb;by_cases hy:s.2.2<0
   ·rw[dT hy,cT,oB,As (n := -1*s.2.1) (by omega) (by omega),As (n := -1*s.2.2) (by omega) (by omega)]
    simp only[if_pos hy];have e4 : -1*s.2.1 = -s.2.1:=by omega
    have e5 : -1*s.2.2 = -s.2.2:=by omega
    rw[e4,e5];by_cases ha:s.1>0
    ·rw[dT ha,cT,FK (by omega) e1,if_pos ha];rfl
    ·rw[dF ha,cF,if_neg ha]
   ·rw[dF hy,cF];simp only[if_neg hy];by_cases ha:s.1>0
    ·rw[dT ha,cT,FK (by omega) e1,if_pos ha];rfl
    ·rw[dF ha,cF,if_neg ha]) KK 0 (0,0,0) (by omega) (by have:=Fp hl;omega) h0
 unfold IQ YL N3;refine h.trans ?_;simp only[ABb]
theorem AjS {a x y:Int} (h:a ∣ x-y):Int.gcd a x=Int.gcd a y:=by
 obtain⟨k,hk⟩:=h;have:x=y+a*k:=by omega
 subst this;simp
theorem Ie {a x y:Int} (h:a ∣ x-y):x % a=y % a :=
 Int.emod_eq_emod_iff_emod_sub_eq_zero.mpr (Int.emod_eq_zero_of_dvd h)
structure Rl (s r:Hs):Prop where
 a:s.1=r.1
 p:0≤s.1
 y:s.2.2=r.2.2
 x:s.1 ∣ s.2.1-r.2.1
theorem Ao3 {s r:Hs} (h:Rl s r) (t:Vc):Rl (stI s t) (stR r t):=by
 obtain⟨c1,c2,c3⟩:=WW s.1 KK s.2 t r.2 t h.y rfl h.x (by simp)
 have hg:gI s.1 (euS KK s.2 t).2=gI r.1 (euS KK r.2 t).2:=by
  unfold gI;rw[AjS c3,h.a]
 have hd:gI s.1 (euS KK s.2 t).2 ∣ s.1:=by unfold gI;exact AEa ..
 refine⟨hg,T1 _ _,c1,?_⟩;have h1:=Int.dvd_trans hd c2;show gI s.1 (euS KK s.2 t).2 ∣ (euS KK s.2 t).1.1-(stR r t).2.1;unfold stR;simp only[← hg];split
 ·have e:(euS KK s.2 t).1.1-(euS KK r.2 t).1.1 % gI s.1 (euS KK s.2 t).2=((euS KK s.2 t).1.1-(euS KK r.2 t).1.1)+((euS KK r.2 t).1.1-(euS KK r.2 t).1.1 % gI s.1 (euS KK s.2 t).2):=by omega
  rw[e];exact Int.dvd_add h1 (Int.dvd_self_sub_emod)
 ·exact h1
theorem T2:∀ (l:List Vc) {s r:Hs},Rl s r→Rl (l.foldl stI s) (l.foldl stR r)
 | [],_,_,h=>h
 | t :: l,_,_,h=>T2 l (Ao3 h t)
theorem AjT {s r:Hs} (h:Rl s r):Eb s=Eb r:=by
 unfold Eb;rw[← h.a,← h.y];have hx:=h.x;congr 2;split
 ·split
  ·apply Ie
   have e : -s.2.1 - -r.2.1 = -(s.2.1-r.2.1):=by omega
   rw[e];exact Int.dvd_neg.mpr hx
  ·exact Ie hx
 ·have h0:s.1=0:=by have:=h.p;omega
  rw[h0,Int.zero_dvd] at hx;have:s.2.1=r.2.1:=by omega
  rw[this]
def Gd (Y X:Nat):Prop:=(Y≤64∧X≤64)∨(Y≤32∧X≤8192)∨(Y≤16∧X≤1048576)∨(Y≤8∧X≤134217728)∨(Y≤4∧X≤17179869184)∨(Y≤2∧X≤2199023255552)∨(Y≤1∧X≤281474976710656)
structure Bx (t:Vc):Prop where
 x1:0≤t.1
 x2:t.1≤64
 y1:0≤t.2
 y2:t.2≤64
structure Pp (p:Vc):Prop where
 y:0≤p.2
 z:p.2=0→p=(0,0)
 g:1≤p.2→Gd p.2.natAbs p.1.natAbs
theorem Oo:∀ (n:Nat) (p v:Vc),0≤p.2→0≤v.2→0≤(euS n p v).1.2
 | 0,p,v,h,_=>h
 | n+1,p,v,h,h2=>by
  simp only[euS];split
  ·exact h
  ·exact Oo n v (nx p v) h2 (by rw[ZF];exact ADp _ h)
theorem Ay2 (n:Nat) {p v:Vc} (h:v.2=0):euS (n+1) p v=(p,v.1):=by
 simp only[euS,h,if_true]
theorem FM {p v:Vc} (h:v.2=0):euS KK p v=(p,v.1):=Ay2 2097151 h
theorem Atv {Y X:Nat} (h:Gd Y X):Y≤64∧X≤281474976710656:=by unfold Gd at h;omega
theorem Atw {p t:Vc} (ht:Bx t) (hp:p.2.natAbs≤64):Dv p t≤p.1.natAbs*64+4096:=by
 unfold Dv;have h1:p.1.natAbs*t.2.natAbs≤p.1.natAbs*64:=ACQ _ (by have:=ht.y1;have:=ht.y2;omega)
 have h2:t.1.natAbs*p.2.natAbs≤64*64:=ADU (by have:=ht.x1;have:=ht.x2;omega) hp
 omega
theorem Atx {p t:Vc} (ht:Bx t) (hp:Pp p):Bd 36028797018963968 p t∧p.2.natAbs≤64:=by
 obtain⟨x1,x2,y1,y2⟩:=ht;have hy:p.2.natAbs≤64∧p.1.natAbs≤281474976710656:=by
  rcases ADz p.2 1 with h | h
  ·have h0:p.2=0:=by have:=hp.y;omega
   rw[hp.z h0];simp
  ·exact Atv (hp.g h)
 refine⟨⟨by omega,by omega,?_⟩,hy.1⟩
 have:=Atw ⟨x1,x2,y1,y2⟩ hy.1;omega
theorem AjU {p t:Vc} (ht:Bx t) (hp:Pp p):Pp (euS KK p t).1∧(1≤p.2→1≤(euS KK p t).1.2∧(euS KK p t).1.2≤p.2)∧(p.2=0→(euS KK p t).1.2=t.2):=by
 obtain⟨hb,h64⟩:=Atx ht hp;have hn:=Oo KK p t hp.y ht.y1;have hlt:t.2.natAbs<KK:=Fp (by have:=ht.y1;have:=ht.y2;omega)
 have hg:=J9 KK p t hlt;have hx1:=ht.x1;have hx2:=ht.x2;have hy1:=ht.y1;have hy2:=ht.y2;rcases ADz p.2 1 with h | h
 ·have h0:p.2=0:=by have:=hp.y;omega
  have hp0:=hp.z h0;subst hp0;have hy:(euS KK (0,0) t).1.2=t.2:=by
   simp at hg;omega
  refine⟨⟨hn,fun h1=>?_,fun h1=>?_⟩,fun h1=>by simp at h1,fun _=>hy⟩
  ·rw[FM (by omega)]
  ·have:=(Jf (B:=64) KK (0,0) t hlt ⟨by simp,by omega,by simp[Dv]⟩).1
   unfold Gd;omega
 ·have hG:=hp.g h;have h1:1≤(euS KK p t).1.2.natAbs:=by
   rw[hg];exact Nat.gcd_pos_of_pos_left _ (by omega)
  have h2:(euS KK p t).1.2.natAbs≤p.2.natAbs:=by
   rw[hg];exact Nat.gcd_le_left _ (by omega)
  refine⟨⟨hn,fun h3=>by omega,fun _=>?_⟩,fun _=>by omega,fun h0=>by omega⟩
  rcases ADz t.2 1 with h4 | h4
  ·rw[FM (by omega)];exact hG
  ·have hD:=Atw ht h64;have hP:p.1.natAbs≤Dv p t:=by
    unfold Dv;have:p.1.natAbs*1≤p.1.natAbs*t.2.natAbs:=ACQ _ (by omega)
    omega
   have hV:t.1.natAbs≤Dv p t:=by
    unfold Dv;have:t.1.natAbs*1≤t.1.natAbs*p.2.natAbs:=ACQ _ (by omega)
    omega
   have hB:=(Jf (B:=Dv p t) KK p t hlt ⟨hP,hV,AA9 _⟩).1;rcases AjR KK p t hlt (by simp[KK]) (by omega) with h5 | h5 | ⟨h5,h6⟩
   ·generalize (euS KK p t).1.2.natAbs=Y at *;generalize (euS KK p t).1.1.natAbs=X at *;unfold Gd at hG ⊢;omega
   ·rw[h5];exact hG
   ·rw[h5];unfold Gd at hG ⊢;omega
structure Iv (l:Lt) (q:Nat) (s:Hs):Prop where
 z:q=0→s=(0,0,0)
 a:1≤q→1≤s.1∧s.1≤l.1
 o:q=1→s.2.2=0
 y:2≤q→1≤s.2.2∧s.2.2≤l.2.2
 p:Pp s.2
theorem Ads {a x:Int} (h:1≤a):1≤gI a x∧gI a x≤a:=by
 have h1:0<Int.gcd a x:=Int.gcd_pos_of_ne_zero_left _ (by omega)
 have h2:gI a x ∣ a:=by unfold gI;exact AEa ..
 have h3:=Int.le_of_dvd (by omega) h2
 unfold gI at *;omega
theorem Ay3 {l:Lt} (hl:IsL l) {q:Nat} {s:Hs} (h:Iv l q s) {t:Vc} (ht:Bx t):Oks s t:=by
 obtain⟨hb,h64⟩:=Atx ht h.p;have ha:=hl.a2;refine⟨hb,by omega,by have:=ht.y1;have:=ht.y2;omega,?_,?_⟩
 ·rcases ABL q with h0 | h0
  ·rw[h.z h0];simp
  ·have:=h.a h0;omega
 ·rcases ABL q with h0 | h0
  ·rw[h.z h0];have:=(Jf (B:=64) KK (0,0) t (Fp (by have:=ht.y1;have:=ht.y2;omega)) ⟨by simp,by have:=ht.x1;have:=ht.x2;omega,by simp[Dv]⟩).2
   unfold gI;simp only[ACz];omega
  ·have h1:=h.a h0;have:=Ads (x:=(euS KK s.2 t).2) h1.1;omega
theorem Aty {l:Lt} (hl:IsL l) {q:Nat} {s:Hs} (h:Iv l q s) {t:Vc} (ht:Bx t) (h0:q=0→t=(l.1,0)) (h1:q=1→t.2=l.2.2) (s':Hs) (e1:s'.1=gI s.1 (euS KK s.2 t).2) (e2:s'.2.2=(euS KK s.2 t).1.2) (e3:Pp s'.2):Iv l (q+1) s':=by
 obtain⟨k1,k2,k3⟩:=AjU ht h.p;refine⟨fun h=>by omega,fun _=>?_,fun hq=>?_,fun hq=>?_,e3⟩
 ·rw[e1];rcases ABL q with hq | hq
  ·rw[h.z hq,h0 hq,FM rfl];unfold gI;simp only[ACz];have:=hl.a1;omega
  ·have h1:=h.a hq;have:=Ads (x:=(euS KK s.2 t).2) h1.1;omega
 ·have hq0:q=0:=by omega
  rw[e2,h.z hq0,h0 hq0,FM rfl]
 ·rw[e2];rcases ABK q 2 with hq2 | hq2
  ·have hq1:q=1:=by omega
   rw[k3 (h.o hq1),h1 hq1];have:=hl.c1;omega
  ·have:=h.y hq2;have:=k2 this.1;omega
theorem AuT {p:Vc} (h:Pp p) {a:Int} (ha:a≤64):Pp ((if a>0 then p.1 % a else p.1),p.2):=by
 refine⟨h.y,fun h0=>?_,fun h1=>?_⟩
 ·have:=h.z h0;rw[this];simp
 ·have hg:=h.g h1;split
  ·rename_i h2;have h3:=ACp p.1 (show a≠0 by omega)
   have h4:=ACe p.1 h2;simp only;unfold Gd at hg ⊢;omega
  ·exact hg
theorem AAu {l:Lt} (hl:IsL l) {q:Nat} {s:Hs} (h:Iv l q s) {t:Vc} (ht:Bx t) (h0:q=0→t=(l.1,0)) (h1:q=1→t.2=l.2.2):Iv l (q+1) (stI s t) :=
 Aty hl h ht h0 h1 _ rfl rfl (AjU ht h.p).1
theorem AAv {l:Lt} (hl:IsL l) {q:Nat} {s:Hs} (h:Iv l q s) {t:Vc} (ht:Bx t) (h0:q=0→t=(l.1,0)) (h1:q=1→t.2=l.2.2):Iv l (q+1) (stR s t):=by
 refine Aty hl h ht h0 h1 _ rfl rfl (AuT (AjU ht h.p).1 ?_);have ha:=hl.a2;rcases ABL q with hq | hq
 ·rw[h.z hq,h0 hq,FM rfl];unfold gI;simp only[ACz];have:=hl.a1;omega
 ·have h1:=h.a hq;have:=Ads (x:=(euS KK s.2 t).2) h1.1;omega
theorem Ay4 (l:Lt):Iv l 0 (0,0,0) :=
 ⟨fun _=>rfl,fun h=>by omega,fun h=>by omega,fun h=>by omega,⟨by simp,fun _=>rfl,fun h=>by simp at h⟩⟩
theorem AuU {l:Lt} (hl:IsL l) {q:Nat} (hq:2≤q) {s:Hs} (h:Iv l q s):IsL (Eb s):=by
 obtain⟨a1,a2⟩:=h.a (by omega)
 obtain⟨y1,y2⟩:=h.y hq;obtain⟨b1,b2,b3,b4,b5,b6,b7⟩:=hl;have hy:¬ s.2.2<0:=by omega
 unfold Eb;simp only[if_neg hy,if_pos (show s.1>0 by omega)]
 refine⟨a1,by simp only;omega,y1,by simp only;omega,ACp _ (by omega),ACe _ (by omega),?_⟩
 have m1:s.1*s.2.2≤l.1*s.2.2:=AB5 a2 (by omega)
 have m2:l.1*s.2.2≤l.1*l.2.2:=ACh y2 (by omega)
 simp only;omega
theorem K9 {α S:Type} (f:S→α→S) (P:Nat→S→Prop):∀ (l:List α) (q:Nat) (s:S),P q s→(∀ i s (h:i<l.length),P (q+i) s→P (q+i+1) (f s l[i]))→P (q+l.length) (l.foldl f s)
 | [],q,s,h,_=>h
 | a :: l,q,s,h,hs=>by
  rw[ABy];have:=K9 f P l (q+1) (f s a) (hs 0 s (by simp) h) (fun i s' hi hP=>by
   have:=hs (i+1) s' (by simp;omega) (by rw[show q+(i+1)=q+1+i by omega];exact hP)
   rw[show q+(i+1)+1=q+1+i+1 by omega] at this
   simpa using this)
  rw[ABc,show q+(l.length+1)=q+1+l.length by omega]
  exact this
def AuV (l:List Vc):Lt:=Eb (l.foldl stI (0,0,0))
theorem AuW {l:Lt} (hl:IsL l) (rest:List Vc) (hr:∀ t∈rest,Bx t) :
  ∀ q (hq:q<((l.1,0) :: (l.2.1,l.2.2) :: rest).length),Bx ((l.1,0) :: (l.2.1,l.2.2) :: rest)[q]∧(q=0→((l.1,0) :: (l.2.1,l.2.2) :: rest)[q]=(l.1,0))∧(q=1→((l.1,0) :: (l.2.1,l.2.2) :: rest)[q].2=l.2.2):=by
 obtain⟨a1,a2,c1,c2,b1,b2,ix⟩:=hl;intro q hq
 match q,hq with
 | 0,_=>exact⟨⟨by simp;omega,by simp;omega,by simp,by simp⟩,fun _=>rfl,fun h=>by omega⟩
 | 1,_=>exact⟨⟨by simp;omega,by simp;omega,by simp;omega,by simp;omega⟩,fun h=>by omega,fun _=>rfl⟩
 | q+2,hq=>exact⟨hr _ (by simp),fun h=>by omega,fun h=>by omega⟩
theorem AjV {l:Lt} (hl:IsL l) (rest:List Vc):∀ s,Iv l ((l.1,0) :: (l.2.1,l.2.2) :: rest).length s→1≤s.1∧s.1≤1000000∧s.2.1.natAbs≤36028797018963968∧s.2.2.natAbs≤36028797018963968:=by
 intro s h;have hlen:((l.1,0) :: (l.2.1,l.2.2) :: rest).length=rest.length+2:=by simp
 obtain⟨a1,a2⟩:=h.a (by omega)
 obtain⟨y1,y2⟩:=h.y (by omega)
 have:=Atv (h.p.g y1);have:=hl.a2;omega
theorem AjW {l:Lt} (hl:IsL l) (rest:List Vc) (hn:rest.length≤1000) (hr:∀ t∈rest,Bx t) :
  IQ KK ((l.1,0) :: (l.2.1,l.2.2) :: rest)=some (AuV ((l.1,0) :: (l.2.1,l.2.2) :: rest))∧IsL (AuV ((l.1,0) :: (l.2.1,l.2.2) :: rest)):=by
 have hb:=AuW hl rest hr;have hlen:((l.1,0) :: (l.2.1,l.2.2) :: rest).length=rest.length+2:=by simp
 have e1:=On _ (by omega) (Iv l) (Ay4 l) (fun q s hq h=>by
  obtain⟨b1,b2,b3⟩:=hb q hq;exact⟨Ay3 hl h b1,AAv hl h b1 b2 b3⟩) (fun s h=>(AjV hl rest s h).2)
 have hrl:=AjT (T2 ((l.1,0) :: (l.2.1,l.2.2) :: rest) (s:=(0,0,0)) (r:=(0,0,0)) ⟨rfl,by simp,rfl,by simp⟩)
 refine⟨by rw[e1,← hrl];rfl,?_⟩
 have:=K9 stI (Iv l) ((l.1,0) :: (l.2.1,l.2.2) :: rest) 0 (0,0,0) (Ay4 l) (fun i s hi h=>by
  rw[ABw] at h ⊢;obtain⟨b1,b2,b3⟩:=hb i hi;exact AAu hl h b1 b2 b3)
 exact AuU hl (by omega) this
abbrev Un:Mt:=(1,0,0,1)
theorem Ay5:SmM Un:=⟨by simp,by simp,by simp,by simp⟩
def Oq (p:Pt):List Vc:=(Aa p.2.1).filter fun t=>Bh p (Un,t)
def Eg (p:Pt):Lt:=AuV ((p.2.1.1,0) :: (p.2.1.2.1,p.2.1.2.2) :: Oq p)
theorem Adt {l:Lt} (hl:IsL l) {v:Vc} (h:v∈Aa l):Bx v:=by
 obtain⟨h1,h2,h3,h4⟩:=Ci h;obtain⟨a1,a2,c1,c2,b1,b2,ix⟩:=hl;exact⟨by omega,by omega,by omega,by omega⟩
theorem La {p:Pt} (hp:IsP p):IQ KK ([(p.2.1.1,0),p.2.1.2]++Oq p)=some (Eg p)∧IsL (Eg p):=by
 have h1:(Oq p).length≤64:=ABo (ACs _ _) (AK hp.l);exact AjW hp.l (Oq p) (by omega) (fun t ht=>Adt hp.l (ABs.mp ht).1)
theorem AfH (p:Pt) (s:List Vc):(Aa p.2.1).foldl (fun s t=>bif Bh p (Un,t) then s++[t] else s) s=s++Oq p:=by
 have:=Dh (fun t=>Bh p (Un,t)) (fun t:Vc=>t) (Aa p.2.1) s;rw[List.map_id'] at this;exact this
theorem ZH {p:Pt} (hp:IsP p):Ah5 KK p=some (Eg p):=by
 unfold Ah5 Ah4 VX;rw[Da hp.l];simp only[oB];have hc:=AK hp.l;have h:=AJ (X:=Int×List Vc) (body:=fun L x=>Td KK p (Aa p.2.1) (fun v0 v1=>L (v0,v1)) x.1 x.2) (Aa p.2.1) (fun q s=>((q:Int),s)) (fun s t=>bif Bh p (Un,t) then s++[t] else s) (fun s=>(IQ KK s).bind fun y=>some y) (fun q s=>s.length≤q+2)
  (fun L q s hq hi=>by
   have hv:=J7 hp.l (gM hq);refine⟨?_,?_⟩
   ·cases Bh p (Un,(Aa p.2.1)[q])<;>simp<;>omega
   unfold Td Qd;simp only;rw[in1 hq,in0,gd hq];simp only[aS,cT,oB];rw[L0 hp (m:=(Un,(Aa p.2.1)[q])) Ay5 hv,oB,Gm (by simp;omega),Af (by omega)]
   cases Bh p (Un,(Aa p.2.1)[q])<;>rfl)
  (fun L s hi=>by
   unfold Td;simp only;rw[AO,cF]) KK 0 [(p.2.1.1,0),p.2.1.2] (by omega) (by have:=Fp (n:=(Aa p.2.1).length) (by omega);omega) (by simp)
 unfold YV;refine h.trans ?_;simp only[ABb];rw[AfH,(La hp).1];rfl
def onS (p:Pt) (l:Lt):Pt:=(p.1,l,(Aa l).map (atS p))
theorem AjX {p:Pt} (hp:IsP p) {l:Lt} (hl:IsL l):Ah8 KK p l=some (onS p l):=by
 unfold Ah8 Ah7;rw[Da hl];simp only[oB];have hc:=AK hl;have h:=AJ (X:=Int×List Int) (body:=fun L x=>Te KK p l (Aa l) (fun v0 v1=>L (v0,v1)) x.1 x.2) (Aa l) (fun q s=>((q:Int),s)) (fun s t=>s++[atS p t]) (fun s=>some (p.1,l,s)) (fun q s=>s.length≤q)
  (fun L q s hq hi=>by
   have hv:=J7 hl (gM hq);refine⟨by simp;omega,?_⟩
   unfold Te;simp only;rw[in1 hq,in0,gd hq];simp only[aS,cT];rw[J5 hp (Om hv),oB,GR (by simp;omega),Af (by omega)]
   rfl)
  (fun L s hi=>by
   unfold Te;simp only;rw[AO,cF]) KK 0 [] (by omega) (by have:=Fp (n:=(Aa l).length) (by omega);omega) (by simp)
 unfold YW;refine h.trans ?_;simp only[ABb];rw[EA];rfl
def Ap (p:Pt):Pt:=onS p (Eg p)
theorem Ig {p:Pt} (hp:IsP p):IsP (Ap p):=by
 have hl:=(La hp).2;refine⟨hp.f1,hp.f2,hl,?_⟩;show ((((Aa (Eg p)).map (atS p)).length:Nat):Int)=_;rw[ABf,CH hl,Gq hl];rfl
theorem Ot {p:Pt} (hp:IsP p):YX KK p=some (Ap p):=by
 unfold YX;rw[ZH hp,oB,AjX hp (La hp).2,oB];rfl
def InL (l:Lt) (v:Vc):Prop:=∃ i j:Int,v=(i*l.1+j*l.2.1,j*l.2.2)
theorem El (l:Lt):Clo (InL l):=by
 rintro u v k ⟨i,j,rfl⟩ ⟨i',j',rfl⟩
 refine⟨i+k*i',j+k*j',?_⟩;simp only[ACX,ADv,ADn];congr 1;omega
theorem FN {l:Lt} (hl:IsL l) (v:Vc):AX l v=(0,0)↔InL l v:=by
 obtain⟨a1,a2,c1,c2,b1,b2,ix⟩:=hl;unfold AX;constructor
 ·intro h;simp only[ACE] at h;obtain⟨h1,h2⟩:=h;obtain⟨i,hi⟩:=AEb h1;refine⟨i,v.2 / l.2.2,?_⟩;have h3:=Int.ediv_mul_cancel (AEb h2);have h4:i*l.1=l.1*i:=AB2 _ _;refine Prod.ext ?_ h3.symm;simp only;omega
 ·rintro⟨i,j,rfl⟩
  simp only;have h1:j*l.2.2 / l.2.2=j:=Int.mul_ediv_cancel _ (by omega)
  rw[h1,show i*l.1+j*l.2.1-j*l.2.1=i*l.1 by omega,Int.mul_emod_left,Int.mul_emod_left]
theorem AjY (n:Nat) {a:Vc} (h:a.2≠0):euS (n+2) (0,0) a=(a,0):=by
 have h1:nx (0,0) a=(0,0):=by simp[nx]
 simp only[euS,h,if_false,h1,if_true]
theorem M8 {S:Vc→Prop} (hS:Clo S) {v:Vc} (h:S v):S (-v.1,-v.2):=by
 have:=hS v v (-2) h h;have e1:v.1 + -2*v.1 = -v.1:=by omega
 have e2:v.2 + -2*v.2 = -v.2:=by omega
 rwa [e1,e2] at this
theorem M9 {S:Vc→Prop} (hS:Clo S) (x:Int):S ((x.natAbs:Int),0)↔S (x,0):=by
 rcases AEm x with h | h
 ·rw[← h]
 ·constructor
  ·intro h1;have:=M8 hS h1;simp only[Int.neg_zero] at this
   rwa [← h] at this
  ·intro h1;have:=M8 hS h1;simp only[Int.neg_zero] at this;rw[show (x.natAbs:Int) = -x by omega]
   exact this
theorem two {a b:Vc} (ha:a.2.natAbs<1000000) (hb:b.2.natAbs<1000000) (hd:a.1*b.2-b.1*a.2≠0) :
  let s:=stI (stI (0,0,0) a) b
  0<s.1∧s.1*(s.2.2.natAbs:Int)=((a.1*b.2-b.1*a.2).natAbs:Int)∧∀ S:Vc→Prop,Clo S→((S a∧S b)↔(S (s.1,0)∧S s.2)):=by
 intro s;have hs:s=stI (stI (0,0,0) a) b:=rfl;by_cases h0:a.2=0
 ·have e1:stI (0,0,0) a=((a.1.natAbs:Int),(0,0)):=by
   simp only[stI,FM h0,gI,ACz]
  have hb0:b.2≠0:=by
   intro h;apply hd;rw[h0,h];simp
  have e2:euS KK (0,0) b=(b,0):=AjY 2097150 hb0;have e3:s=((a.1.natAbs:Int),b):=by
   rw[hs,e1];simp only[stI,e2,gI];congr 1;simp
  rw[e3];have ea:a=(a.1,0):=by rw[← h0]
  rw[h0] at hd ⊢;simp only[ADy,AEe] at hd ⊢;refine⟨?_,?_,?_⟩
  ·have:a.1≠0:=by rintro h;apply hd;rw[h];simp
   omega
  ·rw[ACH,ACA]
  ·intro S hS;rw[M9 hS a.1,← ea]
 ·have e1:stI (0,0,0) a=(0,a):=by
   have e2:euS KK (0,0) a=(a,0):=AjY 2097150 h0;simp only[stI,e2,gI];rfl
  have e3:s=(((euS KK a b).2.natAbs:Int),(euS KK a b).1):=by
   rw[hs,e1];simp only[stI,gI,ACz]
  have hlt:=Fp (n:=b.2.natAbs) (by omega)
  have hdet:=Adq KK a b hlt;rw[e3];simp only;rw[ACH] at hdet;refine⟨?_,?_,?_⟩
  ·rcases ABL (euS KK a b).2.natAbs with h | h
   ·rw[h,Nat.zero_mul] at hdet;omega
   ·omega
  ·rw[← hdet,ACA]
  ·intro S hS;rw[M9 hS];constructor
   ·rintro⟨h1,h2⟩
    exact (ZG hS KK a b hlt h1 h2).symm
   ·rintro⟨h1,h2⟩
    exact T0 hS KK a b hlt h2 h1
def AjZ (a b:Vc):Int:=a.1*b.2-b.1*a.2
theorem Ao4 {l:Lt} (hl:IsL l) {a b:Vc} (ha:a.2.natAbs<1000000) (hb:b.2.natAbs<1000000) (hd:(AjZ a b).natAbs=l.1*l.2.2) :
  Eb (stI (stI (0,0,0) a) b)=l↔InL l a∧InL l b:=by
 obtain⟨a1,a2,c1,c2,b1,b2,ix⟩:=hl;have hAC:0<l.1*l.2.2:=Int.mul_pos (by omega) (by omega)
 obtain⟨hg,hm,hS⟩:=two ha hb (by unfold AjZ at hd;omega)
 have hS:=hS (InL l) (El l);generalize stI (stI (0,0,0) a) b=s at *;rw[show a.1*b.2-b.1*a.2=AjZ a b from rfl,hd] at hm
 rw[hS];have e0:Eb s=(s.1,(if s.2.2<0 then -s.2.1 else s.2.1) % s.1,(if s.2.2<0 then -s.2.2 else s.2.2)):=by
  unfold Eb;rw[if_pos hg]
 rw[e0];constructor
 ·intro h;rw[ACM,ACM] at h;obtain⟨h1,h2,h3⟩:=h;simp only at h1 h2 h3;rw[h1] at h2;refine⟨⟨1,0,by rw[h1];simp⟩,?_⟩
  split at h2
  ·rename_i hn;rw[if_pos hn] at h3;have h4:=ADw (-s.2.1) l.1;refine⟨-(-s.2.1 / l.1),-1,?_⟩;have h5:l.1*(-s.2.1 / l.1)=(-s.2.1 / l.1)*l.1:=AB2 _ _;rw[ACD];refine Prod.ext ?_ ?_<;>simp only<;>omega
  ·rename_i hn;rw[if_neg hn] at h3;have h4:=ADw s.2.1 l.1;refine⟨s.2.1 / l.1,1,?_⟩;have h5:l.1*(s.2.1 / l.1)=(s.2.1 / l.1)*l.1:=AB2 _ _;refine Prod.ext ?_ ?_<;>simp only<;>omega
 ·rintro⟨⟨i,j,h1⟩,⟨i',j',h2⟩⟩
  have h3:s.1=i*l.1+j*l.2.1:=congrArg (fun x:Vc=>x.1) h1;have h4:(0:Int)=j*l.2.2:=congrArg (fun x:Vc=>x.2) h1;have h5:s.2.1=i'*l.1+j'*l.2.1:=congrArg (fun x:Vc=>x.1) h2;have h6:s.2.2=j'*l.2.2:=congrArg (fun x:Vc=>x.2) h2;have hj:j=0:=by
   rcases ADq.mp h4.symm with h | h
   ·exact h
   ·omega
  subst hj;rw[ADx,ADS] at h3;have hi:1≤i:=by
   rcases ADz i 1 with h | h
   ·have:i*l.1≤0:=Int.mul_nonpos_of_nonpos_of_nonneg (by omega) (by omega)
    omega
   ·exact h
  have h7:(s.2.2.natAbs:Int)=(j'.natAbs:Int)*l.2.2:=by
   rw[h6,ACH,ACA];congr 1;omega
  have hj':1≤(j'.natAbs:Int):=by
   rcases ADz (j'.natAbs:Int) 1 with h | h
   ·have:(j'.natAbs:Int)=0:=by omega
    rw[this,ADx] at h7;rw[h7,ADy] at hm;omega
   ·exact h
  have h8:i*(j'.natAbs:Int)*(l.1*l.2.2)=l.1*l.2.2:=by
   have e:i*(j'.natAbs:Int)*(l.1*l.2.2)=(i*l.1)*((j'.natAbs:Int)*l.2.2):=by ac_rfl
   rw[e,← h3,← h7,hm]
  have h9:i*(j'.natAbs:Int)=1:=by
   have:i*(j'.natAbs:Int)*(l.1*l.2.2)=1*(l.1*l.2.2):=by rw[h8,ADu]
   exact Int.eq_of_mul_eq_mul_right (by omega) this
  have hi1:i=1:=by
   have:=ACh hj' (show 0≤i by omega)
   omega
  subst hi1;rw[ADu] at h9 h3;have e1:(i'*l.1+l.2.1) % l.1=l.2.1:=by
   rw[Int.add_comm,ADT,ACn b1 b2]
  have e2:(-i'*l.1+l.2.1) % l.1=l.2.1:=by
   rw[Int.add_comm,ADT,ACn b1 b2]
  have hjc:j'=1∨j' = -1:=by omega
  rcases hjc with rfl | rfl
  ·rw[ADu] at h6 h5;have hn:¬ s.2.2<0:=by omega
   rw[if_neg hn,if_neg hn,h3,h5,h6,e1]
  ·have hn:s.2.2<0:=by omega
   have e9 : -i'*l.1 = -(i'*l.1):=ACD _ _;rw[if_pos hn,if_pos hn,h3,h5,h6,show -(i'*l.1 + -1*l.2.1) = -i'*l.1+l.2.1 by omega,e2]
   have : -(-1*l.2.2)=l.2.2:=by omega
   rw[this]
structure Bw (v:Vc):Prop where
 x:v.1.natAbs≤200
 y:v.2.natAbs≤200
theorem Adu {a x:Int} {B:Nat} (h:x.natAbs≤B) (ha:a.natAbs≤B):(if a>0 then x % a else x).natAbs≤B:=by
 split
 ·rename_i h1;have h3:=ACp x (show a≠0 by omega)
  have h4:=ACe x h1;omega
 ·exact h
theorem Aj0 {a b:Vc} (ha:Bw a) (hb:Bw b):IQ KK [a,b]=some (Eb (stI (stI (0,0,0) a) b)):=by
 have hrl:=AjT (T2 [a,b] (s:=(0,0,0)) (r:=(0,0,0)) ⟨rfl,by simp,rfl,by simp⟩)
 have hB0:Bd 200 (0,0) a:=⟨by simp,ha.x,by simp[Dv]⟩
 have hla:=Fp (n:=a.2.natAbs) (by have:=ha.y;omega)
 have hlb:=Fp (n:=b.2.natAbs) (by have:=hb.y;omega)
 obtain⟨k1,k2⟩:=Jf KK (0,0) a hla hB0;have k3:=J9 KK (0,0) a hla;have k4:gI 0 (euS KK (0,0) a).2≤200:=by unfold gI;simp only[ACz];omega
 have s1y:(stR (0,0,0) a).2.2.natAbs≤200:=by
  show (euS KK (0,0) a).1.2.natAbs≤200;simp at k3;have:=ha.y;omega
 have s1x:(stR (0,0,0) a).2.1.natAbs≤200:=Adu k1 (by have:=T1 0 (euS KK (0,0) a).2;show (gI 0 (euS KK (0,0) a).2).natAbs≤200;omega)
 have s1a:(stR (0,0,0) a).1≤200:=k4;have s1p:0≤(stR (0,0,0) a).1:=T1 _ _;have hB1:Bd 80000 (stR (0,0,0) a).2 b:=by
  refine⟨by omega,by have:=hb.x;omega,?_⟩
  unfold Dv;have e1:=ADU s1x hb.y;have e2:=ADU hb.x s1y;omega
 obtain⟨m1,m2⟩:=Jf KK _ b hlb hB1;have m3:=J9 KK (stR (0,0,0) a).2 b hlb;have m4:gI (stR (0,0,0) a).1 (euS KK (stR (0,0,0) a).2 b).2≤80000:=by
  rcases ADz (stR (0,0,0) a).1 1 with h | h
  ·have:(stR (0,0,0) a).1=0:=by omega
   rw[this];unfold gI;simp only[ACz];omega
  ·have:=Ads (x:=(euS KK (stR (0,0,0) a).2 b).2) h;omega
 have m5:=T1 (stR (0,0,0) a).1 (euS KK (stR (0,0,0) a).2 b).2;have e:=On [a,b] (by simp) (fun q s=>s=([a,b].take q).foldl stR (0,0,0)) rfl
  (fun q s hq h=>by
   match q,hq with
   | 0,_ =>
    subst h;refine⟨⟨⟨by simp,by have:=ha.x;simp;omega,by simp[Dv]⟩,by simp,by have:=ha.y;simp;omega,by simp,?_⟩,rfl⟩
    show gI 0 (euS KK (0,0) a).2≤_;omega
   | 1,_ =>
    subst h;refine⟨⟨⟨?_,?_,?_⟩,?_,?_,?_,?_⟩,rfl⟩
    ·have:=hB1.bp;show (stR (0,0,0) a).2.1.natAbs≤_;omega
    ·have:=hB1.bv;show b.1.natAbs≤_;omega
    ·have:=hB1.d;show Dv (stR (0,0,0) a).2 b≤_;omega
    ·show (stR (0,0,0) a).2.2.natAbs≤_;omega
    ·show b.2.natAbs≤_;have:=hb.y;omega
    ·show (stR (0,0,0) a).1.natAbs≤_;omega
    ·show gI (stR (0,0,0) a).1 (euS KK (stR (0,0,0) a).2 b).2≤_;omega)
  (fun s h=>by
   subst h;have y2:(euS KK (stR (0,0,0) a).2 b).1.2.natAbs≤200:=by
    rw[m3];rcases ABL b.2.natAbs with h | h
    ·rw[h,Nat.gcd_zero_right];exact s1y
    ·have:=Nat.gcd_le_right (m:=(stR (0,0,0) a).2.2.natAbs) h;have:=hb.y;omega
   refine⟨?_,?_,?_⟩
   ·show gI (stR (0,0,0) a).1 (euS KK (stR (0,0,0) a).2 b).2≤_;omega
   ·have:=Adu (a:=gI (stR (0,0,0) a).1 (euS KK (stR (0,0,0) a).2 b).2) m1 (by omega)
    show (stR (stR (0,0,0) a) b).2.1.natAbs≤_;unfold stR at this ⊢;exact ABo this (by omega)
   ·show (euS KK (stR (0,0,0) a).2 b).1.2.natAbs≤_;omega)
 rw[e,← hrl];rfl
def pmQ:List Mt:=[(-1,0,0,-1),(-1,0,0,1),(0,-1,-1,0),(0,-1,1,0),(0,1,-1,0),(0,1,1,0),(1,0,0,-1),(1,0,0,1)]
def pmH:List Mt:=[(-1,-1,0,1),(-1,-1,1,0),(-1,0,0,-1),(-1,0,1,1),(0,-1,-1,0),(0,-1,1,1),(0,1,-1,-1),(0,1,1,0),(1,0,-1,-1),(1,0,0,1),(1,1,-1,0),(1,1,0,-1)]
def pmS (f:Int):List Mt:=if f=0 then pmQ else pmH
theorem AfI:QI KK 0=some pmQ:=by kernel_rfl
theorem AfJ:QI KK 1=some pmH:=by kernel_rfl
theorem WX:Q6 KK 0=some pmQ:=by kernel_rfl
theorem WY:Q6 KK 1=some pmH:=by kernel_rfl
theorem ZI {f:Int} (h1:0≤f) (h2:f≤1):QI KK f=some (pmS f):=by
 have:f=0∨f=1:=by omega
 rcases this with rfl | rfl
 ·exact AfI
 ·exact AfJ
theorem T3 {f:Int} (h1:0≤f) (h2:f≤1):Q6 KK f=some (pmS f):=by
 have:f=0∨f=1:=by omega
 rcases this with rfl | rfl
 ·exact WX
 ·exact WY
def A9 (m:Mt):Int:=m.1*m.2.2.2-m.2.1*m.2.2.1
theorem Aj1:∀ m∈pmQ++pmH,(-1≤m.1∧m.1≤1)∧(-1≤m.2.1∧m.2.1≤1)∧(-1≤m.2.2.1∧m.2.2.1≤1)∧(-1≤m.2.2.2∧m.2.2.2≤1)∧(A9 m=1∨A9 m = -1):=by decide +kernel
theorem Gt {f:Int} {m:Mt} (h:m∈pmS f):m∈pmQ++pmH:=by
 unfold pmS at h;split at h
 ·exact List.mem_append_left _ h
 ·exact List.mem_append_right _ h
theorem Cy {m:Mt} (h:m∈pmQ++pmH):SmM m:=by
 obtain⟨h1,h2,h3,h4,_⟩:=Aj1 m h;exact⟨h1,h2,h3,h4⟩
theorem Aj2 {m:Mt} (h:m∈pmQ++pmH):A9 m=1∨A9 m = -1:=(Aj1 m h).2.2.2.2
theorem T4 (f:Int):(pmS f).length≤12:=by
 unfold pmS;split<;>decide
def CZ (l:Lt) (m:Mt):Bool:=(AX l (AQ m (l.1,0))==(0,0))&&(AX l (AQ m l.2)==(0,0))
theorem WZ {l:Lt} (hl:IsL l):Sv (l.1,0)∧Sv l.2:=by
 obtain⟨a1,a2,c1,c2,b1,b2,ix⟩:=hl;simp only[Sv];omega
theorem ZJ {l:Lt} (hl:IsL l) {m:Mt} (hm:SmM m):Bw (AQ m (l.1,0))∧Bw (AQ m l.2):=by
 obtain⟨a1,a2,c1,c2,b1,b2,ix⟩:=hl;have p1:=BH hm.a (x:=l.1) (B:=64) (by omega) (by omega) (by omega)
 have p2:=BH hm.c (x:=l.1) (B:=64) (by omega) (by omega) (by omega)
 have p3:=BH hm.a (x:=l.2.1) (B:=64) (by omega) (by omega) (by omega)
 have p4:=BH hm.b (x:=l.2.2) (B:=64) (by omega) (by omega) (by omega)
 have p5:=BH hm.c (x:=l.2.1) (B:=64) (by omega) (by omega) (by omega)
 have p6:=BH hm.d (x:=l.2.2) (B:=64) (by omega) (by omega) (by omega)
 simp only[AQ,ADy,ADS];exact⟨⟨by simp only;omega,by simp only;omega⟩,⟨by simp only;omega,by simp only;omega⟩⟩
theorem Ao5 (l:Lt) (m:Mt):AjZ (AQ m (l.1,0)) (AQ m l.2)=A9 m*(l.1*l.2.2):=by
 simp only[AjZ,AQ,A9,ADy,ADS,ADv,ACX,ADL];have e1:m.1*l.1*(m.2.2.1*l.2.1)=m.1*l.2.1*(m.2.2.1*l.1):=by ac_rfl
 have e2:m.1*m.2.2.2*(l.1*l.2.2)=m.1*l.1*(m.2.2.2*l.2.2):=by ac_rfl
 have e3:m.2.1*m.2.2.1*(l.1*l.2.2)=m.2.1*l.2.2*(m.2.2.1*l.1):=by ac_rfl
 omega
theorem W0 {l:Lt} (hl:IsL l) {m:Mt} (hm:m∈pmQ++pmH):Eb (stI (stI (0,0,0) (AQ m (l.1,0))) (AQ m l.2))=l↔CZ l m=true:=by
 obtain⟨b1,b2⟩:=ZJ hl (Cy hm);rw[Ao4 hl (by have:=b1.y;omega) (by have:=b2.y;omega) ?_]
 ·unfold CZ;rw[aT,beq_iff_eq,beq_iff_eq,FN hl,FN hl]
 ·rw[Ao5];have h0:0<l.1*l.2.2:=Int.mul_pos (by have:=hl.a1;omega) (by have:=hl.c1;omega)
  rcases Aj2 hm with h | h<;>rw[h]<;>omega
theorem L1 {l:Lt} (hl:IsL l) {m:Mt} (hm:SmM m):V2 KK m l=some (Eb (stI (stI (0,0,0) (AQ m (l.1,0))) (AQ m l.2))):=by
 unfold V2 VX;simp only[oB];have e1:([(l.1,(0:Int)),l.2].getD ((0:Int)+(0:Int)).toNat ((0:Int),(0:Int)))=(l.1,0):=rfl;have e2:([(l.1,(0:Int)),l.2].getD ((0:Int)+(1:Int)).toNat ((0:Int),(0:Int)))=l.2:=rfl;obtain⟨s1,s2⟩:=WZ hl;obtain⟨b1,b2⟩:=ZJ hl hm;rw[e1,e2,E4 hm s1,E4 hm s2];simp only[oB];rw[Aj0 b1 b2];rfl
def AU (f:Int) (l:Lt):List Mt:=(pmS f).filter (CZ l)
theorem Gu {f:Int} (h1:0≤f) (h2:f≤1) {l:Lt} (hl:IsL l):Afa KK f l=some (AU f l):=by
 unfold Afa AhB;rw[ZI h1 h2];simp only[oB];have hc:=T4 f;have h:=AJ (X:=Int×List Mt) (body:=fun L x=>SW KK f l (pmS f) (fun v0 v1=>L (v0,v1)) x.1 x.2) (pmS f) (fun q s=>((q:Int),s)) (fun s m=>bif CZ l m then s++[m] else s) (fun s=>some s) (fun q s=>s.length≤q)
  (fun L q s hq hi=>by
   have hm:=Gt (gM hq);refine⟨?_,?_⟩
   ·cases CZ l (pmS f)[q]<;>simp<;>omega
   unfold SW;simp only;rw[in1 hq,in0,gd hq];simp only[aS,cT];rw[L1 hl (m:=(pmS f)[q]) (Cy hm),oB,AuS (by simp;omega),Af (by omega)]
   have hst:=W0 hl hm;generalize Eb (stI (stI (0,0,0) (AQ (pmS f)[q] (l.1,0))) (AQ (pmS f)[q] l.2))=r at *;have hr:((r.1==l.1)&&((r.2.1==l.2.1)&&(r.2.2==l.2.2)))=CZ l (pmS f)[q]:=by
    rw[ABR,← hst];simp only[aT,beq_iff_eq];rw[ACM,ACM]
   rw[hr];cases CZ l (pmS f)[q]<;>rfl)
  (fun L s hi=>by
   unfold SW;simp only;rw[AO,cF]) KK 0 [] (by omega) (by have:=Fp (n:=(pmS f).length) (by omega);omega) (by simp)
 unfold YM;refine h.trans ?_;simp only[ABb];have:=Dh (CZ l) (fun t:Mt=>t) (pmS f) [];rw[List.map_id',ABi] at this;exact congrArg some this
theorem Aj3 {l:Lt} (hl:IsL l) {v:Vc} (hv:Sm v):Wp KK l v=some (AX l v==(0,0)):=by
 unfold Wp;rw[DD hl hv];rfl
theorem Atz {v:Vc} (h:Bw v):Sm v:=by
 obtain⟨h1,h2⟩:=h;simp only[Sm];omega
theorem AfK {l:Lt} (hl:IsL l) {m:Mt} (hm:SmM m):AcA KK m l (l.1,0) l.2=some (!CZ l m):=by
 obtain⟨s1,s2⟩:=WZ hl;obtain⟨b1,b2⟩:=ZJ hl hm;unfold AcA;rw[E5 hm s1,E5 hm s2];simp only[oB,oT,tO,cT];rw[Aj3 hl (Atz b1)];simp only[oB];unfold CZ;cases h:(AX l (AQ m (l.1,0))==(0,0))
 ·rfl
 ·simp only[nT,nF,cT,oB,ABJ,cF];rw[Aj3 hl (Atz b2)];rfl
def C1 {α:Type} (p:α→Bool):Nat→List α→Int
 | _,[] => -1
 | q,a :: l=>bif p a then (q:Int) else C1 p (q+1) l
theorem EC {R α:Type} {body:(Int→Option R)→Int→Option R} (l:List α) (p:α→Bool) (fin:Int→Option R)
  (h1:∀ L q (hq:q<l.length),body L (q:Int)=bif p l[q] then fin (q:Int) else L ((q+1:Nat):Int))
  (h2:∀ L,body L (l.length:Int)=fin (-1)):∀ n q,q≤l.length→l.length-q<n→Ax body n (q:Int)=fin (C1 p q (l.drop q))
 | 0,q,_,hn=>by omega
 | n+1,q,hq,hn=>by
  show body (Ax body n) (q:Int)=_;by_cases hlt:q<l.length
  ·rw[h1 _ q hlt,EC l p fin h1 h2 n (q+1) hlt (by omega),dC hlt]
   simp only[C1];cases p l[q]<;>simp
  ·have:q=l.length:=by omega
   subst this;rw[h2,ABZ];rfl
theorem FO {α:Type} (p:α→Bool):∀ (l:List α) (q:Nat),(C1 p q l = -1∧∀ a∈l,p a=false)∨(∃ k,k<l.length∧C1 p q l=((q+k:Nat):Int)∧(∀ a∈l.take k,p a=false)∧∃ a,l[k]? = some a∧p a=true)
 | [],q=>Or.inl ⟨rfl,by simp⟩
 | a :: l,q=>by
  simp only[C1];cases h:p a
  ·rcases FO p l (q+1) with ⟨h1,h2⟩ | ⟨k,h1,h2,h3,b,h4,h5⟩
   ·left;refine⟨by simpa using h1,?_⟩
    intro b hb;rcases AA4.mp hb with rfl | hb
    ·exact h
    ·exact h2 b hb
   ·right;refine⟨k+1,by simp;omega,by simp[h2];omega,?_,b,by simpa using h4,h5⟩
    intro c hc;rw[ADk] at hc;rcases AA4.mp hc with rfl | hc
    ·exact h
    ·exact h3 c hc
  ·right;exact⟨0,by simp,by simp,by simp,a,by simp,h⟩
theorem Hw {α:Type} {p:α→Bool} {l:List α} (h:∀ a∈l,p a=false):l.filter (fun a=>!p a)=l :=
 List.filter_eq_self.mpr fun a ha=>by simp[h a ha]
abbrev Ds:=Nat×List Mt
def Aj4 (p:Mt→Bool) (s:Ds) (a:Mt):Ds:=bif p a then s else (s.1+1,s.2.set s.1 a)
structure Dv2 (p:Mt→Bool) (l:List Mt) (q:Nat) (s:Ds):Prop where
 n:s.2.length=l.length
 i:s.1<q
 le:q≤l.length
 t:s.2.take s.1=(l.take q).filter fun a=>!p a
 d:s.2.drop q=l.drop q
theorem W3 {p:Mt→Bool} {l:List Mt} {q:Nat} {s:Ds} (h:Dv2 p l q s) (hq:q<l.length):Dv2 p l (q+1) (Aj4 p s l[q]):=by
 obtain⟨h1,h2,h3,h4,h5⟩:=h;have hd:s.2.drop (q+1)=l.drop (q+1):=by
  rw[← ACx,← ACx,h5]
 have ht:l.take (q+1)=l.take q++[l[q]]:=by rw[ADA];simp[hq]
 unfold Aj4;cases hp:p l[q]
 ·simp only[cF];refine⟨by simp[h1],by simp only;omega,hq,?_,?_⟩
  ·simp only;rw[ht,ADr,← h4,ADA];congr 1
   ·rw[List.take_set_of_le (AA9 _)]
   ·rw[List.getElem?_set_self (by omega)]
    simp[hp]
  ·simp only;rw[List.drop_set_of_lt (by omega),hd]
 ·simp only[cT];refine⟨h1,by omega,hq,?_,hd⟩
  rw[ht,ADr,← h4];simp[hp]
theorem Qj (l:List Mt) (hn:l.length≤1000) (f:Mt→Option Bool) (p:Mt→Bool) (hf:∀ m∈l,f m=some (p m)) :
  Wr KK l f=some (l.filter fun a=>!p a):=by
 have hidx:Wq KK l f=some (C1 p 0 l):=by
  have h:=EC (R:=Int) (body:=fun L x=>MP KK l f (fun v0=>L v0) x) l p some
   (fun L q hq=>by
    unfold MP;rw[in1 hq,in0,gd hq];simp only[aS,cT];rw[show f (l[q].1,l[q].2.1,l[q].2.2)=some (p l[q]) from hf _ (gM hq),oB,Af (by omega)])
   (fun L=>by
    unfold MP;rw[AO,cF]) KK 0 (by omega) (by have:=Fp (n:=l.length) (by omega);omega)
  unfold Wq Za Tt;exact h
 unfold Wr Zb;rw[hidx];simp only[oB];rcases FO p l 0 with ⟨h1,h2⟩ | ⟨k,h1,h2,h3,b,h4,h5⟩
 ·rw[h1,Hw h2];rfl
 ·rw[ABw] at h2;have hne:((k:Int) == -1)=false:=by
   rw[bN];omega
  rw[h2,hne,cF,Af (by omega)]
  have hb:l[k]=b:=by
   rw[AA7 h1] at h4;exact Option.some.inj h4
  have hinv:Dv2 p l (k+1) (k,l):=by
   refine⟨rfl,by simp,h1,?_,rfl⟩
   have ht:l.take (k+1)=l.take k++[l[k]]:=by rw[ADA];simp[h1]
   simp only;rw[ht,ADr,Hw h3,hb];simp[h5]
  have h:=AJ (X:=Int×Int×List Mt) (body:=fun L x=>MQ KK f (k:Int) (fun v0 v1 v2=>L (v0,v1,v2)) x.1 x.2.1 x.2.2) l (fun q s=>((s.1:Int),(q:Int),s.2)) (Aj4 p) (fun s=>some (s.2.take s.1)) (Dv2 p l)
   (fun L q s hq hi=>by
    refine⟨W3 hi hq,?_⟩;obtain⟨i1,i2,i3,i4,i5⟩:=hi;have hq2:q<s.2.length:=by omega
    have hs1:s.1<s.2.length:=by omega
    have hg:s.2[q]=l[q]:=by
     have h6:(s.2.drop q)[0]? = (l.drop q)[0]?:=by rw[i5]
     simpa[hq,hq2] using h6
    unfold MQ;simp only;rw[in1 hq2,in0,gd hq2,hg];simp only[aS,cT];rw[show f (l[q].1,l[q].2.1,l[q].2.2)=some (p l[q]) from hf _ (gM hq),oB,Af (by omega),Af (by omega)]
    unfold Aj4;cases p l[q]
    ·simp only[nF,cT,cF];rw[in1 hs1,in0];have hz:((0:Int)+(s.1:Int)).toNat=s.1:=by omega
     rw[hz];rfl
    ·rfl)
   (fun L s hi=>by
    obtain⟨i1,i2,i3,i4,i5⟩:=hi;unfold MQ;simp only;have ho:decide ((l.length:Int)<(s.2.length:Int))=false:=by simp;omega
    have hz:((0:Int)+(s.1:Int)).toNat=s.1:=by omega
    have hz2:(((0:Int)+(s.1:Int))+(((0:Int)+(s.2.length:Int))-((0:Int)+(s.1:Int)))).toNat=s.2.length:=by omega
    have hc:(clr s.2 s.1 s.2.length ((0:Int),((0:Int),((0:Int),(0:Int))))).length=s.2.length:=by
     unfold clr;simp;omega
    have hct:(clr s.2 s.1 s.2.length ((0:Int),((0:Int),((0:Int),(0:Int))))).take s.1=s.2.take s.1:=by
     unfold clr;rw[AA5,AB8 (by simp;omega),ADV,Nat.min_self]
    rw[ho,cF,hz,hz2,hc,hct,in0];have d1:decide ((s.1:Int)≤(s.2.length:Int))=true:=by simp;omega
    rw[d1];simp) KK (k+1) (k,l) h1 (by have:=Fp (n:=l.length) (by omega);omega) hinv
  unfold Tu;refine h.trans ?_;have hf:=K9 (Aj4 p) (fun q s=>Dv2 p l q s) (l.drop (k+1)) (k+1) (k,l) hinv (fun i s hi hP=>by
   have hlt:k+1+i<l.length:=by simp at hi;omega
   have:=W3 hP hlt;simpa using this)
  have hend:k+1+(l.drop (k+1)).length=l.length:=by simp;omega
  rw[hend] at hf;have:=hf.t;rw[AB6] at this;exact congrArg some this
theorem Hx {f:Int} (h1:0≤f) (h2:f≤1) {l:Lt} (hl:IsL l):Ws KK f l=some (AU f l):=by
 unfold Ws AiB;rw[T3 h1 h2];simp only[oB];rw[Qj (pmS f) (by have:=T4 f;omega) _ (fun m=>!CZ l m) (fun m hm=>AfK hl (Cy (Gt hm))),oB]
 unfold AU;simp only[Bool.not_not]
abbrev Mo:=Mt×Vc
def T5 (p:Pt) (m:Mt):List Mo:=((Aa p.2.1).filter fun t=>Bh p (m,t)).map fun t=>(m,t)
def Au (p:Pt):List Mo:=(AU p.1 p.2.1).flatMap (T5 p)
theorem Aj5 (p:Pt) (m:Mt) (s:List Mo):(Aa p.2.1).foldl (fun s t=>bif Bh p (m,t) then s++[(m,t)] else s) s=s++T5 p m :=
 Dh (fun t=>Bh p (m,t)) (fun t:Vc=>((m,t):Mo)) (Aa p.2.1) s
theorem DX {f:Int} {l:Lt} {m:Mt} (h:m∈AU f l):m∈pmQ++pmH:=Gt (ABs.mp h).1
theorem Hy (f:Int) (l:Lt):(AU f l).length≤12:=ABo (ACs _ _) (T4 f)
theorem Aj6 {p:Pt} (hp:IsP p) (m:Mt):(T5 p m).length≤64:=by
 unfold T5;rw[ABf];exact ABo (ACs _ _) (AK hp.l)
theorem Ao6 {p:Pt} (hp:IsP p) {ms:List Mt} (hms:∀ m∈ms,m∈pmQ++pmH) {L:Int→List Mo→Option (List Mo)} {x:Nat} (hx:x<ms.length) (hx2:x<100) {s:List Mo} (hs:s.length≤x*64) :
  JR KK p (x:Int) ms (Aa p.2.1) L KK 0 s=L ((x+1:Nat):Int) (s++T5 p ms[x]):=by
 have hc:=AK hp.l;have hm:=hms _ (gM hx);have h:=AJ (X:=Int×List Mo) (body:=fun L13 z=>ML KK p (x:Int) ms (Aa p.2.1) L (fun v0 v1=>L13 (v0,v1)) z.1 z.2) (Aa p.2.1) (fun q s=>((q:Int),s)) (fun s t=>bif Bh p (ms[x],t) then s++[(ms[x],t)] else s) (fun s=>L ((x+1:Nat):Int) s) (fun q s=>s.length≤x*64+q)
  (fun L13 q s hq hi=>by
   have hv:=J7 hp.l (gM hq);refine⟨?_,?_⟩
   ·cases Bh p (ms[x],(Aa p.2.1)[q])<;>simp<;>omega
   unfold ML;simp only;rw[in1 hq,in1 hx,in0,in0,gd hq,gd hx];simp only[aS,cT];rw[L0 hp (m:=(ms[x],(Aa p.2.1)[q])) (Cy hm) hv,oB,Ea (by simp;omega),Af (by omega)]
   cases Bh p (ms[x],(Aa p.2.1)[q])<;>rfl)
  (fun L13 s hi=>by
   unfold ML;simp only;rw[AO,cF,Af (by omega)]) KK 0 s (by omega) (by have:=Fp (n:=(Aa p.2.1).length) (by omega);omega) (by simpa using hs)
 unfold JR;refine h.trans ?_;simp only[ABb];rw[Aj5]
theorem W4 {p:Pt} (hp:IsP p):Aib KK p=some (Au p):=by
 unfold Aib Aia;rw[Gu hp.f1 hp.f2 hp.l,Da hp.l];simp only[oB];have hc:=Hy p.1 p.2.1;have h:=AJ (X:=Int×List Mo) (body:=fun L10 z=>JS KK p (AU p.1 p.2.1) (Aa p.2.1) (fun c0 d0 d1=>JR KK p c0 (AU p.1 p.2.1) (Aa p.2.1) (fun v0 v1=>L10 (v0,v1)) KK d0 d1) (fun v0 v1=>L10 (v0,v1)) z.1 z.2) (AU p.1 p.2.1) (fun q s=>((q:Int),s)) (fun s m=>s++T5 p m) (fun s=>some s) (fun q s=>s.length≤q*64)
  (fun L10 q s hq hi=>by
   refine⟨by have:=Aj6 hp (AU p.1 p.2.1)[q];simp;omega,?_⟩
   unfold JS;simp only;rw[in1 hq,cT];exact Ao6 hp (fun m hm=>DX hm) hq (by omega) hi)
  (fun L10 s hi=>by
   unfold JS;simp only;rw[AO,cF]) KK 0 [] (by omega) (by have:=Fp (n:=(AU p.1 p.2.1).length) (by omega);omega) (by simp)
 unfold Tg;refine h.trans ?_;simp only[ABb];rw[Gp];rfl
theorem Mb {α β:Type} (f:α→List β) (B:Nat) (hf:∀ a,(f a).length≤B):∀ l:List α,(l.flatMap f).length≤l.length*B
 | []=>by simp
 | a :: l=>by
  rw[List.flatMap_cons,lA,ABc,ACY];have:=Mb f B hf l;have:=hf a;omega
def dv (a b:Int):Int:=if b=0 then 0 else a / b
def AAU (m:Mt):Mt:=(-m.1,-m.2.1,-m.2.2.1,-m.2.2.2)
def le3 (x:Int):Bool:=decide (-3≤x)&&decide (x≤3)
def AAV (k:Nat) (v:Vc):Vc:=((k:Int)*v.1,(k:Int)*v.2)
theorem Aj7 (a b c:Int):JL KK a b c=some (decide (b≤a∧a≤c)):=by
 unfold JL
 try simp only[oT,tO,cT]
 by_cases h:b≤a<;>simp[h]
theorem DE (a b c:Int):IU KK a b c=some (decide (b≤a∧a≤c)):=by
 unfold IU
 try simp only[oT,tO,cT]
 by_cases h:b≤a<;>simp[h]
def okL (l:Lt):Bool:=decide (1≤l.1∧l.1≤64)&&decide (1≤l.2.2∧l.2.2≤64)&&decide (0≤l.2.1∧l.2.1≤l.1-1)&&decide (l.1*l.2.2≤64)
theorem Bt {l:Lt}:okL l=true↔IsL l:=by
 unfold okL;simp only[aT,dE];constructor
 ·rintro⟨⟨⟨⟨a1,a2⟩,c1,c2⟩,b1,b2⟩,ix⟩
  exact⟨a1,a2,c1,c2,b1,by omega,ix⟩
 ·rintro⟨a1,a2,c1,c2,b1,b2,ix⟩
  exact⟨⟨⟨⟨a1,a2⟩,c1,c2⟩,b1,by omega⟩,ix⟩
theorem Adv {a c:Int} (h1:1≤a) (h2:a≤64) (h3:1≤c) (h4:c≤64):0≤a*c∧a*c≤4096:=by
 have e1:0≤a*c:=ACS (by omega) (by omega)
 have e2:a*c≤64*c:=AB5 h2 (by omega)
 omega
theorem DF (l:Lt):QF KK l=some (okL l):=by
 unfold QF okL;simp only[Aj7,oB,oT,tO,cT];by_cases h1:1≤l.1∧l.1≤64
 ·by_cases h2:1≤l.2.2∧l.2.2≤64
  ·have:=Adv h1.1 h1.2 h2.1 h2.2;rw[As (n:=l.1-1) (by omega) (by omega),As (n:=l.1*l.2.2) (by omega) (by omega)]
   by_cases h3:0≤l.2.1∧l.2.1≤l.1-1<;>simp[h1,h2,h3]
  ·simp[h1,h2]
 ·simp[h1]
theorem Em (l:Lt):Y9 KK l=some (okL l):=by
 unfold Y9 Ts okL;simp only[DE,oB,oT,tO,cT];by_cases h1:1≤l.1∧l.1≤64
 ·by_cases h2:1≤l.2.2∧l.2.2≤64
  ·have:=Adv h1.1 h1.2 h2.1 h2.2;rw[As (n:=l.1-1) (by omega) (by omega),As (n:=l.1*l.2.2) (by omega) (by omega)]
   by_cases h3:0≤l.2.1∧l.2.1≤l.1-1<;>simp[h1,h2,h3]
  ·simp[h1,h2]
 ·simp[h1]
def okF (f:Int):Bool:=decide (0≤f∧f≤1)
theorem Hz (f:Int):VU KK f=some (okF f):=by
 unfold VU okF
 try simp only[oT,tO,cT]
 by_cases h:f=0
 ·subst h;rfl
 ·by_cases h1:f=1
  ·subst h1;rfl
  ·have h2:(f==0)=false:=by simp[h]
   have h3:(f==1)=false:=by simp[h1]
   rw[h2,h3];have:¬ (0≤f∧f≤1):=by omega
   simp[this]
theorem Ou (f:Int):AiM KK f=some (okF f):=by
 unfold AiM;rw[DE];rfl
theorem ED (f:Int) (l:Lt):YK KK f l=some (if okF f&&okL l then 0 else 1):=by
 unfold YK;rw[Hz,DF];cases okF f<;>cases h:okL l<;>rfl
def okC (c:Int):Bool:=decide (0≤c∧c≤9)
theorem T6 {l:List Int} (hl:l.length≤1048576):Ah2 KK l 64 0 9=some (l.all okC&&decide (l.length≤64)):=by
 have h:=Dg (X:=Int) (body:=fun L x=>Tb KK l 64 0 9 (fun v0=>L v0) x) l (fun q=>(q:Int)) okC (some false) (some (decide ((l.length:Int)≤64)))
  (fun L q hq=>by
   unfold Tb;rw[in1 hq,in0,gd hq,Aj7];simp only[aS,cT,oB];rw[Af (by omega)]
   show (bif !okC l[q] then _ else _)=_;cases okC l[q]<;>rfl)
  (fun L=>by
   unfold Tb;rw[AO,cF]) KK 0 (by omega) (by have:=Atu hl;omega)
 unfold Ah2 Ah1 YS;refine h.trans ?_;simp only[ABb];have e:decide ((l.length:Int)≤64)=decide (l.length≤64):=by
  rw[decide_eq_decide];omega
 rw[e];cases l.all okC<;>rfl
theorem T7 {l:List Int} (hl:l.length≤1048576):AoP KK l 0 9=some (l.all okC):=by
 unfold AoP Ajs Adl Zy TR;have h:=EC (R:=Int) (body:=fun L x=>M6 KK l (fun z1=>Adk KK z1 0 9) (fun v0=>L v0) x) l (fun c=>!okC c) some
  (fun L q hq=>by
   unfold M6 Adk;rw[in1 hq,in0,gd hq];simp only[aS,cT,DE,oB];rw[Af (by omega)]
   rfl)
  (fun L=>by
   unfold M6;rw[AO,cF]) KK 0 (by omega) (by have:=Atu hl;omega)
 rw[ABb] at h;refine Eq.trans (congrArg (fun o:Option Int=>(o.bind fun y1=>some (decide (y1≥(0:Int)))).bind fun y2=>some (!y2)) h) ?_;simp only[oB,ABr];rcases FO (fun c=>!okC c) l 0 with ⟨h1,h2⟩ | ⟨k,h1,h2,h3,b,h4,h5⟩
 ·rw[h1];have:l.all okC=true:=AA3.mpr fun a ha=>by have:=h2 a ha;simpa using this
  rw[this];rfl
 ·rw[h2];have:l.all okC=false:=by
   rw[List.all_eq_false];refine⟨b,ABt h4,?_⟩;simpa using h5
  rw[this];simp
def okP (p:Pt):Bool:=okF p.1&&okL p.2.1&&decide ((p.2.2.length:Int)=p.2.1.1*p.2.1.2.2)&&p.2.2.all okC
theorem E7 {p:Pt} (h:okP p=true):IsP p:=by
 unfold okP at h;simp only[aT,dE] at h;obtain⟨⟨⟨h1,h2⟩,h3⟩,h4⟩:=h;unfold okF at h1;rw[dE] at h1;exact⟨h1.1,h1.2,Bt.mp h2,h3⟩
theorem DG (p:Pt):V9 KK p=some (okP p):=by
 unfold V9 okP;rw[ED];simp only[oB,oT,tO,cT];cases h:okF p.1&&okL p.2.1
 ·simp
 ·have hl:IsL p.2.1:=Bt.mp (aT _ _▸h).2;have:=Adv hl.a1 hl.a2 hl.c1 hl.c2;have hix:=hl.ix;rw[As (n:=p.2.1.1*p.2.1.2.2) (by omega) (by omega)]
  by_cases h2:(p.2.2.length:Int)=p.2.1.1*p.2.1.2.2
  ·have h3:p.2.2.length≤64:=by omega
   rw[T6 (by omega)]
   simp[h2,h3]
  ·have h4:((p.2.2.length:Int)==p.2.1.1*p.2.1.2.2)=false:=by simp[h2]
   simp[h2,h4]
theorem Ka (p:Pt):Ajt KK p=some (okP p):=by
 unfold Ajt Ts okP;rw[Ou,Em];simp only[oB,oT,tO,cT];cases h0:okF p.1
 ·simp
 cases h:okL p.2.1
 ·simp
 ·have hl:IsL p.2.1:=Bt.mp h;have:=Adv hl.a1 hl.a2 hl.c1 hl.c2;have hix:=hl.ix;rw[As (n:=p.2.1.1*p.2.1.2.2) (by omega) (by omega)]
  by_cases h2:(p.2.2.length:Int)=p.2.1.1*p.2.1.2.2
  ·have h3:p.2.2.length≤64:=by omega
   rw[T7 (by omega)]
   simp[h2]
  ·have h4:((p.2.2.length:Int)==p.2.1.1*p.2.1.2.2)=false:=by simp[h2]
   simp[h2,h4]
structure Cp (l:List Int) (q:Nat) (s:Nat×List Int):Prop where
 i:s.1=q
 n:s.2.length=l.length
 t:s.2.take q=l.take q
end Go.Proofs.YtkemdhpdfaejgaaGreatDoor.X
