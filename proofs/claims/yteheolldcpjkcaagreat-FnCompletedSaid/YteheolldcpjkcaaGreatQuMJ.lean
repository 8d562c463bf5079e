/- Plain facts: marks written into lists, and marks found again. -/
import Derived.Test.YteheolldcpjkcaaGreatQuME
import Derived.Test.YteheolldcpjkcaaGreatQvXLib
namespace Go.Proofs.YteheolldcpjkcaaGreat.X
open Go
set_option linter.unusedSimpArgs false
set_option linter.unusedVariables false
theorem Ln {X R:Type} {body:(X→Option R)→X→Option R} (n:Nat) (P:Nat→X→Prop) (Q:R→Prop) (h1:∀ L q x,q<n→P q x→∃ x',P (q+1) x'∧body L x=L x') (h2:∀ L x,P n x→∃ r,Q r∧body L x=some r):∀ fuel q x,q≤n→n-q<fuel→P q x→∃ r,Q r∧AH body fuel x=some r
 | 0,q,x,_,h,_=>by omega
 | fuel+1,q,x,hq,h,hp=>by
  by_cases hlt:q<n
  ·obtain⟨x',hp',e⟩:=h1 (AH body fuel) q x hlt hp;obtain⟨r,hr,e2⟩:=Ln n P Q h1 h2 fuel (q+1) x' hlt (by omega) hp'
   exact⟨r,hr,by show body (AH body fuel) x=_;rw[e,e2]⟩
  ·have e:q=n:=by omega
   subst e;exact h2 (AH body fuel) x hp
def MkI (k:Int) (s:List Int) (n:Nat):Prop:=∀ i,i<n→s[i]? = some (k+(i:Int))
def ApU (k:Int) (s:List Vc) (n:Nat):Prop:=∀ i,i<n→s[i]? = some (k+2*(i:Int),k+1+2*(i:Int))
def SI (s:List Vc):Prop:=s.Pairwise fun a b=>ltV a b=true
theorem D8 (a:Vc):ltV a a=false:=D5 _
theorem Hc {a b c:Vc} (h:ltV a b=true) (k:ltV b c=true):ltV a c=true:=DV h k
theorem Lo {a b:Vc} (h:ltV a b=false) (k:ltV b a=false):a=b:=AdE (QU rfl h k)
theorem JJ {a b:Vc} (h:ltV a b=true):ltV b a=false:=by
 cases hb:ltV b a
 ·rfl
 ·have:=Hc h hb;rw[D8] at this;cases this
theorem JK:∀ {a b:List Vc},SI a→SI b→(∀ x,x∈a↔x∈b)→a=b
 | [],[],_,_,_=>rfl
 | [],y :: b,_,_,h=>by have:=(h y).2 (by simp);cases this
 | x :: a,[],_,_,h=>by have:=(h x).1 (by simp);cases this
 | x :: a,y :: b,ha,hb,h=>by
  have ha':=AqY.1 ha;have hb':=AqY.1 hb;have e:x=y:=by
   rcases AqA.1 ((h x).1 (by simp)) with e | e
   ·exact e
   ·rcases AqA.1 ((h y).2 (by simp)) with e2 | e2
    ·exact e2.symm
    ·have h1:=hb'.1 x e;have h2:=ha'.1 y e2;rw[JJ h1] at h2;cases h2
  subst e;refine congrArg (x :: ·) (JK ha'.2 hb'.2 fun z=>⟨fun hz=>?_,fun hz=>?_⟩)
  ·rcases AqA.1 ((h z).1 (by simp[hz])) with e | e
   ·subst e;have:=ha'.1 z hz;rw[D8] at this;cases this
   ·exact e
  ·rcases AqA.1 ((h z).2 (by simp[hz])) with e | e
   ·subst e;have:=hb'.1 z hz;rw[D8] at this;cases this
   ·exact e
def ER (v:Vc):List Vc→List Vc
 | []=>[v]
 | a :: r=>bif ltV a v then a :: ER v r else (bif a==v then a :: r else v :: a :: r)
theorem MD (v:Vc):∀ (s:List Vc) (x:Vc),x∈ER v s↔x=v∨x∈s
 | [],x=>by simp[ER]
 | a :: r,x=>by
  simp only[ER];cases ltV a v
  ·rw[cF];cases h:a==v
   ·rw[cF];simp
   ·rw[cT];have:=beq_iff_eq.1 h;subst this;simp
  ·rw[cT];simp only[AqA,MD v r x];constructor<;>rintro (h | h | h)<;>simp[h]
theorem YW (v:Vc):∀ {s:List Vc},SI s→SI (ER v s)
 | [],_=>by simp[ER,SI]
 | a :: r,h=>by
  have h':=AqY.1 h;simp only[ER];cases hl:ltV a v
  ·rw[cF];cases he:a==v
   ·rw[cF];have hne:a≠v:=by simpa using he
    have hva:ltV v a=true:=by
     cases hv:ltV v a
     ·exact absurd (Lo hl hv) hne
     ·rfl
    refine AqY.2 ⟨fun b hb=>?_,h⟩;rcases AqA.1 hb with e | e
    ·subst e;exact hva
    ·exact Hc hva (h'.1 b e)
   ·exact h
  ·rw[cT];refine AqY.2 ⟨fun b hb=>?_,YW v h'.2⟩;rcases (MD v r b).1 hb with e | e
   ·subst e;exact hl
   ·exact h'.1 b e
theorem ME (v:Vc):∀ s:List Vc,(ER v s).length≤s.length+1
 | []=>by simp[ER]
 | a :: r=>by
  have:=ME v r;simp only[ER];cases ltV a v
  ·rw[cF];cases a==v<;>simp
  ·rw[cT];simpa using this
theorem AdK (u v:Vc):((u.1==v.1)&&(u.2==v.2))=(u==v):=by
 rw[Arz];simp only[aT,beq_iff_eq,ArS]
theorem GD {s:List Vc} (hs:s.length≤1000000) (v:Vc):∀ (n q:Nat),q≤s.length→s.length-q<n→KR KK s v n (q:Int)=some (s.take q++ER v (s.drop q))
 | 0,q,_,h=>by omega
 | n+1,q,hq,hn=>by
  show P4 KK s v (fun v0=>KR KK s v n v0) (q:Int)=_;have lim1:Nat.ble (0+((s.take ((0:Int)+(q:Int)).toNat).drop 0).length) (lim 16)=true:=JC (by simp;omega)
  have lim2:Nat.ble (([]++((s.take ((0:Int)+(q:Int)).toNat).drop 0)).length+[v].length) (lim 16)=true:=JC (by simp;omega)
  have lim3:Nat.ble ((([]++((s.take ((0:Int)+(q:Int)).toNat).drop 0))++[v]).length+((s.take ((0:Int)+(s.length:Int)).toNat).drop ((0:Int)+(q:Int)).toNat).length) (lim 16)=true:=JC (by simp;omega)
  have c1:(decide (0≤(0:Int))&&true&&decide ((q:Int)≤(s.length:Int)))=true:=by simp;omega
  have c2:(true&&decide ((q:Int)≤(s.length:Int))&&decide ((s.length:Int)≤(s.length:Int)))=true:=by simp;omega
  have fin:(([]++((s.take ((0:Int)+(q:Int)).toNat).drop 0))++[v])++((s.take ((0:Int)+(s.length:Int)).toNat).drop ((0:Int)+(q:Int)).toNat)=s.take q++v :: s.drop q:=by
   have e1:((0:Int)+(q:Int)).toNat=q:=by omega
   have e2:((0:Int)+(s.length:Int)).toNat=s.length:=by omega
   rw[e1,e2];simp
  unfold P4;by_cases hlt:q<s.length
  ·rw[in1 hlt,in0,gd hlt];simp only[nT,Arm,ArF,aS,oT,tO,cT];rw[Mx,oB,Ak (by omega),AdK,dC hlt]
   simp only[ER];cases h1:ltV s[q] v
   ·rw[cF,cF];cases h2:s[q]==v
    ·rw[cF,cF,c1,cT,lim1,cT,lim2,cT,c2,cT,lim3,cT,fin,dC hlt]
    ·simp only[cT];rw[← dC hlt,Ar7]
   ·simp only[cT];rw[GD hs v n (q+1) (by omega) (by omega),tS hlt,Aqv]
    rfl
  ·have:q=s.length:=by omega
   subst this;rw[AS,in0];simp only[nF,tO,oT,cT,cF,oB];rw[c1,cT,lim1,cT,lim2,cT,c2,cT,lim3,cT,fin];simp[ER]
theorem QZ {s:List Vc} (hs:s.length≤1000000) (v:Vc):SD KK s v=some (ER v s):=by
 have:=GD hs v KK 0 (by omega) (by simp only[KK];omega)
 unfold SD UX;exact this.trans (by simp)
def A6 (l:Lt) (g:List Mo) (v:Vc):List Vc:=g.foldl (fun s m=>ER (mvS l m v) s) []
theorem IP (f:Mo→Vc):∀ (g:List Mo) (s:List Vc),SI s→SI (g.foldl (fun s m=>ER (f m) s) s)∧(∀ x,x∈g.foldl (fun s m=>ER (f m) s) s↔x∈s∨∃ m∈g,x=f m)∧(g.foldl (fun s m=>ER (f m) s) s).length≤s.length+g.length
 | [],s,h=>⟨h,fun x=>by simp,Aqr _⟩
 | m :: g,s,h=>by
  obtain⟨h1,h2,h3⟩:=IP f g (ER (f m) s) (YW _ h);refine⟨h1,fun x=>?_,?_⟩
  ·rw[Aq8,h2,MD];simp only[AqA,exists_eq_or_imp];constructor
   ·rintro ((h | h) | h)
    ·exact .inr (.inl h)
    ·exact .inl h
    ·exact .inr (.inr h)
   ·rintro (h | h | h)
    ·exact .inl (.inr h)
    ·exact .inl (.inl h)
    ·exact .inr h
  ·rw[Aq8];have:=ME (f m) s;rw[Aq3];omega
theorem Hd (l:Lt) (g:List Mo) (v:Vc):SI (A6 l g v):=(IP _ g [] List.Pairwise.nil).1
theorem C3 {l:Lt} {g:List Mo} {v x:Vc}:x∈A6 l g v↔∃ m∈g,x=mvS l m v:=by
 have:=(IP (fun m=>mvS l m v) g [] List.Pairwise.nil).2.1 x;unfold A6;rw[this];simp
theorem MF (l:Lt) (g:List Mo) (v:Vc):(A6 l g v).length≤g.length:=by
 have:=(IP (fun m=>mvS l m v) g [] List.Pairwise.nil).2.2;unfold A6;simpa using this
theorem TK {l:Lt} (hl:IsL l) {g:List Mo} (hn:g.length≤1000) (hg:∀ m∈g,GB m) {v:Vc} (hv:Sv v):SE KK l g v=some (A6 l g v):=by
 have h:=AQ (R:=List Vc) (body:=fun L x=>G5 KK l g v (fun v0 v1=>L (v0,v1)) x.1 x.2) g (fun q s=>((q:Int),s)) (fun s m=>ER (mvS l m v) s) some (fun q s=>s.length≤q)
  (fun L q s hq hi=>by
   refine⟨by have:=ME (mvS l g[q] v) s;omega,?_⟩
   show G5 KK l g v (fun v0 v1=>L (v0,v1)) (q:Int) s=_;unfold G5;rw[in1 hq,in0,gd hq];simp only[aS,cT];rw[show (((g[q].1.1,g[q].1.2.1,g[q].1.2.2),g[q].2):Mo)=g[q] from rfl,TI hl (hg _ (gM hq)) hv,oB,QZ (by omega),oB,Ak (by omega)])
  (fun L s hi=>by
   show G5 KK l g v (fun v0 v1=>L (v0,v1)) (g.length:Int) s=_;unfold G5;rw[AS,cF]) KK 0 [] (by omega) (by simp only[KK];omega) (by simp)
 unfold SE UY P5;rw[Aqq] at h;exact h
theorem Amb (a b:Vc):decide (Eh (De a) (De b)<0)=ltV a b:=by
 have h:=QT (De a) (De b);unfold ltV;by_cases h0:Eh (De a) (De b)<0
 ·have:decide (Eh (De a) (De b)≥0)=false:=dF (by omega)
  rw[this] at h;rw[dT h0];cases hx:ltL (De a) (De b)
  ·rw[hx] at h;cases h
  ·rfl
 ·have:decide (Eh (De a) (De b)≥0)=true:=dT (by omega)
  rw[this] at h;rw[dF h0];cases hx:ltL (De a) (De b)
  ·rfl
  ·rw[hx] at h;cases h
theorem YX (a b:Vc):Ke KK a b=some (Eh (De a) (De b)):=GA a b
theorem MG:(ltOf fun x y=>((fun z7 z8=>Ke KK z7 z8) x y:Option Int).getD 0)=ltV:=by
 funext a b;unfold ltOf;simp only[YX,ArD,Amb]
theorem Alt:Go.Sort.SWO ltV where
 irrefl:=D8
 trans x y z h k:=Hc h k
 ntrans x y z h k:=by
  cases hxz:ltV x z
  ·rfl
  ·cases hyx:ltV y x
   ·have:=Lo h hyx;subst this;rw[hxz] at k;cases k
   ·rw[Hc hyx hxz] at k;cases k
theorem VF {s:List Vc} (hs:s.length≤1000000):X1 KK s (fun z7 z8=>Ke KK z7 z8)=some (s.mergeSort fun x y=>!ltV y x):=by
 unfold X1 Uf;rw[if_pos]
 ·rw[MG]
 ·refine⟨⟨fun x y=>by simp only;rw[YX];rfl,?_,?_⟩,by omega⟩
  ·rw[MG];exact Alt
  ·rw[MG];exact fun x y h k=>Lo h k
def dd (s:List Vc) (a:Vc):List Vc:=bif s.getLast? == some a then s else s++[a]
theorem Ahv (s:List Vc) (a:Vc):(dd s a).getLast? = some a:=by
 unfold dd;cases h:s.getLast? == some a
 ·simp
 ·simpa using h
theorem YY {s:List Vc} {z a:Vc} (h:s.getLast? = some z):dd s a=bif a==z then s else s++[a]:=by
 unfold dd;rw[h];by_cases e:a=z
 ·subst e;simp
 ·have e1:(a==z)=false:=by simpa using e
  have e2:((some z:Option Vc)==some a)=false:=by
   rw[bN];exact fun h=>e (Option.some.inj h).symm
  rw[e1,e2]
theorem YZ:∀ (l s:List Vc),SI s→(∀ a∈s,∀ b∈l,ltV b a=false)→l.Pairwise (fun x y=>(!ltV y x)=true)→SI (l.foldl dd s)∧∀ x,x∈l.foldl dd s↔x∈s∨x∈l
 | [],s,h,_,_=>⟨h,fun x=>by simp⟩
 | a :: l,s,h,h1,h2=>by
  have h2':=AqY.1 h2;have hmem:∀ x,x∈dd s a↔x∈s∨x=a:=by
   intro x;unfold dd;cases hc:s.getLast? == some a
   ·simp
   ·have:a∈s:=List.mem_of_getLast? (by simpa using hc)
    simp only[cT];exact⟨.inl,fun h=>h.elim id fun e=>e▸this⟩
  have hsi:SI (dd s a):=by
   unfold dd;cases hc:s.getLast? == some a
   ·rw[cF];refine Asd.2 ⟨h,by simp,fun b hb c hc'=>?_⟩
    rcases Ara.1 hc' with rfl;have hle:=h1 b hb c (by simp)
    cases hbc:ltV b c
    ·have e:=Lo hbc hle;subst e;exfalso
     -- b stands in s, so it is the last
     obtain⟨z,hz⟩:∃ z,s.getLast? = some z:=by
      cases hs:s.getLast? with
      | none=>rw[List.getLast?_eq_none_iff] at hs;subst hs;cases hb
      | some z=>exact⟨z,rfl⟩
     obtain⟨t,rfl⟩:=List.getLast?_eq_some_iff.1 hz;have hne:z≠b:=fun e=>by subst e;rw[hz] at hc;simp at hc
     rcases Aqy.1 hb with e | e
     ·have h3:=(Asd.1 h).2.2 b e z (by simp)
      have h4:=h1 z (by simp) b (by simp)
      rw[h3] at h4;cases h4
     ·exact hne (Ara.1 e).symm
    ·rfl
   ·exact h
  obtain⟨h3,h4⟩:=YZ l (dd s a) hsi (fun x hx b hb=>by
   rcases (hmem x).1 hx with e | e
   ·exact h1 x e b (by simp[hb])
   ·subst e;have:=h2'.1 b hb;simpa using this) h2'.2
  refine⟨h3,fun x=>?_⟩;rw[Aq8,h4,hmem];simp only[AqA];constructor
  ·rintro ((h | h) | h)
   ·exact .inl h
   ·exact .inr (.inl h)
   ·exact .inr (.inr h)
  ·rintro (h | h | h)
   ·exact .inl (.inl h)
   ·exact .inl (.inr h)
   ·exact .inr h
theorem IQ (l:List Vc) {p:Nat} (hp:p<l.length):((l.take (p+1)).foldl dd []).getLast? = some l[p]:=by
 rw[tS hp,As3];exact Ahv _ _
structure Cm (l:List Vc) (p m:Nat) (s:List Vc):Prop where
 len:s.length=l.length
 lt:m<p
 pl:p≤l.length
 kept:s.take m=(l.take p).foldl dd []
 rest:∀ i,p≤i+1→s[i]? = l[i]?
theorem HY {l:List Vc} (hl:l.length≤1000000) {k0:Nat}:∀ (n k2 m:Nat) (s:List Vc),1≤k2→Cm l (k0+k2) m s→l.length-(k0+k2)<n→Is KK l (k0:Int) n (m:Int) (k2:Int) s=some (l.foldl dd [])
 | 0,k2,m,s,_,_,h=>by omega
 | n+1,k2,m,s,hk,hC,hn=>by
  show Qn KK l (k0:Int) (fun v0 v1 v2=>Is KK l (k0:Int) n v0 v1 v2) (m:Int) (k2:Int) s=_;have hlen:=hC.len;have hlt:=hC.lt;have hpl:=hC.pl;unfold Qn;by_cases hin:k0+k2<l.length
  ·have d1:decide ((k2:Int)<(((0:Int)+(l.length:Int))-((0:Int)+(k0:Int))))=true:=dT (by omega)
   have e1:w ((k2:Int)-1)=((k2-1:Nat):Int):=by rw[AD (by omega) (by omega)];omega
   have d2:decide (((k2-1:Nat):Int)<(((0:Int)+(l.length:Int))-((0:Int)+(k0:Int))))=true:=dT (by omega)
   have i1:(((0:Int)+(k0:Int))+(k2:Int)).toNat=k0+k2:=by omega
   have i2:(((0:Int)+(k0:Int))+((k2-1:Nat):Int)).toNat=k0+k2-1:=by omega
   have i3:((0:Int)+(m:Int)).toNat=m:=by omega
   have g1:s.getD (k0+k2) ((0:Int),(0:Int))=l[k0+k2]:=by
    rw[AqJ,hC.rest _ (by omega),Aqo hin];rfl
   have g2:s.getD (k0+k2-1) ((0:Int),(0:Int))=l[k0+k2-1]:=by
    rw[AqJ,hC.rest _ (by omega),Aqo (by omega)];rfl
   have d3:decide ((m:Int)<(s.length:Int))=true:=dT (by omega)
   have hlast:(s.take m).getLast? = some l[k0+k2-1]:=by
    rw[hC.kept];have:=IQ l (p:=k0+k2-1) (by omega)
    rw[show k0+k2-1+1=k0+k2 by omega] at this
    exact this
   have htk:(l.take (k0+k2+1)).foldl dd []=dd (s.take m) l[k0+k2]:=by
    rw[tS hin,As3,← hC.kept];rfl
   have wk:w ((k2:Int)+1)=((k2+1:Nat):Int):=Ak (by omega)
   have wm:w ((m:Int)+1)=((m+1:Nat):Int):=Ak (by omega)
   rw[d1,in0,e1,in0,d2,i1,i2,i3,g1,g2,d3,in0,wk,wm,AdK];simp only[aS,cT];cases heq:l[k0+k2]==l[k0+k2-1]
   ·rw[nF,cT];refine HY hl n (k2+1) (m+1) _ (by omega) ⟨by simp[hlen],by omega,by omega,?_,fun i hi=>?_⟩ (by omega)
    ·rw[show k0+(k2+1)=k0+k2+1 by omega,htk]
     rw[YY hlast,heq,cF];rw[tS (by simp;omega),List.take_set_of_le (by omega)]
     simp
    ·rw[AsJ (by omega)]
     exact hC.rest i (by omega)
   ·rw[nT,cF];refine HY hl n (k2+1) m _ (by omega) ⟨hlen,by omega,by omega,?_,fun i hi=>hC.rest i (by omega)⟩ (by omega)
    rw[show k0+(k2+1)=k0+k2+1 by omega,htk]
    rw[YY hlast,heq,cT]
  ·have hp:k0+k2=l.length:=by omega
   have d1:decide ((k2:Int)<(((0:Int)+(l.length:Int))-((0:Int)+(k0:Int))))=false:=dF (by omega)
   have c1:(decide (0≤(m:Int))&&decide ((m:Int)≤(s.length:Int))&&decide ((s.length:Int)≤(s.length:Int)))=true:=by simp;omega
   have i3:((0:Int)+(m:Int)).toNat=m:=by omega
   have hcl:m≤(clr s m (((0:Int)+(m:Int))+(((0:Int)+(s.length:Int))-((0:Int)+(m:Int)))).toNat ((0:Int),(0:Int))).length:=by
    unfold clr;simp only[lA,AqT];omega
   have c2:(decide (0≤(0:Int))&&decide ((0:Int)≤(m:Int))&&decide ((m:Int)≤((clr s m (((0:Int)+(m:Int))+(((0:Int)+(s.length:Int))-((0:Int)+(m:Int)))).toNat ((0:Int),(0:Int))).length:Int)))=true:=by
    simp only[aT,dE];omega
   rw[d1,cF,c1,cT,i3,c2,cT];have hk:=hC.kept;rw[hp,Aru] at hk;rw[← hk];unfold clr;rw[Aqv,Arc (by simp;omega),AsW,Nat.min_self]
theorem Kn {l:List Vc} (hl:l.length≤1000000):∀ (n k:Nat),1≤k→k≤l.length→l.take k=(l.take k).foldl dd []→l.length-k<n→K4 KK l n (k:Int)=some (l.foldl dd [])
 | 0,k,_,_,_,h=>by omega
 | n+1,k,hk,hkl,ht,hn=>by
  show K3 KK l (fun c0 d0 d1 d2=>Is KK l c0 KK d0 d1 d2) (fun v0=>K4 KK l n v0) (k:Int)=_;unfold K3;by_cases hin:k<l.length
  ·have e1:w ((k:Int)-1)=((k-1:Nat):Int):=by rw[AD (by omega) (by omega)];omega
   have hk1:k-1<l.length:=by omega
   have c2:(true&&decide ((k:Int)≤(l.length:Int))&&decide ((l.length:Int)≤(l.length:Int)))=true:=by simp;omega
   rw[in1 hin,in0,e1,in0,in1 hk1,gd hin,gd hk1,AdK,Ak (by omega)]
   simp only[aS,cT];have hlast:((l.take k).foldl dd []).getLast? = some l[k-1]:=by
    have:=IQ l (p:=k-1) hk1;rw[show k-1+1=k by omega] at this
    exact this
   have htk:(l.take (k+1)).foldl dd []=dd ((l.take k).foldl dd []) l[k]:=by
    rw[tS hin,As3];rfl
   cases heq:l[k]==l[k-1]
   ·rw[cF];refine Kn hl n (k+1) (by omega) (by omega) ?_ (by omega)
    rw[htk];rw[YY hlast,heq,cF,← ht,← tS hin]
   ·rw[cT,c2,cT];refine HY hl KK 1 k l (by omega) ⟨rfl,by omega,by omega,?_,fun i _=>rfl⟩ (by simp only[KK];omega)
    rw[htk];rw[YY hlast,heq,cT];exact ht
  ·have:k=l.length:=by omega
   subst this;rw[AS,cF];rw[Aru] at ht;rw[← ht]
theorem VG {l:List Vc} (hl:l.length≤1000000):S9 KK l=some (l.foldl dd []):=by
 unfold S9 Vi;by_cases h:l.length<2
 ·rw[dT (by omega),cT]
  match l,h with
  | [],_=>rfl
  | [a],_=>rfl
 ·rw[dF (by omega),cF]
  refine Kn hl KK 1 (by omega) (by omega) ?_ (by simp only[KK];omega)
  obtain⟨a,b,r,rfl⟩:∃ a b r,l=a :: b :: r:=by
   match l,h with
   | a :: b :: r,_=>exact⟨a,b,r,rfl⟩
   | [a],h=>simp at h
   | [],h=>simp at h
  rfl
theorem MH {l:Lt} (hl:IsL l) {g:List Mo} (hn:g.length≤1000) (hg:∀ m∈g,GB m) {v:Vc} (hv:Sv v):Aad KK l g v=some (A6 l g v):=by
 have h:=AQ (R:=List Vc) (body:=fun L x=>JA KK l g v (fun v0 v1=>L (v0,v1)) x.1 x.2) g (fun q s=>((q:Int),s)) (fun s m=>s++[mvS l m v]) (fun s=>some ((s.mergeSort fun x y=>!ltV y x).foldl dd [])) (fun q s=>s.length=q)
  (fun L q s hq hi=>by
   refine⟨by simp[hi],?_⟩
   show JA KK l g v (fun v0 v1=>L (v0,v1)) (q:Int) s=_;unfold JA;rw[in1 hq,in0,gd hq];simp only[aS,cT];rw[show (((g[q].1.1,g[q].1.2.1,g[q].1.2.2),g[q].2):Mo)=g[q] from rfl,AdH hl (hg _ (gM hq)) hv,oB,JC (by simp;omega),cT,Ak (by omega)])
  (fun L s hi=>by
   show JA KK l g v (fun v0 v1=>L (v0,v1)) (g.length:Int) s=_;unfold JA;rw[AS,cF,VF (by omega),oB,VG (by rw[List.length_mergeSort];omega),oB]) KK 0 [] (by omega) (by simp only[KK];omega) (by simp)
 unfold Aad AcG Vj;rw[Aqq] at h;refine Eq.trans h (congrArg some ?_);rw[D1,AqM];obtain⟨h1,h2⟩:=YZ ((g.map fun m=>mvS l m v).mergeSort fun x y=>!ltV y x) [] List.Pairwise.nil (fun a ha=>by cases ha) (List.pairwise_mergeSort (fun a b c h k=>by
   simp only[ArJ] at h k ⊢;exact Alt.ntrans c b a k h) (fun a b=>by
   cases h:ltV b a
   ·rfl
   ·rw[JJ h];rfl) _)
 refine JK h1 (Hd l g v) fun x=>?_;rw[h2,C3];simp only[List.not_mem_nil,false_or,List.mem_mergeSort,AqG];exact⟨fun⟨m,hm,e⟩=>⟨m,hm,e.symm⟩,fun⟨m,hm,e⟩=>⟨m,hm,e.symm⟩⟩
theorem Amc {l:Lt} (h:okL l=true):IsL l:=Cn.1 h
def AB (f:Int) (l:Lt) (g:List Mo) (b:Bool):Int:=if okF f&&okL l then (if b&&Dp f l g then 0 else 2) else 1
theorem TL (f:Int) (l:Lt) {g:List Mo} (hn:g.length≤1048576) (b:Bool):AcW KK f l g b=some (AB f l g b):=VE f l hn b
structure Bv (f:Int) (l:Lt) (g:List Mo):Prop where
 la:IsL l
 pr:Pre f l g
 gr:Dp f l g=true
theorem BJ {f:Int} {l:Lt} {g:List Mo} {b:Bool} (h:AB f l g b=0):Bv f l g∧b=true:=by
 unfold AB at h;by_cases h1:(okF f&&okL l)=true
 ·rw[if_pos h1] at h;by_cases h2:(b&&Dp f l g)=true
  ·simp only[aT] at h1 h2;refine⟨⟨Amc h1.2,VC ?_,h2.2⟩,h2.1⟩;have:=h2.2;unfold Dp at this;simp only[aT] at this;exact this.1
  ·rw[if_neg h2] at h;omega
 ·rw[if_neg h1] at h;omega
theorem Bv.good {f:Int} {l:Lt} {g:List Mo} (h:Bv f l g):∀ m∈g,GB m:=fun m hm=>h.pr.good h.la hm
theorem Bv.len {f:Int} {l:Lt} {g:List Mo} (h:Bv f l g):g.length≤768:=h.pr.len h.la
theorem ES {l:Lt} (hl:IsL l) {u v:Vc}:AZ l u=AZ l v↔InL l (u.1-v.1,u.2-v.2):=by
 have ha:=hl.a1;have hc:=hl.c1;constructor
 ·intro h;have h1:(u.1-(u.2 / l.2.2)*l.2.1) % l.1=(v.1-(v.2 / l.2.2)*l.2.1) % l.1:=congrArg Prod.fst h;have h2:u.2 % l.2.2=v.2 % l.2.2:=congrArg Prod.snd h;have e1:=Ar8 (u.1-(u.2 / l.2.2)*l.2.1) l.1;have e2:=Ar8 (v.1-(v.2 / l.2.2)*l.2.1) l.1;have e3:=Ar8 u.2 l.2.2;have e4:=Ar8 v.2 l.2.2;rw[ArE] at e1 e2 e3 e4;refine⟨(u.1-(u.2 / l.2.2)*l.2.1) / l.1-(v.1-(v.2 / l.2.2)*l.2.1) / l.1,u.2 / l.2.2-v.2 / l.2.2,Prod.ext ?_ ?_⟩
  ·show u.1-v.1=_;rw[As1,As1];omega
  ·have e5:=As1 (u.2 / l.2.2) (v.2 / l.2.2) l.2.2;show u.2-v.2=(u.2 / l.2.2-v.2 / l.2.2)*l.2.2;omega
 ·rintro⟨i,j,h⟩
  have h1:u.1-v.1=i*l.1+j*l.2.1:=congrArg Prod.fst h;have h2:u.2-v.2=j*l.2.2:=congrArg Prod.snd h;have e2:u.2=v.2+j*l.2.2:=by omega
  have d:u.2 / l.2.2=v.2 / l.2.2+j:=by rw[e2,Int.add_mul_ediv_right _ _ (by omega)]
  refine Prod.ext ?_ ?_
  ·show (u.1-(u.2 / l.2.2)*l.2.1) % l.1=(v.1-(v.2 / l.2.2)*l.2.1) % l.1;refine Ha ⟨i,?_⟩;rw[d,Asu,ArE l.1 i];omega
  ·show u.2 % l.2.2=v.2 % l.2.2;exact Ha ⟨j,by rw[ArE];exact h2⟩
theorem AdL (l:Lt):InL l (0,0):=⟨0,0,by simp⟩
theorem Ahw {l:Lt} {u:Vc} (hu:InL l u):InL l (-u.1,-u.2):=QM (Lm l) hu
theorem TM (m:Mt) (u v:Vc) (i j:Int):AW m (i*u.1+j*v.1,i*u.2+j*v.2)=(i*(AW m u).1+j*(AW m v).1,i*(AW m u).2+j*(AW m v).2):=by
 unfold AW;refine Prod.ext ?_ ?_<;>simp only[AsI,Asy m.1,Asy m.2.1,Asy m.2.2.1,Asy m.2.2.2]<;>omega
theorem AdM (m:Mt) (u v:Vc):AW m (u.1-v.1,u.2-v.2)=((AW m u).1-(AW m v).1,(AW m u).2-(AW m v).2):=by
 unfold AW;refine Prod.ext ?_ ?_<;>simp only[Ath]<;>omega
theorem Lp {l:Lt} (hl:IsL l) {m:Mt} (hs:CM l m=true) {v:Vc} (hv:InL l v):InL l (AW m v):=by
 unfold CM at hs;simp only[aT,beq_iff_eq] at hs;have h1:=(EO hl _).1 hs.1;have h2:=(EO hl _).1 hs.2;obtain⟨i,j,rfl⟩:=hv;have e:=TM m (l.1,0) l.2 i j;have e2:((i*l.1+j*l.2.1,j*l.2.2):Vc)=(i*l.1+j*l.2.1,i*0+j*l.2.2):=by simp
 rw[e2];have e3:AW m (i*l.1+j*l.2.1,i*0+j*l.2.2)=(i*(AW m (l.1,0)).1+j*(AW m l.2).1,i*(AW m (l.1,0)).2+j*(AW m l.2).2):=e;rw[e3];have a1:=Lm l (0,0) _ i (AdL l) h1;have a2:=Lm l _ _ j a1 h2;simpa using a2
theorem Fj (m n:Mt) (v:Vc):AW (mmS m n) v=AW m (AW n v):=by
 unfold AW mmS;refine Prod.ext ?_ ?_<;>simp only[AsI,Asu,AsG]<;>omega
theorem GE (v:Vc):AW (1,0,0,1) v=v:=by
 unfold AW;simp
def AdN (m:Mt):Nat→Mt
 | 0=>(1,0,0,1)
 | k+1=>mmS m (AdN m k)
theorem Ahx:((pmQ++pmH).all fun m=>(List.range 6).any fun k=>mmS (AdN m k) m==(1,0,0,1))=true:=by decide +kernel
theorem Y0 {l:Lt} (hl:IsL l) {m:Mt} (hs:CM l m=true):∀ (k:Nat) {v:Vc},InL l v→InL l (AW (AdN m k) v)
 | 0,v,h=>by rw[AdN,GE];exact h
 | k+1,v,h=>by rw[AdN,Fj];exact Lp hl hs (Y0 hl hs k h)
theorem Ahy {l:Lt} (hl:IsL l) {m:Mt} (hm:m∈pmQ++pmH) (hs:CM l m=true) {v:Vc} (h:InL l (AW m v)):InL l v:=by
 obtain⟨k,_,hk⟩:=Arb.1 (Aqn.1 Ahx m hm);have:=Y0 hl hs k h;rw[← Fj,beq_iff_eq.1 hk,GE] at this;exact this
theorem He {f:Int} {l:Lt} {m:Mt} (h:m∈Ba f l):CM l m=true:=(AqR.1 h).2
theorem Y1 (m:Mo) (u v:Vc):((BH m u).1-(BH m v).1,(BH m u).2-(BH m v).2)=AW m.1 (u.1-v.1,u.2-v.2):=by
 rw[AdM];unfold BH;refine Prod.ext ?_ ?_<;>simp only<;>omega
theorem Ahz {f:Int} {l:Lt} (hl:IsL l) {m:Mo} (hm:m.1∈Ba f l) {u v:Vc} (h:AZ l u=AZ l v):mvS l m u=mvS l m v:=by
 unfold mvS;rw[ES hl,Y1];exact Lp hl (He hm) ((ES hl).1 h)
theorem AdO {f:Int} {l:Lt} (hl:IsL l) {m:Mo} (hm:m.1∈Ba f l) {u v:Vc} (hu:Al l u=true) (hv:Al l v=true) (h:mvS l m u=mvS l m v):u=v:=by
 unfold mvS at h;rw[ES hl,Y1] at h;have:=(ES hl).2 (Ahy hl (Ms hm) (He hm) h)
 rwa [CV hl hu,CV hl hv] at this
theorem Hf {l:Lt} (hl:IsL l) (v:Vc):AZ l (AZ l v)=AZ l v:=CV hl (A5 hl v)
theorem AdP {f:Int} {l:Lt} (hl:IsL l) {m n:Mo} (hm:m.1∈Ba f l) (v:Vc):mvS l m (mvS l n v)=mvS l (BS l m n) v:=by
 have h1:mvS l m (mvS l n v)=mvS l m (BH n v):=Ahz hl hm (Hf hl _);rw[h1];unfold mvS BS;rw[ES hl];have h2:=(ES hl).1 (Hf hl (BH m n.2));have e:((BH m (BH n v)).1-(BH (mmS m.1 n.1,AZ l (BH m n.2)) v).1,(BH m (BH n v)).2-(BH (mmS m.1 n.1,AZ l (BH m n.2)) v).2)=(-((AZ l (BH m n.2)).1-(BH m n.2).1),-((AZ l (BH m n.2)).2-(BH m n.2).2)):=by
  have e1:=Fj m.1 n.1 v;generalize hr:AZ l (BH m n.2)=r;unfold BH;simp only;rw[e1];have e2:AW m.1 ((AW n.1 v).1+n.2.1,(AW n.1 v).2+n.2.2)=((AW m.1 (AW n.1 v)).1+(AW m.1 n.2).1,(AW m.1 (AW n.1 v)).2+(AW m.1 n.2).2):=by
   have:=TM m.1 (AW n.1 v) n.2 1 1;simpa using this
  rw[e2];refine Prod.ext ?_ ?_<;>simp only<;>omega
 rw[e];exact Ahw h2
theorem AdQ {l:Lt} (hl:IsL l) {v:Vc} (hv:Al l v=true):mvS l uMo v=v:=by
 unfold mvS BH uMo;simp only;rw[GE];simp only[AsU];exact CV hl hv
theorem Bv.stab {f:Int} {l:Lt} {g:List Mo} (h:Bv f l g) {m:Mo} (hm:m∈g):m.1∈Ba f l:=(h.pr.mem m hm).1
theorem Bv.one {f:Int} {l:Lt} {g:List Mo} (h:Bv f l g):uMo∈g:=by
 have:=h.gr;unfold Dp at this;simp only[aT] at this;exact Aqx.1 this.2.1
theorem Bv.mul {f:Int} {l:Lt} {g:List Mo} (h:Bv f l g) {m n:Mo} (hm:m∈g) (hn:n∈g):BS l m n∈g:=by
 have:=h.gr;unfold Dp at this;simp only[aT] at this;exact Aqx.1 (Aqn.1 (Aqn.1 this.2.2 m hm) n hn)
theorem Cu {f:Int} {l:Lt} {g:List Mo} (h:Bv f l g) {u v:Vc} (hu:u∈A6 l g v):Al l u=true:=by
 obtain⟨m,_,rfl⟩:=C3.1 hu;exact A5 h.la _
theorem TN {f:Int} {l:Lt} {g:List Mo} (h:Bv f l g) {v:Vc} (hv:Al l v=true):v∈A6 l g v:=C3.2 ⟨uMo,h.one,(AdQ h.la hv).symm⟩
theorem CX {f:Int} {l:Lt} {g:List Mo} (h:Bv f l g) {u v w:Vc} (hu:u∈A6 l g v) (hw:w∈A6 l g u):w∈A6 l g v:=by
 obtain⟨m,hm,rfl⟩:=C3.1 hu;obtain⟨n,hn,rfl⟩:=C3.1 hw;exact C3.2 ⟨BS l n m,h.mul hn hm,AdP h.la (h.stab hn) v⟩
theorem AdR {s:List Vc} (h:SI s):s.Nodup:=List.Pairwise.imp (fun {a b} hab e=>by subst e;rw[D8] at hab;cases hab) h
theorem D9 {f:Int} {l:Lt} {g:List Mo} (h:Bv f l g) {u v:Vc} (hv:Al l v=true) (hu:u∈A6 l g v):v∈A6 l g u:=by
 have hcu:=Cu h hu;obtain⟨m,hm,rfl⟩:=C3.1 hu;have hO:=TN h hcu
 -- the motion goes round in the orbit
 have hsub:∀ x∈(A6 l g (mvS l m v)).map (mvS l m),x∈A6 l g (mvS l m v):=by
  intro x hx;obtain⟨y,hy,rfl⟩:=AqG.1 hx;exact CX h hy (C3.2 ⟨m,hm,rfl⟩)
 have hnd:((A6 l g (mvS l m v)).map (mvS l m)).Nodup:=by
  refine List.pairwise_map.2 (List.Pairwise.imp_of_mem (fun {a b} ha hb hab e=>hab ?_) (AdR (Hd l g (mvS l m v))));exact AdO h.la (h.stab hm) (Cu h ha) (Cu h hb) e
 have hall:=TJ (A6 l g (mvS l m v)) ((A6 l g (mvS l m v)).map (mvS l m)) hnd (fun x hx=>hsub x hx) (by simp)
 obtain⟨y,hy,e⟩:=AqG.1 (hall _ hO);have:=AdO h.la (h.stab hm) (Cu h hy) hv e;rw[this] at hy;exact hy
theorem AdS {f:Int} {l:Lt} {g:List Mo} (h:Bv f l g) {u v:Vc} (hv:Al l v=true) (hu:u∈A6 l g v):A6 l g u=A6 l g v :=
 JK (Hd l g u) (Hd l g v) fun x=>⟨fun hx=>CX h hu hx,fun hx=>CX h (D9 h hv hu) hx⟩
def Ei (l:Lt) (g:List Mo) (v:Vc):Bool:=(A6 l g v).headD (0,0)==v
theorem IR {f:Int} {l:Lt} {g:List Mo} (h:Bv f l g) {v:Vc} (hv:Al l v=true):∃ w t,A6 l g v=w :: t∧(w=v∨ltV w v=true):=by
 have hs:=TN h hv;have hi:=Hd l g v;cases ho:A6 l g v with
 | nil=>rw[ho] at hs;cases hs
 | cons w t =>
  refine⟨w,t,rfl,?_⟩;rw[ho] at hs hi;rcases AqA.1 hs with e | e
  ·exact .inl e.symm
  ·exact .inr ((AqY.1 hi).1 v e)
theorem AdT {f:Int} {l:Lt} {g:List Mo} (h:Bv f l g) {v:Vc} (hv:Al l v=true):∃ w,Ei l g w=true∧Al l w=true∧v∈A6 l g w∧(w=v∨ltV w v=true):=by
 obtain⟨w,t,ho,hw⟩:=IR h hv;have hwo:w∈A6 l g v:=by rw[ho];simp
 refine⟨w,?_,Cu h hwo,D9 h hv hwo,hw⟩;unfold Ei;rw[AdS h hv hwo,ho];simp
theorem Y2 {f:Int} {l:Lt} {g:List Mo} (h:Bv f l g) {v w:Vc} (hv:Al l v=true) (hr:Ei l g v=true) (hw:w∈A6 l g v):w=v∨ltV v w=true:=by
 obtain⟨x,t,ho,_⟩:=IR h hv;unfold Ei at hr;rw[ho] at hr hw;have:x=v:=by simpa using hr
 subst this;rcases AqA.1 hw with e | e
 ·exact .inl e
 ·have hi:=Hd l g x;rw[ho] at hi;exact .inr ((AqY.1 hi).1 w e)
theorem Q0 {f:Int} {l:Lt} {g:List Mo} (h:Bv f l g) {u v:Vc} (hu:Al l u=true) (hv:Al l v=true) (h1:Ei l g u=true) (h2:Ei l g v=true) (h3:v∈A6 l g u):u=v:=by
 rcases Y2 h hu h1 h3 with e | e
 ·exact e.symm
 ·rcases Y2 h hv h2 (D9 h hu h3) with e2 | e2
  ·exact e2
  ·rw[JJ e] at e2;cases e2
def FC (l:Lt) (g:List Mo):List Vc:=(Ab l).filter (Ei l g)
def Ao (l:Lt) (g:List Mo):List (List Vc):=(FC l g).map (A6 l g)
theorem ET {l:Lt} (hl:IsL l) {v:Vc} (hv:Al l v=true):HF KK l v=some ((AY l v:Nat):Int):=by
 unfold HF;have:=(EN hl v).1;rw[CV hl hv] at this;rw[this]
theorem AdU {n:Int} (h1:0≤n) (h2:n<18446744073709551616):IntKind.u64.wrap n=n:=by
 rw[IntKind.wrap_u64];omega
theorem Ko {n:Nat} (hn:n≤1000) {a0:List Int} {a1:Int} {y1:Int×Int}:∀ (k q:Nat) (s:List Int),s.length=n→1≤q→q≤n→s.take q=List.replicate q (-1)→n-q<k→K2 KK a0 a1 y1 k (q:Int) s=some (List.replicate n (-1))
 | 0,q,s,_,_,_,_,h=>by omega
 | k+1,q,s,hs,hq,hqn,ht,hk=>by
  show Qk KK a0 a1 y1 (fun v0 v1=>K2 KK a0 a1 y1 k v0 v1) (q:Int) s=_;unfold Qk;by_cases hlt:q<n
  ·obtain⟨c,hc1,hc2,hc3,hc⟩:∃ c:Nat,1≤c∧c≤q∧q+c≤n∧(bif decide ((((0:Int)+(s.length:Int))-((0:Int)+(q:Int)))≤(((0:Int)+(q:Int))-(0:Int))) then (((0:Int)+(s.length:Int))-((0:Int)+(q:Int))) else (((0:Int)+(q:Int))-(0:Int)))=(c:Int):=by
    rw[hs];by_cases h:n-q≤q
    ·exact⟨n-q,by omega,by omega,by omega,by rw[dT (by omega),cT];omega⟩
    ·exact⟨q,by omega,by omega,by omega,by rw[dF (by omega),cF];omega⟩
   rw[hc];have d1:decide ((q:Int)<(s.length:Int))=true:=dT (by omega)
   have d2:(decide (0≤(q:Int))&&decide ((q:Int)≤(s.length:Int))&&decide ((s.length:Int)≤(s.length:Int)))=true:=by simp;omega
   have d3:(decide (0≤(0:Int))&&decide ((0:Int)≤(q:Int))&&decide ((q:Int)≤(s.length:Int)))=true:=by simp;omega
   have i1:((0:Int)+(q:Int)).toNat=q:=by omega
   have i2:((0:Int)+(((0:Int)+(q:Int))-(0:Int))).toNat=q:=by omega
   have i3:((c:Int)).toNat=c:=by omega
   rw[d1,cT,d2,cT,d3,cT,i1,i2,i3,AD (n:=(q:Int)+(c:Int)) (by omega) (by omega),Aqq,ht]
   have e:((q:Int)+(c:Int))=((q+c:Nat):Int):=by omega
   rw[e];refine Ko hn k (q+c) _ ?_ (by omega) hc3 ?_ (by omega)
   ·simp only[lA,Ars,AqT,AsE];omega
   ·rw[List.take_replicate,AsN hc2,List.replicate_append_replicate,Arc (by simp),List.take_replicate,Nat.min_self]
  ·have:q=n:=by omega
   subst this;rw[dF (by omega),cF,← ht,← hs,Aru]
theorem AaB {n:Nat} (h1:1≤n) (hn:n≤1000):S7 KK [(-1:Int)] (n:Int)=some (List.replicate n (-1)):=by
 unfold S7 Vf AcA AfH;have e1:IntKind.u64.wrap ((([(-1:Int)]:List Int).length:Nat):Int)=1:=by
  rw[AdU (by simp) (by simp)]
  rfl
 have e2:IntKind.u64.wrap (n:Int)=(n:Int):=AdU (by omega) (by omega)
 rw[dF (by omega),cF,e1,e2,if_pos (by omega)]
 simp only[oB];have e3:(1:Int)*(n:Int) / 18446744073709551616=0:=by omega
 have e4:(1:Int)*(n:Int) % 18446744073709551616=(n:Int):=by omega
 rw[e3,e4,dF (by omega),dF (show ¬ ((n:Int)>9223372036854775807) by omega),AD (n:=(n:Int)) (by omega) (by omega)]
 have e5:((n:Int)).toNat=n:=by omega
 have e6:(decide (0≤(n:Int))&&Nat.ble ((n:Int)).toNat (lim 8)&&((n:Int)==(n:Int)))=true:=by
  rw[in0,e5,HG (by omega)]
  simp
 simp only[nF,nT,Arm,ArF,oT,tO,cT,cF];rw[e6,cT,e5];have e7:(bif decide ((((List.replicate n (0:Int)).length:Nat):Int)≤(([(-1:Int)]:List Int).length:Int)) then (((List.replicate n (0:Int)).length:Nat):Int) else (([(-1:Int)]:List Int).length:Int))=((1:Nat):Int):=by
  rw[Ars];by_cases h:n=1
  ·subst h;rfl
  ·rw[dF (by simp;omega),cF];rfl
 rw[e7];refine Ko hn KK 1 _ ?_ (by omega) h1 ?_ (by simp only[KK];omega)
 ·simp only[lA,AqT,AsE,Ars,Ase,Ar5];simp;omega
 ·simp
theorem OU {l:Lt} (hl:IsL l) {v:Vc} (hv:Al l v=true):(AY l v:Int)=v.1*l.2.2+v.2:=by
 have h:=Bu.1 hv;have e1:0≤v.1*l.2.2:=ArW h.1.1 (by have:=hl.c1;omega)
 unfold AY;rw[CV hl hv];omega
theorem Amd {l:Lt} (hl:IsL l) {u v:Vc} (hu:Al l u=true) (hv:Al l v=true) (h:ltV u v=true):AY l u<AY l v:=by
 have h1:=OU hl hu;have h2:=OU hl hv;have b1:=Bu.1 hu;have b2:=Bu.1 hv;have:(u.1=v.1∧u.2<v.2)∨u.1<v.1:=by
  unfold ltV De ltL at h;by_cases e:u.1=v.1
  ·have e1:(u.1==v.1)=true:=by simpa using e
   rw[e1,cT] at h;unfold ltL at h;by_cases e2:u.2=v.2
   ·have e3:(u.2==v.2)=true:=by simpa using e2
    rw[e3,cT] at h;cases h
   ·have e3:(u.2==v.2)=false:=by simpa using e2
    rw[e3,cF,dE] at h;exact .inl ⟨e,h⟩
  ·have e1:(u.1==v.1)=false:=by simpa using e
   rw[e1,cF,dE] at h;exact .inr h
 rcases this with ⟨e1,e2⟩ | e
 ·rw[e1] at h1;omega
 ·have h3:u.1+1≤v.1:=by omega
  have h4:(u.1+1)*l.2.2≤v.1*l.2.2:=Arn h3 (by have:=hl.c1;omega)
  rw[Asu] at h4;omega
theorem Q1 {l:Lt} (hl:IsL l) {v:Vc} (hv:Al l v=true):(Ab l)[AY l v]? = some v:=by
 have h:=BX hl v;rw[Aqo h];congr 1;have hm:(Ab l)[AY l v]∈Ab l:=gM h;have hc:=D3 hm;exact YV hl (Bu.2 (by omega)) hv (Bb hl h)
theorem AN {l:Lt} {v:Vc} (h:v∈Ab l):Al l v=true:=by
 have:=D3 h;exact Bu.2 (by omega)
theorem OV {l:Lt} (hl:IsL l) {q:Nat} (hq:q≤(Ab l).length) {v:Vc}:v∈(Ab l).take q↔Al l v=true∧AY l v<q:=by
 constructor
 ·intro h;obtain⟨i,hi,rfl⟩:=Aq7 h;rw[AqT] at hi;rw[Asa];have hi2:i<(Ab l).length:=by omega
  exact⟨AN (gM hi2),by rw[Bb hl hi2];omega⟩
 ·rintro⟨h1,h2⟩
  have h3:=Q1 hl h1;refine AqH (i:=AY l v) ?_;rw[AqW,if_pos h2,h3]
theorem AaC {α:Type} {p:α→Bool} {C:List α} (h:C.any p=false):CK p 0 C = -1:=by
 rcases Dd p C 0 with ⟨h1,_⟩ | ⟨k,h1,_,_,a,h4,h5⟩
 ·exact h1
 ·rw[Asz] at h;exact absurd h5 (h a (AqH h4))
theorem MI {α:Type} (p:α→Bool):∀ (C D:List α) (q:Nat),CK p q (C++D)=bif C.any p then CK p q C else CK p (q+C.length) D
 | [],D,q=>by simp
 | a :: C,D,q=>by
  have ih:=MI p C D (q+1);simp only[Asi,CK,As8,Aq3];cases h:p a
  ·rw[cF,cF,Arm,ih];have e:q+1+C.length=q+(C.length+1):=by omega
   rw[e]
  ·rfl
def B9 (l:Lt) (i:Int) (o:List Vc) (s:List Int):List Int:=o.foldl (fun s u=>s.set (AY l u) i) s
theorem CS (l:Lt) (i:Int):∀ (o:List Vc) (s:List Int),(B9 l i o s).length=s.length
 | [],_=>rfl
 | u :: o,s=>by
  show (B9 l i o (s.set (AY l u) i)).length=_;rw[CS l i o,Aq4]
theorem Ea {l:Lt} (hl:IsL l) (i:Int) {u:Vc} (hu:Al l u=true):∀ (o:List Vc) (s:List Int),(∀ x∈o,Al l x=true)→AY l u<s.length→(B9 l i o s)[AY l u]? = if u∈o then some i else s[AY l u]?
 | [],s,_,_=>by simp[B9]
 | x :: o,s,ho,hs=>by
  show (B9 l i o (s.set (AY l x) i))[AY l u]? = _;rw[Ea hl i hu o _ (fun y hy=>ho y (by simp[hy])) (by rw[Aq4];exact hs)]
  by_cases h1:u∈o
  ·rw[if_pos h1,if_pos (by simp[h1])]
  ·rw[if_neg h1];by_cases h2:u=x
   ·subst h2;rw[if_pos (by simp),Asw hs]
   ·rw[if_neg (by simp[h1,h2]),AsJ (fun e=>h2 (YV hl hu (ho x (by simp)) e.symm))]
def CN (l:Lt) (g:List Mo) (q:Nat):List (List Vc):=(((Ab l).take q).filter (Ei l g)).map (A6 l g)
theorem MJ {f:Int} {l:Lt} {g:List Mo} (h:Bv f l g) {q:Nat} (hq:q≤(Ab l).length) {u:Vc}:(CN l g q).any (fun o=>o.contains u)=true↔∃ r,Al l r=true∧AY l r<q∧Ei l g r=true∧u∈A6 l g r:=by
 unfold CN;rw[Arb];constructor
 ·rintro⟨o,ho,hu⟩
  obtain⟨r,hr,rfl⟩:=AqG.1 ho;obtain⟨h1,h2⟩:=AqR.1 hr;obtain⟨h3,h4⟩:=(OV h.la hq).1 h1;exact⟨r,h3,h4,h2,Aqx.1 hu⟩
 ·rintro⟨r,h1,h2,h3,h4⟩
  exact⟨_,AqG.2 ⟨r,AqR.2 ⟨(OV h.la hq).2 ⟨h1,h2⟩,h3⟩,rfl⟩,Aqx.2 h4⟩
theorem AdV {f:Int} {l:Lt} {g:List Mo} (h:Bv f l g) {q:Nat} (hq:q<(Ab l).length):(CN l g q).any (fun o=>o.contains (Ab l)[q])=!Ei l g (Ab l)[q]:=by
 have hv:Al l (Ab l)[q]=true:=AN (gM hq);have hn:=Bb h.la hq;cases hr:Ei l g (Ab l)[q]
 ·rw[nF];refine (MJ h (by omega)).2 ?_
  obtain⟨w,h1,h2,h3,h4⟩:=AdT h hv;refine⟨w,h2,?_,h1,h3⟩;rcases h4 with e | e
  ·rw[e,hr] at h1;cases h1
  ·have:=Amd h.la h2 hv e;omega
 ·rw[nT];cases hx:(CN l g q).any (fun o=>o.contains (Ab l)[q])
  ·rfl
  ·obtain⟨r,h1,h2,h3,h4⟩:=(MJ h (by omega)).1 hx
   have:=Q0 h h1 hv h3 hr h4;rw[this,hn] at h2;omega
theorem Hg {l:Lt} {g:List Mo} {q:Nat} (hq:q<(Ab l).length):CN l g (q+1)=bif Ei l g (Ab l)[q] then CN l g q++[A6 l g (Ab l)[q]] else CN l g q:=by
 unfold CN;rw[tS hq,Asr,AsM];cases hr:Ei l g (Ab l)[q]<;>simp[hr]
theorem AdW (l:Lt) (g:List Mo) (q:Nat):(CN l g q).length≤q:=by
 unfold CN;rw[AqD];refine AqE (Arr _ _) ?_;simp[AqT];omega
theorem AdX {f:Int} {l:Lt} {g:List Mo} (h:Bv f l g) {q:Nat} (hq:q<(Ab l).length) (hr:Ei l g (Ab l)[q]=true) {u:Vc} (hu:Al l u=true) :
  CK (fun o=>o.contains u) 0 (CN l g q++[A6 l g (Ab l)[q]])=if u∈A6 l g (Ab l)[q] then ((CN l g q).length:Int) else CK (fun o=>o.contains u) 0 (CN l g q):=by
 have hv:Al l (Ab l)[q]=true:=AN (gM hq);rw[MI];by_cases hm:u∈A6 l g (Ab l)[q]
 ·rw[if_pos hm];have hno:¬ (CN l g q).any (fun o=>o.contains u)=true:=by
   intro hx;obtain⟨r,h1,h2,h3,h4⟩:=(MJ h (by omega)).1 hx
   have h5:(Ab l)[q]∈A6 l g r:=CX h h4 (D9 h hv hm);have h6:=Q0 h h1 hv h3 hr h5;rw[h6,Bb h.la hq] at h2;omega
  have hno:(CN l g q).any (fun o=>o.contains u)=false:=by simpa using hno
  rw[hno,cF];simp only[CK,Aqx.2 hm,cT];omega
 ·rw[if_neg hm];by_cases hx:(CN l g q).any (fun o=>o.contains u)=true
  ·rw[hx,cT]
  ·have hx:(CN l g q).any (fun o=>o.contains u)=false:=by simpa using hx
   rw[hx,cF,AaC hx];have:(A6 l g (Ab l)[q]).contains u=false:=by
    cases hc:(A6 l g (Ab l)[q]).contains u
    ·rfl
    ·exact absurd (Aqx.1 hc) hm
   simp only[CK,this,cF]
def Ax (l:Lt) (g:List Mo):List Int:=(Ab l).map fun v=>CK (fun o=>o.contains v) 0 (Ao l g)
theorem MK (l:Lt) (g:List Mo):CN l g (Ab l).length=Ao l g:=by
 unfold CN Ao FC;rw[Aru]
structure Num (l:Lt) (g:List Mo) (q:Nat) (s:List Int):Prop where
 len:s.length=(Ab l).length
 get:∀ u,Al l u=true→s[AY l u]? = some (CK (fun o=>o.contains u) 0 (CN l g q))
theorem Num.all {l:Lt} (hl:IsL l) {g:List Mo} {s:List Int} (h:Num l g (Ab l).length s):s=Ax l g:=by
 apply Arj
 intro k;unfold Ax;rw[Aqt];by_cases hk:k<(Ab l).length
 ·have hc:Al l (Ab l)[k]=true:=AN (gM hk);have:=h.get _ hc;rw[Bb hl hk,MK] at this;rw[this,Aqo hk];rfl
 ·rw[AqC (by rw[h.len];omega),AqC (by omega)]
  rfl
theorem AaD {f:Int} {l:Lt} {g:List Mo} (h:Bv f l g) {q17:Int} {C:List (List Vc)} {q19 y:List Vc→Int→List Int} {s0:List Int} {y3:List Vc} {y20:Int} {o:List Vc} (ho:∀ u∈o,Al l u=true) (hol:o.length≤768) (hC:C.length≤1000) {L:Int→List (List Vc)→List Int→Option (List (List Vc)×List Int)} {s:List Int} (hs:s.length=(Ab l).length) :
  It KK l g q17 C s0 y3 y20 o L KK 0 s=L (w (q17+1)) (C++[o]) (B9 l (C.length:Int) o s):=by
 have hh:=AQ (R:=List (List Vc)×List Int) (body:=fun L' x=>G7 KK l g q17 C s0 y3 y20 o L (fun v0 v1=>L' (v0,v1)) x.1 x.2) o (fun q s=>((q:Int),s)) (fun s u=>s.set (AY l u) (C.length:Int)) (fun s=>L (w (q17+1)) (C++[o]) s) (fun q s=>s.length=(Ab l).length)
  (fun L' q s hq hi=>by
   refine⟨by rw[Aq4];exact hi,?_⟩
   show G7 KK l g q17 C s0 y3 y20 o L (fun v0 v1=>L' (v0,v1)) (q:Int) s=_;unfold G7;have hlt:=BX h.la o[q];rw[in1 hq,in0,gd hq];simp only[aS,cT];rw[ET h.la (ho _ (gM hq)),oB,in0,in1 (show AY l o[q]<s.length by omega),Ak (by omega)]
   have e1:((0:Int)+((AY l o[q]:Nat):Int)).toNat=AY l o[q]:=by omega
   simp only[aS,cT,e1])
  (fun L' s hi=>by
   show G7 KK l g q17 C s0 y3 y20 o L (fun v0 v1=>L' (v0,v1)) (o.length:Int) s=_;unfold G7;rw[AS,cF,HX (by simp;omega),cT]) KK 0 s (by omega) (by simp only[KK];omega) hs
 unfold It;rw[Aqq] at hh;exact hh
theorem Kp {f:Int} {l:Lt} {g:List Mo} (h:Bv f l g):Aae KK l g=some (Ao l g,Ax l g):=by
 have hN:=Be h.la;have hN1:1≤(Ab l).length:=by
  have:=BX h.la (0,0);omega
 obtain⟨r,⟨hr1,hr2⟩,hh⟩:=Ln (X:=Int×List (List Vc)×List Int) (R:=List (List Vc)×List Int) (body:=fun L x=>DN KK l g (Ab l) (fun c0 c1 c2 c3 c4 d0 d1=>It KK l g c0 c1 c2 (Ab l) c3 c4 (fun v0 v1 v2=>L (v0,v1,v2)) KK d0 d1) (fun v0 v1 v2=>L (v0,v1,v2)) x.1 x.2.1 x.2.2) (Ab l).length
  (fun q x=>x.1=(q:Int)∧x.2.1=CN l g q∧Num l g q x.2.2) (fun r=>r.1=Ao l g∧r.2=Ax l g)
  (fun L q x hq hP=>by
   obtain⟨c,C,s⟩:=x;obtain⟨rfl,rfl,hNm⟩:=hP;simp only at hNm;have hv:Al l (Ab l)[q]=true:=AN (gM hq);have hn:=Bb h.la hq;have hsl:=hNm.len;have hg:=hNm.get _ hv;rw[hn] at hg;have hgd:s.getD ((0:Int)+(q:Int)).toNat 0=CK (fun o=>o.contains (Ab l)[q]) 0 (CN l g q):=by
    have e1:((0:Int)+(q:Int)).toNat=q:=by omega
    rw[e1,AqJ,hg];rfl
   have hbody:∀ (I:Int→List (List Vc)→List Int→Int→List Vc→Int→List Int→Option (List (List Vc)×List Int)) (L':Int→List (List Vc)→List Int→Option (List (List Vc)×List Int)),DN KK l g (Ab l) I L' (q:Int) (CN l g q) s=bif Ei l g (Ab l)[q] then I (q:Int) (CN l g q) s (q:Int) (A6 l g (Ab l)[q]) 0 s else L' ((q+1:Nat):Int) (CN l g q) s:=by
    intro I L';unfold DN;rw[in1 hq,in0,gd hq];simp only[aS,cT];rw[ET h.la hv,oB,hn,in0,in1 (show q<s.length by omega),hgd,D7,AdV h hq,Ak (by omega)]
    simp only[aS,cT];rw[MH h.la (by have:=h.len;omega) h.good (D6 h.la hv),oB]
    cases Ei l g (Ab l)[q]<;>rfl
   cases hrp:Ei l g (Ab l)[q]
   ·refine⟨(((q+1:Nat):Int),CN l g q,s),⟨rfl,?_,⟨hsl,fun u hu=>?_⟩⟩,?_⟩
    ·rw[Hg hq,hrp];rfl
    ·rw[Hg hq,hrp];exact hNm.get u hu
    ·show DN KK l g (Ab l) _ _ (q:Int) (CN l g q) s=_;rw[hbody,hrp];rfl
   ·refine⟨(((q+1:Nat):Int),CN l g q++[A6 l g (Ab l)[q]],B9 l ((CN l g q).length:Int) (A6 l g (Ab l)[q]) s),⟨rfl,?_,⟨by rw[CS];exact hsl,fun u hu=>?_⟩⟩,?_⟩
    ·rw[Hg hq,hrp];rfl
    ·rw[Hg hq,hrp,cT,AdX h hq hrp hu,Ea h.la _ hu _ _ (fun x hx=>Cu h hx) (by rw[hsl];exact BX h.la u)]
     by_cases hm:u∈A6 l g (Ab l)[q]
     ·rw[if_pos hm,if_pos hm]
     ·rw[if_neg hm,if_neg hm];exact hNm.get u hu
    ·show DN KK l g (Ab l) _ _ (q:Int) (CN l g q) s=_;rw[hbody,hrp,cT,AaD h (q19:=fun _ _=>[]) (y:=fun _ _=>[]) (fun u hu=>Cu h hu) (by have:=MF l g (Ab l)[q];have:=h.len;omega) (by have:=AdW l g q;omega) hsl,Ak (by omega)])
  (fun L x hP=>by
   obtain⟨c,C,s⟩:=x;obtain⟨rfl,rfl,hNm⟩:=hP;refine⟨(CN l g (Ab l).length,s),⟨MK l g,hNm.all h.la⟩,?_⟩;show DN KK l g (Ab l) _ _ ((Ab l).length:Int) (CN l g (Ab l).length) s=_;unfold DN;rw[AS,cF]) KK 0 (0,[],List.replicate (Ab l).length (-1)) (by omega) (by simp only[KK];omega)
  ⟨rfl,rfl,⟨by simp,fun u hu=>by
   rw[Ark,if_pos (BX h.la u)];rfl⟩⟩
 unfold Aae AcJ Qa;simp only[oB];rw[AdJ h.la,AaB hN1 (by omega),oB,Mq h.la,oB]
 refine hh.trans ?_;rw[← hr1,← hr2]
theorem Fk {f:Int} {l:Lt} {g:List Mo} (h:Bv f l g):U0 KK l g=some (Ao l g):=by
 have hN:=Be h.la;have hh:=AQ (R:=List (List Vc)) (body:=fun L x=>Jy KK l g (Ab l) (fun v0 v1=>L (v0,v1)) x.1 x.2) (Ab l) (fun q s=>((q:Int),s)) (fun s v=>bif Ei l g v then s++[A6 l g v] else s) some (fun q s=>s.length≤q)
  (fun L q s hq hi=>by
   refine⟨by cases Ei l g (Ab l)[q]<;>simp<;>omega,?_⟩
   show Jy KK l g (Ab l) (fun v0 v1=>L (v0,v1)) (q:Int) s=_;have hv:Al l (Ab l)[q]=true:=AN (gM hq);obtain⟨x,t,ho,_⟩:=IR h hv;unfold Jy;rw[in1 hq,in0,gd hq];simp only[aS,cT];rw[TK h.la (by have:=h.len;omega) h.good (D6 h.la hv),oB,ho]
   have e1:(decide (0≤(0:Int))&&decide ((0:Int)<(((x :: t:List Vc).length:Nat):Int)))=true:=by
    have:(0:Int)<(((x :: t:List Vc).length:Nat):Int):=by simp only[Aq3];omega
    rw[dT this];rfl
   have e2:((x :: t:List Vc).getD ((0:Int)+(0:Int)).toNat (0,0))=x:=rfl;rw[e1,cT,e2,AdK,HX (by simp;omega),Ak (by omega)]
   have e3:Ei l g (Ab l)[q]=(x==(Ab l)[q]):=by
    unfold Ei;rw[ho];rfl
   rw[e3];cases x==(Ab l)[q]<;>rfl)
  (fun L s hi=>by
   show Jy KK l g (Ab l) (fun v0 v1=>L (v0,v1)) ((Ab l).length:Int) s=_;unfold Jy;rw[AS,cF]) KK 0 [] (by omega) (by simp only[KK];omega) (by simp)
 unfold U0 Ace UZ;rw[Tn h.la,oB];rw[Aqq] at hh;refine Eq.trans hh (congrArg some ?_);rw[DO,AqM];rfl
end Go.Proofs.YteheolldcpjkcaaGreat.X
