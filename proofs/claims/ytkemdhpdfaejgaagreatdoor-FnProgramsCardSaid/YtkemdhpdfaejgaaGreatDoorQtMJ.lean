/- Plain facts: marks written into lists, and marks found again. -/
import Derived.Test.YtkemdhpdfaejgaaGreatDoorQtME
import Derived.Test.YtkemdhpdfaejgaaGreatDoorQzXLib
namespace Go.Proofs.YtkemdhpdfaejgaaGreatDoor.X
open Go
set_option linter.unusedSimpArgs false
set_option linter.unusedVariables false
theorem Nb {X R:Type} {body:(X→Option R)→X→Option R} (n:Nat) (P:Nat→X→Prop) (Q:R→Prop) (h1:∀ L q x,q<n→P q x→∃ x',P (q+1) x'∧body L x=L x') (h2:∀ L x,P n x→∃ r,Q r∧body L x=some r):∀ fuel q x,q≤n→n-q<fuel→P q x→∃ r,Q r∧Ax body fuel x=some r
 | 0,q,x,_,h,_=>by omega
 | fuel+1,q,x,hq,h,hp=>by
  by_cases hlt:q<n
  ·obtain⟨x',hp',e⟩:=h1 (Ax body fuel) q x hlt hp;obtain⟨r,hr,e2⟩:=Nb n P Q h1 h2 fuel (q+1) x' hlt (by omega) hp'
   exact⟨r,hr,by show body (Ax body fuel) x=_;rw[e,e2]⟩
  ·have e:q=n:=by omega
   subst e;exact h2 (Ax body fuel) x hp
def MkI (k:Int) (s:List Int) (n:Nat):Prop:=∀ i,i<n→s[i]? = some (k+(i:Int))
def AAA (k:Int) (s:List Vc) (n:Nat):Prop:=∀ i,i<n→s[i]? = some (k+2*(i:Int),k+1+2*(i:Int))
def SI (s:List Vc):Prop:=s.Pairwise fun a b=>ltV a b=true
theorem EG (a:Vc):ltV a a=false:=DI _
theorem Ii {a b c:Vc} (h:ltV a b=true) (k:ltV b c=true):ltV a c=true:=DJ h k
theorem Nc {a b:Vc} (h:ltV a b=false) (k:ltV b a=false):a=b:=Aka (T8 rfl h k)
theorem Lc {a b:Vc} (h:ltV a b=true):ltV b a=false:=by
 cases hb:ltV b a
 ·rfl
 ·have:=Ii h hb;rw[EG] at this;cases this
theorem Ld:∀ {a b:List Vc},SI a→SI b→(∀ x,x∈a↔x∈b)→a=b
 | [],[],_,_,_=>rfl
 | [],y :: b,_,_,h=>by have:=(h y).2 (by simp);cases this
 | x :: a,[],_,_,h=>by have:=(h x).1 (by simp);cases this
 | x :: a,y :: b,ha,hb,h=>by
  have ha':=ABG.1 ha;have hb':=ABG.1 hb;have e:x=y:=by
   rcases AA4.1 ((h x).1 (by simp)) with e | e
   ·exact e
   ·rcases AA4.1 ((h y).2 (by simp)) with e2 | e2
    ·exact e2.symm
    ·have h1:=hb'.1 x e;have h2:=ha'.1 y e2;rw[Lc h1] at h2;cases h2
  subst e;refine congrArg (x :: ·) (Ld ha'.2 hb'.2 fun z=>⟨fun hz=>?_,fun hz=>?_⟩)
  ·rcases AA4.1 ((h z).1 (by simp[hz])) with e | e
   ·subst e;have:=ha'.1 z hz;rw[EG] at this;cases this
   ·exact e
  ·rcases AA4.1 ((h z).2 (by simp[hz])) with e | e
   ·subst e;have:=hb'.1 z hz;rw[EG] at this;cases this
   ·exact e
def FR (v:Vc):List Vc→List Vc
 | []=>[v]
 | a :: r=>bif ltV a v then a :: FR v r else (bif a==v then a :: r else v :: a :: r)
theorem OB (v:Vc):∀ (s:List Vc) (x:Vc),x∈FR v s↔x=v∨x∈s
 | [],x=>by simp[FR]
 | a :: r,x=>by
  simp only[FR];cases ltV a v
  ·rw[cF];cases h:a==v
   ·rw[cF];simp
   ·rw[cT];have:=beq_iff_eq.1 h;subst this;simp
  ·rw[cT];simp only[AA4,OB v r x];constructor<;>rintro (h | h | h)<;>simp[h]
theorem Ady (v:Vc):∀ {s:List Vc},SI s→SI (FR v s)
 | [],_=>by simp[FR,SI]
 | a :: r,h=>by
  have h':=ABG.1 h;simp only[FR];cases hl:ltV a v
  ·rw[cF];cases he:a==v
   ·rw[cF];have hne:a≠v:=by simpa using he
    have hva:ltV v a=true:=by
     cases hv:ltV v a
     ·exact absurd (Nc hl hv) hne
     ·rfl
    refine ABG.2 ⟨fun b hb=>?_,h⟩;rcases AA4.1 hb with e | e
    ·subst e;exact hva
    ·exact Ii hva (h'.1 b e)
   ·exact h
  ·rw[cT];refine ABG.2 ⟨fun b hb=>?_,Ady v h'.2⟩;rcases (OB v r b).1 hb with e | e
   ·subst e;exact hl
   ·exact h'.1 b e
theorem OD (v:Vc):∀ s:List Vc,(FR v s).length≤s.length+1
 | []=>by simp[FR]
 | a :: r=>by
  have:=OD v r;simp only[FR];cases ltV a v
  ·rw[cF];cases a==v<;>simp
  ·rw[cT];simpa using this
theorem Ao8 (u v:Vc):((u.1==v.1)&&(u.2==v.2))=(u==v):=by
 rw[ABR];simp only[aT,beq_iff_eq,ACM]
theorem HF {s:List Vc} (hs:s.length≤1000000) (v:Vc):∀ (n q:Nat),q≤s.length→s.length-q<n→MF KK s v n (q:Int)=some (s.take q++FR v (s.drop q))
 | 0,q,_,h=>by omega
 | n+1,q,hq,hn=>by
  show S4 KK s v (fun v0=>MF KK s v n v0) (q:Int)=_;have lim1:Nat.ble (0+((s.take ((0:Int)+(q:Int)).toNat).drop 0).length) (lim 16)=true:=Gm (by simp;omega)
  have lim2:Nat.ble (([]++((s.take ((0:Int)+(q:Int)).toNat).drop 0)).length+[v].length) (lim 16)=true:=Gm (by simp;omega)
  have lim3:Nat.ble ((([]++((s.take ((0:Int)+(q:Int)).toNat).drop 0))++[v]).length+((s.take ((0:Int)+(s.length:Int)).toNat).drop ((0:Int)+(q:Int)).toNat).length) (lim 16)=true:=Gm (by simp;omega)
  have c1:(decide (0≤(0:Int))&&true&&decide ((q:Int)≤(s.length:Int)))=true:=by simp;omega
  have c2:(true&&decide ((q:Int)≤(s.length:Int))&&decide ((s.length:Int)≤(s.length:Int)))=true:=by simp;omega
  have fin:(([]++((s.take ((0:Int)+(q:Int)).toNat).drop 0))++[v])++((s.take ((0:Int)+(s.length:Int)).toNat).drop ((0:Int)+(q:Int)).toNat)=s.take q++v :: s.drop q:=by
   have e1:((0:Int)+(q:Int)).toNat=q:=by omega
   have e2:((0:Int)+(s.length:Int)).toNat=s.length:=by omega
   rw[e1,e2];simp
  unfold S4;by_cases hlt:q<s.length
  ·rw[in1 hlt,in0,gd hlt];simp only[nT,ACl,ACw,aS,oT,tO,cT];rw[Ox,oB,Af (by omega),Ao8,dC hlt]
   simp only[FR];cases h1:ltV s[q] v
   ·rw[cF,cF];cases h2:s[q]==v
    ·rw[cF,cF,c1,cT,lim1,cT,lim2,cT,c2,cT,lim3,cT,fin,dC hlt]
    ·simp only[cT];rw[← dC hlt,AC6]
   ·simp only[cT];rw[HF hs v n (q+1) (by omega) (by omega),tS hlt,AA5]
    rfl
  ·have:q=s.length:=by omega
   subst this;rw[AO,in0];simp only[nF,tO,oT,cT,cF,oB];rw[c1,cT,lim1,cT,lim2,cT,c2,cT,lim3,cT,fin];simp[FR]
theorem Ue {s:List Vc} (hs:s.length≤1000000) (v:Vc):V7 KK s v=some (FR v s):=by
 have:=HF hs v KK 0 (by omega) (by simp only[KK];omega)
 unfold V7 YP;exact this.trans (by simp)
def Bc (l:Lt) (g:List Mo) (v:Vc):List Vc:=g.foldl (fun s m=>FR (mvS l m v) s) []
theorem Kg (f:Mo→Vc):∀ (g:List Mo) (s:List Vc),SI s→SI (g.foldl (fun s m=>FR (f m) s) s)∧(∀ x,x∈g.foldl (fun s m=>FR (f m) s) s↔x∈s∨∃ m∈g,x=f m)∧(g.foldl (fun s m=>FR (f m) s) s).length≤s.length+g.length
 | [],s,h=>⟨h,fun x=>by simp,AA9 _⟩
 | m :: g,s,h=>by
  obtain⟨h1,h2,h3⟩:=Kg f g (FR (f m) s) (Ady _ h);refine⟨h1,fun x=>?_,?_⟩
  ·rw[ABy,h2,OB];simp only[AA4,exists_eq_or_imp];constructor
   ·rintro ((h | h) | h)
    ·exact .inr (.inl h)
    ·exact .inl h
    ·exact .inr (.inr h)
   ·rintro (h | h | h)
    ·exact .inl (.inr h)
    ·exact .inl (.inl h)
    ·exact .inr h
  ·rw[ABy];have:=OD (f m) s;rw[ABc];omega
theorem Ij (l:Lt) (g:List Mo) (v:Vc):SI (Bc l g v):=(Kg _ g [] List.Pairwise.nil).1
theorem CI {l:Lt} {g:List Mo} {v x:Vc}:x∈Bc l g v↔∃ m∈g,x=mvS l m v:=by
 have:=(Kg (fun m=>mvS l m v) g [] List.Pairwise.nil).2.1 x;unfold Bc;rw[this];simp
theorem OE (l:Lt) (g:List Mo) (v:Vc):(Bc l g v).length≤g.length:=by
 have:=(Kg (fun m=>mvS l m v) g [] List.Pairwise.nil).2.2;unfold Bc;simpa using this
theorem Xd {l:Lt} (hl:IsL l) {g:List Mo} (hn:g.length≤1000) (hg:∀ m∈g,HE m) {v:Vc} (hv:Sv v):V8 KK l g v=some (Bc l g v):=by
 have h:=AJ (R:=List Vc) (body:=fun L x=>H9 KK l g v (fun v0 v1=>L (v0,v1)) x.1 x.2) g (fun q s=>((q:Int),s)) (fun s m=>FR (mvS l m v) s) some (fun q s=>s.length≤q)
  (fun L q s hq hi=>by
   refine⟨by have:=OD (mvS l g[q] v) s;omega,?_⟩
   show H9 KK l g v (fun v0 v1=>L (v0,v1)) (q:Int) s=_;unfold H9;rw[in1 hq,in0,gd hq];simp only[aS,cT];rw[show (((g[q].1.1,g[q].1.2.1,g[q].1.2.2),g[q].2):Mo)=g[q] from rfl,Xc hl (hg _ (gM hq)) hv,oB,Ue (by omega),oB,Af (by omega)])
  (fun L s hi=>by
   show H9 KK l g v (fun v0 v1=>L (v0,v1)) (g.length:Int) s=_;unfold H9;rw[AO,cF]) KK 0 [] (by omega) (by simp only[KK];omega) (by simp)
 unfold V8 YQ S5;rw[ABb] at h;exact h
theorem AuY (a b:Vc):decide (DY (Dj a) (Dj b)<0)=ltV a b:=by
 have h:=Na (Dj a) (Dj b);unfold ltV;by_cases h0:DY (Dj a) (Dj b)<0
 ·have:decide (DY (Dj a) (Dj b)≥0)=false:=dF (by omega)
  rw[this] at h;rw[dT h0];cases hx:ltL (Dj a) (Dj b)
  ·rw[hx] at h;cases h
  ·rfl
 ·have:decide (DY (Dj a) (Dj b)≥0)=true:=dT (by omega)
  rw[this] at h;rw[dF h0];cases hx:ltL (Dj a) (Dj b)
  ·rfl
  ·rw[hx] at h;cases h
theorem Adz (a b:Vc):LV KK a b=some (DY (Dj a) (Dj b)):=HC a b
theorem OG:(ltOf fun x y=>((fun z7 z8=>LV KK z7 z8) x y:Option Int).getD 0)=ltV:=by
 funext a b;unfold ltOf;simp only[Adz,ACT,AuY]
theorem AtA:Go.Sort.SWO ltV where
 irrefl:=EG
 trans x y z h k:=Ii h k
 ntrans x y z h k:=by
  cases hxz:ltV x z
  ·rfl
  ·cases hyx:ltV y x
   ·have:=Nc h hyx;subst this;rw[hxz] at k;cases k
   ·rw[Ii hyx hxz] at k;cases k
theorem ZN {s:List Vc} (hs:s.length≤1000000):Ac0 KK s (fun z7 z8=>LV KK z7 z8)=some (s.mergeSort fun x y=>!ltV y x):=by
 unfold Ac0 PL;rw[if_pos]
 ·rw[OG]
 ·refine⟨⟨fun x y=>by simp only;rw[Adz];rfl,?_,?_⟩,by omega⟩
  ·rw[OG];exact AtA
  ·rw[OG];exact fun x y h k=>Nc h k
def dd (s:List Vc) (a:Vc):List Vc:=bif s.getLast? == some a then s else s++[a]
theorem Ao9 (s:List Vc) (a:Vc):(dd s a).getLast? = some a:=by
 unfold dd;cases h:s.getLast? == some a
 ·simp
 ·simpa using h
theorem AdA {s:List Vc} {z a:Vc} (h:s.getLast? = some z):dd s a=bif a==z then s else s++[a]:=by
 unfold dd;rw[h];by_cases e:a=z
 ·subst e;simp
 ·have e1:(a==z)=false:=by simpa using e
  have e2:((some z:Option Vc)==some a)=false:=by
   rw[bN];exact fun h=>e (Option.some.inj h).symm
  rw[e1,e2]
theorem AdB:∀ (l s:List Vc),SI s→(∀ a∈s,∀ b∈l,ltV b a=false)→l.Pairwise (fun x y=>(!ltV y x)=true)→SI (l.foldl dd s)∧∀ x,x∈l.foldl dd s↔x∈s∨x∈l
 | [],s,h,_,_=>⟨h,fun x=>by simp⟩
 | a :: l,s,h,h1,h2=>by
  have h2':=ABG.1 h2;have hmem:∀ x,x∈dd s a↔x∈s∨x=a:=by
   intro x;unfold dd;cases hc:s.getLast? == some a
   ·simp
   ·have:a∈s:=List.mem_of_getLast? (by simpa using hc)
    simp only[cT];exact⟨.inl,fun h=>h.elim id fun e=>e▸this⟩
  have hsi:SI (dd s a):=by
   unfold dd;cases hc:s.getLast? == some a
   ·rw[cF];refine ADb.2 ⟨h,by simp,fun b hb c hc'=>?_⟩
    rcases AB3.1 hc' with rfl;have hle:=h1 b hb c (by simp)
    cases hbc:ltV b c
    ·have e:=Nc hbc hle;subst e;exfalso
     -- b stands in s, so it is the last
     obtain⟨z,hz⟩:∃ z,s.getLast? = some z:=by
      cases hs:s.getLast? with
      | none=>rw[List.getLast?_eq_none_iff] at hs;subst hs;cases hb
      | some z=>exact⟨z,rfl⟩
     obtain⟨t,rfl⟩:=List.getLast?_eq_some_iff.1 hz;have hne:z≠b:=fun e=>by subst e;rw[hz] at hc;simp at hc
     rcases AA8.1 hb with e | e
     ·have h3:=(ADb.1 h).2.2 b e z (by simp)
      have h4:=h1 z (by simp) b (by simp)
      rw[h3] at h4;cases h4
     ·exact hne (AB3.1 e).symm
    ·rfl
   ·exact h
  obtain⟨h3,h4⟩:=AdB l (dd s a) hsi (fun x hx b hb=>by
   rcases (hmem x).1 hx with e | e
   ·exact h1 x e b (by simp[hb])
   ·subst e;have:=h2'.1 b hb;simpa using this) h2'.2
  refine⟨h3,fun x=>?_⟩;rw[ABy,h4,hmem];simp only[AA4];constructor
  ·rintro ((h | h) | h)
   ·exact .inl h
   ·exact .inr (.inl h)
   ·exact .inr (.inr h)
  ·rintro (h | h | h)
   ·exact .inl (.inl h)
   ·exact .inl (.inr h)
   ·exact .inr h
theorem Kh (l:List Vc) {p:Nat} (hp:p<l.length):((l.take (p+1)).foldl dd []).getLast? = some l[p]:=by
 rw[tS hp,ADC];exact Ao9 _ _
structure Cm (l:List Vc) (p m:Nat) (s:List Vc):Prop where
 len:s.length=l.length
 lt:m<p
 pl:p≤l.length
 kept:s.take m=(l.take p).foldl dd []
 rest:∀ i,p≤i+1→s[i]? = l[i]?
theorem Jh {l:List Vc} (hl:l.length≤1000000) {k0:Nat}:∀ (n k2 m:Nat) (s:List Vc),1≤k2→Cm l (k0+k2) m s→l.length-(k0+k2)<n→J1 KK l (k0:Int) n (m:Int) (k2:Int) s=some (l.foldl dd [])
 | 0,k2,m,s,_,_,h=>by omega
 | n+1,k2,m,s,hk,hC,hn=>by
  show TF KK l (k0:Int) (fun v0 v1 v2=>J1 KK l (k0:Int) n v0 v1 v2) (m:Int) (k2:Int) s=_;have hlen:=hC.len;have hlt:=hC.lt;have hpl:=hC.pl;unfold TF;by_cases hin:k0+k2<l.length
  ·have d1:decide ((k2:Int)<(((0:Int)+(l.length:Int))-((0:Int)+(k0:Int))))=true:=dT (by omega)
   have e1:w ((k2:Int)-1)=((k2-1:Nat):Int):=by rw[As (by omega) (by omega)];omega
   have d2:decide (((k2-1:Nat):Int)<(((0:Int)+(l.length:Int))-((0:Int)+(k0:Int))))=true:=dT (by omega)
   have i1:(((0:Int)+(k0:Int))+(k2:Int)).toNat=k0+k2:=by omega
   have i2:(((0:Int)+(k0:Int))+((k2-1:Nat):Int)).toNat=k0+k2-1:=by omega
   have i3:((0:Int)+(m:Int)).toNat=m:=by omega
   have g1:s.getD (k0+k2) ((0:Int),(0:Int))=l[k0+k2]:=by
    rw[ABz,hC.rest _ (by omega),AA7 hin];rfl
   have g2:s.getD (k0+k2-1) ((0:Int),(0:Int))=l[k0+k2-1]:=by
    rw[ABz,hC.rest _ (by omega),AA7 (by omega)];rfl
   have d3:decide ((m:Int)<(s.length:Int))=true:=dT (by omega)
   have hlast:(s.take m).getLast? = some l[k0+k2-1]:=by
    rw[hC.kept];have:=Kh l (p:=k0+k2-1) (by omega)
    rw[show k0+k2-1+1=k0+k2 by omega] at this
    exact this
   have htk:(l.take (k0+k2+1)).foldl dd []=dd (s.take m) l[k0+k2]:=by
    rw[tS hin,ADC,← hC.kept];rfl
   have wk:w ((k2:Int)+1)=((k2+1:Nat):Int):=Af (by omega)
   have wm:w ((m:Int)+1)=((m+1:Nat):Int):=Af (by omega)
   rw[d1,in0,e1,in0,d2,i1,i2,i3,g1,g2,d3,in0,wk,wm,Ao8];simp only[aS,cT];cases heq:l[k0+k2]==l[k0+k2-1]
   ·rw[nF,cT];refine Jh hl n (k2+1) (m+1) _ (by omega) ⟨by simp[hlen],by omega,by omega,?_,fun i hi=>?_⟩ (by omega)
    ·rw[show k0+(k2+1)=k0+k2+1 by omega,htk]
     rw[AdA hlast,heq,cF];rw[tS (by simp;omega),List.take_set_of_le (by omega)]
     simp
    ·rw[List.getElem?_set_ne (by omega)]
     exact hC.rest i (by omega)
   ·rw[nT,cF];refine Jh hl n (k2+1) m _ (by omega) ⟨hlen,by omega,by omega,?_,fun i hi=>hC.rest i (by omega)⟩ (by omega)
    rw[show k0+(k2+1)=k0+k2+1 by omega,htk]
    rw[AdA hlast,heq,cT]
  ·have hp:k0+k2=l.length:=by omega
   have d1:decide ((k2:Int)<(((0:Int)+(l.length:Int))-((0:Int)+(k0:Int))))=false:=dF (by omega)
   have c1:(decide (0≤(m:Int))&&decide ((m:Int)≤(s.length:Int))&&decide ((s.length:Int)≤(s.length:Int)))=true:=by simp;omega
   have i3:((0:Int)+(m:Int)).toNat=m:=by omega
   have hcl:m≤(clr s m (((0:Int)+(m:Int))+(((0:Int)+(s.length:Int))-((0:Int)+(m:Int)))).toNat ((0:Int),(0:Int))).length:=by
    unfold clr;simp only[lA,ABv];omega
   have c2:(decide (0≤(0:Int))&&decide ((0:Int)≤(m:Int))&&decide ((m:Int)≤((clr s m (((0:Int)+(m:Int))+(((0:Int)+(s.length:Int))-((0:Int)+(m:Int)))).toNat ((0:Int),(0:Int))).length:Int)))=true:=by
    simp only[aT,dE];omega
   rw[d1,cF,c1,cT,i3,c2,cT];have hk:=hC.kept;rw[hp,AB6] at hk;rw[← hk];unfold clr;rw[AA5,AB8 (by simp;omega),ADV,Nat.min_self]
theorem Mf {l:List Vc} (hl:l.length≤1000000):∀ (n k:Nat),1≤k→k≤l.length→l.take k=(l.take k).foldl dd []→l.length-k<n→MX KK l n (k:Int)=some (l.foldl dd [])
 | 0,k,_,_,_,h=>by omega
 | n+1,k,hk,hkl,ht,hn=>by
  show MW KK l (fun c0 d0 d1 d2=>J1 KK l c0 KK d0 d1 d2) (fun v0=>MX KK l n v0) (k:Int)=_;unfold MW;by_cases hin:k<l.length
  ·have e1:w ((k:Int)-1)=((k-1:Nat):Int):=by rw[As (by omega) (by omega)];omega
   have hk1:k-1<l.length:=by omega
   have c2:(true&&decide ((k:Int)≤(l.length:Int))&&decide ((l.length:Int)≤(l.length:Int)))=true:=by simp;omega
   rw[in1 hin,in0,e1,in0,in1 hk1,gd hin,gd hk1,Ao8,Af (by omega)]
   simp only[aS,cT];have hlast:((l.take k).foldl dd []).getLast? = some l[k-1]:=by
    have:=Kh l (p:=k-1) hk1;rw[show k-1+1=k by omega] at this
    exact this
   have htk:(l.take (k+1)).foldl dd []=dd ((l.take k).foldl dd []) l[k]:=by
    rw[tS hin,ADC];rfl
   cases heq:l[k]==l[k-1]
   ·rw[cF];refine Mf hl n (k+1) (by omega) (by omega) ?_ (by omega)
    rw[htk];rw[AdA hlast,heq,cF,← ht,← tS hin]
   ·rw[cT,c2,cT];refine Jh hl KK 1 k l (by omega) ⟨rfl,by omega,by omega,?_,fun i _=>rfl⟩ (by simp only[KK];omega)
    rw[htk];rw[AdA hlast,heq,cT];exact ht
  ·have:k=l.length:=by omega
   subst this;rw[AO,cF];rw[AB6] at ht;rw[← ht]
theorem ZO {l:List Vc} (hl:l.length≤1000000):WH KK l=some (l.foldl dd []):=by
 unfold WH Zn;by_cases h:l.length<2
 ·rw[dT (by omega),cT]
  match l,h with
  | [],_=>rfl
  | [a],_=>rfl
 ·rw[dF (by omega),cF]
  refine Mf hl KK 1 (by omega) (by omega) ?_ (by simp only[KK];omega)
  obtain⟨a,b,r,rfl⟩:∃ a b r,l=a :: b :: r:=by
   match l,h with
   | a :: b :: r,_=>exact⟨a,b,r,rfl⟩
   | [a],h=>simp at h
   | [],h=>simp at h
  rfl
theorem OH {l:Lt} (hl:IsL l) {g:List Mo} (hn:g.length≤1000) (hg:∀ m∈g,HE m) {v:Vc} (hv:Sv v):Afo KK l g v=some (Bc l g v):=by
 have h:=AJ (R:=List Vc) (body:=fun L x=>K4 KK l g v (fun v0 v1=>L (v0,v1)) x.1 x.2) g (fun q s=>((q:Int),s)) (fun s m=>s++[mvS l m v]) (fun s=>some ((s.mergeSort fun x y=>!ltV y x).foldl dd [])) (fun q s=>s.length=q)
  (fun L q s hq hi=>by
   refine⟨by simp[hi],?_⟩
   show K4 KK l g v (fun v0 v1=>L (v0,v1)) (q:Int) s=_;unfold K4;rw[in1 hq,in0,gd hq];simp only[aS,cT];rw[show (((g[q].1.1,g[q].1.2.1,g[q].1.2.2),g[q].2):Mo)=g[q] from rfl,Akc hl (hg _ (gM hq)) hv,oB,Gm (by simp;omega),cT,Af (by omega)])
  (fun L s hi=>by
   show K4 KK l g v (fun v0 v1=>L (v0,v1)) (g.length:Int) s=_;unfold K4;rw[AO,cF,ZN (by omega),oB,ZO (by rw[List.length_mergeSort];omega),oB]) KK 0 [] (by omega) (by simp only[KK];omega) (by simp)
 unfold Afo AiZ Zo;rw[ABb] at h;refine Eq.trans h (congrArg some ?_);rw[EA,ABi];obtain⟨h1,h2⟩:=AdB ((g.map fun m=>mvS l m v).mergeSort fun x y=>!ltV y x) [] List.Pairwise.nil (fun a ha=>by cases ha) (AEc (fun a b c h k=>by
   simp only[AB7] at h k ⊢;exact AtA.ntrans c b a k h) (fun a b=>by
   cases h:ltV b a
   ·rfl
   ·rw[Lc h];rfl) _)
 refine Ld h1 (Ij l g v) fun x=>?_;rw[h2,CI];simp only[ABV,false_or,List.mem_mergeSort,ABe];exact⟨fun⟨m,hm,e⟩=>⟨m,hm,e.symm⟩,fun⟨m,hm,e⟩=>⟨m,hm,e.symm⟩⟩
theorem AuZ {l:Lt} (h:okL l=true):IsL l:=Bt.1 h
def BN (f:Int) (l:Lt) (g:List Mo) (b:Bool):Int:=if okF f&&okL l then (if b&&EF f l g then 0 else 2) else 1
structure Bj (f:Int) (l:Lt) (g:List Mo):Prop where
 la:IsL l
 pr:Pre f l g
 gr:EF f l g=true
theorem Nd {f:Int} {l:Lt} {g:List Mo} {b:Bool} (h:BN f l g b=0):Bj f l g∧b=true:=by
 unfold BN at h;by_cases h1:(okF f&&okL l)=true
 ·rw[if_pos h1] at h;by_cases h2:(b&&EF f l g)=true
  ·simp only[aT] at h1 h2;refine⟨⟨AuZ h1.2,ZL ?_,h2.2⟩,h2.1⟩;have:=h2.2;unfold EF at this;simp only[aT] at this;exact this.1
  ·rw[if_neg h2] at h;omega
 ·rw[if_neg h1] at h;omega
theorem Bj.good {f:Int} {l:Lt} {g:List Mo} (h:Bj f l g):∀ m∈g,HE m:=fun m hm=>h.pr.good h.la hm
theorem Bj.len {f:Int} {l:Lt} {g:List Mo} (h:Bj f l g):g.length≤768:=h.pr.len h.la
theorem Dm {l:Lt} (hl:IsL l) {u v:Vc}:AX l u=AX l v↔InL l (u.1-v.1,u.2-v.2):=by
 have ha:=hl.a1;have hc:=hl.c1;constructor
 ·intro h;have h1:(u.1-(u.2 / l.2.2)*l.2.1) % l.1=(v.1-(v.2 / l.2.2)*l.2.1) % l.1:=congrArg Prod.fst h;have h2:u.2 % l.2.2=v.2 % l.2.2:=congrArg Prod.snd h;have e1:=AC7 (u.1-(u.2 / l.2.2)*l.2.1) l.1;have e2:=AC7 (v.1-(v.2 / l.2.2)*l.2.1) l.1;have e3:=AC7 u.2 l.2.2;have e4:=AC7 v.2 l.2.2;rw[AB2] at e1 e2 e3 e4;refine⟨(u.1-(u.2 / l.2.2)*l.2.1) / l.1-(v.1-(v.2 / l.2.2)*l.2.1) / l.1,u.2 / l.2.2-v.2 / l.2.2,Prod.ext ?_ ?_⟩
  ·show u.1-v.1=_;rw[ADL,ADL];omega
  ·have e5:=ADL (u.2 / l.2.2) (v.2 / l.2.2) l.2.2;show u.2-v.2=(u.2 / l.2.2-v.2 / l.2.2)*l.2.2;omega
 ·rintro⟨i,j,h⟩
  have h1:u.1-v.1=i*l.1+j*l.2.1:=congrArg Prod.fst h;have h2:u.2-v.2=j*l.2.2:=congrArg Prod.snd h;have e2:u.2=v.2+j*l.2.2:=by omega
  have d:u.2 / l.2.2=v.2 / l.2.2+j:=by rw[e2,Int.add_mul_ediv_right _ _ (by omega)]
  refine Prod.ext ?_ ?_
  ·show (u.1-(u.2 / l.2.2)*l.2.1) % l.1=(v.1-(v.2 / l.2.2)*l.2.1) % l.1;refine Ie ⟨i,?_⟩;rw[d,ACX,AB2 l.1 i];omega
  ·show u.2 % l.2.2=v.2 % l.2.2;exact Ie ⟨j,by rw[AB2];exact h2⟩
theorem Akf (l:Lt):InL l (0,0):=⟨0,0,by simp⟩
theorem Apa {l:Lt} {u:Vc} (hu:InL l u):InL l (-u.1,-u.2):=M8 (El l) hu
theorem Xe (m:Mt) (u v:Vc) (i j:Int):AQ m (i*u.1+j*v.1,i*u.2+j*v.2)=(i*(AQ m u).1+j*(AQ m v).1,i*(AQ m u).2+j*(AQ m v).2):=by
 unfold AQ;refine Prod.ext ?_ ?_<;>simp only[ADv,AC8 m.1,AC8 m.2.1,AC8 m.2.2.1,AC8 m.2.2.2]<;>omega
theorem Akg (m:Mt) (u v:Vc):AQ m (u.1-v.1,u.2-v.2)=((AQ m u).1-(AQ m v).1,(AQ m u).2-(AQ m v).2):=by
 unfold AQ;refine Prod.ext ?_ ?_<;>simp only[AD2]<;>omega
theorem Nf {l:Lt} (hl:IsL l) {m:Mt} (hs:CZ l m=true) {v:Vc} (hv:InL l v):InL l (AQ m v):=by
 unfold CZ at hs;simp only[aT,beq_iff_eq] at hs;have h1:=(FN hl _).1 hs.1;have h2:=(FN hl _).1 hs.2;obtain⟨i,j,rfl⟩:=hv;have e:=Xe m (l.1,0) l.2 i j;have e2:((i*l.1+j*l.2.1,j*l.2.2):Vc)=(i*l.1+j*l.2.1,i*0+j*l.2.2):=by simp
 rw[e2];have e3:AQ m (i*l.1+j*l.2.1,i*0+j*l.2.2)=(i*(AQ m (l.1,0)).1+j*(AQ m l.2).1,i*(AQ m (l.1,0)).2+j*(AQ m l.2).2):=e;rw[e3];have a1:=El l (0,0) _ i (Akf l) h1;have a2:=El l _ _ j a1 h2;simpa using a2
theorem Fc (m n:Mt) (v:Vc):AQ (mmS m n) v=AQ m (AQ n v):=by
 unfold AQ mmS;refine Prod.ext ?_ ?_<;>simp only[ADv,ACX,ADn]<;>omega
theorem DZ (v:Vc):AQ (1,0,0,1) v=v:=by
 unfold AQ;simp
def Akh (m:Mt):Nat→Mt
 | 0=>(1,0,0,1)
 | k+1=>mmS m (Akh m k)
theorem Apb:((pmQ++pmH).all fun m=>(List.range 6).any fun k=>mmS (Akh m k) m==(1,0,0,1))=true:=by decide +kernel
theorem AdC {l:Lt} (hl:IsL l) {m:Mt} (hs:CZ l m=true):∀ (k:Nat) {v:Vc},InL l v→InL l (AQ (Akh m k) v)
 | 0,v,h=>by rw[Akh,DZ];exact h
 | k+1,v,h=>by rw[Akh,Fc];exact Nf hl hs (AdC hl hs k h)
theorem Apc {l:Lt} (hl:IsL l) {m:Mt} (hm:m∈pmQ++pmH) (hs:CZ l m=true) {v:Vc} (h:InL l (AQ m v)):InL l v:=by
 obtain⟨k,_,hk⟩:=AB1.1 (AA3.1 Apb m hm);have:=AdC hl hs k h;rw[← Fc,beq_iff_eq.1 hk,DZ] at this;exact this
theorem Ik {f:Int} {l:Lt} {m:Mt} (h:m∈AU f l):CZ l m=true:=(ABs.1 h).2
theorem AdD (m:Mo) (u v:Vc):((Bl m u).1-(Bl m v).1,(Bl m u).2-(Bl m v).2)=AQ m.1 (u.1-v.1,u.2-v.2):=by
 rw[Akg];unfold Bl;refine Prod.ext ?_ ?_<;>simp only<;>omega
theorem AdE {f:Int} {l:Lt} (hl:IsL l) {m:Mo} (hm:m.1∈AU f l) {u v:Vc} (h:AX l u=AX l v):mvS l m u=mvS l m v:=by
 unfold mvS;rw[Dm hl,AdD];exact Nf hl (Ik hm) ((Dm hl).1 h)
theorem ZP {f:Int} {l:Lt} (hl:IsL l) {m:Mo} (hm:m.1∈AU f l) {u v:Vc} (hu:Ah l u=true) (hv:Ah l v=true) (h:mvS l m u=mvS l m v):u=v:=by
 unfold mvS at h;rw[Dm hl,AdD] at h;have:=(Dm hl).2 (Apc hl (DX hm) (Ik hm) h)
 rwa [BG hl hu,BG hl hv] at this
theorem Gz {l:Lt} (hl:IsL l) (v:Vc):AX l (AX l v)=AX l v:=BG hl (AM hl v)
theorem ZQ {f:Int} {l:Lt} (hl:IsL l) {m n:Mo} (hm:m.1∈AU f l) (v:Vc):mvS l m (mvS l n v)=mvS l (Bi l m n) v:=by
 have h1:mvS l m (mvS l n v)=mvS l m (Bl n v):=AdE hl hm (Gz hl _);rw[h1];unfold mvS Bi;rw[Dm hl];have h2:=(Dm hl).1 (Gz hl (Bl m n.2));have e:((Bl m (Bl n v)).1-(Bl (mmS m.1 n.1,AX l (Bl m n.2)) v).1,(Bl m (Bl n v)).2-(Bl (mmS m.1 n.1,AX l (Bl m n.2)) v).2)=(-((AX l (Bl m n.2)).1-(Bl m n.2).1),-((AX l (Bl m n.2)).2-(Bl m n.2).2)):=by
  have e1:=Fc m.1 n.1 v;generalize hr:AX l (Bl m n.2)=r;unfold Bl;simp only;rw[e1];have e2:AQ m.1 ((AQ n.1 v).1+n.2.1,(AQ n.1 v).2+n.2.2)=((AQ m.1 (AQ n.1 v)).1+(AQ m.1 n.2).1,(AQ m.1 (AQ n.1 v)).2+(AQ m.1 n.2).2):=by
   have:=Xe m.1 (AQ n.1 v) n.2 1 1;simpa using this
  rw[e2];refine Prod.ext ?_ ?_<;>simp only<;>omega
 rw[e];exact Apa h2
theorem ZR {l:Lt} (hl:IsL l) {v:Vc} (hv:Ah l v=true):mvS l uMo v=v:=by
 unfold mvS Bl uMo;simp only;rw[DZ];simp only[ADS];exact BG hl hv
theorem Bj.stab {f:Int} {l:Lt} {g:List Mo} (h:Bj f l g) {m:Mo} (hm:m∈g):m.1∈AU f l:=(h.pr.mem m hm).1
theorem Bj.one {f:Int} {l:Lt} {g:List Mo} (h:Bj f l g):uMo∈g:=by
 have:=h.gr;unfold EF at this;simp only[aT] at this;exact AA6.1 this.2.1
theorem Bj.mul {f:Int} {l:Lt} {g:List Mo} (h:Bj f l g) {m n:Mo} (hm:m∈g) (hn:n∈g):Bi l m n∈g:=by
 have:=h.gr;unfold EF at this;simp only[aT] at this;exact AA6.1 (AA3.1 (AA3.1 this.2.2 m hm) n hn)
theorem CJ {f:Int} {l:Lt} {g:List Mo} (h:Bj f l g) {u v:Vc} (hu:u∈Bc l g v):Ah l u=true:=by
 obtain⟨m,_,rfl⟩:=CI.1 hu;exact AM h.la _
theorem Xf {f:Int} {l:Lt} {g:List Mo} (h:Bj f l g) {v:Vc} (hv:Ah l v=true):v∈Bc l g v:=CI.2 ⟨uMo,h.one,(ZR h.la hv).symm⟩
theorem Db {f:Int} {l:Lt} {g:List Mo} (h:Bj f l g) {u v w:Vc} (hu:u∈Bc l g v) (hw:w∈Bc l g u):w∈Bc l g v:=by
 obtain⟨m,hm,rfl⟩:=CI.1 hu;obtain⟨n,hn,rfl⟩:=CI.1 hw;exact CI.2 ⟨Bi l n m,h.mul hn hm,ZQ h.la (h.stab hn) v⟩
theorem Aki {s:List Vc} (h:SI s):s.Nodup:=List.Pairwise.imp (fun {a b} hab e=>by subst e;rw[EG] at hab;cases hab) h
theorem EH {f:Int} {l:Lt} {g:List Mo} (h:Bj f l g) {u v:Vc} (hv:Ah l v=true) (hu:u∈Bc l g v):v∈Bc l g u:=by
 have hcu:=CJ h hu;obtain⟨m,hm,rfl⟩:=CI.1 hu;have hO:=Xf h hcu
 -- the motion goes round in the orbit
 have hsub:∀ x∈(Bc l g (mvS l m v)).map (mvS l m),x∈Bc l g (mvS l m v):=by
  intro x hx;obtain⟨y,hy,rfl⟩:=ABe.1 hx;exact Db h hy (CI.2 ⟨m,hm,rfl⟩)
 have hnd:((Bc l g (mvS l m v)).map (mvS l m)).Nodup:=by
  refine ACo.2 (ACO (fun {a b} ha hb hab e=>hab ?_) (Aki (Ij l g (mvS l m v))));exact ZP h.la (h.stab hm) (CJ h ha) (CJ h hb) e
 have hall:=Me (Bc l g (mvS l m v)) ((Bc l g (mvS l m v)).map (mvS l m)) hnd (fun x hx=>hsub x hx) (by simp)
 obtain⟨y,hy,e⟩:=ABe.1 (hall _ hO);have:=ZP h.la (h.stab hm) (CJ h hy) hv e;rw[this] at hy;exact hy
theorem Akj {f:Int} {l:Lt} {g:List Mo} (h:Bj f l g) {u v:Vc} (hv:Ah l v=true) (hu:u∈Bc l g v):Bc l g u=Bc l g v :=
 Ld (Ij l g u) (Ij l g v) fun x=>⟨fun hx=>Db h hu hx,fun hx=>Db h (EH h hv hu) hx⟩
def EX (l:Lt) (g:List Mo) (v:Vc):Bool:=(Bc l g v).headD (0,0)==v
theorem Ki {f:Int} {l:Lt} {g:List Mo} (h:Bj f l g) {v:Vc} (hv:Ah l v=true):∃ w t,Bc l g v=w :: t∧(w=v∨ltV w v=true):=by
 have hs:=Xf h hv;have hi:=Ij l g v;cases ho:Bc l g v with
 | nil=>rw[ho] at hs;cases hs
 | cons w t =>
  refine⟨w,t,rfl,?_⟩;rw[ho] at hs hi;rcases AA4.1 hs with e | e
  ·exact .inl e.symm
  ·exact .inr ((ABG.1 hi).1 v e)
theorem Akk {f:Int} {l:Lt} {g:List Mo} (h:Bj f l g) {v:Vc} (hv:Ah l v=true):∃ w,EX l g w=true∧Ah l w=true∧v∈Bc l g w∧(w=v∨ltV w v=true):=by
 obtain⟨w,t,ho,hw⟩:=Ki h hv;have hwo:w∈Bc l g v:=by rw[ho];simp
 refine⟨w,?_,CJ h hwo,EH h hv hwo,hw⟩;unfold EX;rw[Akj h hv hwo,ho];simp
theorem AdF {f:Int} {l:Lt} {g:List Mo} (h:Bj f l g) {v w:Vc} (hv:Ah l v=true) (hr:EX l g v=true) (hw:w∈Bc l g v):w=v∨ltV v w=true:=by
 obtain⟨x,t,ho,_⟩:=Ki h hv;unfold EX at hr;rw[ho] at hr hw;have:x=v:=by simpa using hr
 subst this;rcases AA4.1 hw with e | e
 ·exact .inl e
 ·have hi:=Ij l g x;rw[ho] at hi;exact .inr ((ABG.1 hi).1 w e)
theorem Uf {f:Int} {l:Lt} {g:List Mo} (h:Bj f l g) {u v:Vc} (hu:Ah l u=true) (hv:Ah l v=true) (h1:EX l g u=true) (h2:EX l g v=true) (h3:v∈Bc l g u):u=v:=by
 rcases AdF h hu h1 h3 with e | e
 ·exact e.symm
 ·rcases AdF h hv h2 (EH h hu h3) with e2 | e2
  ·exact e2
  ·rw[Lc e] at e2;cases e2
def GT (l:Lt) (g:List Mo):List Vc:=(Aa l).filter (EX l g)
def AE (l:Lt) (g:List Mo):List (List Vc):=(GT l g).map (Bc l g)
theorem FS {l:Lt} (hl:IsL l) {v:Vc} (hv:Ah l v=true):Qi KK l v=some ((A8 l v:Nat):Int):=by
 unfold Qi;have:=(EB hl v).1;rw[BG hl hv] at this;rw[this]
theorem Akl {n:Int} (h1:0≤n) (h2:n<18446744073709551616):IntKind.u64.wrap n=n:=by
 rw[IntKind.wrap_u64];omega
theorem Mg {n:Nat} (hn:n≤1000) {a0:List Int} {a1:Int} {y1:Int×Int}:∀ (k q:Nat) (s:List Int),s.length=n→1≤q→q≤n→s.take q=List.replicate q (-1)→n-q<k→MV KK a0 a1 y1 k (q:Int) s=some (List.replicate n (-1))
 | 0,q,s,_,_,_,_,h=>by omega
 | k+1,q,s,hs,hq,hqn,ht,hk=>by
  show TC KK a0 a1 y1 (fun v0 v1=>MV KK a0 a1 y1 k v0 v1) (q:Int) s=_;unfold TC;by_cases hlt:q<n
  ·obtain⟨c,hc1,hc2,hc3,hc⟩:∃ c:Nat,1≤c∧c≤q∧q+c≤n∧(bif decide ((((0:Int)+(s.length:Int))-((0:Int)+(q:Int)))≤(((0:Int)+(q:Int))-(0:Int))) then (((0:Int)+(s.length:Int))-((0:Int)+(q:Int))) else (((0:Int)+(q:Int))-(0:Int)))=(c:Int):=by
    rw[hs];by_cases h:n-q≤q
    ·exact⟨n-q,by omega,by omega,by omega,by rw[dT (by omega),cT];omega⟩
    ·exact⟨q,by omega,by omega,by omega,by rw[dF (by omega),cF];omega⟩
   rw[hc];have d1:decide ((q:Int)<(s.length:Int))=true:=dT (by omega)
   have d2:(decide (0≤(q:Int))&&decide ((q:Int)≤(s.length:Int))&&decide ((s.length:Int)≤(s.length:Int)))=true:=by simp;omega
   have d3:(decide (0≤(0:Int))&&decide ((0:Int)≤(q:Int))&&decide ((q:Int)≤(s.length:Int)))=true:=by simp;omega
   have i1:((0:Int)+(q:Int)).toNat=q:=by omega
   have i2:((0:Int)+(((0:Int)+(q:Int))-(0:Int))).toNat=q:=by omega
   have i3:((c:Int)).toNat=c:=by omega
   rw[d1,cT,d2,cT,d3,cT,i1,i2,i3,As (n:=(q:Int)+(c:Int)) (by omega) (by omega),ABb,ht]
   have e:((q:Int)+(c:Int))=((q+c:Nat):Int):=by omega
   rw[e];refine Mg hn k (q+c) _ ?_ (by omega) hc3 ?_ (by omega)
   ·simp only[lA,ACt,ABv,ADh];omega
   ·rw[List.take_replicate,ADO hc2,List.replicate_append_replicate,AB8 (by simp),List.take_replicate,Nat.min_self]
  ·have:q=n:=by omega
   subst this;rw[dF (by omega),cF,← ht,← hs,AB6]
theorem AfM {n:Nat} (h1:1≤n) (hn:n≤1000):WE KK [(-1:Int)] (n:Int)=some (List.replicate n (-1)):=by
 unfold WE Zk AiT AmK;have e1:IntKind.u64.wrap ((([(-1:Int)]:List Int).length:Nat):Int)=1:=by
  rw[Akl (by simp) (by simp)]
  rfl
 have e2:IntKind.u64.wrap (n:Int)=(n:Int):=Akl (by omega) (by omega)
 rw[dF (by omega),cF,e1,e2,if_pos (by omega)]
 simp only[oB];have e3:(1:Int)*(n:Int) / 18446744073709551616=0:=by omega
 have e4:(1:Int)*(n:Int) % 18446744073709551616=(n:Int):=by omega
 rw[e3,e4,dF (by omega),dF (show ¬ ((n:Int)>9223372036854775807) by omega),As (n:=(n:Int)) (by omega) (by omega)]
 have e5:((n:Int)).toNat=n:=by omega
 have e6:(decide (0≤(n:Int))&&Nat.ble ((n:Int)).toNat (lim 8)&&((n:Int)==(n:Int)))=true:=by
  rw[in0,e5,GR (by omega)]
  simp
 simp only[nF,nT,ACl,ACw,oT,tO,cT,cF];rw[e6,cT,e5];have e7:(bif decide ((((List.replicate n (0:Int)).length:Nat):Int)≤(([(-1:Int)]:List Int).length:Int)) then (((List.replicate n (0:Int)).length:Nat):Int) else (([(-1:Int)]:List Int).length:Int))=((1:Nat):Int):=by
  rw[ACt];by_cases h:n=1
  ·subst h;rfl
  ·rw[dF (by simp;omega),cF];rfl
 rw[e7];refine Mg hn KK 1 _ ?_ (by omega) h1 ?_ (by simp only[KK];omega)
 ·simp only[lA,ABv,ADh,ACt,ACU,ABm];simp;omega
 ·simp
theorem Rr {l:Lt} (hl:IsL l) {v:Vc} (hv:Ah l v=true):(A8 l v:Int)=v.1*l.2.2+v.2:=by
 have h:=Bk.1 hv;have e1:0≤v.1*l.2.2:=ACS h.1.1 (by have:=hl.c1;omega)
 unfold A8;rw[BG hl hv];omega
theorem Au0 {l:Lt} (hl:IsL l) {u v:Vc} (hu:Ah l u=true) (hv:Ah l v=true) (h:ltV u v=true):A8 l u<A8 l v:=by
 have h1:=Rr hl hu;have h2:=Rr hl hv;have b1:=Bk.1 hu;have b2:=Bk.1 hv;have:(u.1=v.1∧u.2<v.2)∨u.1<v.1:=by
  unfold ltV Dj ltL at h;by_cases e:u.1=v.1
  ·have e1:(u.1==v.1)=true:=by simpa using e
   rw[e1,cT] at h;unfold ltL at h;by_cases e2:u.2=v.2
   ·have e3:(u.2==v.2)=true:=by simpa using e2
    rw[e3,cT] at h;cases h
   ·have e3:(u.2==v.2)=false:=by simpa using e2
    rw[e3,cF,dE] at h;exact .inl ⟨e,h⟩
  ·have e1:(u.1==v.1)=false:=by simpa using e
   rw[e1,cF,dE] at h;exact .inr h
 rcases this with ⟨e1,e2⟩ | e
 ·rw[e1] at h1;omega
 ·have h3:u.1+1≤v.1:=by omega
  have h4:(u.1+1)*l.2.2≤v.1*l.2.2:=AB5 h3 (by have:=hl.c1;omega)
  rw[ACX] at h4;omega
theorem Ug {l:Lt} (hl:IsL l) {v:Vc} (hv:Ah l v=true):(Aa l)[A8 l v]? = some v:=by
 have h:=Ck hl v;rw[AA7 h];congr 1;have hm:(Aa l)[A8 l v]∈Aa l:=gM h;have hc:=Ci hm;exact Adx hl (Bk.2 (by omega)) hv (Bb hl h)
theorem Ay {l:Lt} {v:Vc} (h:v∈Aa l):Ah l v=true:=by
 have:=Ci h;exact Bk.2 (by omega)
theorem Rs {l:Lt} (hl:IsL l) {q:Nat} (hq:q≤(Aa l).length) {v:Vc}:v∈(Aa l).take q↔Ah l v=true∧A8 l v<q:=by
 constructor
 ·intro h;obtain⟨i,hi,rfl⟩:=ACc h;rw[ABv] at hi;rw[ADD];have hi2:i<(Aa l).length:=by omega
  exact⟨Ay (gM hi2),by rw[Bb hl hi2];omega⟩
 ·rintro⟨h1,h2⟩
  have h3:=Ug hl h1;refine ABt (i:=A8 l v) ?_;rw[ABS,if_pos h2,h3]
theorem AfN {α:Type} {p:α→Bool} {C:List α} (h:C.any p=false):C1 p 0 C = -1:=by
 rcases FO p C 0 with ⟨h1,_⟩ | ⟨k,h1,_,_,a,h4,h5⟩
 ·exact h1
 ·rw[ADE] at h;exact absurd h5 (h a (ABt h4))
theorem OI {α:Type} (p:α→Bool):∀ (C D:List α) (q:Nat),C1 p q (C++D)=bif C.any p then C1 p q C else C1 p (q+C.length) D
 | [],D,q=>by simp
 | a :: C,D,q=>by
  have ih:=OI p C D (q+1);simp only[AB0,C1,AD7,ABc];cases h:p a
  ·rw[cF,cF,ACl,ih];have e:q+1+C.length=q+(C.length+1):=by omega
   rw[e]
  ·rfl
def Cn (l:Lt) (i:Int) (o:List Vc) (s:List Int):List Int:=o.foldl (fun s u=>s.set (A8 l u) i) s
theorem C8 (l:Lt) (i:Int):∀ (o:List Vc) (s:List Int),(Cn l i o s).length=s.length
 | [],_=>rfl
 | u :: o,s=>by
  show (Cn l i o (s.set (A8 l u) i)).length=_;rw[C8 l i o,ACg]
theorem EI {l:Lt} (hl:IsL l) (i:Int) {u:Vc} (hu:Ah l u=true):∀ (o:List Vc) (s:List Int),(∀ x∈o,Ah l x=true)→A8 l u<s.length→(Cn l i o s)[A8 l u]? = if u∈o then some i else s[A8 l u]?
 | [],s,_,_=>by simp[Cn]
 | x :: o,s,ho,hs=>by
  show (Cn l i o (s.set (A8 l x) i))[A8 l u]? = _;rw[EI hl i hu o _ (fun y hy=>ho y (by simp[hy])) (by rw[ACg];exact hs)]
  by_cases h1:u∈o
  ·rw[if_pos h1,if_pos (by simp[h1])]
  ·rw[if_neg h1];by_cases h2:u=x
   ·subst h2;rw[if_pos (by simp),List.getElem?_set_self hs]
   ·rw[if_neg (by simp[h1,h2]),List.getElem?_set_ne (fun e=>h2 (Adx hl hu (ho x (by simp)) e.symm))]
def C2 (l:Lt) (g:List Mo) (q:Nat):List (List Vc):=(((Aa l).take q).filter (EX l g)).map (Bc l g)
theorem OJ {f:Int} {l:Lt} {g:List Mo} (h:Bj f l g) {q:Nat} (hq:q≤(Aa l).length) {u:Vc}:(C2 l g q).any (fun o=>o.contains u)=true↔∃ r,Ah l r=true∧A8 l r<q∧EX l g r=true∧u∈Bc l g r:=by
 unfold C2;rw[AB1];constructor
 ·rintro⟨o,ho,hu⟩
  obtain⟨r,hr,rfl⟩:=ABe.1 ho;obtain⟨h1,h2⟩:=ABs.1 hr;obtain⟨h3,h4⟩:=(Rs h.la hq).1 h1;exact⟨r,h3,h4,h2,AA6.1 hu⟩
 ·rintro⟨r,h1,h2,h3,h4⟩
  exact⟨_,ABe.2 ⟨r,ABs.2 ⟨(Rs h.la hq).2 ⟨h1,h2⟩,h3⟩,rfl⟩,AA6.2 h4⟩
theorem Akm {f:Int} {l:Lt} {g:List Mo} (h:Bj f l g) {q:Nat} (hq:q<(Aa l).length):(C2 l g q).any (fun o=>o.contains (Aa l)[q])=!EX l g (Aa l)[q]:=by
 have hv:Ah l (Aa l)[q]=true:=Ay (gM hq);have hn:=Bb h.la hq;cases hr:EX l g (Aa l)[q]
 ·rw[nF];refine (OJ h (by omega)).2 ?_
  obtain⟨w,h1,h2,h3,h4⟩:=Akk h hv;refine⟨w,h2,?_,h1,h3⟩;rcases h4 with e | e
  ·rw[e,hr] at h1;cases h1
  ·have:=Au0 h.la h2 hv e;omega
 ·rw[nT];cases hx:(C2 l g q).any (fun o=>o.contains (Aa l)[q])
  ·rfl
  ·obtain⟨r,h1,h2,h3,h4⟩:=(OJ h (by omega)).1 hx
   have:=Uf h h1 hv h3 hr h4;rw[this,hn] at h2;omega
theorem Il {l:Lt} {g:List Mo} {q:Nat} (hq:q<(Aa l).length):C2 l g (q+1)=bif EX l g (Aa l)[q] then C2 l g q++[Bc l g (Aa l)[q]] else C2 l g q:=by
 unfold C2;rw[tS hq,ADr,ADM];cases hr:EX l g (Aa l)[q]<;>simp[hr]
theorem Akn (l:Lt) (g:List Mo) (q:Nat):(C2 l g q).length≤q:=by
 unfold C2;rw[ABf];refine ABo (ACs _ _) ?_;simp[ABv];omega
theorem Ako {f:Int} {l:Lt} {g:List Mo} (h:Bj f l g) {q:Nat} (hq:q<(Aa l).length) (hr:EX l g (Aa l)[q]=true) {u:Vc} (hu:Ah l u=true) :
  C1 (fun o=>o.contains u) 0 (C2 l g q++[Bc l g (Aa l)[q]])=if u∈Bc l g (Aa l)[q] then ((C2 l g q).length:Int) else C1 (fun o=>o.contains u) 0 (C2 l g q):=by
 have hv:Ah l (Aa l)[q]=true:=Ay (gM hq);rw[OI];by_cases hm:u∈Bc l g (Aa l)[q]
 ·rw[if_pos hm];have hno:¬ (C2 l g q).any (fun o=>o.contains u)=true:=by
   intro hx;obtain⟨r,h1,h2,h3,h4⟩:=(OJ h (by omega)).1 hx
   have h5:(Aa l)[q]∈Bc l g r:=Db h h4 (EH h hv hm);have h6:=Uf h h1 hv h3 hr h5;rw[h6,Bb h.la hq] at h2;omega
  have hno:(C2 l g q).any (fun o=>o.contains u)=false:=by simpa using hno
  rw[hno,cF];simp only[C1,AA6.2 hm,cT];omega
 ·rw[if_neg hm];by_cases hx:(C2 l g q).any (fun o=>o.contains u)=true
  ·rw[hx,cT]
  ·have hx:(C2 l g q).any (fun o=>o.contains u)=false:=by simpa using hx
   rw[hx,cF,AfN hx];have:(Bc l g (Aa l)[q]).contains u=false:=by
    cases hc:(Bc l g (Aa l)[q]).contains u
    ·rfl
    ·exact absurd (AA6.1 hc) hm
   simp only[C1,this,cF]
def AP (l:Lt) (g:List Mo):List Int:=(Aa l).map fun v=>C1 (fun o=>o.contains v) 0 (AE l g)
theorem OK (l:Lt) (g:List Mo):C2 l g (Aa l).length=AE l g:=by
 unfold C2 AE GT;rw[AB6]
structure Num (l:Lt) (g:List Mo) (q:Nat) (s:List Int):Prop where
 len:s.length=(Aa l).length
 get:∀ u,Ah l u=true→s[A8 l u]? = some (C1 (fun o=>o.contains u) 0 (C2 l g q))
theorem Num.all {l:Lt} (hl:IsL l) {g:List Mo} {s:List Int} (h:Num l g (Aa l).length s):s=AP l g:=by
 apply ACi
 intro k;unfold AP;rw[ABn];by_cases hk:k<(Aa l).length
 ·have hc:Ah l (Aa l)[k]=true:=Ay (gM hk);have:=h.get _ hc;rw[Bb hl hk,OK] at this;rw[this,AA7 hk];rfl
 ·rw[ABu (by rw[h.len];omega),ABu (by omega)]
  rfl
theorem AfO {f:Int} {l:Lt} {g:List Mo} (h:Bj f l g) {q17:Int} {C:List (List Vc)} {q19 y:List Vc→Int→List Int} {s0:List Int} {y3:List Vc} {y20:Int} {o:List Vc} (ho:∀ u∈o,Ah l u=true) (hol:o.length≤768) (hC:C.length≤1000) {L:Int→List (List Vc)→List Int→Option (List (List Vc)×List Int)} {s:List Int} (hs:s.length=(Aa l).length) :
  Hu KK l g q17 C s0 y3 y20 o L KK 0 s=L (w (q17+1)) (C++[o]) (Cn l (C.length:Int) o s):=by
 have hh:=AJ (R:=List (List Vc)×List Int) (body:=fun L' x=>FI KK l g q17 C s0 y3 y20 o L (fun v0 v1=>L' (v0,v1)) x.1 x.2) o (fun q s=>((q:Int),s)) (fun s u=>s.set (A8 l u) (C.length:Int)) (fun s=>L (w (q17+1)) (C++[o]) s) (fun q s=>s.length=(Aa l).length)
  (fun L' q s hq hi=>by
   refine⟨by rw[ACg];exact hi,?_⟩
   show FI KK l g q17 C s0 y3 y20 o L (fun v0 v1=>L' (v0,v1)) (q:Int) s=_;unfold FI;have hlt:=Ck h.la o[q];rw[in1 hq,in0,gd hq];simp only[aS,cT];rw[FS h.la (ho _ (gM hq)),oB,in0,in1 (show A8 l o[q]<s.length by omega),Af (by omega)]
   have e1:((0:Int)+((A8 l o[q]:Nat):Int)).toNat=A8 l o[q]:=by omega
   simp only[aS,cT,e1])
  (fun L' s hi=>by
   show FI KK l g q17 C s0 y3 y20 o L (fun v0 v1=>L' (v0,v1)) (o.length:Int) s=_;unfold FI;rw[AO,cF,OA (by simp;omega),cT]) KK 0 s (by omega) (by simp only[KK];omega) hs
 unfold Hu;rw[ABb] at hh;exact hh
theorem Xg {f:Int} {l:Lt} {g:List Mo} (h:Bj f l g):WJ KK l g=some (AE l g,AP l g):=by
 have hN:=AK h.la;have hN1:1≤(Aa l).length:=by
  have:=Ck h.la (0,0);omega
 obtain⟨r,⟨hr1,hr2⟩,hh⟩:=Nb (X:=Int×List (List Vc)×List Int) (R:=List (List Vc)×List Int) (body:=fun L x=>Df KK l g (Aa l) (fun c0 c1 c2 c3 c4 d0 d1=>Hu KK l g c0 c1 c2 (Aa l) c3 c4 (fun v0 v1 v2=>L (v0,v1,v2)) KK d0 d1) (fun v0 v1 v2=>L (v0,v1,v2)) x.1 x.2.1 x.2.2) (Aa l).length
  (fun q x=>x.1=(q:Int)∧x.2.1=C2 l g q∧Num l g q x.2.2) (fun r=>r.1=AE l g∧r.2=AP l g)
  (fun L q x hq hP=>by
   obtain⟨c,C,s⟩:=x;obtain⟨rfl,rfl,hNm⟩:=hP;simp only at hNm;have hv:Ah l (Aa l)[q]=true:=Ay (gM hq);have hn:=Bb h.la hq;have hsl:=hNm.len;have hg:=hNm.get _ hv;rw[hn] at hg;have hgd:s.getD ((0:Int)+(q:Int)).toNat 0=C1 (fun o=>o.contains (Aa l)[q]) 0 (C2 l g q):=by
    have e1:((0:Int)+(q:Int)).toNat=q:=by omega
    rw[e1,ABz,hg];rfl
   have hbody:∀ (I:Int→List (List Vc)→List Int→Int→List Vc→Int→List Int→Option (List (List Vc)×List Int)) (L':Int→List (List Vc)→List Int→Option (List (List Vc)×List Int)),Df KK l g (Aa l) I L' (q:Int) (C2 l g q) s=bif EX l g (Aa l)[q] then I (q:Int) (C2 l g q) s (q:Int) (Bc l g (Aa l)[q]) 0 s else L' ((q+1:Nat):Int) (C2 l g q) s:=by
    intro I L';unfold Df;rw[in1 hq,in0,gd hq];simp only[aS,cT];rw[FS h.la hv,oB,hn,in0,in1 (show q<s.length by omega),hgd,FQ,Akm h hq,Af (by omega)]
    simp only[aS,cT];rw[OH h.la (by have:=h.len;omega) h.good (EE h.la hv),oB]
    cases EX l g (Aa l)[q]<;>rfl
   cases hrp:EX l g (Aa l)[q]
   ·refine⟨(((q+1:Nat):Int),C2 l g q,s),⟨rfl,?_,⟨hsl,fun u hu=>?_⟩⟩,?_⟩
    ·rw[Il hq,hrp];rfl
    ·rw[Il hq,hrp];exact hNm.get u hu
    ·show Df KK l g (Aa l) _ _ (q:Int) (C2 l g q) s=_;rw[hbody,hrp];rfl
   ·refine⟨(((q+1:Nat):Int),C2 l g q++[Bc l g (Aa l)[q]],Cn l ((C2 l g q).length:Int) (Bc l g (Aa l)[q]) s),⟨rfl,?_,⟨by rw[C8];exact hsl,fun u hu=>?_⟩⟩,?_⟩
    ·rw[Il hq,hrp];rfl
    ·rw[Il hq,hrp,cT,Ako h hq hrp hu,EI h.la _ hu _ _ (fun x hx=>CJ h hx) (by rw[hsl];exact Ck h.la u)]
     by_cases hm:u∈Bc l g (Aa l)[q]
     ·rw[if_pos hm,if_pos hm]
     ·rw[if_neg hm,if_neg hm];exact hNm.get u hu
    ·show Df KK l g (Aa l) _ _ (q:Int) (C2 l g q) s=_;rw[hbody,hrp,cT,AfO h (q19:=fun _ _=>[]) (y:=fun _ _=>[]) (fun u hu=>CJ h hu) (by have:=OE l g (Aa l)[q];have:=h.len;omega) (by have:=Akn l g q;omega) hsl,Af (by omega)])
  (fun L x hP=>by
   obtain⟨c,C,s⟩:=x;obtain⟨rfl,rfl,hNm⟩:=hP;refine⟨(C2 l g (Aa l).length,s),⟨OK l g,hNm.all h.la⟩,?_⟩;show Df KK l g (Aa l) _ _ ((Aa l).length:Int) (C2 l g (Aa l).length) s=_;unfold Df;rw[AO,cF]) KK 0 (0,[],List.replicate (Aa l).length (-1)) (by omega) (by simp only[KK];omega)
  ⟨rfl,rfl,⟨by simp,fun u hu=>by
   rw[ACd,if_pos (Ck h.la u)];rfl⟩⟩
 unfold WJ Zp Ts;simp only[oB];rw[Ake h.la,AfM hN1 (by omega),oB,J6 h.la,oB]
 refine hh.trans ?_;rw[← hr1,← hr2]
theorem Kj {f:Int} {l:Lt} {g:List Mo} (h:Bj f l g):Afe KK l g=some (AE l g):=by
 have hN:=AK h.la;have hh:=AJ (R:=List (List Vc)) (body:=fun L x=>K2 KK l g (Aa l) (fun v0 v1=>L (v0,v1)) x.1 x.2) (Aa l) (fun q s=>((q:Int),s)) (fun s v=>bif EX l g v then s++[Bc l g v] else s) some (fun q s=>s.length≤q)
  (fun L q s hq hi=>by
   refine⟨by cases EX l g (Aa l)[q]<;>simp<;>omega,?_⟩
   show K2 KK l g (Aa l) (fun v0 v1=>L (v0,v1)) (q:Int) s=_;have hv:Ah l (Aa l)[q]=true:=Ay (gM hq);obtain⟨x,t,ho,_⟩:=Ki h hv;unfold K2;rw[in1 hq,in0,gd hq];simp only[aS,cT];rw[Xd h.la (by have:=h.len;omega) h.good (EE h.la hv),oB,ho]
   have e1:(decide (0≤(0:Int))&&decide ((0:Int)<(((x :: t:List Vc).length:Nat):Int)))=true:=by
    have:(0:Int)<(((x :: t:List Vc).length:Nat):Int):=by simp only[ABc];omega
    rw[dT this];rfl
   have e2:((x :: t:List Vc).getD ((0:Int)+(0:Int)).toNat (0,0))=x:=rfl;rw[e1,cT,e2,Ao8,OA (by simp;omega),Af (by omega)]
   have e3:EX l g (Aa l)[q]=(x==(Aa l)[q]):=by
    unfold EX;rw[ho];rfl
   rw[e3];cases x==(Aa l)[q]<;>rfl)
  (fun L s hi=>by
   show K2 KK l g (Aa l) (fun v0 v1=>L (v0,v1)) ((Aa l).length:Int) s=_;unfold K2;rw[AO,cF]) KK 0 [] (by omega) (by simp only[KK];omega) (by simp)
 unfold Afe AhP YR;rw[Da h.la,oB];rw[ABb] at hh;refine Eq.trans hh (congrArg some ?_);rw[Dh,ABi];rfl
end Go.Proofs.YtkemdhpdfaejgaaGreatDoor.X
