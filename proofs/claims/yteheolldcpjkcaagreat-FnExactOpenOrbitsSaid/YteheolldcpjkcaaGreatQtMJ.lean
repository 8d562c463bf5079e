/- Plain facts: marks written into lists, and marks found again. -/
import Derived.Test.YteheolldcpjkcaaGreatQtME
import Derived.Test.YteheolldcpjkcaaGreatQzXLib
namespace Go.Proofs.YteheolldcpjkcaaGreat.X
open Go
set_option linter.unusedSimpArgs false
set_option linter.unusedVariables false
theorem GT {X R:Type} {body:(X→Option R)→X→Option R} (n:Nat) (P:Nat→X→Prop) (Q:R→Prop) (h1:∀ L q x,q<n→P q x→∃ x',P (q+1) x'∧body L x=L x') (h2:∀ L x,P n x→∃ r,Q r∧body L x=some r):∀ fuel q x,q≤n→n-q<fuel→P q x→∃ r,Q r∧AL body fuel x=some r
 | 0,q,x,_,h,_=>by omega
 | fuel+1,q,x,hq,h,hp=>by
  by_cases hlt:q<n
  ·obtain⟨x',hp',e⟩:=h1 (AL body fuel) q x hlt hp;obtain⟨r,hr,e2⟩:=GT n P Q h1 h2 fuel (q+1) x' hlt (by omega) hp'
   exact⟨r,hr,by show body (AL body fuel) x=_;rw[e,e2]⟩
  ·have e:q=n:=by omega
   subst e;exact h2 (AL body fuel) x hp
def MkI (k:Int) (s:List Int) (n:Nat):Prop:=∀ i,i<n→s[i]? = some (k+(i:Int))
def AaD (k:Int) (s:List Vc) (n:Nat):Prop:=∀ i,i<n→s[i]? = some (k+2*(i:Int),k+1+2*(i:Int))
theorem Nz (l:List Vc) {k:Int} (hk:0≤k) (hk2:k≤1000000000) (hl:l.length≤1048576):∃ r:List Vc×Int,(r.2=k+2*(l.length:Int)∧r.1.length=l.length∧AaD k r.1 l.length)∧Xr KK l k=some r:=by
 unfold Xr Xq Q9;refine GT (X:=Int×Int×List Vc) (R:=List Vc×Int) l.length (fun q x=>x.1=k+2*(q:Int)∧x.2.1=(q:Int)∧x.2.2.length=l.length∧AaD k x.2.2 q) _ ?_ ?_ KK 0 (k,0,l) (by omega) (by simp only[KK];omega) ⟨by simp,by simp,rfl,fun i hi=>by omega⟩
 ·rintro L q ⟨x1,x2,s⟩ hq ⟨e1,e2,e3,e4⟩
  simp only at e1 e2 e3 e4;subst e2;have hq2:q<s.length:=by omega
  refine⟨(x1+2,((q+1:Nat):Int),s.set q (x1,x1+1)),⟨by simp only;omega,rfl,by simp[e3],fun i hi=>?_⟩,?_⟩
  ·simp only;by_cases h:i=q
   ·subst h;rw[AjI (by omega),e1]
    congr 2;omega
   ·rw[Aj7 (by omega)];exact e4 i (by omega)
  ·unfold Nf;have hz:((0:Int)+(q:Int)).toNat=q:=by omega
   rw[in1 hq2,in0,As (by omega),Az (n:=x1+1) (by omega) (by omega),Az (n:=x1+1+1) (by omega) (by omega),hz,Ajd,in1 hq2,List.set_set]
   simp only[aS,cT];have e2:∀ d:Vc,((s.set q (x1,(s.getD q d).2)).getD q d).1=x1:=by
    intro d;simp[List.getD,hq2]
   rw[e2];have e5:x1+1+1=x1+2:=by omega
   rw[e5]
 ·rintro L ⟨x1,x2,s⟩ ⟨e1,e2,e3,e4⟩
  simp only at e1 e2 e3 e4;subst e2;refine⟨(s,x1),⟨e1,e3,e4⟩,?_⟩;show Nf KK (fun v0 v1 v2=>L (v0,v1,v2)) x1 (l.length:Int) s=_;unfold Nf;rw[show decide ((l.length:Int)<(s.length:Int))=false by simp;omega,cF]
theorem Ij (l:List Mo) {k:Int} (hk:0≤k) (hk2:k≤1000000000) (hl:l.length≤1048576):∃ r:List Mo×Int,(r.2=k+6*(l.length:Int)∧r.1.length=l.length)∧Xl KK l k=some r:=by
 unfold Xl Xk Q7;refine GT (X:=Int×Int×List Mo) (R:=List Mo×Int) l.length (fun q x=>x.1=k+6*(q:Int)∧x.2.1=(q:Int)∧x.2.2.length=l.length) _ ?_ ?_ KK 0 (k,0,l) (by omega) (by simp only[KK];omega) ⟨by simp,by simp,rfl⟩
 ·rintro L q ⟨x1,x2,s⟩ hq ⟨e1,e2,e3⟩
  simp only at e1 e2 e3;subst e2;have hq2:q<s.length:=by omega
  suffices h:∃ y:List Mo,y.length=s.length∧Jw KK (fun v0 v1 v2=>L (v0,v1,v2)) x1 (q:Int) s=L (x1+6,((q+1:Nat):Int),y) by
   obtain⟨y,hy,e⟩:=h;exact⟨(x1+6,((q+1:Nat):Int),y),⟨by simp only;omega,rfl,by simp only;omega⟩,e⟩
  unfold Jw;rw[in1 hq2,in0,As (by omega),Az (n:=x1+1) (by omega) (by omega),Az (n:=x1+1+1) (by omega) (by omega),Az (n:=x1+1+1+1) (by omega) (by omega),Az (n:=x1+1+1+1+1) (by omega) (by omega),Az (n:=x1+1+1+1+1+1) (by omega) (by omega),Az (n:=x1+1+1+1+1+1+1) (by omega) (by omega)]
  simp (config:={ zeta:=false }) only[Ajd,in1 hq2,aS,cT]
  extract_lets s4 s5 s6
  have l4:s4.length=s.length:=by simp only[s4,Ajd]
  have l5:s5.length=s.length:=by simp only[s5,Ajd,l4]
  have l6:s6.length=s.length:=by simp only[s6,Ajd,l5]
  refine⟨s6,l6,?_⟩;rw[in1 (show q<s4.length by omega),in1 (show q<s5.length by omega)]
  simp only[aS,cT];have e5:x1+1+1+1+1+1+1=x1+6:=by omega
  rw[e5]
 ·rintro L ⟨x1,x2,s⟩ ⟨e1,e2,e3⟩
  simp only at e1 e2 e3;subst e2;refine⟨(s,x1),⟨e1,e3⟩,?_⟩;show Jw KK (fun v0 v1 v2=>L (v0,v1,v2)) x1 (l.length:Int) s=_;unfold Jw;rw[show decide ((l.length:Int)<(s.length:Int))=false by simp;omega,cF]
theorem NA (s:List Vc) {k:Int} (hk:0≤k) (hk2:k≤1000000000) (hl:s.length≤1048576) (hm:AaD k s s.length):Xw KK s k=some (k+2*(s.length:Int)):=by
 have h:=AZ (X:=Int×Int) (body:=fun L x=>Ng KK s (fun v0 v1=>L (v0,v1)) x.1 x.2) s (fun q k=>(k,(q:Int))) (fun k _=>k+2) (fun k=>some k) (fun q k'=>k'=k+2*(q:Int))
  (fun L q k' hq hi=>by
   refine⟨by omega,?_⟩
   have h1:=hm q hq;rw[AiI hq,Ajk] at h1;unfold Ng;simp only;rw[in1 hq,in0,gd hq,As (by omega),Az (n:=k'+1) (by omega) (by omega),Az (n:=k'+1+1) (by omega) (by omega),h1]
   have e1:((k+2*(q:Int)) != k')=false:=by simp;omega
   have e2:((k+1+2*(q:Int)) != k'+1)=false:=by simp;omega
   simp only[aS,cT,e1,e2,cF];have e3:k'+1+1=k'+2:=by omega
   rw[e3])
  (fun L k' hi=>by
   unfold Ng;simp only;rw[AX,cF]) KK 0 k (by omega) (by simp only[KK];omega) (by simp)
 have hf:=Hn (fun (k:Int) (_:Vc)=>k+2) (fun q k'=>k'=k+2*(q:Int)) s 0 k (by simp) (fun i k hi hP=>by omega)
 rw[AiR] at h;simp only[Ajj] at hf;unfold Xw Xv Ra;rw[← hf];exact h
def SI (s:List Vc):Prop:=s.Pairwise fun a b=>ltV a b=true
theorem Dc (a:Vc):ltV a a=false:=Db _
theorem Fv {a b c:Vc} (h:ltV a b=true) (k:ltV b c=true):ltV a c=true:=DQ h k
theorem IJ {a b:Vc} (h:ltV a b=false) (k:ltV b a=false):a=b:=XS (TW rfl h k)
theorem Hy {a b:Vc} (h:ltV a b=true):ltV b a=false:=by
 cases hb:ltV b a
 ·rfl
 ·have:=Fv h hb;rw[Dc] at this;cases this
theorem Hz:∀ {a b:List Vc},SI a→SI b→(∀ x,x∈a↔x∈b)→a=b
 | [],[],_,_,_=>rfl
 | [],y :: b,_,_,h=>by have:=(h y).2 (by simp);cases this
 | x :: a,[],_,_,h=>by have:=(h x).1 (by simp);cases this
 | x :: a,y :: b,ha,hb,h=>by
  have ha':=Ajf.1 ha;have hb':=Ajf.1 hb;have e:x=y:=by
   rcases AiS.1 ((h x).1 (by simp)) with e | e
   ·exact e
   ·rcases AiS.1 ((h y).2 (by simp)) with e2 | e2
    ·exact e2.symm
    ·have h1:=hb'.1 x e;have h2:=ha'.1 y e2;rw[Hy h1] at h2;cases h2
  subst e;refine congrArg (x :: ·) (Hz ha'.2 hb'.2 fun z=>⟨fun hz=>?_,fun hz=>?_⟩)
  ·rcases AiS.1 ((h z).1 (by simp[hz])) with e | e
   ·subst e;have:=ha'.1 z hz;rw[Dc] at this;cases this
   ·exact e
  ·rcases AiS.1 ((h z).2 (by simp[hz])) with e | e
   ·subst e;have:=hb'.1 z hz;rw[Dc] at this;cases this
   ·exact e
def DR (v:Vc):List Vc→List Vc
 | []=>[v]
 | a :: r=>bif ltV a v then a :: DR v r else (bif a==v then a :: r else v :: a :: r)
theorem JP (v:Vc):∀ (s:List Vc) (x:Vc),x∈DR v s↔x=v∨x∈s
 | [],x=>by simp[DR]
 | a :: r,x=>by
  simp only[DR];cases ltV a v
  ·rw[cF];cases h:a==v
   ·rw[cF];simp
   ·rw[cT];have:=beq_iff_eq.1 h;subst this;simp
  ·rw[cT];simp only[AiS,JP v r x];constructor<;>rintro (h | h | h)<;>simp[h]
theorem T0 (v:Vc):∀ {s:List Vc},SI s→SI (DR v s)
 | [],_=>by simp[DR,SI]
 | a :: r,h=>by
  have h':=Ajf.1 h;simp only[DR];cases hl:ltV a v
  ·rw[cF];cases he:a==v
   ·rw[cF];have hne:a≠v:=by simpa using he
    have hva:ltV v a=true:=by
     cases hv:ltV v a
     ·exact absurd (IJ hl hv) hne
     ·rfl
    refine Ajf.2 ⟨fun b hb=>?_,h⟩;rcases AiS.1 hb with e | e
    ·subst e;exact hva
    ·exact Fv hva (h'.1 b e)
   ·exact h
  ·rw[cT];refine Ajf.2 ⟨fun b hb=>?_,T0 v h'.2⟩;rcases (JP v r b).1 hb with e | e
   ·subst e;exact hl
   ·exact h'.1 b e
theorem JQ (v:Vc):∀ s:List Vc,(DR v s).length≤s.length+1
 | []=>by simp[DR]
 | a :: r=>by
  have:=JQ v r;simp only[DR];cases ltV a v
  ·rw[cF];cases a==v<;>simp
  ·rw[cT];simpa using this
theorem XX (u v:Vc):((u.1==v.1)&&(u.2==v.2))=(u==v):=by
 rw[Akk];simp only[aT,beq_iff_eq,Akx]
theorem E1 {s:List Vc} (hs:s.length≤1000000) (v:Vc):∀ (n q:Nat),q≤s.length→s.length-q<n→Iw KK s v n (q:Int)=some (s.take q++DR v (s.drop q))
 | 0,q,_,h=>by omega
 | n+1,q,hq,hn=>by
  show MR KK s v (fun v0=>Iw KK s v n v0) (q:Int)=_;have lim1:Nat.ble (0+((s.take ((0:Int)+(q:Int)).toNat).drop 0).length) (lim 16)=true:=Hl (by simp;omega)
  have lim2:Nat.ble (([]++((s.take ((0:Int)+(q:Int)).toNat).drop 0)).length+[v].length) (lim 16)=true:=Hl (by simp;omega)
  have lim3:Nat.ble ((([]++((s.take ((0:Int)+(q:Int)).toNat).drop 0))++[v]).length+((s.take ((0:Int)+(s.length:Int)).toNat).drop ((0:Int)+(q:Int)).toNat).length) (lim 16)=true:=Hl (by simp;omega)
  have c1:(decide (0≤(0:Int))&&true&&decide ((q:Int)≤(s.length:Int)))=true:=by simp;omega
  have c2:(true&&decide ((q:Int)≤(s.length:Int))&&decide ((s.length:Int)≤(s.length:Int)))=true:=by simp;omega
  have fin:(([]++((s.take ((0:Int)+(q:Int)).toNat).drop 0))++[v])++((s.take ((0:Int)+(s.length:Int)).toNat).drop ((0:Int)+(q:Int)).toNat)=s.take q++v :: s.drop q:=by
   have e1:((0:Int)+(q:Int)).toNat=q:=by omega
   have e2:((0:Int)+(s.length:Int)).toNat=s.length:=by omega
   rw[e1,e2];simp
  unfold MR;by_cases hlt:q<s.length
  ·rw[in1 hlt,in0,gd hlt];simp only[nT,AjQ,Akl,aS,oT,tO,cT];rw[JI,oB,As (by omega),XX,dC hlt]
   simp only[DR];cases h1:ltV s[q] v
   ·rw[cF,cF];cases h2:s[q]==v
    ·rw[cF,cF,c1,cT,lim1,cT,lim2,cT,c2,cT,lim3,cT,fin,dC hlt]
    ·simp only[cT];rw[← dC hlt,AkO]
   ·simp only[cT];rw[E1 hs v n (q+1) (by omega) (by omega),tS hlt,AiT]
    rfl
  ·have:q=s.length:=by omega
   subst this;rw[AX,in0];simp only[nF,tO,oT,cT,cF,oB];rw[c1,cT,lim1,cT,lim2,cT,c2,cT,lim3,cT,fin];simp[DR]
theorem NB {s:List Vc} (hs:s.length≤1000000) (v:Vc):OJ KK s v=some (DR v s):=by
 have:=E1 hs v KK 0 (by omega) (by simp only[KK];omega)
 unfold OJ QN;exact this.trans (by simp)
def Bh (l:Lt) (g:List Mo) (v:Vc):List Vc:=g.foldl (fun s m=>DR (mvS l m v) s) []
theorem GU (f:Mo→Vc):∀ (g:List Mo) (s:List Vc),SI s→SI (g.foldl (fun s m=>DR (f m) s) s)∧(∀ x,x∈g.foldl (fun s m=>DR (f m) s) s↔x∈s∨∃ m∈g,x=f m)∧(g.foldl (fun s m=>DR (f m) s) s).length≤s.length+g.length
 | [],s,h=>⟨h,fun x=>by simp,AiK _⟩
 | m :: g,s,h=>by
  obtain⟨h1,h2,h3⟩:=GU f g (DR (f m) s) (T0 _ h);refine⟨h1,fun x=>?_,?_⟩
  ·rw[Ajt,h2,JP];simp only[AiS,exists_eq_or_imp];constructor
   ·rintro ((h | h) | h)
    ·exact .inr (.inl h)
    ·exact .inl h
    ·exact .inr (.inr h)
   ·rintro (h | h | h)
    ·exact .inl (.inr h)
    ·exact .inl (.inl h)
    ·exact .inr h
  ·rw[Ajt];have:=JQ (f m) s;rw[Ajc];omega
theorem Fw (l:Lt) (g:List Mo) (v:Vc):SI (Bh l g v):=(GU _ g [] List.Pairwise.nil).1
theorem CG {l:Lt} {g:List Mo} {v x:Vc}:x∈Bh l g v↔∃ m∈g,x=mvS l m v:=by
 have:=(GU (fun m=>mvS l m v) g [] List.Pairwise.nil).2.1 x;unfold Bh;rw[this];simp
theorem Pz (l:Lt) (g:List Mo) (v:Vc):(Bh l g v).length≤g.length:=by
 have:=(GU (fun m=>mvS l m v) g [] List.Pairwise.nil).2.2;unfold Bh;simpa using this
theorem PA {l:Lt} (hl:IsL l) {g:List Mo} (hn:g.length≤1000) (hg:∀ m∈g,FQ m) {v:Vc} (hv:Sv v):OK KK l g v=some (Bh l g v):=by
 have h:=AZ (R:=List Vc) (body:=fun L x=>Fm KK l g v (fun v0 v1=>L (v0,v1)) x.1 x.2) g (fun q s=>((q:Int),s)) (fun s m=>DR (mvS l m v) s) some (fun q s=>s.length≤q)
  (fun L q s hq hi=>by
   refine⟨by have:=JQ (mvS l g[q] v) s;omega,?_⟩
   show Fm KK l g v (fun v0 v1=>L (v0,v1)) (q:Int) s=_;unfold Fm;rw[in1 hq,in0,gd hq];simp only[aS,cT];rw[show (((g[q].1.1,g[q].1.2.1,g[q].1.2.2),g[q].2):Mo)=g[q] from rfl,Pr hl (hg _ (gM hq)) hv,oB,NB (by omega),oB,As (by omega)])
  (fun L s hi=>by
   show Fm KK l g v (fun v0 v1=>L (v0,v1)) (g.length:Int) s=_;unfold Fm;rw[AX,cF]) KK 0 [] (by omega) (by simp only[KK];omega) (by simp)
 unfold OK QO MS;rw[AiR] at h;exact h
theorem AeA (a b:Vc):decide (Dl (CF a) (CF b)<0)=ltV a b:=by
 have h:=Nt (CF a) (CF b);unfold ltV;by_cases h0:Dl (CF a) (CF b)<0
 ·have:decide (Dl (CF a) (CF b)≥0)=false:=dF (by omega)
  rw[this] at h;rw[dT h0];cases hx:ltL (CF a) (CF b)
  ·rw[hx] at h;cases h
  ·rfl
 ·have:decide (Dl (CF a) (CF b)≥0)=true:=dT (by omega)
  rw[this] at h;rw[dF h0];cases hx:ltL (CF a) (CF b)
  ·rfl
  ·rw[hx] at h;cases h
theorem T1 (a b:Vc):HX KK a b=some (Dl (CF a) (CF b)):=EY a b
theorem JR:(ltOf fun x y=>((fun z7 z8=>HX KK z7 z8) x y:Option Int).getD 0)=ltV:=by
 funext a b;unfold ltOf;simp only[T1,AjN,AeA]
theorem AdQ:Go.Sort.SWO ltV where
 irrefl:=Dc
 trans x y z h k:=Fv h k
 ntrans x y z h k:=by
  cases hxz:ltV x z
  ·rfl
  ·cases hyx:ltV y x
   ·have:=IJ h hyx;subst this;rw[hxz] at k;cases k
   ·rw[Fv hyx hxz] at k;cases k
theorem Rp {s:List Vc} (hs:s.length≤1000000):TC KK s (fun z7 z8=>HX KK z7 z8)=some (s.mergeSort fun x y=>!ltV y x):=by
 unfold TC P4;rw[if_pos]
 ·rw[JR]
 ·refine⟨⟨fun x y=>by simp only;rw[T1];rfl,?_,?_⟩,by omega⟩
  ·rw[JR];exact AdQ
  ·rw[JR];exact fun x y h k=>IJ h k
def dd (s:List Vc) (a:Vc):List Vc:=bif s.getLast? == some a then s else s++[a]
theorem AaE (s:List Vc) (a:Vc):(dd s a).getLast? = some a:=by
 unfold dd;cases h:s.getLast? == some a
 ·simp
 ·simpa using h
theorem T2 {s:List Vc} {z a:Vc} (h:s.getLast? = some z):dd s a=bif a==z then s else s++[a]:=by
 unfold dd;rw[h];by_cases e:a=z
 ·subst e;simp
 ·have e1:(a==z)=false:=by simpa using e
  have e2:((some z:Option Vc)==some a)=false:=by
   rw[bN];exact fun h=>e (Option.some.inj h).symm
  rw[e1,e2]
theorem T3:∀ (l s:List Vc),SI s→(∀ a∈s,∀ b∈l,ltV b a=false)→l.Pairwise (fun x y=>(!ltV y x)=true)→SI (l.foldl dd s)∧∀ x,x∈l.foldl dd s↔x∈s∨x∈l
 | [],s,h,_,_=>⟨h,fun x=>by simp⟩
 | a :: l,s,h,h1,h2=>by
  have h2':=Ajf.1 h2;have hmem:∀ x,x∈dd s a↔x∈s∨x=a:=by
   intro x;unfold dd;cases hc:s.getLast? == some a
   ·simp
   ·have:a∈s:=List.mem_of_getLast? (by simpa using hc)
    simp only[cT];exact⟨.inl,fun h=>h.elim id fun e=>e▸this⟩
  have hsi:SI (dd s a):=by
   unfold dd;cases hc:s.getLast? == some a
   ·rw[cF];refine List.pairwise_append.2 ⟨h,by simp,fun b hb c hc'=>?_⟩
    rcases Ajp.1 hc' with rfl;have hle:=h1 b hb c (by simp)
    cases hbc:ltV b c
    ·have e:=IJ hbc hle;subst e;exfalso
     -- b stands in s, so it is the last
     obtain⟨z,hz⟩:∃ z,s.getLast? = some z:=by
      cases hs:s.getLast? with
      | none=>rw[List.getLast?_eq_none_iff] at hs;subst hs;cases hb
      | some z=>exact⟨z,rfl⟩
     obtain⟨t,rfl⟩:=List.getLast?_eq_some_iff.1 hz;have hne:z≠b:=fun e=>by subst e;rw[hz] at hc;simp at hc
     rcases Ajg.1 hb with e | e
     ·have h3:=(List.pairwise_append.1 h).2.2 b e z (by simp)
      have h4:=h1 z (by simp) b (by simp)
      rw[h3] at h4;cases h4
     ·exact hne (Ajp.1 e).symm
    ·rfl
   ·exact h
  obtain⟨h3,h4⟩:=T3 l (dd s a) hsi (fun x hx b hb=>by
   rcases (hmem x).1 hx with e | e
   ·exact h1 x e b (by simp[hb])
   ·subst e;have:=h2'.1 b hb;simpa using this) h2'.2
  refine⟨h3,fun x=>?_⟩;rw[Ajt,h4,hmem];simp only[AiS];constructor
  ·rintro ((h | h) | h)
   ·exact .inl h
   ·exact .inr (.inl h)
   ·exact .inr (.inr h)
  ·rintro (h | h | h)
   ·exact .inl (.inl h)
   ·exact .inl (.inr h)
   ·exact .inr h
theorem GV (l:List Vc) {p:Nat} (hp:p<l.length):((l.take (p+1)).foldl dd []).getLast? = some l[p]:=by
 rw[tS hp,Alh];exact AaE _ _
structure Cm (l:List Vc) (p m:Nat) (s:List Vc):Prop where
 len:s.length=l.length
 lt:m<p
 pl:p≤l.length
 kept:s.take m=(l.take p).foldl dd []
 rest:∀ i,p≤i+1→s[i]? = l[i]?
theorem F8 {l:List Vc} (hl:l.length≤1000000) {k0:Nat}:∀ (n k2 m:Nat) (s:List Vc),1≤k2→Cm l (k0+k2) m s→l.length-(k0+k2)<n→GG KK l (k0:Int) n (m:Int) (k2:Int) s=some (l.foldl dd [])
 | 0,k2,m,s,_,_,h=>by omega
 | n+1,k2,m,s,hk,hC,hn=>by
  show M7 KK l (k0:Int) (fun v0 v1 v2=>GG KK l (k0:Int) n v0 v1 v2) (m:Int) (k2:Int) s=_;have hlen:=hC.len;have hlt:=hC.lt;have hpl:=hC.pl;unfold M7;by_cases hin:k0+k2<l.length
  ·have d1:decide ((k2:Int)<(((0:Int)+(l.length:Int))-((0:Int)+(k0:Int))))=true:=dT (by omega)
   have e1:w ((k2:Int)-1)=((k2-1:Nat):Int):=by rw[Az (by omega) (by omega)];omega
   have d2:decide (((k2-1:Nat):Int)<(((0:Int)+(l.length:Int))-((0:Int)+(k0:Int))))=true:=dT (by omega)
   have i1:(((0:Int)+(k0:Int))+(k2:Int)).toNat=k0+k2:=by omega
   have i2:(((0:Int)+(k0:Int))+((k2-1:Nat):Int)).toNat=k0+k2-1:=by omega
   have i3:((0:Int)+(m:Int)).toNat=m:=by omega
   have g1:s.getD (k0+k2) ((0:Int),(0:Int))=l[k0+k2]:=by
    rw[AiZ,hC.rest _ (by omega),AiI hin];rfl
   have g2:s.getD (k0+k2-1) ((0:Int),(0:Int))=l[k0+k2-1]:=by
    rw[AiZ,hC.rest _ (by omega),AiI (by omega)];rfl
   have d3:decide ((m:Int)<(s.length:Int))=true:=dT (by omega)
   have hlast:(s.take m).getLast? = some l[k0+k2-1]:=by
    rw[hC.kept];have:=GV l (p:=k0+k2-1) (by omega)
    rw[show k0+k2-1+1=k0+k2 by omega] at this
    exact this
   have htk:(l.take (k0+k2+1)).foldl dd []=dd (s.take m) l[k0+k2]:=by
    rw[tS hin,Alh,← hC.kept];rfl
   have wk:w ((k2:Int)+1)=((k2+1:Nat):Int):=As (by omega)
   have wm:w ((m:Int)+1)=((m+1:Nat):Int):=As (by omega)
   rw[d1,in0,e1,in0,d2,i1,i2,i3,g1,g2,d3,in0,wk,wm,XX];simp only[aS,cT];cases heq:l[k0+k2]==l[k0+k2-1]
   ·rw[nF,cT];refine F8 hl n (k2+1) (m+1) _ (by omega) ⟨by simp[hlen],by omega,by omega,?_,fun i hi=>?_⟩ (by omega)
    ·rw[show k0+(k2+1)=k0+k2+1 by omega,htk]
     rw[T2 hlast,heq,cF];rw[tS (by simp;omega),Ak3 (by omega)]
     simp
    ·rw[Aj7 (by omega)]
     exact hC.rest i (by omega)
   ·rw[nT,cF];refine F8 hl n (k2+1) m _ (by omega) ⟨hlen,by omega,by omega,?_,fun i hi=>hC.rest i (by omega)⟩ (by omega)
    rw[show k0+(k2+1)=k0+k2+1 by omega,htk]
    rw[T2 hlast,heq,cT]
  ·have hp:k0+k2=l.length:=by omega
   have d1:decide ((k2:Int)<(((0:Int)+(l.length:Int))-((0:Int)+(k0:Int))))=false:=dF (by omega)
   have c1:(decide (0≤(m:Int))&&decide ((m:Int)≤(s.length:Int))&&decide ((s.length:Int)≤(s.length:Int)))=true:=by simp;omega
   have i3:((0:Int)+(m:Int)).toNat=m:=by omega
   have hcl:m≤(clr s m (((0:Int)+(m:Int))+(((0:Int)+(s.length:Int))-((0:Int)+(m:Int)))).toNat ((0:Int),(0:Int))).length:=by
    unfold clr;simp only[lA,Ajv];omega
   have c2:(decide (0≤(0:Int))&&decide ((0:Int)≤(m:Int))&&decide ((m:Int)≤((clr s m (((0:Int)+(m:Int))+(((0:Int)+(s.length:Int))-((0:Int)+(m:Int)))).toNat ((0:Int),(0:Int))).length:Int)))=true:=by
    simp only[aT,dE];omega
   rw[d1,cF,c1,cT,i3,c2,cT];have hk:=hC.kept;rw[hp,Aj0] at hk;rw[← hk];unfold clr;rw[AiT,Ajq (by simp;omega),Alc,Nat.min_self]
theorem H3 {l:List Vc} (hl:l.length≤1000000):∀ (n k:Nat),1≤k→k≤l.length→l.take k=(l.take k).foldl dd []→l.length-k<n→IF KK l n (k:Int)=some (l.foldl dd [])
 | 0,k,_,_,_,h=>by omega
 | n+1,k,hk,hkl,ht,hn=>by
  show IE KK l (fun c0 d0 d1 d2=>GG KK l c0 KK d0 d1 d2) (fun v0=>IF KK l n v0) (k:Int)=_;unfold IE;by_cases hin:k<l.length
  ·have e1:w ((k:Int)-1)=((k-1:Nat):Int):=by rw[Az (by omega) (by omega)];omega
   have hk1:k-1<l.length:=by omega
   have c2:(true&&decide ((k:Int)≤(l.length:Int))&&decide ((l.length:Int)≤(l.length:Int)))=true:=by simp;omega
   rw[in1 hin,in0,e1,in0,in1 hk1,gd hin,gd hk1,XX,As (by omega)]
   simp only[aS,cT];have hlast:((l.take k).foldl dd []).getLast? = some l[k-1]:=by
    have:=GV l (p:=k-1) hk1;rw[show k-1+1=k by omega] at this
    exact this
   have htk:(l.take (k+1)).foldl dd []=dd ((l.take k).foldl dd []) l[k]:=by
    rw[tS hin,Alh];rfl
   cases heq:l[k]==l[k-1]
   ·rw[cF];refine H3 hl n (k+1) (by omega) (by omega) ?_ (by omega)
    rw[htk];rw[T2 hlast,heq,cF,← ht,← tS hin]
   ·rw[cT,c2,cT];refine F8 hl KK 1 k l (by omega) ⟨rfl,by omega,by omega,?_,fun i _=>rfl⟩ (by simp only[KK];omega)
    rw[htk];rw[T2 hlast,heq,cT];exact ht
  ·have:k=l.length:=by omega
   subst this;rw[AX,cF];rw[Aj0] at ht;rw[← ht]
theorem Rq {l:List Vc} (hl:l.length≤1000000):O2 KK l=some (l.foldl dd []):=by
 unfold O2 Q0;by_cases h:l.length<2
 ·rw[dT (by omega),cT]
  match l,h with
  | [],_=>rfl
  | [a],_=>rfl
 ·rw[dF (by omega),cF]
  refine H3 hl KK 1 (by omega) (by omega) ?_ (by simp only[KK];omega)
  obtain⟨a,b,r,rfl⟩:∃ a b r,l=a :: b :: r:=by
   match l,h with
   | a :: b :: r,_=>exact⟨a,b,r,rfl⟩
   | [a],h=>simp at h
   | [],h=>simp at h
  rfl
theorem Rr {l:Lt} (hl:IsL l) {g:List Mo} (hn:g.length≤1000) (hg:∀ m∈g,FQ m) {v:Vc} (hv:Sv v):W1 KK l g v=some (Bh l g v):=by
 have h:=AZ (R:=List Vc) (body:=fun L x=>Hk KK l g v (fun v0 v1=>L (v0,v1)) x.1 x.2) g (fun q s=>((q:Int),s)) (fun s m=>s++[mvS l m v]) (fun s=>some ((s.mergeSort fun x y=>!ltV y x).foldl dd [])) (fun q s=>s.length=q)
  (fun L q s hq hi=>by
   refine⟨by simp[hi],?_⟩
   show Hk KK l g v (fun v0 v1=>L (v0,v1)) (q:Int) s=_;unfold Hk;rw[in1 hq,in0,gd hq];simp only[aS,cT];rw[show (((g[q].1.1,g[q].1.2.1,g[q].1.2.2),g[q].2):Mo)=g[q] from rfl,XV hl (hg _ (gM hq)) hv,oB,Hl (by simp;omega),cT,As (by omega)])
  (fun L s hi=>by
   show Hk KK l g v (fun v0 v1=>L (v0,v1)) (g.length:Int) s=_;unfold Hk;rw[AX,cF,Rp (by omega),oB,Rq (by rw[List.length_mergeSort];omega),oB]) KK 0 [] (by omega) (by simp only[KK];omega) (by simp)
 unfold W1 W0 Q1;rw[AiR] at h;refine Eq.trans h (congrArg some ?_);rw[D9,Ai3];obtain⟨h1,h2⟩:=T3 ((g.map fun m=>mvS l m v).mergeSort fun x y=>!ltV y x) [] List.Pairwise.nil (fun a ha=>by cases ha) (List.pairwise_mergeSort (fun a b c h k=>by
   simp only[AjU] at h k ⊢;exact AdQ.ntrans c b a k h) (fun a b=>by
   cases h:ltV b a
   ·rfl
   ·rw[Hy h];rfl) _)
 refine Hz h1 (Fw l g v) fun x=>?_;rw[h2,CG];simp only[List.not_mem_nil,false_or,List.mem_mergeSort,Ai9];exact⟨fun⟨m,hm,e⟩=>⟨m,hm,e.symm⟩,fun⟨m,hm,e⟩=>⟨m,hm,e.symm⟩⟩
theorem AeB {l:Lt} (h:okL l=true):IsL l:=GL.1 h
def Bj (f:Int) (l:Lt) (g:List Mo) (b:Bool):Int:=if okF f&&okL l then (if b&&EA f l g then 0 else 2) else 1
theorem PB (f:Int) (l:Lt) {g:List Mo} (hn:g.length≤1048576) (b:Bool):Ww KK f l g b=some (Bj f l g b):=Rm f l hn b
structure Cy (f:Int) (l:Lt) (g:List Mo):Prop where
 la:IsL l
 pr:Pre f l g
 gr:EA f l g=true
theorem NC {f:Int} {l:Lt} {g:List Mo} {b:Bool} (h:Bj f l g b=0):Cy f l g∧b=true:=by
 unfold Bj at h;by_cases h1:(okF f&&okL l)=true
 ·rw[if_pos h1] at h;by_cases h2:(b&&EA f l g)=true
  ·simp only[aT] at h1 h2;refine⟨⟨AeB h1.2,Rj ?_,h2.2⟩,h2.1⟩;have:=h2.2;unfold EA at this;simp only[aT] at this;exact this.1
  ·rw[if_neg h2] at h;omega
 ·rw[if_neg h1] at h;omega
theorem Cy.good {f:Int} {l:Lt} {g:List Mo} (h:Cy f l g):∀ m∈g,FQ m:=fun m hm=>h.pr.good h.la hm
theorem Cy.len {f:Int} {l:Lt} {g:List Mo} (h:Cy f l g):g.length≤768:=h.pr.len h.la
theorem DS {l:Lt} (hl:IsL l) {u v:Vc}:Bc l u=Bc l v↔InL l (u.1-v.1,u.2-v.2):=by
 have ha:=hl.a1;have hc:=hl.c1;constructor
 ·intro h;have h1:(u.1-(u.2 / l.2.2)*l.2.1) % l.1=(v.1-(v.2 / l.2.2)*l.2.1) % l.1:=congrArg Prod.fst h;have h2:u.2 % l.2.2=v.2 % l.2.2:=congrArg Prod.snd h;have e1:=Akn (u.1-(u.2 / l.2.2)*l.2.1) l.1;have e2:=Akn (v.1-(v.2 / l.2.2)*l.2.1) l.1;have e3:=Akn u.2 l.2.2;have e4:=Akn v.2 l.2.2;rw[AjP] at e1 e2 e3 e4;refine⟨(u.1-(u.2 / l.2.2)*l.2.1) / l.1-(v.1-(v.2 / l.2.2)*l.2.1) / l.1,u.2 / l.2.2-v.2 / l.2.2,Prod.ext ?_ ?_⟩
  ·show u.1-v.1=_;rw[Alg,Alg];omega
  ·have e5:=Alg (u.2 / l.2.2) (v.2 / l.2.2) l.2.2;show u.2-v.2=(u.2 / l.2.2-v.2 / l.2.2)*l.2.2;omega
 ·rintro⟨i,j,h⟩
  have h1:u.1-v.1=i*l.1+j*l.2.1:=congrArg Prod.fst h;have h2:u.2-v.2=j*l.2.2:=congrArg Prod.snd h;have e2:u.2=v.2+j*l.2.2:=by omega
  have d:u.2 / l.2.2=v.2 / l.2.2+j:=by rw[e2,Int.add_mul_ediv_right _ _ (by omega)]
  refine Prod.ext ?_ ?_
  ·show (u.1-(u.2 / l.2.2)*l.2.1) % l.1=(v.1-(v.2 / l.2.2)*l.2.1) % l.1;refine Fq ⟨i,?_⟩;rw[d,AkI,AjP l.1 i];omega
  ·show u.2 % l.2.2=v.2 % l.2.2;exact Fq ⟨j,by rw[AjP];exact h2⟩
theorem XY (l:Lt):InL l (0,0):=⟨0,0,by simp⟩
theorem AaF {l:Lt} {u:Vc} (hu:InL l u):InL l (-u.1,-u.2):=Np (II l) hu
theorem PC (m:Mt) (u v:Vc) (i j:Int):AN m (i*u.1+j*v.1,i*u.2+j*v.2)=(i*(AN m u).1+j*(AN m v).1,i*(AN m u).2+j*(AN m v).2):=by
 unfold AN;refine Prod.ext ?_ ?_<;>simp only[AkY,AkL m.1,AkL m.2.1,AkL m.2.2.1,AkL m.2.2.2]<;>omega
theorem XZ (m:Mt) (u v:Vc):AN m (u.1-v.1,u.2-v.2)=((AN m u).1-(AN m v).1,(AN m u).2-(AN m v).2):=by
 unfold AN;refine Prod.ext ?_ ?_<;>simp only[Alt]<;>omega
theorem T4 {l:Lt} (hl:IsL l) {m:Mt} (hs:Du l m=true) {v:Vc} (hv:InL l v):InL l (AN m v):=by
 unfold Du at hs;simp only[aT,beq_iff_eq] at hs;have h1:=(GK hl _).1 hs.1;have h2:=(GK hl _).1 hs.2;obtain⟨i,j,rfl⟩:=hv;have e:=PC m (l.1,0) l.2 i j;have e2:((i*l.1+j*l.2.1,j*l.2.2):Vc)=(i*l.1+j*l.2.1,i*0+j*l.2.2):=by simp
 rw[e2];have e3:AN m (i*l.1+j*l.2.1,i*0+j*l.2.2)=(i*(AN m (l.1,0)).1+j*(AN m l.2).1,i*(AN m (l.1,0)).2+j*(AN m l.2).2):=e;rw[e3];have a1:=II l (0,0) _ i (XY l) h1;have a2:=II l _ _ j a1 h2;simpa using a2
theorem ND (m n:Mt) (v:Vc):AN (mmS m n) v=AN m (AN n v):=by
 unfold AN mmS;refine Prod.ext ?_ ?_<;>simp only[AkY,AkI,AkW]<;>omega
theorem JS (v:Vc):AN (1,0,0,1) v=v:=by
 unfold AN;simp
def X0 (m:Mt):Nat→Mt
 | 0=>(1,0,0,1)
 | k+1=>mmS m (X0 m k)
theorem AaG:((pmQ++pmH).all fun m=>(List.range 6).any fun k=>mmS (X0 m k) m==(1,0,0,1))=true:=by decide +kernel
theorem T5 {l:Lt} (hl:IsL l) {m:Mt} (hs:Du l m=true):∀ (k:Nat) {v:Vc},InL l v→InL l (AN (X0 m k) v)
 | 0,v,h=>by rw[X0,JS];exact h
 | k+1,v,h=>by rw[X0,ND];exact T4 hl hs (T5 hl hs k h)
theorem AaH {l:Lt} (hl:IsL l) {m:Mt} (hm:m∈pmQ++pmH) (hs:Du l m=true) {v:Vc} (h:InL l (AN m v)):InL l v:=by
 obtain⟨k,_,hk⟩:=Akb.1 (AiL.1 AaG m hm);have:=T5 hl hs k h;rw[← ND,beq_iff_eq.1 hk,JS] at this;exact this
theorem Ly {f:Int} {l:Lt} {m:Mt} (h:m∈BP f l):Du l m=true:=(AjK.1 h).2
theorem T6 (m:Mo) (u v:Vc):((BT m u).1-(BT m v).1,(BT m u).2-(BT m v).2)=AN m.1 (u.1-v.1,u.2-v.2):=by
 rw[XZ];unfold BT;refine Prod.ext ?_ ?_<;>simp only<;>omega
theorem AaI {f:Int} {l:Lt} (hl:IsL l) {m:Mo} (hm:m.1∈BP f l) {u v:Vc} (h:Bc l u=Bc l v):mvS l m u=mvS l m v:=by
 unfold mvS;rw[DS hl,T6];exact T4 hl (Ly hm) ((DS hl).1 h)
theorem X1 {f:Int} {l:Lt} (hl:IsL l) {m:Mo} (hm:m.1∈BP f l) {u v:Vc} (hu:Aw l u=true) (hv:Aw l v=true) (h:mvS l m u=mvS l m v):u=v:=by
 unfold mvS at h;rw[DS hl,T6] at h;have:=(DS hl).2 (AaH hl (Pi hm) (Ly hm) h)
 rwa [Ch hl hu,Ch hl hv] at this
theorem T7 {l:Lt} (hl:IsL l) (v:Vc):Bc l (Bc l v)=Bc l v:=Ch hl (EZ hl v)
theorem AeC {f:Int} {l:Lt} (hl:IsL l) {m n:Mo} (hm:m.1∈BP f l) (v:Vc):mvS l m (mvS l n v)=mvS l (Ez l m n) v:=by
 have h1:mvS l m (mvS l n v)=mvS l m (BT n v):=AaI hl hm (T7 hl _);rw[h1];unfold mvS Ez;rw[DS hl];have h2:=(DS hl).1 (T7 hl (BT m n.2));have e:((BT m (BT n v)).1-(BT (mmS m.1 n.1,Bc l (BT m n.2)) v).1,(BT m (BT n v)).2-(BT (mmS m.1 n.1,Bc l (BT m n.2)) v).2)=(-((Bc l (BT m n.2)).1-(BT m n.2).1),-((Bc l (BT m n.2)).2-(BT m n.2).2)):=by
  have e1:=ND m.1 n.1 v;generalize hr:Bc l (BT m n.2)=r;unfold BT;simp only;rw[e1];have e2:AN m.1 ((AN n.1 v).1+n.2.1,(AN n.1 v).2+n.2.2)=((AN m.1 (AN n.1 v)).1+(AN m.1 n.2).1,(AN m.1 (AN n.1 v)).2+(AN m.1 n.2).2):=by
   have:=PC m.1 (AN n.1 v) n.2 1 1;simpa using this
  rw[e2];refine Prod.ext ?_ ?_<;>simp only<;>omega
 rw[e];exact AaF h2
theorem AeD {l:Lt} (hl:IsL l) {v:Vc} (hv:Aw l v=true):mvS l uMo v=v:=by
 unfold mvS BT uMo;simp only;rw[JS];simp only[Ak9];exact Ch hl hv
theorem Cy.stab {f:Int} {l:Lt} {g:List Mo} (h:Cy f l g) {m:Mo} (hm:m∈g):m.1∈BP f l:=(h.pr.mem m hm).1
theorem Cy.one {f:Int} {l:Lt} {g:List Mo} (h:Cy f l g):uMo∈g:=by
 have:=h.gr;unfold EA at this;simp only[aT] at this;exact AjD.1 this.2.1
theorem Cy.mul {f:Int} {l:Lt} {g:List Mo} (h:Cy f l g) {m n:Mo} (hm:m∈g) (hn:n∈g):Ez l m n∈g:=by
 have:=h.gr;unfold EA at this;simp only[aT] at this;exact AjD.1 (AiL.1 (AiL.1 this.2.2 m hm) n hn)
theorem CH {f:Int} {l:Lt} {g:List Mo} (h:Cy f l g) {u v:Vc} (hu:u∈Bh l g v):Aw l u=true:=by
 obtain⟨m,_,rfl⟩:=CG.1 hu;exact EZ h.la _
theorem PD {f:Int} {l:Lt} {g:List Mo} (h:Cy f l g) {v:Vc} (hv:Aw l v=true):v∈Bh l g v:=CG.2 ⟨uMo,h.one,(AeD h.la hv).symm⟩
theorem Fx {f:Int} {l:Lt} {g:List Mo} (h:Cy f l g) {u v w:Vc} (hu:u∈Bh l g v) (hw:w∈Bh l g u):w∈Bh l g v:=by
 obtain⟨m,hm,rfl⟩:=CG.1 hu;obtain⟨n,hn,rfl⟩:=CG.1 hw;exact CG.2 ⟨Ez l n m,h.mul hn hm,AeC h.la (h.stab hn) v⟩
theorem X2 {s:List Vc} (h:SI s):s.Nodup:=List.Pairwise.imp (fun {a b} hab e=>by subst e;rw[Dc] at hab;cases hab) h
theorem GW {f:Int} {l:Lt} {g:List Mo} (h:Cy f l g) {u v:Vc} (hv:Aw l v=true) (hu:u∈Bh l g v):v∈Bh l g u:=by
 have hcu:=CH h hu;obtain⟨m,hm,rfl⟩:=CG.1 hu;have hO:=PD h hcu
 -- the motion goes round in the orbit
 have hsub:∀ x∈(Bh l g (mvS l m v)).map (mvS l m),x∈Bh l g (mvS l m v):=by
  intro x hx;obtain⟨y,hy,rfl⟩:=Ai9.1 hx;exact Fx h hy (CG.2 ⟨m,hm,rfl⟩)
 have hnd:((Bh l g (mvS l m v)).map (mvS l m)).Nodup:=by
  refine List.pairwise_map.2 (List.Pairwise.imp_of_mem (fun {a b} ha hb hab e=>hab ?_) (X2 (Fw l g (mvS l m v))));exact X1 h.la (h.stab hm) (CH h ha) (CH h hb) e
 have hall:=Ps (Bh l g (mvS l m v)) ((Bh l g (mvS l m v)).map (mvS l m)) hnd (fun x hx=>hsub x hx) (by simp)
 obtain⟨y,hy,e⟩:=Ai9.1 (hall _ hO);have:=X1 h.la (h.stab hm) (CH h hy) hv e;rw[this] at hy;exact hy
theorem AeE {f:Int} {l:Lt} {g:List Mo} (h:Cy f l g) {u v:Vc} (hv:Aw l v=true) (hu:u∈Bh l g v):Bh l g u=Bh l g v :=
 Hz (Fw l g u) (Fw l g v) fun x=>⟨fun hx=>Fx h hu hx,fun hx=>Fx h (GW h hv hu) hx⟩
def DF (l:Lt) (g:List Mo) (v:Vc):Bool:=(Bh l g v).headD (0,0)==v
theorem JT {f:Int} {l:Lt} {g:List Mo} (h:Cy f l g) {v:Vc} (hv:Aw l v=true):∃ w t,Bh l g v=w :: t∧(w=v∨ltV w v=true):=by
 have hs:=PD h hv;have hi:=Fw l g v;cases ho:Bh l g v with
 | nil=>rw[ho] at hs;cases hs
 | cons w t =>
  refine⟨w,t,rfl,?_⟩;rw[ho] at hs hi;rcases AiS.1 hs with e | e
  ·exact .inl e.symm
  ·exact .inr ((Ajf.1 hi).1 v e)
theorem AeF {f:Int} {l:Lt} {g:List Mo} (h:Cy f l g) {v:Vc} (hv:Aw l v=true):∃ w,DF l g w=true∧Aw l w=true∧v∈Bh l g w∧(w=v∨ltV w v=true):=by
 obtain⟨w,t,ho,hw⟩:=JT h hv;have hwo:w∈Bh l g v:=by rw[ho];simp
 refine⟨w,?_,CH h hwo,GW h hv hwo,hw⟩;unfold DF;rw[AeE h hv hwo,ho];simp
theorem T8 {f:Int} {l:Lt} {g:List Mo} (h:Cy f l g) {v w:Vc} (hv:Aw l v=true) (hr:DF l g v=true) (hw:w∈Bh l g v):w=v∨ltV v w=true:=by
 obtain⟨x,t,ho,_⟩:=JT h hv;unfold DF at hr;rw[ho] at hr hw;have:x=v:=by simpa using hr
 subst this;rcases AiS.1 hw with e | e
 ·exact .inl e
 ·have hi:=Fw l g x;rw[ho] at hi;exact .inr ((Ajf.1 hi).1 w e)
theorem T9 {f:Int} {l:Lt} {g:List Mo} (h:Cy f l g) {u v:Vc} (hu:Aw l u=true) (hv:Aw l v=true) (h1:DF l g u=true) (h2:DF l g v=true) (h3:v∈Bh l g u):u=v:=by
 rcases T8 h hu h1 h3 with e | e
 ·exact e.symm
 ·rcases T8 h hv h2 (GW h hu h3) with e2 | e2
  ·exact e2
  ·rw[Hy e] at e2;cases e2
def X3 (l:Lt) (g:List Mo):List Vc:=(Ac l).filter (DF l g)
def BF (l:Lt) (g:List Mo):List (List Vc):=(X3 l g).map (Bh l g)
theorem Lz {l:Lt} (hl:IsL l) {v:Vc} (hv:Aw l v=true):O1 KK l v=some ((B9 l v:Nat):Int):=by
 unfold O1;have:=(O6 hl v).1;rw[Ch hl hv] at this;rw[this]
theorem X4 {n:Int} (h1:0≤n) (h2:n<18446744073709551616):IntKind.u64.wrap n=n:=by
 rw[IntKind.wrap_u64];omega
theorem H4 {n:Nat} (hn:n≤1000) {a0:List Int} {a1:Int} {y1:Int×Int}:∀ (k q:Nat) (s:List Int),s.length=n→1≤q→q≤n→s.take q=List.replicate q (-1)→n-q<k→ID KK a0 a1 y1 k (q:Int) s=some (List.replicate n (-1))
 | 0,q,s,_,_,_,_,h=>by omega
 | k+1,q,s,hs,hq,hqn,ht,hk=>by
  show M4 KK a0 a1 y1 (fun v0 v1=>ID KK a0 a1 y1 k v0 v1) (q:Int) s=_;unfold M4;by_cases hlt:q<n
  ·obtain⟨c,hc1,hc2,hc3,hc⟩:∃ c:Nat,1≤c∧c≤q∧q+c≤n∧(bif decide ((((0:Int)+(s.length:Int))-((0:Int)+(q:Int)))≤(((0:Int)+(q:Int))-(0:Int))) then (((0:Int)+(s.length:Int))-((0:Int)+(q:Int))) else (((0:Int)+(q:Int))-(0:Int)))=(c:Int):=by
    rw[hs];by_cases h:n-q≤q
    ·exact⟨n-q,by omega,by omega,by omega,by rw[dT (by omega),cT];omega⟩
    ·exact⟨q,by omega,by omega,by omega,by rw[dF (by omega),cF];omega⟩
   rw[hc];have d1:decide ((q:Int)<(s.length:Int))=true:=dT (by omega)
   have d2:(decide (0≤(q:Int))&&decide ((q:Int)≤(s.length:Int))&&decide ((s.length:Int)≤(s.length:Int)))=true:=by simp;omega
   have d3:(decide (0≤(0:Int))&&decide ((0:Int)≤(q:Int))&&decide ((q:Int)≤(s.length:Int)))=true:=by simp;omega
   have i1:((0:Int)+(q:Int)).toNat=q:=by omega
   have i2:((0:Int)+(((0:Int)+(q:Int))-(0:Int))).toNat=q:=by omega
   have i3:((c:Int)).toNat=c:=by omega
   rw[d1,cT,d2,cT,d3,cT,i1,i2,i3,Az (n:=(q:Int)+(c:Int)) (by omega) (by omega),AiR,ht]
   have e:((q:Int)+(c:Int))=((q+c:Nat):Int):=by omega
   rw[e];refine H4 hn k (q+c) _ ?_ (by omega) hc3 ?_ (by omega)
   ·simp only[lA,AjL,Ajv,AkU];omega
   ·rw[List.take_replicate,Ak1 hc2,List.replicate_append_replicate,Ajq (by simp),List.take_replicate,Nat.min_self]
  ·have:q=n:=by omega
   subst this;rw[dF (by omega),cF,← ht,← hs,Aj0]
theorem U9 {n:Nat} (h1:1≤n) (hn:n≤1000):O0 KK [(-1:Int)] (n:Int)=some (List.replicate n (-1)):=by
 unfold O0 QY WU Y6;have e1:IntKind.u64.wrap ((([(-1:Int)]:List Int).length:Nat):Int)=1:=by
  rw[X4 (by simp) (by simp)]
  rfl
 have e2:IntKind.u64.wrap (n:Int)=(n:Int):=X4 (by omega) (by omega)
 rw[dF (by omega),cF,e1,e2,if_pos (by omega)]
 simp only[oB];have e3:(1:Int)*(n:Int) / 18446744073709551616=0:=by omega
 have e4:(1:Int)*(n:Int) % 18446744073709551616=(n:Int):=by omega
 rw[e3,e4,dF (by omega),dF (show ¬ ((n:Int)>9223372036854775807) by omega),Az (n:=(n:Int)) (by omega) (by omega)]
 have e5:((n:Int)).toNat=n:=by omega
 have e6:(decide (0≤(n:Int))&&Nat.ble ((n:Int)).toNat (lim 8)&&((n:Int)==(n:Int)))=true:=by
  rw[in0,e5,Ahr (by omega)]
  simp
 simp only[nF,nT,AjQ,Akl,oT,tO,cT,cF];rw[e6,cT,e5];have e7:(bif decide ((((List.replicate n (0:Int)).length:Nat):Int)≤(([(-1:Int)]:List Int).length:Int)) then (((List.replicate n (0:Int)).length:Nat):Int) else (([(-1:Int)]:List Int).length:Int))=((1:Nat):Int):=by
  rw[AjL];by_cases h:n=1
  ·subst h;rfl
  ·rw[dF (by simp;omega),cF];rfl
 rw[e7];refine H4 hn KK 1 _ ?_ (by omega) h1 ?_ (by simp only[KK];omega)
 ·simp only[lA,Ajv,AkU,AjL,Akr,AjW];simp;omega
 ·simp
theorem LA {l:Lt} (hl:IsL l) {v:Vc} (hv:Aw l v=true):(B9 l v:Int)=v.1*l.2.2+v.2:=by
 have h:=BS.1 hv;have e1:0≤v.1*l.2.2:=Aj9 h.1.1 (by have:=hl.c1;omega)
 unfold B9;rw[Ch hl hv];omega
theorem AeG {l:Lt} (hl:IsL l) {u v:Vc} (hu:Aw l u=true) (hv:Aw l v=true) (h:ltV u v=true):B9 l u<B9 l v:=by
 have h1:=LA hl hu;have h2:=LA hl hv;have b1:=BS.1 hu;have b2:=BS.1 hv;have:(u.1=v.1∧u.2<v.2)∨u.1<v.1:=by
  unfold ltV CF ltL at h;by_cases e:u.1=v.1
  ·have e1:(u.1==v.1)=true:=by simpa using e
   rw[e1,cT] at h;unfold ltL at h;by_cases e2:u.2=v.2
   ·have e3:(u.2==v.2)=true:=by simpa using e2
    rw[e3,cT] at h;cases h
   ·have e3:(u.2==v.2)=false:=by simpa using e2
    rw[e3,cF,dE] at h;exact .inl ⟨e,h⟩
  ·have e1:(u.1==v.1)=false:=by simpa using e
   rw[e1,cF,dE] at h;exact .inr h
 rcases this with ⟨e1,e2⟩ | e
 ·rw[e1] at h1;omega
 ·have h3:u.1+1≤v.1:=by omega
  have h4:(u.1+1)*l.2.2≤v.1*l.2.2:=Ajy h3 (by have:=hl.c1;omega)
  rw[AkI] at h4;omega
theorem AaJ {l:Lt} (hl:IsL l) {v:Vc} (hv:Aw l v=true):(Ac l)[B9 l v]? = some v:=by
 have h:=GS hl v;rw[AiI h];congr 1;have hm:(Ac l)[B9 l v]∈Ac l:=gM h;have hc:=FZ hm;exact TZ hl (BS.2 (by omega)) hv (B1 hl h)
theorem Ci {l:Lt} {v:Vc} (h:v∈Ac l):Aw l v=true:=by
 have:=FZ h;exact BS.2 (by omega)
theorem LB {l:Lt} (hl:IsL l) {q:Nat} (hq:q≤(Ac l).length) {v:Vc}:v∈(Ac l).take q↔Aw l v=true∧B9 l v<q:=by
 constructor
 ·intro h;obtain⟨i,hi,rfl⟩:=AjX h;rw[Ajv] at hi;rw[List.getElem_take];have hi2:i<(Ac l).length:=by omega
  exact⟨Ci (gM hi2),by rw[B1 hl hi2];omega⟩
 ·rintro⟨h1,h2⟩
  have h3:=AaJ hl h1;refine Ai0 (i:=B9 l v) ?_;rw[Ai6,if_pos h2,h3]
theorem Va {α:Type} {p:α→Bool} {C:List α} (h:C.any p=false):CE p 0 C = -1:=by
 rcases Ho p C 0 with ⟨h1,_⟩ | ⟨k,h1,_,_,a,h4,h5⟩
 ·exact h1
 ·rw[Ali] at h;exact absurd h5 (h a (Ai0 h4))
theorem PE {α:Type} (p:α→Bool):∀ (C D:List α) (q:Nat),CE p q (C++D)=bif C.any p then CE p q C else CE p (q+C.length) D
 | [],D,q=>by simp
 | a :: C,D,q=>by
  have ih:=PE p C D (q+1);simp only[Aky,CE,List.any_cons,Ajc];cases h:p a
  ·rw[cF,cF,AjQ,ih];have e:q+1+C.length=q+(C.length+1):=by omega
   rw[e]
  ·rfl
def E2 (l:Lt) (i:Int) (o:List Vc) (s:List Int):List Int:=o.foldl (fun s u=>s.set (B9 l u) i) s
theorem JU (l:Lt) (i:Int):∀ (o:List Vc) (s:List Int),(E2 l i o s).length=s.length
 | [],_=>rfl
 | u :: o,s=>by
  show (E2 l i o (s.set (B9 l u) i)).length=_;rw[JU l i o,Ajd]
theorem JV {l:Lt} (hl:IsL l) (i:Int) {u:Vc} (hu:Aw l u=true):∀ (o:List Vc) (s:List Int),(∀ x∈o,Aw l x=true)→B9 l u<s.length→(E2 l i o s)[B9 l u]? = if u∈o then some i else s[B9 l u]?
 | [],s,_,_=>by simp[E2]
 | x :: o,s,ho,hs=>by
  show (E2 l i o (s.set (B9 l x) i))[B9 l u]? = _;rw[JV hl i hu o _ (fun y hy=>ho y (by simp[hy])) (by rw[Ajd];exact hs)]
  by_cases h1:u∈o
  ·rw[if_pos h1,if_pos (by simp[h1])]
  ·rw[if_neg h1];by_cases h2:u=x
   ·subst h2;rw[if_pos (by simp),AjI hs]
   ·rw[if_neg (by simp[h1,h2]),Aj7 (fun e=>h2 (TZ hl hu (ho x (by simp)) e.symm))]
def Ca (l:Lt) (g:List Mo) (q:Nat):List (List Vc):=(((Ac l).take q).filter (DF l g)).map (Bh l g)
theorem JW {f:Int} {l:Lt} {g:List Mo} (h:Cy f l g) {q:Nat} (hq:q≤(Ac l).length) {u:Vc}:(Ca l g q).any (fun o=>o.contains u)=true↔∃ r,Aw l r=true∧B9 l r<q∧DF l g r=true∧u∈Bh l g r:=by
 unfold Ca;rw[Akb];constructor
 ·rintro⟨o,ho,hu⟩
  obtain⟨r,hr,rfl⟩:=Ai9.1 ho;obtain⟨h1,h2⟩:=AjK.1 hr;obtain⟨h3,h4⟩:=(LB h.la hq).1 h1;exact⟨r,h3,h4,h2,AjD.1 hu⟩
 ·rintro⟨r,h1,h2,h3,h4⟩
  exact⟨_,Ai9.2 ⟨r,AjK.2 ⟨(LB h.la hq).2 ⟨h1,h2⟩,h3⟩,rfl⟩,AjD.2 h4⟩
theorem X5 {f:Int} {l:Lt} {g:List Mo} (h:Cy f l g) {q:Nat} (hq:q<(Ac l).length):(Ca l g q).any (fun o=>o.contains (Ac l)[q])=!DF l g (Ac l)[q]:=by
 have hv:Aw l (Ac l)[q]=true:=Ci (gM hq);have hn:=B1 h.la hq;cases hr:DF l g (Ac l)[q]
 ·rw[nF];refine (JW h (by omega)).2 ?_
  obtain⟨w,h1,h2,h3,h4⟩:=AeF h hv;refine⟨w,h2,?_,h1,h3⟩;rcases h4 with e | e
  ·rw[e,hr] at h1;cases h1
  ·have:=AeG h.la h2 hv e;omega
 ·rw[nT];cases hx:(Ca l g q).any (fun o=>o.contains (Ac l)[q])
  ·rfl
  ·obtain⟨r,h1,h2,h3,h4⟩:=(JW h (by omega)).1 hx
   have:=T9 h h1 hv h3 hr h4;rw[this,hn] at h2;omega
theorem Fy {l:Lt} {g:List Mo} {q:Nat} (hq:q<(Ac l).length):Ca l g (q+1)=bif DF l g (Ac l)[q] then Ca l g q++[Bh l g (Ac l)[q]] else Ca l g q:=by
 unfold Ca;rw[tS hq,AkF,Ak0];cases hr:DF l g (Ac l)[q]<;>simp[hr]
theorem X6 (l:Lt) (g:List Mo) (q:Nat):(Ca l g q).length≤q:=by
 unfold Ca;rw[Ai1];refine AiX (Aj2 _ _) ?_;simp[Ajv];omega
theorem X7 {f:Int} {l:Lt} {g:List Mo} (h:Cy f l g) {q:Nat} (hq:q<(Ac l).length) (hr:DF l g (Ac l)[q]=true) {u:Vc} (hu:Aw l u=true) :
  CE (fun o=>o.contains u) 0 (Ca l g q++[Bh l g (Ac l)[q]])=if u∈Bh l g (Ac l)[q] then ((Ca l g q).length:Int) else CE (fun o=>o.contains u) 0 (Ca l g q):=by
 have hv:Aw l (Ac l)[q]=true:=Ci (gM hq);rw[PE];by_cases hm:u∈Bh l g (Ac l)[q]
 ·rw[if_pos hm];have hno:¬ (Ca l g q).any (fun o=>o.contains u)=true:=by
   intro hx;obtain⟨r,h1,h2,h3,h4⟩:=(JW h (by omega)).1 hx
   have h5:(Ac l)[q]∈Bh l g r:=Fx h h4 (GW h hv hm);have h6:=T9 h h1 hv h3 hr h5;rw[h6,B1 h.la hq] at h2;omega
  have hno:(Ca l g q).any (fun o=>o.contains u)=false:=by simpa using hno
  rw[hno,cF];simp only[CE,AjD.2 hm,cT];omega
 ·rw[if_neg hm];by_cases hx:(Ca l g q).any (fun o=>o.contains u)=true
  ·rw[hx,cT]
  ·have hx:(Ca l g q).any (fun o=>o.contains u)=false:=by simpa using hx
   rw[hx,cF,Va hx];have:(Bh l g (Ac l)[q]).contains u=false:=by
    cases hc:(Bh l g (Ac l)[q]).contains u
    ·rfl
    ·exact absurd (AjD.1 hc) hm
   simp only[CE,this,cF]
def PF (l:Lt) (g:List Mo):List Int:=(Ac l).map fun v=>CE (fun o=>o.contains v) 0 (BF l g)
theorem PG (l:Lt) (g:List Mo):Ca l g (Ac l).length=BF l g:=by
 unfold Ca BF X3;rw[Aj0]
structure Num (l:Lt) (g:List Mo) (q:Nat) (s:List Int):Prop where
 len:s.length=(Ac l).length
 get:∀ u,Aw l u=true→s[B9 l u]? = some (CE (fun o=>o.contains u) 0 (Ca l g q))
theorem Num.all {l:Lt} (hl:IsL l) {g:List Mo} {s:List Int} (h:Num l g (Ac l).length s):s=PF l g:=by
 apply AjJ
 intro k;unfold PF;rw[AiP];by_cases hk:k<(Ac l).length
 ·have hc:Aw l (Ac l)[k]=true:=Ci (gM hk);have:=h.get _ hc;rw[B1 hl hk,PG] at this;rw[this,AiI hk];rfl
 ·rw[AiW (by rw[h.len];omega),AiW (by omega)]
  rfl
theorem Vb {f:Int} {l:Lt} {g:List Mo} (h:Cy f l g) {q17:Int} {C:List (List Vc)} {q19 y:List Vc→Int→List Int} {s0:List Int} {y3:List Vc} {y20:Int} {o:List Vc} (ho:∀ u∈o,Aw l u=true) (hol:o.length≤768) (hC:C.length≤1000) {L:Int→List (List Vc)→List Int→Option (List (List Vc)×List Int)} {s:List Int} (hs:s.length=(Ac l).length) :
  GH KK l g q17 C s0 y3 y20 o L KK 0 s=L (w (q17+1)) (C++[o]) (E2 l (C.length:Int) o s):=by
 have hh:=AZ (R:=List (List Vc)×List Int) (body:=fun L' x=>Fo KK l g q17 C s0 y3 y20 o L (fun v0 v1=>L' (v0,v1)) x.1 x.2) o (fun q s=>((q:Int),s)) (fun s u=>s.set (B9 l u) (C.length:Int)) (fun s=>L (w (q17+1)) (C++[o]) s) (fun q s=>s.length=(Ac l).length)
  (fun L' q s hq hi=>by
   refine⟨by rw[Ajd];exact hi,?_⟩
   show Fo KK l g q17 C s0 y3 y20 o L (fun v0 v1=>L' (v0,v1)) (q:Int) s=_;unfold Fo;have hlt:=GS h.la o[q];rw[in1 hq,in0,gd hq];simp only[aS,cT];rw[Lz h.la (ho _ (gM hq)),oB,in0,in1 (show B9 l o[q]<s.length by omega),As (by omega)]
   have e1:((0:Int)+((B9 l o[q]:Nat):Int)).toNat=B9 l o[q]:=by omega
   simp only[aS,cT,e1])
  (fun L' s hi=>by
   show Fo KK l g q17 C s0 y3 y20 o L (fun v0 v1=>L' (v0,v1)) (o.length:Int) s=_;unfold Fo;rw[AX,cF,Rn (by simp;omega),cT]) KK 0 s (by omega) (by simp only[KK];omega) hs
 unfold GH;rw[AiR] at hh;exact hh
theorem PH {f:Int} {l:Lt} {g:List Mo} (h:Cy f l g):W5 KK l g=some (BF l g,PF l g):=by
 have hN:=Fp h.la;have hN1:1≤(Ac l).length:=by
  have:=GS h.la (0,0);omega
 obtain⟨r,⟨hr1,hr2⟩,hh⟩:=GT (X:=Int×List (List Vc)×List Int) (R:=List (List Vc)×List Int) (body:=fun L x=>CZ KK l g (Ac l) (fun c0 c1 c2 c3 c4 d0 d1=>GH KK l g c0 c1 c2 (Ac l) c3 c4 (fun v0 v1 v2=>L (v0,v1,v2)) KK d0 d1) (fun v0 v1 v2=>L (v0,v1,v2)) x.1 x.2.1 x.2.2) (Ac l).length
  (fun q x=>x.1=(q:Int)∧x.2.1=Ca l g q∧Num l g q x.2.2) (fun r=>r.1=BF l g∧r.2=PF l g)
  (fun L q x hq hP=>by
   obtain⟨c,C,s⟩:=x;obtain⟨rfl,rfl,hNm⟩:=hP;simp only at hNm;have hv:Aw l (Ac l)[q]=true:=Ci (gM hq);have hn:=B1 h.la hq;have hsl:=hNm.len;have hg:=hNm.get _ hv;rw[hn] at hg;have hgd:s.getD ((0:Int)+(q:Int)).toNat 0=CE (fun o=>o.contains (Ac l)[q]) 0 (Ca l g q):=by
    have e1:((0:Int)+(q:Int)).toNat=q:=by omega
    rw[e1,AiZ,hg];rfl
   have hbody:∀ (I:Int→List (List Vc)→List Int→Int→List Vc→Int→List Int→Option (List (List Vc)×List Int)) (L':Int→List (List Vc)→List Int→Option (List (List Vc)×List Int)),CZ KK l g (Ac l) I L' (q:Int) (Ca l g q) s=bif DF l g (Ac l)[q] then I (q:Int) (Ca l g q) s (q:Int) (Bh l g (Ac l)[q]) 0 s else L' ((q+1:Nat):Int) (Ca l g q) s:=by
    intro I L';unfold CZ;rw[in1 hq,in0,gd hq];simp only[aS,cT];rw[Lz h.la hv,oB,hn,in0,in1 (show q<s.length by omega),hgd,E0,X5 h hq,As (by omega)]
    simp only[aS,cT];rw[Rr h.la (by have:=h.len;omega) h.good (GQ h.la hv),oB]
    cases DF l g (Ac l)[q]<;>rfl
   cases hrp:DF l g (Ac l)[q]
   ·refine⟨(((q+1:Nat):Int),Ca l g q,s),⟨rfl,?_,⟨hsl,fun u hu=>?_⟩⟩,?_⟩
    ·rw[Fy hq,hrp];rfl
    ·rw[Fy hq,hrp];exact hNm.get u hu
    ·show CZ KK l g (Ac l) _ _ (q:Int) (Ca l g q) s=_;rw[hbody,hrp];rfl
   ·refine⟨(((q+1:Nat):Int),Ca l g q++[Bh l g (Ac l)[q]],E2 l ((Ca l g q).length:Int) (Bh l g (Ac l)[q]) s),⟨rfl,?_,⟨by rw[JU];exact hsl,fun u hu=>?_⟩⟩,?_⟩
    ·rw[Fy hq,hrp];rfl
    ·rw[Fy hq,hrp,cT,X7 h hq hrp hu,JV h.la _ hu _ _ (fun x hx=>CH h hx) (by rw[hsl];exact GS h.la u)]
     by_cases hm:u∈Bh l g (Ac l)[q]
     ·rw[if_pos hm,if_pos hm]
     ·rw[if_neg hm,if_neg hm];exact hNm.get u hu
    ·show CZ KK l g (Ac l) _ _ (q:Int) (Ca l g q) s=_;rw[hbody,hrp,cT,Vb h (q19:=fun _ _=>[]) (y:=fun _ _=>[]) (fun u hu=>CH h hu) (by have:=Pz l g (Ac l)[q];have:=h.len;omega) (by have:=X6 l g q;omega) hsl,As (by omega)])
  (fun L x hP=>by
   obtain⟨c,C,s⟩:=x;obtain⟨rfl,rfl,hNm⟩:=hP;refine⟨(Ca l g (Ac l).length,s),⟨PG l g,hNm.all h.la⟩,?_⟩;show CZ KK l g (Ac l) _ _ ((Ac l).length:Int) (Ca l g (Ac l).length) s=_;unfold CZ;rw[AX,cF]) KK 0 (0,[],List.replicate (Ac l).length (-1)) (by omega) (by simp only[KK];omega)
  ⟨rfl,rfl,⟨by simp,fun u hu=>by
   rw[Akc,if_pos (GS h.la u)];rfl⟩⟩
 unfold W5 W4 WJ;simp only[oB];rw[Aez h.la,U9 hN1 (by omega),oB,XB h.la,oB]
 refine hh.trans ?_;rw[← hr1,← hr2]
theorem NE {f:Int} {l:Lt} {g:List Mo} (h:Cy f l g):WD KK l g=some (BF l g):=by
 have hN:=Fp h.la;have hh:=AZ (R:=List (List Vc)) (body:=fun L x=>Hj KK l g (Ac l) (fun v0 v1=>L (v0,v1)) x.1 x.2) (Ac l) (fun q s=>((q:Int),s)) (fun s v=>bif DF l g v then s++[Bh l g v] else s) some (fun q s=>s.length≤q)
  (fun L q s hq hi=>by
   refine⟨by cases DF l g (Ac l)[q]<;>simp<;>omega,?_⟩
   show Hj KK l g (Ac l) (fun v0 v1=>L (v0,v1)) (q:Int) s=_;have hv:Aw l (Ac l)[q]=true:=Ci (gM hq);obtain⟨x,t,ho,_⟩:=JT h hv;unfold Hj;rw[in1 hq,in0,gd hq];simp only[aS,cT];rw[PA h.la (by have:=h.len;omega) h.good (GQ h.la hv),oB,ho]
   have e1:(decide (0≤(0:Int))&&decide ((0:Int)<(((x :: t:List Vc).length:Nat):Int)))=true:=by
    have:(0:Int)<(((x :: t:List Vc).length:Nat):Int):=by simp only[Ajc];omega
    rw[dT this];rfl
   have e2:((x :: t:List Vc).getD ((0:Int)+(0:Int)).toNat (0,0))=x:=rfl;rw[e1,cT,e2,XX,Rn (by simp;omega),As (by omega)]
   have e3:DF l g (Ac l)[q]=(x==(Ac l)[q]):=by
    unfold DF;rw[ho];rfl
   rw[e3];cases x==(Ac l)[q]<;>rfl)
  (fun L s hi=>by
   show Hj KK l g (Ac l) (fun v0 v1=>L (v0,v1)) ((Ac l).length:Int) s=_;unfold Hj;rw[AX,cF]) KK 0 [] (by omega) (by simp only[KK];omega) (by simp)
 unfold WD WC QP;rw[O7 h.la,oB];rw[AiR] at hh;refine Eq.trans hh (congrArg some ?_);rw[D8,Ai3];rfl
end Go.Proofs.YteheolldcpjkcaaGreat.X
