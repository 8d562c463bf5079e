/- Plain facts: marks written into lists, and marks found again. -/
import Derived.Test.YtelgaemfnhnbmaaGreatDoorQtME
import Derived.Test.YtelgaemfnhnbmaaGreatDoorQzXLib
namespace Go.Proofs.YtelgaemfnhnbmaaGreatDoor.X
open Go
set_option linter.unusedSimpArgs false
set_option linter.unusedVariables false
theorem iter_ex {X R:Type} {body:(X→Option R)→X→Option R} (n:Nat) (P:Nat→X→Prop) (Q:R→Prop) (h1:∀ L q x,q<n→P q x→∃ x',P (q+1) x'∧body L x=L x') (h2:∀ L x,P n x→∃ r,Q r∧body L x=some r):∀ fuel q x,q≤n→n-q<fuel→P q x→∃ r,Q r∧iter body fuel x=some r
 | 0,q,x,_,h,_=>by omega
 | fuel+1,q,x,hq,h,hp=>by
  by_cases hlt:q<n
  ·obtain⟨x',hp',e⟩:=h1 (iter body fuel) q x hlt hp;obtain⟨r,hr,e2⟩:=iter_ex n P Q h1 h2 fuel (q+1) x' hlt (by omega) hp'
   exact⟨r,hr,by show body (iter body fuel) x=_;rw[e,e2]⟩
  ·have e:q=n:=by omega
   subst e;exact h2 (iter body fuel) x hp
def MkI (k:Int) (s:List Int) (n:Nat):Prop:=∀ i,i<n→s[i]? = some (k+(i:Int))
def MkV2 (k:Int) (s:List Vc) (n:Nat):Prop:=∀ i,i<n→s[i]? = some (k+2*(i:Int),k+1+2*(i:Int))
def SI (s:List Vc):Prop:=s.Pairwise fun a b=>ltV a b=true
theorem ltV_irrefl (a:Vc):ltV a a=false:=ltL_irrefl _
theorem ltV_trans {a b c:Vc} (h:ltV a b=true) (k:ltV b c=true):ltV a c=true:=ltL_trans h k
theorem ltV_tri {a b:Vc} (h:ltV a b=false) (k:ltV b a=false):a=b:=numV_inj (ltL_tri rfl h k)
theorem ltV_asymm {a b:Vc} (h:ltV a b=true):ltV b a=false:=by
 cases hb:ltV b a
 ·rfl
 ·have:=ltV_trans h hb;rw[ltV_irrefl] at this;cases this
theorem SI_unique:∀ {a b:List Vc},SI a→SI b→(∀ x,x∈a↔x∈b)→a=b
 | [],[],_,_,_=>rfl
 | [],y :: b,_,_,h=>by have:=(h y).2 (by simp);cases this
 | x :: a,[],_,_,h=>by have:=(h x).1 (by simp);cases this
 | x :: a,y :: b,ha,hb,h=>by
  have ha':=List.pairwise_cons.1 ha;have hb':=List.pairwise_cons.1 hb;have e:x=y:=by
   rcases List.mem_cons.1 ((h x).1 (by simp)) with e | e
   ·exact e
   ·rcases List.mem_cons.1 ((h y).2 (by simp)) with e2 | e2
    ·exact e2.symm
    ·have h1:=hb'.1 x e;have h2:=ha'.1 y e2;rw[ltV_asymm h1] at h2;cases h2
  subst e;refine congrArg (x :: ·) (SI_unique ha'.2 hb'.2 fun z=>⟨fun hz=>?_,fun hz=>?_⟩)
  ·rcases List.mem_cons.1 ((h z).1 (by simp[hz])) with e | e
   ·subst e;have:=ha'.1 z hz;rw[ltV_irrefl] at this;cases this
   ·exact e
  ·rcases List.mem_cons.1 ((h z).2 (by simp[hz])) with e | e
   ·subst e;have:=hb'.1 z hz;rw[ltV_irrefl] at this;cases this
   ·exact e
def insP (v:Vc):List Vc→List Vc
 | []=>[v]
 | a :: r=>bif ltV a v then a :: insP v r else (bif a==v then a :: r else v :: a :: r)
theorem insP_mem (v:Vc):∀ (s:List Vc) (x:Vc),x∈insP v s↔x=v∨x∈s
 | [],x=>by simp[insP]
 | a :: r,x=>by
  simp only[insP];cases ltV a v
  ·rw[cF];cases h:a==v
   ·rw[cF];simp
   ·rw[cT];have:=beq_iff_eq.1 h;subst this;simp
  ·rw[cT];simp only[List.mem_cons,insP_mem v r x];constructor<;>rintro (h | h | h)<;>simp[h]
theorem insP_SI (v:Vc):∀ {s:List Vc},SI s→SI (insP v s)
 | [],_=>by simp[insP,SI]
 | a :: r,h=>by
  have h':=List.pairwise_cons.1 h;simp only[insP];cases hl:ltV a v
  ·rw[cF];cases he:a==v
   ·rw[cF];have hne:a≠v:=by simpa using he
    have hva:ltV v a=true:=by
     cases hv:ltV v a
     ·exact absurd (ltV_tri hl hv) hne
     ·rfl
    refine List.pairwise_cons.2 ⟨fun b hb=>?_,h⟩;rcases List.mem_cons.1 hb with e | e
    ·subst e;exact hva
    ·exact ltV_trans hva (h'.1 b e)
   ·exact h
  ·rw[cT];refine List.pairwise_cons.2 ⟨fun b hb=>?_,insP_SI v h'.2⟩;rcases (insP_mem v r b).1 hb with e | e
   ·subst e;exact hl
   ·exact h'.1 b e
theorem insP_len (v:Vc):∀ s:List Vc,(insP v s).length≤s.length+1
 | []=>by simp[insP]
 | a :: r=>by
  have:=insP_len v r;simp only[insP];cases ltV a v
  ·rw[cF];cases a==v<;>simp
  ·rw[cT];simpa using this
theorem eqV2 (u v:Vc):((u.1==v.1)&&(u.2==v.2))=(u==v):=by
 rw[Bool.eq_iff_iff];simp only[aT,beq_iff_eq,Prod.ext_iff]
theorem l01Insert_loop {s:List Vc} (hs:s.length≤1000000) (v:Vc):∀ (n q:Nat),q≤s.length→s.length-q<n→f137_l3 KK s v n (q:Int)=some (s.take q++insP v (s.drop q))
 | 0,q,_,h=>by omega
 | n+1,q,hq,hn=>by
  show f137_b3 KK s v (fun v0=>f137_l3 KK s v n v0) (q:Int)=_;have lim1:Nat.ble (0+((s.take ((0:Int)+(q:Int)).toNat).drop 0).length) (lim 16)=true:=blim16 (by simp;omega)
  have lim2:Nat.ble (([]++((s.take ((0:Int)+(q:Int)).toNat).drop 0)).length+[v].length) (lim 16)=true:=blim16 (by simp;omega)
  have lim3:Nat.ble ((([]++((s.take ((0:Int)+(q:Int)).toNat).drop 0))++[v]).length+((s.take ((0:Int)+(s.length:Int)).toNat).drop ((0:Int)+(q:Int)).toNat).length) (lim 16)=true:=blim16 (by simp;omega)
  have c1:(decide (0≤(0:Int))&&true&&decide ((q:Int)≤(s.length:Int)))=true:=by simp;omega
  have c2:(true&&decide ((q:Int)≤(s.length:Int))&&decide ((s.length:Int)≤(s.length:Int)))=true:=by simp;omega
  have fin:(([]++((s.take ((0:Int)+(q:Int)).toNat).drop 0))++[v])++((s.take ((0:Int)+(s.length:Int)).toNat).drop ((0:Int)+(q:Int)).toNat)=s.take q++v :: s.drop q:=by
   have e1:((0:Int)+(q:Int)).toNat=q:=by omega
   have e2:((0:Int)+(s.length:Int)).toNat=s.length:=by omega
   rw[e1,e2];simp
  unfold f137_b3;by_cases hlt:q<s.length
  ·rw[in1 hlt,in0,gd hlt];simp only[nT,Bool.false_or,Bool.or_false,aS,oT,tO,cT];rw[l01Less_eq,oB,w_succ (by omega),eqV2,dC hlt]
   simp only[insP];cases h1:ltV s[q] v
   ·rw[cF,cF];cases h2:s[q]==v
    ·rw[cF,cF,c1,cT,lim1,cT,lim2,cT,c2,cT,lim3,cT,fin,dC hlt]
    ·simp only[cT];rw[← dC hlt,List.take_append_drop]
   ·simp only[cT];rw[l01Insert_loop hs v n (q+1) (by omega) (by omega),tS hlt,List.append_assoc]
    rfl
  ·have:q=s.length:=by omega
   subst this;rw[out1,in0];simp only[nF,tO,oT,cT,cF,oB];rw[c1,cT,lim1,cT,lim2,cT,c2,cT,lim3,cT,fin];simp[insP]
theorem l01Insert_eq {s:List Vc} (hs:s.length≤1000000) (v:Vc):f137G KK s v=some (insP v s):=by
 have:=l01Insert_loop hs v KK 0 (by omega) (by simp only[KK];omega)
 unfold f137G f137_g;exact this.trans (by simp)
def orbS (l:Lt) (g:List Mo) (v:Vc):List Vc:=g.foldl (fun s m=>insP (mvS l m v) s) []
theorem fold_ins (f:Mo→Vc):∀ (g:List Mo) (s:List Vc),SI s→SI (g.foldl (fun s m=>insP (f m) s) s)∧(∀ x,x∈g.foldl (fun s m=>insP (f m) s) s↔x∈s∨∃ m∈g,x=f m)∧(g.foldl (fun s m=>insP (f m) s) s).length≤s.length+g.length
 | [],s,h=>⟨h,fun x=>by simp,Nat.le_refl _⟩
 | m :: g,s,h=>by
  obtain⟨h1,h2,h3⟩:=fold_ins f g (insP (f m) s) (insP_SI _ h);refine⟨h1,fun x=>?_,?_⟩
  ·rw[List.foldl_cons,h2,insP_mem];simp only[List.mem_cons,exists_eq_or_imp];constructor
   ·rintro ((h | h) | h)
    ·exact .inr (.inl h)
    ·exact .inl h
    ·exact .inr (.inr h)
   ·rintro (h | h | h)
    ·exact .inl (.inr h)
    ·exact .inl (.inl h)
    ·exact .inr h
  ·rw[List.foldl_cons];have:=insP_len (f m) s;rw[List.length_cons];omega
theorem orbS_SI (l:Lt) (g:List Mo) (v:Vc):SI (orbS l g v):=(fold_ins _ g [] List.Pairwise.nil).1
theorem orbS_mem {l:Lt} {g:List Mo} {v x:Vc}:x∈orbS l g v↔∃ m∈g,x=mvS l m v:=by
 have:=(fold_ins (fun m=>mvS l m v) g [] List.Pairwise.nil).2.1 x;unfold orbS;rw[this];simp
theorem orbS_len (l:Lt) (g:List Mo) (v:Vc):(orbS l g v).length≤g.length:=by
 have:=(fold_ins (fun m=>mvS l m v) g [] List.Pairwise.nil).2.2;unfold orbS;simpa using this
theorem l07Orbit_eq {l:Lt} (hl:IsL l) {g:List Mo} (hn:g.length≤1000) (hg:∀ m∈g,GoodG m) {v:Vc} (hv:Sv v):f81G KK l g v=some (orbS l g v):=by
 have h:=iter_fold (R:=List Vc) (body:=fun L x=>f81_b4 KK l g v (fun v0 v1=>L (v0,v1)) x.1 x.2) g (fun q s=>((q:Int),s)) (fun s m=>insP (mvS l m v) s) some (fun q s=>s.length≤q)
  (fun L q s hq hi=>by
   refine⟨by have:=insP_len (mvS l g[q] v) s;omega,?_⟩
   show f81_b4 KK l g v (fun v0 v1=>L (v0,v1)) (q:Int) s=_;unfold f81_b4;rw[in1 hq,in0,gd hq];simp only[aS,cT];rw[show (((g[q].1.1,g[q].1.2.1,g[q].1.2.2),g[q].2):Mo)=g[q] from rfl,l07Move_gen hl (hg _ (gM hq)) hv,oB,l01Insert_eq (by omega),oB,w_succ (by omega)])
  (fun L s hi=>by
   show f81_b4 KK l g v (fun v0 v1=>L (v0,v1)) (g.length:Int) s=_;unfold f81_b4;rw[out1,cF]) KK 0 [] (by omega) (by simp only[KK];omega) (by simp)
 unfold f81G f81_g f81_l4;rw[List.drop_zero] at h;exact h
theorem cmp_lt (a b:Vc):decide (cmpL (numV a) (numV b)<0)=ltV a b:=by
 have h:=cmpL_lt (numV a) (numV b);unfold ltV;by_cases h0:cmpL (numV a) (numV b)<0
 ·have:decide (cmpL (numV a) (numV b)≥0)=false:=dF (by omega)
  rw[this] at h;rw[dT h0];cases hx:ltL (numV a) (numV b)
  ·rw[hx] at h;cases h
  ·rfl
 ·have:decide (cmpL (numV a) (numV b)≥0)=true:=dT (by omega)
  rw[this] at h;rw[dF h0];cases hx:ltL (numV a) (numV b)
  ·rfl
  ·rw[hx] at h;cases h
theorem cmp_all (a b:Vc):f104G KK a b=some (cmpL (numV a) (numV b)):=compareVecs_eq a b
theorem cmp_ltOf:(ltOf fun x y=>((fun z7 z8=>f104G KK z7 z8) x y:Option Int).getD 0)=ltV:=by
 funext a b;unfold ltOf;simp only[cmp_all,Option.getD_some,cmp_lt]
theorem swo_V:Go.Sort.SWO ltV where
 irrefl:=ltV_irrefl
 trans x y z h k:=ltV_trans h k
 ntrans x y z h k:=by
  cases hxz:ltV x z
  ·rfl
  ·cases hyx:ltV y x
   ·have:=ltV_tri h hyx;subst this;rw[hxz] at k;cases k
   ·rw[ltV_trans hyx hxz] at k;cases k
theorem sortVec_eq {s:List Vc} (hs:s.length≤1000000):f115G KK s (fun z7 z8=>f104G KK z7 z8)=some (s.mergeSort fun x y=>!ltV y x):=by
 unfold f115G sortF;rw[if_pos]
 ·rw[cmp_ltOf]
 ·refine⟨⟨fun x y=>by simp only;rw[cmp_all];rfl,?_,?_⟩,by omega⟩
  ·rw[cmp_ltOf];exact swo_V
  ·rw[cmp_ltOf];exact fun x y h k=>ltV_tri h k
def dd (s:List Vc) (a:Vc):List Vc:=bif s.getLast? == some a then s else s++[a]
theorem dd_last (s:List Vc) (a:Vc):(dd s a).getLast? = some a:=by
 unfold dd;cases h:s.getLast? == some a
 ·simp
 ·simpa using h
theorem dd_eq {s:List Vc} {z a:Vc} (h:s.getLast? = some z):dd s a=bif a==z then s else s++[a]:=by
 unfold dd;rw[h];by_cases e:a=z
 ·subst e;simp
 ·have e1:(a==z)=false:=by simpa using e
  have e2:((some z:Option Vc)==some a)=false:=by
   rw[bN];exact fun h=>e (Option.some.inj h).symm
  rw[e1,e2]
theorem fold_dd:∀ (l s:List Vc),SI s→(∀ a∈s,∀ b∈l,ltV b a=false)→l.Pairwise (fun x y=>(!ltV y x)=true)→SI (l.foldl dd s)∧∀ x,x∈l.foldl dd s↔x∈s∨x∈l
 | [],s,h,_,_=>⟨h,fun x=>by simp⟩
 | a :: l,s,h,h1,h2=>by
  have h2':=List.pairwise_cons.1 h2;have hmem:∀ x,x∈dd s a↔x∈s∨x=a:=by
   intro x;unfold dd;cases hc:s.getLast? == some a
   ·simp
   ·have:a∈s:=List.mem_of_getLast? (by simpa using hc)
    simp only[cT];exact⟨.inl,fun h=>h.elim id fun e=>e▸this⟩
  have hsi:SI (dd s a):=by
   unfold dd;cases hc:s.getLast? == some a
   ·rw[cF];refine List.pairwise_append.2 ⟨h,by simp,fun b hb c hc'=>?_⟩
    rcases List.mem_singleton.1 hc' with rfl;have hle:=h1 b hb c (by simp)
    cases hbc:ltV b c
    ·have e:=ltV_tri hbc hle;subst e;exfalso
     -- b stands in s, so it is the last
     obtain⟨z,hz⟩:∃ z,s.getLast? = some z:=by
      cases hs:s.getLast? with
      | none=>rw[List.getLast?_eq_none_iff] at hs;subst hs;cases hb
      | some z=>exact⟨z,rfl⟩
     obtain⟨t,rfl⟩:=List.getLast?_eq_some_iff.1 hz;have hne:z≠b:=fun e=>by subst e;rw[hz] at hc;simp at hc
     rcases List.mem_append.1 hb with e | e
     ·have h3:=(List.pairwise_append.1 h).2.2 b e z (by simp)
      have h4:=h1 z (by simp) b (by simp)
      rw[h3] at h4;cases h4
     ·exact hne (List.mem_singleton.1 e).symm
    ·rfl
   ·exact h
  obtain⟨h3,h4⟩:=fold_dd l (dd s a) hsi (fun x hx b hb=>by
   rcases (hmem x).1 hx with e | e
   ·exact h1 x e b (by simp[hb])
   ·subst e;have:=h2'.1 b hb;simpa using this) h2'.2
  refine⟨h3,fun x=>?_⟩;rw[List.foldl_cons,h4,hmem];simp only[List.mem_cons];constructor
  ·rintro ((h | h) | h)
   ·exact .inl h
   ·exact .inr (.inl h)
   ·exact .inr (.inr h)
  ·rintro (h | h | h)
   ·exact .inl (.inl h)
   ·exact .inl (.inr h)
   ·exact .inr h
theorem fold_dd_last (l:List Vc) {p:Nat} (hp:p<l.length):((l.take (p+1)).foldl dd []).getLast? = some l[p]:=by
 rw[tS hp,List.foldl_append];exact dd_last _ _
structure Cm (l:List Vc) (p m:Nat) (s:List Vc):Prop where
 len:s.length=l.length
 lt:m<p
 pl:p≤l.length
 kept:s.take m=(l.take p).foldl dd []
 rest:∀ i,p≤i+1→s[i]? = l[i]?
theorem compact_in {l:List Vc} (hl:l.length≤1000000) {k0:Nat}:∀ (n k2 m:Nat) (s:List Vc),1≤k2→Cm l (k0+k2) m s→l.length-(k0+k2)<n→f116_l9 KK l (k0:Int) n (m:Int) (k2:Int) s=some (l.foldl dd [])
 | 0,k2,m,s,_,_,h=>by omega
 | n+1,k2,m,s,hk,hC,hn=>by
  show f116_b9 KK l (k0:Int) (fun v0 v1 v2=>f116_l9 KK l (k0:Int) n v0 v1 v2) (m:Int) (k2:Int) s=_;have hlen:=hC.len;have hlt:=hC.lt;have hpl:=hC.pl;unfold f116_b9;by_cases hin:k0+k2<l.length
  ·have d1:decide ((k2:Int)<(((0:Int)+(l.length:Int))-((0:Int)+(k0:Int))))=true:=dT (by omega)
   have e1:w ((k2:Int)-1)=((k2-1:Nat):Int):=by rw[w_id (by omega) (by omega)];omega
   have d2:decide (((k2-1:Nat):Int)<(((0:Int)+(l.length:Int))-((0:Int)+(k0:Int))))=true:=dT (by omega)
   have i1:(((0:Int)+(k0:Int))+(k2:Int)).toNat=k0+k2:=by omega
   have i2:(((0:Int)+(k0:Int))+((k2-1:Nat):Int)).toNat=k0+k2-1:=by omega
   have i3:((0:Int)+(m:Int)).toNat=m:=by omega
   have g1:s.getD (k0+k2) ((0:Int),(0:Int))=l[k0+k2]:=by
    rw[List.getD_eq_getElem?_getD,hC.rest _ (by omega),List.getElem?_eq_getElem hin];rfl
   have g2:s.getD (k0+k2-1) ((0:Int),(0:Int))=l[k0+k2-1]:=by
    rw[List.getD_eq_getElem?_getD,hC.rest _ (by omega),List.getElem?_eq_getElem (by omega)];rfl
   have d3:decide ((m:Int)<(s.length:Int))=true:=dT (by omega)
   have hlast:(s.take m).getLast? = some l[k0+k2-1]:=by
    rw[hC.kept];have:=fold_dd_last l (p:=k0+k2-1) (by omega)
    rw[show k0+k2-1+1=k0+k2 by omega] at this
    exact this
   have htk:(l.take (k0+k2+1)).foldl dd []=dd (s.take m) l[k0+k2]:=by
    rw[tS hin,List.foldl_append,← hC.kept];rfl
   have wk:w ((k2:Int)+1)=((k2+1:Nat):Int):=w_succ (by omega)
   have wm:w ((m:Int)+1)=((m+1:Nat):Int):=w_succ (by omega)
   rw[d1,in0,e1,in0,d2,i1,i2,i3,g1,g2,d3,in0,wk,wm,eqV2];simp only[aS,cT];cases heq:l[k0+k2]==l[k0+k2-1]
   ·rw[nF,cT];refine compact_in hl n (k2+1) (m+1) _ (by omega) ⟨by simp[hlen],by omega,by omega,?_,fun i hi=>?_⟩ (by omega)
    ·rw[show k0+(k2+1)=k0+k2+1 by omega,htk]
     rw[dd_eq hlast,heq,cF];rw[tS (by simp;omega),List.take_set_of_le (by omega)]
     simp
    ·rw[List.getElem?_set_ne (by omega)]
     exact hC.rest i (by omega)
   ·rw[nT,cF];refine compact_in hl n (k2+1) m _ (by omega) ⟨hlen,by omega,by omega,?_,fun i hi=>hC.rest i (by omega)⟩ (by omega)
    rw[show k0+(k2+1)=k0+k2+1 by omega,htk]
    rw[dd_eq hlast,heq,cT]
  ·have hp:k0+k2=l.length:=by omega
   have d1:decide ((k2:Int)<(((0:Int)+(l.length:Int))-((0:Int)+(k0:Int))))=false:=dF (by omega)
   have c1:(decide (0≤(m:Int))&&decide ((m:Int)≤(s.length:Int))&&decide ((s.length:Int)≤(s.length:Int)))=true:=by simp;omega
   have i3:((0:Int)+(m:Int)).toNat=m:=by omega
   have hcl:m≤(clr s m (((0:Int)+(m:Int))+(((0:Int)+(s.length:Int))-((0:Int)+(m:Int)))).toNat ((0:Int),(0:Int))).length:=by
    unfold clr;simp only[lA,List.length_take];omega
   have c2:(decide (0≤(0:Int))&&decide ((0:Int)≤(m:Int))&&decide ((m:Int)≤((clr s m (((0:Int)+(m:Int))+(((0:Int)+(s.length:Int))-((0:Int)+(m:Int)))).toNat ((0:Int),(0:Int))).length:Int)))=true:=by
    simp only[aT,dE];omega
   rw[d1,cF,c1,cT,i3,c2,cT];have hk:=hC.kept;rw[hp,List.take_length] at hk;rw[← hk];unfold clr;rw[List.append_assoc,List.take_append_of_le_length (by simp;omega),List.take_take,Nat.min_self]
theorem compact_out {l:List Vc} (hl:l.length≤1000000):∀ (n k:Nat),1≤k→k≤l.length→l.take k=(l.take k).foldl dd []→l.length-k<n→f116_l7 KK l n (k:Int)=some (l.foldl dd [])
 | 0,k,_,_,_,h=>by omega
 | n+1,k,hk,hkl,ht,hn=>by
  show f116_b7 KK l (fun c0 d0 d1 d2=>f116_l9 KK l c0 KK d0 d1 d2) (fun v0=>f116_l7 KK l n v0) (k:Int)=_;unfold f116_b7;by_cases hin:k<l.length
  ·have e1:w ((k:Int)-1)=((k-1:Nat):Int):=by rw[w_id (by omega) (by omega)];omega
   have hk1:k-1<l.length:=by omega
   have c2:(true&&decide ((k:Int)≤(l.length:Int))&&decide ((l.length:Int)≤(l.length:Int)))=true:=by simp;omega
   rw[in1 hin,in0,e1,in0,in1 hk1,gd hin,gd hk1,eqV2,w_succ (by omega)]
   simp only[aS,cT];have hlast:((l.take k).foldl dd []).getLast? = some l[k-1]:=by
    have:=fold_dd_last l (p:=k-1) hk1;rw[show k-1+1=k by omega] at this
    exact this
   have htk:(l.take (k+1)).foldl dd []=dd ((l.take k).foldl dd []) l[k]:=by
    rw[tS hin,List.foldl_append];rfl
   cases heq:l[k]==l[k-1]
   ·rw[cF];refine compact_out hl n (k+1) (by omega) (by omega) ?_ (by omega)
    rw[htk];rw[dd_eq hlast,heq,cF,← ht,← tS hin]
   ·rw[cT,c2,cT];refine compact_in hl KK 1 k l (by omega) ⟨rfl,by omega,by omega,?_,fun i _=>rfl⟩ (by simp only[KK];omega)
    rw[htk];rw[dd_eq hlast,heq,cT];exact ht
  ·have:k=l.length:=by omega
   subst this;rw[out1,cF];rw[List.take_length] at ht;rw[← ht]
theorem compact_eq {l:List Vc} (hl:l.length≤1000000):f116G KK l=some (l.foldl dd []):=by
 unfold f116G f116_g;by_cases h:l.length<2
 ·rw[dT (by omega),cT]
  match l,h with
  | [],_=>rfl
  | [a],_=>rfl
 ·rw[dF (by omega),cF]
  refine compact_out hl KK 1 (by omega) (by omega) ?_ (by simp only[KK];omega)
  obtain⟨a,b,r,rfl⟩:∃ a b r,l=a :: b :: r:=by
   match l,h with
   | a :: b :: r,_=>exact⟨a,b,r,rfl⟩
   | [a],h=>simp at h
   | [],h=>simp at h
  rfl
theorem orbitOf_eq {l:Lt} (hl:IsL l) {g:List Mo} (hn:g.length≤1000) (hg:∀ m∈g,GoodG m) {v:Vc} (hv:Sv v):f62G KK l g v=some (orbS l g v):=by
 have h:=iter_fold (R:=List Vc) (body:=fun L x=>f62_b3 KK l g v (fun v0 v1=>L (v0,v1)) x.1 x.2) g (fun q s=>((q:Int),s)) (fun s m=>s++[mvS l m v]) (fun s=>some ((s.mergeSort fun x y=>!ltV y x).foldl dd [])) (fun q s=>s.length=q)
  (fun L q s hq hi=>by
   refine⟨by simp[hi],?_⟩
   show f62_b3 KK l g v (fun v0 v1=>L (v0,v1)) (q:Int) s=_;unfold f62_b3;rw[in1 hq,in0,gd hq];simp only[aS,cT];rw[show (((g[q].1.1,g[q].1.2.1,g[q].1.2.2),g[q].2):Mo)=g[q] from rfl,take_gen hl (hg _ (gM hq)) hv,oB,blim16 (by simp;omega),cT,w_succ (by omega)])
  (fun L s hi=>by
   show f62_b3 KK l g v (fun v0 v1=>L (v0,v1)) (g.length:Int) s=_;unfold f62_b3;rw[out1,cF,sortVec_eq (by omega),oB,compact_eq (by rw[List.length_mergeSort];omega),oB]) KK 0 [] (by omega) (by simp only[KK];omega) (by simp)
 unfold f62G f62_g f62_l3;rw[List.drop_zero] at h;refine Eq.trans h (congrArg some ?_);rw[foldl_push,List.nil_append];obtain⟨h1,h2⟩:=fold_dd ((g.map fun m=>mvS l m v).mergeSort fun x y=>!ltV y x) [] List.Pairwise.nil (fun a ha=>by cases ha) (List.pairwise_mergeSort (fun a b c h k=>by
   simp only[Bool.not_eq_true'] at h k ⊢;exact swo_V.ntrans c b a k h) (fun a b=>by
   cases h:ltV b a
   ·rfl
   ·rw[ltV_asymm h];rfl) _)
 refine SI_unique h1 (orbS_SI l g v) fun x=>?_;rw[h2,orbS_mem];simp only[List.not_mem_nil,false_or,List.mem_mergeSort,List.mem_map];exact⟨fun⟨m,hm,e⟩=>⟨m,hm,e.symm⟩,fun⟨m,hm,e⟩=>⟨m,hm,e.symm⟩⟩
theorem IsL_of {l:Lt} (h:okL l=true):IsL l:=okL_iff.1 h
def codeC (f:Int) (l:Lt) (g:List Mo) (b:Bool):Int:=if okF f&&okL l then (if b&&grpB f l g then 0 else 2) else 1
structure OrbG (f:Int) (l:Lt) (g:List Mo):Prop where
 la:IsL l
 pr:Pre f l g
 gr:grpB f l g=true
theorem codeC_0 {f:Int} {l:Lt} {g:List Mo} {b:Bool} (h:codeC f l g b=0):OrbG f l g∧b=true:=by
 unfold codeC at h;by_cases h1:(okF f&&okL l)=true
 ·rw[if_pos h1] at h;by_cases h2:(b&&grpB f l g)=true
  ·simp only[aT] at h1 h2;refine⟨⟨IsL_of h1.2,pre_of ?_,h2.2⟩,h2.1⟩;have:=h2.2;unfold grpB at this;simp only[aT] at this;exact this.1
  ·rw[if_neg h2] at h;omega
 ·rw[if_neg h1] at h;omega
theorem OrbG.good {f:Int} {l:Lt} {g:List Mo} (h:OrbG f l g):∀ m∈g,GoodG m:=fun m hm=>h.pr.good h.la hm
theorem OrbG.len {f:Int} {l:Lt} {g:List Mo} (h:OrbG f l g):g.length≤768:=h.pr.len h.la
theorem red_cong {l:Lt} (hl:IsL l) {u v:Vc}:redS l u=redS l v↔InL l (u.1-v.1,u.2-v.2):=by
 have ha:=hl.a1;have hc:=hl.c1;constructor
 ·intro h;have h1:(u.1-(u.2 / l.2.2)*l.2.1) % l.1=(v.1-(v.2 / l.2.2)*l.2.1) % l.1:=congrArg Prod.fst h;have h2:u.2 % l.2.2=v.2 % l.2.2:=congrArg Prod.snd h;have e1:=Int.mul_ediv_add_emod (u.1-(u.2 / l.2.2)*l.2.1) l.1;have e2:=Int.mul_ediv_add_emod (v.1-(v.2 / l.2.2)*l.2.1) l.1;have e3:=Int.mul_ediv_add_emod u.2 l.2.2;have e4:=Int.mul_ediv_add_emod v.2 l.2.2;rw[Int.mul_comm] at e1 e2 e3 e4;refine⟨(u.1-(u.2 / l.2.2)*l.2.1) / l.1-(v.1-(v.2 / l.2.2)*l.2.1) / l.1,u.2 / l.2.2-v.2 / l.2.2,Prod.ext ?_ ?_⟩
  ·show u.1-v.1=_;rw[Int.sub_mul,Int.sub_mul];omega
  ·have e5:=Int.sub_mul (u.2 / l.2.2) (v.2 / l.2.2) l.2.2;show u.2-v.2=(u.2 / l.2.2-v.2 / l.2.2)*l.2.2;omega
 ·rintro⟨i,j,h⟩
  have h1:u.1-v.1=i*l.1+j*l.2.1:=congrArg Prod.fst h;have h2:u.2-v.2=j*l.2.2:=congrArg Prod.snd h;have e2:u.2=v.2+j*l.2.2:=by omega
  have d:u.2 / l.2.2=v.2 / l.2.2+j:=by rw[e2,Int.add_mul_ediv_right _ _ (by omega)]
  refine Prod.ext ?_ ?_
  ·show (u.1-(u.2 / l.2.2)*l.2.1) % l.1=(v.1-(v.2 / l.2.2)*l.2.1) % l.1;refine emod_cong ⟨i,?_⟩;rw[d,Int.add_mul,Int.mul_comm l.1 i];omega
  ·show u.2 % l.2.2=v.2 % l.2.2;exact emod_cong ⟨j,by rw[Int.mul_comm];exact h2⟩
theorem InL_zero (l:Lt):InL l (0,0):=⟨0,0,by simp⟩
theorem InL_neg {l:Lt} {u:Vc} (hu:InL l u):InL l (-u.1,-u.2):=Clo_neg (InL_clo l) hu
theorem mulS_lin (m:Mt) (u v:Vc) (i j:Int):mulS m (i*u.1+j*v.1,i*u.2+j*v.2)=(i*(mulS m u).1+j*(mulS m v).1,i*(mulS m u).2+j*(mulS m v).2):=by
 unfold mulS;refine Prod.ext ?_ ?_<;>simp only[Int.mul_add,Int.mul_left_comm m.1,Int.mul_left_comm m.2.1,Int.mul_left_comm m.2.2.1,Int.mul_left_comm m.2.2.2]<;>omega
theorem mulS_sub (m:Mt) (u v:Vc):mulS m (u.1-v.1,u.2-v.2)=((mulS m u).1-(mulS m v).1,(mulS m u).2-(mulS m v).2):=by
 unfold mulS;refine Prod.ext ?_ ?_<;>simp only[Int.mul_sub]<;>omega
theorem InL_mul {l:Lt} (hl:IsL l) {m:Mt} (hs:stayS l m=true) {v:Vc} (hv:InL l v):InL l (mulS m v):=by
 unfold stayS at hs;simp only[aT,beq_iff_eq] at hs;have h1:=(redS_InL hl _).1 hs.1;have h2:=(redS_InL hl _).1 hs.2;obtain⟨i,j,rfl⟩:=hv;have e:=mulS_lin m (l.1,0) l.2 i j;have e2:((i*l.1+j*l.2.1,j*l.2.2):Vc)=(i*l.1+j*l.2.1,i*0+j*l.2.2):=by simp
 rw[e2];have e3:mulS m (i*l.1+j*l.2.1,i*0+j*l.2.2)=(i*(mulS m (l.1,0)).1+j*(mulS m l.2).1,i*(mulS m (l.1,0)).2+j*(mulS m l.2).2):=e;rw[e3];have a1:=InL_clo l (0,0) _ i (InL_zero l) h1;have a2:=InL_clo l _ _ j a1 h2;simpa using a2
theorem mulS_mm (m n:Mt) (v:Vc):mulS (mmS m n) v=mulS m (mulS n v):=by
 unfold mulS mmS;refine Prod.ext ?_ ?_<;>simp only[Int.mul_add,Int.add_mul,Int.mul_assoc]<;>omega
theorem mulS_one (v:Vc):mulS (1,0,0,1) v=v:=by
 unfold mulS;simp
def powM (m:Mt):Nat→Mt
 | 0=>(1,0,0,1)
 | k+1=>mmS m (powM m k)
theorem pow_all:((pmQ++pmH).all fun m=>(List.range 6).any fun k=>mmS (powM m k) m==(1,0,0,1))=true:=by decide +kernel
theorem InL_pow {l:Lt} (hl:IsL l) {m:Mt} (hs:stayS l m=true):∀ (k:Nat) {v:Vc},InL l v→InL l (mulS (powM m k) v)
 | 0,v,h=>by rw[powM,mulS_one];exact h
 | k+1,v,h=>by rw[powM,mulS_mm];exact InL_mul hl hs (InL_pow hl hs k h)
theorem InL_inv {l:Lt} (hl:IsL l) {m:Mt} (hm:m∈pmQ++pmH) (hs:stayS l m=true) {v:Vc} (h:InL l (mulS m v)):InL l v:=by
 obtain⟨k,_,hk⟩:=List.any_eq_true.1 (List.all_eq_true.1 pow_all m hm);have:=InL_pow hl hs k h;rw[← mulS_mm,beq_iff_eq.1 hk,mulS_one] at this;exact this
theorem stab_stay {f:Int} {l:Lt} {m:Mt} (h:m∈stabS f l):stayS l m=true:=(List.mem_filter.1 h).2
theorem app_sub (m:Mo) (u v:Vc):((appS m u).1-(appS m v).1,(appS m u).2-(appS m v).2)=mulS m.1 (u.1-v.1,u.2-v.2):=by
 rw[mulS_sub];unfold appS;refine Prod.ext ?_ ?_<;>simp only<;>omega
theorem mv_cong {f:Int} {l:Lt} (hl:IsL l) {m:Mo} (hm:m.1∈stabS f l) {u v:Vc} (h:redS l u=redS l v):mvS l m u=mvS l m v:=by
 unfold mvS;rw[red_cong hl,app_sub];exact InL_mul hl (stab_stay hm) ((red_cong hl).1 h)
theorem mv_inj {f:Int} {l:Lt} (hl:IsL l) {m:Mo} (hm:m.1∈stabS f l) {u v:Vc} (hu:cellB l u=true) (hv:cellB l v=true) (h:mvS l m u=mvS l m v):u=v:=by
 unfold mvS at h;rw[red_cong hl,app_sub] at h;have:=(red_cong hl).2 (InL_inv hl (stab_mem hm) (stab_stay hm) h)
 rwa [redS_cell hl hu,redS_cell hl hv] at this
theorem red_red {l:Lt} (hl:IsL l) (v:Vc):redS l (redS l v)=redS l v:=redS_cell hl (redS_isCell hl v)
theorem mv_mul {f:Int} {l:Lt} (hl:IsL l) {m n:Mo} (hm:m.1∈stabS f l) (v:Vc):mvS l m (mvS l n v)=mvS l (mulG l m n) v:=by
 have h1:mvS l m (mvS l n v)=mvS l m (appS n v):=mv_cong hl hm (red_red hl _);rw[h1];unfold mvS mulG;rw[red_cong hl];have h2:=(red_cong hl).1 (red_red hl (appS m n.2));have e:((appS m (appS n v)).1-(appS (mmS m.1 n.1,redS l (appS m n.2)) v).1,(appS m (appS n v)).2-(appS (mmS m.1 n.1,redS l (appS m n.2)) v).2)=(-((redS l (appS m n.2)).1-(appS m n.2).1),-((redS l (appS m n.2)).2-(appS m n.2).2)):=by
  have e1:=mulS_mm m.1 n.1 v;generalize hr:redS l (appS m n.2)=r;unfold appS;simp only;rw[e1];have e2:mulS m.1 ((mulS n.1 v).1+n.2.1,(mulS n.1 v).2+n.2.2)=((mulS m.1 (mulS n.1 v)).1+(mulS m.1 n.2).1,(mulS m.1 (mulS n.1 v)).2+(mulS m.1 n.2).2):=by
   have:=mulS_lin m.1 (mulS n.1 v) n.2 1 1;simpa using this
  rw[e2];refine Prod.ext ?_ ?_<;>simp only<;>omega
 rw[e];exact InL_neg h2
theorem mv_one {l:Lt} (hl:IsL l) {v:Vc} (hv:cellB l v=true):mvS l uMo v=v:=by
 unfold mvS appS uMo;simp only;rw[mulS_one];simp only[Int.add_zero];exact redS_cell hl hv
theorem OrbG.stab {f:Int} {l:Lt} {g:List Mo} (h:OrbG f l g) {m:Mo} (hm:m∈g):m.1∈stabS f l:=(h.pr.mem m hm).1
theorem OrbG.one {f:Int} {l:Lt} {g:List Mo} (h:OrbG f l g):uMo∈g:=by
 have:=h.gr;unfold grpB at this;simp only[aT] at this;exact List.contains_iff_mem.1 this.2.1
theorem OrbG.mul {f:Int} {l:Lt} {g:List Mo} (h:OrbG f l g) {m n:Mo} (hm:m∈g) (hn:n∈g):mulG l m n∈g:=by
 have:=h.gr;unfold grpB at this;simp only[aT] at this;exact List.contains_iff_mem.1 (List.all_eq_true.1 (List.all_eq_true.1 this.2.2 m hm) n hn)
theorem orb_cell {f:Int} {l:Lt} {g:List Mo} (h:OrbG f l g) {u v:Vc} (hu:u∈orbS l g v):cellB l u=true:=by
 obtain⟨m,_,rfl⟩:=orbS_mem.1 hu;exact redS_isCell h.la _
theorem orb_self {f:Int} {l:Lt} {g:List Mo} (h:OrbG f l g) {v:Vc} (hv:cellB l v=true):v∈orbS l g v:=orbS_mem.2 ⟨uMo,h.one,(mv_one h.la hv).symm⟩
theorem orb_trans {f:Int} {l:Lt} {g:List Mo} (h:OrbG f l g) {u v w:Vc} (hu:u∈orbS l g v) (hw:w∈orbS l g u):w∈orbS l g v:=by
 obtain⟨m,hm,rfl⟩:=orbS_mem.1 hu;obtain⟨n,hn,rfl⟩:=orbS_mem.1 hw;exact orbS_mem.2 ⟨mulG l n m,h.mul hn hm,mv_mul h.la (h.stab hn) v⟩
theorem SI_nodup {s:List Vc} (h:SI s):s.Nodup:=List.Pairwise.imp (fun {a b} hab e=>by subst e;rw[ltV_irrefl] at hab;cases hab) h
theorem orb_symm {f:Int} {l:Lt} {g:List Mo} (h:OrbG f l g) {u v:Vc} (hv:cellB l v=true) (hu:u∈orbS l g v):v∈orbS l g u:=by
 have hcu:=orb_cell h hu;obtain⟨m,hm,rfl⟩:=orbS_mem.1 hu;have hO:=orb_self h hcu
 -- the motion goes round in the orbit
 have hsub:∀ x∈(orbS l g (mvS l m v)).map (mvS l m),x∈orbS l g (mvS l m v):=by
  intro x hx;obtain⟨y,hy,rfl⟩:=List.mem_map.1 hx;exact orb_trans h hy (orbS_mem.2 ⟨m,hm,rfl⟩)
 have hnd:((orbS l g (mvS l m v)).map (mvS l m)).Nodup:=by
  refine List.pairwise_map.2 (List.Pairwise.imp_of_mem (fun {a b} ha hb hab e=>hab ?_) (SI_nodup (orbS_SI l g (mvS l m v))));exact mv_inj h.la (h.stab hm) (orb_cell h ha) (orb_cell h hb) e
 have hall:=full_of_len (orbS l g (mvS l m v)) ((orbS l g (mvS l m v)).map (mvS l m)) hnd (fun x hx=>hsub x hx) (by simp)
 obtain⟨y,hy,e⟩:=List.mem_map.1 (hall _ hO);have:=mv_inj h.la (h.stab hm) (orb_cell h hy) hv e;rw[this] at hy;exact hy
theorem orb_eq {f:Int} {l:Lt} {g:List Mo} (h:OrbG f l g) {u v:Vc} (hv:cellB l v=true) (hu:u∈orbS l g v):orbS l g u=orbS l g v :=
 SI_unique (orbS_SI l g u) (orbS_SI l g v) fun x=>⟨fun hx=>orb_trans h hu hx,fun hx=>orb_trans h (orb_symm h hv hu) hx⟩
def repB (l:Lt) (g:List Mo) (v:Vc):Bool:=(orbS l g v).headD (0,0)==v
theorem orb_cons {f:Int} {l:Lt} {g:List Mo} (h:OrbG f l g) {v:Vc} (hv:cellB l v=true):∃ w t,orbS l g v=w :: t∧(w=v∨ltV w v=true):=by
 have hs:=orb_self h hv;have hi:=orbS_SI l g v;cases ho:orbS l g v with
 | nil=>rw[ho] at hs;cases hs
 | cons w t =>
  refine⟨w,t,rfl,?_⟩;rw[ho] at hs hi;rcases List.mem_cons.1 hs with e | e
  ·exact .inl e.symm
  ·exact .inr ((List.pairwise_cons.1 hi).1 v e)
theorem rep_of {f:Int} {l:Lt} {g:List Mo} (h:OrbG f l g) {v:Vc} (hv:cellB l v=true):∃ w,repB l g w=true∧cellB l w=true∧v∈orbS l g w∧(w=v∨ltV w v=true):=by
 obtain⟨w,t,ho,hw⟩:=orb_cons h hv;have hwo:w∈orbS l g v:=by rw[ho];simp
 refine⟨w,?_,orb_cell h hwo,orb_symm h hv hwo,hw⟩;unfold repB;rw[orb_eq h hv hwo,ho];simp
theorem rep_min {f:Int} {l:Lt} {g:List Mo} (h:OrbG f l g) {v w:Vc} (hv:cellB l v=true) (hr:repB l g v=true) (hw:w∈orbS l g v):w=v∨ltV v w=true:=by
 obtain⟨x,t,ho,_⟩:=orb_cons h hv;unfold repB at hr;rw[ho] at hr hw;have:x=v:=by simpa using hr
 subst this;rcases List.mem_cons.1 hw with e | e
 ·exact .inl e
 ·have hi:=orbS_SI l g x;rw[ho] at hi;exact .inr ((List.pairwise_cons.1 hi).1 w e)
theorem rep_one {f:Int} {l:Lt} {g:List Mo} (h:OrbG f l g) {u v:Vc} (hu:cellB l u=true) (hv:cellB l v=true) (h1:repB l g u=true) (h2:repB l g v=true) (h3:v∈orbS l g u):u=v:=by
 rcases rep_min h hu h1 h3 with e | e
 ·exact e.symm
 ·rcases rep_min h hv h2 (orb_symm h hu h3) with e2 | e2
  ·exact e2
  ·rw[ltV_asymm e] at e2;cases e2
def repsS (l:Lt) (g:List Mo):List Vc:=(cellsS l).filter (repB l g)
def orbsS (l:Lt) (g:List Mo):List (List Vc):=(repsS l g).map (orbS l g)
theorem number_eq {l:Lt} (hl:IsL l) {v:Vc} (hv:cellB l v=true):f61G KK l v=some ((numS l v:Nat):Int):=by
 unfold f61G;have:=(num_calc hl v).1;rw[redS_cell hl hv] at this;rw[this]
theorem wrap64 {n:Int} (h1:0≤n) (h2:n<18446744073709551616):IntKind.u64.wrap n=n:=by
 rw[IntKind.wrap_u64];omega
theorem repeat_loop {n:Nat} (hn:n≤1000) {a0:List Int} {a1:Int} {y1:Int×Int}:∀ (k q:Nat) (s:List Int),s.length=n→1≤q→q≤n→s.take q=List.replicate q (-1)→n-q<k→f60_l3 KK a0 a1 y1 k (q:Int) s=some (List.replicate n (-1))
 | 0,q,s,_,_,_,_,h=>by omega
 | k+1,q,s,hs,hq,hqn,ht,hk=>by
  show f60_b3 KK a0 a1 y1 (fun v0 v1=>f60_l3 KK a0 a1 y1 k v0 v1) (q:Int) s=_;unfold f60_b3;by_cases hlt:q<n
  ·obtain⟨c,hc1,hc2,hc3,hc⟩:∃ c:Nat,1≤c∧c≤q∧q+c≤n∧(bif decide ((((0:Int)+(s.length:Int))-((0:Int)+(q:Int)))≤(((0:Int)+(q:Int))-(0:Int))) then (((0:Int)+(s.length:Int))-((0:Int)+(q:Int))) else (((0:Int)+(q:Int))-(0:Int)))=(c:Int):=by
    rw[hs];by_cases h:n-q≤q
    ·exact⟨n-q,by omega,by omega,by omega,by rw[dT (by omega),cT];omega⟩
    ·exact⟨q,by omega,by omega,by omega,by rw[dF (by omega),cF];omega⟩
   rw[hc];have d1:decide ((q:Int)<(s.length:Int))=true:=dT (by omega)
   have d2:(decide (0≤(q:Int))&&decide ((q:Int)≤(s.length:Int))&&decide ((s.length:Int)≤(s.length:Int)))=true:=by simp;omega
   have d3:(decide (0≤(0:Int))&&decide ((0:Int)≤(q:Int))&&decide ((q:Int)≤(s.length:Int)))=true:=by simp;omega
   have i1:((0:Int)+(q:Int)).toNat=q:=by omega
   have i2:((0:Int)+(((0:Int)+(q:Int))-(0:Int))).toNat=q:=by omega
   have i3:((c:Int)).toNat=c:=by omega
   rw[d1,cT,d2,cT,d3,cT,i1,i2,i3,w_id (n:=(q:Int)+(c:Int)) (by omega) (by omega),List.drop_zero,ht]
   have e:((q:Int)+(c:Int))=((q+c:Nat):Int):=by omega
   rw[e];refine repeat_loop hn k (q+c) _ ?_ (by omega) hc3 ?_ (by omega)
   ·simp only[lA,List.length_replicate,List.length_take,List.length_drop];omega
   ·rw[List.take_replicate,Nat.min_eq_left hc2,List.replicate_append_replicate,List.take_append_of_le_length (by simp),List.take_replicate,Nat.min_self]
  ·have:q=n:=by omega
   subst this;rw[dF (by omega),cF,← ht,← hs,List.take_length]
theorem repeat_eq {n:Nat} (h1:1≤n) (hn:n≤1000):f60G KK [(-1:Int)] (n:Int)=some (List.replicate n (-1)):=by
 unfold f60G f60_g f113G mulF;have e1:IntKind.u64.wrap ((([(-1:Int)]:List Int).length:Nat):Int)=1:=by
  rw[wrap64 (by simp) (by simp)]
  rfl
 have e2:IntKind.u64.wrap (n:Int)=(n:Int):=wrap64 (by omega) (by omega)
 rw[dF (by omega),cF,e1,e2,if_pos (by omega)]
 simp only[oB];have e3:(1:Int)*(n:Int) / 18446744073709551616=0:=by omega
 have e4:(1:Int)*(n:Int) % 18446744073709551616=(n:Int):=by omega
 rw[e3,e4,dF (by omega),dF (show ¬ ((n:Int)>9223372036854775807) by omega),w_id (n:=(n:Int)) (by omega) (by omega)]
 have e5:((n:Int)).toNat=n:=by omega
 have e6:(decide (0≤(n:Int))&&Nat.ble ((n:Int)).toNat (lim 8)&&((n:Int)==(n:Int)))=true:=by
  rw[in0,e5,blim8 (by omega)]
  simp
 simp only[nF,nT,Bool.false_or,Bool.or_false,oT,tO,cT,cF];rw[e6,cT,e5];have e7:(bif decide ((((List.replicate n (0:Int)).length:Nat):Int)≤(([(-1:Int)]:List Int).length:Int)) then (((List.replicate n (0:Int)).length:Nat):Int) else (([(-1:Int)]:List Int).length:Int))=((1:Nat):Int):=by
  rw[List.length_replicate];by_cases h:n=1
  ·subst h;rfl
  ·rw[dF (by simp;omega),cF];rfl
 rw[e7];refine repeat_loop hn KK 1 _ ?_ (by omega) h1 ?_ (by simp only[KK];omega)
 ·simp only[lA,List.length_take,List.length_drop,List.length_replicate,List.take_zero,List.length_nil];simp;omega
 ·simp
theorem numS_cell {l:Lt} (hl:IsL l) {v:Vc} (hv:cellB l v=true):(numS l v:Int)=v.1*l.2.2+v.2:=by
 have h:=cellB_iff.1 hv;have e1:0≤v.1*l.2.2:=Int.mul_nonneg h.1.1 (by have:=hl.c1;omega)
 unfold numS;rw[redS_cell hl hv];omega
theorem num_lt {l:Lt} (hl:IsL l) {u v:Vc} (hu:cellB l u=true) (hv:cellB l v=true) (h:ltV u v=true):numS l u<numS l v:=by
 have h1:=numS_cell hl hu;have h2:=numS_cell hl hv;have b1:=cellB_iff.1 hu;have b2:=cellB_iff.1 hv;have:(u.1=v.1∧u.2<v.2)∨u.1<v.1:=by
  unfold ltV numV ltL at h;by_cases e:u.1=v.1
  ·have e1:(u.1==v.1)=true:=by simpa using e
   rw[e1,cT] at h;unfold ltL at h;by_cases e2:u.2=v.2
   ·have e3:(u.2==v.2)=true:=by simpa using e2
    rw[e3,cT] at h;cases h
   ·have e3:(u.2==v.2)=false:=by simpa using e2
    rw[e3,cF,dE] at h;exact .inl ⟨e,h⟩
  ·have e1:(u.1==v.1)=false:=by simpa using e
   rw[e1,cF,dE] at h;exact .inr h
 rcases this with ⟨e1,e2⟩ | e
 ·rw[e1] at h1;omega
 ·have h3:u.1+1≤v.1:=by omega
  have h4:(u.1+1)*l.2.2≤v.1*l.2.2:=Int.mul_le_mul_of_nonneg_right h3 (by have:=hl.c1;omega)
  rw[Int.add_mul] at h4;omega
theorem cell_at {l:Lt} (hl:IsL l) {v:Vc} (hv:cellB l v=true):(cellsS l)[numS l v]? = some v:=by
 have h:=numS_lt hl v;rw[List.getElem?_eq_getElem h];congr 1;have hm:(cellsS l)[numS l v]∈cellsS l:=gM h;have hc:=mem_cellsS hm;exact num_inj hl (cellB_iff.2 (by omega)) hv (cellsS_num hl h)
theorem cellsS_cell {l:Lt} {v:Vc} (h:v∈cellsS l):cellB l v=true:=by
 have:=mem_cellsS h;exact cellB_iff.2 (by omega)
theorem mem_takeC {l:Lt} (hl:IsL l) {q:Nat} (hq:q≤(cellsS l).length) {v:Vc}:v∈(cellsS l).take q↔cellB l v=true∧numS l v<q:=by
 constructor
 ·intro h;obtain⟨i,hi,rfl⟩:=List.getElem_of_mem h;rw[List.length_take] at hi;rw[List.getElem_take];have hi2:i<(cellsS l).length:=by omega
  exact⟨cellsS_cell (gM hi2),by rw[cellsS_num hl hi2];omega⟩
 ·rintro⟨h1,h2⟩
  have h3:=cell_at hl h1;refine List.mem_of_getElem? (i:=numS l v) ?_;rw[List.getElem?_take,if_pos h2,h3]
theorem idxS_none {α:Type} {p:α→Bool} {C:List α} (h:C.any p=false):idxS p 0 C = -1:=by
 rcases idxS_spec p C 0 with ⟨h1,_⟩ | ⟨k,h1,_,_,a,h4,h5⟩
 ·exact h1
 ·rw[List.any_eq_false] at h;exact absurd h5 (h a (List.mem_of_getElem? h4))
theorem idxS_app {α:Type} (p:α→Bool):∀ (C D:List α) (q:Nat),idxS p q (C++D)=bif C.any p then idxS p q C else idxS p (q+C.length) D
 | [],D,q=>by simp
 | a :: C,D,q=>by
  have ih:=idxS_app p C D (q+1);simp only[List.cons_append,idxS,List.any_cons,List.length_cons];cases h:p a
  ·rw[cF,cF,Bool.false_or,ih];have e:q+1+C.length=q+(C.length+1):=by omega
   rw[e]
  ·rfl
def setAll (l:Lt) (i:Int) (o:List Vc) (s:List Int):List Int:=o.foldl (fun s u=>s.set (numS l u) i) s
theorem setAll_len (l:Lt) (i:Int):∀ (o:List Vc) (s:List Int),(setAll l i o s).length=s.length
 | [],_=>rfl
 | u :: o,s=>by
  show (setAll l i o (s.set (numS l u) i)).length=_;rw[setAll_len l i o,List.length_set]
theorem setAll_get {l:Lt} (hl:IsL l) (i:Int) {u:Vc} (hu:cellB l u=true):∀ (o:List Vc) (s:List Int),(∀ x∈o,cellB l x=true)→numS l u<s.length→(setAll l i o s)[numS l u]? = if u∈o then some i else s[numS l u]?
 | [],s,_,_=>by simp[setAll]
 | x :: o,s,ho,hs=>by
  show (setAll l i o (s.set (numS l x) i))[numS l u]? = _;rw[setAll_get hl i hu o _ (fun y hy=>ho y (by simp[hy])) (by rw[List.length_set];exact hs)]
  by_cases h1:u∈o
  ·rw[if_pos h1,if_pos (by simp[h1])]
  ·rw[if_neg h1];by_cases h2:u=x
   ·subst h2;rw[if_pos (by simp),List.getElem?_set_self hs]
   ·rw[if_neg (by simp[h1,h2]),List.getElem?_set_ne (fun e=>h2 (num_inj hl hu (ho x (by simp)) e.symm))]
def orbT (l:Lt) (g:List Mo) (q:Nat):List (List Vc):=(((cellsS l).take q).filter (repB l g)).map (orbS l g)
theorem orbT_mem {f:Int} {l:Lt} {g:List Mo} (h:OrbG f l g) {q:Nat} (hq:q≤(cellsS l).length) {u:Vc}:(orbT l g q).any (fun o=>o.contains u)=true↔∃ r,cellB l r=true∧numS l r<q∧repB l g r=true∧u∈orbS l g r:=by
 unfold orbT;rw[List.any_eq_true];constructor
 ·rintro⟨o,ho,hu⟩
  obtain⟨r,hr,rfl⟩:=List.mem_map.1 ho;obtain⟨h1,h2⟩:=List.mem_filter.1 hr;obtain⟨h3,h4⟩:=(mem_takeC h.la hq).1 h1;exact⟨r,h3,h4,h2,List.contains_iff_mem.1 hu⟩
 ·rintro⟨r,h1,h2,h3,h4⟩
  exact⟨_,List.mem_map.2 ⟨r,List.mem_filter.2 ⟨(mem_takeC h.la hq).2 ⟨h1,h2⟩,h3⟩,rfl⟩,List.contains_iff_mem.2 h4⟩
theorem orbT_rep {f:Int} {l:Lt} {g:List Mo} (h:OrbG f l g) {q:Nat} (hq:q<(cellsS l).length):(orbT l g q).any (fun o=>o.contains (cellsS l)[q])=!repB l g (cellsS l)[q]:=by
 have hv:cellB l (cellsS l)[q]=true:=cellsS_cell (gM hq);have hn:=cellsS_num h.la hq;cases hr:repB l g (cellsS l)[q]
 ·rw[nF];refine (orbT_mem h (by omega)).2 ?_
  obtain⟨w,h1,h2,h3,h4⟩:=rep_of h hv;refine⟨w,h2,?_,h1,h3⟩;rcases h4 with e | e
  ·rw[e,hr] at h1;cases h1
  ·have:=num_lt h.la h2 hv e;omega
 ·rw[nT];cases hx:(orbT l g q).any (fun o=>o.contains (cellsS l)[q])
  ·rfl
  ·obtain⟨r,h1,h2,h3,h4⟩:=(orbT_mem h (by omega)).1 hx
   have:=rep_one h h1 hv h3 hr h4;rw[this,hn] at h2;omega
theorem orbT_succ {l:Lt} {g:List Mo} {q:Nat} (hq:q<(cellsS l).length):orbT l g (q+1)=bif repB l g (cellsS l)[q] then orbT l g q++[orbS l g (cellsS l)[q]] else orbT l g q:=by
 unfold orbT;rw[tS hq,List.filter_append,List.map_append];cases hr:repB l g (cellsS l)[q]<;>simp[hr]
theorem orbT_len (l:Lt) (g:List Mo) (q:Nat):(orbT l g q).length≤q:=by
 unfold orbT;rw[List.length_map];refine Nat.le_trans (List.length_filter_le _ _) ?_;simp[List.length_take];omega
theorem idx_snoc {f:Int} {l:Lt} {g:List Mo} (h:OrbG f l g) {q:Nat} (hq:q<(cellsS l).length) (hr:repB l g (cellsS l)[q]=true) {u:Vc} (hu:cellB l u=true) :
  idxS (fun o=>o.contains u) 0 (orbT l g q++[orbS l g (cellsS l)[q]])=if u∈orbS l g (cellsS l)[q] then ((orbT l g q).length:Int) else idxS (fun o=>o.contains u) 0 (orbT l g q):=by
 have hv:cellB l (cellsS l)[q]=true:=cellsS_cell (gM hq);rw[idxS_app];by_cases hm:u∈orbS l g (cellsS l)[q]
 ·rw[if_pos hm];have hno:¬ (orbT l g q).any (fun o=>o.contains u)=true:=by
   intro hx;obtain⟨r,h1,h2,h3,h4⟩:=(orbT_mem h (by omega)).1 hx
   have h5:(cellsS l)[q]∈orbS l g r:=orb_trans h h4 (orb_symm h hv hm);have h6:=rep_one h h1 hv h3 hr h5;rw[h6,cellsS_num h.la hq] at h2;omega
  have hno:(orbT l g q).any (fun o=>o.contains u)=false:=by simpa using hno
  rw[hno,cF];simp only[idxS,List.contains_iff_mem.2 hm,cT];omega
 ·rw[if_neg hm];by_cases hx:(orbT l g q).any (fun o=>o.contains u)=true
  ·rw[hx,cT]
  ·have hx:(orbT l g q).any (fun o=>o.contains u)=false:=by simpa using hx
   rw[hx,cF,idxS_none hx];have:(orbS l g (cellsS l)[q]).contains u=false:=by
    cases hc:(orbS l g (cellsS l)[q]).contains u
    ·rfl
    ·exact absurd (List.contains_iff_mem.1 hc) hm
   simp only[idxS,this,cF]
def numsF (l:Lt) (g:List Mo):List Int:=(cellsS l).map fun v=>idxS (fun o=>o.contains v) 0 (orbsS l g)
theorem orbT_all (l:Lt) (g:List Mo):orbT l g (cellsS l).length=orbsS l g:=by
 unfold orbT orbsS repsS;rw[List.take_length]
structure Num (l:Lt) (g:List Mo) (q:Nat) (s:List Int):Prop where
 len:s.length=(cellsS l).length
 get:∀ u,cellB l u=true→s[numS l u]? = some (idxS (fun o=>o.contains u) 0 (orbT l g q))
theorem Num.all {l:Lt} (hl:IsL l) {g:List Mo} {s:List Int} (h:Num l g (cellsS l).length s):s=numsF l g:=by
 apply List.ext_getElem?
 intro k;unfold numsF;rw[List.getElem?_map];by_cases hk:k<(cellsS l).length
 ·have hc:cellB l (cellsS l)[k]=true:=cellsS_cell (gM hk);have:=h.get _ hc;rw[cellsS_num hl hk,orbT_all] at this;rw[this,List.getElem?_eq_getElem hk];rfl
 ·rw[List.getElem?_eq_none (by rw[h.len];omega),List.getElem?_eq_none (by omega)]
  rfl
theorem orbits_in {f:Int} {l:Lt} {g:List Mo} (h:OrbG f l g) {q17:Int} {C:List (List Vc)} {q19 y:List Vc→Int→List Int} {s0:List Int} {y3:List Vc} {y20:Int} {o:List Vc} (ho:∀ u∈o,cellB l u=true) (hol:o.length≤768) (hC:C.length≤1000) {L:Int→List (List Vc)→List Int→Option (List (List Vc)×List Int)} {s:List Int} (hs:s.length=(cellsS l).length) :
  f22_l22 KK l g q17 C s0 y3 y20 o L KK 0 s=L (w (q17+1)) (C++[o]) (setAll l (C.length:Int) o s):=by
 have hh:=iter_fold (R:=List (List Vc)×List Int) (body:=fun L' x=>f22_b22 KK l g q17 C s0 y3 y20 o L (fun v0 v1=>L' (v0,v1)) x.1 x.2) o (fun q s=>((q:Int),s)) (fun s u=>s.set (numS l u) (C.length:Int)) (fun s=>L (w (q17+1)) (C++[o]) s) (fun q s=>s.length=(cellsS l).length)
  (fun L' q s hq hi=>by
   refine⟨by rw[List.length_set];exact hi,?_⟩
   show f22_b22 KK l g q17 C s0 y3 y20 o L (fun v0 v1=>L' (v0,v1)) (q:Int) s=_;unfold f22_b22;have hlt:=numS_lt h.la o[q];rw[in1 hq,in0,gd hq];simp only[aS,cT];rw[number_eq h.la (ho _ (gM hq)),oB,in0,in1 (show numS l o[q]<s.length by omega),w_succ (by omega)]
   have e1:((0:Int)+((numS l o[q]:Nat):Int)).toNat=numS l o[q]:=by omega
   simp only[aS,cT,e1])
  (fun L' s hi=>by
   show f22_b22 KK l g q17 C s0 y3 y20 o L (fun v0 v1=>L' (v0,v1)) (o.length:Int) s=_;unfold f22_b22;rw[out1,cF,blim24 (by simp;omega),cT]) KK 0 s (by omega) (by simp only[KK];omega) hs
 unfold f22_l22;rw[List.drop_zero] at hh;exact hh
theorem orbitsOf_eq {f:Int} {l:Lt} {g:List Mo} (h:OrbG f l g):f22G KK l g=some (orbsS l g,numsF l g):=by
 have hN:=cellsS_le h.la;have hN1:1≤(cellsS l).length:=by
  have:=numS_lt h.la (0,0);omega
 obtain⟨r,⟨hr1,hr2⟩,hh⟩:=iter_ex (X:=Int×List (List Vc)×List Int) (R:=List (List Vc)×List Int) (body:=fun L x=>f22_b16 KK l g (cellsS l) (fun c0 c1 c2 c3 c4 d0 d1=>f22_l22 KK l g c0 c1 c2 (cellsS l) c3 c4 (fun v0 v1 v2=>L (v0,v1,v2)) KK d0 d1) (fun v0 v1 v2=>L (v0,v1,v2)) x.1 x.2.1 x.2.2) (cellsS l).length
  (fun q x=>x.1=(q:Int)∧x.2.1=orbT l g q∧Num l g q x.2.2) (fun r=>r.1=orbsS l g∧r.2=numsF l g)
  (fun L q x hq hP=>by
   obtain⟨c,C,s⟩:=x;obtain⟨rfl,rfl,hNm⟩:=hP;simp only at hNm;have hv:cellB l (cellsS l)[q]=true:=cellsS_cell (gM hq);have hn:=cellsS_num h.la hq;have hsl:=hNm.len;have hg:=hNm.get _ hv;rw[hn] at hg;have hgd:s.getD ((0:Int)+(q:Int)).toNat 0=idxS (fun o=>o.contains (cellsS l)[q]) 0 (orbT l g q):=by
    have e1:((0:Int)+(q:Int)).toNat=q:=by omega
    rw[e1,List.getD_eq_getElem?_getD,hg];rfl
   have hbody:∀ (I:Int→List (List Vc)→List Int→Int→List Vc→Int→List Int→Option (List (List Vc)×List Int)) (L':Int→List (List Vc)→List Int→Option (List (List Vc)×List Int)),f22_b16 KK l g (cellsS l) I L' (q:Int) (orbT l g q) s=bif repB l g (cellsS l)[q] then I (q:Int) (orbT l g q) s (q:Int) (orbS l g (cellsS l)[q]) 0 s else L' ((q+1:Nat):Int) (orbT l g q) s:=by
    intro I L';unfold f22_b16;rw[in1 hq,in0,gd hq];simp only[aS,cT];rw[number_eq h.la hv,oB,hn,in0,in1 (show q<s.length by omega),hgd,idxS_any,orbT_rep h hq,w_succ (by omega)]
    simp only[aS,cT];rw[orbitOf_eq h.la (by have:=h.len;omega) h.good (cellB_Sv h.la hv),oB]
    cases repB l g (cellsS l)[q]<;>rfl
   cases hrp:repB l g (cellsS l)[q]
   ·refine⟨(((q+1:Nat):Int),orbT l g q,s),⟨rfl,?_,⟨hsl,fun u hu=>?_⟩⟩,?_⟩
    ·rw[orbT_succ hq,hrp];rfl
    ·rw[orbT_succ hq,hrp];exact hNm.get u hu
    ·show f22_b16 KK l g (cellsS l) _ _ (q:Int) (orbT l g q) s=_;rw[hbody,hrp];rfl
   ·refine⟨(((q+1:Nat):Int),orbT l g q++[orbS l g (cellsS l)[q]],setAll l ((orbT l g q).length:Int) (orbS l g (cellsS l)[q]) s),⟨rfl,?_,⟨by rw[setAll_len];exact hsl,fun u hu=>?_⟩⟩,?_⟩
    ·rw[orbT_succ hq,hrp];rfl
    ·rw[orbT_succ hq,hrp,cT,idx_snoc h hq hrp hu,setAll_get h.la _ hu _ _ (fun x hx=>orb_cell h hx) (by rw[hsl];exact numS_lt h.la u)]
     by_cases hm:u∈orbS l g (cellsS l)[q]
     ·rw[if_pos hm,if_pos hm]
     ·rw[if_neg hm,if_neg hm];exact hNm.get u hu
    ·show f22_b16 KK l g (cellsS l) _ _ (q:Int) (orbT l g q) s=_;rw[hbody,hrp,cT,orbits_in h (q19:=fun _ _=>[]) (y:=fun _ _=>[]) (fun u hu=>orb_cell h hu) (by have:=orbS_len l g (cellsS l)[q];have:=h.len;omega) (by have:=orbT_len l g q;omega) hsl,w_succ (by omega)])
  (fun L x hP=>by
   obtain⟨c,C,s⟩:=x;obtain⟨rfl,rfl,hNm⟩:=hP;refine⟨(orbT l g (cellsS l).length,s),⟨orbT_all l g,hNm.all h.la⟩,?_⟩;show f22_b16 KK l g (cellsS l) _ _ ((cellsS l).length:Int) (orbT l g (cellsS l).length) s=_;unfold f22_b16;rw[out1,cF]) KK 0 (0,[],List.replicate (cellsS l).length (-1)) (by omega) (by simp only[KK];omega)
  ⟨rfl,rfl,⟨by simp,fun u hu=>by
   rw[List.getElem?_replicate,if_pos (numS_lt h.la u)];rfl⟩⟩
 unfold f22G f22_g f43G;simp only[oB];rw[len_eq h.la,repeat_eq hN1 (by omega),oB,cells_eq h.la,oB]
 refine hh.trans ?_;rw[← hr1,← hr2]
theorem l07Orbits_eq {f:Int} {l:Lt} {g:List Mo} (h:OrbG f l g):f32G KK l g=some (orbsS l g):=by
 have hN:=cellsS_le h.la;have hh:=iter_fold (R:=List (List Vc)) (body:=fun L x=>f32_b4 KK l g (cellsS l) (fun v0 v1=>L (v0,v1)) x.1 x.2) (cellsS l) (fun q s=>((q:Int),s)) (fun s v=>bif repB l g v then s++[orbS l g v] else s) some (fun q s=>s.length≤q)
  (fun L q s hq hi=>by
   refine⟨by cases repB l g (cellsS l)[q]<;>simp<;>omega,?_⟩
   show f32_b4 KK l g (cellsS l) (fun v0 v1=>L (v0,v1)) (q:Int) s=_;have hv:cellB l (cellsS l)[q]=true:=cellsS_cell (gM hq);obtain⟨x,t,ho,_⟩:=orb_cons h hv;unfold f32_b4;rw[in1 hq,in0,gd hq];simp only[aS,cT];rw[l07Orbit_eq h.la (by have:=h.len;omega) h.good (cellB_Sv h.la hv),oB,ho]
   have e1:(decide (0≤(0:Int))&&decide ((0:Int)<(((x :: t:List Vc).length:Nat):Int)))=true:=by
    have:(0:Int)<(((x :: t:List Vc).length:Nat):Int):=by simp only[List.length_cons];omega
    rw[dT this];rfl
   have e2:((x :: t:List Vc).getD ((0:Int)+(0:Int)).toNat (0,0))=x:=rfl;rw[e1,cT,e2,eqV2,blim24 (by simp;omega),w_succ (by omega)]
   have e3:repB l g (cellsS l)[q]=(x==(cellsS l)[q]):=by
    unfold repB;rw[ho];rfl
   rw[e3];cases x==(cellsS l)[q]<;>rfl)
  (fun L s hi=>by
   show f32_b4 KK l g (cellsS l) (fun v0 v1=>L (v0,v1)) ((cellsS l).length:Int) s=_;unfold f32_b4;rw[out1,cF]) KK 0 [] (by omega) (by simp only[KK];omega) (by simp)
 unfold f32G f32_g f32_l4;rw[l03Cells_eq h.la,oB];rw[List.drop_zero] at hh;refine Eq.trans hh (congrArg some ?_);rw[foldl_filter,List.nil_append];rfl
end Go.Proofs.YtelgaemfnhnbmaaGreatDoor.X
