/- The plain law of FnCompleted: a pattern completed from marks. -/
import Derived.Test.YteheolldcpjkcaaGreatQuPPainted
import Derived.Test.YteheolldcpjkcaaGreatQuNU
import Derived.Test.YteheolldcpjkcaaGreatQuPCompleteMarks
import Derived.Test.YteheolldcpjkcaaGreatQuPConflictOf
import Derived.Test.YteheolldcpjkcaaGreatQuPOpenOrbits
import Derived.Test.YteheolldcpjkcaaGreatQvXRow
namespace Go.Proofs.YteheolldcpjkcaaGreat.X
open Go
set_option linter.unusedSimpArgs false
set_option linter.unusedVariables false
def Kr (p:Pt) (ms:List Ma):Bool×Int:=bif okP p then (bif AA ms then (ms.all fun x=>atS p x.1==x.2,0) else (false,2)) else (false,1)
theorem O1 (p:Pt) (ms:List Ma):Adc KK p ms=some (Kr p ms):=by
 unfold Adc Kr;rw[Fg,oB];cases ho:okP p
 ·rfl
 rw[nT,cF,cT,GF,oB];cases hb:AA ms
 ·rfl
 obtain⟨hv,hl⟩:=Dq hb;have e:=C4 (s:=ms) (by omega) (fun z3=>YE KK z3 p) (fun x=>atS p x.1 != x.2) (fun x hx=>by
  unfold YE;rw[Ado (TA ho) (EA (hv x hx))];rfl)
 rw[nT,cF,cT,e,oB];congr 2;rw[Atb];rfl
theorem AaL (p:Pt) {ms:List Ma} (hm:ms.length≤1048576):Ade KK p ms=some (Kr p ms):=by
 unfold Ade Add Kr;rw[EP,oB];cases ho:okP p
 ·rfl
 rw[nT,cF,cT,DF hm,oB];cases hb:AA ms
 ·rfl
 obtain⟨hv,hl⟩:=Dq hb;rw[nT,cF,cT];have h:=BA (X:=Int) (body:=fun L x=>Qz KK p ms true true (fun v0=>L v0) x) ms (fun q=>(q:Int)) (fun x=>atS p x.1==x.2) (some (false,(0:Int))) (some (true,(0:Int)))
  (fun L q hq=>by
   have e:=Tm (TA ho) (EA (hv _ (gM hq)));unfold Qz;rw[in1 hq,in0,gd hq,Ak (by omega)]
   simp only[aS,cT];rw[e,oB,bne];cases atS p ms[q].1==ms[q].2<;>rfl)
  (fun L=>by
   unfold Qz;rw[AS,cF]) KK 0 (by omega) (by have:=FO (n:=ms.length) (by omega);omega)
 unfold Vr;refine h.trans ?_;rw[Aqq];cases ms.all fun x=>atS p x.1==x.2<;>rfl
theorem Aec {p:Pt} (ho:okP p=true) {v:Vc} (hv:Cr v=true):Ahm KK p v=some (atS p v,0):=by
 unfold Ahm;rw[Fg,ho,oB];simp only[nT,nF,cT];rw[TC,hv,oB];simp only[nT,cF];rw[Ado (TA ho) (EA hv),oB]
theorem Ami {p:Pt} (hl:IsL p.2.1) (v:Vc):atS p (AZ p.2.1 v)=atS p v:=by
 unfold atS AY;rw[Hf hl]
theorem Za {l:Lt} {ns:List Int} {ms:List Ma}:∀ (r:List Ma) (j:Nat),ms.drop j=r→(cfO l ns ms j r).2.2=true→∃ i k:Nat,∃ hi:i<ms.length,∃ hk:k<ms.length,(cfO l ns ms j r).1=(i:Int)∧(cfO l ns ms j r).2.1=(k:Int)∧i<k∧ms[i].2≠ms[k].2
 | [],j,_,h=>by simp[cfO] at h
 | y :: r,j,hd,h=>by
  have hj:j<ms.length:=by
   rcases Arf j ms.length with h | h
   ·exact h
   ·rw[AqZ h] at hd;cases hd
  have hd2:=hd;rw[dC hj] at hd2;injection hd2 with hy hr;unfold cfO at h ⊢;cases ha:(ms.take j).any (cfB l ns y)
  ·rw[ha,cF] at h;rw[cF];exact Za r (j+1) hr h
  ·rw[cT];rcases Dd (cfB l ns y) (ms.take j) 0 with ⟨_,h0⟩ | ⟨k,hk,e,_,a,ea,pa⟩
   ·obtain⟨x,hx,px⟩:=Arb.1 ha;rw[h0 x hx] at px;cases px
   ·obtain⟨k1,k2,k3⟩:=ML hk;rw[Aqo hk,k3] at ea;injection ea with ea;refine⟨k,j,k2,hj,by rw[e];simp,rfl,k1,?_⟩
    rw[ea,hy];unfold cfB at pa;rw[aT,bne_iff_ne] at pa;exact pa.2
theorem Zb {l:Lt} {ns:List Int} {ms:List Ma}:∀ (r:List Ma) (j:Nat),ms.drop j=r→(cfO l ns ms j r).2.2=false→∀ k (hk:k<ms.length),j≤k→(ms.take k).any (cfB l ns ms[k])=false
 | [],j,hd,_,k,hk,hjk=>by
  have:=List.drop_eq_nil_iff.1 hd;omega
 | y :: r,j,hd,h,k,hk,hjk=>by
  have hj:j<ms.length:=by omega
  have hd2:=hd;rw[dC hj] at hd2;injection hd2 with hy hr;unfold cfO at h;cases ha:(ms.take j).any (cfB l ns y)
  ·rw[ha,cF] at h;rcases Nat.eq_or_lt_of_le hjk with e | e
   ·subst e;rw[hy];exact ha
   ·exact Zb r (j+1) hr h k hk e
  ·rw[ha,cT] at h;cases h
theorem AhH {l:Lt} {ns:List Int} {ms:List Ma} (h:(cfO l ns ms 0 ms).2.2=false) {x y:Ma} (hx:x∈ms) (hy:y∈ms) (e:nmS l ns x=nmS l ns y):x.2=y.2:=by
 obtain⟨i,hi,rfl⟩:=Aq7 hx;obtain⟨k,hk,rfl⟩:=Aq7 hy;have key:∀ i k (hi:i<ms.length) (hk:k<ms.length),i<k→nmS l ns ms[i]=nmS l ns ms[k]→ms[i].2=ms[k].2:=by
  intro i k hi hk hik e;have h1:=Zb ms 0 rfl h k hk (by omega)
  have h2:=Asz.1 h1 ms[i] (by rw[List.mem_iff_getElem];exact⟨i,by rw[AqT];omega,by rw[Asa]⟩)
  unfold cfB at h2;rw[e,beq_self_eq_true,AqK] at h2;simpa using h2
 rcases Nat.lt_trichotomy i k with h1 | h1 | h1
 ·exact key i k hi hk h1 e
 ·subst h1;rfl
 ·exact (key k i hk hi h1 e.symm).symm
theorem Q5 {l:Lt} {ns:List Int} {k c:Int}:∀ (ms:List Ma) (s:Int),(∀ x∈ms,nmS l ns x=k→x.2=c)→ms.foldl (fun c x=>bif nmS l ns x==k then x.2 else c) s=bif ms.any fun x=>nmS l ns x==k then c else s
 | [],s,_=>rfl
 | x :: ms,s,h=>by
  rw[Aq8,Q5 ms _ fun y hy=>h y (Arl _ hy),As8];cases hx:nmS l ns x==k
  ·rfl
  ·rw[cT,h x (by simp) (beq_iff_eq.1 hx),tO,cT]
   cases ms.any fun x=>nmS l ns x==k<;>rfl
abbrev Q6 (l:Lt) (g:List Mo) (ms:List Ma) (rest:Int) (v:Vc):Int:=FD l (Ax l g) ms rest (ixS l g v)
theorem Aed (f:Int) (l:Lt) (g:List Mo) (ms:List Ma) (rest:Int):((f,l,Kq l g ms rest):Pt)=Hu f l (Q6 l g ms rest):=by
 unfold Hu Kq
 conv=>lhs;unfold Ax
 rw[AsR];rfl
theorem TT {l:Lt} {ns:List Int} {k:Int}:∀ (ms:List Ma) (c:Int),okC c=true→(∀ x∈ms,okC x.2=true)→okC (ms.foldl (fun c x=>bif nmS l ns x==k then x.2 else c) c)=true
 | [],c,h,_=>h
 | x :: ms,c,h,hm=>by
  rw[Aq8];refine TT ms _ ?_ fun y hy=>hm y (Arl _ hy);cases nmS l ns x==k
  ·exact h
  ·exact hm x (by simp)
theorem AaM {ms:List Ma} (h:AA ms=true):∀ x∈ms,okC x.2=true:=by
 intro x hx;unfold AA at h;rw[aT] at h;have:=Aqn.1 h.1 x hx;unfold IU at this;rw[aT] at this;exact this.2
section
variable {f:Int} {l:Lt} {g:List Mo} {ms:List Ma} {rest:Int}
theorem VN (h0:AB f l g (AA ms)=0) (hr:okC rest=true):okF f=true∧okL l=true∧∀ v∈Ab l,okC (Q6 l g ms rest v)=true:=by
 have hb:=(BJ h0).2;refine⟨?_,?_,fun v _=>TT _ _ hr (AaM hb)⟩
 all_goals
  unfold AB at h0;by_cases h1:(okF f&&okL l)=true
  ·rw[aT] at h1
   first | exact h1.1 | exact h1.2
  ·rw[if_neg h1] at h0;cases h0
theorem AaN (h0:AB f l g (AA ms)=0) (hr:okC rest=true) (hc:(cfO l (Ax l g) ms 0 ms).2.2=false):Kr (Hu f l (Q6 l g ms rest)) ms=(true,0):=by
 obtain⟨hG,hb⟩:=BJ h0;obtain⟨o1,o2,o3⟩:=VN h0 hr;unfold Kr;rw[Q4 o1 o2 o3,hb,cT,cT];congr 1;refine Aqn.2 fun x hx=>beq_iff_eq.2 ?_;rw[← Ami (p:=Hu f l (Q6 l g ms rest)) hG.la x.1];show atS (Hu f l (Q6 l g ms rest)) (AZ l x.1)=x.2;rw[Lq hG.la (A5 hG.la _)];show FD l (Ax l g) ms rest (ixS l g (AZ l x.1))=x.2;rw[← Ad1 hG.la];unfold FD;rw[Q5 ms rest (c:=x.2) fun y hy e=>AhH hc hy hx e,show (ms.any fun y=>nmS l (Ax l g) y==nmS l (Ax l g) x)=true from Arb.2 ⟨x,hx,beq_self_eq_true _⟩]
 rfl
theorem Aee (h0:AB f l g (AA ms)=0) (hr:okC rest=true):Y8 (Hu f l (Q6 l g ms rest)) g=(true,0):=by
 obtain⟨hG,hb⟩:=BJ h0;obtain⟨o1,o2,o3⟩:=VN h0 hr;have e2:MX (Hu f l (Q6 l g ms rest)) g=true:=Ad3 hG fun m hm v hv=>by
  have hmv:Al l (mvS l m v)=true:=A5 hG.la _;have e:=Q2 hG hmv hv;rw[Aqx.2 (C3.2 ⟨m,hm,rfl⟩),beq_iff_eq] at e;show FD l (Ax l g) ms rest (ixS l g (mvS l m v))=FD l (Ax l g) ms rest (ixS l g v);rw[e]
 unfold Y8;rw[AaE o1 o2 hG.gr o3,e2];rfl
theorem Aef (h0:AB f l g (AA ms)=0) (hr:okC rest=true) {o:List Vc} (ho:o∈(Ao l g).filter (Co l ms)):∃ v t,o=v :: t∧Cr v=true∧atS (Hu f l (Q6 l g ms rest)) v=rest:=by
 obtain⟨hG,hb⟩:=BJ h0;obtain⟨ho1,ho2⟩:=AqR.1 ho;obtain⟨v,t,e,hv⟩:=AhQ hG ho1;refine⟨v,t,e,OS hG.la hv,?_⟩;have hvo:v∈o:=by rw[e];simp
 obtain⟨r,hr1,hr2⟩:=AqG.1 ho1;have hrc:Al l r=true:=AN (AqR.1 hr1).1;have eo:A6 l g v=o:=by rw[← hr2];exact AdS hG hrc (by rw[hr2];exact hvo)
 rw[Lq hG.la hv];show FD l (Ax l g) ms rest (ixS l g v)=rest;unfold FD;have hn:∀ x∈ms,¬ nmS l (Ax l g) x=ixS l g v:=fun x hx ex=>by
  rw[Ad1 hG.la] at ex;have h1:=Q2 hG (A5 hG.la x.1) hv;rw[ex,beq_self_eq_true,eo] at h1;have h2:=Aqn.1 ho2 x hx;rw[← h1] at h2;cases h2
 rw[Q5 ms rest (c:=rest) fun x hx ex=>absurd ex (hn x hx)];cases ms.any fun x=>nmS l (Ax l g) x==ixS l g v<;>rfl
end
theorem Amj {c:List Int} (hb:∀ i (h:i<c.length),0≤c[i]∧c[i]≤255) (hl:c.length≤4096):∃ f l g ms rest,AgD KK c=some (f,l,g,ms,rest)∧g.length≤2000∧ms.length≤200:=by
 obtain⟨t0,s0,e0⟩:=Y3 hb hl;obtain⟨t1,p,g,e1,s1,_,hg⟩:=Amp s0;obtain⟨t2,ms,e2,s2,hm⟩:=IW s1 p;obtain⟨t3,r3,e3,s3,_⟩:=AM s2 11;obtain⟨t4,r4,e4,s4,_⟩:=AM s3 20;have e5:AgC KK (c,t0)=some (t2,p.1,p.2.1,g,ms):=by
  unfold AgC;rw[e1,oB];simp only;rw[e2];rfl
 refine⟨p.1,p.2.1,g,ms,w (r3-w (r4.tdiv 19)),?_,hg,hm⟩;unfold AgD;rw[e0,oB,e5,oB];simp only;rw[e3,oB];simp only;rw[e4];rfl
theorem Amk {c:List Int} (hb:∀ i (h:i<c.length),0≤c[i]∧c[i]≤255) (hl:c.length≤4096):∃ (p:Pt) (ms:List Ma),Ahb KK c=some (p,ms)∧p.2.2.length≤100∧ms.length≤200:=by
 obtain⟨t0,s0,e0⟩:=Y3 hb hl;obtain⟨t1,p,e1,s1,hp⟩:=AhG s0;obtain⟨t2,ms,e2,s2,hm⟩:=IW s1 p;refine⟨p,ms,?_,hp,hm⟩;unfold Ahb;rw[e0,oB,e1,oB];simp only;rw[e2];rfl
theorem JO (a0:List Int) (h:WfA [(.list 5 (.int .u8))] (a0,())):∃ K,f6G K a0=some true:=by
 refine⟨KK,?_⟩;have hw:Wf (.list 5 (.int .u8)) a0:=h.1;unfold f6G Al3;rw[Amf,oB];by_cases hl:4096<a0.length
 ·rw[dT (by omega),cT]
 rw[dF (by omega),cF]
 obtain⟨f,l,g,ms,rest,e1,hg,hm⟩:=Amj (Y7 hw) (by omega)
 obtain⟨p,ns,e2,hp,hn⟩:=Amk (Y7 hw) (by omega)
 rw[e1,oB];simp only;rw[AaJ f l (by omega),oB,AaI f l (by omega) (by omega),oB,AaP f l (by omega),oB,AaO f l (by omega) (by omega),oB,AaS f l (by omega),oB,AaR f l (by omega) (by omega),oB,e2,oB]
 simp only;rw[O1,oB,AaL p (by omega),oB]
 have hlen:=AaK (f:=f) (l:=l) (g:=g) (ms:=ms) (rest:=rest);obtain⟨hr1,hr2⟩:=AaT (f:=f) (l:=l) (g:=g) (ms:=ms);simp only[bne_self_eq_false,nF,cT,cF];rw[KE (by omega),oB]
 simp only[nT,nF,cT,cF];rw[NL (by omega) (fun o ho=>by have:=hr2 o ho;omega),oB]
 simp only[nT,nF,cT,cF];rw[GF,oB,DF (by omega),oB]
 simp only[bne_self_eq_false,cF]
 -- the conflict
 have hcf:((Cv f l g ms).2.2=0→∃ i k:Nat,∃ hi:i<ms.length,∃ hk:k<ms.length,(Cv f l g ms).1=(i:Int)∧(Cv f l g ms).2.1=(k:Int)∧i<k∧ms[i].2≠ms[k].2)∧((DL f l g ms rest).2=5→(Cv f l g ms).2.2=0) ∧
   ((DL f l g ms rest).2=0→AB f l g (AA ms)=0∧okC rest=true∧(cfO l (Ax l g) ms 0 ms).2.2=false):=by
  unfold Cv DL;have hcode:AB f l g (AA ms)=0∨AB f l g (AA ms)=1∨AB f l g (AA ms)=2:=by
   unfold AB;split
   ·split
    ·exact Or.inl rfl
    ·exact Or.inr (Or.inr rfl)
   ·exact Or.inr (Or.inl rfl)
  cases hc:AB f l g (AA ms) != 0
  ·have h0:AB f l g (AA ms)=0:=by simpa using hc
   rw[cF,cF];cases hf:(cfO l (Ax l g) ms 0 ms).2.2
   ·rw[cF];cases okC rest
    ·exact⟨fun h=>(by cases h),fun h=>(by cases h),fun h=>(by cases h)⟩
    ·exact⟨fun h=>(by cases h),fun h=>(by cases h),fun _=>⟨h0,rfl,rfl⟩⟩
   ·rw[cT];refine⟨fun _=>?_,fun _=>rfl,fun h=>?_⟩
    ·obtain⟨i,k,hi,hk,h1,h2,h3⟩:=Za ms 0 rfl hf;exact⟨i,k,hi,hk,h1,h2,h3⟩
    ·revert h;cases okC rest<;>intro h<;>cases h
  ·rw[cT,cT];refine⟨fun h=>?_,fun h=>?_,fun h=>?_⟩<;>simp only at h<;>rw[bne_iff_ne] at hc<;>omega
 obtain⟨hcf1,hcf2,hcf3⟩:=hcf;have hin:((decide (0≤(Cv f l g ms).1)&&decide ((Cv f l g ms).1<(ms.length:Int)))||!((Cv f l g ms).2.2==(0:Int)))=true∧((decide (0≤(Cv f l g ms).2.1)&&decide ((Cv f l g ms).2.1<(ms.length:Int)))||!((Cv f l g ms).2.2==(0:Int)))=true ∧
   (bif (Cv f l g ms).2.2==(0:Int) then (bif (ms.getD ((0:Int)+(Cv f l g ms).1).toNat (((0:Int),(0:Int)),(0:Int))).2==(ms.getD ((0:Int)+(Cv f l g ms).2.1).toNat (((0:Int),(0:Int)),(0:Int))).2 then true else decide ((Cv f l g ms).1≥(Cv f l g ms).2.1)) else false)=false:=by
  cases hz:(Cv f l g ms).2.2==(0:Int)
  ·exact⟨by simp,by simp,rfl⟩
  ·obtain⟨i,k,hi,hk,h1,h2,h3,h4⟩:=hcf1 (beq_iff_eq.1 hz);rw[h1,h2,gd hi,gd hk,in1 hi,in1 hk,in0,in0,beq_eq_false_iff_ne.2 h4,dF (by omega)]
   exact⟨rfl,rfl,rfl⟩
 rw[hin.1,cT,hin.2.1,cT,hin.2.2,cF];cases h5:(DL f l g ms rest).2==(5:Int)
 ·rw[cF];cases h6:(DL f l g ms rest).2 != (0:Int)
  ·rw[cF];have h7:(DL f l g ms rest).2=0:=by simpa using h6
   obtain⟨h0,hr,hc⟩:=hcf3 h7;obtain⟨o1,o2,o3⟩:=VN h0 hr;have eM:(DL f l g ms rest).1=Hu f l (Q6 l g ms rest):=by
    rw[← Aed];unfold DL;rw[h0,hr,hc];rfl
   have eC:Cv f l g ms=(0,0,4):=by
    unfold Cv;rw[h0,hc];rfl
   have eO:IX f l g ms=((Ao l g).filter (Co l ms),0):=by
    unfold IX;rw[h0];rfl
   rw[eM,O1,AaN h0 hr hc,oB,AaF _ (by omega),Aee h0 hr,oB,eC,eO]
   have hos:=Arr (Co l ms) (Ao l g);have hol2:=Dt (BJ h0).1.la g;unfold Vx;have hh:=BA (X:=Int) (body:=fun L x=>QF KK a0 false (f,l,g,ms,rest) (DL f l g ms rest) (DL f l g ms rest) (0,0,4) (0,0,4) ((Ao l g).filter (Co l ms),0) ((Ao l g).filter (Co l ms),0) (p,ns) (Kr p ns) (Kr p ns) true true (AA ns) (AA ns) (true,0) (true,0) (fun v0=>L v0) x) ((Ao l g).filter (Co l ms)) (fun q=>(q:Int)) (fun _=>true) (some false) (some true)
    (fun L q hq=>by
     obtain⟨v,t,eo,hv,ha⟩:=Aef h0 hr (gM hq);have hcol:=Aec (Q4 o1 o2 o3) hv;unfold QF;simp only;rw[in1 hq,in0,gd hq,Ak (by omega),eo,eM,← eM]
     rw[eM];rw[show (decide (0≤(0:Int))&&decide ((0:Int)<((v :: t).length:Int)))=true by simp]
     rw[show (v :: t).getD ((0:Int)+(0:Int)).toNat ((0:Int),(0:Int))=v from rfl,hcol,oB,ha]
     simp only[aS,cT,bne_self_eq_false,cF])
    (fun L=>by
     unfold QF;simp only;rw[AS,cF];rfl) KK 0 (by omega) (by have:=FO (n:=((Ao l g).filter (Co l ms)).length) (by omega);omega)
   refine hh.trans ?_;rw[Aqn.2 fun _ _=>rfl];rfl
  ·rfl
 ·rw[cT,hcf2 (beq_iff_eq.1 h5)];rfl
end Go.Proofs.YteheolldcpjkcaaGreat.X
