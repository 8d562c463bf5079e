/- The plain law of FnShortPrograms: a short program tells the lean pattern and its group. -/
import Derived.Test.YtkemdhpdfaejgaaGreatDoorQtSJ
namespace Go.Proofs.YtkemdhpdfaejgaaGreatDoor.X
open Go
set_option linter.unusedSimpArgs false
set_option linter.unusedVariables false
theorem Xw {f:Int} {l:Lt} {G:List Mo} (hG:Bj f l G) (h12:G.length≤12):∀ (L:List Mo) (s:Sp),(∀ m∈L,m∈G)→Iv4 f l G s→s.1=Dc f l++Br (s.2.1.map lnM) →
  Iv4 f l G (L.foldl (G7 l) s)∧(L.foldl (G7 l) s).1=Dc f l++Br ((L.foldl (G7 l) s).2.1.map lnM)∧(∀ x∈s.2.2,x∈(L.foldl (G7 l) s).2.2)∧∀ m∈L,m∈(L.foldl (G7 l) s).2.2
 | [],s,_,hi,ht=>⟨hi,ht,fun x hx=>hx,fun m hm=>by cases hm⟩
 | m :: L,s,hL,hi,ht=>by
  have hl:=hG.la;have hm:m∈G:=hL m (by simp)
  have hfew:=hi.few hG h12;have hn:=hi.next hG h12 hm;have hok:∀ x∈s.2.1++[m],OkM f l x:=fun x hx=>by
   rcases AA8.1 hx with hx | hx
   ·exact hG.pr.mem x (hi.tl x hx)
   ·rw[mS] at hx;rw[hx];exact hG.pr.mem _ hm
  have ht':(G7 l s m).1=Dc f l++Br ((G7 l s m).2.1.map lnM):=by
   unfold G7;cases s.2.2.contains m
   ·simp only[cF];rw[ADM,Ev,AwJ,ht,AA5];rfl
   ·exact ht
  have hup:(∀ x∈s.2.2,x∈(G7 l s m).2.2)∧m∈(G7 l s m).2.2:=by
   unfold G7;cases hc:s.2.2.contains m
   ·have hgd:=(Z3 hl hok (by simp;omega)).2.2
    simp only[cF];exact⟨fun x hx=>hgd.all x ((hi.gd.gen x hx).mono fun y hy=>AA8.2 (.inl hy)),hgd.all m (Gn.self hl hok (by simp))⟩
   ·exact⟨fun x hx=>hx,AA6.1 hc⟩
  obtain⟨r1,r2,r3,r4⟩:=Xw hG h12 L (G7 l s m) (fun x hx=>hL x (ABj _ hx)) hn ht';rw[ABy];refine⟨r1,r2,fun x hx=>r3 x (hup.1 x hx),fun x hx=>?_⟩;rcases AA4.1 hx with rfl | hx
  ·exact r3 _ hup.2
  ·exact r4 x hx
def FU (p:Pt) (C:List Vc):List Ma:=(C.filter fun v=>!(atS p v==0)).map fun v=>(v,atS p v)
theorem O1 (p:Pt):∀ (C:List Vc) (s:List UInt8×Nat),C.foldl (DN p) s=(s.1++Br ((FU p C).map lnK),s.2+(FU p C).length)
 | [],s=>by simp[FU,Br]
 | v :: C,s=>by
  rw[ABy,O1 p C];unfold DN FU;rw[List.filter_cons];cases h:atS p v==0
  ·simp only[cF,nF,if_true,ABH,ABc];rw[AeA,AA5,← Ev];refine Prod.ext rfl ?_;simp only;omega
  ·rfl
theorem AkR {p:Pt} {C:List Vc} {x:Ma} (h:x∈FU p C):x.1∈C∧x.2=atS p x.1:=by
 obtain⟨v,hv,rfl⟩:=ABe.1 h;exact⟨(ABs.1 hv).1,rfl⟩
theorem Uq {l:Lt} {ns:List Int} {ms:List Ma} (h:∀ x∈ms,∀ y∈ms,nmS l ns x=nmS l ns y→x.2=y.2):∀ (r:List Ma) (j:Nat),(∀ y∈r,y∈ms)→(cfO l ns ms j r).2.2=false
 | [],_,_=>rfl
 | y :: r,j,hr=>by
  have e:(ms.take j).any (cfB l ns y)=false:=by
   rw[ADE];intro x hx hc;unfold cfB at hc;rw[aT,beq_iff_eq,bne_iff_ne] at hc;exact hc.2 (h x (ACf hx) y (hr y (by simp)) hc.1)
  unfold cfO;rw[e,cF];exact Uq h r (j+1) fun z hz=>hr z (ABj _ hz)
theorem Ur {l:Lt} {ns:List Int} {k a:Int}:∀ (ms:List Ma) (c:Int),(∀ x∈ms,nmS l ns x=k→x.2=a)→ms.foldl (fun c x=>bif nmS l ns x==k then x.2 else c) c=bif ms.any (fun x=>nmS l ns x==k) then a else c
 | [],c,_=>rfl
 | x :: ms,c,h=>by
  rw[ABy,Ur ms _ fun y hy=>h y (ABj _ hy),AD7];cases hx:nmS l ns x==k
  ·rfl
  ·rw[h x (by simp) (beq_iff_eq.1 hx)]
   cases ms.any fun x=>nmS l ns x==k<;>rfl
theorem Xx {p:Pt} (hp:IsP p) {v u:Vc} (hv:Ah p.2.1 v=true) (hu:u∈Bc p.2.1 (Au p) v):atS p u=atS p v:=by
 obtain⟨m,hm,rfl⟩:=CI.1 hu;exact Kp hp.l (Co.1 hm).2.2 hv
theorem AdP {p:Pt} (hp:IsP p) {u v:Vc} (hu:Ah p.2.1 u=true) (hv:Ah p.2.1 v=true) (h:ixS p.2.1 (Au p) v=ixS p.2.1 (Au p) u):atS p u=atS p v:=by
 have:=Km (DM hp) hu hv;rw[beq_iff_eq.2 h] at this;exact Xx hp hv (AA6.1 this.symm)
theorem O2 {p:Pt} (hp:IsP p) {x:Ma} (h:x∈FU p (D0 p.2.1 (Au p))):Ah p.2.1 x.1=true∧x.2=atS p x.1∧nmS p.2.1 (AP p.2.1 (Au p)) x=ixS p.2.1 (Au p) x.1:=by
 obtain⟨h1,h2⟩:=AkR h;have hc:=O0 (DM hp) _ h1;exact⟨hc,h2,by rw[Aku hp.l,BG hp.l hc]⟩
theorem AkS {p:Pt} (hp:IsP p):cfS p.2.1 (Au p) (FU p (D0 p.2.1 (Au p)))=false:=by
 refine Uq (fun x hx y hy e=>?_) _ 0 fun y hy=>hy;obtain⟨x1,x2,x3⟩:=O2 hp hx;obtain⟨y1,y2,y3⟩:=O2 hp hy;rw[x3,y3] at e;rw[x2,y2];exact AdP hp x1 y1 e.symm
theorem AkT {p:Pt} (hp:IsP p):GV p.2.1 (Au p) (FU p (D0 p.2.1 (Au p))) 0=(Aa p.2.1).map (atS p):=by
 have hG:=DM hp;unfold GV
 conv=>lhs;unfold AP
 rw[ADf];refine ACP fun v hv=>?_;have hc:Ah p.2.1 v=true:=Ay hv;show IX p.2.1 (AP p.2.1 (Au p)) (FU p (D0 p.2.1 (Au p))) 0 (ixS p.2.1 (Au p) v)=atS p v;unfold IX;rw[Ur (a:=atS p v) _ 0 fun x hx e=>by
  obtain⟨x1,x2,x3⟩:=O2 hp hx;rw[x3] at e;rw[x2];exact AdP hp x1 hc e.symm]
 by_cases h0:atS p v=0
 ·rw[h0];cases (FU p (D0 p.2.1 (Au p))).any fun x=>nmS p.2.1 (AP p.2.1 (Au p)) x==ixS p.2.1 (Au p) v<;>rfl
 ·rw[AB1.2,cT];obtain⟨o,ho,hvo⟩:=AB1.1 (OY hG hc);obtain⟨w,t,e,hw⟩:=Uo hG ho;obtain⟨r,hr,hro⟩:=ABe.1 ho;have hrc:Ah p.2.1 r=true:=Ay (ABs.1 hr).1;have hvr:v∈Bc p.2.1 (Au p) r:=by rw[hro];exact AA6.1 hvo
  have hwr:w∈Bc p.2.1 (Au p) r:=by rw[hro,e];simp
  have hvw:v∈Bc p.2.1 (Au p) w:=by rw[Akj hG hrc hwr];exact hvr
  have ha:atS p v=atS p w:=Xx hp hw hvw;have hf:w∈D0 p.2.1 (Au p):=ABe.2 ⟨o,ho,by rw[e];rfl⟩
  have hx:(w,atS p w)∈FU p (D0 p.2.1 (Au p)):=ABe.2 ⟨w,ABs.2 ⟨hf,by rw[← ha];simp[h0]⟩,rfl⟩
  refine⟨_,hx,?_⟩;rw[(O2 hp hx).2.2,Km hG hc hw];exact AA6.2 hvw
theorem Us {p:Pt} (hp:IsP p):(Aa p.2.1).map (atS p)=p.2.2:=by
 have hn:=hp.n;have hl:=CH hp.l;have hi:=Gq hp.l;refine List.ext_getElem (by rw[ABf];omega) fun i h1 h2=>?_
 rw[ABf] at h1;rw[AEd];unfold atS;rw[Bb hp.l h1,ABz,AA7 h2];rfl
theorem Z4 {p:Pt} (h0:(CU p).2=0):okP p=true∧∃ (T:List UInt8) (s:St),(CU p).1=mk T∧T.length≤3000∧EY T=.inr s∧GC s∧2≤s.1∧KB s=Ap p∧grS s=Au (Ap p):=by
 unfold CU at h0 ⊢;cases h:okP p
 ·rw[h] at h0;cases h0
 refine⟨rfl,?_⟩;rw[h] at h0;simp only[cT] at h0 ⊢;have hp:=E7 h;have hf:=HH h;have hq:=Ig hp;have hG:=DM hq;have h12:=O9 hp;have hc:=AkQ h;obtain⟨r1,r2,-,r4⟩:=Xw hG h12 (Au (Ap p)) (Dc p.1 (Ap p).2.1,[],[uMo]) (fun m hm=>hm) (AtE hf hq.l _) (by simp[Br];rfl)
 generalize hs:(Au (Ap p)).foldl (G7 (Ap p).2.1) (Dc p.1 (Ap p).2.1,[],[uMo])=s at h0 r1 r2 r4 ⊢;have hmf:=O1 (Ap p) (D0 (Ap p).2.1 (Au (Ap p))) ([],0);have hfl:=Apr hq.l (Au (Ap p));unfold Agb Kw at h0 ⊢;rw[hmf] at h0 ⊢;simp only[ABi,ABw] at h0 ⊢;have hbd:=Kx hc (D0 (Ap p).2.1 (Au (Ap p))) ([],0) fun v hv=>CC hq.l (O0 hG v hv);rw[hmf] at hbd;simp only[ABi,ABm] at hbd;generalize hM:FU (Ap p) (D0 (Ap p).2.1 (Au (Ap p)))=M at h0 hbd ⊢;have h40:M.length≤40:=by
  rcases ABK 40 M.length with hk | hk
  ·rw[dT hk] at h0;cases h0
  ·exact hk
 rw[dF (by omega),cF]
 have hMv:∀ x∈M,Ba x.1=true∧0≤x.2∧x.2≤9:=fun x hx=>by
  rw[← hM] at hx;obtain⟨x1,x2,_⟩:=O2 hq hx;rw[x2];exact⟨CC hq.l x1,hc _⟩
 have hTv:∀ m∈s.2.1,(m.1∈pmQ++pmH∧Ba m.2=true)∧GS p.1 (Ap p).2.1 m=true∧AX (Ap p).2.1 m.2=m.2:=fun m hm=>by
  have hmG:=r1.tl m hm;obtain⟨b1,b2⟩:=AtF hG hmG;refine⟨⟨b1,b2⟩,?_,BG hq.l (hG.pr.mem m hmG).2⟩;unfold GS;rw[b2,AC4];exact AA6.2 (hG.stab hmG)
 have hfew:=r1.few hG h12;have htx:=r1.tx;have hT:s.1++Br (M.map lnK)=Br (lnF p.1 :: lnL (Ap p).2.1 :: (s.2.1.map lnM++M.map lnK)):=by
  rw[r2];show Dc p.1 (Ap p).2.1++_++_=_;rw[Aez,AA5,← Ev,← Ev];rfl
 have hlm:∀ x∈M,(lnK x).length≤30:=fun x hx=>by
  obtain⟨x1,x2,x3⟩:=hMv x hx;have:=FX x1 (c:=x.2) (by omega)
  rw[AeA,RO,lA] at this;show (lnK (x.1,x.2)).length≤30;omega
 have hlK:∀ (M:List Ma),(∀ x∈M,(lnK x).length≤30)→(Br (M.map lnK)).length≤31*M.length:=by
  intro M
  induction M with
  | nil=>intro _;simp[Br]
  | cons x M ih =>
   intro hx;have h1:=hx x (by simp)
   have h2:=ih fun y hy=>hx y (ABj _ hy);have e:Br ((x :: M).map lnK)=lnK x++[10]++Br (M.map lnK):=by simp[Br]
   rw[e,lA,lA,ABA,ABc];omega
 have hlK:=hlK M hlm;have hlen:(s.1++Br (M.map lnK)).length≤3000:=by
  rw[lA];omega
 have hrun:BF (lnF p.1 :: lnL (Ap p).2.1 :: (s.2.1.map lnM++M.map lnK)) s0=((2+s.2.1.length+M.length,p.1,(Ap p).2.1,s.2.1,M),0):=by
  rw[AtR hf,AtS hq.l,AtT s.2.1 2 [] (by omega) hTv (by simp;omega),ABi,Aml M _ [] (by omega) hMv (by simp;omega),ABi]
 have hinv:GC (2+s.2.1.length+M.length,p.1,(Ap p).2.1,s.2.1,M):=by
  have:=KA (lnF p.1 :: lnL (Ap p).2.1 :: (s.2.1.map lnM++M.map lnK)) Po (by simp[s0];omega) (by rw[hrun])
  rwa [hrun] at this
 have hg:grS (2+s.2.1.length+M.length,p.1,(Ap p).2.1,s.2.1,M)=Au (Ap p):=by
  have g3:=(EL hinv (by simp only;omega)).2.2
  rw[RB g3 r1.gd];exact Im r1.gd.orb.pr.pw hG.pr.pw fun x=>⟨fun hx=>(r1.gd.gen x hx).into hG.one r1.tl fun m hm n hn=>hG.mul hm hn,fun hx=>r4 x hx⟩
 have hend:GD (2+s.2.1.length+M.length,p.1,(Ap p).2.1,s.2.1,M)=0:=by
  unfold GD;rw[if_neg (by simp only;omega),hg,← hM]
  simp only;rw[AkS hq];rfl
 refine⟨_,_,rfl,hlen,?_,hinv,by simp only;omega,?_,hg⟩
 ·rw[hT];refine RP (by simp) (fun x hx=>?_) (by rw[← hT];exact hlen) hrun hend
  simp only[AA4,AA8,ABe] at hx;rcases hx with rfl | rfl | ⟨m,hm,rfl⟩ | ⟨y,hy,rfl⟩
  ·exact GE Pu.1.2 (Ami _).2
  ·exact GE Pu.2.1.2 (Aat hq.l).2.2
  ·obtain⟨⟨b1,b2⟩,_⟩:=hTv m hm;exact GE Pu.2.2.1.2 (Amj b1 b2).2
  ·obtain⟨y1,y2,y3⟩:=hMv y hy;exact GE Pu.2.2.2.2 (GE (Ps y1).2.2 (Amk (by omega)).2)
 ·unfold KB;rw[hg,← hM];simp only;rw[AkT hq,Us hq];rfl
theorem O3 {c:List Int} {y2:(Int×Int)×Int}:∀ (n q:Nat) (t:Int×Int) (cs:List Int),q≤41→cs.length=42→Src c t→42-q<n →
  ∃ p:Pt,TQ KK c y2 n (q:Int) t.1 t.2 cs=some p∧p.2.2.length≤100
 | 0,q,_,_,_,_,_,h=>by omega
 | n+1,q,t,cs,hq,hcs,hS,hn=>by
  obtain⟨t',r,e,hS',r0,r1⟩:=A5 hS (n:=3) (by omega)
  show ∃ p:Pt,Zx KK c y2 (fun v0 v1 v2 v3=>TQ KK c y2 n v0 v1 v2 v3) (q:Int) t.1 t.2 cs=some p∧_;unfold Zx;rw[show AL KK (c,t.1,t.2) 3=some (t',r) from e,oB]
  simp only;rw[As (n:=39+r) (by omega) (by omega)]
  by_cases hlt:(q:Int)<39+r
  ·rw[dT hlt,cT,in0,in1 (show q<cs.length by omega),aS,cT,Af (by omega)]
   exact O3 n (q+1) t' _ (by omega) (by rw[ACg];exact hcs) hS' (by omega)
  ·rw[dF hlt,cF];exact⟨_,rfl,by simp only;omega⟩
end Go.Proofs.YtkemdhpdfaejgaaGreatDoor.X
