import Derived.Test.YtkemdhpdfaejgaaGreatDoorQtSI
import Derived.Test.YtkemdhpdfaejgaaGreatDoorQtSK
namespace Go.Proofs.YtkemdhpdfaejgaaGreatDoor.X
open Go
set_option linter.unusedSimpArgs false
set_option linter.unusedVariables false
def FT (ns o:List Int) (v c:Int):List Int:=List.zipWith (fun n y=>bif n==v then c else y) ns o
theorem Xp {ns o:List Int} (h:o.length=ns.length) (v c:Int):(FT ns o v c).length=ns.length:=by
 unfold FT;rw[List.length_zipWith];omega
theorem AkE {ns o:List Int} (h:o.length=ns.length) {v c:Int} {i:Nat} (hi:i<ns.length) (hi':i<(FT ns o v c).length):(FT ns o v c)[i]=bif ns[i]==v then c else o[i]:=List.getElem_zipWith ..
theorem AkF {α:Type} {F o:List α} {i:Nat} (h1:i<F.length) (h2:F.length=o.length):(F.take i++o.drop i).set i F[i]=F.take (i+1)++o.drop (i+1):=by
 have h3:i<o.length:=by omega
 have ht:(F.take i).length=i:=by rw[ABv];omega
 rw[dC h3,List.set_append_right _ _ (by omega),ht,AEh,List.set_cons_zero,tS h1,AA5]
 rfl
theorem AfV {α:Type} {F o:List α} {i:Nat} (h1:i<F.length) (h2:F.length=o.length) (h:F[i]=o[i]):F.take i++o.drop i=F.take (i+1)++o.drop (i+1):=by
 have h3:i<o.length:=by omega
 rw[dC h3,tS h1,AA5,h];rfl
theorem ZV {s:Int×Lt×Int×List Mo×List Ma} (hl:IsL s.2.1) {ns:List Int} (hns:ns.length=(Aa s.2.1).length) (hm:∀ x∈s.2.2.2.2,Ba x.1=true) (hn:s.2.2.2.2.length≤1000) {a0:ByteArray} {y1:SpC} {j:Nat} (hj:j<s.2.2.2.2.length) {L:Int→List Int→Option (Pt×Int×Int)} {o:List Int} (ho:o.length=ns.length) :
  ∀ (n i:Nat),i≤ns.length→ns.length-i<n→Ok KK a0 (j:Int) y1 ns s L n (i:Int) ((FT ns o (nmS s.2.1 ns s.2.2.2.2[j]) s.2.2.2.2[j].2).take i++o.drop i)=L ((j+1:Nat):Int) (FT ns o (nmS s.2.1 ns s.2.2.2.2[j]) s.2.2.2.2[j].2)
 | 0,i,_,h=>by omega
 | n+1,i,hi,h=>by
  have hc:=AK hl;have hF:=Xp ho (nmS s.2.1 ns s.2.2.2.2[j]) s.2.2.2.2[j].2;show Zw KK a0 (j:Int) y1 ns s L (fun v0 v1=>Ok KK a0 (j:Int) y1 ns s L n v0 v1) (i:Int) _=_;unfold Zw;by_cases hlt:i<ns.length
  ·have hx:=hm _ (gM hj);have hnum:=Fq hl (OL hx);have hb:=(EB hl s.2.2.2.2[j].1).2;have hnl:A8 s.2.1 s.2.2.2.2[j].1<ns.length:=by
    have:((A8 s.2.1 s.2.2.2.2[j].1:Nat):Int)<((ns.length:Nat):Int):=by
     rw[hns,CH hl,Gq hl];exact hb
    omega
   have hlen:((FT ns o (nmS s.2.1 ns s.2.2.2.2[j]) s.2.2.2.2[j].2).take i++o.drop i).length=ns.length:=by
    rw[lA,ABv,ADh];omega
   rw[in1 hlt,in0,in1 hj,gd hj,hlen,in1 hlt];simp only[aS,cT];rw[hnum,oB,in1 hnl,in0,Akq,Akq,Af (by omega)]
   simp only[aS,cT];have e1:ns.getD i 0=ns[i]:=by simp[List.getD,hlt]
   have hg:=AkE ho (v:=nmS s.2.1 ns s.2.2.2.2[j]) (c:=s.2.2.2.2[j].2) hlt (by omega)
   have z:((0:Int)+(i:Int)).toNat=i:=by omega
   show (bif (ns.getD i 0==nmS s.2.1 ns s.2.2.2.2[j]) then _ else _)=_;rw[e1,z];cases hq:ns[i]==nmS s.2.1 ns s.2.2.2.2[j]
   ·rw[hq,cF] at hg;rw[cF,AfV (by omega) (by omega) hg]
    exact ZV hl hns hm hn hj ho n (i+1) (by omega) (by omega)
   ·rw[hq,cT] at hg;have hset:=AkF (F:=FT ns o (nmS s.2.1 ns s.2.2.2.2[j]) s.2.2.2.2[j].2) (o:=o) (i:=i) (by omega) (by omega)
    rw[hg] at hset;rw[cT,hset];exact ZV hl hns hm hn hj ho n (i+1) (by omega) (by omega)
  ·have:i=ns.length:=by omega
   subst this;rw[AO,cF,Af (by omega),ABM (by omega),ABD,ABN (by omega)]
theorem Xq {s:Int×Lt×Int×List Mo×List Ma} (hl:IsL s.2.1) {ns:List Int} (hns:ns.length=(Aa s.2.1).length) (hm:∀ x∈s.2.2.2.2,Ba x.1=true) (hn:s.2.2.2.2.length≤1000) {a0:ByteArray} {y1:SpC} :
  ∀ (n j:Nat) (o:List Int),o.length=ns.length→j≤s.2.2.2.2.length→s.2.2.2.2.length-j<n→K6 KK a0 y1 ns s n (j:Int) o=some ((s.1,s.2.1,(s.2.2.2.2.drop j).foldl (fun o x=>FT ns o (nmS s.2.1 ns x) x.2) o),0,0)
 | 0,j,_,_,_,h=>by omega
 | n+1,j,o,ho,hj,h=>by
  have hc:=AK hl;show TP KK a0 y1 ns s (fun c0 d0 d1=>Ok KK a0 c0 y1 ns s (fun v0 v1=>K6 KK a0 y1 ns s n v0 v1) KK d0 d1) (fun v0 v1=>K6 KK a0 y1 ns s n v0 v1) (j:Int) o=_;unfold TP;by_cases hlt:j<s.2.2.2.2.length
  ·rw[in1 hlt,cT,dC hlt,ABy];have h1:=ZV hl hns hm hn (a0:=a0) (y1:=y1) hlt (L:=fun v0 v1=>K6 KK a0 y1 ns s n v0 v1) ho KK 0 (by omega) (by simp only[KK];omega)
   have z:((0:Nat):Int)=0:=rfl;rw[ACU,ABi,ABb,z] at h1;refine h1.trans ?_;exact Xq hl hns hm hn n (j+1) _ (Xp ho _ _) (by omega) (by omega)
  ·have:j=s.2.2.2.2.length:=by omega
   subst this;rw[AO,cF,ABZ];rfl
theorem AkG (ns:List Int) (φ:Int→Int) (v c:Int):FT ns (ns.map φ) v c=ns.map fun n=>bif v==n then c else φ n:=by
 unfold FT
 induction ns with
 | nil=>rfl
 | cons n ns ih =>
  rw[ABH,List.zipWith_cons_cons,ih,ABH];congr 1;have:(n==v)=(v==n):=by rw[ABR,beq_iff_eq,beq_iff_eq];exact eq_comm
  rw[this]
theorem Rw (l:Lt) (ns:List Int):∀ (ms:List Ma) (φ:Int→Int),ms.foldl (fun o x=>FT ns o (nmS l ns x) x.2) (ns.map φ)=ns.map fun k=>ms.foldl (fun c x=>bif nmS l ns x==k then x.2 else c) (φ k)
 | [],φ=>rfl
 | x :: ms,φ=>by
  rw[ABy,AkG,Rw l ns ms];rfl
noncomputable def Fd (l:List UInt8):Pt×Int×Int:=match EY l with
 | .inl (a,c)=>(dP,a,c)
 | .inr s=>(KB s,0,0)
theorem AfW {l:List UInt8} (hl:l.length≤1048576):f7G KK (mk l)=some (Fd l):=by
 obtain⟨r,e,h⟩:=Dn l hl;unfold f7G AuH Fd;rw[e,oB];cases hc:EY l with
 | inl x =>
  rw[hc] at h;obtain⟨h1,h2⟩:=h;have hb:(r.2.2 != (0:Int))=true:=by rw[h1,bne_iff_ne];exact h2
  rw[hb,h1];cases r.1<;>rfl
 | inr s =>
  rw[hc] at h;obtain⟨h1,h2,h3⟩:=h;subst h1;obtain⟨g1,g2,g3⟩:=EL h2 h3;have hla:=h2.la (by omega)
  have hlen:=DL s.2.2.1 (grS s);have hcl:=AK hla;show (FG KK s.2.2.1 s.2.2.2.1).bind _=_;rw[g1,oB];have g4:Qg KK (Pl s).2.1 (grS s)=some (AP s.2.2.1 (grS s)):=DT g3.orb;rw[g4,oB];have hk:(decide (0≤((AP s.2.2.1 (grS s)).length:Int))&&Nat.ble (((AP s.2.2.1 (grS s)).length:Int)).toNat (lim 8)&&(((AP s.2.2.1 (grS s)).length:Int)==((AP s.2.2.1 (grS s)).length:Int)))=true:=by
   rw[in0,ACj,GR (by omega)]
   simp
  rw[hk,cT];have hrep:List.replicate (((AP s.2.2.1 (grS s)).length:Int)).toNat (0:Int)=(AP s.2.2.1 (grS s)).map fun _=>0:=by
   rw[ACj,List.map_const']
  have hmm:∀ x∈s.2.2.2.2,Ba x.1=true:=fun x hx=>(h2.ma x hx).1;have hkl:=h2.kl;have:=Xq (s:=Pl s) hla hlen hmm (by simp only;omega) (a0:=mk l) (y1:=(some (Pl s),0,0)) KK 0 ((AP s.2.2.1 (grS s)).map fun _=>0) (by rw[ABf]) (by omega) (by simp only[KK];omega)
  rw[ABb] at this;have hf:(Pl s).2.2.2.2.foldl (fun o x=>FT (AP s.2.2.1 (grS s)) o (nmS (Pl s).2.1 (AP s.2.2.1 (grS s)) x) x.2) ((AP s.2.2.1 (grS s)).map fun _=>0)=GV s.2.2.1 (grS s) s.2.2.2.2 0:=Rw s.2.2.1 (AP s.2.2.1 (grS s)) s.2.2.2.2 fun _=>0;rw[hf] at this;rw[hrep];exact this
theorem Rx {l:List UInt8} (hl:l.length≤1048576):f6G KK (mk l)=some (Fd l):=by
 unfold f6G Fd;rw[Pq l hl,oB];cases hc:EY l with
 | inl x=>rfl
 | inr s=>rfl
theorem AfX {l:List UInt8} (hl:l.length≤1048576):(Fd l).1.2.2.length≤1000:=by
 obtain⟨r,e,h⟩:=Dn l hl;unfold Fd;cases hc:EY l with
 | inl x=>simp[dP]
 | inr s =>
  rw[hc] at h;obtain⟨h1,h2,h3⟩:=h;have hla:=h2.la (by omega)
  have hcl:=AK hla;have hlen:=DL s.2.2.1 (grS s);simp only[KB,GV,ABf];omega
end Go.Proofs.YtkemdhpdfaejgaaGreatDoor.X
namespace Go.Proofs.YtkemdhpdfaejgaaGreatDoor.X
open Go
set_option linter.unusedSimpArgs false
set_option linter.unusedVariables false
def mk6 (k:Int):Mo:=((k,k+1,k+2,k+3),(k+4,k+5))
def MkM (s:List Mo) (n:Nat):Prop:=∀ i,i<n→s[i]? = some (mk6 (1+6*(i:Int)))
noncomputable def HG (l:List UInt8):List Mo×Int:=match EY l with
 | .inl (_,c)=>([],c)
 | .inr s=>(grS s,0)
theorem Af2 {l:List UInt8} (hl:l.length≤1048576):f9G KK (mk l)=some (HG l):=by
 obtain⟨r,e,h⟩:=Dn l hl;unfold f9G HG;rw[e,oB];cases hc:EY l with
 | inl x =>
  rw[hc] at h;obtain⟨h1,h2⟩:=h;have hb:(r.2.2 != (0:Int))=true:=by rw[h1,bne_iff_ne];exact h2
  rw[hb,h1];cases r.1<;>rfl
 | inr s =>
  rw[hc] at h;obtain⟨h1,h2,h3⟩:=h;rw[h1];show (FG KK s.2.2.1 s.2.2.2.1).bind _=_;rw[(EL h2 h3).1];rfl
theorem Af3 {l:List UInt8} (hl:l.length≤1048576):f8G KK (mk l)=some (HG l):=by
 unfold f8G HG;obtain⟨r,e,h⟩:=Dn l hl;rw[Pq l hl,oB];cases hc:EY l with
 | inl x =>
  rw[hc] at h;have hb:(x.2 != (0:Int))=true:=by rw[bne_iff_ne];exact h.2
  simp only;rw[hb];rfl
 | inr s =>
  rw[hc] at h;obtain⟨h1,h2,h3⟩:=h;show (Ze KK (XS s)).bind _=_;unfold Ze;have g2':Ob KK (XS s).2.2.1 (XS s).2.2.2.1=some (grS s):=(EL h2 h3).2.1;rw[g2'];rfl
theorem Af4 {l:List UInt8} (hl:l.length≤1048576):(HG l).1.length≤1000:=by
 obtain⟨r,e,h⟩:=Dn l hl;unfold HG;cases hc:EY l with
 | inl x=>simp
 | inr s =>
  rw[hc] at h;obtain⟨h1,h2,h3⟩:=h;have:=(EL h2 h3).2.2.orb.len;simp only;omega
end Go.Proofs.YtkemdhpdfaejgaaGreatDoor.X
namespace Go.Proofs.YtkemdhpdfaejgaaGreatDoor.X
open Go
set_option linter.unusedSimpArgs false
set_option linter.unusedVariables false
noncomputable def Mh (l:List UInt8):Int×Int:=match EY l with
 | .inl (_,c)=>(0,c)
 | .inr s=>((s.1:Int),0)
theorem Af0 {l:List UInt8} (hl:l.length≤1048576):AoM KK (mk l)=some (Mh l):=by
 obtain⟨r,e,h⟩:=Dn l hl;unfold AoM Mh;rw[e,oB];cases hc:EY l with
 | inl x =>
  rw[hc] at h;obtain⟨h1,h2⟩:=h;have hb:(r.2.2 != (0:Int))=true:=by rw[h1,bne_iff_ne];exact h2
  rw[hb,h1];cases r.1<;>rfl
 | inr s =>
  rw[hc] at h;rw[h.1];rfl
theorem Af1 {l:List UInt8} (hl:l.length≤1048576):AoL KK (mk l)=some (Mh l):=by
 unfold AoL Mh;obtain⟨r,e,h⟩:=Dn l hl;rw[Pq l hl,oB];cases hc:EY l with
 | inl x =>
  rw[hc] at h;have hb:(x.2 != (0:Int))=true:=by rw[bne_iff_ne];exact h.2
  simp only;rw[hb];rfl
 | inr s=>rfl
end Go.Proofs.YtkemdhpdfaejgaaGreatDoor.X
namespace Go.Proofs.YtkemdhpdfaejgaaGreatDoor.X
open Go
set_option linter.unusedSimpArgs false
set_option linter.unusedVariables false
theorem gko {p:Pt} {g:List Mo} (hO:Bj p.1 p.2.1 g) (hk:GW p g=true) {v u:Vc} (hv:Ah p.2.1 v=true) (hu:u∈Bc p.2.1 g v):atS p u=atS p v:=by
 obtain⟨m,hm,rfl⟩:=CI.1 hu;exact Kp hO.la (AA3.1 hk m hm) hv
theorem AdN {p:Pt} {g:List Mo} (hO:Bj p.1 p.2.1 g) (hk:GW p g=true) {u v:Vc} (hu:Ah p.2.1 u=true) (hv:Ah p.2.1 v=true) (h:ixS p.2.1 g v=ixS p.2.1 g u):atS p u=atS p v:=by
 have:=Km hO hu hv;rw[beq_iff_eq.2 h] at this;exact gko hO hk hv (AA6.1 this.symm)
theorem Xv {p:Pt} {g:List Mo} (hO:Bj p.1 p.2.1 g) {x:Ma} (h:x∈FU p (Aa p.2.1)):Ah p.2.1 x.1=true∧x.2=atS p x.1∧nmS p.2.1 (AP p.2.1 g) x=ixS p.2.1 g x.1:=by
 obtain⟨h1,h2⟩:=AkR h;have hc:=Ay h1;exact⟨hc,h2,by rw[Aku hO.la,BG hO.la hc]⟩
theorem App {p:Pt} {g:List Mo} (hO:Bj p.1 p.2.1 g) (hk:GW p g=true):cfS p.2.1 g (FU p (Aa p.2.1))=false:=by
 refine Uq (fun x hx y hy e=>?_) _ 0 fun y hy=>hy;obtain⟨x1,x2,x3⟩:=Xv hO hx;obtain⟨y1,y2,y3⟩:=Xv hO hy;rw[x3,y3] at e;rw[x2,y2];exact AdN hO hk x1 y1 e.symm
theorem Apq {p:Pt} {g:List Mo} (hO:Bj p.1 p.2.1 g) (hk:GW p g=true):GV p.2.1 g (FU p (Aa p.2.1)) 0=(Aa p.2.1).map (atS p):=by
 unfold GV
 conv=>lhs;unfold AP
 rw[ADf];refine ACP fun v hv=>?_;have hc:Ah p.2.1 v=true:=Ay hv;show IX p.2.1 (AP p.2.1 g) (FU p (Aa p.2.1)) 0 (ixS p.2.1 g v)=atS p v;unfold IX;rw[Ur (a:=atS p v) _ 0 fun x hx e=>by
  obtain⟨x1,x2,x3⟩:=Xv hO hx;rw[x3] at e;rw[x2];exact AdN hO hk x1 hc e.symm]
 by_cases h0:atS p v=0
 ·rw[h0];cases (FU p (Aa p.2.1)).any fun x=>nmS p.2.1 (AP p.2.1 g) x==ixS p.2.1 g v<;>rfl
 ·rw[AB1.2,cT];have hx:(v,atS p v)∈FU p (Aa p.2.1):=ABe.2 ⟨v,ABs.2 ⟨hv,by simp[h0]⟩,rfl⟩
  exact⟨_,hx,by rw[(Xv hO hx).2.2,beq_self_eq_true]⟩
theorem Af8 {p:Pt} (hp:IsP p):GW p [uMo]=true:=by
 unfold GW Bh;rw[ACk,List.all_nil,AC4,AA3];intro v hv;have e:Bl uMo v=v:=by
  unfold Bl uMo;rw[DZ];simp
 rw[e,beq_self_eq_true]
theorem Z2 {p:Pt} (h0:(GX p).2=0):okP p=true∧∃ (T:List UInt8) (s:St),(GX p).1=mk T∧T.length≤3000∧EY T=.inr s∧KB s=p:=by
 have hsz:=RR p;unfold GX at h0 hsz ⊢;cases h:okP p
 ·rw[h] at h0;cases h0
 refine⟨rfl,?_⟩;rw[h] at h0 hsz;simp only[cT] at h0 hsz ⊢;have hp:=E7 h;have hf:=HH h;have hO:=Uk hf hp.l;have hk:=Af8 hp;have hmf:=O1 p (Aa p.2.1) ([],0);unfold Kw at h0 hsz ⊢;rw[hmf] at h0 hsz ⊢;simp only[ABi,ABw] at h0 hsz ⊢;have hfr:=App hO hk;have hcm:=Apq hO hk;have hMv:∀ x∈FU p (Aa p.2.1),Ba x.1=true∧0≤x.2∧x.2≤9:=fun x hx=>by
  obtain⟨x1,x2,_⟩:=Xv hO hx;rw[x2];exact⟨CC hp.l x1,atC h _⟩
 generalize hM:FU p (Aa p.2.1)=M at h0 hsz hfr hcm hMv ⊢;have h40:M.length≤40:=by
  rcases ABK 40 M.length with hk | hk
  ·rw[dT hk] at h0;cases h0
  ·exact hk
 rw[dF (by omega),cF] at hsz ⊢
 have hlen:(Dc p.1 p.2.1++Br (M.map lnK)).length≤3000:=by
  have:=hsz;simp only[Aq] at this;exact this
 have hT:Dc p.1 p.2.1++Br (M.map lnK)=Br (lnF p.1 :: lnL p.2.1 :: M.map lnK):=by
  rw[Aez,← Ev];rfl
 have hrun:BF (lnF p.1 :: lnL p.2.1 :: M.map lnK) s0=((2+M.length,p.1,p.2.1,[],M),0):=by
  rw[AtR hf,AtS hp.l,Aml M _ [] (by omega) hMv (by simp;omega),ABi]
 have hinv:GC (2+M.length,p.1,p.2.1,[],M):=by
  have:=KA (lnF p.1 :: lnL p.2.1 :: M.map lnK) Po (by simp[s0];omega) (by rw[hrun])
  rwa [hrun] at this
 have hg:grS (2+M.length,p.1,p.2.1,[],M)=[uMo]:=RB (EL hinv (by simp only;omega)).2.2 (AkO hf hp.l)
 have hend:GD (2+M.length,p.1,p.2.1,[],M)=0:=by
  unfold GD;rw[if_neg (by simp only;omega),hg]
  simp only;rw[hfr];rfl
 refine⟨_,(2+M.length,p.1,p.2.1,[],M),rfl,hlen,?_,?_⟩
 ·rw[hT];refine RP (by simp) (fun x hx=>?_) (by rw[← hT];exact hlen) hrun hend
  simp only[AA4,ABe] at hx;rcases hx with rfl | rfl | ⟨y,hy,rfl⟩
  ·exact GE Pu.1.2 (Ami _).2
  ·exact GE Pu.2.1.2 (Aat hp.l).2.2
  ·obtain⟨y1,y2,y3⟩:=hMv y hy;exact GE Pu.2.2.2.2 (GE (Ps y1).2.2 (Amk (by omega)).2)
 ·unfold KB;rw[hg];simp only;rw[hcm,Us hp]
theorem AdO {l:Lt} {ns:List Int} {k:Int}:∀ (ms:List Ma) (c:Int),okC c=true→(∀ x∈ms,okC x.2=true)→okC (ms.foldl (fun c x=>bif nmS l ns x==k then x.2 else c) c)=true
 | [],c,h,_=>h
 | x :: ms,c,h,hm=>by
  rw[ABy];refine AdO ms _ ?_ fun y hy=>hm y (ABj _ hy);cases nmS l ns x==k
  ·exact h
  ·exact hm x (by simp)
theorem AkM (s:St):KB s=OU s.2.1 s.2.2.1 fun v=>IX s.2.2.1 (AP s.2.2.1 (grS s)) s.2.2.2.2 0 (ixS s.2.2.1 (grS s) v):=by
 unfold KB OU GV
 conv=>lhs;unfold AP
 rw[ADf];rfl
theorem Af9 {s:St} (h:GC s) (h2:¬ s.1<2):AdI (KB s) (grS s)=(true,0):=by
 have hO:=(EL h h2).2.2.orb;have hfr:=h.fr (by omega)
 have hla:=h.la (by omega)
 have e1:=AfQ (φ:=fun v=>IX s.2.2.1 (AP s.2.2.1 (grS s)) s.2.2.2.2 0 (ixS s.2.2.1 (grS s) v)) hfr (Bt.2 hla) hO.gr fun v _=>AdO _ _ rfl fun x hx=>(h.ma x hx).2;have e2:GW (OU s.2.1 s.2.2.1 fun v=>IX s.2.2.1 (AP s.2.2.1 (grS s)) s.2.2.2.2 0 (ixS s.2.2.1 (grS s) v)) (grS s)=true:=Akx hO fun m hm v hv=>by
  have hmv:Ah s.2.2.1 (mvS s.2.2.1 m v)=true:=AM hO.la _;have e:=Km hO hmv hv;rw[AA6.2 (CI.2 ⟨m,hm,rfl⟩),beq_iff_eq] at e;rw[e]
 rw[AkM];unfold AdI;rw[e1,e2];rfl
theorem AkN {l:List UInt8} (hl:l.length≤1048576) {s:St} (hc:EY l=.inr s):GC s∧¬ s.1<2:=by
 obtain⟨r,e,h⟩:=Dn l hl;rw[hc] at h;exact⟨h.2.1,h.2.2⟩
theorem Aga {c:List Int} (hb:∀ i (h:i<c.length),0≤c[i]∧c[i]≤255) (hl:c.length≤4096):∃ p:Pt,Ajp KK c=some p∧p.2.2.length≤100:=by
 obtain⟨t0,s0,e0⟩:=AdG hb hl;obtain⟨t1,r,e1,s1,_⟩:=BM s0 20;unfold Ajp Ajo;rw[e0,oB,e1,oB];simp only;cases r==0
 ·rw[cF];obtain⟨t2,p,e2,_,hp⟩:=AdL s1;rw[e2,oB];exact⟨p,rfl,hp⟩
 ·rw[cT,show (decide (0≤(42:Int))&&Nat.ble 42 (lim 8)&&((42:Int)==(42:Int)))=true from rfl,cT]
  obtain⟨p,e,hp⟩:=O3 (y2:=(t1,r)) KK 0 t1 (List.replicate 42 0) (by omega) (by simp) s1 (by simp only[KK];omega)
  exact⟨p,e,hp⟩
theorem Mv (a0:List Int) (h:WfA [(.list 5 (.int .u8))] (a0,())):∃ K,f3G K a0=some true:=by
 refine⟨KK,?_⟩;have hw:Wf (.list 5 (.int .u8)) a0:=h.1;unfold f3G;rw[Au2,oB];by_cases hb:(a0.length:Int)>4096
 ·rw[dT hb];rfl
 ·rw[dF hb,cF];obtain⟨t0,s0,e0⟩:=AdG (AdH hw) (by omega)
  obtain⟨t1,b,e1,hbs⟩:=Aaz s0;obtain⟨l,rfl⟩:=Azl b;rw[Aq] at hbs;have hl:l.length≤1048576:=by omega
  have eD:f5G KK a0=some (mk l):=by
   unfold f5G;rw[e0,oB,e1];rfl
  obtain⟨q,eq,hq⟩:=Aga (AdH hw) (by omega)
  have hcl:=AfX hl;have hgl:=Af4 hl;rw[eD,oB,Rx hl,oB,AfW hl,oB,Af3 hl,oB,Af2 hl,oB,Af1 hl,oB,Af0 hl,oB,eq,oB,Agw,oB,RQ,oB,Azn];simp only[bne_self_eq_false,nF,cT];rw[GU (by omega),oB]
  simp only[nT,cF,nF,cT];rw[OT (by omega),oB]
  have hcode:((HG l).2 != (Fd l).2.2)=false∧((Mh l).2 != (Fd l).2.2)=false:=by
   unfold HG Mh Fd;cases EY l<;>simp
  rw[hcode.1,hcode.2];simp only[nT,cF];have hfin:(bif (Fd l).2.2 != (0:Int) then some true else (AfB KK (Fd l).1 (HG l).1).bind fun y=>some (bif (bif ((Fd l).2.1==(0:Int)) then (decide ((Mh l).1≥(2:Int))) else false) then (bif (decide (((HG l).1.length:Int)>(100:Int))) then true else (bif (y.2==(0:Int)) then y.1 else false)) else false))=some true:=by
   unfold HG Mh Fd at *;cases hc:EY l with
   | inl x =>
    obtain⟨r,e,hr⟩:=Dn l hl;rw[hc] at hr;have:(x.2 != (0:Int))=true:=by rw[bne_iff_ne];exact hr.2
    simp only;rw[this];rfl
   | inr s =>
    obtain⟨i1,i2⟩:=AkN hl hc;simp only[bne_self_eq_false,cF,beq_self_eq_true,cT];have hg2:=(EL i1 i2).2.2.orb.len;rw[AfR _ (by omega),Af9 i1 i2,oB,dT (show (s.1:Int)≥2 by omega)]
    simp only[beq_self_eq_true,cT];cases decide ((((grS s).length:Nat):Int)>100)<;>rfl
  cases h0:(GX q).2==0
  ·rw[cF];exact hfin
  ·obtain⟨hok,T,s,p1,p2,p3,p4⟩:=Z2 (beq_iff_eq.1 h0);have ec:f6G KK (mk T)=some (q,0,0):=by
    rw[Rx (by omega)]
    unfold Fd;rw[p3];show some (KB s,(0:Int),(0:Int))=some (q,0,0);rw[p4]
   rw[cT,p1,ec,oB];simp only[bne_self_eq_false,cF,nF,cT];rw[GU (by omega),oB]
   simp only[nT,cF];exact hfin
end Go.Proofs.YtkemdhpdfaejgaaGreatDoor.X
