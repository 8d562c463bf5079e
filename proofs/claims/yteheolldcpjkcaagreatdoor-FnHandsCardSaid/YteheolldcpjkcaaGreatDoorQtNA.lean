/- Plain facts: the other hand of a pattern: its group, and what is said of it. -/
import Derived.Test.YteheolldcpjkcaaGreatDoorQtMQ
import Derived.Test.YteheolldcpjkcaaGreatDoorQtMH
namespace Go.Proofs.YteheolldcpjkcaaGreatDoor.X
open Go
set_option linter.unusedSimpArgs false
set_option linter.unusedVariables false
abbrev swM:Mt:=(0,1,1,0)
abbrev swO:Mo:=((0,1,1,0),0,0)
def sw (v:Vc):Vc:=(v.2,v.1)
def cjM (m:Mt):Mt:=(m.2.2.2,m.2.2.1,m.2.1,m.1)
theorem SC (v:Vc):sw (sw v)=v:=rfl
theorem UE (v:Vc):Ag swM v=sw v:=by
 unfold Ag sw;simp
theorem IF:swM∈pmQ++pmH:=by decide
theorem Adc (m:Mt) (v:Vc):Ag (cjM m) (sw v)=sw (Ag m v):=by
 unfold Ag cjM sw;refine Prod.ext ?_ ?_<;>simp only<;>omega
theorem Add:((pmQ.all fun m=>pmQ.contains (cjM m))&&(pmH.all fun m=>pmH.contains (cjM m)))=true:=by decide +kernel
theorem AlC {f:Int} {m:Mt} (h:m∈pmS f):cjM m∈pmS f:=by
 have hc:=Add;rw[aT] at hc;unfold pmS at h ⊢;split
 ·rename_i e;rw[if_pos e] at h;exact AqW.1 (AqL.1 hc.1 m h)
 ·rename_i e;rw[if_neg e] at h;exact AqW.1 (AqL.1 hc.2 m h)
theorem AkA (m:Mt):cjM (cjM m)=m:=rfl
theorem LV (m:Mt):AO (cjM m)=AO m:=by
 unfold AO cjM;simp only;rw[Aq5 m.2.2.2,Aq5 m.2.2.1]
def lsw (l:Lt):Lt:=Bf swM l
theorem Gh {l:Lt} (hl:IsL l):IsL (lsw l)∧(lsw l).1*(lsw l).2.2=l.1*l.2.2∧∀ v,InL (lsw l) (sw v)↔InL l v:=by
 obtain⟨h1,h2,h3⟩:=DG hl IF;exact⟨h1,h2,fun v=>by rw[← UE];exact h3 v⟩
theorem N5 {l:Lt} (hl:IsL l) (v:Vc):InL (lsw l) v↔InL l (sw v):=by
 rw[← (Gh hl).2.2 (sw v),SC]
theorem Ade {l:Lt} (hl:IsL l):lsw (lsw l)=l:=by
 have h1:=(Gh hl).1;refine KG (Gh h1).1 hl fun v=>?_;rw[N5 h1,N5 hl,SC]
theorem Gi {l:Lt} (hl:IsL l) {m:Mt}:BJ l m=true↔∀ v,InL l v→InL l (Ag m v) :=
 ⟨fun h v hv=>IB hl h hv,fun h=>(X0 hl).2 ⟨h _ (UI l),h _ (UJ l)⟩⟩
theorem AgM {l:Lt} (hl:IsL l) {m:Mt} (h:BJ l m=true):BJ (lsw l) (cjM m)=true:=by
 refine (Gi (Gh hl).1).2 fun v hv=>?_;rw[N5 hl] at hv ⊢;have:=(Gi hl).1 h (sw v) hv;rw[← AkA m,Adc] at this;exact this
theorem AgN {f:Int} {l:Lt} (hl:IsL l) {m:Mt} (h:m∈AP f l):cjM m∈AP f (lsw l):=by
 unfold AP at h ⊢;rw[AqY] at h ⊢;exact⟨AlC h.1,AgM hl h.2⟩
def CC (p:Pt):Pt:=Fy p swO
theorem Adf {p:Pt} (hp:IsP p):IsP (CC p):=Ac1 hp IF
theorem Adg {p:Pt} (hp:IsP p) (c:Vc):atS (CC p) c=atS p (sw c):=by
 unfold CC;rw[HD hp IF];congr 1;unfold Ar Bc CX AO Ag sw;simp
theorem XU {p:Pt} (hp:IsP p):CC (CC p)=p:=by
 have e:∀ v,Ag swM (Ag swM v)=v:=fun v=>by rw[UE,UE,SC]
 refine AgC hp IF IF (fun v=>?_) e;have:=e v;unfold Ar;simp only[Asw];exact this
def cjO (l:Lt) (m:Mo):Mo:=(cjM m.1,As (lsw l) (sw m.2))
theorem LW {p:Pt} (hp:IsP p) {m:Mo} (h:m∈Ad p):cjO p.2.1 m∈Ad (CC p):=by
 have hl:=hp.l;have hs:=(Gh hl).1;obtain⟨h1,h2,h3⟩:=A4.1 h;refine A4.2 ⟨AgN hl h1,Br hs (AN hs _),EM.2 fun v _ _=>?_⟩;have k:=U1 hl h1 h3 (sw v);rw[Adg hp v,← k];have hq:(CC p).2.1=lsw p.2.1:=rfl;have e:atS (CC p) (Ar (cjO p.2.1 m) v)=atS (CC p) (Ar (cjM m.1,sw m.2) v):=by
  refine LT (Adf hp).l ?_;rw[hq];have h2:=Dl (Bp _) (C5 hs (sw m.2));simp only[AtO] at h2;have e3:(Ar (cjO p.2.1 m) v).1-(Ar (cjM m.1,sw m.2) v).1=(As (lsw p.2.1) (sw m.2)).1-(sw m.2).1:=by
   unfold Ar cjO;simp only;omega
  have e4:(Ar (cjO p.2.1 m) v).2-(Ar (cjM m.1,sw m.2) v).2=(As (lsw p.2.1) (sw m.2)).2-(sw m.2).2:=by
   unfold Ar cjO;simp only;omega
  rw[e3,e4];exact h2
 rw[e,Adg hp];congr 1;have e5:Ag (cjM m.1) v=sw (Ag m.1 (sw v)):=by rw[← Adc,SC]
 unfold Ar;rw[e5];rfl
theorem Qn {p:Pt} (hp:IsP p) {m:Mo} (h:m∈Ad p):cjO (lsw p.2.1) (cjO p.2.1 m)=m:=by
 have hl:=hp.l;have hs:=(Gh hl).1;refine Prod.ext rfl ?_;show As (lsw (lsw p.2.1)) (sw (As (lsw p.2.1) (sw m.2)))=m.2;rw[Ade hl];obtain⟨-,h2,-⟩:=A4.1 h
 conv=>rhs;rw[← DQ hl (CS h2)]
 rw[Ce hl];have h3:=Dl (Bp _) (C5 hs (sw m.2));simp only[AtO] at h3;rw[N5 hl] at h3;exact h3
theorem SD {p:Pt} (hp:IsP p):((Ad p).map (cjO p.2.1)).Perm (Ad (CC p)):=by
 have hq:=Adf hp;have n1:=(D1 hp).pr.nodup;have n2:=(D1 hq).pr.nodup;refine (List.perm_ext_iff_of_nodup ?_ n2).2 fun x=>?_
 ·refine Asf.2 (AtC (fun {a b} ha hb hab e=>hab ?_) n1);rw[← Qn hp ha,← Qn hp hb,e]
 ·constructor
  ·intro hx;obtain⟨m,hm,rfl⟩:=Aq6.1 hx;exact LW hp hm
  ·intro hx;have h1:=LW hq hx;rw[XU hp] at h1;refine Aq6.2 ⟨_,h1,?_⟩;have h2:=Qn hq hx;have e:(CC p).2.1=lsw p.2.1:=rfl;rw[e,Ade hp.l] at h2;exact h2
theorem AoW:((pmQ++pmH).all fun m=>(AO m != -1)||((alS (cjM m)==beS m&&beS (cjM m)==alS m)||(alS (cjM m) == -(beS m)&&beS (cjM m) == -(alS m))))=true:=by kernel_rfl
theorem SE {m:Mt} (hm:m∈pmQ++pmH) (hd:AO m = -1) (v:Vc):AC (cjM m) (sw v)=AC m v∨AC (cjM m) (sw v) = -(AC m v):=by
 have h:=AqL.1 AoW m hm;rw[hd] at h;simp only[bne_self_eq_false,Aro,ArG,aT,beq_iff_eq] at h;unfold AC sw;simp only;rcases h with ⟨h1,h2⟩ | ⟨h1,h2⟩
 ·left;rw[h1,h2];omega
 ·right;rw[h1,h2,ArB,ArB];omega
theorem N6 (m:Mt) (u v:Vc) (i j:Int):AC m (i*u.1+j*v.1,i*u.2+j*v.2)=i*AC m u+j*AC m v:=by
 unfold AC;simp only[Atv];have e1:alS m*(i*u.1)=i*(alS m*u.1):=by ac_rfl
 have e2:alS m*(j*v.1)=j*(alS m*v.1):=by ac_rfl
 have e3:beS m*(i*u.2)=i*(beS m*u.2):=by ac_rfl
 have e4:beS m*(j*v.2)=j*(beS m*v.2):=by ac_rfl
 omega
theorem Adh {l:Lt} (m:Mt) {v:Vc} (h:InL l v):gS l m ∣ AC m v:=by
 obtain⟨i,j,rfl⟩:=h;have e:=N6 m (l.1,0) l.2 i j;simp only[Ase,AtJ] at e;rw[e];have h1:gS l m ∣ AC m (l.1,0):=by unfold gS gI;exact As7 ..
 have h2:gS l m ∣ AC m l.2:=by unfold gS gI;exact Int.gcd_dvd_right ..
 exact Int.dvd_add (AtR h1 ⟨i,Aq5 _ _⟩) (AtR h2 ⟨j,Aq5 _ _⟩)
theorem XV {l:Lt} (hl:IsL l) {m:Mt} (hm:m∈pmQ++pmH) (hd:AO m = -1):gS l m ∣ gS (lsw l) (cjM m):=by
 have h:∀ v,InL (lsw l) v→gS l m ∣ AC (cjM m) v:=fun v hv=>by
  rw[N5 hl] at hv;have h1:=Adh m hv;rcases SE hm hd (sw v) with e | e<;>rw[SC] at e<;>rw[e]
  ·exact h1
  ·exact Int.dvd_neg.2 h1
 unfold gS gI;exact Int.dvd_coe_gcd (h _ (UI _)) (h _ (UJ _))
theorem Adi {m:Mt} (hm:m∈pmQ++pmH):cjM m∈pmQ++pmH:=by
 have hc:=Add;rw[aT] at hc;rcases AqV.1 hm with h | h
 ·exact List.mem_append_left _ (AqW.1 (AqL.1 hc.1 m h))
 ·exact List.mem_append_right _ (AqW.1 (AqL.1 hc.2 m h))
theorem AoX {l:Lt} (hl:IsL l) {m:Mt} (hm:m∈pmQ++pmH) (hd:AO m = -1):gS (lsw l) (cjM m)=gS l m:=by
 have h1:=XV hl hm hd;have h2:=XV (Gh hl).1 (Adi hm) (by rw[LV];exact hd)
 rw[AkA,Ade hl] at h2;have p1:0≤gS l m:=Hx _ _;have p2:0≤gS (lsw l) (cjM m):=Hx _ _;exact Int.dvd_antisymm p2 p1 h2 h1
theorem SG (a n:Int):(a.tmod n==0)=decide (n ∣ a):=by
 rw[ArU,beq_iff_eq,dE];exact⟨Int.dvd_of_tmod_eq_zero,Int.tmod_eq_zero_of_dvd⟩
theorem AlD {l:Lt} (hl:IsL l) {m:Mo} (hm:m.1∈pmQ++pmH) (hd:AO m.1 = -1):Hz (lsw l) (cjO l m)=Hz l m:=by
 have hs:=(Gh hl).1;unfold Hz;rw[SG,SG];have eg:gS (lsw l) (cjO l m).1=gS l m.1:=AoX hl hm hd;rw[eg,ArU,dE,dE];have h1:=Adh (cjM m.1) (C5 hs (sw m.2));rw[show gS (lsw l) (cjM m.1)=gS l m.1 from eg] at h1
 have e:=N6 (cjM m.1) (sw m.2) (As (lsw l) (sw m.2)) 1 (-1);simp only[ArY,ArB] at e;have e2:AC (cjM m.1) ((sw m.2).1-(As (lsw l) (sw m.2)).1,(sw m.2).2-(As (lsw l) (sw m.2)).2)=AC (cjM m.1) (sw m.2) + -(AC (cjM m.1) (As (lsw l) (sw m.2))):=e;rw[e2] at h1;have h2:gS l m.1 ∣ AC (cjM m.1) (sw m.2)↔gS l m.1 ∣ AC m.1 m.2:=by
  rcases SE hm hd m.2 with e | e<;>rw[e]
  exact Int.dvd_neg
 show gS l m.1 ∣ AC (cjM m.1) (As (lsw l) (sw m.2))↔_;rw[← h2];constructor
 ·intro h3;have:=Int.dvd_add h1 h3;have e3:AC (cjM m.1) (sw m.2) + -(AC (cjM m.1) (As (lsw l) (sw m.2)))+AC (cjM m.1) (As (lsw l) (sw m.2))=AC (cjM m.1) (sw m.2):=by omega
  rwa [e3] at this
 ·intro h3;have:=Int.dvd_sub h3 h1;have e3:AC (cjM m.1) (sw m.2)-(AC (cjM m.1) (sw m.2) + -(AC (cjM m.1) (As (lsw l) (sw m.2))))=AC (cjM m.1) (As (lsw l) (sw m.2)):=by omega
  rwa [e3] at this
theorem AoY:((pmQ++pmH).all fun m=>(AO m != -1)||((axS (cjM m)==sw (axS m)||axS (cjM m)==(-(sw (axS m)).1,-(sw (axS m)).2))&&(axS (EH (cjM m))==sw (axS (EH m))||axS (EH (cjM m))==(-(sw (axS (EH m))).1,-(sw (axS (EH m))).2))))=true:=by kernel_rfl
theorem Adj {l:Lt} (hl:IsL l) {a b:Vc} (h:b=sw a∨b=(-(sw a).1,-(sw a).2)):∀ n k,kS (lsw l) b n k=kS l a n k
 | 0,k=>rfl
 | n+1,k=>by
  have hs:=(Gh hl).1;have e:(As (lsw l) (A5 k b)==(0,0))=(As l (A5 k a)==(0,0)):=by
   rw[ArU,beq_iff_eq,beq_iff_eq,C1 hs,C1 hl,N5 hl];rcases h with rfl | rfl
   ·exact Iff.rfl
   ·have e1:sw (A5 k (-(sw a).1,-(sw a).2))=(-(A5 k a).1,-(A5 k a).2):=by
     unfold sw A5;simp only[Int.mul_neg]
    rw[e1];refine⟨fun h=>?_,fun h=>Dl (Bp _) h⟩;have:=Dl (Bp _) h;simp only[Int.neg_neg] at this;exact this
  simp only[kS];rw[e,Adj hl h n (k+1)]
theorem AlE {a b a' b':Vc} (ha:a'=sw a∨a'=(-(sw a).1,-(sw a).2)) (hb:b'=sw b∨b'=(-(sw b).1,-(sw b).2)) (i j:Nat):(Hb (A5 i a') (A5 j b')).natAbs=(Hb (A5 i a) (A5 j b)).natAbs:=by
 have e1:(i:Int)*a.2*((j:Int)*b.1)=(j:Int)*b.1*((i:Int)*a.2):=Aq5 _ _;have e2:(j:Int)*b.2*((i:Int)*a.1)=(i:Int)*a.1*((j:Int)*b.2):=Aq5 _ _;rcases ha with rfl | rfl<;>rcases hb with rfl | rfl<;>unfold Hb A5 sw<;>simp only[Int.mul_neg,ArB,Int.neg_neg]<;>omega
theorem AlF {l:Lt} (hl:IsL l) {m:Mt} (hm:m∈pmQ++pmH) (hd:AO m = -1):Gb (lsw l) (cjM m)=Gb l m:=by
 have h:=AqL.1 AoY m hm;rw[hd] at h;simp only[bne_self_eq_false,Aro,ArG,aT,beq_iff_eq] at h;obtain⟨h1,h2⟩:=h;rw[XG (Gh hl).1 (Bq (Adi hm)) (AcG (Adi hm) (by rw[LV];exact hd)),XG hl (Bq hm) (AcG hm hd)]
 unfold Alu;rw[Adj hl h1,Adj hl h2,AlE h1 h2,(Gh hl).2.1]
end Go.Proofs.YteheolldcpjkcaaGreatDoor.X
