/- Plain facts: both hands of a pattern have one name. -/
import Derived.Test.YteheolldcpjkcaaGreatDoorQtNB
namespace Go.Proofs.YteheolldcpjkcaaGreatDoor.X
open Go
set_option linter.unusedSimpArgs false
set_option linter.unusedVariables false
theorem Jt:∀ (g:List Mo) (s x:Int),g.foldl LY s≤x↔s≤x∧∀ m∈g,AO m.1=1→BE m.1≤x
 | [],s,x=>by simp
 | m :: g,s,x=>by
  rw[Arq,Jt g];have e:LY s m≤x↔s≤x∧(AO m.1=1→BE m.1≤x):=by
   unfold LY;by_cases h:AO m.1=1
   ·rw[beq_iff_eq.2 h,cT];constructor
    ·intro hx;split at hx
     ·exact⟨by omega,fun _=>hx⟩
     ·exact⟨hx,fun _=>by omega⟩
    ·rintro⟨h1,h2⟩
     have:=h2 h;split<;>omega
   ·rw[beq_eq_false_iff_ne.2 h,cF];exact⟨fun hx=>⟨hx,fun e=>absurd e h⟩,fun hx=>hx.1⟩
  rw[e];simp only[AqQ,forall_eq_or_imp];exact⟨fun⟨⟨a,b⟩,c⟩=>⟨a,b,c⟩,fun⟨a,b,c⟩=>⟨⟨a,b⟩,c⟩⟩
theorem Ado:((pmQ++pmH).all fun m=>BE (cjM m)==BE m)=true:=by kernel_rfl
theorem AgQ {p:Pt} (hp:IsP p):HF (Ad (CC p))=HF (Ad p):=by
 have key:∀ x,HF (Ad (CC p))≤x↔HF (Ad p)≤x:=fun x=>by
  unfold HF;rw[Jt,Jt];refine and_congr_right fun _=>⟨fun h m hm hd=>?_,fun h m hm hd=>?_⟩
  ·have h1:=h _ (LW hp hm) (by show AO (cjM m.1)=1;rw[LV];exact hd)
   have h2:=beq_iff_eq.1 (AqL.1 Ado m.1 (Cc (A4.1 hm).1));rw[← h2];exact h1
  ·obtain⟨n,hn,rfl⟩:=Aq6.1 ((SD hp).mem_iff.2 hm);have h1:=h n hn (by rw[← LV];exact hd)
   have h2:=beq_iff_eq.1 (AqL.1 Ado n.1 (Cc (A4.1 hn).1));show BE (cjM n.1)≤x;rw[h2];exact h1
 have h1:=(key _).2 (Asq _);have h2:=(key _).1 (Asq _);omega
theorem Fc {p:Pt} {m:Mo} (h:m∈CY (Ad p)):m∈Ad p∧m.1∈pmQ++pmH∧AO m.1 = -1:=by
 obtain⟨h1,h2⟩:=AqY.1 h;have hm:=Cc (A4.1 h1).1;refine⟨h1,hm,?_⟩;rcases P8 hm with e | e
 ·rw[e] at h2;simp at h2
 ·exact e
theorem SJ {p:Pt} (hp:IsP p):((CY (Ad p)).map (cjO p.2.1)).Perm (CY (Ad (CC p))):=by
 have h:=(SD hp).filter fun m=>!(AO m.1==1);rw[List.filter_map] at h;have e:((fun m:Mo=>!(AO m.1==1)) ∘ cjO p.2.1)=fun m:Mo=>!(AO m.1==1):=by
  funext m;show (!(AO (cjM m.1)==1))=_;rw[LV]
 rw[e] at h;exact h
theorem XY {p:Pt} (hp:IsP p) (φ ψ:Mo→Bool) (h:∀ m∈CY (Ad p),ψ (cjO p.2.1 m)=φ m):((CY (Ad (CC p))).filter ψ).length=((CY (Ad p)).filter φ).length:=by
 rw[← ((SJ hp).filter ψ).length_eq,List.filter_map,AqZ];congr 1;exact List.filter_congr fun m hm=>h m hm
def ZB:List Mt:=pmH.filter fun m=>AO m == -1
noncomputable def Adp (l:Lt):Bool:=!BJ l (-1,-1,1,0)||ZB.all fun m=>!BJ l m||ZB.all fun n=>!BJ l n||(!(BE (mmS m n)==1||BE (mmS m n)==3)||(alB 1 l m==alB 1 (lsw l) (cjM n)))
theorem AlI:((List.range 64).all fun a=>(Agq (a+1)).all Adp)=true:=by kernel_rfl
theorem AlJ {l:Lt} (hl:IsL l):Adp l=true:=by
 have h1:=AqL.1 AlI (l.1.toNat-1) (by rw[Ar8];have:=hl.a2;have:=hl.a1;omega)
 rw[show l.1.toNat-1+1=l.1.toNat by have:=hl.a1;omega] at h1
 exact AqL.1 h1 l (AcM hl)
theorem AoZ:(pmQ.all fun m=>!(BE m==3))=true:=by kernel_rfl
theorem AkB:(pmH.all fun m=>(!(BE m==3)||(m==(-1,-1,1,0)||(m==(0,1,-1,-1))))&&((!(AO m==1&&BE m==2)||m==(-1,0,0,-1))&&(!(AO m==1)||decide (1≤BE m))))=true:=by kernel_rfl
theorem AgR:(ZB.all fun m=>ZB.all fun n=>AO (mmS m n)==1)=true:=by kernel_rfl
theorem six:(BE (mmS (-1,0,0,-1) (-1,-1,1,0))==6&&BE (mmS (-1,0,0,-1) (0,1,-1,-1))==6)=true∧(AO (mmS (-1,0,0,-1) (-1,-1,1,0))==1&&AO (mmS (-1,0,0,-1) (0,1,-1,-1))==1)=true:=⟨by kernel_rfl,by kernel_rfl⟩
theorem Ao0 {p:Pt} (hp:IsP p) (h3:HF (Ad p)=3):p.1=1∧BJ p.2.1 (-1,-1,1,0)=true∧∃ R∈Ad p,R.1=(-1,-1,1,0)∨R.1=(0,1,-1,-1):=by
 have hle:=(Jt (Ad p) 1 3).1 (by rw[show (Ad p).foldl LY 1=3 from h3];exact Asq _)
 have hgt:¬ (1≤(2:Int)∧∀ m∈Ad p,AO m.1=1→BE m.1≤2):=fun h=>by
  have:=(Jt (Ad p) 1 2).2 h;rw[show (Ad p).foldl LY 1=3 from h3] at this
  omega
 obtain⟨R,hR,hd,ho⟩:∃ R∈Ad p,AO R.1=1∧BE R.1=3:=by
  refine Classical.byContradiction fun hn=>hgt ⟨by omega,fun m hm hd=>?_⟩
  have:=hle.2 m hm hd;rcases Asu (BE m.1) 3 with h | h
  ·omega
  ·exact absurd ⟨m,hm,hd,by omega⟩ hn
 have hs:=(A4.1 hR).1;have hpm:R.1∈pmS p.1∧BJ p.2.1 R.1=true:=AqY.1 hs;have hf:p.1=0∨p.1=1:=by have:=hp.f1;have:=hp.f2;omega
 rcases hf with hf | hf
 ·exfalso;have h1:=hpm.1;unfold pmS at h1;rw[if_pos hf] at h1;have:=AqL.1 AoZ _ h1;rw[ho] at this;simp at this
 ·have h1:=hpm.1;unfold pmS at h1;rw[if_neg (by omega)] at h1
  have h2:=AqL.1 AkB _ h1;rw[ho] at h2;simp only[beq_self_eq_true,nT,Aro,aT,ArG,beq_iff_eq] at h2;refine⟨hf,?_,R,hR,h2.1⟩;rcases h2.1 with e | e
  ·rw[← e];exact hpm.2
  ·have h4:=hpm.2;rw[e] at h4;refine (Gi hp.l).2 fun v hv=>?_;have h5:=(Gi hp.l).1 h4 _ ((Gi hp.l).1 h4 v hv);rw[← Dm] at h5;exact h5
theorem AgS {p:Pt} (hp:IsP p) (h3:HF (Ad p)=3) {m n:Mo} (hm:m∈CY (Ad p)) (hn:n∈CY (Ad p)):alB p.1 p.2.1 m.1=alB p.1 (lsw p.2.1) (cjM n.1):=by
 obtain⟨hf,hst,R,hR,hRe⟩:=Ao0 hp h3;have hle:=(Jt (Ad p) 1 3).1 (by rw[show (Ad p).foldl LY 1=3 from h3];exact Asq _)
 have hO:=D1 hp;have ref:∀ {m:Mo},m∈CY (Ad p)→m.1∈ZB∧BJ p.2.1 m.1=true:=fun {m} hm=>by
  obtain⟨k1,k2,k3⟩:=Fc hm;have k4:m.1∈pmS p.1∧BJ p.2.1 m.1=true:=AqY.1 (A4.1 k1).1;refine⟨?_,k4.2⟩;have k5:=k4.1;unfold pmS at k5;rw[if_neg (by omega)] at k5
  unfold ZB;rw[AqY,k3];exact⟨k5,rfl⟩
 obtain⟨a1,a2⟩:=ref hm;obtain⟨b1,b2⟩:=ref hn;have hmn:=hO.mul (Fc hm).1 (Fc hn).1;have hd:AO (mmS m.1 n.1)=1:=beq_iff_eq.1 (AqL.1 (AqL.1 AgR _ a1) _ b1);have ho:=hle.2 _ hmn hd;have ho:BE (mmS m.1 n.1)≤3:=ho;have hpm:mmS m.1 n.1∈pmH:=by
  have k4:mmS m.1 n.1∈pmS p.1:=(AqY.1 (A4.1 hmn).1).1;unfold pmS at k4
  rwa [if_neg (by omega)] at k4
 have h2:=AqL.1 AkB _ hpm;rw[hd] at h2;simp only[beq_self_eq_true,Atb,nT,Aro,aT,ArG,Ar2,bN,beq_iff_eq,dE] at h2;have hord:BE (mmS m.1 n.1)=1∨BE (mmS m.1 n.1)=3:=by
  have c:BE (mmS m.1 n.1)=1∨BE (mmS m.1 n.1)=2∨BE (mmS m.1 n.1)=3:=by omega
  rcases c with c | c | c
  ·exact .inl c
  ·exfalso;have e:mmS m.1 n.1=(-1,0,0,-1):=by
    rcases h2.2.1 with h | h
    ·exact absurd c h
    ·exact h
   have hq:=hO.mul hmn hR;have h6:=six;simp only[aT,beq_iff_eq] at h6;have hq2:(CP p.2.1 (CP p.2.1 m n) R).1=mmS (-1,0,0,-1) R.1:=by
    show mmS (mmS m.1 n.1) R.1=_;rw[e]
   have h7:=hle.2 _ hq;rw[hq2] at h7;rcases hRe with hr | hr<;>rw[hr] at h7
   ·have:=h7 h6.2.1;rw[h6.1.1] at this;omega
   ·have:=h7 h6.2.2;rw[h6.1.2] at this;omega
  ·exact .inr c
 have hx:=AlJ hp.l;unfold Adp at hx;rw[hst,nT,Aro] at hx;have hx:=AqL.1 hx _ a1;rw[a2,nT,Aro] at hx;have hx:=AqL.1 hx _ b1;rw[b2,nT,Aro] at hx;have ht:(BE (mmS m.1 n.1)==1||BE (mmS m.1 n.1)==3)=true:=by
  rcases hord with c | c<;>rw[c]<;>rfl
 rw[ht,nT,Aro,beq_iff_eq] at hx;rw[hf];exact hx
end Go.Proofs.YteheolldcpjkcaaGreatDoor.X
