/- Plain facts: motions that fix a cell; kinds of matrices; marks on lists of vectors. -/
import Derived.Test.YteheolldcpjkcaaGreatDoorQtMA
namespace Go.Proofs.YteheolldcpjkcaaGreatDoor.X
open Go
set_option linter.unusedSimpArgs false
set_option linter.unusedVariables false
def fxV (l:Lt) (v:Vc) (g:Mo):Bool:=As l (Ar g v)==v
def J0 (g:Mo):Prop:=g.1∈pmQ++pmH∧Sv g.2
theorem Cr {p:Pt} (hp:IsP p) {g:Mo} (h:g∈Ad p):J0 g :=
 ⟨Cc (LG h).1,BS hp.l (LG h).2⟩
theorem Uy {l:Lt} (hl:IsL l) {g:Mo} (hg:J0 g) {v:Vc} (hv:Sv v):JR KK l g v=some (As l (Ar g v)):=by
 unfold JR;rw[Ec (Bq hg.1) hv hg.2,oB,CB hl (GP (Bq hg.1) hv hg.2)];rfl
theorem Agr {l:Lt} (hl:IsL l) {g:Mo} (hg:J0 g) {v:Vc} (hv:Sv v):AbJ KK l g v=some (As l (Ar g v)):=by
 unfold AbJ;rw[F5 (Bq hg.1) hv hg.2,oB,Jm hl (GP (Bq hg.1) hv hg.2)];rfl
theorem Ix {l:Lt} (hl:IsL l) {gs:List Mo} (hn:gs.length≤100000) (hg:∀ g∈gs,J0 g) {v:Vc} (hv:Sv v):Uc KK l gs v=some (gs.foldl (fun s g=>bif fxV l v g then s+1 else s) (0:Int)):=by
 have h:=Ao (X:=Int×Int) (body:=fun L x=>PL KK l gs v (fun v0 v1=>L (v0,v1)) x.1 x.2) gs (fun q s=>(s,(q:Int))) (fun s g=>bif fxV l v g then s+1 else s) (fun s=>some s) (fun q s=>0≤s∧s≤(q:Int))
  (fun L q s hq hi=>by
   refine⟨?_,?_⟩
   ·cases fxV l v gs[q]<;>simp<;>omega
   unfold PL;simp only;rw[in1 hq,in0,gd hq,Aq (by omega),Ay (n:=s+1) (by omega) (by omega)]
   simp only[aS,cT];rw[show JR KK l ((gs[q].1.1,gs[q].1.2.1,gs[q].1.2.2),gs[q].2) v=some (As l (Ar gs[q] v)) from Uy hl (hg _ (gM hq)) hv,oB]
   rw[show (((As l (Ar gs[q] v)).1==v.1)&&((As l (Ar gs[q] v)).2==v.2))=fxV l v gs[q] from rfl]
   cases fxV l v gs[q]<;>rfl)
  (fun L s hi=>by
   unfold PL;simp only;rw[AY,cF]) KK 0 0 (by omega) (by have:=B4 (n:=gs.length) (by omega);omega) (by simp)
 unfold Uc AbP Ub;refine h.trans ?_;simp only[AqN]
theorem LM {α:Type} (p:α→Bool):∀ (l:List α) (s:Int),0≤s→(0<l.foldl (fun s g=>bif p g then s+1 else s) s↔0<s∨l.any p=true)
 | [],s,h=>by simp
 | a :: l,s,h=>by
  rw[Arq,AsB];cases hp:p a
  ·rw[cF,LM p l s h];simp
  ·rw[cT,LM p l (s+1) (by omega)]
   simp;omega
theorem DF {l:Lt} (hl:IsL l) {gs:List Mo} (hn:gs.length≤100000) (hg:∀ g∈gs,J0 g) {v:Vc} (hv:Sv v):Ua KK l gs v=some (gs.filter (fxV l v)):=by
 have h:=Ao (X:=Int×List Mo) (body:=fun L x=>PI KK l gs v (fun v0 v1=>L (v0,v1)) x.1 x.2) gs (fun q s=>((q:Int),s)) (fun s g=>bif fxV l v g then s++[g] else s) (fun s=>some s) (fun q s=>s.length≤q)
  (fun L q s hq hi=>by
   refine⟨?_,?_⟩
   ·cases fxV l v gs[q]<;>simp<;>omega
   unfold PI;simp only;rw[in1 hq,in0,gd hq,Aq (by omega)]
   simp only[aS,cT];rw[show AbJ KK l ((gs[q].1.1,gs[q].1.2.1,gs[q].1.2.2),gs[q].2) v=some (As l (Ar gs[q] v)) from Agr hl (hg _ (gM hq)) hv,oB]
   rw[show (((As l (Ar gs[q] v)).1==v.1)&&((As l (Ar gs[q] v)).2==v.2))=fxV l v gs[q] from rfl,E1 (by simp;omega)]
   cases fxV l v gs[q]<;>rfl)
  (fun L s hi=>by
   unfold PI;simp only;rw[AY,cF]) KK 0 [] (by omega) (by have:=B4 (n:=gs.length) (by omega);omega) (by simp)
 unfold Ua AbK T9;refine h.trans ?_;simp only[AqN];have:=Bm (fxV l v) (fun g:Mo=>g) gs [];rw[AsY,Aq8] at this;exact congrArg some this
noncomputable def BE (m:Mt):Int:=(PO KK m).getD 0
noncomputable def C3 (m:Mt):Int:=(Y9 KK m).getD 0
noncomputable def AoQ (m:Mt):Bool:=(PO KK m==some (BE m))&&(Y9 KK m==some (C3 m))&&(bif AO m==1 then C3 m==BE m else C3 m == -2)
theorem AcO:(pmQ++pmH).all AoQ=true:=by kernel_rfl
theorem Iy {m:Mt} (hm:m∈pmQ++pmH):PO KK m=some (BE m)∧Y9 KK m=some (C3 m)∧(AO m=1→C3 m=BE m)∧(AO m≠1→C3 m = -2):=by
 have h:=AqL.mp AcO m hm;unfold AoQ at h;simp only[aT,beq_iff_eq] at h;obtain⟨⟨h1,h2⟩,h3⟩:=h;refine⟨h1,h2,fun hd=>?_,fun hd=>?_⟩
 ·rw[show (AO m==1)=true by simp[hd],cT] at h3
  exact beq_iff_eq.mp h3
 ·rw[show (AO m==1)=false by simp[hd],cF] at h3
  exact beq_iff_eq.mp h3
def MkV (s:List Vc) (n:Nat):Prop:=∀ i,i<n→s[i]? = some (1+2*(i:Int),2+2*(i:Int))
end Go.Proofs.YteheolldcpjkcaaGreatDoor.X
