/- Plain facts: the facts of a group and their names, as the program finds them; they are alike for both hands. -/
import Derived.Test.YteheolldcpjkcaaGreatDoorQtNA
import Derived.Test.YteheolldcpjkcaaGreatDoorQtMI
namespace Go.Proofs.YteheolldcpjkcaaGreatDoor.X
open Go
set_option linter.unusedSimpArgs false
set_option linter.unusedVariables false
theorem Ho {l:List Vc} (hn:l.length≤1000) (v:Vc):Ls KK l v=some (l.contains v):=by
 have key:∀ (n q:Nat),q≤l.length→l.length-q<n→∃ i:Int,KD KK l v n (q:Int)=some i∧decide (i≥0)=(l.drop q).contains v:=by
  intro n
  induction n with
  | zero=>intro q _ h;omega
  | succ n ih =>
   intro q hq hn2;show ∃ i:Int,PY KK l v (fun v0=>KD KK l v n v0) (q:Int)=some i∧_;unfold PY;by_cases hlt:q<l.length
   ·rw[in1 hlt,in0,gd hlt,Aq (by omega),dC hlt,List.contains_cons]
    simp only[aS,cT];have e:((v.1==l[q].1)&&(v.2==l[q].2))=(v==l[q]):=rfl;rw[e];cases h:v==l[q]
    ·rw[cF,Aro];exact ih (q+1) (by omega) (by omega)
    ·rw[cT,tO];exact⟨_,rfl,dT (by omega)⟩
   ·have:q=l.length:=by omega
    subst this;rw[AY,cF,AtF];exact⟨-1,rfl,rfl⟩
 obtain⟨i,e,hi⟩:=key KK 0 (by omega) (by simp only[KK];omega)
 rw[AqN] at hi;unfold Ls;rw[show Xo KK l v=some i from e,oB,hi]
def HE:List Vc:=(List.range 25).flatMap fun (x:Nat)=>(List.range 25).map fun (y:Nat)=>((x:Int)-12,(y:Int)-12)
theorem ZA:Xh KK 12=some HE:=by kernel_rfl
def shF (f:Int) (l:Lt) (s:Int×List Vc) (v:Vc):Int×List Vc :=
 bif bif bif Cd f v==0 then true else !(As l v==(0,0)) then true else bif decide (s.1>0) then decide (Cd f v>s.1) else false then s
 else bif Cd f v != s.1 then (Cd f v,[v]) else (s.1,s.2++[v])
def shS (f:Int) (l:Lt):List Vc:=(HE.foldl (shF f l) (0,[])).2
theorem LX:HE.length=625:=by decide +kernel
theorem AgO:HE.all (fun v=>decide (-12≤v.1∧v.1≤12∧-12≤v.2∧v.2≤12))=true:=by decide +kernel
theorem Adk:(HE.all fun v=>(JS KK 0 v==some (Cd 0 v))&&(JS KK 1 v==some (Cd 1 v)))=true:=by decide +kernel
theorem Adl {f:Int} (h1:0≤f) (h2:f≤1) {v:Vc} (hv:v∈HE):JS KK f v=some (Cd f v):=by
 have h:=AqL.1 Adk v hv;simp only[aT,beq_iff_eq] at h;have:f=0∨f=1:=by omega
 rcases this with rfl | rfl
 ·exact h.1
 ·exact h.2
theorem XW (f:Int) (l:Lt) (s:Int×List Vc) (v:Vc):(shF f l s v).2.length≤s.2.length+1:=by
 unfold shF;generalize (bif bif Cd f v==0 then true else !(As l v==(0,0)) then true else bif decide (s.1>0) then decide (Cd f v>s.1) else false)=b;cases b
 ·cases Cd f v != s.1<;>simp
 ·simp
theorem XX (f:Int) (l:Lt):(shS f l).length≤625:=by
 have h:=GR (shF f l) (fun q (s:Int×List Vc)=>s.2.length≤q) HE 0 (0,[]) (by simp) (fun i s hi hP=>by
  have:=XW f l s HE[i];omega)
 rw[LX] at h;unfold shS;omega
theorem SH {f:Int} (h1:0≤f) (h2:f≤1) {l:Lt} (hl:IsL l):R5 KK f l=some (shS f l):=by
 have hh:=Ao (X:=Int×Int×List Vc) (body:=fun L x=>KC KK f l HE (fun v0 v1 v2=>L (v0,v1,v2)) x.1 x.2.1 x.2.2) HE (fun q s=>((q:Int),s)) (shF f l) (fun s=>some s.2) (fun q s=>s.2.length≤q)
  (fun L q s hq hi=>by
   have hm:=gM hq;have hb:=of_decide_eq_true (AqL.1 AgO _ hm);have hlen:=LX;refine⟨by have:=XW f l s HE[q];omega,?_⟩
   unfold KC;simp only;rw[in1 hq,in0,gd hq];simp only[aS,cT];rw[Adl h1 h2 hm,oB,LC hl (v:=HE[q]) (by unfold Sm;omega),Aq (by omega),show Nat.ble (0+[HE[q]].length) (lim 16)=true from DV (by simp),show Nat.ble (s.2.length+[HE[q]].length) (lim 16)=true from DV (by simp;omega)]
   unfold shF;generalize HE[q]=v;have e:((bif !(Cd f v==0) then some (As l v==(0,0)) else some false).bind fun y14=>(bif (bif (bif (Cd f v==(0:Int)) then true else (!y14)) then true else (bif (decide (s.1>(0:Int))) then (decide (Cd f v>s.1)) else false)) then L (((q+1:Nat):Int),s.1,s.2) else (bif (Cd f v != s.1) then (bif true then L (((q+1:Nat):Int),Cd f v,[]++[v]) else none) else (bif true then L (((q+1:Nat):Int),s.1,s.2++[v]) else none))))=L (((q+1:Nat):Int),bif bif bif Cd f v==0 then true else !(As l v==(0,0)) then true else bif decide (s.1>0) then decide (Cd f v>s.1) else false then s else bif Cd f v != s.1 then (Cd f v,[v]) else (s.1,s.2++[v])):=by
    cases Cd f v==0
    ·simp only[nF,cT,cF,oB];cases As l v==(0,0)
     ·rfl
     ·simp only[nT,cF];generalize (bif decide (s.1>0) then decide (Cd f v>s.1) else false)=b;cases b
      ·cases Cd f v != s.1<;>rfl
      ·rfl
    ·rfl
   exact e)
  (fun L s hi=>by
   unfold KC;simp only;rw[AY,cF]) KK 0 (0,[]) (by omega) (by rw[LX];simp only[KK];omega) (by simp)
 unfold R5 Uk PX;rw[ZA,oB];refine hh.trans ?_;rw[AqN];rfl
noncomputable def E9 (l:Lt) (m:Mt):Vc:=A5 (kS l (axS m) 64 1) (axS m)
noncomputable def alB (f:Int) (l:Lt) (m:Mt):Bool:=bif (shS f l).contains (E9 l m) then true else (shS f l).contains (-(E9 l m).1,-(E9 l m).2)
noncomputable def LY (s:Int) (m:Mo):Int:=bif AO m.1==1 then (if BE m.1>s then BE m.1 else s) else s
noncomputable def HF (g:List Mo):Int:=g.foldl LY 1
noncomputable def fcF (f:Int) (l:Lt) (s:Int×Int×Int×Bool) (m:Mo):Int×Int×Int×Bool :=
 bif AO m.1==1 then s else (s.1+1,bif Hz l m then s.2.1+1 else s.2.1,bif Gb l m.1 then s.2.2.1+1 else s.2.2.1,bif s.1==0 then alB f l m.1 else s.2.2.2)
noncomputable def Qo (f:Int) (l:Lt) (g:List Mo):Int×Int×Int×Int×Bool:=(HF g,g.foldl (fcF f l) (0,0,0,false))
theorem AlG {f:Int} {l:Lt} {g:List Mo} (h:CH f l g):R1 KK g=some (HF g):=by
 have hlen:=h.len;have hh:=Ao (X:=Int×Int) (body:=fun L x=>KB KK g (fun v0 v1=>L (v0,v1)) x.1 x.2) g (fun q s=>(s,(q:Int))) LY (fun s=>some s) (fun _ _=>True)
  (fun L q s hq _=>by
   have hm:=Cc (h.pr.mem _ (gM hq)).1;refine⟨trivial,?_⟩;unfold KB LY;simp only;rw[in1 hq,in0,gd hq,Aq (by omega)]
   simp only[aS,cT];rw[show ED KK (g[q].1.1,g[q].1.2.1,g[q].1.2.2)=some (AO g[q].1) from (Ut (Bq hm)).1,oB]
   cases AO g[q].1==1
   ·rfl
   ·rw[cT,show PO KK (g[q].1.1,g[q].1.2.1,g[q].1.2.2)=some (BE g[q].1) from (Iy hm).1,oB]
    rfl)
  (fun L s _=>by
   unfold KB;simp only;rw[AY,cF]) KK 0 1 (by omega) (by simp only[KK];omega) trivial
 unfold R1 Uj PV;refine hh.trans ?_;rw[AqN];rfl
theorem Adm {v:Vc} (hv : -210≤v.1∧v.1≤210∧-210≤v.2∧v.2≤210):Fo KK v (-1)=some (-v.1,-v.2):=by
 unfold Fo;rw[Ay (n := -1*v.1) (by omega) (by omega),Ay (n := -1*v.2) (by omega) (by omega)]
 simp only[ArB,ArY]
theorem AgP (l:Lt) {m:Mt} (hr:Rf m) : -210≤(E9 l m).1∧(E9 l m).1≤210∧-210≤(E9 l m).2∧(E9 l m).2≤210:=by
 have hk:=AcN l (axS m);have h1:=Df (a:=(axS m).1) (x:=(kS l (axS m) 64 1:Int)) (B:=70) hr.x1 (by omega) (by omega) (by omega)
 have h2:=Df (a:=(axS m).2) (x:=(kS l (axS m) 64 1:Int)) (B:=70) hr.x2 (by omega) (by omega) (by omega)
 unfold E9 A5;simp only;rw[Aq5,Aq5 _ (axS m).2];omega
theorem AlH {f:Int} {l:Lt} {g:List Mo} (hf:okF f=true) (h:CH f l g):Ack KK f l g=some (Qo f l g):=by
 have hlen:=h.len;have hff:0≤f∧f≤1:=by simpa[okF] using hf
 have hh:=Ao (X:=Int×Int×Int×Int×Bool) (body:=fun L x=>KE KK f l g (HF g) (fun v0 v1 v2 v3 v4=>L (v0,v1,v2,v3,v4)) x.1 x.2.1 x.2.2.1 x.2.2.2.1 x.2.2.2.2) g (fun q s=>((q:Int),s)) (fcF f l) (fun s=>some (HF g,s)) (fun q s=>(0≤s.1∧s.1≤q)∧(0≤s.2.1∧s.2.1≤q)∧0≤s.2.2.1∧s.2.2.1≤q)
  (fun L q s hq hi=>by
   obtain⟨hm1,hm2⟩:=h.pr.mem _ (gM hq);have hm:=Cc hm1;have ht:=BS h.la (Br h.la hm2);refine⟨?_,?_⟩
   ·unfold fcF;cases AO g[q].1==1<;>cases Hz l g[q]<;>cases Gb l g[q].1<;>simp only[cT,cF]<;>omega
   unfold KE fcF;simp only;rw[in1 hq,in0,gd hq,Aq (by omega),Ay (n:=s.1+1) (by omega) (by omega),Ay (n:=s.2.1+1) (by omega) (by omega),Ay (n:=s.2.2.1+1) (by omega) (by omega)]
   simp only[aS,cT];rw[show ED KK (g[q].1.1,g[q].1.2.1,g[q].1.2.2)=some (AO g[q].1) from (Ut (Bq hm)).1,oB]
   cases hd:AO g[q].1==1
   ·have hd2:AO g[q].1 = -1:=by
     rcases P8 hm with h | h
     ·rw[h] at hd;simp at hd
     ·exact h
    have hr:=AcG hm hd2;have e1:NV KK l ((g[q].1.1,g[q].1.2.1,g[q].1.2.2),g[q].2)=some (Hz l g[q]):=M5 h.la (Bq hm) hr ht;have e2:F3 KK l (g[q].1.1,g[q].1.2.1,g[q].1.2.2)=some (Gb l g[q].1):=Qb h.la hr;have e3:FZ KK (g[q].1.1,g[q].1.2.1,g[q].1.2.2)=some (axS g[q].1):=hr.ax;have e4:Hh KK l (axS g[q].1)=some (E9 l g[q].1):=Eo h.la hr.x1 hr.x2;simp only[cF];rw[e1,e2,e3,oB,e4,oB,SH hff.1 hff.2 h.la,oB,Ho (by have:=XX f l;omega),oB,Adm (AgP l hr)]
    have e5:(bif !(shS f l).contains (E9 l g[q].1) then some (-(E9 l g[q].1).1,-(E9 l g[q].1).2) else some ((0:Int),(0:Int))).bind (fun y26=>((bif !(shS f l).contains (E9 l g[q].1) then Ls KK (shS f l) y26 else some false)).bind fun y27=>some (bif (shS f l).contains (E9 l g[q].1) then true else y27))=some (alB f l g[q].1):=by
     unfold alB;cases (shS f l).contains (E9 l g[q].1)
     ·simp only[nF,cT,oB];rw[Ho (by have:=XX f l;omega)]
      simp only[cF,oB]
     ·simp only[nT,cF,cT,oB]
    cases s.1==0
    ·simp only[cF,oB];generalize alB f l g[q].1=al;cases Hz l g[q]<;>cases Gb l g[q].1<;>simp only[cT,cF,oB]
    ·simp only[cT];generalize (bif !(shS f l).contains (E9 l g[q].1) then some (-(E9 l g[q].1).1,-(E9 l g[q].1).2) else some ((0:Int),(0:Int)))=o1 at *;cases o1 with
     | none=>cases e5
     | some y26 =>
      rw[oB] at e5 ⊢;generalize (bif !(shS f l).contains (E9 l g[q].1) then Ls KK (shS f l) y26 else some false)=o2 at *;cases o2 with
      | none=>cases e5
      | some y27 =>
       rw[oB] at e5 ⊢;have e5:=Option.some.inj e5;rw[e5];generalize alB f l g[q].1=al;cases Hz l g[q]<;>cases Gb l g[q].1<;>simp only[cT,cF,oB]
   ·rfl)
  (fun L s hi=>by
   unfold KE;simp only;rw[AY,cF]) KK 0 (0,0,0,false) (by omega) (by simp only[KK];omega) (by simp)
 unfold Ack Acj PZ;rw[AlG h,oB];refine hh.trans ?_;rw[AqN];rfl
def CY (g:List Mo):List Mo:=g.filter fun m=>!(AO m.1==1)
noncomputable def Adn (f:Int) (l:Lt):List Mo→Bool | []=>false | m :: _=>alB f l m.1
theorem N7 (f:Int) (l:Lt):∀ (g:List Mo) (s:Int×Int×Int×Bool),0≤s.1→g.foldl (fcF f l) s=(s.1+((CY g).length:Int),s.2.1+(((CY g).filter (Hz l)).length:Int),s.2.2.1+(((CY g).filter fun m=>Gb l m.1).length:Int),bif s.1==0 then (match CY g with | []=>s.2.2.2 | m :: _=>alB f l m.1) else s.2.2.2)
 | [],s,_=>by
  simp only[List.foldl_nil,CY,List.filter_nil,AsA];cases s.1==0<;>simp
 | m :: g,s,h0=>by
  rw[Arq,N7 f l g _ (by unfold fcF;cases AO m.1==1<;>simp only[cT,cF]<;>omega)]
  unfold fcF CY;rw[AsL];cases AO m.1==1
  ·simp only[cF,nF,if_true,Ark];rw[AsL,AsL];have hz:(s.1+1==0)=false:=by rw[bN];omega
   rw[hz,cF];refine Prod.ext (by simp only;omega) (Prod.ext ?_ (Prod.ext ?_ ?_))
   ·simp only;cases Hz l m
    ·simp
    ·simp only[cT,if_true,Ark];omega
   ·simp only;cases Gb l m.1
    ·simp
    ·simp only[cT,if_true,Ark];omega
   ·simp only
  ·simp only[cT,nT,Atq,if_false]
theorem LZ (f:Int) (l:Lt) (g:List Mo):Qo f l g=(HF g,((CY g).length:Int),(((CY g).filter (Hz l)).length:Int),(((CY g).filter fun m=>Gb l m.1).length:Int),Adn f l (CY g)):=by
 unfold Qo;rw[N7 f l g _ (by simp)]
 simp only[AtJ,beq_self_eq_true,cT];cases CY g<;>rfl
end Go.Proofs.YteheolldcpjkcaaGreatDoor.X
