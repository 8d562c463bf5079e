/- What a program's lines print is read back: numbers, vectors, lattices, motions, lines. -/
import Derived.Test.YtkemdhpdfaejgaaGreatDoorQtSI
import Derived.Test.YtkemdhpdfaejgaaGreatDoorQtPShortProgram
namespace Go.Proofs.YtkemdhpdfaejgaaGreatDoor.X
open Go
set_option linter.unusedSimpArgs false
set_option linter.unusedVariables false
theorem AwE (l:List UInt8):(unm l).length≤l.length:=by
 cases l with
 | nil=>simp[unm]
 | cons b r =>
  simp only[unm];split<;>simp
theorem AtN {n:Int} (h:n.natAbs<10000):rd (dg n)=some n:=by
 rw[Iq];have h1:=GB h;have h2:=AwE (dg n);exact⟨rfl,by omega⟩
theorem Pr {b:UInt8} (h:okD b):b≠44∧b≠59∧b≠32∧b≠10:=by
 refine⟨?_,?_,?_,?_⟩<;>rintro rfl<;>rcases h with h | h<;>revert h<;>decide
theorem RN {n:Int} (h:n.natAbs<10000):∀ b∈dg n,okD b:=AtL (AtN h)
theorem Ns:∀ {ns:List Int},ns≠[]→(∀ n∈ns,n.natAbs<10000)→spa 44 [] (cml ns)=ns.map dg
 | [],h,_=>absurd rfl h
 | [a],_,h=>by
  rw[cml,EJ _ _ fun e=>(Pr (RN (h a (by simp)) _ e)).1 rfl]
  rfl
 | a :: b :: r,_,h=>by
  rw[cml,AA5,List.singleton_append,En _ _ _ fun e=>(Pr (RN (h a (by simp)) _ e)).1 rfl,Ns (by simp) fun n hn=>h n (ABj _ hn)]
  rfl
theorem Nt:∀ {ns:List Int},(∀ n∈ns,n.natAbs<10000)→rds (ns.map dg)=some ns
 | [],_=>rfl
 | a :: r,h=>by
  rw[ABH,Pi,AtN (h a (by simp)),Nt fun n hn=>h n (ABj _ hn)]
theorem Amf:∀ {ns:List Int},(∀ n∈ns,n.natAbs<10000)→∀ b∈cml ns,okD b∨b=44
 | [],_,b,hb=>by cases hb
 | [a],h,b,hb=>.inl (RN (h a (by simp)) b hb)
 | a :: c :: r,h,b,hb=>by
  rw[cml,AA5,AA8,AA8,mS] at hb;rcases hb with hb | hb | hb
  ·exact .inl (RN (h a (by simp)) b hb)
  ·exact .inr hb
  ·exact Amf (fun n hn=>h n (ABj _ hn)) b hb
theorem Aas {ns:List Int} (h:∀ n∈ns,n.natAbs<10000):(59:UInt8) ∉ cml ns∧(32:UInt8) ∉ cml ns∧(10:UInt8) ∉ cml ns:=by
 refine⟨fun e=>?_,fun e=>?_,fun e=>?_⟩<;>rcases Amf h _ e with e | e
 ·exact (Pr e).2.1 rfl
 ·revert e;decide
 ·exact (Pr e).2.2.1 rfl
 ·revert e;decide
 ·exact (Pr e).2.2.2 rfl
 ·revert e;decide
theorem Ps {v:Vc} (h:Ba v=true):(59:UInt8) ∉ Mw v∧(32:UInt8) ∉ Mw v∧(10:UInt8) ∉ Mw v:=Aas (Ls h)
theorem Aat {l:Lt} (h:IsL l):(59:UInt8) ∉ Qm l∧(32:UInt8) ∉ Qm l∧(10:UInt8) ∉ Qm l:=Aas (Lu h)
theorem Amg {m:Mt} (h:m∈pmQ++pmH):(59:UInt8) ∉ UN m∧(32:UInt8) ∉ UN m∧(10:UInt8) ∉ UN m:=Aas (Pd h)
theorem AtO {v:Vc} (h:Ba v=true):rdV (Mw v)=some v:=by
 unfold rdV Mw;rw[Ns (by simp) (Ls h),Nt (Ls h)]
 simp only;rw[if_pos h]
theorem AwF {l:Lt} (hl:IsL l):Qn (Qm l)=some l:=by
 unfold Qn Qm;rw[Ns (by simp) (Lu hl),Nt (Lu hl)]
 simp only;rw[if_pos (Bt.2 hl)]
theorem AwG:(pmQ++pmH).all (fun m=>IK m&&Ei m)=true:=by decide +kernel
theorem AtQ {m:Mt} (h:m∈pmQ++pmH):IK m=true∧Ei m=true:=by
 have:=AA3.1 AwG m h
 rwa [aT] at this
theorem AwH {m:Mo} (h:m.1∈pmQ++pmH) (hv:Ba m.2=true):Mx (Pc m)=some m:=by
 have e1:rdM (UN m.1)=some m.1:=by
  unfold rdM UN;rw[Ns (by simp) (Pd h),Nt (Pd h)]
  simp only;rw[if_pos (AtQ h).1]
 have e2:spa 59 [] (Pc m)=[UN m.1,Mw m.2]:=by
  unfold Pc;rw[AA5,List.singleton_append,En _ _ _ (Amg h).1,EJ _ _ (Ps hv).1];rfl
 unfold Mx;rw[e2];simp only;rw[e1,AtO hv];simp only;rw[if_pos (AtQ h).2]
theorem AwI {c:Int} (h0:0≤c) (h9:c≤9):rdC (dg c)=some c:=by
 obtain⟨k,rfl⟩:∃ k:Nat,c=(k:Int):=⟨c.toNat,by omega⟩
 have e:dg (k:Int)=[UInt8.ofNat (48+k)]:=by
  show Lib.itoa _=_;rw[Lib.itoa_nonneg,Ip (by omega)]
 have e2:=AtH (n:=48+k) (by omega)
 rw[e,US,e2,if_pos]
 ·congr 1;omega
 ·unfold isD;rw[e2,aT,dE,dE];omega
def Br (ls:List (List UInt8)):List UInt8:=ls.flatMap fun x=>x++[10]
theorem Ev (a b:List (List UInt8)):Br (a++b)=Br a++Br b:=List.flatMap_append
theorem RO (x:List UInt8):Br [x]=x++[10]:=by simp[Br]
theorem XT:∀ (ls:List (List UInt8)),(∀ x∈ls,(10:UInt8) ∉ x)→spa 10 [] (Br ls)=ls++[[]]
 | [],_=>rfl
 | x :: r,h=>by
  have e:Br (x :: r)=x++10 :: Br r:=by simp[Br]
  rw[e,En _ _ _ (h x (by simp)),XT r fun y hy=>h y (ABj _ hy)]
  rfl
theorem Amh {ls:List (List UInt8)} (h:ls≠[]):∃ t,Br ls=t++[10]:=by
 rcases List.eq_nil_or_concat ls with rfl | ⟨a,x,e⟩
 ·exact absurd rfl h
 ·rw[e,List.concat_eq_append,Ev,RO];exact⟨Br a++x,by simp⟩
theorem RP {ls:List (List UInt8)} (h0:ls≠[]) (h10:∀ x∈ls,(10:UInt8) ∉ x) (hlen:(Br ls).length≤3000) {s:St} (hr:BF ls s0=(s,0)) (he:GD s=0):EY (Br ls)=.inr s:=by
 obtain⟨t,ht⟩:=Amh h0;have hs:=XT ls h10;rw[ht,Nr] at hs;have hs:=List.append_cancel_right hs;rw[ht] at hlen ⊢;unfold EY;rw[if_neg (by omega),if_neg (by simp),if_neg (by simp),List.dropLast_concat,hs,hr,if_neg (by simp),if_neg (by simp[he])]
def lnF (f:Int):List UInt8:=wF++32 :: frL f
def lnL (l:Lt):List UInt8:=wL++32 :: Qm l
def lnM (m:Mo):List UInt8:=wM++32 :: Pc m
def lnK (x:Ma):List UInt8:=wK++32 :: (Mw x.1++32 :: dg x.2)
theorem Aez (f:Int) (l:Lt):Dc f l=Br [lnF f,lnL l]:=by simp[Dc,Br,lnF,lnL,wF,wL]
theorem AwJ (m:Mo):Al0 m=Br [lnM m]:=by simp[Al0,Br,lnM,wM]
theorem AeA (v:Vc) (c:Int):RJ v c=Br [lnK (v,c)]:=by simp[RJ,Br,lnK,wK]
theorem Ami (f:Int):(32:UInt8) ∉ frL f∧(10:UInt8) ∉ frL f:=by
 unfold frL;cases f==0<;>decide
theorem Pu:((32:UInt8) ∉ wF∧(10:UInt8) ∉ wF)∧((32:UInt8) ∉ wL∧(10:UInt8) ∉ wL)∧((32:UInt8) ∉ wM∧(10:UInt8) ∉ wM)∧((32:UInt8) ∉ wK∧(10:UInt8) ∉ wK):=by decide
theorem Is {a b:List UInt8} (ha:(32:UInt8) ∉ a) (hb:(32:UInt8) ∉ b):spa 32 [] (a++32 :: b)=[a,b]:=by
 rw[En _ _ _ ha,EJ _ _ hb];rfl
theorem GE {a b:List UInt8} (ha:(10:UInt8) ∉ a) (hb:(10:UInt8) ∉ b):(10:UInt8) ∉ a++32 :: b:=by
 rw[AA8,AA4]
 rintro (h | h | h)
 ·exact ha h
 ·revert h;decide
 ·exact hb h
theorem Amj {m:Mo} (h:m.1∈pmQ++pmH) (hv:Ba m.2=true):(32:UInt8) ∉ Pc m∧(10:UInt8) ∉ Pc m:=by
 have h1:=Amg h;have h2:=Ps hv;unfold Pc;constructor<;>rw[AA5,AA8,AA8,mS]<;>rintro (e | e | e)
 ·exact h1.2.1 e
 ·revert e;decide
 ·exact h2.2.1 e
 ·exact h1.2.2 e
 ·revert e;decide
 ·exact h2.2.2 e
theorem Amk {c:Int} (h:c.natAbs<10000):(32:UInt8) ∉ dg c∧(10:UInt8) ∉ dg c:=⟨fun e=>(Pr (RN h _ e)).2.2.1 rfl,fun e=>(Pr (RN h _ e)).2.2.2 rfl⟩
theorem Nu {x:List UInt8} {r:List (List UInt8)} {s s':St} (h:Cz s (spa 32 [] x)=(s',0)):BF (x :: r) s=BF r s':=by
 rw[Pm,h];rfl
theorem AtR {f:Int} (hf:okF f=true) {r:List (List UInt8)}:BF (lnF f :: r) s0=BF r (1,f,(0,0,0),[],[]):=by
 refine Nu ?_;unfold lnF;rw[Is Pu.1.1 (Ami f).1];have:f=0∨f=1:=by
  unfold okF at hf;have:=of_decide_eq_true hf;omega
 rcases this with rfl | rfl<;>rfl
theorem AtS {f:Int} {l0 l:Lt} (hl:IsL l) {r:List (List UInt8)}:BF (lnL l :: r) (1,f,l0,[],[])=BF r (2,f,l,[],[]):=by
 refine Nu ?_;unfold lnL;rw[Is Pu.2.1.1 (Aat hl).2.1];unfold Cz;simp only;rw[if_neg (by decide),if_pos trivial,AwF hl]
 rfl
theorem AtT {f:Int} {l:Lt} {ks:List Ma} {r:List (List UInt8)}:∀ (T:List Mo) (n:Nat) (ms:List Mo),2≤n→(∀ m∈T,(m.1∈pmQ++pmH∧Ba m.2=true)∧GS f l m=true∧AX l m.2=m.2)→ms.length+T.length≤8 →
  BF (T.map lnM++r) (n,f,l,ms,ks)=BF r (n+T.length,f,l,ms++T,ks)
 | [],n,ms,_,_,_=>by simp
 | m :: T,n,ms,hn,h,hl=>by
  obtain⟨⟨h1,h2⟩,h3,h4⟩:=h m (by simp)
  rw[ABc] at hl;rw[ABH,AB0,Nu (s':=(n+1,f,l,ms++[m],ks)),AtT T (n+1) (ms++[m]) (by omega) (fun x hx=>h x (ABj _ hx)) (by rw[lA,ABA];omega),AA5,ABc,show n+1+T.length=n+(T.length+1) by omega]
  ·rfl
  ·unfold lnM;rw[Is Pu.2.2.1.1 (Amj h1 h2).1];unfold Cz;simp only;rw[if_neg (by decide),if_neg (by decide),if_pos trivial,AwH h1 h2]
   simp only;rw[if_neg (by omega),if_neg (by omega),if_pos h3,h4]
theorem Aml {f:Int} {l:Lt} {gs:List Mo}:∀ (T:List Ma) (n:Nat) (ks:List Ma),2≤n→(∀ x∈T,Ba x.1=true∧0≤x.2∧x.2≤9)→ks.length+T.length≤40 →
  BF (T.map lnK) (n,f,l,gs,ks)=((n+T.length,f,l,gs,ks++T),0)
 | [],n,ks,_,_,_=>by simp[BF]
 | x :: T,n,ks,hn,h,hl=>by
  obtain⟨h1,h2,h3⟩:=h x (by simp)
  rw[ABc] at hl;rw[ABH,Nu (s':=(n+1,f,l,gs,ks++[x])),Aml T (n+1) (ks++[x]) (by omega) (fun x hx=>h x (ABj _ hx)) (by rw[lA,ABA];omega),AA5,ABc,show n+1+T.length=n+(T.length+1) by omega]
  ·rfl
  ·unfold lnK;rw[En _ _ _ Pu.2.2.2.1,Is (Ps h1).2.1 (Amk (c:=x.2) (by omega)).1]
   unfold Cz;simp only[ABi];rw[if_pos trivial,AtO h1,AwI h2 h3];simp only;rw[if_neg (by omega),if_neg (by omega)]
end Go.Proofs.YtkemdhpdfaejgaaGreatDoor.X
