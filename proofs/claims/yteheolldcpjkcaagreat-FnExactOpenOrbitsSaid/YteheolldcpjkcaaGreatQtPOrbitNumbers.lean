/- Plain facts: marks in lists of lists of vectors. -/
import Derived.Test.YteheolldcpjkcaaGreatQtMJ
import Derived.Test.YteheolldcpjkcaaGreatQzXRow
namespace Go.Proofs.YteheolldcpjkcaaGreat.X
open Go
set_option linter.unusedSimpArgs false
set_option linter.unusedVariables false
def tot:List (List Vc)→Int
 | []=>0
 | o :: r=>2*(o.length:Int)+tot r
def Mk2 (k:Int):List (List Vc)→Prop
 | []=>True
 | o :: r=>AaD k o o.length∧Mk2 (k+2*(o.length:Int)) r
theorem C5:∀ (C:List (List Vc)),(∀ o∈C,o.length≤1000)→0≤tot C∧tot C≤2000*(C.length:Int)
 | [],_=>by simp[tot]
 | o :: r,h=>by
  have h1:=h o (by simp)
  obtain⟨h2,h3⟩:=C5 r fun o ho=>h o (by simp[ho])
  simp only[tot,Ajc];omega
theorem Yb {pre r:List (List Vc)} {o:List Vc}:(pre++o :: r).getD ((0:Int)+(pre.length:Int)).toNat []=o:=by
 have e:((0:Int)+(pre.length:Int)).toNat=pre.length:=by omega
 rw[e,AiZ,AiQ (AiK _),AkM];rfl
theorem H7:∀ (suf:List (List Vc)) (fuel:Nat) (pre:List (List Vc)) (c:Int),suf.length<fuel→pre.length+suf.length≤1000000→(∀ o∈suf,o.length≤1000)→0≤c→c+tot suf≤1000000000 →
  ∃ suf',suf'.length=suf.length∧Mk2 c suf'∧tot suf'=tot suf∧(∀ o∈suf',o.length≤1000)∧Jz KK fuel c (pre.length:Int) (pre++suf)=some (pre++suf',c+tot suf)
 | _,0,_,_,h,_,_,_,_=>by omega
 | [],fuel+1,pre,c,_,_,_,_,_=>by
  refine⟨[],rfl,trivial,rfl,by simp,?_⟩
  show Jy KK (fun v0 v1 v2=>Jz KK fuel v0 v1 v2) c (pre.length:Int) (pre++[])=_;unfold Jy;rw[Aju,AX,cF];simp[tot]
 | o :: r,fuel+1,pre,c,hf,hp,ho,hc,ht=>by
  have h1:=ho o (by simp)
  have hb:=C5 r fun x hx=>ho x (by simp[hx])
  simp only[tot] at ht;simp only[Ajc] at hf hp;obtain⟨r2,⟨m1,m2,m3⟩,hm⟩:=Nz o (k:=c) hc (by omega) (by omega)
  obtain⟨suf',s1,s2,s3,s4,s5⟩:=H7 r fuel (pre++[r2.1]) (c+2*(o.length:Int)) (by omega) (by simp;omega) (fun x hx=>ho x (by simp[hx])) (by omega) (by omega)
  refine⟨r2.1 :: suf',by simp[s1],⟨by rw[m2];exact m3,by rw[m2];exact s2⟩,by simp only[tot,m2,s3],fun x hx=>?_,?_⟩
  ·rcases AiS.1 hx with e | e
   ·rw[e,m2];exact h1
   ·exact s4 x e
  ·show Jy KK (fun v0 v1 v2=>Jz KK fuel v0 v1 v2) c (pre.length:Int) (pre++o :: r)=_;unfold Jy;have d1:decide ((pre.length:Int)<((pre++o :: r).length:Int))=true:=dT (by simp;omega)
   have e1:((0:Int)+(pre.length:Int)).toNat=pre.length:=by omega
   rw[d1,in0,Yb,hm];simp only[aS,cT,oB];rw[As (by omega),e1,m1,List.set_append_right _ _ (AiK _),AkM,List.set_cons_zero]
   have e2:((pre.length+1:Nat):Int)=((pre++[r2.1]).length:Int):=by simp
   have e3:pre++r2.1 :: r=(pre++[r2.1])++r:=by simp
   rw[e2,e3,s5];simp only[tot,AiT,Aky,Ai3,Int.add_assoc]
theorem H8:∀ (suf:List (List Vc)) (fuel:Nat) (pre:List (List Vc)) (c:Int),suf.length<fuel→pre.length+suf.length≤1000000→(∀ o∈suf,o.length≤1000)→0≤c→c+tot suf≤1000000000→Mk2 c suf →
  JB KK (pre++suf) fuel c (pre.length:Int)=some (c+tot suf)
 | _,0,_,_,h,_,_,_,_,_=>by omega
 | [],fuel+1,pre,c,_,_,_,_,_,_=>by
  show JA KK (pre++[]) (fun v0 v1=>JB KK (pre++[]) fuel v0 v1) c (pre.length:Int)=_;unfold JA;rw[Aju,AX,cF];simp[tot]
 | o :: r,fuel+1,pre,c,hf,hp,ho,hc,ht,hM=>by
  have h1:=ho o (by simp)
  have hb:=C5 r fun x hx=>ho x (by simp[hx])
  simp only[tot] at ht;simp only[Ajc] at hf hp;have hh:=NA o (k:=c) hc (by omega) (by omega) hM.1
  have ih:=H8 r fuel (pre++[o]) (c+2*(o.length:Int)) (by omega) (by simp;omega) (fun x hx=>ho x (by simp[hx])) (by omega) (by omega) hM.2
  show JA KK (pre++o :: r) (fun v0 v1=>JB KK (pre++o :: r) fuel v0 v1) c (pre.length:Int)=_;unfold JA;have d1:decide ((pre.length:Int)<((pre++o :: r).length:Int))=true:=dT (by simp;omega)
  rw[d1,in0,Yb,hh];simp only[aS,cT,oB];rw[dF (show ¬ c+2*(o.length:Int)<0 by omega),cF,As (by omega)]
  have e2:((pre.length+1:Nat):Int)=((pre++[o]).length:Int):=by simp
  have e3:pre++o :: r=(pre++[o])++r:=by simp
  rw[e2,e3,ih];simp only[tot,Int.add_assoc]
theorem Rx (C:List (List Vc)) (hC:C.length≤1000) (ho:∀ o∈C,o.length≤1000) (hM:Mk2 1 C):Rb KK C 1=some (1+tot C):=by
 have hb:=C5 C ho;have h:=H8 C KK [] 1 (by have:=ET (n:=C.length) (by omega);omega) (by rw[AjW];omega) ho (by omega) (by omega) hM
 have e0:((([]:List (List Vc)).length:Nat):Int)=0:=rfl;rw[e0,Ai3] at h;unfold Rb Xy;exact h
theorem Ry (C:List (List Vc)) (hC:C.length≤1000) (ho:∀ o∈C,o.length≤1000):∃ C',C'.length=C.length∧Mk2 1 C'∧tot C'=tot C∧(∀ o∈C',o.length≤1000)∧UX KK C 1=some (C',1+tot C):=by
 have hb:=C5 C ho;obtain⟨C',s1,s2,s3,s4,s5⟩:=H7 C KK [] 1 (by have:=ET (n:=C.length) (by omega);omega) (by rw[AjW];omega) ho (by omega) (by omega)
 have e0:((([]:List (List Vc)).length:Nat):Int)=0:=rfl;rw[e0,Ai3,Ai3] at s5;refine⟨C',s1,s2,s3,s4,?_⟩;unfold UX Xt;exact s5
theorem KR (C:List (List Vc)) (hC:C.length≤1000) (ho:∀ o∈C,o.length≤1000):∃ r:List (List Vc)×Int,(0≤r.2∧Rb KK r.1 1=some r.2)∧UX KK C 1=some r:=by
 have hb:=C5 C ho;obtain⟨C',s1,s2,s3,s4,s5⟩:=Ry C hC ho;have h:=Rx C' (by omega) s4 s2
 rw[s3] at h;exact⟨(C',1+tot C),⟨by simp only;omega,h⟩,s5⟩
theorem Rz {C:List (List Vc)} (hC:C.length≤1000) (ho:∀ o∈C,o.length≤1000):Q4 KK C C=some true:=by
 have h:=B0 (R:=Bool) (body:=fun L x=>Nb KK C C (fun v0=>L v0) x) C (fun q=>(q:Int)) (fun _=>true) (some false) (some true)
  (fun L q hq=>by
   have hg:C.getD ((0:Int)+(q:Int)).toNat []=C[q]:=gd hq;unfold Nb;rw[in1 hq,in0,hg,Ro (by have:=ho _ (gM hq);omega),As (by omega)]
   rfl)
  (fun L=>by
   unfold Nb;rw[AX,cF]) KK 0 (by omega) (by simp only[KK];omega)
 unfold Q4 Xb;simp only[bne_self_eq_false,cF];refine Eq.trans h ?_;have e:(C.drop 0).all (fun _=>true)=true:=by simp
 rw[e];rfl
def dP:Pt:=(0,(0,0,0),[])
theorem Yc (f:Int) (l:Lt) (g:List Mo) (b:Bool):Bj f l g b=bif Bj f l g true != 0 then Bj f l g true else bif b then 0 else 2:=by
 unfold Bj;cases okF f&&okL l<;>cases EA f l g<;>cases b<;>rfl
theorem AaM (f:Int) (l:Lt) (g:List Mo):TY f l g=Bj f l g true:=by
 unfold TY Bj;rw[Ai5]
theorem PK (f:Int) (l:Lt) {g:List Mo} (hn:g.length≤1048576):Lp KK f l [g]=some (Bj f l g true):=by
 rw[Nw f l hn,AaM]
def Aio (p:Pt) (g:List Mo):Int:=bif okP p then (if EA p.1 p.2.1 g then 0 else 2) else 1
def Aip (p:Pt) (g:List Mo):Bool:=g.all (Rc p)
def Aik (f:Int) (l:Lt) (g:List Mo) (v:Vc):List Vc×Int:=bif Bj f l g (Aw l v) != 0 then ([],Bj f l g (Aw l v)) else (Bh l g v,0)
def AhC (l:Lt) (o:List Vc):List Int:=E2 l 1 o (List.replicate (Ac l).length 0)
def Aiq (f:Int) (l:Lt) (g:List Mo) (v:Vc):Pt×Int:=bif Bj f l g (Aw l v) != 0 then ((0,(0,0,0),[]),Bj f l g (Aw l v)) else ((f,l,AhC l (Bh l g v)),0)
theorem HA {f:Int} {l:Lt} {g:List Mo} (h:Cy f l g) {o:List Vc} (ho:o∈BF l g):(∀ u∈o,Aw l u=true)∧o.length≤768:=by
 obtain⟨r,_,rfl⟩:=Ai9.1 ho;refine⟨fun u hu=>CH h hu,?_⟩;have:=Pz l g r;have:=h.len;omega
theorem JY {l:Lt} (hl:IsL l) (g:List Mo):(BF l g).length≤64:=by
 unfold BF X3;rw[Ai1];exact AiX (Aj2 _ _) (Fp hl)
def Air (f:Int) (l:Lt) (g:List Mo):List Int×Int:=bif Bj f l g true != 0 then ([],Bj f l g true) else (PF l g,0)
end Go.Proofs.YteheolldcpjkcaaGreat.X
