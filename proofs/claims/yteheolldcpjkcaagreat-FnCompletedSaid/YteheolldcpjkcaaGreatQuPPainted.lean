/- The plain law of FnPainted: painting orbits and reading their colours undo one another. -/
import Derived.Test.YteheolldcpjkcaaGreatQuMT
import Derived.Test.YteheolldcpjkcaaGreatQuPPaintOrbits
import Derived.Test.YteheolldcpjkcaaGreatQuPOrbitColours
namespace Go.Proofs.YteheolldcpjkcaaGreat.X
open Go
set_option linter.unusedSimpArgs false
set_option linter.unusedVariables false
theorem TZ {c:List Int} {t0:(Int×Int)×Int×Int} {f:Int} {l:Lt} {g:List Mo} (hO:Bv f l g) {y2:Bool}:∀ (n k:Nat) (t:Int×Int) (cs:List Int),Src c t→cs.length+k=(Ao l g).length→k<n →
  ∃ t' p,KS KK (c,t0.2) (t0.1,f,l,g) y2 n (k:Int) t.1 t.2 cs=some (t',p,g)∧Src c t'∧p.2.2.length≤2000
 | 0,k,_,_,_,_,h=>by omega
 | n+1,k,t,cs,h,hk,hn=>by
  have hOl:=Dt hO.la g;have hN:=Be hO.la;show ∃ t' p,P6 KK (c,t0.2) (t0.1,f,l,g) y2 (fun v0 v1 v2 v3=>KS KK (c,t0.2) (t0.1,f,l,g) y2 n v0 v1 v2 v3) (k:Int) t.1 t.2 cs=some (t',p,g)∧Src c t'∧p.2.2.length≤2000;unfold P6;have et:((t.1,t.2):Int×Int)=t:=rfl;simp only;cases k with
  | zero =>
   rw[dF (show ¬ ((0:Nat):Int)>0 by omega),cF,AaX hO (by omega),oB]
   have hpl:(JP l g cs).length=(Ab l).length:=by unfold JP;rw[AqD,Ca]
   have hpos:0<(Ab l).length:=Ar1 (EQ hO.la (Bu (l:=l) (v:=(0,0)) |>.2 (by have:=hO.la.a1;have:=hO.la.c1;show (0≤(0:Int)∧(0:Int)≤l.1-1)∧(0≤(0:Int)∧(0:Int)≤l.2.2-1);omega)))
   obtain⟨t1,r1,e1,h1,_⟩:=AM h 4;rw[et,e1,oB];simp only;cases r1==0
   ·exact⟨t1,_,rfl,h1,by simp only;omega⟩
   ·rw[cT];obtain⟨t2,r2,e2,h2,a2,b2⟩:=BC h1 (n:=((JP l g cs).length:Int)) (by omega)
    obtain⟨j,rfl⟩:∃ j:Nat,r2=(j:Int):=⟨r2.toNat,by omega⟩
    have hj:j<(JP l g cs).length:=by omega
    rw[e2,oB];simp only;rw[in0,in1 hj];exact⟨t2,_,rfl,h2,by simp only;rw[Aq4];omega⟩
  | succ k =>
   rw[dT (show ((k+1:Nat):Int)>0 by omega),cT]
   obtain⟨t1,r1,e1,h1,_⟩:=AM h 3;rw[et,e1,oB,HG (by simp;omega),cT,AD (n:=((k+1:Nat):Int)-1) (by omega) (by omega)]
   have ek:((k+1:Nat):Int)-1=(k:Int):=by omega
   rw[ek];exact TZ hO n k t1 (cs++[r1]) h1 (by simp;omega) (by omega)
theorem Amp {c:List Int} {t:Int×Int} (h:Src c t):∃ t' p g,SJ KK (c,t)=some (t',p,g)∧Src c t'∧p.2.2.length≤2000∧g.length≤2000:=by
 obtain⟨t1,f,l,g,e1,s1,hg⟩:=AhD h;unfold SJ U3;rw[e1,oB];simp only;rw[GC f l (by omega),oB]
 cases hG:okF f&&okL l&&Dp f l g
 ·exact⟨t1,(f,l,[]),g,rfl,s1,by simp,hg⟩
 ·simp only[aT] at hG;have hc:AB f l g true=0:=by
   unfold AB;rw[hG.1.1,hG.1.2,hG.2];rfl
  have hO:=(BJ hc).1;rw[nT,cF,Fk hO,oB];obtain⟨t2,p,e,h1,h2⟩:=TZ (c:=c) (t0:=(t1,t)) (f:=f) (l:=l) (g:=g) hO (y2:=true) KK (Ao l g).length t1 [] s1 (by simp) (by have:=Dt hO.la g;simp only[KK];omega)
  exact⟨t2,p,g,e,h1,h2,hg⟩
end Go.Proofs.YteheolldcpjkcaaGreat.X
