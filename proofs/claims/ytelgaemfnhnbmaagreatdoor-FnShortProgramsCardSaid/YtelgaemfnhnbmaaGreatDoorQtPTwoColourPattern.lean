/- The plain law of TwoColourPattern: both sides mark the group's orbit with 2, and then the half's with 1. -/
import Derived.Test.YtelgaemfnhnbmaaGreatDoorQtPOrbitNumbers
namespace Go.Proofs.YtelgaemfnhnbmaaGreatDoor.X
open Go
set_option linter.unusedSimpArgs false
set_option linter.unusedVariables false
theorem marked_gen {l:Lt} (hl:IsL l) (f c:Int) {o:List Vc} (ho:∀ u∈o,cellB l u=true) (hn:o.length≤1000):f149G KK f l o c=some (f,l,setAll l c o (List.replicate (cellsS l).length 0)):=by
 have hh:=iter_fold (R:=Pt) (body:=fun L x=>f149_b4 KK f l o c (fun v0 v1=>L (v0,v1)) x.1 x.2) o (fun q s=>((q:Int),s)) (fun s u=>s.set (numS l u) c) (fun s=>some (f,l,s)) (fun q s=>s.length=(cellsS l).length)
  (fun L q s hq hi=>by
   refine⟨by rw[List.length_set];exact hi,?_⟩
   show f149_b4 KK f l o c (fun v0 v1=>L (v0,v1)) (q:Int) s=_;unfold f149_b4;have hlt:=numS_lt hl o[q];rw[in1 hq,in0,gd hq];simp only[aS,cT];rw[number_eq hl (ho _ (gM hq)),oB,in0,in1 (show numS l o[q]<s.length by omega),w_succ (by omega)]
   have e1:((0:Int)+((numS l o[q]:Nat):Int)).toNat=numS l o[q]:=by omega
   simp only[aS,cT,e1])
  (fun L s hi=>by
   show f149_b4 KK f l o c (fun v0 v1=>L (v0,v1)) (o.length:Int) s=_;unfold f149_b4;rw[out1,cF]) KK 0 (List.replicate (cellsS l).length 0) (by omega) (by simp only[KK];omega) (by simp)
 unfold f149G f149_g f43G;simp only[oB];obtain⟨e1,e2⟩:=make_ok hl;rw[e1,cT,e2];rw[List.drop_zero] at hh;exact hh
theorem containsMo_eq {l:List Mo} (hn:l.length≤1000) (m:Mo):f20G KK l m=some (l.contains m):=by
 have hidx:f56G KK l m=some (idxS (fun a=>m==a) 0 l):=by
  have h:=iter_idx (R:=Int) (body:=fun L x=>f56_b2 KK l m (fun v0=>L v0) x) l (fun a=>m==a) some
   (fun L q hq=>by
    unfold f56_b2;rw[in1 hq,in0,gd hq];simp only[aS,cT];rw[eqMo,w_succ (by omega)])
   (fun L=>by
    unfold f56_b2;rw[out1,cF]) KK 0 (by omega) (by have:=KKlt (n:=l.length) (by omega);omega)
  unfold f56G f56_g f56_l2;exact h
 unfold f20G;rw[hidx,oB,idxS_any];congr 1;rw[List.contains_eq_any_beq]
def halfB (f:Int) (l:Lt) (g s:List Mo) (v:Vc):Bool:=cellB l v&&(grpB f l s&&((2*s.length==g.length)&&s.all g.contains))
def codeH (f:Int) (l:Lt) (g s:List Mo) (v:Vc):Int:=bif codeC f l g true != 0 then codeC f l g true else bif halfB f l g s v then (bif decide (48<g.length) then 3 else 0) else 2
def twoS (l:Lt) (g s:List Mo) (v:Vc):List Int:=setAll l 1 (orbS l s v) (setAll l 2 (orbS l g v) (List.replicate (cellsS l).length 0))
def resTC (f:Int) (l:Lt) (g s:List Mo) (v:Vc):Pt×Int:=bif codeH f l g s v != 0 then (dP,codeH f l g s v) else bif decide ((orbS l s v).length<(orbS l g v).length) then ((f,l,twoS l g s v),0) else (dP,5)
end Go.Proofs.YtelgaemfnhnbmaaGreatDoor.X
