/- Plain facts: an orbit times the motions that fix one of its cells is the group; fixed cells are counted as orbits. -/
import Derived.Test.YtkemdhpdfaejgaaGreatDoorQtPOrbitNumbers
namespace Go.Proofs.YtkemdhpdfaejgaaGreatDoor.X
open Go
set_option linter.unusedSimpArgs false
set_option linter.unusedVariables false
theorem Xm {α:Type}:∀ (l:List α),(l.map fun _=>0).sum=0
 | []=>rfl
 | _ :: l=>by simp[Xm l]
theorem count_one {β:Type} [BEq β] [LawfulBEq β] (a:β):∀ {O:List β},O.Nodup→a∈O→(O.map fun u=>if (a==u)=true then 1 else 0).sum=1
 | [],_,h=>by cases h
 | u :: O,hn,h=>by
  obtain⟨h1,h2⟩:=AC3.1 hn;rw[ABH,List.sum_cons];by_cases e:a=u
  ·subst e;rw[if_pos (by simp)]
   have:(O.map fun u=>if (a==u)=true then 1 else 0)=O.map fun _=>0:=ACP fun u hu=>if_neg (by
    intro hb;rw[beq_iff_eq] at hb;subst hb;exact h1 hu)
   rw[this,Xm]
  ·rw[if_neg (by simpa using e),count_one a h2 ((AA4.1 h).resolve_left e)]
def AAY (l:Lt) (g:List Mo) (v:Vc):List Mo:=g.filter fun m=>mvS l m v==v
def AAZ (l:Lt) (g:List Mo) (v u:Vc):List Mo:=g.filter fun m=>mvS l m v==u
theorem AfT:((pmQ++pmH).all fun a=>(pmQ++pmH).all fun b=>(pmQ++pmH).all fun c=>!(mmS a b==mmS a c)||b==c)=true:=by decide +kernel
theorem Xn {f:Int} {l:Lt} {g:List Mo} (h:Bj f l g) {m n n':Mo} (hm:m∈g) (hn:n∈g) (hn':n'∈g) (e:Bi l m n=Bi l m n'):n=n':=by
 have e1:mmS m.1 n.1=mmS m.1 n'.1:=congrArg Prod.fst e;have e2:mvS l m n.2=mvS l m n'.2:=congrArg Prod.snd e;have c:=AA3.1 (AA3.1 (AA3.1 AfT m.1 (h.good m hm).1) n.1 (h.good n hn).1) n'.1 (h.good n' hn').1;have e3:(mmS m.1 n.1==mmS m.1 n'.1)=true:=beq_iff_eq.2 e1;rw[e3] at c;have c:n.1=n'.1:=by simpa using c
 exact Prod.ext c (ZP h.la (h.stab hm) (h.pr.mem n hn).2 (h.pr.mem n' hn').2 e2)
end Go.Proofs.YtkemdhpdfaejgaaGreatDoor.X
