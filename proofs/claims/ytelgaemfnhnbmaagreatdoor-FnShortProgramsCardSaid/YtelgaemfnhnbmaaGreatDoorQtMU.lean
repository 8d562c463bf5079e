/- Plain facts: an orbit times the motions that fix one of its cells is the group; fixed cells are counted as orbits. -/
import Derived.Test.YtelgaemfnhnbmaaGreatDoorQtPOrbitNumbers
namespace Go.Proofs.YtelgaemfnhnbmaaGreatDoor.X
open Go
set_option linter.unusedSimpArgs false
set_option linter.unusedVariables false
theorem sum_zero {α:Type}:∀ (l:List α),(l.map fun _=>0).sum=0
 | []=>rfl
 | _ :: l=>by simp[sum_zero l]
theorem count_one {β:Type} [BEq β] [LawfulBEq β] (a:β):∀ {O:List β},O.Nodup→a∈O→(O.map fun u=>if (a==u)=true then 1 else 0).sum=1
 | [],_,h=>by cases h
 | u :: O,hn,h=>by
  obtain⟨h1,h2⟩:=List.nodup_cons.1 hn;rw[List.map_cons,List.sum_cons];by_cases e:a=u
  ·subst e;rw[if_pos (by simp)]
   have:(O.map fun u=>if (a==u)=true then 1 else 0)=O.map fun _=>0:=List.map_congr_left fun u hu=>if_neg (by
    intro hb;rw[beq_iff_eq] at hb;subst hb;exact h1 hu)
   rw[this,sum_zero]
  ·rw[if_neg (by simpa using e),count_one a h2 ((List.mem_cons.1 h).resolve_left e)]
def stbS (l:Lt) (g:List Mo) (v:Vc):List Mo:=g.filter fun m=>mvS l m v==v
def fibS (l:Lt) (g:List Mo) (v u:Vc):List Mo:=g.filter fun m=>mvS l m v==u
theorem mm_cancel:((pmQ++pmH).all fun a=>(pmQ++pmH).all fun b=>(pmQ++pmH).all fun c=>!(mmS a b==mmS a c)||b==c)=true:=by decide +kernel
theorem mulG_inj {f:Int} {l:Lt} {g:List Mo} (h:OrbG f l g) {m n n':Mo} (hm:m∈g) (hn:n∈g) (hn':n'∈g) (e:mulG l m n=mulG l m n'):n=n':=by
 have e1:mmS m.1 n.1=mmS m.1 n'.1:=congrArg Prod.fst e;have e2:mvS l m n.2=mvS l m n'.2:=congrArg Prod.snd e;have c:=List.all_eq_true.1 (List.all_eq_true.1 (List.all_eq_true.1 mm_cancel m.1 (h.good m hm).1) n.1 (h.good n hn).1) n'.1 (h.good n' hn').1;have e3:(mmS m.1 n.1==mmS m.1 n'.1)=true:=beq_iff_eq.2 e1;rw[e3] at c;have c:n.1=n'.1:=by simpa using c
 exact Prod.ext c (mv_inj h.la (h.stab hm) (h.pr.mem n hn).2 (h.pr.mem n' hn').2 e2)
end Go.Proofs.YtelgaemfnhnbmaaGreatDoor.X
