/- Plain facts: marks on cells, and marks that are in conflict. -/
import Derived.Test.YteheolldcpjkcaaGreatDoorQtPOrbitNumbers
namespace Go.Proofs.YteheolldcpjkcaaGreatDoor.X
open Go
set_option linter.unusedSimpArgs false
set_option linter.unusedVariables false
abbrev Ma:=Vc×Int
def AoT (x:Ma):Bool:=Zn x.1&&okC x.2
def Ap7 (ms:List Ma):Bool:=ms.all AoT&&decide (ms.length≤40)
theorem M7 {l:Lt} (hl:IsL l) {v:Vc} (hv:Sm v):Ph KK l v=some ((BH l v:Nat):Int):=by
 unfold Ph;rw[CB hl hv,oB,(F4 hl v).1]
def nmS (l:Lt) (ns:List Int) (x:Ma):Int:=ns.getD (BH l x.1) 0
def cfB (l:Lt) (ns:List Int) (y x:Ma):Bool:=(nmS l ns x==nmS l ns y)&&(x.2 != y.2)
def cfO (l:Lt) (ns:List Int) (ms:List Ma):Nat→List Ma→Int×Int×Bool
 | _,[]=>(0,0,false)
 | j,y :: r=>bif (ms.take j).any (cfB l ns y) then (F7 (cfB l ns y) 0 (ms.take j),(j:Int),true) else cfO l ns ms (j+1) r
theorem UB (l:Lt) (g:List Mo):(EL l g).length=(Ab l).length:=by simp[EL]
def ixS (l:Lt) (g:List Mo) (u:Vc):Int:=F7 (fun o=>o.contains u) 0 (AL l g)
theorem Zv {l:Lt} (hl:IsL l) (g:List Mo) {u:Vc} (hu:AB l u=true):(EL l g)[BH l u]? = some (ixS l g u):=by
 unfold EL;rw[Aq1,XN hl hu];rfl
theorem AoU {f:Int} {l:Lt} {g:List Mo} (h:CH f l g) {u:Vc} (hu:AB l u=true):∃ k:Nat,∃ hk:k<(AL l g).length,ixS l g u=(k:Int)∧u∈(AL l g)[k]:=by
 rcases GS (fun o:List Vc=>o.contains u) (AL l g) 0 with ⟨_,h2⟩ | ⟨k,h1,h2,_,o,h4,h5⟩
 ·have:=SS h hu;obtain⟨o,ho,hc⟩:=ArI.1 this;rw[h2 o ho] at hc;cases hc
 ·refine⟨k,h1,by unfold ixS;rw[h2,Ari],?_⟩
  rw[AqR h1,Arf] at h4;rw[h4];exact AqW.1 h5
end Go.Proofs.YteheolldcpjkcaaGreatDoor.X
