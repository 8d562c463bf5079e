/- Functions of the library that have contracts in the kit. -/
import Derived.Test.YteheolldcpjkcaaGreatDoorQzXStep
import Derived.Shelf.SlSortCmp.NoneTotal
import Derived.Shelf.Bits.Mul64
set_option linter.unusedSimpArgs false
set_option linter.unusedVariables false
set_option linter.unusedSectionVars false
namespace Go.Proofs.YteheolldcpjkcaaGreatDoor.X
open Go Go.RowKit
theorem Mz.grow {w w':World} (h:Mz w w'):∃ q os,w'=Go.Sort.grow (w.drewN q) os:=by
 refine⟨w'.drawn-w.drawn,w'.heap.extract w.heap.size w'.heap.size,?_⟩;have hd:w'.drawn=w.drawn+(w'.drawn-w.drawn):=by have:w.drawn≤w'.drawn:=h.drawn;omega
 have hh:w'.heap=w.heap++w'.heap.extract w.heap.size w'.heap.size:=by
  apply Array.ext_getElem?
  intro k;rw[Array.getElem?_append];split
  ·rename_i hk;exact h.block k hk
  ·rename_i hk;rw[Array.getElem?_extract];have:=h.size;split
   ·congr 1;omega
   ·rw[Array.getElem?_eq_none (by omega)]
 obtain⟨h1,h2,h3,h4,h5⟩:=w';simp only at hd hh;have e1:=h.os;have e2:=h.tape;have e3:=h.output;simp only at e1 e2 e3;subst e1 e2 e3;unfold Go.Sort.grow World.drewN;simp only;rw[← hd,← hh]
def AmO (s:Sh) (φ:s.T→s.T→Option Int):Prop :=
 (∀ x y,(φ x y).isSome=true)∧Go.Sort.SWO (ltOf fun x y=>(φ x y).getD 0)∧∀ x y,ltOf (fun x y=>(φ x y).getD 0) x y=false→ltOf (fun x y=>(φ x y).getD 0) y x=false→x=y
variable [CW]
open Classical in
noncomputable def Apf (s:Sh) (xs:List s.T) (φ:s.T→s.T→Option Int):Option (List s.T) :=
 if AmO s φ∧xs.length<4611686018427387904 then some (xs.mergeSort fun x y=>!ltOf (fun x y=>(φ x y).getD 0) y x) else none
noncomputable def Aqr (e:Nat) (s:Sh):Mdl:=⟨[(.io,.list e s),(.ro,.fn2 s s (.int .i64))],[],fun x=>Apf s x.1 x.2.1⟩
noncomputable def AqF (a b:Int):Option (Int×Int):=@ite _ ((0≤a∧a<18446744073709551616)∧0≤b∧b<18446744073709551616) (Classical.propDecidable _) (some (a*b / 18446744073709551616,a*b % 18446744073709551616)) none
end Go.Proofs.YteheolldcpjkcaaGreatDoor.X
