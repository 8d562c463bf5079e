/- Loops as plain recursion; a function's run with its loops left open. -/
import Derived.Test.YteheolldcpjkcaaGreatQzXTab
import Derived.Test.YteheolldcpjkcaaGreatQzXPtr
import Derived.KernelRfl
set_option linter.unusedSimpArgs false
set_option linter.unusedVariables false
set_option linter.unusedSectionVars false
namespace Go.Proofs.YteheolldcpjkcaaGreat.X
open Go Go.RowKit
variable [CW]
def AL {X R:Type} (body:(X→Option R)→X→Option R):Nat→X→Option R
 | 0,_=>none
 | n+1,x=>body (AL body n) x
def Fd {R:Type} (n0:Nat) (base:Fr) (L:Fr→Option R) (k:Ex→Fr→Option R):Ex→Fr→Option R:=fun e fr=>match e with
 | .normal=>L (D6 n0 base fr)
 | e=>k e fr
theorem Kn {X R:Type} {f:Fr→(Ex→Fr→Option R)→Option R} {n0:Nat} {base:Fr} {k:Ex→Fr→Option R} {frame:X→Fr} {body:(X→Option R)→X→Option R}
  (h:∀ (L:Fr→Option R) x,f (frame x) (Fd n0 base L k)=body (fun x=>L (frame x)) x):∀ n x,EL f n0 base n (frame x) k=AL body n x
 | 0,_=>rfl
 | n+1,x=>by
  have e1:EL f n0 base (n+1) (frame x) k=f (frame x) (Fd n0 base (fun fr=>EL f n0 base n fr k) k):=by
   simp only[EL];congr 1
  rw[e1,h];show body (fun x=>EL f n0 base n (frame x) k) x=body (AL body n) x;congr 1;funext x';exact Kn h n x'
abbrev LR (R:Type):=Code→Fr→(Ex→Fr→Option R)→Option R
def AhJ {R:Type} (g:Fr→(Ex→Fr→Option R)→Option R) (k:Ex→Fr→Option R):Ex→Fr→Option R:=fun e fr=>match e with | .normal=>g fr k | e=>k e fr
def Y7 {R:Type} (id:Nat) (k:Ex→Fr→Option R):Ex→Fr→Option R:=fun e fr=>match e with | .exit j=>bif Nat.beq j id then k .normal fr else k (.exit j) fr | e=>k e fr
def CL {R:Type} (E:Env) (n0:Nat) (lr:LR R):Code→Fr→(Ex→Fr→Option R)→Option R
 | .skip,fr,k=>k .normal fr
 | .region _ ops dr,fr,k=>bif dr then It E ops.toList fr (k .normal) else Jf E ops.toList ops.toList fr (k .normal)
 | .seq a b,fr,k=>CL E n0 lr a fr (AhJ (CL E n0 lr b) k)
 | .cond c x y,fr,k=>match op1 fr [] c with | some (.bool b)=>bif b then CL E n0 lr x (MI E fr c true) k else CL E n0 lr y (MI E fr c false) k | _=>none
 | .block id b,fr,k=>CL E n0 lr b fr (Y7 id k)
 | .loop b,fr,k=>lr b (D6 n0 fr fr) k
 | .exit id,fr,k=>k (.exit id) fr
 | .ret,fr,k=>k .ret fr
 | _,_,_=>none
def Af {R:Type} (E:Env) (n0:Nat):LR R:=fun b h k=>EL (CQ E n0 b) n0 h E.K h k
theorem Gc {R:Type} (E:Env) (n0:Nat):∀ (c:Code) (fr:Fr) (k:Ex→Fr→Option R),CQ E n0 c fr k=CL E n0 (Af E n0) c fr k
 | .skip,fr,k=>rfl
 | .region _ ops dr,fr,k=>rfl
 | .seq a b,fr,k=>by
  simp only[CQ,CL];rw[← Gc E n0 a];congr 1;funext e fr';cases e
  ·exact Gc E n0 b fr' k
  ·rfl
  ·rfl
 | .cond c x y,fr,k=>by
  have h1:=Gc E n0 x (MI E fr c true) k;have h2:=Gc E n0 y (MI E fr c false) k;simp only[CQ,CL,h1,h2];rfl
 | .block id b,fr,k=>by
  simp only[CQ,CL];rw[← Gc E n0 b];congr 1
 | .loop b,fr,k=>rfl
 | .exit id,fr,k=>rfl
 | .ret,fr,k=>rfl
 | .goto _,_,_=>rfl
 | .label _,_,_=>rfl
 | .scope _,_,_=>rfl
 | .rangeFunc _ _ _ _,_,_=>rfl
 | .refuse _,_,_=>rfl
def AP:Code→List Nat→Code
 | c,[]=>c
 | .seq a b,i :: p=>(match i with | 0=>AP a p | _=>AP b p)
 | .cond _ x y,i :: p=>(match i with | 0=>AP x p | _=>AP y p)
 | .block _ b,_ :: p=>AP b p
 | .loop b,_ :: p=>AP b p
 | c,_=>c
def AD {R:Type} (E:Env) (n0:Nat) (lr:LR R):Code→List Nat→(Ex→Fr→Option R)→Ex→Fr→Option R
 | _,[],k=>k
 | .seq a b,i :: p,k=>(match i with | 0=>AD E n0 lr a p (AhJ (CL E n0 lr b) k) | _=>AD E n0 lr b p k)
 | .cond _ x y,i :: p,k=>(match i with | 0=>AD E n0 lr x p k | _=>AD E n0 lr y p k)
 | .block id b,_ :: p,k=>AD E n0 lr b p (Y7 id k)
 | _,_,k=>k
def AhK (E:Env) (f:Func) (ps:List (PM×Sh)) (rs:List Sh) (x:AT ps):Ex→Fr→Option (RT (AU ps++rs)):=fun e fr=>match e with
  | .ret | .normal=>(match Er E fr f.results.toList rs fr.rw with
   | some (y,rw)=>Ji rw ps 0 rs x y
   | none=>none)
  | .exit _=>none
def Ax (f:Func):Code:=match f.body with | some c=>c | none=>.skip
def AhL (E:Env) (f:Func) (ps:List (PM×Sh)) (rs:List Sh) (x:AT ps) (lr:LR (RT (AU ps++rs))):Option (RT (AU ps++rs)) :=
 bif f.body.isSome&&(Nat.ble ps.length f.ntmps&&ps.all Jh) then
  CL E (Ae .io ps 0 ⟨f.ntmps,[],[],[]⟩ x).rw.length lr (Ax f) (Ae .io ps 0 ⟨f.ntmps,[],[],[]⟩ x) (AhK E f ps rs x)
 else none
theorem AH {E:Env} {f:Func} {ps:List (PM×Sh)} {rs:List Sh} {x:AT ps} {n0:Nat} {y:Option (RT (AU ps++rs))} (hn:n0=(Ae .io ps 0 ⟨f.ntmps,[],[],[]⟩ x).rw.length) (h:AhL E f ps rs x (Af E n0)=y):Od E f ps rs x=y:=by
 subst hn;rw[← h];unfold Od AhL Ax;cases Nat.ble ps.length f.ntmps&&ps.all Jh with
 | false=>simp
 | true =>
  cases hb:f.body with
  | none=>rfl
  | some c =>
   simp only[Ald,Bool.and_self,cond_true];rw[Gc];congr 1
def Ait (E:Env) (f:Func) (e:Nat) (s r:Sh) (ps:List (PM×Sh)) (rs:List Sh) (x:(List s.T×r.T)×AT ps) (lr:LR (RT (r :: rs))):Option (RT (r :: rs)) :=
 bif f.body.isSome&&(Nat.ble (ps.length+1) f.ntmps&&KL ps&&r.flat&&s.data) then
  CL E (frP f.ntmps e s r ps x).rw.length lr (Ax f) (frP f.ntmps e s r ps x) (AfU E f r rs)
 else none
def Aiu (E:Env) (f:Func) (e:Nat) (s r:Sh) (ps:List (PM×Sh)) (x:List s.T×AT ps) (lr:LR (RT [r])):Option (RT [r]) :=
 bif f.body.isSome&&(Nat.ble (ps.length+1) f.ntmps&&KL ps&&r.flat&&s.data) then
  CL E (frN f.ntmps e s ps x).rw.length lr (Ax f) (frN f.ntmps e s ps x) (AfV f r)
 else none
def Aiv (E:Env) (f:Func) (c:Sh) (ps:List (PM×Sh)) (rs:List Sh) (x:c.T×AT ps) (lr:LR (RT (c :: rs))):Option (RT (c :: rs)) :=
 bif f.body.isSome&&(Nat.ble (ps.length+1) f.ntmps&&KL ps&&(c.data&&c.agg)) then
  CL E (frQ f.ntmps c ps x).rw.length lr (Ax f) (frQ f.ntmps c ps x) (AfW E f c rs)
 else none
def Aiw (E:Env) (f:Func) (c:Sh) (ps:List (PM×Sh)) (rs:List Sh) (x:AT ps) (lr:LR (Option c.T×RT rs)):Option (Option c.T×RT rs) :=
 bif f.body.isSome&&(Nat.ble ps.length f.ntmps&&KL ps&&(c.data&&c.agg)) then
  CL E (Ae .own ps 0 ⟨f.ntmps,[],[],[]⟩ x).rw.length lr (Ax f) (Ae .own ps 0 ⟨f.ntmps,[],[],[]⟩ x) (AfX E f c rs)
 else none
def Aix (E:Env) (f:Func) (c:Sh) (ps:List (PM×Sh)) (rs:List Sh) (x:AT ps) (lr:LR (Option c.T×RT rs)):Option (Option c.T×RT rs) :=
 bif f.body.isSome&&(Nat.ble ps.length f.ntmps&&KL ps&&(c.data&&c.agg)) then
  CL E (Ae .own ps 0 ⟨f.ntmps,[],[],[]⟩ x).rw.length lr (Ax f) (Ae .own ps 0 ⟨f.ntmps,[],[],[]⟩ x) (AfY E f c rs)
 else none
abbrev w (n:Int):Int:=IntKind.i64.wrap n
def bs (l:List Nat):ByteArray:=⟨(l.map UInt8.ofNat).toArray⟩
theorem Df {P:Program} {E:Env} (hE:AA P E) {f:Nat} {fn:Func} (hfn:P.funcs[f]? = some fn) {ps:List (PM×Sh)} {rs:List Sh} {F:AT ps→Option (RT (AU ps++rs))} (hF:∀ x,Od E fn ps rs x=F x):Bk P f ⟨ps,rs,F⟩ :=
 KX hE hfn fun x y h=>(hF x).trans h
end Go.Proofs.YteheolldcpjkcaaGreat.X
