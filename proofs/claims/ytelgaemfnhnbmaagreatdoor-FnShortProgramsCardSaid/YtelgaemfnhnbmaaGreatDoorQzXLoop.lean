/- Loops as plain recursion; a function's run with its loops left open. -/
import Derived.Test.YtelgaemfnhnbmaaGreatDoorQzXTab
import Derived.Test.YtelgaemfnhnbmaaGreatDoorQzXPtr
import Derived.KernelRfl
set_option linter.unusedSimpArgs false
set_option linter.unusedVariables false
set_option linter.unusedSectionVars false
namespace Go.Proofs.YtelgaemfnhnbmaaGreatDoor.X
open Go Go.RowKit
variable [CW]
def iter {X R:Type} (body:(X→Option R)→X→Option R):Nat→X→Option R
 | 0,_=>none
 | n+1,x=>body (iter body n) x
def loopK {R:Type} (n0:Nat) (base:Fr) (L:Fr→Option R) (k:Ex→Fr→Option R):Ex→Fr→Option R:=fun e fr=>match e with
 | .normal=>L (headOf n0 base fr)
 | e=>k e fr
theorem loopN_iter {X R:Type} {f:Fr→(Ex→Fr→Option R)→Option R} {n0:Nat} {base:Fr} {k:Ex→Fr→Option R} {frame:X→Fr} {body:(X→Option R)→X→Option R}
  (h:∀ (L:Fr→Option R) x,f (frame x) (loopK n0 base L k)=body (fun x=>L (frame x)) x):∀ n x,loopN f n0 base n (frame x) k=iter body n x
 | 0,_=>rfl
 | n+1,x=>by
  have e1:loopN f n0 base (n+1) (frame x) k=f (frame x) (loopK n0 base (fun fr=>loopN f n0 base n fr k) k):=by
   simp only[loopN];congr 1
  rw[e1,h];show body (fun x=>loopN f n0 base n (frame x) k) x=body (iter body n) x;congr 1;funext x';exact loopN_iter h n x'
abbrev LR (R:Type):=Code→Fr→(Ex→Fr→Option R)→Option R
def seqK {R:Type} (g:Fr→(Ex→Fr→Option R)→Option R) (k:Ex→Fr→Option R):Ex→Fr→Option R:=fun e fr=>match e with | .normal=>g fr k | e=>k e fr
def blockK {R:Type} (id:Nat) (k:Ex→Fr→Option R):Ex→Fr→Option R:=fun e fr=>match e with | .exit j=>bif Nat.beq j id then k .normal fr else k (.exit j) fr | e=>k e fr
def execG {R:Type} (E:Env) (n0:Nat) (lr:LR R):Code→Fr→(Ex→Fr→Option R)→Option R
 | .skip,fr,k=>k .normal fr
 | .region _ ops dr,fr,k=>bif dr then drawRun E ops.toList fr (k .normal) else runOps E ops.toList ops.toList fr (k .normal)
 | .seq a b,fr,k=>execG E n0 lr a fr (seqK (execG E n0 lr b) k)
 | .cond c x y,fr,k=>match op1 fr [] c with | some (.bool b)=>bif b then execG E n0 lr x (setB E fr c true) k else execG E n0 lr y (setB E fr c false) k | _=>none
 | .block id b,fr,k=>execG E n0 lr b fr (blockK id k)
 | .loop b,fr,k=>lr b (headOf n0 fr fr) k
 | .exit id,fr,k=>k (.exit id) fr
 | .ret,fr,k=>k .ret fr
 | _,_,_=>none
def realL {R:Type} (E:Env) (n0:Nat):LR R:=fun b h k=>loopN (exec E n0 b) n0 h E.K h k
theorem exec_G {R:Type} (E:Env) (n0:Nat):∀ (c:Code) (fr:Fr) (k:Ex→Fr→Option R),exec E n0 c fr k=execG E n0 (realL E n0) c fr k
 | .skip,fr,k=>rfl
 | .region _ ops dr,fr,k=>rfl
 | .seq a b,fr,k=>by
  simp only[exec,execG];rw[← exec_G E n0 a];congr 1;funext e fr';cases e
  ·exact exec_G E n0 b fr' k
  ·rfl
  ·rfl
 | .cond c x y,fr,k=>by
  have h1:=exec_G E n0 x (setB E fr c true) k;have h2:=exec_G E n0 y (setB E fr c false) k;simp only[exec,execG,h1,h2];rfl
 | .block id b,fr,k=>by
  simp only[exec,execG];rw[← exec_G E n0 b];congr 1
 | .loop b,fr,k=>rfl
 | .exit id,fr,k=>rfl
 | .ret,fr,k=>rfl
 | .goto _,_,_=>rfl
 | .label _,_,_=>rfl
 | .scope _,_,_=>rfl
 | .rangeFunc _ _ _ _,_,_=>rfl
 | .refuse _,_,_=>rfl
def selC:Code→List Nat→Code
 | c,[]=>c
 | .seq a b,i :: p=>(match i with | 0=>selC a p | _=>selC b p)
 | .cond _ x y,i :: p=>(match i with | 0=>selC x p | _=>selC y p)
 | .block _ b,_ :: p=>selC b p
 | .loop b,_ :: p=>selC b p
 | c,_=>c
def contC {R:Type} (E:Env) (n0:Nat) (lr:LR R):Code→List Nat→(Ex→Fr→Option R)→Ex→Fr→Option R
 | _,[],k=>k
 | .seq a b,i :: p,k=>(match i with | 0=>contC E n0 lr a p (seqK (execG E n0 lr b) k) | _=>contC E n0 lr b p k)
 | .cond _ x y,i :: p,k=>(match i with | 0=>contC E n0 lr x p k | _=>contC E n0 lr y p k)
 | .block id b,_ :: p,k=>contC E n0 lr b p (blockK id k)
 | _,_,k=>k
def finK (E:Env) (f:Func) (ps:List (PM×Sh)) (rs:List Sh) (x:AT ps):Ex→Fr→Option (RT (outs ps++rs)):=fun e fr=>match e with
  | .ret | .normal=>(match resOf E fr f.results.toList rs fr.rw with
   | some (y,rw)=>ioOf rw ps 0 rs x y
   | none=>none)
  | .exit _=>none
def codeOf (f:Func):Code:=match f.body with | some c=>c | none=>.skip
def runG (E:Env) (f:Func) (ps:List (PM×Sh)) (rs:List Sh) (x:AT ps) (lr:LR (RT (outs ps++rs))):Option (RT (outs ps++rs)) :=
 bif f.body.isSome&&(Nat.ble ps.length f.ntmps&&ps.all parSh) then
  execG E (initArgs .io ps 0 ⟨f.ntmps,[],[],[]⟩ x).rw.length lr (codeOf f) (initArgs .io ps 0 ⟨f.ntmps,[],[],[]⟩ x) (finK E f ps rs x)
 else none
theorem runF_G {E:Env} {f:Func} {ps:List (PM×Sh)} {rs:List Sh} {x:AT ps} {n0:Nat} {y:Option (RT (outs ps++rs))} (hn:n0=(initArgs .io ps 0 ⟨f.ntmps,[],[],[]⟩ x).rw.length) (h:runG E f ps rs x (realL E n0)=y):runF E f ps rs x=y:=by
 subst hn;rw[← h];unfold runF runG codeOf;cases Nat.ble ps.length f.ntmps&&ps.all parSh with
 | false=>simp
 | true =>
  cases hb:f.body with
  | none=>rfl
  | some c =>
   simp only[Option.isSome_some,Bool.and_self,cond_true];rw[exec_G];congr 1
def runPG (E:Env) (f:Func) (e:Nat) (s r:Sh) (ps:List (PM×Sh)) (rs:List Sh) (x:(List s.T×r.T)×AT ps) (lr:LR (RT (r :: rs))):Option (RT (r :: rs)) :=
 bif f.body.isSome&&(Nat.ble (ps.length+1) f.ntmps&&roPs ps&&r.flat&&s.data) then
  execG E (frP f.ntmps e s r ps x).rw.length lr (codeOf f) (frP f.ntmps e s r ps x) (finP E f r rs)
 else none
theorem runP_G {E:Env} {f:Func} {e:Nat} {s r:Sh} {ps:List (PM×Sh)} {rs:List Sh} {x:(List s.T×r.T)×AT ps} {n0:Nat} {y:Option (RT (r :: rs))} (hn:n0=(frP f.ntmps e s r ps x).rw.length) (h:runPG E f e s r ps rs x (realL E n0)=y):runP E f e s r ps rs x=y:=by
 subst hn;rw[← h];unfold runP runPG codeOf;cases Nat.ble (ps.length+1) f.ntmps&&roPs ps&&r.flat&&s.data with
 | false=>simp
 | true =>
  cases hb:f.body with
  | none=>rfl
  | some c =>
   simp only[Option.isSome_some,Bool.and_self,cond_true];rw[exec_G]
def runNG (E:Env) (f:Func) (e:Nat) (s r:Sh) (ps:List (PM×Sh)) (x:List s.T×AT ps) (lr:LR (RT [r])):Option (RT [r]) :=
 bif f.body.isSome&&(Nat.ble (ps.length+1) f.ntmps&&roPs ps&&r.flat&&s.data) then
  execG E (frN f.ntmps e s ps x).rw.length lr (codeOf f) (frN f.ntmps e s ps x) (finN f r)
 else none
theorem runN_G {E:Env} {f:Func} {e:Nat} {s r:Sh} {ps:List (PM×Sh)} {x:List s.T×AT ps} {n0:Nat} {y:Option (RT [r])} (hn:n0=(frN f.ntmps e s ps x).rw.length) (h:runNG E f e s r ps x (realL E n0)=y):runN E f e s r ps x=y:=by
 subst hn;rw[← h];unfold runN runNG codeOf;cases Nat.ble (ps.length+1) f.ntmps&&roPs ps&&r.flat&&s.data with
 | false=>simp
 | true =>
  cases hb:f.body with
  | none=>rfl
  | some c =>
   simp only[Option.isSome_some,Bool.and_self,cond_true];rw[exec_G]
def runQG (E:Env) (f:Func) (c:Sh) (ps:List (PM×Sh)) (rs:List Sh) (x:c.T×AT ps) (lr:LR (RT (c :: rs))):Option (RT (c :: rs)) :=
 bif f.body.isSome&&(Nat.ble (ps.length+1) f.ntmps&&roPs ps&&(c.data&&c.agg)) then
  execG E (frQ f.ntmps c ps x).rw.length lr (codeOf f) (frQ f.ntmps c ps x) (finQ E f c rs)
 else none
theorem runQ_G {E:Env} {f:Func} {c:Sh} {ps:List (PM×Sh)} {rs:List Sh} {x:c.T×AT ps} {n0:Nat} {y:Option (RT (c :: rs))} (hn:n0=(frQ f.ntmps c ps x).rw.length) (h:runQG E f c ps rs x (realL E n0)=y):runQ E f c ps rs x=y:=by
 subst hn;rw[← h];unfold runQ runQG codeOf;cases Nat.ble (ps.length+1) f.ntmps&&roPs ps&&(c.data&&c.agg) with
 | false=>simp
 | true =>
  cases hb:f.body with
  | none=>rfl
  | some c =>
   simp only[Option.isSome_some,Bool.and_self,cond_true];rw[exec_G]
def runCG (E:Env) (f:Func) (c:Sh) (ps:List (PM×Sh)) (rs:List Sh) (x:AT ps) (lr:LR (Option c.T×RT rs)):Option (Option c.T×RT rs) :=
 bif f.body.isSome&&(Nat.ble ps.length f.ntmps&&roPs ps&&(c.data&&c.agg)) then
  execG E (initArgs .own ps 0 ⟨f.ntmps,[],[],[]⟩ x).rw.length lr (codeOf f) (initArgs .own ps 0 ⟨f.ntmps,[],[],[]⟩ x) (finC E f c rs)
 else none
theorem runC_G {E:Env} {f:Func} {c:Sh} {ps:List (PM×Sh)} {rs:List Sh} {x:AT ps} {n0:Nat} {y:Option (Option c.T×RT rs)} (hn:n0=(initArgs .own ps 0 ⟨f.ntmps,[],[],[]⟩ x).rw.length) (h:runCG E f c ps rs x (realL E n0)=y):runC E f c ps rs x=y:=by
 subst hn;rw[← h];unfold runC runCG codeOf;cases Nat.ble ps.length f.ntmps&&roPs ps&&(c.data&&c.agg) with
 | false=>simp
 | true =>
  cases hb:f.body with
  | none=>rfl
  | some c =>
   simp only[Option.isSome_some,Bool.and_self,cond_true];rw[exec_G]
def runOG (E:Env) (f:Func) (c:Sh) (ps:List (PM×Sh)) (rs:List Sh) (x:AT ps) (lr:LR (Option c.T×RT rs)):Option (Option c.T×RT rs) :=
 bif f.body.isSome&&(Nat.ble ps.length f.ntmps&&roPs ps&&(c.data&&c.agg)) then
  execG E (initArgs .own ps 0 ⟨f.ntmps,[],[],[]⟩ x).rw.length lr (codeOf f) (initArgs .own ps 0 ⟨f.ntmps,[],[],[]⟩ x) (finO E f c rs)
 else none
theorem runO_G {E:Env} {f:Func} {c:Sh} {ps:List (PM×Sh)} {rs:List Sh} {x:AT ps} {n0:Nat} {y:Option (Option c.T×RT rs)} (hn:n0=(initArgs .own ps 0 ⟨f.ntmps,[],[],[]⟩ x).rw.length) (h:runOG E f c ps rs x (realL E n0)=y):runO E f c ps rs x=y:=by
 subst hn;rw[← h];unfold runO runOG codeOf;cases Nat.ble ps.length f.ntmps&&roPs ps&&(c.data&&c.agg) with
 | false=>simp
 | true =>
  cases hb:f.body with
  | none=>rfl
  | some c =>
   simp only[Option.isSome_some,Bool.and_self,cond_true];rw[exec_G]
theorem sound_fnQ {P:Program} {E:Env} (hE:EnvOK P E) {f:Nat} {fn:Func} (hfn:P.funcs[f]? = some fn) {c:Sh} {ps:List (PM×Sh)} {rs:List Sh} {F:c.T×AT ps→Option (RT (c :: rs))} (hF:∀ x,runQ E fn c ps rs x=F x):SoundQ P f ⟨c,ps,rs,F⟩ :=
 sound_of_runQ hE hfn fun x y h=>(hF x).trans h
theorem sound_fnC {P:Program} {E:Env} (hE:EnvOK P E) {f:Nat} {fn:Func} (hfn:P.funcs[f]? = some fn) {c:Sh} {ps:List (PM×Sh)} {rs:List Sh} {F:AT ps→Option (Option c.T×RT rs)} (hF:∀ x,runC E fn c ps rs x=F x):SoundC P f ⟨c,ps,rs,F⟩ :=
 sound_of_runC hE hfn fun x y h=>(hF x).trans h
theorem sound_fnO {P:Program} {E:Env} (hE:EnvOK P E) {f:Nat} {fn:Func} (hfn:P.funcs[f]? = some fn) {c:Sh} {ps:List (PM×Sh)} {rs:List Sh} {F:AT ps→Option (Option c.T×RT rs)} (hF:∀ x,runO E fn c ps rs x=F x):SoundO P f ⟨c,ps,rs,F⟩ :=
 sound_of_runO hE hfn fun x y h=>(hF x).trans h
theorem sound_fnP {P:Program} {E:Env} (hE:EnvOK P E) {f:Nat} {fn:Func} (hfn:P.funcs[f]? = some fn) {e:Nat} {s r:Sh} {ps:List (PM×Sh)} {rs:List Sh} {F:(List s.T×r.T)×AT ps→Option (RT (r :: rs))} (hF:∀ x,runP E fn e s r ps rs x=F x):SoundP P f ⟨e,s,r,ps,rs,F⟩ :=
 sound_of_runP hE hfn fun x y h=>(hF x).trans h
theorem sound_fnN {P:Program} {E:Env} (hE:EnvOK P E) {f:Nat} {fn:Func} (hfn:P.funcs[f]? = some fn) {e:Nat} {s r:Sh} {ps:List (PM×Sh)} {F:List s.T×AT ps→Option (RT [r])} (hF:∀ x,runN E fn e s r ps x=F x):SoundN P f ⟨e,s,r,ps,F⟩ :=
 sound_of_runN hE hfn fun x y h=>(hF x).trans h
abbrev w (n:Int):Int:=IntKind.i64.wrap n
def bs (l:List Nat):ByteArray:=⟨(l.map UInt8.ofNat).toArray⟩
theorem sound_fn {P:Program} {E:Env} (hE:EnvOK P E) {f:Nat} {fn:Func} (hfn:P.funcs[f]? = some fn) {ps:List (PM×Sh)} {rs:List Sh} {F:AT ps→Option (RT (outs ps++rs))} (hF:∀ x,runF E fn ps rs x=F x):Sound P f ⟨ps,rs,F⟩ :=
 sound_of_runF hE hfn fun x y h=>(hF x).trans h
end Go.Proofs.YtelgaemfnhnbmaaGreatDoor.X
