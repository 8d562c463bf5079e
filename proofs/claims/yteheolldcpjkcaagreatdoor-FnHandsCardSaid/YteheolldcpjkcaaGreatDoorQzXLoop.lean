/- Loops as plain recursion; a function's run with its loops left open. -/
import Derived.Test.YteheolldcpjkcaaGreatDoorQzXTab
import Derived.Test.YteheolldcpjkcaaGreatDoorQzXPtr
import Derived.KernelRfl
set_option linter.unusedSimpArgs false
set_option linter.unusedVariables false
set_option linter.unusedSectionVars false
namespace Go.Proofs.YteheolldcpjkcaaGreatDoor.X
open Go Go.RowKit
variable [CW]
def AJ {X R:Type} (body:(X→Option R)→X→Option R):Nat→X→Option R
 | 0,_=>none
 | n+1,x=>body (AJ body n) x
def ET {R:Type} (n0:Nat) (base:Fr) (L:Fr→Option R) (k:Ex→Fr→Option R):Ex→Fr→Option R:=fun e fr=>match e with
 | .normal=>L (EZ n0 base fr)
 | e=>k e fr
theorem MA {X R:Type} {f:Fr→(Ex→Fr→Option R)→Option R} {n0:Nat} {base:Fr} {k:Ex→Fr→Option R} {frame:X→Fr} {body:(X→Option R)→X→Option R}
  (h:∀ (L:Fr→Option R) x,f (frame x) (ET n0 base L k)=body (fun x=>L (frame x)) x):∀ n x,FQ f n0 base n (frame x) k=AJ body n x
 | 0,_=>rfl
 | n+1,x=>by
  have e1:FQ f n0 base (n+1) (frame x) k=f (frame x) (ET n0 base (fun fr=>FQ f n0 base n fr k) k):=by
   simp only[FQ];congr 1
  rw[e1,h];show body (fun x=>FQ f n0 base n (frame x) k) x=body (AJ body n) x;congr 1;funext x';exact MA h n x'
abbrev LR (R:Type):=Code→Fr→(Ex→Fr→Option R)→Option R
def Apg {R:Type} (g:Fr→(Ex→Fr→Option R)→Option R) (k:Ex→Fr→Option R):Ex→Fr→Option R:=fun e fr=>match e with | .normal=>g fr k | e=>k e fr
def Aeu {R:Type} (id:Nat) (k:Ex→Fr→Option R):Ex→Fr→Option R:=fun e fr=>match e with | .exit j=>bif Nat.beq j id then k .normal fr else k (.exit j) fr | e=>k e fr
def DA {R:Type} (E:Env) (n0:Nat) (lr:LR R):Code→Fr→(Ex→Fr→Option R)→Option R
 | .skip,fr,k=>k .normal fr
 | .region _ ops dr,fr,k=>bif dr then Kl E ops.toList fr (k .normal) else K3 E ops.toList ops.toList fr (k .normal)
 | .seq a b,fr,k=>DA E n0 lr a fr (Apg (DA E n0 lr b) k)
 | .cond c x y,fr,k=>match op1 fr [] c with | some (.bool b)=>bif b then DA E n0 lr x (O4 E fr c true) k else DA E n0 lr y (O4 E fr c false) k | _=>none
 | .block id b,fr,k=>DA E n0 lr b fr (Aeu id k)
 | .loop b,fr,k=>lr b (EZ n0 fr fr) k
 | .exit id,fr,k=>k (.exit id) fr
 | .ret,fr,k=>k .ret fr
 | _,_,_=>none
def Ae {R:Type} (E:Env) (n0:Nat):LR R:=fun b h k=>FQ (DE E n0 b) n0 h E.K h k
theorem Fg {R:Type} (E:Env) (n0:Nat):∀ (c:Code) (fr:Fr) (k:Ex→Fr→Option R),DE E n0 c fr k=DA E n0 (Ae E n0) c fr k
 | .skip,fr,k=>rfl
 | .region _ ops dr,fr,k=>rfl
 | .seq a b,fr,k=>by
  simp only[DE,DA];rw[← Fg E n0 a];congr 1;funext e fr';cases e
  ·exact Fg E n0 b fr' k
  ·rfl
  ·rfl
 | .cond c x y,fr,k=>by
  have h1:=Fg E n0 x (O4 E fr c true) k;have h2:=Fg E n0 y (O4 E fr c false) k;simp only[DE,DA,h1,h2];rfl
 | .block id b,fr,k=>by
  simp only[DE,DA];rw[← Fg E n0 b];congr 1
 | .loop b,fr,k=>rfl
 | .exit id,fr,k=>rfl
 | .ret,fr,k=>rfl
 | .goto _,_,_=>rfl
 | .label _,_,_=>rfl
 | .scope _,_,_=>rfl
 | .rangeFunc _ _ _ _,_,_=>rfl
 | .refuse _,_,_=>rfl
def AH:Code→List Nat→Code
 | c,[]=>c
 | .seq a b,i :: p=>(match i with | 0=>AH a p | _=>AH b p)
 | .cond _ x y,i :: p=>(match i with | 0=>AH x p | _=>AH y p)
 | .block _ b,_ :: p=>AH b p
 | .loop b,_ :: p=>AH b p
 | c,_=>c
def Au {R:Type} (E:Env) (n0:Nat) (lr:LR R):Code→List Nat→(Ex→Fr→Option R)→Ex→Fr→Option R
 | _,[],k=>k
 | .seq a b,i :: p,k=>(match i with | 0=>Au E n0 lr a p (Apg (DA E n0 lr b) k) | _=>Au E n0 lr b p k)
 | .cond _ x y,i :: p,k=>(match i with | 0=>Au E n0 lr x p k | _=>Au E n0 lr y p k)
 | .block id b,_ :: p,k=>Au E n0 lr b p (Aeu id k)
 | _,_,k=>k
def Aph (E:Env) (f:Func) (ps:List (PM×Sh)) (rs:List Sh) (x:AT ps):Ex→Fr→Option (RT (BD ps++rs)):=fun e fr=>match e with
  | .ret | .normal=>(match Ew E fr f.results.toList rs fr.rw with
   | some (y,rw)=>K5 rw ps 0 rs x y
   | none=>none)
  | .exit _=>none
def Al (f:Func):Code:=match f.body with | some c=>c | none=>.skip
def Api (E:Env) (f:Func) (ps:List (PM×Sh)) (rs:List Sh) (x:AT ps) (lr:LR (RT (BD ps++rs))):Option (RT (BD ps++rs)) :=
 bif f.body.isSome&&(Nat.ble ps.length f.ntmps&&ps.all JO) then
  DA E (Ah .io ps 0 ⟨f.ntmps,[],[],[]⟩ x).rw.length lr (Al f) (Ah .io ps 0 ⟨f.ntmps,[],[],[]⟩ x) (Aph E f ps rs x)
 else none
theorem AA {E:Env} {f:Func} {ps:List (PM×Sh)} {rs:List Sh} {x:AT ps} {n0:Nat} {y:Option (RT (BD ps++rs))} (hn:n0=(Ah .io ps 0 ⟨f.ntmps,[],[],[]⟩ x).rw.length) (h:Api E f ps rs x (Ae E n0)=y):Q4 E f ps rs x=y:=by
 subst hn;rw[← h];unfold Q4 Api Al;cases Nat.ble ps.length f.ntmps&&ps.all JO with
 | false=>simp
 | true =>
  cases hb:f.body with
  | none=>rfl
  | some c =>
   simp only[Atr,Atz,cond_true];rw[Fg];congr 1
def AkM (E:Env) (f:Func) (e:Nat) (s r:Sh) (ps:List (PM×Sh)) (rs:List Sh) (x:(List s.T×r.T)×AT ps) (lr:LR (RT (r :: rs))):Option (RT (r :: rs)) :=
 bif f.body.isSome&&(Nat.ble (ps.length+1) f.ntmps&&Ha ps&&r.flat&&s.data) then
  DA E (frP f.ntmps e s r ps x).rw.length lr (Al f) (frP f.ntmps e s r ps x) (TH E f r rs)
 else none
theorem AmP {E:Env} {f:Func} {e:Nat} {s r:Sh} {ps:List (PM×Sh)} {rs:List Sh} {x:(List s.T×r.T)×AT ps} {n0:Nat} {y:Option (RT (r :: rs))} (hn:n0=(frP f.ntmps e s r ps x).rw.length) (h:AkM E f e s r ps rs x (Ae E n0)=y):YH E f e s r ps rs x=y:=by
 subst hn;rw[← h];unfold YH AkM Al;cases Nat.ble (ps.length+1) f.ntmps&&Ha ps&&r.flat&&s.data with
 | false=>simp
 | true =>
  cases hb:f.body with
  | none=>rfl
  | some c =>
   simp only[Atr,Atz,cond_true];rw[Fg]
def AkN (E:Env) (f:Func) (e:Nat) (s r:Sh) (ps:List (PM×Sh)) (x:List s.T×AT ps) (lr:LR (RT [r])):Option (RT [r]) :=
 bif f.body.isSome&&(Nat.ble (ps.length+1) f.ntmps&&Ha ps&&r.flat&&s.data) then
  DA E (frN f.ntmps e s ps x).rw.length lr (Al f) (frN f.ntmps e s ps x) (AkU f r)
 else none
theorem AmQ {E:Env} {f:Func} {e:Nat} {s r:Sh} {ps:List (PM×Sh)} {x:List s.T×AT ps} {n0:Nat} {y:Option (RT [r])} (hn:n0=(frN f.ntmps e s ps x).rw.length) (h:AkN E f e s r ps x (Ae E n0)=y):YI E f e s r ps x=y:=by
 subst hn;rw[← h];unfold YI AkN Al;cases Nat.ble (ps.length+1) f.ntmps&&Ha ps&&r.flat&&s.data with
 | false=>simp
 | true =>
  cases hb:f.body with
  | none=>rfl
  | some c =>
   simp only[Atr,Atz,cond_true];rw[Fg]
def Aqs (E:Env) (f:Func) (c:Sh) (ps:List (PM×Sh)) (rs:List Sh) (x:c.T×AT ps) (lr:LR (RT (c :: rs))):Option (RT (c :: rs)) :=
 bif f.body.isSome&&(Nat.ble (ps.length+1) f.ntmps&&Ha ps&&(c.data&&c.agg)) then
  DA E (frQ f.ntmps c ps x).rw.length lr (Al f) (frQ f.ntmps c ps x) (Am0 E f c rs)
 else none
def Aqt (E:Env) (f:Func) (c:Sh) (ps:List (PM×Sh)) (rs:List Sh) (x:AT ps) (lr:LR (Option c.T×RT rs)):Option (Option c.T×RT rs) :=
 bif f.body.isSome&&(Nat.ble ps.length f.ntmps&&Ha ps&&(c.data&&c.agg)) then
  DA E (Ah .own ps 0 ⟨f.ntmps,[],[],[]⟩ x).rw.length lr (Al f) (Ah .own ps 0 ⟨f.ntmps,[],[],[]⟩ x) (Am1 E f c rs)
 else none
def Aqu (E:Env) (f:Func) (c:Sh) (ps:List (PM×Sh)) (rs:List Sh) (x:AT ps) (lr:LR (Option c.T×RT rs)):Option (Option c.T×RT rs) :=
 bif f.body.isSome&&(Nat.ble ps.length f.ntmps&&Ha ps&&(c.data&&c.agg)) then
  DA E (Ah .own ps 0 ⟨f.ntmps,[],[],[]⟩ x).rw.length lr (Al f) (Ah .own ps 0 ⟨f.ntmps,[],[],[]⟩ x) (Am2 E f c rs)
 else none
theorem CT {P:Program} {E:Env} (hE:AE P E) {f:Nat} {fn:Func} (hfn:P.funcs[f]? = some fn) {e:Nat} {s r:Sh} {ps:List (PM×Sh)} {rs:List Sh} {F:(List s.T×r.T)×AT ps→Option (RT (r :: rs))} (hF:∀ x,YH E fn e s r ps rs x=F x):CQ P f ⟨e,s,r,ps,rs,F⟩ :=
 Nc hE hfn fun x y h=>(hF x).trans h
theorem Z2 {P:Program} {E:Env} (hE:AE P E) {f:Nat} {fn:Func} (hfn:P.funcs[f]? = some fn) {e:Nat} {s r:Sh} {ps:List (PM×Sh)} {F:List s.T×AT ps→Option (RT [r])} (hF:∀ x,YI E fn e s r ps x=F x):Gw P f ⟨e,s,r,ps,F⟩ :=
 Nd hE hfn fun x y h=>(hF x).trans h
abbrev w (n:Int):Int:=IntKind.i64.wrap n
def bs (l:List Nat):ByteArray:=⟨(l.map UInt8.ofNat).toArray⟩
theorem EU {P:Program} {E:Env} (hE:AE P E) {f:Nat} {fn:Func} (hfn:P.funcs[f]? = some fn) {ps:List (PM×Sh)} {rs:List Sh} {F:AT ps→Option (RT (BD ps++rs))} (hF:∀ x,Q4 E fn ps rs x=F x):Ck P f ⟨ps,rs,F⟩ :=
 Nb hE hfn fun x y h=>(hF x).trans h
end Go.Proofs.YteheolldcpjkcaaGreatDoor.X
