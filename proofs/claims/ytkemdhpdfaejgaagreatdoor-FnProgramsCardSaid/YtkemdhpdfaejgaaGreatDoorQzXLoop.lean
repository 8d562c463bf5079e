/- Loops as plain recursion; a function's run with its loops left open. -/
import Derived.Test.YtkemdhpdfaejgaaGreatDoorQzXTab
import Derived.Test.YtkemdhpdfaejgaaGreatDoorQzXPtr
import Derived.KernelRfl
set_option linter.unusedSimpArgs false
set_option linter.unusedVariables false
set_option linter.unusedSectionVars false
namespace Go.Proofs.YtkemdhpdfaejgaaGreatDoor.X
open Go Go.RowKit
variable [CW]
def Ax {X R:Type} (body:(X→Option R)→X→Option R):Nat→X→Option R
 | 0,_=>none
 | n+1,x=>body (Ax body n) x
def D3 {R:Type} (n0:Nat) (base:Fr) (L:Fr→Option R) (k:Ex→Fr→Option R):Ex→Fr→Option R:=fun e fr=>match e with
 | .normal=>L (Gg n0 base fr)
 | e=>k e fr
theorem PO {X R:Type} {f:Fr→(Ex→Fr→Option R)→Option R} {n0:Nat} {base:Fr} {k:Ex→Fr→Option R} {frame:X→Fr} {body:(X→Option R)→X→Option R}
  (h:∀ (L:Fr→Option R) x,f (frame x) (D3 n0 base L k)=body (fun x=>L (frame x)) x):∀ n x,Hj f n0 base n (frame x) k=Ax body n x
 | 0,_=>rfl
 | n+1,x=>by
  have e1:Hj f n0 base (n+1) (frame x) k=f (frame x) (D3 n0 base (fun fr=>Hj f n0 base n fr k) k):=by
   simp only[Hj];congr 1
  rw[e1,h];show body (fun x=>Hj f n0 base n (frame x) k) x=body (Ax body n) x;congr 1;funext x';exact PO h n x'
abbrev LR (R:Type):=Code→Fr→(Ex→Fr→Option R)→Option R
def Azu {R:Type} (g:Fr→(Ex→Fr→Option R)→Option R) (k:Ex→Fr→Option R):Ex→Fr→Option R:=fun e fr=>match e with | .normal=>g fr k | e=>k e fr
def AmL {R:Type} (id:Nat) (k:Ex→Fr→Option R):Ex→Fr→Option R:=fun e fr=>match e with | .exit j=>bif Nat.beq j id then k .normal fr else k (.exit j) fr | e=>k e fr
def D4 {R:Type} (E:Env) (n0:Nat) (lr:LR R):Code→Fr→(Ex→Fr→Option R)→Option R
 | .skip,fr,k=>k .normal fr
 | .region _ ops dr,fr,k=>bif dr then ME E ops.toList fr (k .normal) else NN E ops.toList ops.toList fr (k .normal)
 | .seq a b,fr,k=>D4 E n0 lr a fr (Azu (D4 E n0 lr b) k)
 | .cond c x y,fr,k=>match op1 fr [] c with | some (.bool b)=>bif b then D4 E n0 lr x (SS E fr c true) k else D4 E n0 lr y (SS E fr c false) k | _=>none
 | .block id b,fr,k=>D4 E n0 lr b fr (AmL id k)
 | .loop b,fr,k=>lr b (Gg n0 fr fr) k
 | .exit id,fr,k=>k (.exit id) fr
 | .ret,fr,k=>k .ret fr
 | _,_,_=>none
def Ac {R:Type} (E:Env) (n0:Nat):LR R:=fun b h k=>Hj (D9 E n0 b) n0 h E.K h k
theorem EQ {R:Type} (E:Env) (n0:Nat):∀ (c:Code) (fr:Fr) (k:Ex→Fr→Option R),D9 E n0 c fr k=D4 E n0 (Ac E n0) c fr k
 | .skip,fr,k=>rfl
 | .region _ ops dr,fr,k=>rfl
 | .seq a b,fr,k=>by
  simp only[D9,D4];rw[← EQ E n0 a];congr 1;funext e fr';cases e
  ·exact EQ E n0 b fr' k
  ·rfl
  ·rfl
 | .cond c x y,fr,k=>by
  have h1:=EQ E n0 x (SS E fr c true) k;have h2:=EQ E n0 y (SS E fr c false) k;simp only[D9,D4,h1,h2];rfl
 | .block id b,fr,k=>by
  simp only[D9,D4];rw[← EQ E n0 b];congr 1
 | .loop b,fr,k=>rfl
 | .exit id,fr,k=>rfl
 | .ret,fr,k=>rfl
 | .goto _,_,_=>rfl
 | .label _,_,_=>rfl
 | .scope _,_,_=>rfl
 | .rangeFunc _ _ _ _,_,_=>rfl
 | .refuse _,_,_=>rfl
def AB:Code→List Nat→Code
 | c,[]=>c
 | .seq a b,i :: p=>(match i with | 0=>AB a p | _=>AB b p)
 | .cond _ x y,i :: p=>(match i with | 0=>AB x p | _=>AB y p)
 | .block _ b,_ :: p=>AB b p
 | .loop b,_ :: p=>AB b p
 | c,_=>c
def Ak {R:Type} (E:Env) (n0:Nat) (lr:LR R):Code→List Nat→(Ex→Fr→Option R)→Ex→Fr→Option R
 | _,[],k=>k
 | .seq a b,i :: p,k=>(match i with | 0=>Ak E n0 lr a p (Azu (D4 E n0 lr b) k) | _=>Ak E n0 lr b p k)
 | .cond _ x y,i :: p,k=>(match i with | 0=>Ak E n0 lr x p k | _=>Ak E n0 lr y p k)
 | .block id b,_ :: p,k=>Ak E n0 lr b p (AmL id k)
 | _,_,k=>k
def Azv (E:Env) (f:Func) (ps:List (PM×Sh)) (rs:List Sh) (x:AT ps):Ex→Fr→Option (RT (BO ps++rs)):=fun e fr=>match e with
  | .ret | .normal=>(match FA E fr f.results.toList rs fr.rw with
   | some (y,rw)=>NP rw ps 0 rs x y
   | none=>none)
  | .exit _=>none
def Aj (f:Func):Code:=match f.body with | some c=>c | none=>.skip
def Azw (E:Env) (f:Func) (ps:List (PM×Sh)) (rs:List Sh) (x:AT ps) (lr:LR (RT (BO ps++rs))):Option (RT (BO ps++rs)) :=
 bif f.body.isSome&&(Nat.ble ps.length f.ntmps&&ps.all LS) then
  D4 E (Ag .io ps 0 ⟨f.ntmps,[],[],[]⟩ x).rw.length lr (Aj f) (Ag .io ps 0 ⟨f.ntmps,[],[],[]⟩ x) (Azv E f ps rs x)
 else none
theorem Az {E:Env} {f:Func} {ps:List (PM×Sh)} {rs:List Sh} {x:AT ps} {n0:Nat} {y:Option (RT (BO ps++rs))} (hn:n0=(Ag .io ps 0 ⟨f.ntmps,[],[],[]⟩ x).rw.length) (h:Azw E f ps rs x (Ac E n0)=y):ST E f ps rs x=y:=by
 subst hn;rw[← h];unfold ST Azw Aj;cases Nat.ble ps.length f.ntmps&&ps.all LS with
 | false=>simp
 | true =>
  cases hb:f.body with
  | none=>rfl
  | some c =>
   simp only[ACv,ADm,cond_true];rw[EQ];congr 1
def At0 (E:Env) (f:Func) (e:Nat) (s r:Sh) (ps:List (PM×Sh)) (rs:List Sh) (x:(List s.T×r.T)×AT ps) (lr:LR (RT (r :: rs))):Option (RT (r :: rs)) :=
 bif f.body.isSome&&(Nat.ble (ps.length+1) f.ntmps&&Fo ps&&r.flat&&s.data) then
  D4 E (frP f.ntmps e s r ps x).rw.length lr (Aj f) (frP f.ntmps e s r ps x) (Jd E f r rs)
 else none
theorem AmM {E:Env} {f:Func} {e:Nat} {s r:Sh} {ps:List (PM×Sh)} {rs:List Sh} {x:(List s.T×r.T)×AT ps} {n0:Nat} {y:Option (RT (r :: rs))} (hn:n0=(frP f.ntmps e s r ps x).rw.length) (h:At0 E f e s r ps rs x (Ac E n0)=y):YI E f e s r ps rs x=y:=by
 subst hn;rw[← h];unfold YI At0 Aj;cases Nat.ble (ps.length+1) f.ntmps&&Fo ps&&r.flat&&s.data with
 | false=>simp
 | true =>
  cases hb:f.body with
  | none=>rfl
  | some c =>
   simp only[ACv,ADm,cond_true];rw[EQ]
def At1 (E:Env) (f:Func) (e:Nat) (s r:Sh) (ps:List (PM×Sh)) (x:List s.T×AT ps) (lr:LR (RT [r])):Option (RT [r]) :=
 bif f.body.isSome&&(Nat.ble (ps.length+1) f.ntmps&&Fo ps&&r.flat&&s.data) then
  D4 E (frN f.ntmps e s ps x).rw.length lr (Aj f) (frN f.ntmps e s ps x) (Aua f r)
 else none
theorem AwR {E:Env} {f:Func} {e:Nat} {s r:Sh} {ps:List (PM×Sh)} {x:List s.T×AT ps} {n0:Nat} {y:Option (RT [r])} (hn:n0=(frN f.ntmps e s ps x).rw.length) (h:At1 E f e s r ps x (Ac E n0)=y):Ae5 E f e s r ps x=y:=by
 subst hn;rw[← h];unfold Ae5 At1 Aj;cases Nat.ble (ps.length+1) f.ntmps&&Fo ps&&r.flat&&s.data with
 | false=>simp
 | true =>
  cases hb:f.body with
  | none=>rfl
  | some c =>
   simp only[ACv,ADm,cond_true];rw[EQ]
def AAT (E:Env) (f:Func) (c:Sh) (ps:List (PM×Sh)) (rs:List Sh) (x:c.T×AT ps) (lr:LR (RT (c :: rs))):Option (RT (c :: rs)) :=
 bif f.body.isSome&&(Nat.ble (ps.length+1) f.ntmps&&Fo ps&&(c.data&&c.agg)) then
  D4 E (frQ f.ntmps c ps x).rw.length lr (Aj f) (frQ f.ntmps c ps x) (Ani E f c rs)
 else none
def At2 (E:Env) (f:Func) (c:Sh) (ps:List (PM×Sh)) (rs:List Sh) (x:AT ps) (lr:LR (Option c.T×RT rs)):Option (Option c.T×RT rs) :=
 bif f.body.isSome&&(Nat.ble ps.length f.ntmps&&Fo ps&&(c.data&&c.agg)) then
  D4 E (Ag .own ps 0 ⟨f.ntmps,[],[],[]⟩ x).rw.length lr (Aj f) (Ag .own ps 0 ⟨f.ntmps,[],[],[]⟩ x) (Ahm E f c rs)
 else none
theorem AwS {E:Env} {f:Func} {c:Sh} {ps:List (PM×Sh)} {rs:List Sh} {x:AT ps} {n0:Nat} {y:Option (Option c.T×RT rs)} (hn:n0=(Ag .own ps 0 ⟨f.ntmps,[],[],[]⟩ x).rw.length) (h:At2 E f c ps rs x (Ac E n0)=y):Ae6 E f c ps rs x=y:=by
 subst hn;rw[← h];unfold Ae6 At2 Aj;cases Nat.ble ps.length f.ntmps&&Fo ps&&(c.data&&c.agg) with
 | false=>simp
 | true =>
  cases hb:f.body with
  | none=>rfl
  | some c =>
   simp only[ACv,ADm,cond_true];rw[EQ]
def At3 (E:Env) (f:Func) (c:Sh) (ps:List (PM×Sh)) (rs:List Sh) (x:AT ps) (lr:LR (Option c.T×RT rs)):Option (Option c.T×RT rs) :=
 bif f.body.isSome&&(Nat.ble ps.length f.ntmps&&Fo ps&&(c.data&&c.agg)) then
  D4 E (Ag .own ps 0 ⟨f.ntmps,[],[],[]⟩ x).rw.length lr (Aj f) (Ag .own ps 0 ⟨f.ntmps,[],[],[]⟩ x) (Ahn E f c rs)
 else none
theorem AwT {E:Env} {f:Func} {c:Sh} {ps:List (PM×Sh)} {rs:List Sh} {x:AT ps} {n0:Nat} {y:Option (Option c.T×RT rs)} (hn:n0=(Ag .own ps 0 ⟨f.ntmps,[],[],[]⟩ x).rw.length) (h:At3 E f c ps rs x (Ac E n0)=y):Ae7 E f c ps rs x=y:=by
 subst hn;rw[← h];unfold Ae7 At3 Aj;cases Nat.ble ps.length f.ntmps&&Fo ps&&(c.data&&c.agg) with
 | false=>simp
 | true =>
  cases hb:f.body with
  | none=>rfl
  | some c =>
   simp only[ACv,ADm,cond_true];rw[EQ]
theorem LH {P:Program} {E:Env} (hE:AF P E) {f:Nat} {fn:Func} (hfn:P.funcs[f]? = some fn) {c:Sh} {ps:List (PM×Sh)} {rs:List Sh} {F:c.T×AT ps→Option (RT (c :: rs))} (hF:∀ x,Aub E fn c ps rs x=F x):Fv P f ⟨c,ps,rs,F⟩ :=
 Qr hE hfn fun x y h=>(hF x).trans h
theorem AgL {P:Program} {E:Env} (hE:AF P E) {f:Nat} {fn:Func} (hfn:P.funcs[f]? = some fn) {c:Sh} {ps:List (PM×Sh)} {rs:List Sh} {F:AT ps→Option (Option c.T×RT rs)} (hF:∀ x,Ae6 E fn c ps rs x=F x):HS P f ⟨c,ps,rs,F⟩ :=
 Qs hE hfn fun x y h=>(hF x).trans h
theorem AgM {P:Program} {E:Env} (hE:AF P E) {f:Nat} {fn:Func} (hfn:P.funcs[f]? = some fn) {c:Sh} {ps:List (PM×Sh)} {rs:List Sh} {F:AT ps→Option (Option c.T×RT rs)} (hF:∀ x,Ae7 E fn c ps rs x=F x):HT P f ⟨c,ps,rs,F⟩ :=
 Qt hE hfn fun x y h=>(hF x).trans h
theorem CD {P:Program} {E:Env} (hE:AF P E) {f:Nat} {fn:Func} (hfn:P.funcs[f]? = some fn) {e:Nat} {s r:Sh} {ps:List (PM×Sh)} {rs:List Sh} {F:(List s.T×r.T)×AT ps→Option (RT (r :: rs))} (hF:∀ x,YI E fn e s r ps rs x=F x):B7 P f ⟨e,s,r,ps,rs,F⟩ :=
 Qv hE hfn fun x y h=>(hF x).trans h
theorem AgN {P:Program} {E:Env} (hE:AF P E) {f:Nat} {fn:Func} (hfn:P.funcs[f]? = some fn) {e:Nat} {s r:Sh} {ps:List (PM×Sh)} {F:List s.T×AT ps→Option (RT [r])} (hF:∀ x,Ae5 E fn e s r ps x=F x):EO P f ⟨e,s,r,ps,F⟩ :=
 Qw hE hfn fun x y h=>(hF x).trans h
abbrev w (n:Int):Int:=IntKind.i64.wrap n
def bs (l:List Nat):ByteArray:=⟨(l.map UInt8.ofNat).toArray⟩
theorem BC {P:Program} {E:Env} (hE:AF P E) {f:Nat} {fn:Func} (hfn:P.funcs[f]? = some fn) {ps:List (PM×Sh)} {rs:List Sh} {F:AT ps→Option (RT (BO ps++rs))} (hF:∀ x,ST E fn ps rs x=F x):Al P f ⟨ps,rs,F⟩ :=
 Qu hE hfn fun x y h=>(hF x).trans h
end Go.Proofs.YtkemdhpdfaejgaaGreatDoor.X
