/- Loops as plain recursion; a function's run with its loops left open. -/
import Derived.Test.YteheolldcpjkcaaGreatQvXTab
import Derived.Test.YteheolldcpjkcaaGreatQvXPtr
import Derived.KernelRfl
set_option linter.unusedSimpArgs false
set_option linter.unusedVariables false
set_option linter.unusedSectionVars false
namespace Go.Proofs.YteheolldcpjkcaaGreat.X
open Go Go.RowKit
variable [CW]
def AH {X R:Type} (body:(X→Option R)→X→Option R):Nat→X→Option R
 | 0,_=>none
 | n+1,x=>body (AH body n) x
def Da {R:Type} (n0:Nat) (base:Fr) (L:Fr→Option R) (k:Ex→Fr→Option R):Ex→Fr→Option R:=fun e fr=>match e with
 | .normal=>L (E6 n0 base fr)
 | e=>k e fr
theorem Nj {X R:Type} {f:Fr→(Ex→Fr→Option R)→Option R} {n0:Nat} {base:Fr} {k:Ex→Fr→Option R} {frame:X→Fr} {body:(X→Option R)→X→Option R}
  (h:∀ (L:Fr→Option R) x,f (frame x) (Da n0 base L k)=body (fun x=>L (frame x)) x):∀ n x,F4 f n0 base n (frame x) k=AH body n x
 | 0,_=>rfl
 | n+1,x=>by
  have e1:F4 f n0 base (n+1) (frame x) k=f (frame x) (Da n0 base (fun fr=>F4 f n0 base n fr k) k):=by
   simp only[F4];congr 1
  rw[e1,h];show body (fun x=>F4 f n0 base n (frame x) k) x=body (AH body n) x;congr 1;funext x';exact Nj h n x'
abbrev LR (R:Type):=Code→Fr→(Ex→Fr→Option R)→Option R
def Ape {R:Type} (g:Fr→(Ex→Fr→Option R)→Option R) (k:Ex→Fr→Option R):Ex→Fr→Option R:=fun e fr=>match e with | .normal=>g fr k | e=>k e fr
def AfI {R:Type} (id:Nat) (k:Ex→Fr→Option R):Ex→Fr→Option R:=fun e fr=>match e with | .exit j=>bif Nat.beq j id then k .normal fr else k (.exit j) fr | e=>k e fr
def Dz {R:Type} (E:Env) (n0:Nat) (lr:LR R):Code→Fr→(Ex→Fr→Option R)→Option R
 | .skip,fr,k=>k .normal fr
 | .region _ ops dr,fr,k=>bif dr then KN E ops.toList fr (k .normal) else LO E ops.toList ops.toList fr (k .normal)
 | .seq a b,fr,k=>Dz E n0 lr a fr (Ape (Dz E n0 lr b) k)
 | .cond c x y,fr,k=>match op1 fr [] c with | some (.bool b)=>bif b then Dz E n0 lr x (PV E fr c true) k else Dz E n0 lr y (PV E fr c false) k | _=>none
 | .block id b,fr,k=>Dz E n0 lr b fr (AfI id k)
 | .loop b,fr,k=>lr b (E6 n0 fr fr) k
 | .exit id,fr,k=>k (.exit id) fr
 | .ret,fr,k=>k .ret fr
 | _,_,_=>none
def Ad {R:Type} (E:Env) (n0:Nat):LR R:=fun b h k=>F4 (DD E n0 b) n0 h E.K h k
theorem Fv {R:Type} (E:Env) (n0:Nat):∀ (c:Code) (fr:Fr) (k:Ex→Fr→Option R),DD E n0 c fr k=Dz E n0 (Ad E n0) c fr k
 | .skip,fr,k=>rfl
 | .region _ ops dr,fr,k=>rfl
 | .seq a b,fr,k=>by
  simp only[DD,Dz];rw[← Fv E n0 a];congr 1;funext e fr';cases e
  ·exact Fv E n0 b fr' k
  ·rfl
  ·rfl
 | .cond c x y,fr,k=>by
  have h1:=Fv E n0 x (PV E fr c true) k;have h2:=Fv E n0 y (PV E fr c false) k;simp only[DD,Dz,h1,h2];rfl
 | .block id b,fr,k=>by
  simp only[DD,Dz];rw[← Fv E n0 b];congr 1
 | .loop b,fr,k=>rfl
 | .exit id,fr,k=>rfl
 | .ret,fr,k=>rfl
 | .goto _,_,_=>rfl
 | .label _,_,_=>rfl
 | .scope _,_,_=>rfl
 | .rangeFunc _ _ _ _,_,_=>rfl
 | .refuse _,_,_=>rfl
def AF:Code→List Nat→Code
 | c,[]=>c
 | .seq a b,i :: p=>(match i with | 0=>AF a p | _=>AF b p)
 | .cond _ x y,i :: p=>(match i with | 0=>AF x p | _=>AF y p)
 | .block _ b,_ :: p=>AF b p
 | .loop b,_ :: p=>AF b p
 | c,_=>c
def Aw {R:Type} (E:Env) (n0:Nat) (lr:LR R):Code→List Nat→(Ex→Fr→Option R)→Ex→Fr→Option R
 | _,[],k=>k
 | .seq a b,i :: p,k=>(match i with | 0=>Aw E n0 lr a p (Ape (Dz E n0 lr b) k) | _=>Aw E n0 lr b p k)
 | .cond _ x y,i :: p,k=>(match i with | 0=>Aw E n0 lr x p k | _=>Aw E n0 lr y p k)
 | .block id b,_ :: p,k=>Aw E n0 lr b p (AfI id k)
 | _,_,k=>k
def Apf (E:Env) (f:Func) (ps:List (PM×Sh)) (rs:List Sh) (x:AT ps):Ex→Fr→Option (RT (BG ps++rs)):=fun e fr=>match e with
  | .ret | .normal=>(match EE E fr f.results.toList rs fr.rw with
   | some (y,rw)=>LQ rw ps 0 rs x y
   | none=>none)
  | .exit _=>none
def Ar (f:Func):Code:=match f.body with | some c=>c | none=>.skip
def Apg (E:Env) (f:Func) (ps:List (PM×Sh)) (rs:List Sh) (x:AT ps) (lr:LR (RT (BG ps++rs))):Option (RT (BG ps++rs)) :=
 bif f.body.isSome&&(Nat.ble ps.length f.ntmps&&ps.all J9) then
  Dz E (Af .io ps 0 ⟨f.ntmps,[],[],[]⟩ x).rw.length lr (Ar f) (Af .io ps 0 ⟨f.ntmps,[],[],[]⟩ x) (Apf E f ps rs x)
 else none
theorem AJ {E:Env} {f:Func} {ps:List (PM×Sh)} {rs:List Sh} {x:AT ps} {n0:Nat} {y:Option (RT (BG ps++rs))} (hn:n0=(Af .io ps 0 ⟨f.ntmps,[],[],[]⟩ x).rw.length) (h:Apg E f ps rs x (Ad E n0)=y):RE E f ps rs x=y:=by
 subst hn;rw[← h];unfold RE Apg Ar;cases Nat.ble ps.length f.ntmps&&ps.all J9 with
 | false=>simp
 | true =>
  cases hb:f.body with
  | none=>rfl
  | some c =>
   simp only[Ar2,As5,cond_true];rw[Fv];congr 1
def AlB (E:Env) (f:Func) (e:Nat) (s r:Sh) (ps:List (PM×Sh)) (rs:List Sh) (x:(List s.T×r.T)×AT ps) (lr:LR (RT (r :: rs))):Option (RT (r :: rs)) :=
 bif f.body.isSome&&(Nat.ble (ps.length+1) f.ntmps&&Hr ps&&r.flat&&s.data) then
  Dz E (frP f.ntmps e s r ps x).rw.length lr (Ar f) (frP f.ntmps e s r ps x) (LS E f r rs)
 else none
theorem Nk {E:Env} {f:Func} {e:Nat} {s r:Sh} {ps:List (PM×Sh)} {rs:List Sh} {x:(List s.T×r.T)×AT ps} {n0:Nat} {y:Option (RT (r :: rs))} (hn:n0=(frP f.ntmps e s r ps x).rw.length) (h:AlB E f e s r ps rs x (Ad E n0)=y):NH E f e s r ps rs x=y:=by
 subst hn;rw[← h];unfold NH AlB Ar;cases Nat.ble (ps.length+1) f.ntmps&&Hr ps&&r.flat&&s.data with
 | false=>simp
 | true =>
  cases hb:f.body with
  | none=>rfl
  | some c =>
   simp only[Ar2,As5,cond_true];rw[Fv]
def AlC (E:Env) (f:Func) (e:Nat) (s r:Sh) (ps:List (PM×Sh)) (x:List s.T×AT ps) (lr:LR (RT [r])):Option (RT [r]) :=
 bif f.body.isSome&&(Nat.ble (ps.length+1) f.ntmps&&Hr ps&&r.flat&&s.data) then
  Dz E (frN f.ntmps e s ps x).rw.length lr (Ar f) (frN f.ntmps e s ps x) (AlI f r)
 else none
theorem And {E:Env} {f:Func} {e:Nat} {s r:Sh} {ps:List (PM×Sh)} {x:List s.T×AT ps} {n0:Nat} {y:Option (RT [r])} (hn:n0=(frN f.ntmps e s ps x).rw.length) (h:AlC E f e s r ps x (Ad E n0)=y):ZZ E f e s r ps x=y:=by
 subst hn;rw[← h];unfold ZZ AlC Ar;cases Nat.ble (ps.length+1) f.ntmps&&Hr ps&&r.flat&&s.data with
 | false=>simp
 | true =>
  cases hb:f.body with
  | none=>rfl
  | some c =>
   simp only[Ar2,As5,cond_true];rw[Fv]
def Aqa (E:Env) (f:Func) (c:Sh) (ps:List (PM×Sh)) (rs:List Sh) (x:c.T×AT ps) (lr:LR (RT (c :: rs))):Option (RT (c :: rs)) :=
 bif f.body.isSome&&(Nat.ble (ps.length+1) f.ntmps&&Hr ps&&(c.data&&c.agg)) then
  Dz E (frQ f.ntmps c ps x).rw.length lr (Ar f) (frQ f.ntmps c ps x) (Anm E f c rs)
 else none
def Aqb (E:Env) (f:Func) (c:Sh) (ps:List (PM×Sh)) (rs:List Sh) (x:AT ps) (lr:LR (Option c.T×RT rs)):Option (Option c.T×RT rs) :=
 bif f.body.isSome&&(Nat.ble ps.length f.ntmps&&Hr ps&&(c.data&&c.agg)) then
  Dz E (Af .own ps 0 ⟨f.ntmps,[],[],[]⟩ x).rw.length lr (Ar f) (Af .own ps 0 ⟨f.ntmps,[],[],[]⟩ x) (Ann E f c rs)
 else none
def Aqc (E:Env) (f:Func) (c:Sh) (ps:List (PM×Sh)) (rs:List Sh) (x:AT ps) (lr:LR (Option c.T×RT rs)):Option (Option c.T×RT rs) :=
 bif f.body.isSome&&(Nat.ble ps.length f.ntmps&&Hr ps&&(c.data&&c.agg)) then
  Dz E (Af .own ps 0 ⟨f.ntmps,[],[],[]⟩ x).rw.length lr (Ar f) (Af .own ps 0 ⟨f.ntmps,[],[],[]⟩ x) (Ano E f c rs)
 else none
theorem Bj {P:Program} {E:Env} (hE:AG P E) {f:Nat} {fn:Func} (hfn:P.funcs[f]? = some fn) {e:Nat} {s r:Sh} {ps:List (PM×Sh)} {rs:List Sh} {F:(List s.T×r.T)×AT ps→Option (RT (r :: rs))} (hF:∀ x,NH E fn e s r ps rs x=F x):BU P f ⟨e,s,r,ps,rs,F⟩ :=
 NS hE hfn fun x y h=>(hF x).trans h
theorem Abc {P:Program} {E:Env} (hE:AG P E) {f:Nat} {fn:Func} (hfn:P.funcs[f]? = some fn) {e:Nat} {s r:Sh} {ps:List (PM×Sh)} {F:List s.T×AT ps→Option (RT [r])} (hF:∀ x,ZZ E fn e s r ps x=F x):GN P f ⟨e,s,r,ps,F⟩ :=
 NT hE hfn fun x y h=>(hF x).trans h
abbrev w (n:Int):Int:=IntKind.i64.wrap n
def bs (l:List Nat):ByteArray:=⟨(l.map UInt8.ofNat).toArray⟩
theorem CA {P:Program} {E:Env} (hE:AG P E) {f:Nat} {fn:Func} (hfn:P.funcs[f]? = some fn) {ps:List (PM×Sh)} {rs:List Sh} {F:AT ps→Option (RT (BG ps++rs))} (hF:∀ x,RE E fn ps rs x=F x):Br P f ⟨ps,rs,F⟩ :=
 NR hE hfn fun x y h=>(hF x).trans h
end Go.Proofs.YteheolldcpjkcaaGreat.X
