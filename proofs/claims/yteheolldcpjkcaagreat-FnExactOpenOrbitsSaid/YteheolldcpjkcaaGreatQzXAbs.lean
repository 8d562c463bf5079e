/- The abstract interpreter: Go code of the model, run on typed values (slices as lists in a table of rows, variables in memory as lists of leaves). Definitions only. -/
import Derived.WalkKit
import Derived.Laws.BytesArg
set_option linter.unusedSimpArgs false
set_option linter.unusedVariables false
namespace Go.Proofs.YteheolldcpjkcaaGreat.X
open Go
abbrev AiG:=@Bool.and_eq_true
abbrev AiH:=@Nat.eq_of_beq_eq_true
abbrev AiI:=@List.getElem?_eq_getElem
abbrev AiJ:=@Result.andThen_ok
abbrev AiK:=@Nat.le_refl
abbrev AiL:=@List.all_eq_true
abbrev AiM:=@List.length_append
abbrev AiN:=@Sem.run_bind
abbrev AiO:=@Array.toArray_toList
abbrev AiP:=@List.getElem?_map
abbrev AiQ:=@List.getElem?_append_right
abbrev AiR:=@List.drop_zero
abbrev AiS:=@List.mem_cons
abbrev AiT:=@List.append_assoc
abbrev AiU:=@List.getElem?_eq_some_iff
abbrev AiV:=@Option.map_eq_some_iff
abbrev AiW:=@List.getElem?_eq_none
abbrev AiX:=@Nat.le_trans
abbrev AiY:=@List.flatten_cons
abbrev AiZ:=@List.getD_eq_getElem?_getD
abbrev Ai0:=@List.mem_of_getElem?
abbrev Ai1:=@List.length_map
abbrev Ai2:=@List.take_of_length_le
abbrev Ai3:=@List.nil_append
abbrev Ai4:=@Sem.run_pure
abbrev Ai5:=@Bool.true_and
abbrev Ai6:=@List.getElem?_take
abbrev Ai7:=@List.getElem?_append_left
abbrev Ai8:=@Option.map_some
abbrev Ai9:=@List.mem_map
abbrev Aja:=@Nat.lt_of_lt_of_le
abbrev Ajb:=@Array.getElem?_eq_some_iff
abbrev Ajc:=@List.length_cons
abbrev Ajd:=@List.length_set
abbrev Aje:=@Array.getD_eq_getD_getElem?
abbrev Ajf:=@List.pairwise_cons
abbrev Ajg:=@List.mem_append
abbrev Ajh:=@List.drop_eq_nil_of_le
abbrev Aji:=@Nat.mul_le_mul_right
abbrev Ajj:=@Nat.zero_add
abbrev Ajk:=@Option.some.injEq
abbrev Ajl:=@Option.bind_eq_some_iff
abbrev Ajm:=@List.getElem?_drop
abbrev Ajn:=@Nat.not_lt
abbrev Ajo:=@List.getElem?_cons_zero
abbrev Ajp:=@List.mem_singleton
abbrev Ajq:=@List.take_append_of_le_length
abbrev Ajr:=@Nat.succ_mul
abbrev Ajs:=@Nat.eq_zero_or_pos
abbrev Ajt:=@List.foldl_cons
abbrev Aju:=@List.append_nil
abbrev Ajv:=@List.length_take
abbrev Ajw:=@List.map_cons
abbrev Ajx:=@Nat.zero_le
abbrev Ajy:=@Int.mul_le_mul_of_nonneg_right
abbrev Ajz:=@List.drop_append
abbrev AjA:=@Nat.lt_or_ge
abbrev AjB:=@Array.getElem?_eq_getElem
abbrev AjC:=@List.eq_nil_of_length_eq_zero
abbrev AjD:=@List.contains_iff_mem
abbrev AjE:=@Array.getElem?_toList
abbrev AjF:=@Nat.add_zero
abbrev AjG:=@Option.bind_some
abbrev AjH:=@Int.emod_eq_of_lt
abbrev AjI:=@List.getElem?_set_self
abbrev AjJ:=@List.ext_getElem?
abbrev AjK:=@List.mem_filter
abbrev AjL:=@List.length_replicate
abbrev AjM:=@Int.emod_lt_of_pos
abbrev AjN:=@Option.getD_some
abbrev AjO:=@List.all_cons
abbrev AjP:=@Int.mul_comm
abbrev AjQ:=@Bool.false_or
abbrev AjR:=@Int.mul_le_mul_of_nonneg_left
abbrev AjS:=@List.drop_drop
abbrev AjT:=@List.mem_cons_of_mem
abbrev AjU:=@Bool.not_eq_true'
abbrev AjV:=@Nat.ble_eq
abbrev AjW:=@List.length_nil
abbrev AjX:=@List.getElem_of_mem
abbrev AjY:=@Array.length_toList
abbrev AjZ:=@List.mem_flatMap
abbrev Aj0:=@List.take_length
abbrev Aj1:=@List.take_append
abbrev Aj2:=@List.length_filter_le
abbrev Aj3:=@List.drop_eq_getElem_cons
abbrev Aj4:=@Int.emod_nonneg
abbrev Aj5:=@Bool.or_eq_true
abbrev Aj6:=@List.length_range
abbrev Aj7:=@List.getElem?_set_ne
abbrev Aj8:=@List.getElem_mem
abbrev Aj9:=@Int.mul_nonneg
abbrev Aka:=@Int.natAbs_mul
abbrev Akb:=@List.any_eq_true
abbrev Akc:=@List.getElem?_replicate
abbrev Akd:=@List.length_eq_zero_iff
abbrev Ake:=@Nat.add_mul
abbrev Akf:=@List.drop_append_of_le_length
abbrev Akg:=@List.getElem_range
abbrev Akh:=@List.mem_filterMap
abbrev Aki:=@Int.natCast_mul
abbrev Akj:=@Int.natAbs_tmod
abbrev Akk:=@Bool.eq_iff_iff
abbrev Akl:=@Bool.or_false
abbrev Akm:=@Nat.lt_irrefl
abbrev Akn:=@Int.mul_ediv_add_emod
abbrev Ako:=@List.take_add_one
abbrev Akp:=@Array.getElem?_setIfInBounds_self_of_lt
abbrev Akq:=@List.mem_range
abbrev Akr:=@List.take_zero
abbrev Aks:=@List.mem_of_mem_take
abbrev Akt:=@Bool.or_eq_false_iff
abbrev Aku:=@Array.getElem?_append_left
abbrev Akv:=@List.take_left
abbrev Akw:=@Nat.mul_comm
abbrev Akx:=@Prod.ext_iff
abbrev Aky:=@List.cons_append
abbrev Akz:=@Array.toList_map
abbrev AkA:=@List.mem_or_eq_of_mem_set
abbrev AkB:=@List.take_succ_cons
abbrev AkC:=@List.contains_eq_any_beq
abbrev AkD:=@List.eq_of_mem_replicate
abbrev AkE:=@List.nodup_cons
abbrev AkF:=@List.filter_append
abbrev AkG:=@Nat.add_sub_cancel
abbrev AkH:=@Int.neg_mul
abbrev AkI:=@Int.add_mul
abbrev AkJ:=@Int.gcd_zero_left
abbrev AkK:=@Bool.false_and
abbrev AkL:=@Int.mul_left_comm
abbrev AkM:=@Nat.sub_self
abbrev AkN:=@Nat.beq_refl
abbrev AkO:=@List.take_append_drop
abbrev AkP:=@List.getElem?_toArray
abbrev AkQ:=@List.length_singleton
abbrev AkR:=@Array.getElem?_modify
abbrev AkS:=@Nat.ble_eq_true_of_le
abbrev AkT:=@Nat.le_of_ble_eq_true
abbrev AkU:=@List.length_drop
abbrev AkV:=@Option.join_some
abbrev AkW:=@Int.mul_assoc
abbrev AkX:=@Int.one_mul
abbrev AkY:=@Int.mul_add
abbrev AkZ:=@List.mem_of_mem_drop
abbrev Ak0:=@List.map_append
abbrev Ak1:=@Nat.min_eq_left
abbrev Ak2:=@List.mem_range'
abbrev Ak3:=@List.take_set_of_le
abbrev Ak4:=@List.flatten_append
abbrev Ak5:=@Int.toNat_of_nonneg
abbrev Ak6:=@List.replicate_succ
abbrev Ak7:=@Int.zero_mul
abbrev Ak8:=@Int.mul_zero
abbrev Ak9:=@Int.add_zero
abbrev Ala:=@Int.add_mul_emod_self_right
abbrev Alb:=@Nat.mul_le_mul
abbrev Alc:=@List.take_take
abbrev Ald:=@Option.isSome_some
abbrev Ale:=@List.mapM_cons
abbrev Alf:=@List.extract_eq_take_drop
abbrev Alg:=@Int.sub_mul
abbrev Alh:=@List.foldl_append
abbrev Ali:=@List.any_eq_false
abbrev Alj:=@List.getElem?_set
abbrev Alk:=@Prod.mk.injEq
abbrev All:=@List.length_erase_of_mem
abbrev Alm:=@Array.size_setIfInBounds
abbrev Aln:=@Int.dvd_of_emod_eq_zero
abbrev Alo:=@List.drop_length
abbrev Alp:=@List.map_map
abbrev Alq:=@Nat.gcd_comm
abbrev Alr:=@Nat.mod_lt
abbrev Als:=@Int.natAbs_tdiv
abbrev Alt:=@Int.mul_sub
abbrev Alu:=@Bool.and_assoc
abbrev Alv:=@List.drop_left
abbrev Alw:=@Nat.add_assoc

inductive Sh where
 | int (k:IntKind) | bool | str
 | list (e:Nat) (s:Sh)
 | cons (a b:Sh)
 | fn1 (a r:Sh)
 | fn2 (a b r:Sh)
 | ol (e:Nat) (s:Sh)
 deriving DecidableEq

@[reducible] def Sh.T:Sh→Type
 | .int _=>Int | .bool=>Bool | .str=>ByteArray
 | .list _ s=>List s.T
 | .cons a b=>a.T×b.T
 | .fn1 a r=>a.T→Option r.T
 | .fn2 a b r=>a.T→b.T→Option r.T
 | .ol _ s=>Option (List s.T)
def Sh.n:Sh→Nat
 | .cons a b=>a.n+b.n
 | _=>1
def Sh.dfl:(s:Sh)→s.T
 | .int _=>(0:Int) | .bool=>false | .str=>ByteArray.empty
 | .list _ _=>[]
 | .cons a b=>(a.dfl,b.dfl)
 | .fn1 _ _=>fun _=>none
 | .fn2 _ _ _=>fun _ _=>none
 | .ol _ _=>none
def Sh.agg:Sh→Bool | .cons _ _=>true | _=>false
def Sh.flat:Sh→Bool
 | .int _ | .bool | .str=>true
 | .cons a b=>a.flat&&b.flat
 | _=>false

def Sh.data:Sh→Bool
 | .int _ | .bool | .str | .list _ _=>true
 | .cons a b=>a.data&&b.data
 | _=>false
def Sh.isL:Sh→Bool | .list _ _=>true | _=>false

@[reducible] def RT:List Sh→Type
 | []=>Unit
 | [s]=>s.T
 | s :: t :: r=>s.T×RT (t :: r)
def RT.dfl:(l:List Sh)→RT l
 | []=>()
 | [s]=>s.dfl
 | s :: t :: r=>(s.dfl,RT.dfl (t :: r))

inductive Lf where
 | int (k:IntKind) (n:Int) | bool (b:Bool) | str (s:ByteArray)
 | row (i:Nat) | view (i:Nat) (lo hi:Int) | nil
 | box (i off:Nat) | elem (i:Nat) (j:Int) (off:Nat)
 | fn (g:Nat) (caps:List Nat)
 | fv1 (a r:Sh) (φ:a.T→Option r.T)
 | fv2 (a b r:Sh) (φ:a.T→b.T→Option r.T)
 | mp (i:Nat)
 | mc (K V:Sh) (xs:List (K.T×V.T))
 | bsl (i e n:Nat)
 | und
inductive AV where
 | v (ag:Bool) (cs:List Lf)
 | tup (vs:List (Bool×List Lf))
 | grd (c:List (Nat×Bool)) (g:Bool) (ag:Bool) (cs:List Lf)
abbrev AV.l (x:Lf):AV:=.v false [x]
def BA:List Lf→Bool
 | [.mc _ _ _]=>false
 | _=>true

inductive Md where | own | io | ro | bor (p:Nat) (at_:Option (Int×Nat))
 deriving DecidableEq
def Md.mine:Md→Bool | .own | .io=>true | _=>false
structure Ab where
 e:Nat
 s:Sh
 xs:List s.T
 m:Md
structure A8 where
 own:Bool
 cs:List Lf
structure Fr where
 nt:Nat
 sl:List (Nat×AV)
 bx:List (Option A8)
 rw:List (Option Ab)

inductive Ty where
 | sc (s:Sh)
 | st (s:Sh) (fields:List (Nat×Nat))
 | sl (e:Nat) (s:Sh) (bytes:Nat)
 | ar (s:Sh) (e n:Nat)
inductive PM where | ro | io | mv | cap
 deriving DecidableEq
@[reducible] def AT:List (PM×Sh)→Type
 | []=>Unit
 | (_,s) :: r=>s.T×AT r
def AU:List (PM×Sh)→List Sh
 | []=>[]
 | (.io,s) :: r=>s :: AU r
 | (_,_) :: r=>AU r
structure Mdl where
 ps:List (PM×Sh)
 rs:List Sh
 F:AT ps→Option (RT (AU ps++rs))
structure N6 where
 e:Nat
 s:Sh
 r:Sh
 ps:List (PM×Sh)
 rs:List Sh
 F:(List s.T×r.T)×AT ps→Option (RT (r :: rs))
structure N7 where
 e:Nat
 s:Sh
 r:Sh
 ps:List (PM×Sh)
 F:List s.T×AT ps→Option (RT [r])
structure Qs where
 c:Sh
 ps:List (PM×Sh)
 rs:List Sh
 F:c.T×AT ps→Option (RT (c :: rs))
structure Gi where
 c:Sh
 ps:List (PM×Sh)
 rs:List Sh
 F:AT ps→Option (Option c.T×RT rs)
structure MTy where
 k:Nat
 v:Nat
 K:Sh
 V:Sh
structure Env where
 fs:List (Nat×Mdl)
 ty:List (Nat×Ty)
 eq:List (Nat×List Sh)
 mt:List (Nat×MTy)
 K:Nat
 kp:List Nat
 pf:List (Nat×N6)
 nf:List (Nat×N7)
 qf:List (Nat×Qs)
 cf:List (Nat×Gi)
 vf:List (Nat×Mdl)
 xf:List (Nat×Gi)
 rf:Bool
def Ty.sh:Ty→Sh | .sc s=>s | .st s _=>s | .sl e s _=>.list e s | .ar s _ _=>s
def Ty.parts:Ty→Option (Sh×List (Nat×Nat))
 | .st s fs=>some (s,fs)
 | .ar s _ n=>some (s,(List.range n).map fun i=>(i,1))
 | _=>none

def lkp {α:Type}:List (Nat×α)→Nat→Option α
 | [],_=>none
 | (i,v) :: r,j=>bif Nat.beq i j then some v else lkp r j
def ins {α:Type}:List (Nat×α)→Nat→α→List (Nat×α)
 | [],j,v=>[(j,v)]
 | (i,u) :: r,j,v=>bif Nat.beq i j then (j,v) :: r else bif Nat.blt j i then (j,v) :: (i,u) :: r else (i,u) :: ins r j v
def at? {α:Type}:List (Option α)→Nat→Option α
 | [],_=>none
 | x :: _,0=>x
 | _ :: r,i+1=>at? r i
def AC {α:Type}:List (Option α)→Nat→Option α→List (Option α)
 | [],_,_=>[]
 | _ :: r,0,y=>y :: r
 | x :: r,i+1,y=>x :: AC r i y
def Ad (i:Nat) (rw:List (Option Ab)):List (Option Ab) :=
 rw.map fun r=>match r with
  | some r=>(match r.m with | .bor p _=>bif Nat.beq p i then none else some r | _=>some r)
  | none=>none

def Aa (m:Md):(s:Sh)→s.T→Nat→List Lf×List Ab
 | .int k,x,_=>([.int k x],[])
 | .bool,b,_=>([.bool b],[])
 | .str,b,_=>([.str b],[])
 | .list e s,xs,n=>([.row n],[⟨e,s,xs,m⟩])
 | .cons a b,x,n =>
  let p:=Aa m a x.1 n
  let q:=Aa m b x.2 (n+p.2.length)
  (p.1++q.1,p.2++q.2)
 | .fn1 a r,φ,_=>([.fv1 a r φ],[])
 | .fn2 a b r,φ,_=>([.fv2 a b r φ],[])
 | .ol _ _,_,_=>([.und],[])
def CT {s t:Sh} (h:s=t) (xs:List s.T):List t.T:=h▸xs
def AcJ {s t:Sh} (h:s=t) (x:s.T):t.T:=h▸x
def Qt (rw:List (Option Ab)) (e:Nat) (s:Sh):Lf→Option (List s.T)
 | .row i=>match at? rw i with
  | some q=>if q.e=e then (if h:q.s=s then some (CT h q.xs) else none) else none
  | none=>none
 | .view i lo hi=>match at? rw i with
  | some q=>if q.e=e then (if h:q.s=s then some (((CT h q.xs).take hi.toNat).drop lo.toNat) else none) else none
  | none=>none
 | .nil=>some []
 | _=>none
def AB (rw:List (Option Ab)):(s:Sh)→List Lf→Option (s.T×List Lf)
 | .int k,ls=>match ls with | .int k' n :: r=>if k=k' then some (n,r) else none | _=>none
 | .bool,ls=>match ls with | .bool b :: r=>some (b,r) | _=>none
 | .str,ls=>match ls with | .str b :: r=>some (b,r) | _=>none
 | .list e s,ls=>match ls with
  | l :: r=>match Qt rw e s l with | some xs=>some (xs,r) | none=>none
  | []=>none
 | .cons a b,l=>match AB rw a l with
  | some (x,l1)=>match AB rw b l1 with
   | some (y,l2)=>some ((x,y),l2)
   | none=>none
  | none=>none
 | .fn1 _ _,_=>none
 | .fn2 _ _ _,_=>none
 | .ol _ _,_=>none
def EB {α:Type}:Option (α×List Lf)→Option α
 | some (x,[])=>some x
 | _=>none
def CU (ok:Md→Bool) (m:Option Nat) (e:Nat) (s:Sh) (rw:List (Option Ab)):Lf→Option (List s.T×List (Option Ab))
 | .row i=>match at? rw i with
  | some q=>if q.e=e then (bif ok q.m then (if h:q.s=s then some (CT h q.xs,Ad i (AC rw i (m.map fun p=>{ q with m:=.bor p none }))) else none) else none) else none
  | none=>none
 | .view i lo hi=>if lo=0 then (match at? rw i with
  | some q=>if q.e=e then (bif ok q.m then (if h:q.s=s then some ((CT h q.xs).take hi.toNat,Ad i (AC rw i none)) else none) else none) else none
  | none=>none) else none
 | .nil=>some ([],rw)
 | _=>none
def take (ok:Md→Bool) (m:Option Nat):(s:Sh)→List Lf→List (Option Ab)→Option (s.T×List Lf×List (Option Ab))
 | .int k,ls,rw=>match ls with | .int k' n :: r=>if k=k' then some (n,r,rw) else none | _=>none
 | .bool,ls,rw=>match ls with | .bool b :: r=>some (b,r,rw) | _=>none
 | .str,ls,rw=>match ls with | .str b :: r=>some (b,r,rw) | _=>none
 | .list e s,ls,rw=>match ls with
  | l :: r=>match CU ok m e s rw l with | some (xs,rw')=>some (xs,r,rw') | none=>none
  | []=>none
 | .cons a b,l,rw=>match take ok m a l rw with
  | some (x,l1,rw1)=>match take ok m b l1 rw1 with
   | some (y,l2,rw2)=>some ((x,y),l2,rw2)
   | none=>none
  | none=>none
 | .fn1 _ _,_,_=>none
 | .fn2 _ _ _,_,_=>none
 | .ol _ _,_,_=>none
def Dm:(s:Sh)→Nat→Nat→Option ((t:Sh)×(s.T→t.T)×(s.T→t.T→s.T))
 | .cons a b,off,n=>bif Nat.beq off 0&&Nat.beq n (a.n+b.n) then some ⟨.cons a b,fun x=>x,fun _ y=>y⟩
  else bif Nat.beq off 0&&Nat.beq n a.n then some ⟨a,fun x=>x.1,fun x y=>(y,x.2)⟩
  else bif Nat.ble a.n off then (match Dm b (off-a.n) n with
   | some ⟨t,f,g⟩=>some ⟨t,fun x=>f x.2,fun x y=>(x.1,g x.2 y)⟩
   | none=>none)
  else (match Dm a off n with
   | some ⟨t,f,g⟩=>some ⟨t,fun x=>f x.1,fun x y=>(g x.1 y,x.2)⟩
   | none=>none)
 | s,off,n=>bif Nat.beq off 0&&Nat.beq n 1 then some ⟨s,fun x=>x,fun _ y=>y⟩ else none

def opd (fr:Fr) (ch:List (Nat×Bool)):Operand→Option AV
 | .tmp t=>match lkp fr.sl t with
  | some (.grd c _ ag cs)=>bif c.all (fun p=>ch.any fun q=>Nat.beq p.1 q.1&&(p.2==q.2)) then some (.v ag cs) else none
  | r=>r
 | .const (.int k n)=>some (.l (.int k n))
 | .const (.bool b)=>some (.l (.bool b))
 | .const (.string s)=>some (.l (.str s))
 | .const (.slice none 0 0)=>some (.l .nil)
 | .const (.pointer none)=>some (.l .und)
 | .func g=>some (.l (.fn g []))
 | _=>none
def opl (fr:Fr) (ch:List (Nat×Bool)) (x:Operand):Option (Bool×List Lf) :=
 match opd fr ch x with
 | some (.v ag cs)=>some (ag,cs)
 | _=>none
def op1 (fr:Fr) (ch:List (Nat×Bool)) (x:Operand):Option Lf :=
 match opd fr ch x with
 | some (.v false [l])=>some l
 | _=>none
def UD (fr:Fr) (ch:List (Nat×Bool)):List Operand→Option (List (Bool×List Lf))
 | []=>some []
 | x :: r=>match opl fr ch x,UD fr ch r with
  | some v,some vs=>some (v :: vs)
  | _,_=>none

inductive Eff where
 | pure
 | box (i:Nat) (b:A8)
 | tab (rw:List (Option Ab))
 | gone (is:List Nat)
 | set (i e:Nat) (s:Sh) (xs:List s.T)
structure N8 where
 v:AV
 nr:List Ab
 nb:List A8
 ef:Eff
inductive Res where
 | fail
 | done (req:Bool) (v:Option AV) (nr:List Ab) (nb:List A8) (ef:Eff)
 | call (m:Mdl) (o:Option (RT (AU m.ps++m.rs))) (vs:List (Bool×List Lf)) (rw:List (Option Ab)) (quiet:Bool)
 | callE (rs:List Sh) (o:Option (RT rs)) (z:Option (RT rs)) (f:RT rs→N8)
def val (req:Bool) (l:Lf):Res:=.done req (some (.l l)) [] [] .pure
def vals (ag:Bool) (cs:List Lf):Res:=.done true (some (.v ag cs)) [] [] .pure

def Qu (op:BinOp) (k:IntKind) (a b:Int):Int :=
 match op with
 | .and=>k.wrap (BitVec.ofInt k.bits a &&& BitVec.ofInt k.bits b).toNat
 | .or=>k.wrap (BitVec.ofInt k.bits a ||| BitVec.ofInt k.bits b).toNat
 | .xor=>k.wrap (BitVec.ofInt k.bits a ^^^ BitVec.ofInt k.bits b).toNat
 | .shl=>k.wrap (a*2 ^ min b.toNat k.bits)
 | .shr=>a.fdiv (2 ^ min b.toNat k.bits)
 | _=>0
def Zz:BinOp→Bool | .shl | .shr=>true | _=>false
def AdZ (op:BinOp) (k:IntKind) (a b:Int):Option (Bool×Lf) :=
 match op with
 | .and=>some (true,.int k (Qu .and k a b))
 | .or=>some (true,.int k (Qu .or k a b))
 | .xor=>some (true,.int k (Qu .xor k a b))
 | .add=>some (true,.int k (k.wrap (a+b)))
 | .sub=>some (true,.int k (k.wrap (a-b)))
 | .mul=>some (true,.int k (k.wrap (a*b)))
 | .quo=>some (b != 0,.int k (k.wrap (a.tdiv b)))
 | .rem=>some (b != 0,.int k (a.tmod b))
 | .eql=>some (true,.bool (a==b))
 | .neq=>some (true,.bool (a != b))
 | .lss=>some (true,.bool (decide (a<b)))
 | .leq=>some (true,.bool (decide (a≤b)))
 | .gtr=>some (true,.bool (decide (a>b)))
 | .geq=>some (true,.bool (decide (a≥b)))
 | _=>none
def VS:Sh→Lf→Lf→Option Bool
 | .int k0,.int k a,.int k' b=>if k=k0∧k'=k0 then some (a==b) else none
 | .bool,.bool a,.bool b=>some (a==b)
 | .str,.str a,.str b=>some (a==b)
 | _,_,_=>none
def Cd:List Sh→List Lf→List Lf→Option Bool
 | [],[],[]=>some true
 | [s],[x],[y]=>VS s x y
 | s :: q,x :: r,y :: r'=>match VS s x y,Cd q r r' with
  | some s,some t=>some (s&&t)
  | _,_=>none
 | _,_,_=>none
def bin (E:Env) (op:BinOp) (t:Nat) (x y:Bool×List Lf):Option (Bool×Lf) :=
 match x,y with
 | (false,[.int k a]),(false,[.int k' b])=>bif Zz op then some (decide (0≤b),.int k (Qu op k a b)) else if k=k' then AdZ op k a b else none
 | (false,[.bool a]),(false,[.bool b])=>match op,lkp E.ty t with
  | .eql,some (.sc .bool)=>some (true,.bool (a==b))
  | .neq,some (.sc .bool)=>some (true,.bool (a != b))
  | _,_=>none
 | (false,[.str a]),(false,[.str b])=>match op with
  | .eql=>some (true,.bool (a==b))
  | .neq=>some (true,.bool (a != b))
  | .add=>some (Nat.ble (a.size+b.size) 9223372036854775807,.str (a++b))
  | _=>none
 | (true,a),(true,b)=>match lkp E.eq t with
  | some ks=>(match op,Cd ks a b with
   | .eql,some t=>some (true,.bool t)
   | .neq,some t=>some (true,.bool (!t))
   | _,_=>none)
  | none=>none
 | _,_=>none
def Ce (fr:Fr):Lf→Option (Nat×Ab×Int×Int)
 | .row i=>match at? fr.rw i with | some r=>some (i,r,0,(r.xs.length:Int)) | none=>none
 | .view i lo hi=>match at? fr.rw i with | some r=>some (i,r,lo,hi-lo) | none=>none
 | _=>none
def D4 (cs:List Lf) (off:Nat) (vs:List Lf):List Lf:=cs.take off++vs++cs.drop (off+vs.length)
def tyN (E:Env) (t:Nat):Option (Nat×Bool) :=
 match lkp E.ty t with
 | some ty=>some (ty.sh.n,ty.sh.agg)
 | none=>none
def slT (E:Env) (t:Nat):Option (Nat×Sh×Nat) :=
 match lkp E.ty t with
 | some (.sl e s b)=>some (e,s,b)
 | _=>none
def Ih (E:Env) (t:Nat) (r:Ab):Bool :=
 match slT E t with
 | some (e,s,_)=>Nat.beq e r.e&&decide (s=r.s)
 | none=>false
def R4 (E:Env) (t:Nat) (r:Ab):Bool :=
 match slT E t with
 | some (e,s,_)=>Nat.beq e r.e&&(decide (s=r.s)||(match r.s with | .ol e1 s1=>decide (s=.list e1 s1) | _=>false))
 | none=>false
def lim (b:Nat):Nat:=140737488355328 / b
def HT (i:Nat) (j:Int) (off:Nat) (u:Sh):Md→Md
 | .own | .io=>.bor i (match u with | .list _ _=>some (j,off) | _=>none)
 | .bor p _=>.bor p none
 | .ro=>.ro
def HU:(u:Sh)→u.T→Bool×((t:Sh)×t.T)
 | .ol e s,x=>(x.isSome,⟨.list e s,x.getD []⟩)
 | u,x=>(true,⟨u,x⟩)
def loadAt (E:Env) (fr:Fr) (t:Nat) (p:Lf):Res :=
 match tyN E t with
 | none=>.fail
 | some (n,ag)=>match p with
  | .box i off=>match at? fr.bx i with
   | some b=>bif BA b.cs&&Nat.ble (off+n) b.cs.length then vals ag ((b.cs.drop off).take n) else .fail
   | none=>.fail
  | .elem i j off=>match at? fr.rw i with
   | some r=>match Dm r.s off n with
    | some ⟨u,f,_⟩ =>
      let z:=HU u (f (r.xs.getD j.toNat r.s.dfl))
      bif z.2.1.data&&(z.2.1.agg==ag) then (
      let q:=Aa (HT i j off z.2.1 r.m) z.2.1 z.2.2 fr.rw.length
      .done z.1 (some (.v ag q.1)) q.2 [] .pure) else .fail
    | none=>.fail
   | none=>.fail
  | _=>.fail
def Hc:Sh→Option (List Lf)
 | .int k=>some [.int k 0]
 | .bool=>some [.bool false]
 | .str=>some [.str ByteArray.empty]
 | .list _ _=>some [.nil]
 | .cons a b=>match Hc a,Hc b with | some x,some y=>some (x++y) | _,_=>none
 | _=>none
def AhN (E:Env) (t:Nat):Option (List Lf) :=
 match lkp E.ty t with
 | some ty=>Hc ty.sh
 | none=>none
def Ms (fr:Fr) (ch:List (Nat×Bool)) (fields:List (Nat×Nat)):List (Nat×Operand)→List Lf→Option (List Lf)
 | [],cs=>some cs
 | (i,x) :: r,cs=>match fields[i]?,opl fr ch x with
  | some (off,n),some (_,vs)=>bif Nat.beq vs.length n&&Nat.ble (off+n) cs.length then Ms fr ch fields r (D4 cs off vs) else none
  | _,_=>none
def EC (fr:Fr) (ch:List (Nat×Bool)) (q:Nat) (s:Sh):List (Nat×Operand)→List s.T→List (Option Ab)→Option (List s.T×List (Option Ab))
 | [],xs,rw=>some (xs,rw)
 | (i,x) :: r,xs,rw=>match opl fr ch x with
  | some (ag,vs)=>match take (fun m=>m==.own) (some q) s vs rw with
   | some (y,[],rw1)=>bif Nat.blt i xs.length&&(s.agg==ag) then EC fr ch q s r (xs.set i y) rw1 else none
   | _=>none
  | none=>none

def AO:(s:Sh)→s.T→s.T→Bool
 | .int _,a,b=>(a:Int)==b
 | .bool,a,b=>(a:Bool)==b
 | .str,a,b=>(a:ByteArray)==b
 | .cons s t,a,b=>AO s a.1 b.1&&AO t a.2 b.2
 | .list _ _,_,_=>false
 | .fn1 _ _,_,_=>false
 | .fn2 _ _ _,_,_=>false
 | .ol _ _,_,_=>false
def BN {α β:Type} (eq:α→α→Bool):List (α×β)→α→Option β
 | [],_=>none
 | p :: r,x=>bif eq x p.1 then some p.2 else BN eq r x
def Ew {α β:Type} (eq:α→α→Bool):List (α×β)→α→β→List (α×β)
 | [],x,y=>[(x,y)]
 | p :: r,x,y=>bif eq x p.1 then (x,y) :: r else p :: Ew eq r x y
def AfQ {K V K' V':Sh} (h1:K=K') (h2:V=V') (xs:List (K.T×V.T)):List (K'.T×V'.T):=h1▸h2▸xs
def N9 (fr:Fr) (i:Nat) (m:MTy):Option (List (m.K.T×m.V.T)) :=
 match at? fr.bx i with
 | some b=>(match b.cs with
  | [.mc K V xs]=>if h:K=m.K∧V=m.V then some (AfQ h.1 h.2 xs) else none
  | _=>none)
 | none=>none
def Hd (E:Env) (fr:Fr) (t:Nat) (r:Option Operand):Res :=
 match r,lkp E.mt t with
 | none,some m=>.done true (some (.l (.mp fr.bx.length))) [] [⟨true,[.mc m.K m.V []]⟩] .pure
 | _,_=>.fail
def IZ (E:Env) (fr:Fr) (ch:List (Nat×Bool)) (t:Nat) (x ix:Operand) (ok:Bool):Res :=
 match lkp E.mt t,op1 fr ch x,opl fr ch ix with
 | some m,some (.mp i),some (ag,cs)=>match N9 fr i m,EB (AB fr.rw m.K cs) with
  | some xs,some key=>bif m.K.agg==ag then (
    let q:=BN (AO m.K) xs key
    let vs:=(Aa .own m.V (q.getD m.V.dfl) 0).1
    bif ok then .done true (some (.tup [(m.V.agg,vs),(false,[.bool q.isSome])])) [] [] .pure else vals m.V.agg vs) else .fail
  | _,_=>.fail
 | _,_,_=>.fail
def Dn (E:Env) (fr:Fr) (ch:List (Nat×Bool)) (t:Nat) (x k v:Operand):Res :=
 match lkp E.mt t,op1 fr ch x,opl fr ch k,opl fr ch v with
 | some m,some (.mp i),some (ag,cs),some (ag',vs)=>match at? fr.bx i,N9 fr i m,EB (AB fr.rw m.K cs),EB (AB fr.rw m.V vs) with
  | some b,some xs,some key,some val=>bif b.own&&(m.K.agg==ag)&&(m.V.agg==ag') then .done true none [] [] (.box i { b with cs:=[.mc m.K m.V (Ew (AO m.K) xs key val)] }) else .fail
  | _,_,_,_=>.fail
 | _,_,_,_=>.fail
def I0 (E:Env) (fr:Fr) (t:Nat) (i:Nat):Res :=
 match lkp E.mt t with
 | some m=>match N9 fr i m with
  | some xs=>val true (.int .i64 xs.length)
  | none=>.fail
 | none=>.fail

def Sh.flatL:Sh→Bool
 | .list _ s=>s.flat
 | .cons a b=>a.flatL&&b.flatL
 | .int _ | .bool | .str=>true
 | _=>false
def Oa:Sh→Bool
 | .list _ _ | .int _ | .bool | .str=>true
 | .cons a b=>(a.flatL&&Oa b)||(Oa a&&b.flatL)
 | _=>false
def Lf.isView:Lf→Bool | .view _ _ _=>true | _=>false
def BB:(ps:List (PM×Sh))→List (Bool×List Lf)→List (Option Ab)→Option (List (Option Ab))
 | [],[],rw=>some rw
 | (m,s) :: ps,(ag,cs) :: vs,rw=>match m with
  | .ro | .cap=>BB ps vs rw
  | .mv=>match take (fun m=>m==.own) none s cs rw with
   | some (_,[],rw1)=>BB ps vs rw1
   | _=>none
  | .io=>bif cs.any Lf.isView||!Oa s||!(s.agg==ag) then none else (match take Md.mine none s cs rw with
   | some (_,[],rw1)=>BB ps vs rw1
   | _=>none)
 | _,_,_=>none
def FS (fr:Fr) (rw:List (Option Ab)):(ps:List (PM×Sh))→List Nat→Option (AT ps)
 | [],[]=>some ()
 | (.cap,s) :: ps,b :: bs=>match at? fr.bx b with
  | some b=>bif BA b.cs then (match EB (AB rw s b.cs),FS fr rw ps bs with
   | some x,some xs=>some (x,xs)
   | _,_=>none) else none
  | none=>none
 | _,_=>none
def AcK (a r:Sh) (cps:List (PM×Sh)) (m:Mdl) (c:AT cps):Option (a.T→Option r.T) :=
 if h1:m.ps=(.ro,a) :: cps then (if h2:AU m.ps++m.rs=[r] then some fun x=>cast (congrArg (fun l=>Option (RT l)) h2) (m.F (cast (congrArg AT h1.symm) (x,c))) else none) else none
def AcL (a b r:Sh) (cps:List (PM×Sh)) (m:Mdl) (c:AT cps):Option (a.T→b.T→Option r.T) :=
 if h1:m.ps=(.ro,a) :: (.ro,b) :: cps then (if h2:AU m.ps++m.rs=[r] then some fun x y=>cast (congrArg (fun l=>Option (RT l)) h2) (m.F (cast (congrArg AT h1.symm) (x,y,c))) else none) else none
def I1 (rw:List (Option Ab)) (s:Sh):Nat→List Lf→Option (List s.T)
 | 0,ls=>match ls with | []=>some [] | _=>none
 | n+1,ls=>match AB rw s ls with
  | some (x,r)=>(match I1 rw s n r with | some xs=>some (x :: xs) | none=>none)
  | none=>none
def VT (E:Env) (fr:Fr) (rw:List (Option Ab)) (s:Sh) (cs:List Lf):Option s.T :=
 match s,cs with
 | .fn1 a r,[.fn g caps]=>match lkp E.vf g with
  | some m=>match FS fr rw (m.ps.drop 1) caps with
   | some c=>bif r.flat then AcK a r (m.ps.drop 1) m c else none
   | none=>none
  | none=>none
 | .fn2 a b r,[.fn g caps]=>match lkp E.vf g with
  | some m=>match FS fr rw (m.ps.drop 2) caps with
   | some c=>bif r.flat then AcL a b r (m.ps.drop 2) m c else none
   | none=>none
  | none=>none
 | .fn1 a r,[.fv1 a' r' φ]=>if h:a'=a∧r'=r then some (h.1▸h.2▸φ) else none
 | .fn2 a b r,[.fv2 a' b' r' φ]=>if h:a'=a∧b'=b∧r'=r then some (h.1▸h.2.1▸h.2.2▸φ) else none
 | .list e s',[.bsl i e' n]=>if e=e' then (match at? fr.bx i with
  | some b=>bif BA b.cs then I1 rw s' n b.cs else none
  | none=>none) else none
 | s,cs=>EB (AB rw s cs)
def BW (E:Env) (fr:Fr) (rw:List (Option Ab)):(ps:List (PM×Sh))→List (Bool×List Lf)→List (Option Ab)→Option (AT ps)
 | [],[],_=>some ()
 | (m,s) :: ps,(ag,cs) :: vs,rc=>match m with
  | .ro=>bif s.agg==ag then (match VT E fr rw s cs,BW E fr rw ps vs rc with
   | some x,some xs=>some (x,xs)
   | _,_=>none) else none
  | .mv=>bif s.agg==ag then (match take (fun m=>m==.own) none s cs rc with
   | some (x,[],rc1)=>(match BW E fr rw ps vs rc1 with | some xs=>some (x,xs) | none=>none)
   | _=>none) else none
  | .io=>bif s.agg==ag then (match take Md.mine none s cs rc with
   | some (x,[],rc1)=>(match BW E fr rw ps vs rc1 with | some xs=>some (x,xs) | none=>none)
   | _=>none) else none
  | .cap=>match ag,cs with
   | false,[.box b 0]=>(match at? fr.bx b with
    | some b=>bif BA b.cs then (match EB (AB rw s b.cs),BW E fr rw ps vs rc with
     | some x,some xs=>some (x,xs)
     | _,_=>none) else none
    | none=>none)
   | _,_=>none
 | _,_,_=>none
def Cv (E:Env) (fr:Fr) (m:Mdl) (vs:List (Bool×List Lf)):Res :=
 match BB m.ps vs fr.rw with
 | some rw=>match BW E fr rw m.ps vs fr.rw with
  | some xs=>bif m.rs.all Sh.data then .call m (m.F xs) vs rw (m.ps.all fun p=>p.1==.ro||p.1==.cap) else .fail
  | none=>.fail
 | none=>.fail
def RT.hd {s:Sh} {l:List Sh}:RT (s :: l)→s.T:=match l with | []=>fun x=>x | _ :: _=>fun x=>x.1
def RT.tl {s:Sh} {l:List Sh}:RT (s :: l)→RT l:=match l with | []=>fun _=>() | _ :: _=>fun x=>x.2
def RT.mk {s:Sh} {l:List Sh}:s.T→RT l→RT (s :: l):=match l with | []=>fun x _=>x | _ :: _=>fun x y=>(x,y)
def Bb (rw0:List (Option Ab)):(s:Sh)→List Lf→s.T→List (Option Ab)→List Lf×List (Option Ab)
 | .list e s,l :: r,xs,rw=>(r,match l with
  | .row i=>(match at? rw0 i with | some q=>AC rw i (some ⟨e,s,xs,q.m⟩) | none=>rw)
  | _=>rw)
 | .cons a b,l,x,rw=>let p:=Bb rw0 a l x.1 rw;Bb rw0 b p.1 x.2 p.2
 | _,_ :: r,_,rw=>(r,rw)
 | _,[],_,rw=>([],rw)
def K5 {rs:List Sh} (rw0:List (Option Ab)):(ps:List (PM×Sh))→List (Bool×List Lf)→RT (AU ps++rs)→List (Option Ab)→List (Option Ab)×RT rs
 | [],_,y,rw=>(rw,y)
 | (.io,s) :: ps,vs,y,rw=>K5 rw0 ps vs.tail (RT.tl (l:=AU ps++rs) y) (Bb rw0 s (match vs with | v :: _=>v.2 | []=>[]) (RT.hd (l:=AU ps++rs) y) rw).2
 | (.ro,_) :: ps,vs,y,rw | (.mv,_) :: ps,vs,y,rw | (.cap,_) :: ps,vs,y,rw=>K5 rw0 ps vs.tail y rw
def Al:(l:List Sh)→RT l→Nat→List (Bool×List Lf)×List Ab
 | [],_,_=>([],[])
 | s :: l,x,n =>
  let p:=Aa .own s x.hd n
  let q:=Al l x.tl (n+p.2.length)
  ((s.agg,p.1) :: q.1,p.2++q.2)
def one (vs:List (Bool×List Lf)):AV:=match vs with | [(ag,cs)]=>.v ag cs | vs=>.tup vs
def Ah (fr:Fr) (m:Mdl) (vs:List (Bool×List Lf)) (rw:List (Option Ab)) (quiet:Bool) (y:RT (AU m.ps++m.rs)):AV×List Ab×Eff :=
 let b:=K5 fr.rw m.ps vs y rw
 let q:=Al m.rs b.2 fr.rw.length
 (one q.1,q.2,bif quiet then .pure else .tab b.1)

def HV (E:Env) (fr:Fr) (m:Mdl) (vs:List (Bool×List Lf)):Res :=
 match vs with
 | (false,[.row n]) :: vs'=>match at? fr.rw n with
  | some q=>match q.m with
   | .bor p (some (j,off))=>match at? fr.rw p with
    | some r=>bif r.m.mine&&m.rs.all Sh.flat&&m.ps.tail.all (fun p=>p.1==.ro&&p.2.flat) then (match Dm r.s off 1 with
     | some ⟨u,f,gg⟩=>(
     if h:u=.list q.e q.s then (
     if h1:m.ps=(.io,.list q.e q.s) :: m.ps.tail then (
     if h2:AU m.ps++m.rs=.list q.e q.s :: m.rs then (
      match BW E fr fr.rw m.ps.tail vs' fr.rw with
      | some a=>.callE (AU m.ps++m.rs) (m.F (cast (congrArg AT h1.symm) (AcJ h (f (r.xs.getD j.toNat r.s.dfl)),a))) none (fun y=>⟨one (Al m.rs (RT.tl (cast (congrArg RT h2) y)) 0).1,[],[],.set p r.e r.s (r.xs.set j.toNat (gg (r.xs.getD j.toNat r.s.dfl) (AcJ h.symm (RT.hd (cast (congrArg RT h2) y)))))⟩)
      | none=>.fail) else .fail) else .fail) else .fail)
     | none=>.fail) else .fail
    | none=>.fail
   | _=>.fail
  | none=>.fail
 | _=>.fail

def I5 (E:Env) (fr:Fr) (m:N6) (vs:List (Bool×List Lf)):Res:=.fail
def Ja (E:Env) (fr:Fr) (m:N7) (vs:List (Bool×List Lf)):Res:=.fail
def Jb (E:Env) (fr:Fr) (t:Nat) (x y:Lf):Res :=
 match slT E t,x with
 | some (e,s,b),.row i=>match at? fr.rw i with
  | some q=>bif q.m==.own&&Nat.beq e q.e then (if hq:q.s=s then (
   match y with
   | .row j=>match at? fr.rw j with
    | some p=>bif Nat.beq p.e e then (if h:p.s=s then (
      bif s.flat then
       .done (Nat.ble (q.xs.length+p.xs.length) (lim b)) (some (.l (.row fr.rw.length))) [⟨e,s,CT hq q.xs++CT h p.xs,.own⟩] [] (.gone [i])
      else bif p.m==.own&&!Nat.beq i j then
       .done (Nat.ble (q.xs.length+p.xs.length) (lim b)) (some (.l (.row fr.rw.length))) [⟨e,s,CT hq q.xs++CT h p.xs,.own⟩] [] (.tab (Ad j (AC (Ad i (AC fr.rw i none)) j none)))
      else .fail) else .fail) else .fail
    | none=>.fail
   | .view j lo hi=>match at? fr.rw j with
    | some p=>bif Nat.beq p.e e&&s.flat then (if h:p.s=s then
       .done (Nat.ble (q.xs.length+(((CT h p.xs).take hi.toNat).drop lo.toNat).length) (lim b)) (some (.l (.row fr.rw.length))) [⟨e,s,CT hq q.xs++((CT h p.xs).take hi.toNat).drop lo.toNat,.own⟩] [] (.gone [i])
      else .fail) else .fail
    | none=>.fail
   | _=>.fail) else .fail) else .fail
  | none=>.fail
 | _,_=>.fail
def bnd (fr:Fr) (ch:List (Nat×Bool)) (d:Int):Option Operand→Option Int
 | none=>some d
 | some x=>match op1 fr ch x with | some (.int _ n)=>some n | _=>none
def Mu (E:Env) (fr:Fr) (ch:List (Nat×Bool)) (ty:Nat) (x:Operand):Res :=
 match opd fr ch x with
 | some (.v false [.nil])=>match slT E ty with
  | some (e,s,_)=>.done true (some (.l (.row fr.rw.length))) [⟨e,s,[],.own⟩] [] .pure
  | none=>vals false [.nil]
 | some (.v ag cs)=>vals ag cs
 | some (.tup vs)=>.done true (some (.tup vs)) [] [] .pure
 | _=>.fail
def VU (E:Env) (fr:Fr) (ch:List (Nat×Bool)) (op:BinOp) (t:Nat) (x y:Operand):Res :=
 match opl fr ch x,opl fr ch y with
 | some v,some u=>match bin E op t v u with
  | some (req,l)=>val req l
  | none=>.fail
 | _,_=>.fail
def Ad0 (fr:Fr) (ch:List (Nat×Bool)) (op:UnOp) (x:Operand):Res :=
 match op,op1 fr ch x with
 | .not,some (.bool b)=>val true (.bool (!b))
 | .neg,some (.int k n)=>val true (.int k (k.wrap (0-n)))
 | _,_=>.fail
def Qv (fr:Fr) (ch:List (Nat×Bool)) (c:Operand) (a b:Operand):Res :=
 match c with
 | .tmp c=>match op1 fr ch (.tmp c),op1 fr ((c,true) :: ch) a,op1 fr ((c,false) :: ch) b with
  | some (.bool t),some (.bool u),some (.bool v)=>val true (.bool (bif t then u else v))
  | _,_,_=>.fail
 | _=>.fail
def VV (fr:Fr) (ch:List (Nat×Bool)) (x:Operand):Res :=
 match opl fr ch x with
 | some (_,cs)=>.done true (some (.l (.box fr.bx.length 0))) [] [⟨true,cs⟩] .pure
 | none=>.fail
def Mv (E:Env) (fr:Fr) (t:Nat):Res :=
 match lkp E.ty t with
 | some ty=>bif ty.sh.data then (
   let q:=Aa .own ty.sh ty.sh.dfl fr.rw.length
   .done true (some (.l (.box fr.bx.length 0))) q.2 [⟨true,q.1⟩] .pure) else .fail
 | none=>.fail
def VW (fr:Fr) (ch:List (Nat×Bool)) (x:Operand):Res :=
 match op1 fr ch x with
 | some (.box i o)=>val true (.box i o)
 | some (.elem i j o)=>val true (.elem i j o)
 | _=>.fail
def ED (E:Env) (fr:Fr) (ch:List (Nat×Bool)) (s:Nat) (x:Operand) (f:Nat):Res :=
 match lkp E.ty s with
 | some (.st _ fs)=>match fs[f]?,op1 fr ch x with
  | some (off,_),some (.box i o)=>val true (.box i (o+off))
  | some (off,_),some (.elem i j o)=>val true (.elem i j (o+off))
  | _,_=>.fail
 | _=>.fail
def Mw (E:Env) (fr:Fr) (ch:List (Nat×Bool)) (t:Nat) (x:Operand) (f:Nat):Res :=
 match lkp E.ty t,opl fr ch x with
 | some (.st _ fs),some (true,cs)=>match fs[f]? with
  | some (off,n)=>bif Nat.ble (off+n) cs.length then vals (Nat.blt 1 n) ((cs.drop off).take n) else .fail
  | none=>.fail
 | _,_=>.fail
def Qw (E:Env) (fr:Fr) (ch:List (Nat×Bool)) (t:Nat) (x:Operand):Res :=
 match op1 fr ch x with
 | some p=>loadAt E fr t p
 | none=>.fail
def FT (fr:Fr) (i off n:Nat) (vs:List Lf):Res :=
 match at? fr.bx i with
 | some b=>bif b.own&&BA b.cs&&Nat.ble (off+n) b.cs.length&&Nat.beq vs.length n then .done true none [] [] (.box i { b with cs:=D4 b.cs off vs }) else .fail
 | none=>.fail
def EE (fr:Fr) (i:Nat) (j:Int) (off n:Nat) (vs:List Lf):Res :=
 match at? fr.rw i with
 | some r=>bif r.m.mine&&Nat.beq vs.length n then (match Dm r.s off n with
  | some ⟨u,_,g⟩=>match take (fun m=>m==.own) (some i) u vs fr.rw with
   | some (y,[],_)=>bif u.flat then .done true none [] [] (.tab (Ad i (AC fr.rw i (some { r with xs:=r.xs.set j.toNat (g (r.xs.getD j.toNat r.s.dfl) y) })))) else .fail
   | _=>.fail
  | none=>.fail) else .fail
 | none=>.fail
def Mx (E:Env) (fr:Fr) (ch:List (Nat×Bool)) (t:Nat) (a x:Operand):Res :=
 match op1 fr ch a,opl fr ch x,tyN E t with
 | some (.box i off),some (_,vs),some (n,_)=>FT fr i off n vs
 | some (.elem i j off),some (_,vs),some (n,_)=>EE fr i j off n vs
 | _,_,_=>.fail
def EF (E:Env) (fr:Fr) (ch:List (Nat×Bool)) (t:Nat) (x i:Operand):Res :=
 match op1 fr ch x,op1 fr ch i with
 | some v,some (.int _ j)=>match Ce fr v with
  | some (r,q,lo,len)=>bif R4 E t q then val (decide (0≤j)&&decide (j<len)) (.elem r (lo+j) 0) else .fail
  | none=>.fail
 | _,_=>.fail
def R5:List Lf→Option (List ByteArray)
 | []=>some []
 | .str s :: r=>(match R5 r with | some l=>some (s :: l) | none=>none)
 | _=>none
def Jc (E:Env) (fr:Fr) (ch:List (Nat×Bool)) (t:Nat) (x i:Operand):Res :=
 match lkp E.ty t,opl fr ch x,op1 fr ch i with
 | some (.ar _ _ n),some (true,cs),some (.int _ j)=>(match R5 cs with
  | some l=>bif Nat.beq l.length n then val (decide (0≤j)&&decide (j<(n:Int))) (.str (l.getD j.toNat ByteArray.empty)) else .fail
  | none=>.fail)
 | _,_,_=>.fail
def My (E:Env) (fr:Fr) (ch:List (Nat×Bool)) (t:Nat) (x i:Operand):Res :=
 match lkp E.ty t,op1 fr ch x,op1 fr ch i with
 | some (.sc .str),some (.str s),some (.int _ j)=>val (decide (0≤j)&&decide (j<(s.size:Int))) (.int .u8 ((s.data.getD j.toNat 0).toNat:Int))
 | _,_,_=>Jc E fr ch t x i
def Mz (E:Env) (fr:Fr) (ch:List (Nat×Bool)) (t:Nat) (x:Operand) (lo hi:Option Operand):Res :=
 match op1 fr ch x with
 | some (.str s)=>match lkp E.ty t,bnd fr ch 0 lo,bnd fr ch s.size hi with
  | some (.sc .str),some l,some h=>val (decide (0≤l)&&decide (l≤h)&&decide (h≤(s.size:Int))) (.str (s.extract l.toNat h.toNat))
  | _,_,_=>.fail
 | some v=>match Ce fr v with
  | some (r,q,b,n)=>bif Ih E t q then (
   match bnd fr ch 0 lo,bnd fr ch n hi with
   | some l,some h=>val (decide (0≤l)&&decide (l≤h)&&decide (h≤n)) (.view r (b+l) (b+h))
   | _,_=>.fail) else .fail
  | none=>.fail
 | none=>.fail
def MA (E:Env) (fr:Fr) (ch:List (Nat×Bool)) (t:Nat) (parts:List (Nat×Operand)):Res :=
 match (lkp E.ty t).bind Ty.parts with
 | some (s,fs)=>bif s.data then (
   let q:=Aa .own s s.dfl fr.rw.length
   match Ms fr ch fs parts q.1 with
   | some cs=>.done true (some (.v true cs)) q.2 [] .pure
   | none=>.fail) else .fail
 | _=>.fail
def MB (fr:Fr) (ch:List (Nat×Bool)) (sz:Nat):List (Nat×Operand)→List Lf→Option (List Lf)
 | [],cs=>some cs
 | (i,x) :: r,cs=>match opl fr ch x with
  | some (_,vs)=>bif Nat.beq vs.length sz&&Nat.ble (i*sz+sz) cs.length then MB fr ch sz r (D4 cs (i*sz) vs) else none
  | none=>none
def FU (fr:Fr) (ch:List (Nat×Bool)) (e:Nat) (s:Sh) (n:Nat) (parts:List (Nat×Operand)):Res :=
 match Hc s with
 | some z=>(match MB fr ch s.n parts (List.replicate n z).flatten with
  | some cs=>bif Nat.ble (n*s.n) 16777216 then .done true (some (.l (.bsl fr.bx.length e n))) [] [⟨true,cs⟩] .pure else .fail
  | none=>.fail)
 | none=>.fail
def D5 (E:Env) (fr:Fr) (ch:List (Nat×Bool)) (t n:Nat) (parts:List (Nat×Operand)):Res :=
 match slT E t with
 | some (e,s,_)=>match EC fr ch fr.rw.length s parts (List.replicate n s.dfl) fr.rw with
  | some (xs,rw)=>bif Nat.ble (n*s.n) 16777216 then .done true (some (.l (.row fr.rw.length))) [⟨e,s,xs,.own⟩] [] (bif s.flat then .pure else .tab rw) else .fail
  | none=>FU fr ch e s n parts
 | none=>.fail
def Qx (E:Env) (fr:Fr) (ch:List (Nat×Bool)) (t:Nat) (x y:Operand):Res :=
 match slT E t,op1 fr ch x,op1 fr ch y with
 | some (e,s,b),some (.int .i64 n),some (.int .i64 c)=>.done (decide (0≤n)&&Nat.ble n.toNat (lim b)&&(n==c)) (some (.l (.row fr.rw.length))) [⟨e,s,List.replicate n.toNat s.dfl,.own⟩] [] .pure
 | _,_,_=>.fail
def Iq:List (Bool×List Lf)→Option (List Nat)
 | []=>some []
 | (false,[.box b 0]) :: r=>match Iq r with | some bs=>some (b :: bs) | none=>none
 | _=>none
def Qy (fr:Fr) (ch:List (Nat×Bool)) (f:Fn) (first captured:List Operand):Res :=
 match f,first,UD fr ch captured with
 | .func g,[],some vs=>match Iq vs with
  | some bs=>val true (.fn g bs)
  | none=>.fail
 | _,_,_=>.fail
def He (E:Env) (fr:Fr) (ch:List (Nat×Bool)) (src t:Nat) (x:Operand):Res :=
 match op1 fr ch x with
 | some (.int _ n)=>match lkp E.ty src,lkp E.ty t with
  | some _,some (.sc (.int k))=>val true (.int k (k.wrap n))
  | _,_=>.fail
 | some (.row i)=>match slT E src,lkp E.ty t,at? fr.rw i with
  | some (e,_,_),some (.sc .str),some r=>(match lkp E.ty e with
   | some (.sc (.int .u8))=>if h:r.s=.int .u8 then val true (.str (strOfNums (CT h r.xs))) else .fail
   | _=>.fail)
  | _,_,_=>.fail
 | _=>.fail
def Hf (fr:Fr) (ch:List (Nat×Bool)) (x:Operand) (i:Nat):Res :=
 match opd fr ch x with
 | some (.tup vs)=>match vs[i]? with | some (ag,cs)=>vals ag cs | none=>.fail
 | _=>.fail
def VX (E:Env) (fr:Fr) (ch:List (Nat×Bool)) (as:List Operand) (ts:List Nat):Res :=
 match as,ts with
 | [x],[t]=>match lkp E.ty t,op1 fr ch x with
  | some (.sc .str),some (.str s)=>val true (.int .i64 s.size)
  | some (.sl _ _ _),some .nil=>val true (.int .i64 0)
  | some (.sl _ _ _),some v=>match Ce fr v with | some (_,_,_,n)=>val true (.int .i64 n) | none=>.fail
  | _,_=>.fail
 | _,_=>.fail
def Qz (E:Env) (fr:Fr) (ch:List (Nat×Bool)) (as:List Operand) (ts:List Nat):Res :=
 match as,ts with
 | [x],[t]=>(match op1 fr ch x with
  | some (.mp i)=>I0 E fr t i
  | _=>VX E fr ch [x] [t])
 | _,_=>.fail
def Jd (E:Env) (fr:Fr) (ch:List (Nat×Bool)) (as:List Operand) (ts:List Nat):Res :=
 match as,ts with
 | [x,y],[t,t']=>match op1 fr ch x,op1 fr ch y with
  | some v,some u=>bif Nat.beq t t' then Jb E fr t v u else .fail
  | _,_=>.fail
 | _,_=>.fail
def clr {α:Type} (xs:List α) (lo hi:Nat) (d:α):List α:=xs.take lo++List.replicate (hi-lo) d++xs.drop hi
def MC (E:Env) (fr:Fr) (ch:List (Nat×Bool)) (as:List Operand) (ts:List Nat):Res :=
 match as,ts with
 | [x],[t]=>match op1 fr ch x with
  | some v=>match Ce fr v with
   | some (i,r,lo,len)=>bif r.m.mine&&r.s.flat&&Ih E t r then .done true none [] [] (.tab (Ad i (AC fr.rw i (some { r with xs:=clr r.xs lo.toNat (lo+len).toNat r.s.dfl })))) else .fail
   | none=>.fail
  | none=>.fail
 | _,_=>.fail
def QA (E:Env) (fr:Fr) (ch:List (Nat×Bool)) (as:List Operand) (ts:List Nat):Res :=
 match as,ts with
 | [x,y],[t,t']=>match op1 fr ch x,op1 fr ch y with
  | some v,some u=>match Ce fr v,Ce fr u with
   | some (i,r,lo,len),some (_,p,lo',len')=>if h:p.s=r.s then (bif r.m.mine&&r.s.flat&&Nat.beq r.s.n 1&&Ih E t r&&Ih E t' p then
     .done true (some (.l (.int .i64 (bif decide (len≤len') then len else len')))) [] [] (.set i r.e r.s (r.xs.take lo.toNat++(((CT h p.xs).take (lo'+len').toNat).drop lo'.toNat).take (bif decide (len≤len') then len else len').toNat++r.xs.drop (lo.toNat+(bif decide (len≤len') then len else len').toNat))) else .fail) else .fail
   | _,_=>.fail
  | _,_=>.fail
 | _,_=>.fail
def R6 (big:Bool) (fr:Fr) (ch:List (Nat×Bool)) (as:List Operand):Res :=
 match as with
 | [x,y]=>match op1 fr ch x,op1 fr ch y with
  | some (.int k a),some (.int k' b)=>if k=k' then val true (.int k (bif big then (if b>a then b else a) else (if b<a then b else a))) else .fail
  | _,_=>.fail
 | _=>.fail
def QB (E:Env) (fr:Fr) (ch:List (Nat×Bool)) (f:Operand) (as:List Operand):Res :=
 match op1 fr ch f,UD fr ch as with
 | some (.fn g caps),some vs=>match lkp E.fs g with
  | some m=>(match Cv E fr m (vs++caps.map fun b=>(false,[Lf.box b 0])) with
   | .fail=>HV E fr m (vs++caps.map fun b=>(false,[Lf.box b 0]))
   | r=>r)
  | none=>(match caps with
   | []=>(match lkp E.pf g with
    | some m=>I5 E fr m vs
    | none=>(match lkp E.nf g with
     | some m=>Ja E fr m vs
     | none=>.fail))
   | _ :: _=>.fail)
 | some (.fv1 a r φ),some vs=>Cv E fr ⟨[(.ro,a)],[r],fun x=>φ x.1⟩ vs
 | some (.fv2 a b r φ),some vs=>Cv E fr ⟨[(.ro,a),(.ro,b)],[r],fun x=>φ x.1 x.2.1⟩ vs
 | _,_=>.fail
def Ey (E:Env) (fr:Fr) (ch:List (Nat×Bool)) (o:Oper):Res :=
 match o.op with
 | .move x=>Mu E fr ch o.type x
 | .assign x=>Mu E fr ch o.type x
 | .binOp op t x y _=>VU E fr ch op t x y
 | .unOp op _ x=>Ad0 fr ch op x
 | .pick c a b=>Qv fr ch c a b
 | .box _ x=>VV fr ch x
 | .alloc t=>Mv E fr t
 | .nilCheck x=>VW fr ch x
 | .fieldAddr s x f=>ED E fr ch s x f
 | .field t x f=>Mw E fr ch t x f
 | .load t x=>Qw E fr ch t x
 | .store t a x=>Mx E fr ch t a x
 | .indexAddr t x i=>EF E fr ch t x i
 | .index t x i=>My E fr ch t x i
 | .slice t x lo hi none=>Mz E fr ch t x lo hi
 | .build t parts=>MA E fr ch t parts.toList
 | .buildSlice t n parts=>D5 E fr ch t n parts.toList
 | .makeSlice t x y=>Qx E fr ch t x y
 | .makeFunc f first captured=>Qy fr ch f first.toList captured.toList
 | .convert s t x=>He E fr ch s t x
 | .extract x i=>Hf fr ch x i
 | .makeMap t r=>Hd E fr t r
 | .lookup t x ix ok=>IZ E fr ch t x ix ok
 | .mapUpdate t m k x=>Dn E fr ch t m k x
 | .insert t m k x=>Dn E fr ch t m k x
 | .call c=>match c.callee with
  | .builtin .len=>Qz E fr ch c.args.toList c.argTypes.toList
  | .builtin .append=>Jd E fr ch c.args.toList c.argTypes.toList
  | .builtin .copy=>QA E fr ch c.args.toList c.argTypes.toList
  | .builtin .clear=>MC E fr ch c.args.toList c.argTypes.toList
  | .builtin .max=>R6 true fr ch c.args.toList
  | .builtin .min=>R6 false fr ch c.args.toList
  | .value f=>QB E fr ch f c.args.toList
  | _=>.fail
 | _=>.fail

def AV.waits (t:Nat):AV→Bool
 | .grd c _ _ _=>c.any fun p=>Nat.beq p.1 t
 | _=>false
def KI (nt:Nat) (sl:List (Nat×AV)) (d:Option Nat) (v:Option AV):Option (List (Nat×AV)) :=
 match d with
 | none=>some sl
 | some t=>bif Nat.blt t nt then
   let sl:=sl.filter fun p=>!p.2.waits t
   (match v with
   | some v=>bif v.waits t then none else some (ins sl t v)
   | none=>some (sl.filter fun p=>!Nat.beq p.1 t)) else none
def DI (fr:Fr) (d:Option Nat) (v:Option AV):Option Fr :=
 match KI fr.nt fr.sl d v with
 | some sl=>some { fr with sl:=sl }
 | none=>none
def UE (i e:Nat) (s:Sh) (xs:List s.T) (rw:List (Option Ab)):List (Option Ab):=Ad i (AC rw i ((at? rw i).map fun r=>⟨e,s,xs,r.m⟩))
def EG (is:List Nat) (rw:List (Option Ab)):List (Option Ab):=is.foldl (fun rw i=>Ad i (AC rw i none)) rw
def C9 (a b:List (Option Ab)):List Nat:=(List.range a.length).filter fun i=>match at? a i,at? b i with | some _,none=>true | _,_=>false
def MD (ps:List (PM×Sh)):Bool:=ps.all fun p=>p.1==.ro||p.1==.cap||p.1==.mv
def upd (fr:Fr) (nr:List Ab) (nb:List A8) (ef:Eff):Fr :=
 match ef with
 | .pure=>{ fr with bx:=fr.bx++nb.map some,rw:=fr.rw++nr.map some }
 | .box i b=>{ fr with bx:=AC fr.bx i (some b)++nb.map some,rw:=fr.rw++nr.map some }
 | .tab rw=>{ fr with bx:=fr.bx++nb.map some,rw:=rw++nr.map some }
 | .gone is=>{ fr with bx:=fr.bx++nb.map some,rw:=EG is fr.rw++nr.map some }
 | .set i e s xs=>{ fr with bx:=fr.bx++nb.map some,rw:=UE i e s xs fr.rw++nr.map some }
def AE (g:Bool) (r:Ab):Ab:={ r with xs:=bif g then r.xs else [],m:=match r.m with | .bor p _=>.bor p none | m=>m }
def BE (fr:Fr) (r:Ab):Bool :=
 match r.m with
 | .own | .ro=>true
 | .io=>false
 | .bor p _=>match at? fr.rw p with | some r=>r.m.mine | none=>false
def EH (ch:List (Nat×Bool)) (g:Bool):AV→Option AV
 | .v ag cs=>some (.grd ch g ag cs)
 | _=>none
def Ir (all:List Oper) (fr:Fr) (i:Nat) (want:Bool):Option (List (Nat×Bool)×Bool) :=
 match (all[i]?).bind (·.dst) with
 | none=>none
 | some s=>match lkp fr.sl s with
  | some (.v false [.bool b])=>some ([(s,want)],bif want then b else !b)
  | some (.grd c g false [.bool b])=>some ((s,want) :: c,g&&(bif want then b else !b))
  | _=>none
def CD (fr:Fr):Eff→Bool | .tab rw=>Nat.beq rw.length fr.rw.length | .box i _=>Nat.blt i fr.bx.length | .pure=>true | .gone _=>true | .set i _ _ _=>(match at? fr.rw i with | some r=>r.m.mine | none=>false)
def AcM:Eff→Bool | .box _ _=>true | _=>false
def EI:Eff→Bool | .pure=>true | _=>false
def Gk (E:Env) (fr:Fr) (ch:List (Nat×Bool)) (o:Oper):Res:=.fail
def Gl {R:Type} (fr:Fr) (d:Option Nat) (v:AV) (k:Fr→Option R):Option R:=match DI fr d (some v) with | some fr'=>k fr' | none=>none
def VY {R:Type} (E:Env) (fr:Fr) (m:Qs) (vs:List (Bool×List Lf)) (d:Option Nat) (k:Fr→Option R):Option R :=
 match vs with
 | (false,[.box i 0]) :: vs'=>match at? fr.bx i with
  | some b=>bif b.own&&(BA b.cs&&(m.c.agg&&(m.c.data&&(m.ps.all (fun p=>p.1==.ro)&&m.rs.all Sh.data)))) then (
   match BB ((.mv,m.c) :: m.ps) ((true,b.cs) :: vs') fr.rw with
   | some rw1=>(match BW E { fr with bx:=AC fr.bx i none } rw1 ((.mv,m.c) :: m.ps) ((true,b.cs) :: vs') fr.rw with
    | some x=>(m.F x).bind fun y =>
      let q:=Al (m.c :: m.rs) y fr.rw.length
      Gl { nt:=fr.nt,sl:=fr.sl,bx:=AC fr.bx i (some ⟨true,(Aa .own m.c (RT.hd y) fr.rw.length).1⟩),rw:=rw1++q.2.map some } d (one q.1.tail) k
    | none=>none)
   | none=>none) else none
  | none=>none
 | _=>none
def KJ (p n:Nat):Lf→Lf
 | .row i=>.row (bif Nat.beq i p then n else i)
 | .view i lo hi=>.view (bif Nat.beq i p then n else i) lo hi
 | .elem i j off=>.elem (bif Nat.beq i p then n else i) j off
 | l=>l
def AV.mv (p n:Nat):AV→AV
 | .v ag cs=>.v ag (cs.map (KJ p n))
 | .tup vs=>.tup (vs.map fun q=>(q.1,q.2.map (KJ p n)))
 | .grd c g ag cs=>.grd c g ag (cs.map (KJ p n))
def mvFr (p n:Nat) (fr:Fr):Fr:={ nt:=fr.nt,sl:=fr.sl.map (fun q=>(q.1,q.2.mv p n)),bx:=fr.bx.map (fun b=>b.map fun b=>{ b with cs:=b.cs.map (KJ p n) }),rw:=fr.rw }
def Je {R:Type} (E:Env) (fr:Fr) (t:Nat) (x y:Lf) (d:Option Nat) (k:Fr→Option R):Option R :=
 match slT E t,x,y with
 | some (e,s,b),.row i,.bsl bb _ 1=>(match at? fr.rw i,at? fr.bx bb with
  | some ⟨ei,.list e1 s1,xs,.own⟩,some ⟨_,[.row j]⟩=>(match at? fr.rw j with
   | some ⟨_,_,_,.bor p (some (kk,0))⟩=>(match at? fr.rw p with
    | some ⟨ep,.ol e2 s2,ps,.own⟩ =>
     if h1:s=.list e1 s1 then (if h2:s2=s1 then (
      bif Nat.beq ei e&&Nat.beq e2 e1&&(ps.getD kk.toNat none).isSome&&Nat.ble (xs.length+1) (lim b) then (
      let N:=fr.rw.length
      let ys:=CT h2 ((ps.getD kk.toNat none).getD [])
      let rwA:=Ad p (AC fr.rw p none)++[some ⟨ep,.ol e2 s2,ps.set kk.toNat none,.own⟩,some ⟨e1,s1,ys,.own⟩]
      Gl (mvFr p N { nt:=fr.nt,sl:=fr.sl,bx:=fr.bx,rw:=Ad (N+1) (AC (Ad i (AC rwA i none)) (N+1) none)++[some ⟨e,.list e1 s1,xs++[ys],.own⟩] }) d (.l (.row (N+2))) k)
      else none) else none) else none
    | _=>none)
   | _=>none)
  | _,_=>none)
 | _,_,_=>none
def AfR {α R:Type} (o:Option α) (n:Option R) (s:α→Option R):Option R:=match o with | none=>n | some x=>s x
def VZ {R:Type} (E:Env) (fr:Fr) (m:Gi) (vs:List (Bool×List Lf)) (d:Option Nat) (k:Fr→Option R):Option R :=
 bif m.c.data&&(m.ps.all (fun p=>p.1==.ro)&&m.rs.all Sh.data) then (
  match BW E fr fr.rw m.ps vs fr.rw with
  | some x=>(m.F x).bind fun y=>AfR y.1
    (let q:=Al m.rs y.2 fr.rw.length
    Gl { nt:=fr.nt,sl:=fr.sl,bx:=fr.bx,rw:=fr.rw++q.2.map some } d (one ((false,[.und]) :: q.1)) k)
    (fun z =>
     let q:=Al (m.c :: m.rs) (RT.mk z y.2) fr.rw.length
     Gl { nt:=fr.nt,sl:=fr.sl,bx:=fr.bx++[some ⟨true,(Aa .own m.c z fr.rw.length).1⟩],rw:=fr.rw++q.2.map some } d (one ((false,[.box fr.bx.length 0]) :: q.1.tail)) k)
  | none=>none) else none
def V0 {R:Type} (E:Env) (fr:Fr) (m:Gi) (vs:List (Bool×List Lf)) (d:Option Nat) (k:Fr→Option R):Option R :=
 bif m.c.data&&m.c.agg&&(m.ps.all (fun p=>p.1==.ro)&&m.rs.all Sh.data) then (
  match BW E fr fr.rw m.ps vs fr.rw with
  | some x=>(m.F x).bind fun y=>AfR y.1
    (let q:=Al m.rs y.2 fr.rw.length
    Gl { nt:=fr.nt,sl:=fr.sl,bx:=fr.bx,rw:=fr.rw++q.2.map some } d (one ((true,List.replicate m.c.n .und) :: q.1)) k)
    (fun z =>
     let q:=Al (m.c :: m.rs) (RT.mk z y.2) fr.rw.length
     Gl { nt:=fr.nt,sl:=fr.sl,bx:=fr.bx,rw:=fr.rw++q.2.map some } d (one q.1) k)
  | none=>none) else none
def opX {R:Type} (E:Env) (o:Oper) (fr:Fr) (k:Fr→Option R):Option R :=
 match o.op with
 | .call c=>(match c.callee with
  | .value x=>(match op1 fr [] x,UD fr [] c.args.toList with
   | some (.fn f []),some vs=>(match lkp E.qf f with
    | some m=>VY E fr m vs o.dst k
    | none=>(match lkp E.cf f with
     | some m=>VZ E fr m vs o.dst k
     | none=>(match lkp E.xf f with
      | some m=>V0 E fr m vs o.dst k
      | none=>none)))
   | _,_=>none)
  | .builtin .append=>(match c.args.toList,c.argTypes.toList with
   | [x,y],[t,t']=>(match op1 fr [] x,op1 fr [] y with
    | some v,some u=>bif Nat.beq t t' then Je E fr t v u o.dst k else none
    | _,_=>none)
   | _,_=>none)
  | _=>none)
 | _=>none
def opK {R:Type} (E:Env) (all:List Oper) (o:Oper) (fr:Fr) (k:Fr→Option R):Option R :=
 match o.guard with
 | none=>match Ey E fr [] o with
  | .fail=>opX E o fr k
  | .done req v nr nb ef=>bif CD fr ef then (bif req then (match DI (upd fr nr nb ef) o.dst v with | some fr'=>k fr' | none=>none) else none) else none
  | .call m x vs rw quiet=>x.bind fun y =>
    let r:=Ah fr m vs rw quiet y
    bif CD fr r.2.2 then (match DI (upd fr r.2.1 [] r.2.2) o.dst (some r.1) with | some fr'=>k fr' | none=>none) else none
  | .callE _ x _ f=>x.bind fun y=>bif CD fr (f y).ef then (match DI (upd fr (f y).nr (f y).nb (f y).ef) o.dst (some (f y).v) with | some fr'=>k fr' | none=>none) else none
 | some (i,want)=>match Ir all fr i want with
  | none=>none
  | some (ch,g)=>match Ey E fr ch o with
   | .fail=>none
   | .done req v nr nb ef=>bif nb.isEmpty&&EI ef&&nr.all (BE fr) then (bif req||!g then (match v.bind (EH ch g) with
     | some v=>match DI (upd fr (nr.map (AE g)) [] .pure) o.dst (some v) with | some fr'=>k fr' | none=>none
     | none=>none) else none) else none
   | .call m x vs rw quiet=>bif quiet then ((bif g then x else some (RT.dfl _)).bind fun y =>
     let r:=Ah fr m vs rw true y
     bif r.2.1.all (BE fr) then (match EH ch g r.1 with
     | some v=>match DI (upd fr (r.2.1.map (AE g)) [] .pure) o.dst (some v) with | some fr'=>k fr' | none=>none
     | none=>none) else none) else none
   | .callE _ _ _ _=>match Gk E fr ch o with
    | .callE _ x (some z) f=>(bif g then x else some z).bind fun y=>bif (f y).nb.isEmpty&&AcM (f y).ef&&CD fr (f y).ef&&(f y).nr.all (BE fr) then (match EH ch g (f y).v with
     | some v=>match DI (upd fr ((f y).nr.map (AE g)) [] (f y).ef) o.dst (some v) with | some fr'=>k fr' | none=>none
     | none=>none) else none
    | _=>none
def R7 (rw:List (Option Ab)):AV→List (Option Ab)
 | .v false [.row i]=>(match at? rw i with
  | some ⟨e,.list e1 s1,xs,.own⟩=>AC rw i (some ⟨e,.ol e1 s1,xs.map some,.own⟩)
  | _=>rw)
 | _=>rw
def Is (kp:List Nat) (sl:List (Nat×AV)) (rw:List (Option Ab)):List (Option Ab) :=
 kp.foldl (fun rw n=>bif Nat.ble 1000000 n then (match lkp sl (n-1000000) with | some v=>R7 rw v | none=>rw) else rw) rw
def V1 (E:Env) (fr:Fr):Fr:={ fr with sl:=fr.sl.filter (fun p=>match p.2 with | .grd _ _ _ _=>false | _=>E.kp.any (Nat.beq p.1)),rw:=Is E.kp fr.sl fr.rw }
def Jf {R:Type} (E:Env) (all:List Oper):List Oper→Fr→(Fr→Option R)→Option R
 | [],fr,k=>k (V1 E fr)
 | o :: rest,fr,k=>opK E all o fr fun fr'=>Jf E all rest fr' k

def FV (l:List Nat):List Nat→List Nat
 | []=>l
 | i :: r=>bif l.any (Nat.beq i) then FV l r else FV (l++[i]) r

def has (l:List Nat) (i:Nat):Bool:=l.any (Nat.beq i)
def Jg (bs:List (List Nat)) (o:Oper):List Nat:=o.after.toList.foldl (fun s e=>bif Region.binds .any e then FV (FV s [e.on]) (bs.getD e.on []) else s) []
def ME:List Oper→List (List Nat)→List (List Nat)
 | [],bs=>bs
 | o :: r,bs=>ME r (bs++[Jg bs o])
def CY:List Oper→Nat→Bool
 | [],_=>true
 | o :: r,i=>(o.after.toList.all fun e=>!Region.binds .any e||Nat.blt e.on i)&&(match o.op with | .select _ _=>false | _=>true)&&CY r (i+1)
def inc (bs:List (List Nat)) (i j:Nat):Bool:=!Nat.beq i j&&!has (bs.getD j []) i&&!has (bs.getD i []) j
def AcN (fr:Fr):Operand→Option Nat
 | .tmp a=>(match lkp fr.sl a with
  | some (.v false [.box k _])=>bif Nat.blt k fr.bx.length then some k else none
  | _=>none)
 | _=>none
def ZA (all:List Oper):Operand→Operand
 | .tmp a=>(match all.find? fun o=>match o.dst with | some d=>Nat.beq d a | none=>false with
  | some o=>(match o.op with | .move (.tmp b)=>.tmp b | _=>.tmp a)
  | none=>.tmp a)
 | x=>x
def Gm (all:List Oper) (fr:Fr) (o:Oper):Option Nat :=
 match o.op with
 | .store _ x _=>AcN fr x
 | .call c=>(match c.args.toList with
  | x :: _=>(match AcN fr (ZA all x) with
   | some k=>(match at? fr.bx k with
    | some b=>(match b.cs with | .row _ :: _=>some k | _=>none)
    | none=>some k)
   | none=>none)
  | []=>none)
 | _=>none
structure Dr where
 ops:List Oper
 bs:List (List Nat)
 n:Nat
 ds:List (Option Nat)
def Dr.of (ops:List Oper):Dr:=⟨ops,ME ops [],ops.length,ops.map (·.dst)⟩
def EJ (v:AV):Option Nat→Bool | some d=>v.waits d | none=>false
def Cw (fr:Fr) (ds:List (Option Nat)):Bool:=fr.sl.all fun p=>match p.2 with | .grd _ _ _ _=>ds.all fun d=>!EJ p.2 d | _=>true
def neO:Option Nat→Option Nat→Bool | some a,some b=>!Nat.beq a b | _,_=>true
def inO (ds:List (Option Nat)) (t:Nat):Bool:=ds.any fun d=>match d with | some d=>Nat.beq d t | none=>false
def EK {α:Type} (l:List (Option α)) (is:List Nat):List (Option α):=is.foldl (fun l i=>AC l i none) l
def MF (rw:List (Option Ab)) (r:Option Ab):Option Ab :=
 match r with
 | some q=>(match q.m with | .bor p _=>(match at? rw p with | some q'=>bif q'.m.mine then r else none | none=>none) | _=>r)
 | none=>none
def AF (o:Oper):Bool:=match o.op with | .move _=>true | _=>false
def Eo (fr:Fr) (z:Bool) (ds:List (Option Nat)) (rs bs:List Nat):Fr :=
 let rw:=EK fr.rw rs
 {nt:=fr.nt,sl:=fr.sl.filter fun p=>!inO ds p.1,bx:=EK fr.bx bs,rw:=rw.map fun r=>bif z then none else MF rw r }
structure FW where
 r0:Nat
 rn:Nat
 b0:Nat
 bn:Nat
 et:Option Nat
 pr:List (Option Nat)
def V2 (D:Dr) (fr:Fr) (j:Nat):Option Nat:=(D.ops.map (Gm D.ops fr)).getD j none
def BI (D:Dr) (z:Bool) (I:List Nat) (st:List FW) (fr:Fr):Fr :=
 Eo fr z (I.map fun j=>D.ds.getD j none)
  (I.flatMap fun j=>match st[j]? with | some p=>List.range' p.r0 p.rn | none=>[])
  ((I.flatMap fun j=>match st[j]? with | some p=>List.range' p.b0 p.bn | none=>[])++I.filterMap fun j=>match st[j]? with | some p=>p.et | none=>V2 D fr j)
def MG (st:List FW) (i j:Nat):Option Nat→Bool
 | none=>true
 | some k=>(match st[j]? with
  | some p=>(match p.pr.getD i none with | some k'=>Nat.beq k k' | none=>false)||Nat.ble p.b0 k
  | none=>true)
def Gn (req:Bool) (ws:List (Option Nat)) (d:Option Nat) (v:Option AV):Bool :=
 (match v with | some v=>ws.all fun w=>!EJ v w | none=>(match d with | none=>true | some _=>false))&&req
def AfS (st:List FW) (I:List Nat) (i:Nat):Bool:=I.all fun j=>match st[j]? with | some p=>Nat.ble p.r0 i | none=>true
def AfT (D:Dr) (I:List Nat):Bool:=I.all fun j=>match D.ops[j]? with | some o=>AF o | none=>false
def Ep (s:Fr) (frw:List (Option Ab)) (m:Nat) (lo:Nat→Bool) (al:Bool) (tg:Option Nat) (nb:List A8):Eff→Bool
 | .pure=>true
 | .box j _=>nb.isEmpty&&Nat.blt j m&&(match tg with | some k=>Nat.beq j k | none=>false)&&(match at? s.bx j with | some _=>true | none=>false)
 | .tab _=>false
 | .gone is=>nb.isEmpty&&is.all fun i=>(lo i||al)&&(match at? s.rw i with | some _=>true | none=>false)
 | .set i _ _ _=>nb.isEmpty&&al&&(match at? s.rw i with | some _=>true | none=>false)&&(match at? frw i with | some r=>r.m.mine | none=>false)
def opD {R:Type} (E:Env) (all:List Oper) (o:Oper) (tg:Option Nat) (lo:Nat→Bool) (al:Bool) (ws:List (Option Nat)) (s fr:Fr) (k:Fr→Option R):Option R :=
 match o.guard with
 | none=>match Ey E s [] o with
  | .fail=>none
  | .done req v nr nb ef=>bif Ep s fr.rw fr.bx.length lo al tg nb ef&&(!AF o||EI ef)&&nr.all (BE s)&&Gn req ws o.dst v then (match DI (upd fr nr nb ef) o.dst v with | some fr'=>k fr' | none=>none) else none
  | .call m x vs rw quiet=>bif quiet then (x.bind fun y =>
    let r:=Ah s m vs rw true y
    bif r.2.1.all (BE s)&&Gn true ws o.dst (some r.1) then (match DI (upd fr r.2.1 [] .pure) o.dst (some r.1) with | some fr'=>k fr' | none=>none) else none) else
    bif MD m.ps&&!AF o&&((C9 s.rw rw).all fun i=>lo i||al) then (x.bind fun y =>
    let r:=Ah s m vs rw true y
    bif r.2.1.all (BE s)&&Gn true ws o.dst (some r.1) then (match DI (upd fr r.2.1 [] (.gone (C9 s.rw rw))) o.dst (some r.1) with | some fr'=>k fr' | none=>none) else none) else none
  | .callE _ x _ f=>x.bind fun y=>bif Ep s fr.rw fr.bx.length lo al tg (f y).nb (f y).ef&&(!AF o||EI (f y).ef)&&(f y).nr.all (BE s)&&Gn true ws o.dst (some (f y).v) then (match DI (upd fr (f y).nr (f y).nb (f y).ef) o.dst (some (f y).v) with | some fr'=>k fr' | none=>none) else none
 | some (i,want)=>match Ir all s i want with
  | none=>none
  | some (ch,g)=>match Ey E s ch o with
   | .fail=>none
   | .done req v nr nb ef=>bif nb.isEmpty&&EI ef&&nr.all (BE s) then (match v.bind (EH ch g) with
     | some v=>bif Gn (req||!g) ws o.dst (some v) then (match DI (upd fr (nr.map (AE g)) [] .pure) o.dst (some v) with | some fr'=>k fr' | none=>none) else none
     | none=>none) else none
   | .call m x vs rw quiet=>bif quiet then ((bif g then x else some (RT.dfl _)).bind fun y =>
     let r:=Ah s m vs rw true y
     bif r.2.1.all (BE s) then (match EH ch g r.1 with
     | some v=>bif Gn true ws o.dst (some v) then (match DI (upd fr (r.2.1.map (AE g)) [] .pure) o.dst (some v) with | some fr'=>k fr' | none=>none) else none
     | none=>none) else none) else none
   | .callE _ _ _ _=>none
def BO (D:Dr) (i:Nat):List Nat:=(List.range D.n).filter (inc D.bs i)
def QC (D:Dr) (tg:Option Nat) (a b:Fr):FW:=⟨a.rw.length,b.rw.length-a.rw.length,a.bx.length,b.bx.length-a.bx.length,tg,D.ops.map (Gm D.ops a)⟩
def Gq {R:Type} (E:Env) (D:Dr):List Oper→Nat→List FW→Fr→(Fr→Option R)→Option R
 | [],_,_,fr,k=>k (V1 E fr)
 | o :: rest,i,st,fr,k =>
  let I:=BO D i
  match I with
  | []=>opK E D.ops o fr fun fr'=>bif Nat.ble fr.bx.length fr'.bx.length&&Cw fr' (D.ds.drop (i+1)) then Gq E D rest (i+1) (st++[⟨0,0,0,0,none,[]⟩]) fr' k else none
  | _ =>
   let s:=BI D (AF o) I st fr
   let tg:=Gm D.ops s o
   bif I.all fun j=>neO (D.ds.getD i none) (D.ds.getD j none)&&MG st i j tg then
    opD E D.ops o tg (AfS st I) (AfT D I) (I.map fun j=>D.ds.getD j none) s fr fun fr'=>bif Cw fr' (D.ds.drop (i+1)) then Gq E D rest (i+1) (st++[QC D tg fr fr']) fr' k else none
   else none
def It {R:Type} (E:Env) (ops:List Oper) (fr:Fr) (k:Fr→Option R):Option R :=
 let D:=Dr.of ops
 bif CY ops 0&&Cw fr D.ds then Gq E D ops 0 [] fr k else none

inductive Ex where | normal | exit (id:Nat) | ret
def Lf.rowOf:Lf→List Nat
 | .row i | .view i _ _ | .elem i _ _=>[i]
 | _=>[]
def QD (cs:List Lf):List Nat:=cs.flatMap Lf.rowOf
def AV.rows:AV→List Nat
 | .v _ cs | .grd _ _ _ cs=>QD cs
 | .tup vs=>vs.flatMap fun p=>QD p.2
def R8 (rw:List (Option Ab)) (l:List Nat):List Nat :=
 l.flatMap fun i=>match at? rw i with
  | some r=>(match r.m with | .bor p _=>[p,i] | _=>[i])
  | none=>[]
def DJ:List Nat→Nat→Option Nat
 | [],_=>none
 | j :: r,i=>bif Nat.beq j i then some 0 else (match DJ r i with | some n=>some (n+1) | none=>none)
def MH (bm:List Nat):List Nat→Option (List Nat)
 | []=>some []
 | i :: r=>match DJ bm i,MH bm r with | some j,some l=>some (j :: l) | _,_=>none
def Lf.ren (bm pm:List Nat):Lf→Option Lf
 | .row i=>(DJ pm i).map .row
 | .view i lo hi=>(DJ pm i).map fun i=>.view i lo hi
 | .elem i j off=>(DJ pm i).map fun i=>.elem i j off
 | .box i off=>(DJ bm i).map fun i=>.box i off
 | .mp i=>(DJ bm i).map .mp
 | .bsl i e n=>(DJ bm i).map fun i=>.bsl i e n
 | .fn g caps=>(MH bm caps).map fun caps=>.fn g caps
 | l=>some l
def ZB (bm pm:List Nat):List Lf→Option (List Lf)
 | []=>some []
 | l :: r=>match l.ren bm pm,ZB bm pm r with | some l,some r=>some (l :: r) | _,_=>none
def AV.ren (bm pm:List Nat):AV→Option AV
 | .v ag cs=>match ZB bm pm cs with | some cs=>some (.v ag cs) | none=>none
 | _=>none
def Md.ren (pm:List Nat):Md→Option Md
 | .bor p a=>(DJ pm p).map fun p=>.bor p a
 | m=>some m
def AV.bx:AV→Option Nat
 | .v false [.box k 0]=>some k
 | _=>none
def Ob (base:List (Nat×AV)):List (Nat×AV)→List Nat→List Nat
 | [],bm=>bm
 | (t,v) :: r,bm=>Ob base r (match v.bx,(lkp base t).bind AV.bx with
  | some k',some k=>bif Nat.blt k' bm.length then bm else bm.set k k'
  | _,_=>bm)
def AcO:List Nat→Bool
 | i :: _=>Nat.beq i 0
 | []=>true
def Oc:List Nat→Bool
 | []=>true
 | i :: r=>!(r.any (Nat.beq i))&&Oc r
def Hg (m:Nat) (base cur:List (Nat×AV)):List Nat :=
 let bm:=Ob base cur (List.range m)
 bif Oc bm&&AcO bm then bm else List.range m
def D6 (n0:Nat) (base cur:Fr):Fr :=
 let sl:=cur.sl.filter fun p=>(lkp base.sl p.1).isSome
 let bm:=Hg base.bx.length base.sl sl
 let bx:=bm.map fun i=>at? cur.bx i
 let pm:=FV (List.range n0) (R8 cur.rw (sl.flatMap (fun p=>p.2.rows)++bx.flatMap fun b=>match b with | some b=>QD b.cs | none=>[]))
 {nt:=cur.nt
  sl:=sl.filterMap fun p=>(p.2.ren bm pm).map fun v=>(p.1,v)
  bx:=bx.map fun b=>b.map fun b=>{ b with cs:=b.cs.map fun l=>(l.ren bm pm).getD .und }
  rw:=pm.map fun i=>match at? cur.rw i with
   | some r=>(match r.m.ren pm with | some m=>some { r with m:=m } | none=>none)
   | none=>none }
def EL {R:Type} (f:Fr→(Ex→Fr→Option R)→Option R) (n0:Nat) (base:Fr):Nat→Fr→(Ex→Fr→Option R)→Option R
 | 0,_,_=>none
 | n+1,fr,k=>f fr fun e fr'=>match e with
  | .normal=>EL f n0 base n (D6 n0 base fr') k
  | e=>k e fr'
def MI (E:Env) (fr:Fr) (c:Operand) (b:Bool):Fr:=bif E.rf then (match c with
 | .tmp t=>(match lkp fr.sl t with
  | some (.v false [.bool _])=>{ fr with sl:=ins fr.sl t (.l (.bool b)) }
  | _=>fr)
 | _=>fr) else fr
def CQ {R:Type} (E:Env) (n0:Nat):Code→Fr→(Ex→Fr→Option R)→Option R
 | .skip,fr,k=>k .normal fr
 | .region _ ops dr,fr,k=>bif dr then It E ops.toList fr (k .normal) else Jf E ops.toList ops.toList fr (k .normal)
 | .seq a b,fr,k=>CQ E n0 a fr fun e fr'=>match e with | .normal=>CQ E n0 b fr' k | e=>k e fr'
 | .cond c x y,fr,k=>match op1 fr [] c with | some (.bool b)=>bif b then CQ E n0 x (MI E fr c true) k else CQ E n0 y (MI E fr c false) k | _=>none
 | .block id b,fr,k=>CQ E n0 b fr fun e fr'=>match e with | .exit j=>bif Nat.beq j id then k .normal fr' else k (.exit j) fr' | e=>k e fr'
 | .loop b,fr,k=>(let h:=D6 n0 fr fr;EL (CQ E n0 b) n0 h E.K h k)
 | .exit id,fr,k=>k (.exit id) fr
 | .ret,fr,k=>k .ret fr
 | _,_,_=>none

def Ae (mi:Md):(ps:List (PM×Sh))→Nat→Fr→AT ps→Fr
 | [],_,fr,_=>fr
 | (m,s) :: ps,i,fr,x =>
  let q:=Aa (match m with | .mv=>.own | .io=>mi | _=>.ro) s x.1 fr.rw.length
  let rw:=fr.rw++q.2.map some
  match m with
  | .cap=>Ae mi ps (i+1) { nt:=fr.nt,sl:=ins fr.sl i (.l (.box fr.bx.length 0)),bx:=fr.bx++[some ⟨false,q.1⟩],rw:=rw } x.2
  | _=>Ae mi ps (i+1) { fr with sl:=ins fr.sl i (.v s.agg q.1),rw:=rw } x.2
def Jh:PM×Sh→Bool
 | (.ro,s)=>s.data||(match s with | .fn1 _ _ | .fn2 _ _ _=>true | _=>false)
 | (_,s)=>s.data
def V3 (E:Env) (fr:Fr) (s:Sh):ResultVar→Option (List Lf)
 | .tmp t=>match lkp fr.sl t with
  | some (.v ag cs)=>bif s.agg==ag then some cs else none
  | _=>none
 | .cell t ty=>match lkp fr.sl t,lkp E.ty ty with
  | some (.v false [.box i 0]),some tt=>bif decide (tt.sh=s) then (match at? fr.bx i with | some b=>bif BA b.cs&&Nat.beq b.cs.length s.n then some b.cs else none | none=>none) else none
  | _,_=>none
def Er (E:Env) (fr:Fr):List ResultVar→(rs:List Sh)→List (Option Ab)→Option (RT rs×List (Option Ab))
 | [],[],rw=>some ((),rw)
 | r :: l,s :: m,rw=>match V3 E fr s r with
  | some cs=>match take (fun m=>m==.own) none s cs rw with
   | some (x,[],rw1)=>match Er E fr l m rw1 with
    | some (y,rw2)=>some (RT.mk x y,rw2)
    | none=>none
   | _=>none
  | none=>none
 | _,_,_=>none
def AY:Sh→Nat
 | .list _ _=>1
 | .cons a b=>AY a+AY b
 | _=>0
def Gr (rw:List (Option Ab)):(s:Sh)→Nat→s.T→Option s.T
 | .list e s,n,_=>match at? rw n with
  | some q=>if q.e=e then (bif q.m==.io then (if h:q.s=s then some (CT h q.xs) else none) else none) else none
  | none=>none
 | .cons a b,n,x=>match Gr rw a n x.1,Gr rw b (n+AY a) x.2 with | some x,some y=>some (x,y) | _,_=>none
 | .int _,_,x=>some x
 | .bool,_,x=>some x
 | .str,_,x=>some x
 | .fn1 _ _,_,_=>none
 | .fn2 _ _ _,_,_=>none
 | .ol _ _,_,_=>none
def Ji (rw:List (Option Ab)):(ps:List (PM×Sh))→Nat→(rs:List Sh)→AT ps→RT rs→Option (RT (AU ps++rs))
 | [],_,_,_,y=>some y
 | (.io,s) :: ps,n,rs,x,y=>match Gr rw s n x.1,Ji rw ps (n+AY s) rs x.2 y with
   | some x,some z=>some (RT.mk (l:=AU ps++rs) x z)
   | _,_=>none
 | (.ro,s) :: ps,n,rs,x,y=>Ji rw ps (n+AY s) rs x.2 y
 | (.mv,s) :: ps,n,rs,x,y=>Ji rw ps (n+AY s) rs x.2 y
 | (.cap,s) :: ps,n,rs,x,y=>Ji rw ps (n+AY s) rs x.2 y
def Od (E:Env) (f:Func) (ps:List (PM×Sh)) (rs:List Sh) (x:AT ps):Option (RT (AU ps++rs)) :=
 bif Nat.ble ps.length f.ntmps&&ps.all Jh then (match f.body with
 | some c =>
  let fr:=Ae .io ps 0 ⟨f.ntmps,[],[],[]⟩ x
  CQ E fr.rw.length c fr fun e fr=>match e with
  | .ret | .normal=>match Er E fr f.results.toList rs fr.rw with
   | some (y,rw)=>Ji rw ps 0 rs x y
   | none=>none
  | .exit _=>none
 | none=>none) else none
def KL (ps:List (PM×Sh)):Bool:=ps.all fun p=>p.1==.ro&&Jh p
def frP (nt e:Nat) (s r:Sh) (ps:List (PM×Sh)) (x:(List s.T×r.T)×AT ps):Fr:=Ae .own ps 1 ⟨nt,[(0,.l (.box 0 0))],[some ⟨true,.row 0 :: (Aa .own r x.1.2 0).1⟩],[some ⟨e,s,x.1.1,.ro⟩]⟩ x.2
def AhO (fr:Fr) (r:Sh):Option r.T :=
 match at? fr.bx 0 with
 | some b=>(match b.cs with
  | .row 0 :: cs=>bif b.own then EB (AB fr.rw r cs) else none
  | _=>none)
 | none=>none
def AfU (E:Env) (f:Func) (r:Sh) (rs:List Sh):Ex→Fr→Option (RT (r :: rs)):=fun e fr=>match e with
 | .ret | .normal=>(match Er E fr f.results.toList rs fr.rw,AhO fr r with
  | some (y,_),some z=>some (RT.mk z y)
  | _,_=>none)
 | .exit _=>none
def Aiy (E:Env) (f:Func) (e:Nat) (s r:Sh) (ps:List (PM×Sh)) (rs:List Sh) (x:(List s.T×r.T)×AT ps):Option (RT (r :: rs)) :=
 bif Nat.ble (ps.length+1) f.ntmps&&KL ps&&r.flat&&s.data then (match f.body with
 | some c=>CQ E (frP f.ntmps e s r ps x).rw.length c (frP f.ntmps e s r ps x) (AfU E f r rs)
 | none=>none) else none
def frN (nt e:Nat) (s:Sh) (ps:List (PM×Sh)) (x:List s.T×AT ps):Fr:=Ae .own ps 1 ⟨nt,[(0,.l (.row 0))],[],[some ⟨e,s,x.1,.ro⟩]⟩ x.2
def AhP (fr:Fr) (r:Sh):List ResultVar→Option r.T
 | [.tmp t]=>(match lkp fr.sl t with
  | some (.v false [.box i 0])=>(match at? fr.bx i with
   | some b=>(match b.cs with
    | .row 0 :: cs=>bif b.own then EB (AB fr.rw r cs) else none
    | _=>none)
   | none=>none)
  | _=>none)
 | _=>none
def AfV (f:Func) (r:Sh):Ex→Fr→Option (RT [r]):=fun e fr=>match e with
 | .ret | .normal=>AhP fr r f.results.toList
 | .exit _=>none
def Aiz (E:Env) (f:Func) (e:Nat) (s r:Sh) (ps:List (PM×Sh)) (x:List s.T×AT ps):Option (RT [r]) :=
 bif Nat.ble (ps.length+1) f.ntmps&&KL ps&&r.flat&&s.data then (match f.body with
 | some c=>CQ E (frN f.ntmps e s ps x).rw.length c (frN f.ntmps e s ps x) (AfV f r)
 | none=>none) else none
def frQ (nt:Nat) (c:Sh) (ps:List (PM×Sh)) (x:c.T×AT ps):Fr:=Ae .own ps 1 ⟨nt,[(0,.l (.box 0 0))],[some ⟨true,(Aa .own c x.1 0).1⟩],(Aa .own c x.1 0).2.map some⟩ x.2
def AfW (E:Env) (f:Func) (c:Sh) (rs:List Sh):Ex→Fr→Option (RT (c :: rs)):=fun e fr=>match e with
 | .ret | .normal=>(match at? fr.bx 0 with
  | some b=>bif b.own&&BA b.cs then (match take (fun m=>m==.own) none c b.cs fr.rw with
   | some (z,[],rw1)=>(match Er E fr f.results.toList rs rw1 with
    | some (y,_)=>some (RT.mk z y)
    | none=>none)
   | _=>none) else none
  | none=>none)
 | .exit _=>none
def AiA (E:Env) (f:Func) (c:Sh) (ps:List (PM×Sh)) (rs:List Sh) (x:c.T×AT ps):Option (RT (c :: rs)) :=
 bif Nat.ble (ps.length+1) f.ntmps&&KL ps&&(c.data&&c.agg) then (match f.body with
 | some code=>CQ E (frQ f.ntmps c ps x).rw.length code (frQ f.ntmps c ps x) (AfW E f c rs)
 | none=>none) else none
def AfX (E:Env) (f:Func) (c:Sh) (rs:List Sh):Ex→Fr→Option (Option c.T×RT rs):=fun e fr=>match e with
 | .ret | .normal=>(match f.results.toList with
  | .tmp t :: l=>(match lkp fr.sl t with
   | some (.v false [.box i 0])=>(match at? fr.bx i with
    | some b=>bif b.own&&BA b.cs then (match take (fun m=>m==.own) none c b.cs fr.rw with
     | some (z,[],rw1)=>(match Er E fr l rs rw1 with
      | some (y,_)=>some (some z,y)
      | none=>none)
     | _=>none) else none
    | none=>none)
   | some (.v false [.und])=>(match Er E fr l rs fr.rw with
    | some (y,_)=>some (none,y)
    | none=>none)
   | _=>none)
  | _=>none)
 | .exit _=>none
def AiB (E:Env) (f:Func) (c:Sh) (ps:List (PM×Sh)) (rs:List Sh) (x:AT ps):Option (Option c.T×RT rs) :=
 bif Nat.ble ps.length f.ntmps&&KL ps&&(c.data&&c.agg) then (match f.body with
 | some code=>CQ E (Ae .own ps 0 ⟨f.ntmps,[],[],[]⟩ x).rw.length code (Ae .own ps 0 ⟨f.ntmps,[],[],[]⟩ x) (AfX E f c rs)
 | none=>none) else none
def AfY (E:Env) (f:Func) (c:Sh) (rs:List Sh):Ex→Fr→Option (Option c.T×RT rs):=fun e fr=>match e with
 | .ret | .normal=>(match f.results.toList with
  | r :: l=>(match V3 E fr c r with
   | some cs=>bif Nat.beq cs.length c.n then (match take (fun m=>m==.own) none c cs fr.rw with
    | some (z,[],rw1)=>(match Er E fr l rs rw1 with
     | some (y,_)=>some (some z,y)
     | none=>none)
    | _=>(match Er E fr l rs fr.rw with
     | some (y,_)=>some (none,y)
     | none=>none)) else none
   | none=>none)
  | _=>none)
 | .exit _=>none
def AiC (E:Env) (f:Func) (c:Sh) (ps:List (PM×Sh)) (rs:List Sh) (x:AT ps):Option (Option c.T×RT rs) :=
 bif Nat.ble ps.length f.ntmps&&KL ps&&(c.data&&c.agg) then (match f.body with
 | some code=>CQ E (Ae .own ps 0 ⟨f.ntmps,[],[],[]⟩ x).rw.length code (Ae .own ps 0 ⟨f.ntmps,[],[],[]⟩ x) (AfY E f c rs)
 | none=>none) else none
end Go.Proofs.YteheolldcpjkcaaGreat.X
