/- The abstract interpreter: Go code of the model, run on typed values (slices as lists in a table of rows, variables in memory as lists of leaves). Definitions only. -/
import Derived.WalkKit
import Derived.Laws.BytesArg
set_option linter.unusedSimpArgs false
set_option linter.unusedVariables false
namespace Go.Proofs.YteheolldcpjkcaaGreat.X
open Go
abbrev Aql:=@Bool.and_eq_true
abbrev Aqm:=@Nat.eq_of_beq_eq_true
abbrev Aqn:=@List.all_eq_true
abbrev Aqo:=@List.getElem?_eq_getElem
abbrev Aqp:=@Result.andThen_ok
abbrev Aqq:=@List.drop_zero
abbrev Aqr:=@Nat.le_refl
abbrev Aqs:=@List.length_append
abbrev Aqt:=@List.getElem?_map
abbrev Aqu:=@Sem.run_bind
abbrev Aqv:=@List.append_assoc
abbrev Aqw:=@Array.toArray_toList
abbrev Aqx:=@List.contains_iff_mem
abbrev Aqy:=@List.mem_append
abbrev Aqz:=@List.getElem?_eq_some_iff
abbrev AqA:=@List.mem_cons
abbrev AqB:=@List.getElem?_append_right
abbrev AqC:=@List.getElem?_eq_none
abbrev AqD:=@List.length_map
abbrev AqE:=@Nat.le_trans
abbrev AqF:=@Option.map_eq_some_iff
abbrev AqG:=@List.mem_map
abbrev AqH:=@List.mem_of_getElem?
abbrev AqI:=@List.flatten_cons
abbrev AqJ:=@List.getD_eq_getElem?_getD
abbrev AqK:=@Bool.true_and
abbrev AqL:=@Array.getD_eq_getD_getElem?
abbrev AqM:=@List.nil_append
abbrev AqN:=@Nat.lt_of_lt_of_le
abbrev AqO:=@Sem.run_pure
abbrev AqP:=@Array.getElem?_eq_some_iff
abbrev AqQ:=@Nat.zero_add
abbrev AqR:=@List.mem_filter
abbrev AqS:=@List.getElem?_append_left
abbrev AqT:=@List.length_take
abbrev AqU:=@Option.map_some
abbrev AqV:=@Option.some.injEq
abbrev AqW:=@List.getElem?_take
abbrev AqX:=@List.take_of_length_le
abbrev AqY:=@List.pairwise_cons
abbrev AqZ:=@List.drop_eq_nil_of_le
abbrev Aq0:=@Nat.mul_le_mul_right
abbrev Aq1:=@Nat.not_lt
abbrev Aq2:=@Option.bind_eq_some_iff
abbrev Aq3:=@List.length_cons
abbrev Aq4:=@List.length_set
abbrev Aq5:=@List.getElem?_drop
abbrev Aq6:=@List.getElem?_cons_zero
abbrev Aq7:=@List.getElem_of_mem
abbrev Aq8:=@List.foldl_cons
abbrev Aq9:=@List.append_nil
abbrev Ara:=@List.mem_singleton
abbrev Arb:=@List.any_eq_true
abbrev Arc:=@List.take_append_of_le_length
abbrev Ard:=@Nat.succ_mul
abbrev Are:=@Nat.eq_zero_or_pos
abbrev Arf:=@Nat.lt_or_ge
abbrev Arh:=@List.map_cons
abbrev Ari:=@Nat.zero_le
abbrev Arj:=@List.ext_getElem?
abbrev Ark:=@List.getElem?_replicate
abbrev Arl:=@List.mem_cons_of_mem
abbrev Arm:=@Bool.false_or
abbrev Arn:=@Int.mul_le_mul_of_nonneg_right
abbrev Aro:=@Nat.add_zero
abbrev Arp:=@Array.getElem?_eq_getElem
abbrev Arq:=@List.eq_nil_of_length_eq_zero
abbrev Arr:=@List.length_filter_le
abbrev Ars:=@List.length_replicate
abbrev Art:=@Array.getElem?_toList
abbrev Aru:=@List.take_length
abbrev Arv:=@List.drop_append
abbrev Arw:=@Option.bind_some
abbrev Arx:=@Int.emod_eq_of_lt
abbrev Ary:=@Array.getElem?_append_left
abbrev Arz:=@Bool.eq_iff_iff
abbrev ArA:=@List.pairwise_iff_getElem
abbrev ArB:=@Nat.ble_eq
abbrev ArC:=@Int.emod_lt_of_pos
abbrev ArD:=@Option.getD_some
abbrev ArE:=@Int.mul_comm
abbrev ArF:=@Bool.or_false
abbrev ArG:=@Int.mul_le_mul_of_nonneg_left
abbrev ArH:=@List.drop_drop
abbrev ArI:=@List.mem_of_mem_take
abbrev ArJ:=@Bool.not_eq_true'
abbrev ArK:=@Array.length_toList
abbrev ArL:=@List.mem_flatMap
abbrev ArM:=@List.take_append
abbrev ArN:=@List.drop_eq_getElem_cons
abbrev ArO:=@Int.emod_nonneg
abbrev ArP:=@Int.natCast_mul
abbrev ArQ:=@Bool.or_eq_true
abbrev ArR:=@List.length_range
abbrev ArS:=@Prod.ext_iff
abbrev ArT:=@List.mem_of_mem_drop
abbrev ArU:=@Int.toNat_of_nonneg
abbrev ArV:=@List.getElem_mem
abbrev ArW:=@Int.mul_nonneg
abbrev ArX:=@Int.natAbs_mul
abbrev ArY:=@List.length_eq_zero_iff
abbrev ArZ:=@Nat.add_mul
abbrev Ar0:=@List.getElem_range
abbrev Ar1:=@List.length_pos_of_mem
abbrev Ar2:=@Option.isSome_some
abbrev Ar3:=@List.mem_filterMap
abbrev Ar4:=@Int.natAbs_tmod
abbrev Ar5:=@List.length_nil
abbrev Ar6:=@Nat.lt_irrefl
abbrev Ar7:=@List.take_append_drop
abbrev Ar8:=@Int.mul_ediv_add_emod
abbrev Ar9:=@List.length_singleton
abbrev Asa:=@List.getElem_take
abbrev Asb:=@Array.getElem?_setIfInBounds_self_of_lt
abbrev Asc:=@List.mem_range
abbrev Asd:=@List.pairwise_append
abbrev Ase:=@List.take_zero
abbrev Asf:=@Bool.or_eq_false_iff
abbrev Asg:=@Nat.mul_comm
abbrev Ash:=@List.drop_length
abbrev Asi:=@List.cons_append
abbrev Asj:=@Array.toList_map
abbrev Asl:=@List.mem_or_eq_of_mem_set
abbrev Asm:=@List.take_succ_cons
abbrev Asn:=@List.all_cons
abbrev Aso:=@List.contains_eq_any_beq
abbrev Asp:=@List.eq_of_mem_replicate
abbrev Asq:=@List.nodup_cons
abbrev Asr:=@List.filter_append
abbrev Ass:=@Nat.add_sub_cancel
abbrev Ast:=@Int.neg_mul
abbrev Asu:=@Int.add_mul
abbrev Asv:=@Int.gcd_zero_left
abbrev Asw:=@List.getElem?_set_self
abbrev Asx:=@Bool.false_and
abbrev Asy:=@Int.mul_left_comm
abbrev Asz:=@List.any_eq_false
abbrev AsA:=@Nat.beq_refl
abbrev AsB:=@List.take_left
abbrev AsC:=@List.getElem?_toArray
abbrev AsD:=@Array.getElem?_modify
abbrev AsE:=@List.length_drop
abbrev AsF:=@Option.join_some
abbrev AsG:=@Int.mul_assoc
abbrev AsH:=@Int.one_mul
abbrev AsI:=@Int.mul_add
abbrev AsJ:=@List.getElem?_set_ne
abbrev AsK:=@List.drop_append_of_le_length
abbrev AsL:=@Int.tmod_nonneg
abbrev AsM:=@List.map_append
abbrev AsN:=@Nat.min_eq_left
abbrev AsO:=@List.mem_range'
abbrev AsP:=@List.flatten_append
abbrev AsQ:=@List.replicate_succ
abbrev AsR:=@List.map_map
abbrev AsS:=@Int.zero_mul
abbrev AsT:=@Int.mul_zero
abbrev AsU:=@Int.add_zero
abbrev AsV:=@Int.add_mul_emod_self_right
abbrev AsW:=@List.take_take
abbrev AsX:=@Int.tdiv_eq_ediv_of_nonneg
abbrev AsY:=@Int.tmod_lt_of_pos
abbrev AsZ:=@List.mapM_cons
abbrev As0:=@List.extract_eq_take_drop
abbrev As1:=@Int.sub_mul
abbrev As2:=@List.take_add_one
abbrev As3:=@List.foldl_append
abbrev As4:=@List.getElem?_set
abbrev As5:=@Bool.and_self
abbrev As6:=@Prod.mk.injEq
abbrev As7:=@List.length_erase_of_mem
abbrev As8:=@List.any_cons
abbrev As9:=@Array.size_setIfInBounds
abbrev Ata:=@Int.dvd_of_emod_eq_zero
abbrev Atb:=@List.all_eq_not_any_not
abbrev Atc:=@Nat.gcd_comm
abbrev Atd:=@Nat.mod_lt
abbrev Ate:=@Nat.sub_self
abbrev Atf:=@Int.natAbs_tdiv
abbrev Atg:=@List.cons.injEq
abbrev Ath:=@Int.mul_sub
abbrev Ati:=@Nat.mul_le_mul
abbrev Atj:=@Bool.and_assoc
abbrev Atk:=@List.drop_left
abbrev Atl:=@Nat.add_assoc

inductive Sh where
 | int (k:IntKind) | bool | str
 | list (e:Nat) (s:Sh)
 | cons (a b:Sh)
 | fn1 (a r:Sh)
 | fn2 (a b r:Sh)
 | ol (e:Nat) (s:Sh)
 deriving DecidableEq

@[reducible] def Sh.T:Sh→Type
 | .int _=>Int | .bool=>Bool | .str=>ByteArray
 | .list _ s=>List s.T
 | .cons a b=>a.T×b.T
 | .fn1 a r=>a.T→Option r.T
 | .fn2 a b r=>a.T→b.T→Option r.T
 | .ol _ s=>Option (List s.T)
def Sh.n:Sh→Nat
 | .cons a b=>a.n+b.n
 | _=>1
def Sh.dfl:(s:Sh)→s.T
 | .int _=>(0:Int) | .bool=>false | .str=>ByteArray.empty
 | .list _ _=>[]
 | .cons a b=>(a.dfl,b.dfl)
 | .fn1 _ _=>fun _=>none
 | .fn2 _ _ _=>fun _ _=>none
 | .ol _ _=>none
def Sh.agg:Sh→Bool | .cons _ _=>true | _=>false
def Sh.flat:Sh→Bool
 | .int _ | .bool | .str=>true
 | .cons a b=>a.flat&&b.flat
 | _=>false

def Sh.data:Sh→Bool
 | .int _ | .bool | .str | .list _ _=>true
 | .cons a b=>a.data&&b.data
 | _=>false
def Sh.isL:Sh→Bool | .list _ _=>true | _=>false

@[reducible] def RT:List Sh→Type
 | []=>Unit
 | [s]=>s.T
 | s :: t :: r=>s.T×RT (t :: r)
def RT.dfl:(l:List Sh)→RT l
 | []=>()
 | [s]=>s.dfl
 | s :: t :: r=>(s.dfl,RT.dfl (t :: r))

inductive Lf where
 | int (k:IntKind) (n:Int) | bool (b:Bool) | str (s:ByteArray)
 | row (i:Nat) | view (i:Nat) (lo hi:Int) | nil
 | box (i off:Nat) | elem (i:Nat) (j:Int) (off:Nat)
 | fn (g:Nat) (caps:List Nat)
 | fv1 (a r:Sh) (φ:a.T→Option r.T)
 | fv2 (a b r:Sh) (φ:a.T→b.T→Option r.T)
 | mp (i:Nat)
 | mc (K V:Sh) (xs:List (K.T×V.T))
 | bsl (i e n:Nat)
 | und
inductive AV where
 | v (ag:Bool) (cs:List Lf)
 | tup (vs:List (Bool×List Lf))
 | grd (c:List (Nat×Bool)) (g:Bool) (ag:Bool) (cs:List Lf)
abbrev AV.l (x:Lf):AV:=.v false [x]
def Bz:List Lf→Bool
 | [.mc _ _ _]=>false
 | _=>true

inductive Md where | own | io | ro | bor (p:Nat) (at_:Option (Int×Nat))
 deriving DecidableEq
def Md.mine:Md→Bool | .own | .io=>true | _=>false
structure Ac where
 e:Nat
 s:Sh
 xs:List s.T
 m:Md
structure Bn where
 own:Bool
 cs:List Lf
structure Fr where
 nt:Nat
 sl:List (Nat×AV)
 bx:List (Option Bn)
 rw:List (Option Ac)

inductive Ty where
 | sc (s:Sh)
 | st (s:Sh) (fields:List (Nat×Nat))
 | sl (e:Nat) (s:Sh) (bytes:Nat)
 | ar (s:Sh) (e n:Nat)
inductive PM where | ro | io | mv | cap
 deriving DecidableEq
@[reducible] def AT:List (PM×Sh)→Type
 | []=>Unit
 | (_,s) :: r=>s.T×AT r
def BG:List (PM×Sh)→List Sh
 | []=>[]
 | (.io,s) :: r=>s :: BG r
 | (_,_) :: r=>BG r
structure Mdl where
 ps:List (PM×Sh)
 rs:List Sh
 F:AT ps→Option (RT (BG ps++rs))
structure DY where
 e:Nat
 s:Sh
 r:Sh
 ps:List (PM×Sh)
 rs:List Sh
 F:(List s.T×r.T)×AT ps→Option (RT (r :: rs))
structure PE where
 e:Nat
 s:Sh
 r:Sh
 ps:List (PM×Sh)
 F:List s.T×AT ps→Option (RT [r])
structure UD where
 c:Sh
 ps:List (PM×Sh)
 rs:List Sh
 F:c.T×AT ps→Option (RT (c :: rs))
structure H7 where
 c:Sh
 ps:List (PM×Sh)
 rs:List Sh
 F:AT ps→Option (Option c.T×RT rs)
structure MTy where
 k:Nat
 v:Nat
 K:Sh
 V:Sh
structure Env where
 fs:List (Nat×Mdl)
 ty:List (Nat×Ty)
 eq:List (Nat×List Sh)
 mt:List (Nat×MTy)
 K:Nat
 kp:List Nat
 pf:List (Nat×DY)
 nf:List (Nat×PE)
 qf:List (Nat×UD)
 cf:List (Nat×H7)
 vf:List (Nat×Mdl)
 xf:List (Nat×H7)
 rf:Bool
def Ty.sh:Ty→Sh | .sc s=>s | .st s _=>s | .sl e s _=>.list e s | .ar s _ _=>s
def Ty.parts:Ty→Option (Sh×List (Nat×Nat))
 | .st s fs=>some (s,fs)
 | .ar s _ n=>some (s,(List.range n).map fun i=>(i,1))
 | _=>none

def lkp {α:Type}:List (Nat×α)→Nat→Option α
 | [],_=>none
 | (i,v) :: r,j=>bif Nat.beq i j then some v else lkp r j
def ins {α:Type}:List (Nat×α)→Nat→α→List (Nat×α)
 | [],j,v=>[(j,v)]
 | (i,u) :: r,j,v=>bif Nat.beq i j then (j,v) :: r else bif Nat.blt j i then (j,v) :: (i,u) :: r else (i,u) :: ins r j v
def at? {α:Type}:List (Option α)→Nat→Option α
 | [],_=>none
 | x :: _,0=>x
 | _ :: r,i+1=>at? r i
def AL {α:Type}:List (Option α)→Nat→Option α→List (Option α)
 | [],_,_=>[]
 | _ :: r,0,y=>y :: r
 | x :: r,i+1,y=>x :: AL r i y
def Ae (i:Nat) (rw:List (Option Ac)):List (Option Ac) :=
 rw.map fun r=>match r with
  | some r=>(match r.m with | .bor p _=>bif Nat.beq p i then none else some r | _=>some r)
  | none=>none

def Aa (m:Md):(s:Sh)→s.T→Nat→List Lf×List Ac
 | .int k,x,_=>([.int k x],[])
 | .bool,b,_=>([.bool b],[])
 | .str,b,_=>([.str b],[])
 | .list e s,xs,n=>([.row n],[⟨e,s,xs,m⟩])
 | .cons a b,x,n =>
  let p:=Aa m a x.1 n
  let q:=Aa m b x.2 (n+p.2.length)
  (p.1++q.1,p.2++q.2)
 | .fn1 a r,φ,_=>([.fv1 a r φ],[])
 | .fn2 a b r,φ,_=>([.fv2 a b r φ],[])
 | .ol _ _,_,_=>([.und],[])
def DI {s t:Sh} (h:s=t) (xs:List s.T):List t.T:=h▸xs
def ApZ {s t:Sh} (h:s=t) (x:s.T):t.T:=h▸x
def LE (rw:List (Option Ac)) (e:Nat) (s:Sh):Lf→Option (List s.T)
 | .row i=>match at? rw i with
  | some q=>if q.e=e then (if h:q.s=s then some (DI h q.xs) else none) else none
  | none=>none
 | .view i lo hi=>match at? rw i with
  | some q=>if q.e=e then (if h:q.s=s then some (((DI h q.xs).take hi.toNat).drop lo.toNat) else none) else none
  | none=>none
 | .nil=>some []
 | _=>none
def Az (rw:List (Option Ac)):(s:Sh)→List Lf→Option (s.T×List Lf)
 | .int k,ls=>match ls with | .int k' n :: r=>if k=k' then some (n,r) else none | _=>none
 | .bool,ls=>match ls with | .bool b :: r=>some (b,r) | _=>none
 | .str,ls=>match ls with | .str b :: r=>some (b,r) | _=>none
 | .list e s,ls=>match ls with
  | l :: r=>match LE rw e s l with | some xs=>some (xs,r) | none=>none
  | []=>none
 | .cons a b,l=>match Az rw a l with
  | some (x,l1)=>match Az rw b l1 with
   | some (y,l2)=>some ((x,y),l2)
   | none=>none
  | none=>none
 | .fn1 _ _,_=>none
 | .fn2 _ _ _,_=>none
 | .ol _ _,_=>none
def DZ {α:Type}:Option (α×List Lf)→Option α
 | some (x,[])=>some x
 | _=>none
def DJ (ok:Md→Bool) (m:Option Nat) (e:Nat) (s:Sh) (rw:List (Option Ac)):Lf→Option (List s.T×List (Option Ac))
 | .row i=>match at? rw i with
  | some q=>if q.e=e then (bif ok q.m then (if h:q.s=s then some (DI h q.xs,Ae i (AL rw i (m.map fun p=>{ q with m:=.bor p none }))) else none) else none) else none
  | none=>none
 | .view i lo hi=>if lo=0 then (match at? rw i with
  | some q=>if q.e=e then (bif ok q.m then (if h:q.s=s then some ((DI h q.xs).take hi.toNat,Ae i (AL rw i none)) else none) else none) else none
  | none=>none) else none
 | .nil=>some ([],rw)
 | _=>none
def take (ok:Md→Bool) (m:Option Nat):(s:Sh)→List Lf→List (Option Ac)→Option (s.T×List Lf×List (Option Ac))
 | .int k,ls,rw=>match ls with | .int k' n :: r=>if k=k' then some (n,r,rw) else none | _=>none
 | .bool,ls,rw=>match ls with | .bool b :: r=>some (b,r,rw) | _=>none
 | .str,ls,rw=>match ls with | .str b :: r=>some (b,r,rw) | _=>none
 | .list e s,ls,rw=>match ls with
  | l :: r=>match DJ ok m e s rw l with | some (xs,rw')=>some (xs,r,rw') | none=>none
  | []=>none
 | .cons a b,l,rw=>match take ok m a l rw with
  | some (x,l1,rw1)=>match take ok m b l1 rw1 with
   | some (y,l2,rw2)=>some ((x,y),l2,rw2)
   | none=>none
  | none=>none
 | .fn1 _ _,_,_=>none
 | .fn2 _ _ _,_,_=>none
 | .ol _ _,_,_=>none
def Hy:(s:Sh)→Nat→Nat→Option ((t:Sh)×(s.T→t.T)×(s.T→t.T→s.T))
 | .cons a b,off,n=>bif Nat.beq off 0&&Nat.beq n (a.n+b.n) then some ⟨.cons a b,fun x=>x,fun _ y=>y⟩
  else bif Nat.beq off 0&&Nat.beq n a.n then some ⟨a,fun x=>x.1,fun x y=>(y,x.2)⟩
  else bif Nat.ble a.n off then (match Hy b (off-a.n) n with
   | some ⟨t,f,g⟩=>some ⟨t,fun x=>f x.2,fun x y=>(x.1,g x.2 y)⟩
   | none=>none)
  else (match Hy a off n with
   | some ⟨t,f,g⟩=>some ⟨t,fun x=>f x.1,fun x y=>(g x.1 y,x.2)⟩
   | none=>none)
 | s,off,n=>bif Nat.beq off 0&&Nat.beq n 1 then some ⟨s,fun x=>x,fun _ y=>y⟩ else none

def opd (fr:Fr) (ch:List (Nat×Bool)):Operand→Option AV
 | .tmp t=>match lkp fr.sl t with
  | some (.grd c _ ag cs)=>bif c.all (fun p=>ch.any fun q=>Nat.beq p.1 q.1&&(p.2==q.2)) then some (.v ag cs) else none
  | r=>r
 | .const (.int k n)=>some (.l (.int k n))
 | .const (.bool b)=>some (.l (.bool b))
 | .const (.string s)=>some (.l (.str s))
 | .const (.slice none 0 0)=>some (.l .nil)
 | .const (.pointer none)=>some (.l .und)
 | .func g=>some (.l (.fn g []))
 | _=>none
def opl (fr:Fr) (ch:List (Nat×Bool)) (x:Operand):Option (Bool×List Lf) :=
 match opd fr ch x with
 | some (.v ag cs)=>some (ag,cs)
 | _=>none
def op1 (fr:Fr) (ch:List (Nat×Bool)) (x:Operand):Option Lf :=
 match opd fr ch x with
 | some (.v false [l])=>some l
 | _=>none
def UE (fr:Fr) (ch:List (Nat×Bool)):List Operand→Option (List (Bool×List Lf))
 | []=>some []
 | x :: r=>match opl fr ch x,UE fr ch r with
  | some v,some vs=>some (v :: vs)
  | _,_=>none

inductive Eff where
 | pure
 | box (i:Nat) (b:Bn)
 | tab (rw:List (Option Ac))
 | gone (is:List Nat)
 | set (i e:Nat) (s:Sh) (xs:List s.T)
structure NZ where
 v:AV
 nr:List Ac
 nb:List Bn
 ef:Eff
inductive Res where
 | fail
 | done (req:Bool) (v:Option AV) (nr:List Ac) (nb:List Bn) (ef:Eff)
 | call (m:Mdl) (o:Option (RT (BG m.ps++m.rs))) (vs:List (Bool×List Lf)) (rw:List (Option Ac)) (quiet:Bool)
 | callE (rs:List Sh) (o:Option (RT rs)) (z:Option (RT rs)) (f:RT rs→NZ)
def val (req:Bool) (l:Lf):Res:=.done req (some (.l l)) [] [] .pure
def vals (ag:Bool) (cs:List Lf):Res:=.done true (some (.v ag cs)) [] [] .pure

def UF (op:BinOp) (k:IntKind) (a b:Int):Int :=
 match op with
 | .and=>k.wrap (BitVec.ofInt k.bits a &&& BitVec.ofInt k.bits b).toNat
 | .or=>k.wrap (BitVec.ofInt k.bits a ||| BitVec.ofInt k.bits b).toNat
 | .xor=>k.wrap (BitVec.ofInt k.bits a ^^^ BitVec.ofInt k.bits b).toNat
 | .shl=>k.wrap (a*2 ^ min b.toNat k.bits)
 | .shr=>a.fdiv (2 ^ min b.toNat k.bits)
 | _=>0
def Agb:BinOp→Bool | .shl | .shr=>true | _=>false
def AlE (op:BinOp) (k:IntKind) (a b:Int):Option (Bool×Lf) :=
 match op with
 | .and=>some (true,.int k (UF .and k a b))
 | .or=>some (true,.int k (UF .or k a b))
 | .xor=>some (true,.int k (UF .xor k a b))
 | .add=>some (true,.int k (k.wrap (a+b)))
 | .sub=>some (true,.int k (k.wrap (a-b)))
 | .mul=>some (true,.int k (k.wrap (a*b)))
 | .quo=>some (b != 0,.int k (k.wrap (a.tdiv b)))
 | .rem=>some (b != 0,.int k (a.tmod b))
 | .eql=>some (true,.bool (a==b))
 | .neq=>some (true,.bool (a != b))
 | .lss=>some (true,.bool (decide (a<b)))
 | .leq=>some (true,.bool (decide (a≤b)))
 | .gtr=>some (true,.bool (decide (a>b)))
 | .geq=>some (true,.bool (decide (a≥b)))
 | _=>none
def Abw:Sh→Lf→Lf→Option Bool
 | .int k0,.int k a,.int k' b=>if k=k0∧k'=k0 then some (a==b) else none
 | .bool,.bool a,.bool b=>some (a==b)
 | .str,.str a,.str b=>some (a==b)
 | _,_,_=>none
def CP:List Sh→List Lf→List Lf→Option Bool
 | [],[],[]=>some true
 | [s],[x],[y]=>Abw s x y
 | s :: q,x :: r,y :: r'=>match Abw s x y,CP q r r' with
  | some s,some t=>some (s&&t)
  | _,_=>none
 | _,_,_=>none
def bin (E:Env) (op:BinOp) (t:Nat) (x y:Bool×List Lf):Option (Bool×Lf) :=
 match x,y with
 | (false,[.int k a]),(false,[.int k' b])=>bif Agb op then some (decide (0≤b),.int k (UF op k a b)) else if k=k' then AlE op k a b else none
 | (false,[.bool a]),(false,[.bool b])=>match op,lkp E.ty t with
  | .eql,some (.sc .bool)=>some (true,.bool (a==b))
  | .neq,some (.sc .bool)=>some (true,.bool (a != b))
  | _,_=>none
 | (false,[.str a]),(false,[.str b])=>match op with
  | .eql=>some (true,.bool (a==b))
  | .neq=>some (true,.bool (a != b))
  | .add=>some (Nat.ble (a.size+b.size) 9223372036854775807,.str (a++b))
  | _=>none
 | (true,a),(true,b)=>match lkp E.eq t with
  | some ks=>(match op,CP ks a b with
   | .eql,some t=>some (true,.bool t)
   | .neq,some t=>some (true,.bool (!t))
   | _,_=>none)
  | none=>none
 | _,_=>none
def CQ (fr:Fr):Lf→Option (Nat×Ac×Int×Int)
 | .row i=>match at? fr.rw i with | some r=>some (i,r,0,(r.xs.length:Int)) | none=>none
 | .view i lo hi=>match at? fr.rw i with | some r=>some (i,r,lo,hi-lo) | none=>none
 | _=>none
def E4 (cs:List Lf) (off:Nat) (vs:List Lf):List Lf:=cs.take off++vs++cs.drop (off+vs.length)
def tyN (E:Env) (t:Nat):Option (Nat×Bool) :=
 match lkp E.ty t with
 | some ty=>some (ty.sh.n,ty.sh.agg)
 | none=>none
def slT (E:Env) (t:Nat):Option (Nat×Sh×Nat) :=
 match lkp E.ty t with
 | some (.sl e s b)=>some (e,s,b)
 | _=>none
def KA (E:Env) (t:Nat) (r:Ac):Bool :=
 match slT E t with
 | some (e,s,_)=>Nat.beq e r.e&&decide (s=r.s)
 | none=>false
def Ww (E:Env) (t:Nat) (r:Ac):Bool :=
 match slT E t with
 | some (e,s,_)=>Nat.beq e r.e&&(decide (s=r.s)||(match r.s with | .ol e1 s1=>decide (s=.list e1 s1) | _=>false))
 | none=>false
def lim (b:Nat):Nat:=140737488355328 / b
def J6 (i:Nat) (j:Int) (off:Nat) (u:Sh):Md→Md
 | .own | .io=>.bor i (match u with | .list _ _=>some (j,off) | _=>none)
 | .bor p _=>.bor p none
 | .ro=>.ro
def J7:(u:Sh)→u.T→Bool×((t:Sh)×t.T)
 | .ol e s,x=>(x.isSome,⟨.list e s,x.getD []⟩)
 | u,x=>(true,⟨u,x⟩)
def loadAt (E:Env) (fr:Fr) (t:Nat) (p:Lf):Res :=
 match tyN E t with
 | none=>.fail
 | some (n,ag)=>match p with
  | .box i off=>match at? fr.bx i with
   | some b=>bif Bz b.cs&&Nat.ble (off+n) b.cs.length then vals ag ((b.cs.drop off).take n) else .fail
   | none=>.fail
  | .elem i j off=>match at? fr.rw i with
   | some r=>match Hy r.s off n with
    | some ⟨u,f,_⟩ =>
      let z:=J7 u (f (r.xs.getD j.toNat r.s.dfl))
      bif z.2.1.data&&(z.2.1.agg==ag) then (
      let q:=Aa (J6 i j off z.2.1 r.m) z.2.1 z.2.2 fr.rw.length
      .done z.1 (some (.v ag q.1)) q.2 [] .pure) else .fail
    | none=>.fail
   | none=>.fail
  | _=>.fail
def Jp:Sh→Option (List Lf)
 | .int k=>some [.int k 0]
 | .bool=>some [.bool false]
 | .str=>some [.str ByteArray.empty]
 | .list _ _=>some [.nil]
 | .cons a b=>match Jp a,Jp b with | some x,some y=>some (x++y) | _,_=>none
 | _=>none
def Api (E:Env) (t:Nat):Option (List Lf) :=
 match lkp E.ty t with
 | some ty=>Jp ty.sh
 | none=>none
def PF (fr:Fr) (ch:List (Nat×Bool)) (fields:List (Nat×Nat)):List (Nat×Operand)→List Lf→Option (List Lf)
 | [],cs=>some cs
 | (i,x) :: r,cs=>match fields[i]?,opl fr ch x with
  | some (off,n),some (_,vs)=>bif Nat.beq vs.length n&&Nat.ble (off+n) cs.length then PF fr ch fields r (E4 cs off vs) else none
  | _,_=>none
def FR (fr:Fr) (ch:List (Nat×Bool)) (q:Nat) (s:Sh):List (Nat×Operand)→List s.T→List (Option Ac)→Option (List s.T×List (Option Ac))
 | [],xs,rw=>some (xs,rw)
 | (i,x) :: r,xs,rw=>match opl fr ch x with
  | some (ag,vs)=>match take (fun m=>m==.own) (some q) s vs rw with
   | some (y,[],rw1)=>bif Nat.blt i xs.length&&(s.agg==ag) then FR fr ch q s r (xs.set i y) rw1 else none
   | _=>none
  | none=>none

def A7:(s:Sh)→s.T→s.T→Bool
 | .int _,a,b=>(a:Int)==b
 | .bool,a,b=>(a:Bool)==b
 | .str,a,b=>(a:ByteArray)==b
 | .cons s t,a,b=>A7 s a.1 b.1&&A7 t a.2 b.2
 | .list _ _,_,_=>false
 | .fn1 _ _,_,_=>false
 | .fn2 _ _ _,_,_=>false
 | .ol _ _,_,_=>false
def B5 {α β:Type} (eq:α→α→Bool):List (α×β)→α→Option β
 | [],_=>none
 | p :: r,x=>bif eq x p.1 then some p.2 else B5 eq r x
def FM {α β:Type} (eq:α→α→Bool):List (α×β)→α→β→List (α×β)
 | [],x,y=>[(x,y)]
 | p :: r,x,y=>bif eq x p.1 then (x,y) :: r else p :: FM eq r x y
def Ani {K V K' V':Sh} (h1:K=K') (h2:V=V') (xs:List (K.T×V.T)):List (K'.T×V'.T):=h1▸h2▸xs
def Rz (fr:Fr) (i:Nat) (m:MTy):Option (List (m.K.T×m.V.T)) :=
 match at? fr.bx i with
 | some b=>(match b.cs with
  | [.mc K V xs]=>if h:K=m.K∧V=m.V then some (Ani h.1 h.2 xs) else none
  | _=>none)
 | none=>none
def Jq (E:Env) (fr:Fr) (t:Nat) (r:Option Operand):Res :=
 match r,lkp E.mt t with
 | none,some m=>.done true (some (.l (.mp fr.bx.length))) [] [⟨true,[.mc m.K m.V []]⟩] .pure
 | _,_=>.fail
def LF (E:Env) (fr:Fr) (ch:List (Nat×Bool)) (t:Nat) (x ix:Operand) (ok:Bool):Res :=
 match lkp E.mt t,op1 fr ch x,opl fr ch ix with
 | some m,some (.mp i),some (ag,cs)=>match Rz fr i m,DZ (Az fr.rw m.K cs) with
  | some xs,some key=>bif m.K.agg==ag then (
    let q:=B5 (A7 m.K) xs key
    let vs:=(Aa .own m.V (q.getD m.V.dfl) 0).1
    bif ok then .done true (some (.tup [(m.V.agg,vs),(false,[.bool q.isSome])])) [] [] .pure else vals m.V.agg vs) else .fail
  | _,_=>.fail
 | _,_,_=>.fail
def Ej (E:Env) (fr:Fr) (ch:List (Nat×Bool)) (t:Nat) (x k v:Operand):Res :=
 match lkp E.mt t,op1 fr ch x,opl fr ch k,opl fr ch v with
 | some m,some (.mp i),some (ag,cs),some (ag',vs)=>match at? fr.bx i,Rz fr i m,DZ (Az fr.rw m.K cs),DZ (Az fr.rw m.V vs) with
  | some b,some xs,some key,some val=>bif b.own&&(m.K.agg==ag)&&(m.V.agg==ag') then .done true none [] [] (.box i { b with cs:=[.mc m.K m.V (FM (A7 m.K) xs key val)] }) else .fail
  | _,_,_,_=>.fail
 | _,_,_,_=>.fail
def LG (E:Env) (fr:Fr) (t:Nat) (i:Nat):Res :=
 match lkp E.mt t with
 | some m=>match Rz fr i m with
  | some xs=>val true (.int .i64 xs.length)
  | none=>.fail
 | none=>.fail

def Sh.flatL:Sh→Bool
 | .list _ s=>s.flat
 | .cons a b=>a.flatL&&b.flatL
 | .int _ | .bool | .str=>true
 | _=>false
def RA:Sh→Bool
 | .list _ _ | .int _ | .bool | .str=>true
 | .cons a b=>(a.flatL&&RA b)||(RA a&&b.flatL)
 | _=>false
def Lf.isView:Lf→Bool | .view _ _ _=>true | _=>false
def BZ:(ps:List (PM×Sh))→List (Bool×List Lf)→List (Option Ac)→Option (List (Option Ac))
 | [],[],rw=>some rw
 | (m,s) :: ps,(ag,cs) :: vs,rw=>match m with
  | .ro | .cap=>BZ ps vs rw
  | .mv=>match take (fun m=>m==.own) none s cs rw with
   | some (_,[],rw1)=>BZ ps vs rw1
   | _=>none
  | .io=>bif cs.any Lf.isView||!RA s||!(s.agg==ag) then none else (match take Md.mine none s cs rw with
   | some (_,[],rw1)=>BZ ps vs rw1
   | _=>none)
 | _,_,_=>none
def HM (fr:Fr) (rw:List (Option Ac)):(ps:List (PM×Sh))→List Nat→Option (AT ps)
 | [],[]=>some ()
 | (.cap,s) :: ps,b :: bs=>match at? fr.bx b with
  | some b=>bif Bz b.cs then (match DZ (Az rw s b.cs),HM fr rw ps bs with
   | some x,some xs=>some (x,xs)
   | _,_=>none) else none
  | none=>none
 | _,_=>none
def Akc (a r:Sh) (cps:List (PM×Sh)) (m:Mdl) (c:AT cps):Option (a.T→Option r.T) :=
 if h1:m.ps=(.ro,a) :: cps then (if h2:BG m.ps++m.rs=[r] then some fun x=>cast (congrArg (fun l=>Option (RT l)) h2) (m.F (cast (congrArg AT h1.symm) (x,c))) else none) else none
def Akd (a b r:Sh) (cps:List (PM×Sh)) (m:Mdl) (c:AT cps):Option (a.T→b.T→Option r.T) :=
 if h1:m.ps=(.ro,a) :: (.ro,b) :: cps then (if h2:BG m.ps++m.rs=[r] then some fun x y=>cast (congrArg (fun l=>Option (RT l)) h2) (m.F (cast (congrArg AT h1.symm) (x,y,c))) else none) else none
def LH (rw:List (Option Ac)) (s:Sh):Nat→List Lf→Option (List s.T)
 | 0,ls=>match ls with | []=>some [] | _=>none
 | n+1,ls=>match Az rw s ls with
  | some (x,r)=>(match LH rw s n r with | some xs=>some (x :: xs) | none=>none)
  | none=>none
def Abx (E:Env) (fr:Fr) (rw:List (Option Ac)) (s:Sh) (cs:List Lf):Option s.T :=
 match s,cs with
 | .fn1 a r,[.fn g caps]=>match lkp E.vf g with
  | some m=>match HM fr rw (m.ps.drop 1) caps with
   | some c=>bif r.flat then Akc a r (m.ps.drop 1) m c else none
   | none=>none
  | none=>none
 | .fn2 a b r,[.fn g caps]=>match lkp E.vf g with
  | some m=>match HM fr rw (m.ps.drop 2) caps with
   | some c=>bif r.flat then Akd a b r (m.ps.drop 2) m c else none
   | none=>none
  | none=>none
 | .fn1 a r,[.fv1 a' r' φ]=>if h:a'=a∧r'=r then some (h.1▸h.2▸φ) else none
 | .fn2 a b r,[.fv2 a' b' r' φ]=>if h:a'=a∧b'=b∧r'=r then some (h.1▸h.2.1▸h.2.2▸φ) else none
 | .list e s',[.bsl i e' n]=>if e=e' then (match at? fr.bx i with
  | some b=>bif Bz b.cs then LH rw s' n b.cs else none
  | none=>none) else none
 | s,cs=>DZ (Az rw s cs)
def CL (E:Env) (fr:Fr) (rw:List (Option Ac)):(ps:List (PM×Sh))→List (Bool×List Lf)→List (Option Ac)→Option (AT ps)
 | [],[],_=>some ()
 | (m,s) :: ps,(ag,cs) :: vs,rc=>match m with
  | .ro=>bif s.agg==ag then (match Abx E fr rw s cs,CL E fr rw ps vs rc with
   | some x,some xs=>some (x,xs)
   | _,_=>none) else none
  | .mv=>bif s.agg==ag then (match take (fun m=>m==.own) none s cs rc with
   | some (x,[],rc1)=>(match CL E fr rw ps vs rc1 with | some xs=>some (x,xs) | none=>none)
   | _=>none) else none
  | .io=>bif s.agg==ag then (match take Md.mine none s cs rc with
   | some (x,[],rc1)=>(match CL E fr rw ps vs rc1 with | some xs=>some (x,xs) | none=>none)
   | _=>none) else none
  | .cap=>match ag,cs with
   | false,[.box b 0]=>(match at? fr.bx b with
    | some b=>bif Bz b.cs then (match DZ (Az rw s b.cs),CL E fr rw ps vs rc with
     | some x,some xs=>some (x,xs)
     | _,_=>none) else none
    | none=>none)
   | _,_=>none
 | _,_,_=>none
def Db (E:Env) (fr:Fr) (m:Mdl) (vs:List (Bool×List Lf)):Res :=
 match BZ m.ps vs fr.rw with
 | some rw=>match CL E fr rw m.ps vs fr.rw with
  | some xs=>bif m.rs.all Sh.data then .call m (m.F xs) vs rw (m.ps.all fun p=>p.1==.ro||p.1==.cap) else .fail
  | none=>.fail
 | none=>.fail
def RT.hd {s:Sh} {l:List Sh}:RT (s :: l)→s.T:=match l with | []=>fun x=>x | _ :: _=>fun x=>x.1
def RT.tl {s:Sh} {l:List Sh}:RT (s :: l)→RT l:=match l with | []=>fun _=>() | _ :: _=>fun x=>x.2
def RT.mk {s:Sh} {l:List Sh}:s.T→RT l→RT (s :: l):=match l with | []=>fun x _=>x | _ :: _=>fun x y=>(x,y)
def Bt (rw0:List (Option Ac)):(s:Sh)→List Lf→s.T→List (Option Ac)→List Lf×List (Option Ac)
 | .list e s,l :: r,xs,rw=>(r,match l with
  | .row i=>(match at? rw0 i with | some q=>AL rw i (some ⟨e,s,xs,q.m⟩) | none=>rw)
  | _=>rw)
 | .cons a b,l,x,rw=>let p:=Bt rw0 a l x.1 rw;Bt rw0 b p.1 x.2 p.2
 | _,_ :: r,_,rw=>(r,rw)
 | _,[],_,rw=>([],rw)
def N0 {rs:List Sh} (rw0:List (Option Ac)):(ps:List (PM×Sh))→List (Bool×List Lf)→RT (BG ps++rs)→List (Option Ac)→List (Option Ac)×RT rs
 | [],_,y,rw=>(rw,y)
 | (.io,s) :: ps,vs,y,rw=>N0 rw0 ps vs.tail (RT.tl (l:=BG ps++rs) y) (Bt rw0 s (match vs with | v :: _=>v.2 | []=>[]) (RT.hd (l:=BG ps++rs) y) rw).2
 | (.ro,_) :: ps,vs,y,rw | (.mv,_) :: ps,vs,y,rw | (.cap,_) :: ps,vs,y,rw=>N0 rw0 ps vs.tail y rw
def Av:(l:List Sh)→RT l→Nat→List (Bool×List Lf)×List Ac
 | [],_,_=>([],[])
 | s :: l,x,n =>
  let p:=Aa .own s x.hd n
  let q:=Av l x.tl (n+p.2.length)
  ((s.agg,p.1) :: q.1,p.2++q.2)
def one (vs:List (Bool×List Lf)):AV:=match vs with | [(ag,cs)]=>.v ag cs | vs=>.tup vs
def Am (fr:Fr) (m:Mdl) (vs:List (Bool×List Lf)) (rw:List (Option Ac)) (quiet:Bool) (y:RT (BG m.ps++m.rs)):AV×List Ac×Eff :=
 let b:=N0 fr.rw m.ps vs y rw
 let q:=Av m.rs b.2 fr.rw.length
 (one q.1,q.2,bif quiet then .pure else .tab b.1)

def J8 (E:Env) (fr:Fr) (m:Mdl) (vs:List (Bool×List Lf)):Res:=.fail
def FS (E:Env) (fr:Fr) (m:DY) (vs:List (Bool×List Lf)):Res :=
 match vs with
 | (false,[.box i 0]) :: vs'=>match at? fr.bx i with
  | some b=>match b.cs with
   | l :: cs=>bif b.own&&m.ps.all (fun p=>p.1==.ro)&&m.rs.all Sh.data&&m.r.flat then (
    match LE fr.rw m.e m.s l,DZ (Az fr.rw m.r cs),CL E { fr with bx:=AL fr.bx i none } fr.rw m.ps vs' fr.rw with
    | some xs,some y,some a=>.callE (m.r :: m.rs) (m.F ((xs,y),a)) (some (RT.mk y (RT.dfl m.rs))) (fun z =>
      let q:=Av m.rs (RT.tl z) fr.rw.length
      ⟨one q.1,q.2,[],.box i { b with cs:=l :: (Aa .own m.r (RT.hd z) 0).1 }⟩)
    | _,_,_=>.fail) else .fail
   | []=>.fail
  | none=>.fail
 | _=>.fail
def LJ (E:Env) (fr:Fr) (m:PE) (vs:List (Bool×List Lf)):Res :=
 match vs with
 | (false,[.row i]) :: vs'=>bif m.ps.all (fun p=>p.1==.ro)&&m.r.flat then (
   match LE fr.rw m.e m.s (.row i),CL E fr fr.rw m.ps vs' fr.rw with
   | some xs,some a=>.callE [m.r] (m.F (xs,a)) none (fun z=>⟨.l (.box fr.bx.length 0),[],[⟨true,.row i :: (Aa .own m.r z 0).1⟩],.pure⟩)
   | _,_=>.fail) else .fail
 | _=>.fail

def LK (E:Env) (fr:Fr) (t:Nat) (x y:Lf):Res :=
 match slT E t,x with
 | some (e,s,b),.row i=>match at? fr.rw i with
  | some q=>bif q.m==.own&&Nat.beq e q.e then (if hq:q.s=s then (
   match y with
   | .row j=>match at? fr.rw j with
    | some p=>bif Nat.beq p.e e then (if h:p.s=s then (
      bif s.flat then
       .done (Nat.ble (q.xs.length+p.xs.length) (lim b)) (some (.l (.row fr.rw.length))) [⟨e,s,DI hq q.xs++DI h p.xs,.own⟩] [] (.gone [i])
      else bif p.m==.own&&!Nat.beq i j then
       .done (Nat.ble (q.xs.length+p.xs.length) (lim b)) (some (.l (.row fr.rw.length))) [⟨e,s,DI hq q.xs++DI h p.xs,.own⟩] [] (.tab (Ae j (AL (Ae i (AL fr.rw i none)) j none)))
      else .fail) else .fail) else .fail
    | none=>.fail
   | .view j lo hi=>match at? fr.rw j with
    | some p=>bif Nat.beq p.e e&&s.flat then (if h:p.s=s then
       .done (Nat.ble (q.xs.length+(((DI h p.xs).take hi.toNat).drop lo.toNat).length) (lim b)) (some (.l (.row fr.rw.length))) [⟨e,s,DI hq q.xs++((DI h p.xs).take hi.toNat).drop lo.toNat,.own⟩] [] (.gone [i])
      else .fail) else .fail
    | none=>.fail
   | _=>.fail) else .fail) else .fail
  | none=>.fail
 | _,_=>.fail
def bnd (fr:Fr) (ch:List (Nat×Bool)) (d:Int):Option Operand→Option Int
 | none=>some d
 | some x=>match op1 fr ch x with | some (.int _ n)=>some n | _=>none
def PG (E:Env) (fr:Fr) (ch:List (Nat×Bool)) (ty:Nat) (x:Operand):Res :=
 match opd fr ch x with
 | some (.v false [.nil])=>match slT E ty with
  | some (e,s,_)=>.done true (some (.l (.row fr.rw.length))) [⟨e,s,[],.own⟩] [] .pure
  | none=>vals false [.nil]
 | some (.v ag cs)=>vals ag cs
 | some (.tup vs)=>.done true (some (.tup vs)) [] [] .pure
 | _=>.fail
def Aby (E:Env) (fr:Fr) (ch:List (Nat×Bool)) (op:BinOp) (t:Nat) (x y:Operand):Res :=
 match opl fr ch x,opl fr ch y with
 | some v,some u=>match bin E op t v u with
  | some (req,l)=>val req l
  | none=>.fail
 | _,_=>.fail
def AlF (fr:Fr) (ch:List (Nat×Bool)) (op:UnOp) (x:Operand):Res :=
 match op,op1 fr ch x with
 | .not,some (.bool b)=>val true (.bool (!b))
 | .neg,some (.int k n)=>val true (.int k (k.wrap (0-n)))
 | _,_=>.fail
def UG (fr:Fr) (ch:List (Nat×Bool)) (c:Operand) (a b:Operand):Res :=
 match c with
 | .tmp c=>match op1 fr ch (.tmp c),op1 fr ((c,true) :: ch) a,op1 fr ((c,false) :: ch) b with
  | some (.bool t),some (.bool u),some (.bool v)=>val true (.bool (bif t then u else v))
  | _,_,_=>.fail
 | _=>.fail
def Abz (fr:Fr) (ch:List (Nat×Bool)) (x:Operand):Res :=
 match opl fr ch x with
 | some (_,cs)=>.done true (some (.l (.box fr.bx.length 0))) [] [⟨true,cs⟩] .pure
 | none=>.fail
def PH (E:Env) (fr:Fr) (t:Nat):Res :=
 match lkp E.ty t with
 | some ty=>bif ty.sh.data then (
   let q:=Aa .own ty.sh ty.sh.dfl fr.rw.length
   .done true (some (.l (.box fr.bx.length 0))) q.2 [⟨true,q.1⟩] .pure) else .fail
 | none=>.fail
def AbA (fr:Fr) (ch:List (Nat×Bool)) (x:Operand):Res :=
 match op1 fr ch x with
 | some (.box i o)=>val true (.box i o)
 | some (.elem i j o)=>val true (.elem i j o)
 | _=>.fail
def FT (E:Env) (fr:Fr) (ch:List (Nat×Bool)) (s:Nat) (x:Operand) (f:Nat):Res :=
 match lkp E.ty s with
 | some (.st _ fs)=>match fs[f]?,op1 fr ch x with
  | some (off,_),some (.box i o)=>val true (.box i (o+off))
  | some (off,_),some (.elem i j o)=>val true (.elem i j (o+off))
  | _,_=>.fail
 | _=>.fail
def PI (E:Env) (fr:Fr) (ch:List (Nat×Bool)) (t:Nat) (x:Operand) (f:Nat):Res :=
 match lkp E.ty t,opl fr ch x with
 | some (.st _ fs),some (true,cs)=>match fs[f]? with
  | some (off,n)=>bif Nat.ble (off+n) cs.length then vals (Nat.blt 1 n) ((cs.drop off).take n) else .fail
  | none=>.fail
 | _,_=>.fail
def UH (E:Env) (fr:Fr) (ch:List (Nat×Bool)) (t:Nat) (x:Operand):Res :=
 match op1 fr ch x with
 | some p=>loadAt E fr t p
 | none=>.fail
def HN (fr:Fr) (i off n:Nat) (vs:List Lf):Res :=
 match at? fr.bx i with
 | some b=>bif b.own&&Bz b.cs&&Nat.ble (off+n) b.cs.length&&Nat.beq vs.length n then .done true none [] [] (.box i { b with cs:=E4 b.cs off vs }) else .fail
 | none=>.fail
def FU (fr:Fr) (i:Nat) (j:Int) (off n:Nat) (vs:List Lf):Res :=
 match at? fr.rw i with
 | some r=>bif r.m.mine&&Nat.beq vs.length n then (match Hy r.s off n with
  | some ⟨u,_,g⟩=>match take (fun m=>m==.own) (some i) u vs fr.rw with
   | some (y,[],_)=>bif u.flat then .done true none [] [] (.tab (Ae i (AL fr.rw i (some { r with xs:=r.xs.set j.toNat (g (r.xs.getD j.toNat r.s.dfl) y) })))) else .fail
   | _=>.fail
  | none=>.fail) else .fail
 | none=>.fail
def PJ (E:Env) (fr:Fr) (ch:List (Nat×Bool)) (t:Nat) (a x:Operand):Res :=
 match op1 fr ch a,opl fr ch x,tyN E t with
 | some (.box i off),some (_,vs),some (n,_)=>HN fr i off n vs
 | some (.elem i j off),some (_,vs),some (n,_)=>FU fr i j off n vs
 | _,_,_=>.fail
def FV (E:Env) (fr:Fr) (ch:List (Nat×Bool)) (t:Nat) (x i:Operand):Res :=
 match op1 fr ch x,op1 fr ch i with
 | some v,some (.int _ j)=>match CQ fr v with
  | some (r,q,lo,len)=>bif Ww E t q then val (decide (0≤j)&&decide (j<len)) (.elem r (lo+j) 0) else .fail
  | none=>.fail
 | _,_=>.fail
def Wx:List Lf→Option (List ByteArray)
 | []=>some []
 | .str s :: r=>(match Wx r with | some l=>some (s :: l) | none=>none)
 | _=>none
def LL (E:Env) (fr:Fr) (ch:List (Nat×Bool)) (t:Nat) (x i:Operand):Res :=
 match lkp E.ty t,opl fr ch x,op1 fr ch i with
 | some (.ar _ _ n),some (true,cs),some (.int _ j)=>(match Wx cs with
  | some l=>bif Nat.beq l.length n then val (decide (0≤j)&&decide (j<(n:Int))) (.str (l.getD j.toNat ByteArray.empty)) else .fail
  | none=>.fail)
 | _,_,_=>.fail
def PK (E:Env) (fr:Fr) (ch:List (Nat×Bool)) (t:Nat) (x i:Operand):Res :=
 match lkp E.ty t,op1 fr ch x,op1 fr ch i with
 | some (.sc .str),some (.str s),some (.int _ j)=>val (decide (0≤j)&&decide (j<(s.size:Int))) (.int .u8 ((s.data.getD j.toNat 0).toNat:Int))
 | _,_,_=>LL E fr ch t x i
def PL (E:Env) (fr:Fr) (ch:List (Nat×Bool)) (t:Nat) (x:Operand) (lo hi:Option Operand):Res :=
 match op1 fr ch x with
 | some (.str s)=>match lkp E.ty t,bnd fr ch 0 lo,bnd fr ch s.size hi with
  | some (.sc .str),some l,some h=>val (decide (0≤l)&&decide (l≤h)&&decide (h≤(s.size:Int))) (.str (s.extract l.toNat h.toNat))
  | _,_,_=>.fail
 | some v=>match CQ fr v with
  | some (r,q,b,n)=>bif KA E t q then (
   match bnd fr ch 0 lo,bnd fr ch n hi with
   | some l,some h=>val (decide (0≤l)&&decide (l≤h)&&decide (h≤n)) (.view r (b+l) (b+h))
   | _,_=>.fail) else .fail
  | none=>.fail
 | none=>.fail
def PN (E:Env) (fr:Fr) (ch:List (Nat×Bool)) (t:Nat) (parts:List (Nat×Operand)):Res :=
 match (lkp E.ty t).bind Ty.parts with
 | some (s,fs)=>bif s.data then (
   let q:=Aa .own s s.dfl fr.rw.length
   match PF fr ch fs parts q.1 with
   | some cs=>.done true (some (.v true cs)) q.2 [] .pure
   | none=>.fail) else .fail
 | _=>.fail
def PO (fr:Fr) (ch:List (Nat×Bool)) (sz:Nat):List (Nat×Operand)→List Lf→Option (List Lf)
 | [],cs=>some cs
 | (i,x) :: r,cs=>match opl fr ch x with
  | some (_,vs)=>bif Nat.beq vs.length sz&&Nat.ble (i*sz+sz) cs.length then PO fr ch sz r (E4 cs (i*sz) vs) else none
  | none=>none
def HO (fr:Fr) (ch:List (Nat×Bool)) (e:Nat) (s:Sh) (n:Nat) (parts:List (Nat×Operand)):Res :=
 match Jp s with
 | some z=>(match PO fr ch s.n parts (List.replicate n z).flatten with
  | some cs=>bif Nat.ble (n*s.n) 16777216 then .done true (some (.l (.bsl fr.bx.length e n))) [] [⟨true,cs⟩] .pure else .fail
  | none=>.fail)
 | none=>.fail
def E5 (E:Env) (fr:Fr) (ch:List (Nat×Bool)) (t n:Nat) (parts:List (Nat×Operand)):Res :=
 match slT E t with
 | some (e,s,_)=>match FR fr ch fr.rw.length s parts (List.replicate n s.dfl) fr.rw with
  | some (xs,rw)=>bif Nat.ble (n*s.n) 16777216 then .done true (some (.l (.row fr.rw.length))) [⟨e,s,xs,.own⟩] [] (bif s.flat then .pure else .tab rw) else .fail
  | none=>HO fr ch e s n parts
 | none=>.fail
def UI (E:Env) (fr:Fr) (ch:List (Nat×Bool)) (t:Nat) (x y:Operand):Res :=
 match slT E t,op1 fr ch x,op1 fr ch y with
 | some (e,s,b),some (.int .i64 n),some (.int .i64 c)=>.done (decide (0≤n)&&Nat.ble n.toNat (lim b)&&(n==c)) (some (.l (.row fr.rw.length))) [⟨e,s,List.replicate n.toNat s.dfl,.own⟩] [] .pure
 | _,_,_=>.fail
def KJ:List (Bool×List Lf)→Option (List Nat)
 | []=>some []
 | (false,[.box b 0]) :: r=>match KJ r with | some bs=>some (b :: bs) | none=>none
 | _=>none
def UJ (fr:Fr) (ch:List (Nat×Bool)) (f:Fn) (first captured:List Operand):Res :=
 match f,first,UE fr ch captured with
 | .func g,[],some vs=>match KJ vs with
  | some bs=>val true (.fn g bs)
  | none=>.fail
 | _,_,_=>.fail
def Jr (E:Env) (fr:Fr) (ch:List (Nat×Bool)) (src t:Nat) (x:Operand):Res :=
 match op1 fr ch x with
 | some (.int _ n)=>match lkp E.ty src,lkp E.ty t with
  | some _,some (.sc (.int k))=>val true (.int k (k.wrap n))
  | _,_=>.fail
 | some (.row i)=>match slT E src,lkp E.ty t,at? fr.rw i with
  | some (e,_,_),some (.sc .str),some r=>(match lkp E.ty e with
   | some (.sc (.int .u8))=>if h:r.s=.int .u8 then val true (.str (strOfNums (DI h r.xs))) else .fail
   | _=>.fail)
  | _,_,_=>.fail
 | _=>.fail
def Js (fr:Fr) (ch:List (Nat×Bool)) (x:Operand) (i:Nat):Res :=
 match opd fr ch x with
 | some (.tup vs)=>match vs[i]? with | some (ag,cs)=>vals ag cs | none=>.fail
 | _=>.fail
def AbB (E:Env) (fr:Fr) (ch:List (Nat×Bool)) (as:List Operand) (ts:List Nat):Res :=
 match as,ts with
 | [x],[t]=>match lkp E.ty t,op1 fr ch x with
  | some (.sc .str),some (.str s)=>val true (.int .i64 s.size)
  | some (.sl _ _ _),some .nil=>val true (.int .i64 0)
  | some (.sl _ _ _),some v=>match CQ fr v with | some (_,_,_,n)=>val true (.int .i64 n) | none=>.fail
  | _,_=>.fail
 | _,_=>.fail
def UK (E:Env) (fr:Fr) (ch:List (Nat×Bool)) (as:List Operand) (ts:List Nat):Res :=
 match as,ts with
 | [x],[t]=>(match op1 fr ch x with
  | some (.mp i)=>LG E fr t i
  | _=>AbB E fr ch [x] [t])
 | _,_=>.fail
def LM (E:Env) (fr:Fr) (ch:List (Nat×Bool)) (as:List Operand) (ts:List Nat):Res :=
 match as,ts with
 | [x,y],[t,t']=>match op1 fr ch x,op1 fr ch y with
  | some v,some u=>bif Nat.beq t t' then LK E fr t v u else .fail
  | _,_=>.fail
 | _,_=>.fail
def clr {α:Type} (xs:List α) (lo hi:Nat) (d:α):List α:=xs.take lo++List.replicate (hi-lo) d++xs.drop hi
def PP (E:Env) (fr:Fr) (ch:List (Nat×Bool)) (as:List Operand) (ts:List Nat):Res :=
 match as,ts with
 | [x],[t]=>match op1 fr ch x with
  | some v=>match CQ fr v with
   | some (i,r,lo,len)=>bif r.m.mine&&r.s.flat&&KA E t r then .done true none [] [] (.tab (Ae i (AL fr.rw i (some { r with xs:=clr r.xs lo.toNat (lo+len).toNat r.s.dfl })))) else .fail
   | none=>.fail
  | none=>.fail
 | _,_=>.fail
def UL (E:Env) (fr:Fr) (ch:List (Nat×Bool)) (as:List Operand) (ts:List Nat):Res :=
 match as,ts with
 | [x,y],[t,t']=>match op1 fr ch x,op1 fr ch y with
  | some v,some u=>match CQ fr v,CQ fr u with
   | some (i,r,lo,len),some (_,p,lo',len')=>if h:p.s=r.s then (bif r.m.mine&&r.s.flat&&Nat.beq r.s.n 1&&KA E t r&&KA E t' p then
     .done true (some (.l (.int .i64 (bif decide (len≤len') then len else len')))) [] [] (.set i r.e r.s (r.xs.take lo.toNat++(((DI h p.xs).take (lo'+len').toNat).drop lo'.toNat).take (bif decide (len≤len') then len else len').toNat++r.xs.drop (lo.toNat+(bif decide (len≤len') then len else len').toNat))) else .fail) else .fail
   | _,_=>.fail
  | _,_=>.fail
 | _,_=>.fail
def Wy (big:Bool) (fr:Fr) (ch:List (Nat×Bool)) (as:List Operand):Res :=
 match as with
 | [x,y]=>match op1 fr ch x,op1 fr ch y with
  | some (.int k a),some (.int k' b)=>if k=k' then val true (.int k (bif big then (if b>a then b else a) else (if b<a then b else a))) else .fail
  | _,_=>.fail
 | _=>.fail
def UM (E:Env) (fr:Fr) (ch:List (Nat×Bool)) (f:Operand) (as:List Operand):Res :=
 match op1 fr ch f,UE fr ch as with
 | some (.fn g caps),some vs=>match lkp E.fs g with
  | some m=>(match Db E fr m (vs++caps.map fun b=>(false,[Lf.box b 0])) with
   | .fail=>J8 E fr m (vs++caps.map fun b=>(false,[Lf.box b 0]))
   | r=>r)
  | none=>(match caps with
   | []=>(match lkp E.pf g with
    | some m=>FS E fr m vs
    | none=>(match lkp E.nf g with
     | some m=>LJ E fr m vs
     | none=>.fail))
   | _ :: _=>.fail)
 | some (.fv1 a r φ),some vs=>Db E fr ⟨[(.ro,a)],[r],fun x=>φ x.1⟩ vs
 | some (.fv2 a b r φ),some vs=>Db E fr ⟨[(.ro,a),(.ro,b)],[r],fun x=>φ x.1 x.2.1⟩ vs
 | _,_=>.fail
def FN (E:Env) (fr:Fr) (ch:List (Nat×Bool)) (o:Oper):Res :=
 match o.op with
 | .move x=>PG E fr ch o.type x
 | .assign x=>PG E fr ch o.type x
 | .binOp op t x y _=>Aby E fr ch op t x y
 | .unOp op _ x=>AlF fr ch op x
 | .pick c a b=>UG fr ch c a b
 | .box _ x=>Abz fr ch x
 | .alloc t=>PH E fr t
 | .nilCheck x=>AbA fr ch x
 | .fieldAddr s x f=>FT E fr ch s x f
 | .field t x f=>PI E fr ch t x f
 | .load t x=>UH E fr ch t x
 | .store t a x=>PJ E fr ch t a x
 | .indexAddr t x i=>FV E fr ch t x i
 | .index t x i=>PK E fr ch t x i
 | .slice t x lo hi none=>PL E fr ch t x lo hi
 | .build t parts=>PN E fr ch t parts.toList
 | .buildSlice t n parts=>E5 E fr ch t n parts.toList
 | .makeSlice t x y=>UI E fr ch t x y
 | .makeFunc f first captured=>UJ fr ch f first.toList captured.toList
 | .convert s t x=>Jr E fr ch s t x
 | .extract x i=>Js fr ch x i
 | .makeMap t r=>Jq E fr t r
 | .lookup t x ix ok=>LF E fr ch t x ix ok
 | .mapUpdate t m k x=>Ej E fr ch t m k x
 | .insert t m k x=>Ej E fr ch t m k x
 | .call c=>match c.callee with
  | .builtin .len=>UK E fr ch c.args.toList c.argTypes.toList
  | .builtin .append=>LM E fr ch c.args.toList c.argTypes.toList
  | .builtin .copy=>UL E fr ch c.args.toList c.argTypes.toList
  | .builtin .clear=>PP E fr ch c.args.toList c.argTypes.toList
  | .builtin .max=>Wy true fr ch c.args.toList
  | .builtin .min=>Wy false fr ch c.args.toList
  | .value f=>UM E fr ch f c.args.toList
  | _=>.fail
 | _=>.fail

def AV.waits (t:Nat):AV→Bool
 | .grd c _ _ _=>c.any fun p=>Nat.beq p.1 t
 | _=>false
def NF (nt:Nat) (sl:List (Nat×AV)) (d:Option Nat) (v:Option AV):Option (List (Nat×AV)) :=
 match d with
 | none=>some sl
 | some t=>bif Nat.blt t nt then
   let sl:=sl.filter fun p=>!p.2.waits t
   (match v with
   | some v=>bif v.waits t then none else some (ins sl t v)
   | none=>some (sl.filter fun p=>!Nat.beq p.1 t)) else none
def EC (fr:Fr) (d:Option Nat) (v:Option AV):Option Fr :=
 match NF fr.nt fr.sl d v with
 | some sl=>some { fr with sl:=sl }
 | none=>none
def ZY (i e:Nat) (s:Sh) (xs:List s.T) (rw:List (Option Ac)):List (Option Ac):=Ae i (AL rw i ((at? rw i).map fun r=>⟨e,s,xs,r.m⟩))
def FW (is:List Nat) (rw:List (Option Ac)):List (Option Ac):=is.foldl (fun rw i=>Ae i (AL rw i none)) rw
def D0 (a b:List (Option Ac)):List Nat:=(List.range a.length).filter fun i=>match at? a i,at? b i with | some _,none=>true | _,_=>false
def PQ (ps:List (PM×Sh)):Bool:=ps.all fun p=>p.1==.ro||p.1==.cap||p.1==.mv
def upd (fr:Fr) (nr:List Ac) (nb:List Bn) (ef:Eff):Fr :=
 match ef with
 | .pure=>{ fr with bx:=fr.bx++nb.map some,rw:=fr.rw++nr.map some }
 | .box i b=>{ fr with bx:=AL fr.bx i (some b)++nb.map some,rw:=fr.rw++nr.map some }
 | .tab rw=>{ fr with bx:=fr.bx++nb.map some,rw:=rw++nr.map some }
 | .gone is=>{ fr with bx:=fr.bx++nb.map some,rw:=FW is fr.rw++nr.map some }
 | .set i e s xs=>{ fr with bx:=fr.bx++nb.map some,rw:=ZY i e s xs fr.rw++nr.map some }
def AO (g:Bool) (r:Ac):Ac:={ r with xs:=bif g then r.xs else [],m:=match r.m with | .bor p _=>.bor p none | m=>m }
def B6 (fr:Fr) (r:Ac):Bool :=
 match r.m with
 | .own | .ro=>true
 | .io=>false
 | .bor p _=>match at? fr.rw p with | some r=>r.m.mine | none=>false
def FX (ch:List (Nat×Bool)) (g:Bool):AV→Option AV
 | .v ag cs=>some (.grd ch g ag cs)
 | _=>none
def KL (all:List Oper) (fr:Fr) (i:Nat) (want:Bool):Option (List (Nat×Bool)×Bool) :=
 match (all[i]?).bind (·.dst) with
 | none=>none
 | some s=>match lkp fr.sl s with
  | some (.v false [.bool b])=>some ([(s,want)],bif want then b else !b)
  | some (.grd c g false [.bool b])=>some ((s,want) :: c,g&&(bif want then b else !b))
  | _=>none
def Dl (fr:Fr):Eff→Bool | .tab rw=>Nat.beq rw.length fr.rw.length | .box i _=>Nat.blt i fr.bx.length | .pure=>true | .gone _=>true | .set i _ _ _=>(match at? fr.rw i with | some r=>r.m.mine | none=>false)
def Ake:Eff→Bool | .box _ _=>true | _=>false
def FY:Eff→Bool | .pure=>true | _=>false
def H8 (E:Env) (fr:Fr) (ch:List (Nat×Bool)) (o:Oper):Res :=
 match o.op with
 | .call c=>(match c.callee with
  | .value x=>(match op1 fr ch x,UE fr ch c.args.toList with
   | some (.fn f []),some vs=>(match lkp E.pf f with
    | some m=>FS E fr m vs
    | none=>.fail)
   | _,_=>.fail)
  | _=>.fail)
 | _=>.fail
def H9 {R:Type} (fr:Fr) (d:Option Nat) (v:AV) (k:Fr→Option R):Option R:=match EC fr d (some v) with | some fr'=>k fr' | none=>none
def AbC {R:Type} (E:Env) (fr:Fr) (m:UD) (vs:List (Bool×List Lf)) (d:Option Nat) (k:Fr→Option R):Option R :=
 match vs with
 | (false,[.box i 0]) :: vs'=>match at? fr.bx i with
  | some b=>bif b.own&&(Bz b.cs&&(m.c.agg&&(m.c.data&&(m.ps.all (fun p=>p.1==.ro)&&m.rs.all Sh.data)))) then (
   match BZ ((.mv,m.c) :: m.ps) ((true,b.cs) :: vs') fr.rw with
   | some rw1=>(match CL E { fr with bx:=AL fr.bx i none } rw1 ((.mv,m.c) :: m.ps) ((true,b.cs) :: vs') fr.rw with
    | some x=>(m.F x).bind fun y =>
      let q:=Av (m.c :: m.rs) y fr.rw.length
      H9 { nt:=fr.nt,sl:=fr.sl,bx:=AL fr.bx i (some ⟨true,(Aa .own m.c (RT.hd y) fr.rw.length).1⟩),rw:=rw1++q.2.map some } d (one q.1.tail) k
    | none=>none)
   | none=>none) else none
  | none=>none
 | _=>none
def NG (p n:Nat):Lf→Lf
 | .row i=>.row (bif Nat.beq i p then n else i)
 | .view i lo hi=>.view (bif Nat.beq i p then n else i) lo hi
 | .elem i j off=>.elem (bif Nat.beq i p then n else i) j off
 | l=>l
def AV.mv (p n:Nat):AV→AV
 | .v ag cs=>.v ag (cs.map (NG p n))
 | .tup vs=>.tup (vs.map fun q=>(q.1,q.2.map (NG p n)))
 | .grd c g ag cs=>.grd c g ag (cs.map (NG p n))
def mvFr (p n:Nat) (fr:Fr):Fr:={ nt:=fr.nt,sl:=fr.sl.map (fun q=>(q.1,q.2.mv p n)),bx:=fr.bx.map (fun b=>b.map fun b=>{ b with cs:=b.cs.map (NG p n) }),rw:=fr.rw }
def LN {R:Type} (E:Env) (fr:Fr) (t:Nat) (x y:Lf) (d:Option Nat) (k:Fr→Option R):Option R :=
 match slT E t,x,y with
 | some (e,s,b),.row i,.bsl bb _ 1=>(match at? fr.rw i,at? fr.bx bb with
  | some ⟨ei,.list e1 s1,xs,.own⟩,some ⟨_,[.row j]⟩=>(match at? fr.rw j with
   | some ⟨_,_,_,.bor p (some (kk,0))⟩=>(match at? fr.rw p with
    | some ⟨ep,.ol e2 s2,ps,.own⟩ =>
     if h1:s=.list e1 s1 then (if h2:s2=s1 then (
      bif Nat.beq ei e&&Nat.beq e2 e1&&(ps.getD kk.toNat none).isSome&&Nat.ble (xs.length+1) (lim b) then (
      let N:=fr.rw.length
      let ys:=DI h2 ((ps.getD kk.toNat none).getD [])
      let rwA:=Ae p (AL fr.rw p none)++[some ⟨ep,.ol e2 s2,ps.set kk.toNat none,.own⟩,some ⟨e1,s1,ys,.own⟩]
      H9 (mvFr p N { nt:=fr.nt,sl:=fr.sl,bx:=fr.bx,rw:=Ae (N+1) (AL (Ae i (AL rwA i none)) (N+1) none)++[some ⟨e,.list e1 s1,xs++[ys],.own⟩] }) d (.l (.row (N+2))) k)
      else none) else none) else none
    | _=>none)
   | _=>none)
  | _,_=>none)
 | _,_,_=>none
def Anj {α R:Type} (o:Option α) (n:Option R) (s:α→Option R):Option R:=match o with | none=>n | some x=>s x
def AbD {R:Type} (E:Env) (fr:Fr) (m:H7) (vs:List (Bool×List Lf)) (d:Option Nat) (k:Fr→Option R):Option R :=
 bif m.c.data&&(m.ps.all (fun p=>p.1==.ro)&&m.rs.all Sh.data) then (
  match CL E fr fr.rw m.ps vs fr.rw with
  | some x=>(m.F x).bind fun y=>Anj y.1
    (let q:=Av m.rs y.2 fr.rw.length
    H9 { nt:=fr.nt,sl:=fr.sl,bx:=fr.bx,rw:=fr.rw++q.2.map some } d (one ((false,[.und]) :: q.1)) k)
    (fun z =>
     let q:=Av (m.c :: m.rs) (RT.mk z y.2) fr.rw.length
     H9 { nt:=fr.nt,sl:=fr.sl,bx:=fr.bx++[some ⟨true,(Aa .own m.c z fr.rw.length).1⟩],rw:=fr.rw++q.2.map some } d (one ((false,[.box fr.bx.length 0]) :: q.1.tail)) k)
  | none=>none) else none
def AbE {R:Type} (E:Env) (fr:Fr) (m:H7) (vs:List (Bool×List Lf)) (d:Option Nat) (k:Fr→Option R):Option R :=
 bif m.c.data&&m.c.agg&&(m.ps.all (fun p=>p.1==.ro)&&m.rs.all Sh.data) then (
  match CL E fr fr.rw m.ps vs fr.rw with
  | some x=>(m.F x).bind fun y=>Anj y.1
    (let q:=Av m.rs y.2 fr.rw.length
    H9 { nt:=fr.nt,sl:=fr.sl,bx:=fr.bx,rw:=fr.rw++q.2.map some } d (one ((true,List.replicate m.c.n .und) :: q.1)) k)
    (fun z =>
     let q:=Av (m.c :: m.rs) (RT.mk z y.2) fr.rw.length
     H9 { nt:=fr.nt,sl:=fr.sl,bx:=fr.bx,rw:=fr.rw++q.2.map some } d (one q.1) k)
  | none=>none) else none
def opX {R:Type} (E:Env) (o:Oper) (fr:Fr) (k:Fr→Option R):Option R :=
 match o.op with
 | .call c=>(match c.callee with
  | .value x=>(match op1 fr [] x,UE fr [] c.args.toList with
   | some (.fn f []),some vs=>(match lkp E.qf f with
    | some m=>AbC E fr m vs o.dst k
    | none=>(match lkp E.cf f with
     | some m=>AbD E fr m vs o.dst k
     | none=>(match lkp E.xf f with
      | some m=>AbE E fr m vs o.dst k
      | none=>none)))
   | _,_=>none)
  | .builtin .append=>(match c.args.toList,c.argTypes.toList with
   | [x,y],[t,t']=>(match op1 fr [] x,op1 fr [] y with
    | some v,some u=>bif Nat.beq t t' then LN E fr t v u o.dst k else none
    | _,_=>none)
   | _,_=>none)
  | _=>none)
 | _=>none
def opK {R:Type} (E:Env) (all:List Oper) (o:Oper) (fr:Fr) (k:Fr→Option R):Option R :=
 match o.guard with
 | none=>match FN E fr [] o with
  | .fail=>opX E o fr k
  | .done req v nr nb ef=>bif Dl fr ef then (bif req then (match EC (upd fr nr nb ef) o.dst v with | some fr'=>k fr' | none=>none) else none) else none
  | .call m x vs rw quiet=>x.bind fun y =>
    let r:=Am fr m vs rw quiet y
    bif Dl fr r.2.2 then (match EC (upd fr r.2.1 [] r.2.2) o.dst (some r.1) with | some fr'=>k fr' | none=>none) else none
  | .callE _ x _ f=>x.bind fun y=>bif Dl fr (f y).ef then (match EC (upd fr (f y).nr (f y).nb (f y).ef) o.dst (some (f y).v) with | some fr'=>k fr' | none=>none) else none
 | some (i,want)=>match KL all fr i want with
  | none=>none
  | some (ch,g)=>match FN E fr ch o with
   | .fail=>none
   | .done req v nr nb ef=>bif nb.isEmpty&&FY ef&&nr.all (B6 fr) then (bif req||!g then (match v.bind (FX ch g) with
     | some v=>match EC (upd fr (nr.map (AO g)) [] .pure) o.dst (some v) with | some fr'=>k fr' | none=>none
     | none=>none) else none) else none
   | .call m x vs rw quiet=>bif quiet then ((bif g then x else some (RT.dfl _)).bind fun y =>
     let r:=Am fr m vs rw true y
     bif r.2.1.all (B6 fr) then (match FX ch g r.1 with
     | some v=>match EC (upd fr (r.2.1.map (AO g)) [] .pure) o.dst (some v) with | some fr'=>k fr' | none=>none
     | none=>none) else none) else none
   | .callE _ _ _ _=>match H8 E fr ch o with
    | .callE _ x (some z) f=>(bif g then x else some z).bind fun y=>bif (f y).nb.isEmpty&&Ake (f y).ef&&Dl fr (f y).ef&&(f y).nr.all (B6 fr) then (match FX ch g (f y).v with
     | some v=>match EC (upd fr ((f y).nr.map (AO g)) [] (f y).ef) o.dst (some v) with | some fr'=>k fr' | none=>none
     | none=>none) else none
    | _=>none
def Wz (rw:List (Option Ac)):AV→List (Option Ac)
 | .v false [.row i]=>(match at? rw i with
  | some ⟨e,.list e1 s1,xs,.own⟩=>AL rw i (some ⟨e,.ol e1 s1,xs.map some,.own⟩)
  | _=>rw)
 | _=>rw
def KM (kp:List Nat) (sl:List (Nat×AV)) (rw:List (Option Ac)):List (Option Ac) :=
 kp.foldl (fun rw n=>bif Nat.ble 1000000 n then (match lkp sl (n-1000000) with | some v=>Wz rw v | none=>rw) else rw) rw
def AbF (E:Env) (fr:Fr):Fr:={ fr with sl:=fr.sl.filter (fun p=>match p.2 with | .grd _ _ _ _=>false | _=>E.kp.any (Nat.beq p.1)),rw:=KM E.kp fr.sl fr.rw }
def LO {R:Type} (E:Env) (all:List Oper):List Oper→Fr→(Fr→Option R)→Option R
 | [],fr,k=>k (AbF E fr)
 | o :: rest,fr,k=>opK E all o fr fun fr'=>LO E all rest fr' k

def HQ (l:List Nat):List Nat→List Nat
 | []=>l
 | i :: r=>bif l.any (Nat.beq i) then HQ l r else HQ (l++[i]) r

def has (l:List Nat) (i:Nat):Bool:=l.any (Nat.beq i)
def LP (bs:List (List Nat)) (o:Oper):List Nat:=o.after.toList.foldl (fun s e=>bif Region.binds .any e then HQ (HQ s [e.on]) (bs.getD e.on []) else s) []
def PR:List Oper→List (List Nat)→List (List Nat)
 | [],bs=>bs
 | o :: r,bs=>PR r (bs++[LP bs o])
def DM:List Oper→Nat→Bool
 | [],_=>true
 | o :: r,i=>(o.after.toList.all fun e=>!Region.binds .any e||Nat.blt e.on i)&&(match o.op with | .select _ _=>false | _=>true)&&DM r (i+1)
def inc (bs:List (List Nat)) (i j:Nat):Bool:=!Nat.beq i j&&!has (bs.getD j []) i&&!has (bs.getD i []) j
def Akf (fr:Fr):Operand→Option Nat
 | .tmp a=>(match lkp fr.sl a with
  | some (.v false [.box k _])=>bif Nat.blt k fr.bx.length then some k else none
  | _=>none)
 | _=>none
def Agc (all:List Oper):Operand→Operand
 | .tmp a=>(match all.find? fun o=>match o.dst with | some d=>Nat.beq d a | none=>false with
  | some o=>(match o.op with | .move (.tmp b)=>.tmp b | _=>.tmp a)
  | none=>.tmp a)
 | x=>x
def Ia (all:List Oper) (fr:Fr) (o:Oper):Option Nat :=
 match o.op with
 | .store _ x _=>Akf fr x
 | .call c=>(match c.args.toList with
  | x :: _=>(match Akf fr (Agc all x) with
   | some k=>(match at? fr.bx k with
    | some b=>(match b.cs with | .row _ :: _=>some k | _=>none)
    | none=>some k)
   | none=>none)
  | []=>none)
 | _=>none
structure Dr where
 ops:List Oper
 bs:List (List Nat)
 n:Nat
 ds:List (Option Nat)
def Dr.of (ops:List Oper):Dr:=⟨ops,PR ops [],ops.length,ops.map (·.dst)⟩
def FZ (v:AV):Option Nat→Bool | some d=>v.waits d | none=>false
def Dc (fr:Fr) (ds:List (Option Nat)):Bool:=fr.sl.all fun p=>match p.2 with | .grd _ _ _ _=>ds.all fun d=>!FZ p.2 d | _=>true
def neO:Option Nat→Option Nat→Bool | some a,some b=>!Nat.beq a b | _,_=>true
def inO (ds:List (Option Nat)) (t:Nat):Bool:=ds.any fun d=>match d with | some d=>Nat.beq d t | none=>false
def F3 {α:Type} (l:List (Option α)) (is:List Nat):List (Option α):=is.foldl (fun l i=>AL l i none) l
def PS (rw:List (Option Ac)) (r:Option Ac):Option Ac :=
 match r with
 | some q=>(match q.m with | .bor p _=>(match at? rw p with | some q'=>bif q'.m.mine then r else none | none=>none) | _=>r)
 | none=>none
def AP (o:Oper):Bool:=match o.op with | .move _=>true | _=>false
def FA (fr:Fr) (z:Bool) (ds:List (Option Nat)) (rs bs:List Nat):Fr :=
 let rw:=F3 fr.rw rs
 {nt:=fr.nt,sl:=fr.sl.filter fun p=>!inO ds p.1,bx:=F3 fr.bx bs,rw:=rw.map fun r=>bif z then none else PS rw r }
structure HR where
 r0:Nat
 rn:Nat
 b0:Nat
 bn:Nat
 et:Option Nat
 pr:List (Option Nat)
def AbG (D:Dr) (fr:Fr) (j:Nat):Option Nat:=(D.ops.map (Ia D.ops fr)).getD j none
def B8 (D:Dr) (z:Bool) (I:List Nat) (st:List HR) (fr:Fr):Fr :=
 FA fr z (I.map fun j=>D.ds.getD j none)
  (I.flatMap fun j=>match st[j]? with | some p=>List.range' p.r0 p.rn | none=>[])
  ((I.flatMap fun j=>match st[j]? with | some p=>List.range' p.b0 p.bn | none=>[])++I.filterMap fun j=>match st[j]? with | some p=>p.et | none=>AbG D fr j)
def PT (st:List HR) (i j:Nat):Option Nat→Bool
 | none=>true
 | some k=>(match st[j]? with
  | some p=>(match p.pr.getD i none with | some k'=>Nat.beq k k' | none=>false)||Nat.ble p.b0 k
  | none=>true)
def Ib (req:Bool) (ws:List (Option Nat)) (d:Option Nat) (v:Option AV):Bool :=
 (match v with | some v=>ws.all fun w=>!FZ v w | none=>(match d with | none=>true | some _=>false))&&req
def Ank (st:List HR) (I:List Nat) (i:Nat):Bool:=I.all fun j=>match st[j]? with | some p=>Nat.ble p.r0 i | none=>true
def Anl (D:Dr) (I:List Nat):Bool:=I.all fun j=>match D.ops[j]? with | some o=>AP o | none=>false
def FB (s:Fr) (frw:List (Option Ac)) (m:Nat) (lo:Nat→Bool) (al:Bool) (tg:Option Nat) (nb:List Bn):Eff→Bool
 | .pure=>true
 | .box j _=>nb.isEmpty&&Nat.blt j m&&(match tg with | some k=>Nat.beq j k | none=>false)&&(match at? s.bx j with | some _=>true | none=>false)
 | .tab _=>false
 | .gone is=>nb.isEmpty&&is.all fun i=>(lo i||al)&&(match at? s.rw i with | some _=>true | none=>false)
 | .set i _ _ _=>nb.isEmpty&&al&&(match at? s.rw i with | some _=>true | none=>false)&&(match at? frw i with | some r=>r.m.mine | none=>false)
def opD {R:Type} (E:Env) (all:List Oper) (o:Oper) (tg:Option Nat) (lo:Nat→Bool) (al:Bool) (ws:List (Option Nat)) (s fr:Fr) (k:Fr→Option R):Option R :=
 match o.guard with
 | none=>match FN E s [] o with
  | .fail=>none
  | .done req v nr nb ef=>bif FB s fr.rw fr.bx.length lo al tg nb ef&&(!AP o||FY ef)&&nr.all (B6 s)&&Ib req ws o.dst v then (match EC (upd fr nr nb ef) o.dst v with | some fr'=>k fr' | none=>none) else none
  | .call m x vs rw quiet=>bif quiet then (x.bind fun y =>
    let r:=Am s m vs rw true y
    bif r.2.1.all (B6 s)&&Ib true ws o.dst (some r.1) then (match EC (upd fr r.2.1 [] .pure) o.dst (some r.1) with | some fr'=>k fr' | none=>none) else none) else
    bif PQ m.ps&&!AP o&&((D0 s.rw rw).all fun i=>lo i||al) then (x.bind fun y =>
    let r:=Am s m vs rw true y
    bif r.2.1.all (B6 s)&&Ib true ws o.dst (some r.1) then (match EC (upd fr r.2.1 [] (.gone (D0 s.rw rw))) o.dst (some r.1) with | some fr'=>k fr' | none=>none) else none) else none
  | .callE _ x _ f=>x.bind fun y=>bif FB s fr.rw fr.bx.length lo al tg (f y).nb (f y).ef&&(!AP o||FY (f y).ef)&&(f y).nr.all (B6 s)&&Ib true ws o.dst (some (f y).v) then (match EC (upd fr (f y).nr (f y).nb (f y).ef) o.dst (some (f y).v) with | some fr'=>k fr' | none=>none) else none
 | some (i,want)=>match KL all s i want with
  | none=>none
  | some (ch,g)=>match FN E s ch o with
   | .fail=>none
   | .done req v nr nb ef=>bif nb.isEmpty&&FY ef&&nr.all (B6 s) then (match v.bind (FX ch g) with
     | some v=>bif Ib (req||!g) ws o.dst (some v) then (match EC (upd fr (nr.map (AO g)) [] .pure) o.dst (some v) with | some fr'=>k fr' | none=>none) else none
     | none=>none) else none
   | .call m x vs rw quiet=>bif quiet then ((bif g then x else some (RT.dfl _)).bind fun y =>
     let r:=Am s m vs rw true y
     bif r.2.1.all (B6 s) then (match FX ch g r.1 with
     | some v=>bif Ib true ws o.dst (some v) then (match EC (upd fr (r.2.1.map (AO g)) [] .pure) o.dst (some v) with | some fr'=>k fr' | none=>none) else none
     | none=>none) else none) else none
   | .callE _ _ _ _=>none
def Cf (D:Dr) (i:Nat):List Nat:=(List.range D.n).filter (inc D.bs i)
def UN (D:Dr) (tg:Option Nat) (a b:Fr):HR:=⟨a.rw.length,b.rw.length-a.rw.length,a.bx.length,b.bx.length-a.bx.length,tg,D.ops.map (Ia D.ops a)⟩
def Ic {R:Type} (E:Env) (D:Dr):List Oper→Nat→List HR→Fr→(Fr→Option R)→Option R
 | [],_,_,fr,k=>k (AbF E fr)
 | o :: rest,i,st,fr,k =>
  let I:=Cf D i
  match I with
  | []=>opK E D.ops o fr fun fr'=>bif Nat.ble fr.bx.length fr'.bx.length&&Dc fr' (D.ds.drop (i+1)) then Ic E D rest (i+1) (st++[⟨0,0,0,0,none,[]⟩]) fr' k else none
  | _ =>
   let s:=B8 D (AP o) I st fr
   let tg:=Ia D.ops s o
   bif I.all fun j=>neO (D.ds.getD i none) (D.ds.getD j none)&&PT st i j tg then
    opD E D.ops o tg (Ank st I) (Anl D I) (I.map fun j=>D.ds.getD j none) s fr fun fr'=>bif Dc fr' (D.ds.drop (i+1)) then Ic E D rest (i+1) (st++[UN D tg fr fr']) fr' k else none
   else none
def KN {R:Type} (E:Env) (ops:List Oper) (fr:Fr) (k:Fr→Option R):Option R :=
 let D:=Dr.of ops
 bif DM ops 0&&Dc fr D.ds then Ic E D ops 0 [] fr k else none

inductive Ex where | normal | exit (id:Nat) | ret
def Lf.rowOf:Lf→List Nat
 | .row i | .view i _ _ | .elem i _ _=>[i]
 | _=>[]
def UO (cs:List Lf):List Nat:=cs.flatMap Lf.rowOf
def AV.rows:AV→List Nat
 | .v _ cs | .grd _ _ _ cs=>UO cs
 | .tup vs=>vs.flatMap fun p=>UO p.2
def WA (rw:List (Option Ac)) (l:List Nat):List Nat :=
 l.flatMap fun i=>match at? rw i with
  | some r=>(match r.m with | .bor p _=>[p,i] | _=>[i])
  | none=>[]
def ED:List Nat→Nat→Option Nat
 | [],_=>none
 | j :: r,i=>bif Nat.beq j i then some 0 else (match ED r i with | some n=>some (n+1) | none=>none)
def PU (bm:List Nat):List Nat→Option (List Nat)
 | []=>some []
 | i :: r=>match ED bm i,PU bm r with | some j,some l=>some (j :: l) | _,_=>none
def Lf.ren (bm pm:List Nat):Lf→Option Lf
 | .row i=>(ED pm i).map .row
 | .view i lo hi=>(ED pm i).map fun i=>.view i lo hi
 | .elem i j off=>(ED pm i).map fun i=>.elem i j off
 | .box i off=>(ED bm i).map fun i=>.box i off
 | .mp i=>(ED bm i).map .mp
 | .bsl i e n=>(ED bm i).map fun i=>.bsl i e n
 | .fn g caps=>(PU bm caps).map fun caps=>.fn g caps
 | l=>some l
def Agd (bm pm:List Nat):List Lf→Option (List Lf)
 | []=>some []
 | l :: r=>match l.ren bm pm,Agd bm pm r with | some l,some r=>some (l :: r) | _,_=>none
def AV.ren (bm pm:List Nat):AV→Option AV
 | .v ag cs=>match Agd bm pm cs with | some cs=>some (.v ag cs) | none=>none
 | _=>none
def Md.ren (pm:List Nat):Md→Option Md
 | .bor p a=>(ED pm p).map fun p=>.bor p a
 | m=>some m
def AV.bx:AV→Option Nat
 | .v false [.box k 0]=>some k
 | _=>none
def RB (base:List (Nat×AV)):List (Nat×AV)→List Nat→List Nat
 | [],bm=>bm
 | (t,v) :: r,bm=>RB base r (match v.bx,(lkp base t).bind AV.bx with
  | some k',some k=>bif Nat.blt k' bm.length then bm else bm.set k k'
  | _,_=>bm)
def Akg:List Nat→Bool
 | i :: _=>Nat.beq i 0
 | []=>true
def RD:List Nat→Bool
 | []=>true
 | i :: r=>!(r.any (Nat.beq i))&&RD r
def Jt (m:Nat) (base cur:List (Nat×AV)):List Nat :=
 let bm:=RB base cur (List.range m)
 bif RD bm&&Akg bm then bm else List.range m
def E6 (n0:Nat) (base cur:Fr):Fr :=
 let sl:=cur.sl.filter fun p=>(lkp base.sl p.1).isSome
 let bm:=Jt base.bx.length base.sl sl
 let bx:=bm.map fun i=>at? cur.bx i
 let pm:=HQ (List.range n0) (WA cur.rw (sl.flatMap (fun p=>p.2.rows)++bx.flatMap fun b=>match b with | some b=>UO b.cs | none=>[]))
 {nt:=cur.nt
  sl:=sl.filterMap fun p=>(p.2.ren bm pm).map fun v=>(p.1,v)
  bx:=bx.map fun b=>b.map fun b=>{ b with cs:=b.cs.map fun l=>(l.ren bm pm).getD .und }
  rw:=pm.map fun i=>match at? cur.rw i with
   | some r=>(match r.m.ren pm with | some m=>some { r with m:=m } | none=>none)
   | none=>none }
def F4 {R:Type} (f:Fr→(Ex→Fr→Option R)→Option R) (n0:Nat) (base:Fr):Nat→Fr→(Ex→Fr→Option R)→Option R
 | 0,_,_=>none
 | n+1,fr,k=>f fr fun e fr'=>match e with
  | .normal=>F4 f n0 base n (E6 n0 base fr') k
  | e=>k e fr'
def PV (E:Env) (fr:Fr) (c:Operand) (b:Bool):Fr:=bif E.rf then (match c with
 | .tmp t=>(match lkp fr.sl t with
  | some (.v false [.bool _])=>{ fr with sl:=ins fr.sl t (.l (.bool b)) }
  | _=>fr)
 | _=>fr) else fr
def DD {R:Type} (E:Env) (n0:Nat):Code→Fr→(Ex→Fr→Option R)→Option R
 | .skip,fr,k=>k .normal fr
 | .region _ ops dr,fr,k=>bif dr then KN E ops.toList fr (k .normal) else LO E ops.toList ops.toList fr (k .normal)
 | .seq a b,fr,k=>DD E n0 a fr fun e fr'=>match e with | .normal=>DD E n0 b fr' k | e=>k e fr'
 | .cond c x y,fr,k=>match op1 fr [] c with | some (.bool b)=>bif b then DD E n0 x (PV E fr c true) k else DD E n0 y (PV E fr c false) k | _=>none
 | .block id b,fr,k=>DD E n0 b fr fun e fr'=>match e with | .exit j=>bif Nat.beq j id then k .normal fr' else k (.exit j) fr' | e=>k e fr'
 | .loop b,fr,k=>(let h:=E6 n0 fr fr;F4 (DD E n0 b) n0 h E.K h k)
 | .exit id,fr,k=>k (.exit id) fr
 | .ret,fr,k=>k .ret fr
 | _,_,_=>none

def Af (mi:Md):(ps:List (PM×Sh))→Nat→Fr→AT ps→Fr
 | [],_,fr,_=>fr
 | (m,s) :: ps,i,fr,x =>
  let q:=Aa (match m with | .mv=>.own | .io=>mi | _=>.ro) s x.1 fr.rw.length
  let rw:=fr.rw++q.2.map some
  match m with
  | .cap=>Af mi ps (i+1) { nt:=fr.nt,sl:=ins fr.sl i (.l (.box fr.bx.length 0)),bx:=fr.bx++[some ⟨false,q.1⟩],rw:=rw } x.2
  | _=>Af mi ps (i+1) { fr with sl:=ins fr.sl i (.v s.agg q.1),rw:=rw } x.2
def J9:PM×Sh→Bool
 | (.ro,s)=>s.data||(match s with | .fn1 _ _ | .fn2 _ _ _=>true | _=>false)
 | (_,s)=>s.data
def AbH (E:Env) (fr:Fr) (s:Sh):ResultVar→Option (List Lf)
 | .tmp t=>match lkp fr.sl t with
  | some (.v ag cs)=>bif s.agg==ag then some cs else none
  | _=>none
 | .cell t ty=>match lkp fr.sl t,lkp E.ty ty with
  | some (.v false [.box i 0]),some tt=>bif decide (tt.sh=s) then (match at? fr.bx i with | some b=>bif Bz b.cs&&Nat.beq b.cs.length s.n then some b.cs else none | none=>none) else none
  | _,_=>none
def EE (E:Env) (fr:Fr):List ResultVar→(rs:List Sh)→List (Option Ac)→Option (RT rs×List (Option Ac))
 | [],[],rw=>some ((),rw)
 | r :: l,s :: m,rw=>match AbH E fr s r with
  | some cs=>match take (fun m=>m==.own) none s cs rw with
   | some (x,[],rw1)=>match EE E fr l m rw1 with
    | some (y,rw2)=>some (RT.mk x y,rw2)
    | none=>none
   | _=>none
  | none=>none
 | _,_,_=>none
def Bi:Sh→Nat
 | .list _ _=>1
 | .cons a b=>Bi a+Bi b
 | _=>0
def Id (rw:List (Option Ac)):(s:Sh)→Nat→s.T→Option s.T
 | .list e s,n,_=>match at? rw n with
  | some q=>if q.e=e then (bif q.m==.io then (if h:q.s=s then some (DI h q.xs) else none) else none) else none
  | none=>none
 | .cons a b,n,x=>match Id rw a n x.1,Id rw b (n+Bi a) x.2 with | some x,some y=>some (x,y) | _,_=>none
 | .int _,_,x=>some x
 | .bool,_,x=>some x
 | .str,_,x=>some x
 | .fn1 _ _,_,_=>none
 | .fn2 _ _ _,_,_=>none
 | .ol _ _,_,_=>none
def LQ (rw:List (Option Ac)):(ps:List (PM×Sh))→Nat→(rs:List Sh)→AT ps→RT rs→Option (RT (BG ps++rs))
 | [],_,_,_,y=>some y
 | (.io,s) :: ps,n,rs,x,y=>match Id rw s n x.1,LQ rw ps (n+Bi s) rs x.2 y with
   | some x,some z=>some (RT.mk (l:=BG ps++rs) x z)
   | _,_=>none
 | (.ro,s) :: ps,n,rs,x,y=>LQ rw ps (n+Bi s) rs x.2 y
 | (.mv,s) :: ps,n,rs,x,y=>LQ rw ps (n+Bi s) rs x.2 y
 | (.cap,s) :: ps,n,rs,x,y=>LQ rw ps (n+Bi s) rs x.2 y
def RE (E:Env) (f:Func) (ps:List (PM×Sh)) (rs:List Sh) (x:AT ps):Option (RT (BG ps++rs)) :=
 bif Nat.ble ps.length f.ntmps&&ps.all J9 then (match f.body with
 | some c =>
  let fr:=Af .io ps 0 ⟨f.ntmps,[],[],[]⟩ x
  DD E fr.rw.length c fr fun e fr=>match e with
  | .ret | .normal=>match EE E fr f.results.toList rs fr.rw with
   | some (y,rw)=>LQ rw ps 0 rs x y
   | none=>none
  | .exit _=>none
 | none=>none) else none
def Hr (ps:List (PM×Sh)):Bool:=ps.all fun p=>p.1==.ro&&J9 p
def frP (nt e:Nat) (s r:Sh) (ps:List (PM×Sh)) (x:(List s.T×r.T)×AT ps):Fr:=Af .own ps 1 ⟨nt,[(0,.l (.box 0 0))],[some ⟨true,.row 0 :: (Aa .own r x.1.2 0).1⟩],[some ⟨e,s,x.1.1,.ro⟩]⟩ x.2
def AlG (fr:Fr) (r:Sh):Option r.T :=
 match at? fr.bx 0 with
 | some b=>(match b.cs with
  | .row 0 :: cs=>bif b.own then DZ (Az fr.rw r cs) else none
  | _=>none)
 | none=>none
def LS (E:Env) (f:Func) (r:Sh) (rs:List Sh):Ex→Fr→Option (RT (r :: rs)):=fun e fr=>match e with
 | .ret | .normal=>(match EE E fr f.results.toList rs fr.rw,AlG fr r with
  | some (y,_),some z=>some (RT.mk z y)
  | _,_=>none)
 | .exit _=>none
def NH (E:Env) (f:Func) (e:Nat) (s r:Sh) (ps:List (PM×Sh)) (rs:List Sh) (x:(List s.T×r.T)×AT ps):Option (RT (r :: rs)) :=
 bif Nat.ble (ps.length+1) f.ntmps&&Hr ps&&r.flat&&s.data then (match f.body with
 | some c=>DD E (frP f.ntmps e s r ps x).rw.length c (frP f.ntmps e s r ps x) (LS E f r rs)
 | none=>none) else none
def frN (nt e:Nat) (s:Sh) (ps:List (PM×Sh)) (x:List s.T×AT ps):Fr:=Af .own ps 1 ⟨nt,[(0,.l (.row 0))],[],[some ⟨e,s,x.1,.ro⟩]⟩ x.2
def AlH (fr:Fr) (r:Sh):List ResultVar→Option r.T
 | [.tmp t]=>(match lkp fr.sl t with
  | some (.v false [.box i 0])=>(match at? fr.bx i with
   | some b=>(match b.cs with
    | .row 0 :: cs=>bif b.own then DZ (Az fr.rw r cs) else none
    | _=>none)
   | none=>none)
  | _=>none)
 | _=>none
def AlI (f:Func) (r:Sh):Ex→Fr→Option (RT [r]):=fun e fr=>match e with
 | .ret | .normal=>AlH fr r f.results.toList
 | .exit _=>none
def ZZ (E:Env) (f:Func) (e:Nat) (s r:Sh) (ps:List (PM×Sh)) (x:List s.T×AT ps):Option (RT [r]) :=
 bif Nat.ble (ps.length+1) f.ntmps&&Hr ps&&r.flat&&s.data then (match f.body with
 | some c=>DD E (frN f.ntmps e s ps x).rw.length c (frN f.ntmps e s ps x) (AlI f r)
 | none=>none) else none
def frQ (nt:Nat) (c:Sh) (ps:List (PM×Sh)) (x:c.T×AT ps):Fr:=Af .own ps 1 ⟨nt,[(0,.l (.box 0 0))],[some ⟨true,(Aa .own c x.1 0).1⟩],(Aa .own c x.1 0).2.map some⟩ x.2
def Anm (E:Env) (f:Func) (c:Sh) (rs:List Sh):Ex→Fr→Option (RT (c :: rs)):=fun e fr=>match e with
 | .ret | .normal=>(match at? fr.bx 0 with
  | some b=>bif b.own&&Bz b.cs then (match take (fun m=>m==.own) none c b.cs fr.rw with
   | some (z,[],rw1)=>(match EE E fr f.results.toList rs rw1 with
    | some (y,_)=>some (RT.mk z y)
    | none=>none)
   | _=>none) else none
  | none=>none)
 | .exit _=>none
def Aqd (E:Env) (f:Func) (c:Sh) (ps:List (PM×Sh)) (rs:List Sh) (x:c.T×AT ps):Option (RT (c :: rs)) :=
 bif Nat.ble (ps.length+1) f.ntmps&&Hr ps&&(c.data&&c.agg) then (match f.body with
 | some code=>DD E (frQ f.ntmps c ps x).rw.length code (frQ f.ntmps c ps x) (Anm E f c rs)
 | none=>none) else none
def Ann (E:Env) (f:Func) (c:Sh) (rs:List Sh):Ex→Fr→Option (Option c.T×RT rs):=fun e fr=>match e with
 | .ret | .normal=>(match f.results.toList with
  | .tmp t :: l=>(match lkp fr.sl t with
   | some (.v false [.box i 0])=>(match at? fr.bx i with
    | some b=>bif b.own&&Bz b.cs then (match take (fun m=>m==.own) none c b.cs fr.rw with
     | some (z,[],rw1)=>(match EE E fr l rs rw1 with
      | some (y,_)=>some (some z,y)
      | none=>none)
     | _=>none) else none
    | none=>none)
   | some (.v false [.und])=>(match EE E fr l rs fr.rw with
    | some (y,_)=>some (none,y)
    | none=>none)
   | _=>none)
  | _=>none)
 | .exit _=>none
def Aqe (E:Env) (f:Func) (c:Sh) (ps:List (PM×Sh)) (rs:List Sh) (x:AT ps):Option (Option c.T×RT rs) :=
 bif Nat.ble ps.length f.ntmps&&Hr ps&&(c.data&&c.agg) then (match f.body with
 | some code=>DD E (Af .own ps 0 ⟨f.ntmps,[],[],[]⟩ x).rw.length code (Af .own ps 0 ⟨f.ntmps,[],[],[]⟩ x) (Ann E f c rs)
 | none=>none) else none
def Ano (E:Env) (f:Func) (c:Sh) (rs:List Sh):Ex→Fr→Option (Option c.T×RT rs):=fun e fr=>match e with
 | .ret | .normal=>(match f.results.toList with
  | r :: l=>(match AbH E fr c r with
   | some cs=>bif Nat.beq cs.length c.n then (match take (fun m=>m==.own) none c cs fr.rw with
    | some (z,[],rw1)=>(match EE E fr l rs rw1 with
     | some (y,_)=>some (some z,y)
     | none=>none)
    | _=>(match EE E fr l rs fr.rw with
     | some (y,_)=>some (none,y)
     | none=>none)) else none
   | none=>none)
  | _=>none)
 | .exit _=>none
def Aqf (E:Env) (f:Func) (c:Sh) (ps:List (PM×Sh)) (rs:List Sh) (x:AT ps):Option (Option c.T×RT rs) :=
 bif Nat.ble ps.length f.ntmps&&Hr ps&&(c.data&&c.agg) then (match f.body with
 | some code=>DD E (Af .own ps 0 ⟨f.ntmps,[],[],[]⟩ x).rw.length code (Af .own ps 0 ⟨f.ntmps,[],[],[]⟩ x) (Ano E f c rs)
 | none=>none) else none
end Go.Proofs.YteheolldcpjkcaaGreat.X
