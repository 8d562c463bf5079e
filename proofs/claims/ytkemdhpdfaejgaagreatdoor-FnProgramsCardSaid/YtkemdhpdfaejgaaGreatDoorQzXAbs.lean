/- The abstract interpreter: Go code of the model, run on typed values (slices as lists in a table of rows, variables in memory as lists of leaves). Definitions only. -/
import Derived.WalkKit
import Derived.Laws.BytesArg
set_option linter.unusedSimpArgs false
set_option linter.unusedVariables false
namespace Go.Proofs.YtkemdhpdfaejgaaGreatDoor.X
open Go
abbrev AA1:=@Bool.and_eq_true
abbrev AA2:=@Nat.eq_of_beq_eq_true
abbrev AA3:=@List.all_eq_true
abbrev AA4:=@List.mem_cons
abbrev AA5:=@List.append_assoc
abbrev AA6:=@List.contains_iff_mem
abbrev AA7:=@List.getElem?_eq_getElem
abbrev AA8:=@List.mem_append
abbrev AA9:=@Nat.le_refl
abbrev ABa:=@Result.andThen_ok
abbrev ABb:=@List.drop_zero
abbrev ABc:=@List.length_cons
abbrev ABd:=@List.getElem?_eq_some_iff
abbrev ABe:=@List.mem_map
abbrev ABf:=@List.length_map
abbrev ABg:=@Sem.run_bind
abbrev ABh:=@List.length_append
abbrev ABi:=@List.nil_append
abbrev ABj:=@List.mem_cons_of_mem
abbrev ABk:=@Array.toArray_toList
abbrev ABl:=@Option.map_eq_some_iff
abbrev ABm:=@List.length_nil
abbrev ABn:=@List.getElem?_map
abbrev ABo:=@Nat.le_trans
abbrev ABp:=@List.getElem?_append_right
abbrev ABq:=@Array.getD_eq_getD_getElem?
abbrev ABr:=@Option.some.injEq
abbrev ABs:=@List.mem_filter
abbrev ABt:=@List.mem_of_getElem?
abbrev ABu:=@List.getElem?_eq_none
abbrev ABv:=@List.length_take
abbrev ABw:=@Nat.zero_add
abbrev ABx:=@List.flatten_cons
abbrev ABy:=@List.foldl_cons
abbrev ABz:=@List.getD_eq_getElem?_getD
abbrev ABA:=@List.length_singleton
abbrev ABB:=@Nat.lt_of_lt_of_le
abbrev ABC:=@Array.getElem?_eq_some_iff
abbrev ABD:=@List.append_nil
abbrev ABE:=@Sem.run_pure
abbrev ABF:=@ByteArray.size_append
abbrev ABG:=@List.pairwise_cons
abbrev ABH:=@List.map_cons
abbrev ABI:=@List.getElem?_append_left
abbrev ABJ:=@Bool.true_and
abbrev ABK:=@Nat.lt_or_ge
abbrev ABL:=@Nat.eq_zero_or_pos
abbrev ABM:=@List.drop_eq_nil_of_le
abbrev ABN:=@List.take_of_length_le
abbrev ABO:=@Nat.mul_le_mul_right
abbrev ABP:=@Nat.not_lt
abbrev ABQ:=@Option.bind_eq_some_iff
abbrev ABR:=@Bool.eq_iff_iff
abbrev ABS:=@List.getElem?_take
abbrev ABT:=@Option.map_some
abbrev ABU:=@Nat.zero_le
abbrev ABV:=@List.not_mem_nil
abbrev ABW:=@List.getElem?_drop
abbrev ABX:=@Array.getElem?_append_left
abbrev ABY:=@List.getElem?_cons_zero
abbrev ABZ:=@List.drop_length
abbrev AB0:=@List.cons_append
abbrev AB1:=@List.any_eq_true
abbrev AB2:=@Int.mul_comm
abbrev AB3:=@List.mem_singleton
abbrev AB4:=@Nat.ble_eq
abbrev AB5:=@Int.mul_le_mul_of_nonneg_right
abbrev AB6:=@List.take_length
abbrev AB7:=@Bool.not_eq_true'
abbrev AB8:=@List.take_append_of_le_length
abbrev AB9:=@Nat.succ_mul
abbrev ACa:=@Nat.add_zero
abbrev ACb:=@Option.bind_some
abbrev ACc:=@List.getElem_of_mem
abbrev ACd:=@List.getElem?_replicate
abbrev ACe:=@Int.emod_lt_of_pos
abbrev ACf:=@List.mem_of_mem_take
abbrev ACg:=@List.length_set
abbrev ACh:=@Int.mul_le_mul_of_nonneg_left
abbrev ACi:=@List.ext_getElem?
abbrev ACj:=@Int.toNat_natCast
abbrev ACk:=@List.all_cons
abbrev ACl:=@Bool.false_or
abbrev ACm:=@List.drop_append
abbrev ACn:=@Int.emod_eq_of_lt
abbrev ACo:=@List.pairwise_map
abbrev ACp:=@Int.emod_nonneg
abbrev ACq:=@Int.natAbs_tmod
abbrev ACr:=@List.pairwise_iff_getElem
abbrev ACs:=@List.length_filter_le
abbrev ACt:=@List.length_replicate
abbrev ACu:=@List.mem_flatMap
abbrev ACv:=@Option.isSome_some
abbrev ACw:=@Bool.or_false
abbrev ACx:=@List.drop_drop
abbrev ACy:=@List.eq_nil_of_length_eq_zero
abbrev ACz:=@Int.gcd_zero_left
abbrev ACA:=@Int.natCast_mul
abbrev ACB:=@Bool.or_eq_true
abbrev ACC:=@Array.length_toList
abbrev ACD:=@Int.neg_mul
abbrev ACE:=@Prod.mk.injEq
abbrev ACF:=@List.take_append
abbrev ACG:=@List.mem_range
abbrev ACH:=@Int.natAbs_mul
abbrev ACI:=@Array.getElem?_toList
abbrev ACJ:=@List.drop_eq_getElem_cons
abbrev ACK:=@Array.getElem?_eq_getElem
abbrev ACL:=@List.length_range
abbrev ACM:=@Prod.ext_iff
abbrev ACN:=@List.mem_of_mem_drop
abbrev ACO:=@List.Pairwise.imp_of_mem
abbrev ACP:=@List.map_congr_left
abbrev ACQ:=@Nat.mul_le_mul_left
abbrev ACR:=@Int.toNat_of_nonneg
abbrev ACS:=@Int.mul_nonneg
abbrev ACT:=@Option.getD_some
abbrev ACU:=@List.take_zero
abbrev ACV:=@List.take_left
abbrev ACW:=@List.length_eq_zero_iff
abbrev ACX:=@Int.add_mul
abbrev ACY:=@Nat.add_mul
abbrev ACZ:=@List.drop_append_of_le_length
abbrev AC0:=@List.getElem_range
abbrev AC1:=@List.length_pos_of_mem
abbrev AC2:=@List.mem_filterMap
abbrev AC3:=@List.nodup_cons
abbrev AC4:=@Bool.and_true
abbrev AC5:=@Nat.lt_irrefl
abbrev AC6:=@List.take_append_drop
abbrev AC7:=@Int.mul_ediv_add_emod
abbrev AC8:=@Int.mul_left_comm
abbrev AC9:=@Array.getElem?_setIfInBounds_self_of_lt
abbrev ADa:=@Int.tdiv_eq_ediv_of_nonneg
abbrev ADb:=@List.pairwise_append
abbrev ADc:=@Nat.pow_le_pow_right
abbrev ADd:=@List.eq_append_cons_of_mem
abbrev ADe:=@Bool.or_eq_false_iff
abbrev ADf:=@List.map_map
abbrev ADg:=@Nat.mul_comm
abbrev ADh:=@List.length_drop
abbrev ADi:=@Array.toList_map
abbrev ADj:=@List.mem_or_eq_of_mem_set
abbrev ADk:=@List.take_succ_cons
abbrev ADl:=@List.filter_sublist
abbrev ADm:=@Bool.and_self
abbrev ADn:=@Int.mul_assoc
abbrev ADo:=@List.eq_of_mem_replicate
abbrev ADp:=@Int.tmod_nonneg
abbrev ADq:=@Int.mul_eq_zero
abbrev ADr:=@List.filter_append
abbrev ADs:=@Nat.blt_eq
abbrev ADt:=@Nat.add_sub_cancel
abbrev ADu:=@Int.one_mul
abbrev ADv:=@Int.mul_add
abbrev ADw:=@Int.emod_def
abbrev ADx:=@Int.zero_mul
abbrev ADy:=@Int.mul_zero
abbrev ADz:=@Int.lt_or_le
abbrev ADA:=@List.take_add_one
abbrev ADB:=@Bool.false_and
abbrev ADC:=@List.foldl_append
abbrev ADD:=@List.getElem_take
abbrev ADE:=@List.any_eq_false
abbrev ADF:=@Nat.pow_succ
abbrev ADG:=@Nat.beq_refl
abbrev ADH:=@Nat.le_of_ble_eq_true
abbrev ADI:=@List.getElem?_toArray
abbrev ADJ:=@List.getElem_mem
abbrev ADK:=@Option.join_some
abbrev ADL:=@Int.sub_mul
abbrev ADM:=@List.map_append
abbrev ADN:=@Int.natAbs_tdiv
abbrev ADO:=@Nat.min_eq_left
abbrev ADP:=@List.mem_range'
abbrev ADQ:=@List.flatten_append
abbrev ADR:=@List.replicate_succ
abbrev ADS:=@Int.add_zero
abbrev ADT:=@Int.add_mul_emod_self_right
abbrev ADU:=@Nat.mul_le_mul
abbrev ADV:=@List.take_take
abbrev ADW:=@Bool.and_false
abbrev ADX:=@Int.tmod_lt_of_pos
abbrev ADY:=@Bool.false_eq_true
abbrev ADZ:=@List.mapM_cons
abbrev AD0:=@List.getLast?_eq_getElem?
abbrev AD1:=@List.extract_eq_take_drop
abbrev AD2:=@Int.mul_sub
abbrev AD3:=@List.nodup_append
abbrev AD4:=@List.getElem?_set
abbrev AD5:=@Option.isSome_iff_exists
abbrev AD6:=@List.length_erase_of_mem
abbrev AD7:=@List.any_cons
abbrev AD8:=@Array.size_setIfInBounds
abbrev AD9:=@Nat.mod_eq_of_lt
abbrev AEa:=@Int.gcd_dvd_left
abbrev AEb:=@Int.dvd_of_emod_eq_zero
abbrev AEc:=@List.pairwise_mergeSort
abbrev AEd:=@List.getElem_map
abbrev AEe:=@Int.sub_zero
abbrev AEf:=@Nat.gcd_comm
abbrev AEg:=@Nat.mod_lt
abbrev AEh:=@Nat.sub_self
abbrev AEi:=@Int.natCast_add
abbrev AEj:=@List.cons.injEq
abbrev AEk:=@Nat.mul_one
abbrev AEl:=@List.drop_left
abbrev AEm:=@Int.natAbs_eq
abbrev AEn:=@Nat.add_assoc
abbrev AEo:=@Nat.not_le

inductive Sh where
 | int (k:IntKind) | bool | str
 | list (e:Nat) (s:Sh)
 | cons (a b:Sh)
 | fn1 (a r:Sh)
 | fn2 (a b r:Sh)
 deriving DecidableEq

@[reducible] def Sh.T:Sh→Type
 | .int _=>Int | .bool=>Bool | .str=>ByteArray
 | .list _ s=>List s.T
 | .cons a b=>a.T×b.T
 | .fn1 a r=>a.T→Option r.T
 | .fn2 a b r=>a.T→b.T→Option r.T
def Sh.n:Sh→Nat
 | .cons a b=>a.n+b.n
 | _=>1
def Sh.dfl:(s:Sh)→s.T
 | .int _=>(0:Int) | .bool=>false | .str=>ByteArray.empty
 | .list _ _=>[]
 | .cons a b=>(a.dfl,b.dfl)
 | .fn1 _ _=>fun _=>none
 | .fn2 _ _ _=>fun _ _=>none
def Sh.agg:Sh→Bool | .cons _ _=>true | _=>false
def Sh.flat:Sh→Bool
 | .int _ | .bool | .str=>true
 | .cons a b=>a.flat&&b.flat
 | _=>false

def Sh.data:Sh→Bool
 | .int _ | .bool | .str | .list _ _=>true
 | .cons a b=>a.data&&b.data
 | _=>false
def Sh.isL:Sh→Bool | .list _ _=>true | _=>false

@[reducible] def RT:List Sh→Type
 | []=>Unit
 | [s]=>s.T
 | s :: t :: r=>s.T×RT (t :: r)
def RT.dfl:(l:List Sh)→RT l
 | []=>()
 | [s]=>s.dfl
 | s :: t :: r=>(s.dfl,RT.dfl (t :: r))

inductive Lf where
 | int (k:IntKind) (n:Int) | bool (b:Bool) | str (s:ByteArray)
 | row (i:Nat) | view (i:Nat) (lo hi:Int) | nil
 | box (i off:Nat) | elem (i:Nat) (j:Int) (off:Nat)
 | fn (g:Nat) (caps:List Nat)
 | fv1 (a r:Sh) (φ:a.T→Option r.T)
 | fv2 (a b r:Sh) (φ:a.T→b.T→Option r.T)
 | mp (i:Nat)
 | mc (K V:Sh) (xs:List (K.T×V.T))
 | bsl (i e n:Nat)
 | und
inductive AV where
 | v (ag:Bool) (cs:List Lf)
 | tup (vs:List (Bool×List Lf))
 | grd (c:List (Nat×Bool)) (g:Bool) (ag:Bool) (cs:List Lf)
abbrev AV.l (x:Lf):AV:=.v false [x]
def Bv:List Lf→Bool
 | [.mc _ _ _]=>false
 | _=>true

inductive Md where | own | io | ro | bor (p:Nat) (at_:Option (Int×Nat))
 deriving DecidableEq
def Md.mine:Md→Bool | .own | .io=>true | _=>false
structure Ad where
 e:Nat
 s:Sh
 xs:List s.T
 m:Md
structure BD where
 own:Bool
 cs:List Lf
structure Fr where
 nt:Nat
 sl:List (Nat×AV)
 bx:List (Option BD)
 rw:List (Option Ad)

inductive Ty where
 | sc (s:Sh)
 | st (s:Sh) (fields:List (Nat×Nat))
 | sl (e:Nat) (s:Sh) (bytes:Nat)
 | ar (s:Sh) (e n:Nat)
inductive PM where | ro | io | mv | cap
 deriving DecidableEq
@[reducible] def AT:List (PM×Sh)→Type
 | []=>Unit
 | (_,s) :: r=>s.T×AT r
def BO:List (PM×Sh)→List Sh
 | []=>[]
 | (.io,s) :: r=>s :: BO r
 | (_,_) :: r=>BO r
structure Mdl where
 ps:List (PM×Sh)
 rs:List Sh
 F:AT ps→Option (RT (BO ps++rs))
structure Fx where
 e:Nat
 s:Sh
 r:Sh
 ps:List (PM×Sh)
 rs:List Sh
 F:(List s.T×r.T)×AT ps→Option (RT (r :: rs))
structure P9 where
 e:Nat
 s:Sh
 r:Sh
 ps:List (PM×Sh)
 F:List s.T×AT ps→Option (RT [r])
structure Qa where
 c:Sh
 ps:List (PM×Sh)
 rs:List Sh
 F:c.T×AT ps→Option (RT (c :: rs))
structure IG where
 c:Sh
 ps:List (PM×Sh)
 rs:List Sh
 F:AT ps→Option (Option c.T×RT rs)
structure MTy where
 k:Nat
 v:Nat
 K:Sh
 V:Sh
structure Env where
 fs:List (Nat×Mdl)
 ty:List (Nat×Ty)
 eq:List (Nat×List Sh)
 mt:List (Nat×MTy)
 K:Nat
 kp:List Nat
 pf:List (Nat×Fx)
 nf:List (Nat×P9)
 qf:List (Nat×Qa)
 cf:List (Nat×IG)
 vf:List (Nat×Mdl)
 xf:List (Nat×IG)
 rf:Bool
def Ty.sh:Ty→Sh | .sc s=>s | .st s _=>s | .sl e s _=>.list e s | .ar s _ _=>s
def Ty.parts:Ty→Option (Sh×List (Nat×Nat))
 | .st s fs=>some (s,fs)
 | .ar s _ n=>some (s,(List.range n).map fun i=>(i,1))
 | _=>none

def lkp {α:Type}:List (Nat×α)→Nat→Option α
 | [],_=>none
 | (i,v) :: r,j=>bif Nat.beq i j then some v else lkp r j
def ins {α:Type}:List (Nat×α)→Nat→α→List (Nat×α)
 | [],j,v=>[(j,v)]
 | (i,u) :: r,j,v=>bif Nat.beq i j then (j,v) :: r else bif Nat.blt j i then (j,v) :: (i,u) :: r else (i,u) :: ins r j v
def at? {α:Type}:List (Option α)→Nat→Option α
 | [],_=>none
 | x :: _,0=>x
 | _ :: r,i+1=>at? r i
def Bn {α:Type}:List (Option α)→Nat→Option α→List (Option α)
 | [],_,_=>[]
 | _ :: r,0,y=>y :: r
 | x :: r,i+1,y=>x :: Bn r i y
def AH (i:Nat) (rw:List (Option Ad)):List (Option Ad) :=
 rw.map fun r=>match r with
  | some r=>(match r.m with | .bor p _=>bif Nat.beq p i then none else some r | _=>some r)
  | none=>none

def Ab (m:Md):(s:Sh)→s.T→Nat→List Lf×List Ad
 | .int k,x,_=>([.int k x],[])
 | .bool,b,_=>([.bool b],[])
 | .str,b,_=>([.str b],[])
 | .list e s,xs,n=>([.row n],[⟨e,s,xs,m⟩])
 | .cons a b,x,n =>
  let p:=Ab m a x.1 n
  let q:=Ab m b x.2 (n+p.2.length)
  (p.1++q.1,p.2++q.2)
 | .fn1 a r,φ,_=>([.fv1 a r φ],[])
 | .fn2 a b r,φ,_=>([.fv2 a b r φ],[])
def Ey {s t:Sh} (h:s=t) (xs:List s.T):List t.T:=h▸xs
def AAM {s t:Sh} (h:s=t) (x:s.T):t.T:=h▸x
def NE (rw:List (Option Ad)) (e:Nat) (s:Sh):Lf→Option (List s.T)
 | .row i=>match at? rw i with
  | some q=>if q.e=e then (if h:q.s=s then some (Ey h q.xs) else none) else none
  | none=>none
 | .view i lo hi=>match at? rw i with
  | some q=>if q.e=e then (if h:q.s=s then some (((Ey h q.xs).take hi.toNat).drop lo.toNat) else none) else none
  | none=>none
 | .nil=>some []
 | _=>none
def AA (rw:List (Option Ad)):(s:Sh)→List Lf→Option (s.T×List Lf)
 | .int k,ls=>match ls with | .int k' n :: r=>if k=k' then some (n,r) else none | _=>none
 | .bool,ls=>match ls with | .bool b :: r=>some (b,r) | _=>none
 | .str,ls=>match ls with | .str b :: r=>some (b,r) | _=>none
 | .list e s,ls=>match ls with
  | l :: r=>match NE rw e s l with | some xs=>some (xs,r) | none=>none
  | []=>none
 | .cons a b,l=>match AA rw a l with
  | some (x,l1)=>match AA rw b l1 with
   | some (y,l2)=>some ((x,y),l2)
   | none=>none
  | none=>none
 | .fn1 _ _,_=>none
 | .fn2 _ _ _,_=>none
def whole {α:Type}:Option (α×List Lf)→Option α
 | some (x,[])=>some x
 | _=>none
def Ef (ok:Md→Bool) (m:Option Nat) (e:Nat) (s:Sh) (rw:List (Option Ad)):Lf→Option (List s.T×List (Option Ad))
 | .row i=>match at? rw i with
  | some q=>if q.e=e then (bif ok q.m then (if h:q.s=s then some (Ey h q.xs,AH i (Bn rw i (m.map fun p=>{ q with m:=.bor p none }))) else none) else none) else none
  | none=>none
 | .view i lo hi=>if lo=0 then (match at? rw i with
  | some q=>if q.e=e then (bif ok q.m then (if h:q.s=s then some ((Ey h q.xs).take hi.toNat,AH i (Bn rw i none)) else none) else none) else none
  | none=>none) else none
 | .nil=>some ([],rw)
 | _=>none
def take (ok:Md→Bool) (m:Option Nat):(s:Sh)→List Lf→List (Option Ad)→Option (s.T×List Lf×List (Option Ad))
 | .int k,ls,rw=>match ls with | .int k' n :: r=>if k=k' then some (n,r,rw) else none | _=>none
 | .bool,ls,rw=>match ls with | .bool b :: r=>some (b,r,rw) | _=>none
 | .str,ls,rw=>match ls with | .str b :: r=>some (b,r,rw) | _=>none
 | .list e s,ls,rw=>match ls with
  | l :: r=>match Ef ok m e s rw l with | some (xs,rw')=>some (xs,r,rw') | none=>none
  | []=>none
 | .cons a b,l,rw=>match take ok m a l rw with
  | some (x,l1,rw1)=>match take ok m b l1 rw1 with
   | some (y,l2,rw2)=>some ((x,y),l2,rw2)
   | none=>none
  | none=>none
 | .fn1 _ _,_,_=>none
 | .fn2 _ _ _,_,_=>none
def IM:(s:Sh)→Nat→Nat→Option ((t:Sh)×(s.T→t.T)×(s.T→t.T→s.T))
 | .cons a b,off,n=>bif Nat.beq off 0&&Nat.beq n (a.n+b.n) then some ⟨.cons a b,fun x=>x,fun _ y=>y⟩
  else bif Nat.beq off 0&&Nat.beq n a.n then some ⟨a,fun x=>x.1,fun x y=>(y,x.2)⟩
  else bif Nat.ble a.n off then (match IM b (off-a.n) n with
   | some ⟨t,f,g⟩=>some ⟨t,fun x=>f x.2,fun x y=>(x.1,g x.2 y)⟩
   | none=>none)
  else (match IM a off n with
   | some ⟨t,f,g⟩=>some ⟨t,fun x=>f x.1,fun x y=>(g x.1 y,x.2)⟩
   | none=>none)
 | s,off,n=>bif Nat.beq off 0&&Nat.beq n 1 then some ⟨s,fun x=>x,fun _ y=>y⟩ else none

def opd (fr:Fr) (ch:List (Nat×Bool)):Operand→Option AV
 | .tmp t=>match lkp fr.sl t with
  | some (.grd c _ ag cs)=>bif c.all (fun p=>ch.any fun q=>Nat.beq p.1 q.1&&(p.2==q.2)) then some (.v ag cs) else none
  | r=>r
 | .const (.int k n)=>some (.l (.int k n))
 | .const (.bool b)=>some (.l (.bool b))
 | .const (.string s)=>some (.l (.str s))
 | .const (.slice none 0 0)=>some (.l .nil)
 | .const (.pointer none)=>some (.l .und)
 | .func g=>some (.l (.fn g []))
 | _=>none
def opl (fr:Fr) (ch:List (Nat×Bool)) (x:Operand):Option (Bool×List Lf) :=
 match opd fr ch x with
 | some (.v ag cs)=>some (ag,cs)
 | _=>none
def op1 (fr:Fr) (ch:List (Nat×Bool)) (x:Operand):Option Lf :=
 match opd fr ch x with
 | some (.v false [l])=>some l
 | _=>none
def Yx (fr:Fr) (ch:List (Nat×Bool)):List Operand→Option (List (Bool×List Lf))
 | []=>some []
 | x :: r=>match opl fr ch x,Yx fr ch r with
  | some v,some vs=>some (v :: vs)
  | _,_=>none

inductive Eff where
 | pure
 | box (i:Nat) (b:BD)
 | tab (rw:List (Option Ad))
 | gone (is:List Nat)
 | set (i e:Nat) (s:Sh) (xs:List s.T)
structure Qz where
 v:AV
 nr:List Ad
 nb:List BD
 ef:Eff
inductive Res where
 | fail
 | done (req:Bool) (v:Option AV) (nr:List Ad) (nb:List BD) (ef:Eff)
 | call (m:Mdl) (o:Option (RT (BO m.ps++m.rs))) (vs:List (Bool×List Lf)) (rw:List (Option Ad)) (quiet:Bool)
 | callE (rs:List Sh) (o:Option (RT rs)) (z:Option (RT rs)) (f:RT rs→Qz)
def val (req:Bool) (l:Lf):Res:=.done req (some (.l l)) [] [] .pure
def vals (ag:Bool) (cs:List Lf):Res:=.done true (some (.v ag cs)) [] [] .pure

def Yy (op:BinOp) (k:IntKind) (a b:Int):Int :=
 match op with
 | .and=>k.wrap (BitVec.ofInt k.bits a &&& BitVec.ofInt k.bits b).toNat
 | .or=>k.wrap (BitVec.ofInt k.bits a ||| BitVec.ofInt k.bits b).toNat
 | .xor=>k.wrap (BitVec.ofInt k.bits a ^^^ BitVec.ofInt k.bits b).toNat
 | .shl=>k.wrap (a*2 ^ min b.toNat k.bits)
 | .shr=>a.fdiv (2 ^ min b.toNat k.bits)
 | _=>0
def Ane:BinOp→Bool | .shl | .shr=>true | _=>false
def At6 (op:BinOp) (k:IntKind) (a b:Int):Option (Bool×Lf) :=
 match op with
 | .and=>some (true,.int k (Yy .and k a b))
 | .or=>some (true,.int k (Yy .or k a b))
 | .xor=>some (true,.int k (Yy .xor k a b))
 | .add=>some (true,.int k (k.wrap (a+b)))
 | .sub=>some (true,.int k (k.wrap (a-b)))
 | .mul=>some (true,.int k (k.wrap (a*b)))
 | .quo=>some (b != 0,.int k (k.wrap (a.tdiv b)))
 | .rem=>some (b != 0,.int k (a.tmod b))
 | .eql=>some (true,.bool (a==b))
 | .neq=>some (true,.bool (a != b))
 | .lss=>some (true,.bool (decide (a<b)))
 | .leq=>some (true,.bool (decide (a≤b)))
 | .gtr=>some (true,.bool (decide (a>b)))
 | .geq=>some (true,.bool (decide (a≥b)))
 | _=>none
def Ahb:Sh→Lf→Lf→Option Bool
 | .int k0,.int k a,.int k' b=>if k=k0∧k'=k0 then some (a==b) else none
 | .bool,.bool a,.bool b=>some (a==b)
 | .str,.str a,.str b=>some (a==b)
 | _,_,_=>none
def C4:List Sh→List Lf→List Lf→Option Bool
 | [],[],[]=>some true
 | [s],[x],[y]=>Ahb s x y
 | s :: q,x :: r,y :: r'=>match Ahb s x y,C4 q r r' with
  | some s,some t=>some (s&&t)
  | _,_=>none
 | _,_,_=>none
def bin (E:Env) (op:BinOp) (t:Nat) (x y:Bool×List Lf):Option (Bool×Lf) :=
 match x,y with
 | (false,[.int k a]),(false,[.int k' b])=>bif Ane op then some (decide (0≤b),.int k (Yy op k a b)) else if k=k' then At6 op k a b else none
 | (false,[.bool a]),(false,[.bool b])=>match op,lkp E.ty t with
  | .eql,some (.sc .bool)=>some (true,.bool (a==b))
  | .neq,some (.sc .bool)=>some (true,.bool (a != b))
  | _,_=>none
 | (false,[.str a]),(false,[.str b])=>match op with
  | .eql=>some (true,.bool (a==b))
  | .neq=>some (true,.bool (a != b))
  | .add=>some (Nat.ble (a.size+b.size) 9223372036854775807,.str (a++b))
  | _=>none
 | (true,a),(true,b)=>match lkp E.eq t with
  | some ks=>(match op,C4 ks a b with
   | .eql,some t=>some (true,.bool t)
   | .neq,some t=>some (true,.bool (!t))
   | _,_=>none)
  | none=>none
 | _,_=>none
def C5 (fr:Fr):Lf→Option (Nat×Ad×Int×Int)
 | .row i=>match at? fr.rw i with | some r=>some (i,r,0,(r.xs.length:Int)) | none=>none
 | .view i lo hi=>match at? fr.rw i with | some r=>some (i,r,lo,hi-lo) | none=>none
 | _=>none
def Ge (cs:List Lf) (off:Nat) (vs:List Lf):List Lf:=cs.take off++vs++cs.drop (off+vs.length)
def tyN (E:Env) (t:Nat):Option (Nat×Bool) :=
 match lkp E.ty t with
 | some ty=>some (ty.sh.n,ty.sh.agg)
 | none=>none
def slT (E:Env) (t:Nat):Option (Nat×Sh×Nat) :=
 match lkp E.ty t with
 | some (.sl e s b)=>some (e,s,b)
 | _=>none
def Jy (E:Env) (t:Nat) (r:Ad):Bool :=
 match slT E t with
 | some (e,s,_)=>Nat.beq e r.e&&decide (s=r.s)
 | none=>false
def lim (b:Nat):Nat:=140737488355328 / b
def NF (i:Nat) (j:Int) (off:Nat) (u:Sh):Md→Md
 | .own | .io=>.bor i (match u with | .list _ _=>some (j,off) | _=>none)
 | .bor p _=>.bor p none
 | .ro=>.ro
def loadAt (E:Env) (fr:Fr) (t:Nat) (p:Lf):Res :=
 match tyN E t with
 | none=>.fail
 | some (n,ag)=>match p with
  | .box i off=>match at? fr.bx i with
   | some b=>bif Bv b.cs&&Nat.ble (off+n) b.cs.length then vals ag ((b.cs.drop off).take n) else .fail
   | none=>.fail
  | .elem i j off=>match at? fr.rw i with
   | some r=>match IM r.s off n with
    | some ⟨u,f,_⟩=>bif u.data&&(u.agg==ag) then (
      let q:=Ab (NF i j off u r.m) u (f (r.xs.getD j.toNat r.s.dfl)) fr.rw.length
      .done true (some (.v ag q.1)) q.2 [] .pure) else .fail
    | none=>.fail
   | none=>.fail
  | _=>.fail
def KU:Sh→Option (List Lf)
 | .int k=>some [.int k 0]
 | .bool=>some [.bool false]
 | .str=>some [.str ByteArray.empty]
 | .list _ _=>some [.nil]
 | .cons a b=>match KU a,KU b with | some x,some y=>some (x++y) | _,_=>none
 | _=>none
def Azz (E:Env) (t:Nat):Option (List Lf) :=
 match lkp E.ty t with
 | some ty=>KU ty.sh
 | none=>none
def SA (fr:Fr) (ch:List (Nat×Bool)) (fields:List (Nat×Nat)):List (Nat×Operand)→List Lf→Option (List Lf)
 | [],cs=>some cs
 | (i,x) :: r,cs=>match fields[i]?,opl fr ch x with
  | some (off,n),some (_,vs)=>bif Nat.beq vs.length n&&Nat.ble (off+n) cs.length then SA fr ch fields r (Ge cs off vs) else none
  | _,_=>none
def G8 (fr:Fr) (ch:List (Nat×Bool)) (q:Nat) (s:Sh):List (Nat×Operand)→List s.T→List (Option Ad)→Option (List s.T×List (Option Ad))
 | [],xs,rw=>some (xs,rw)
 | (i,x) :: r,xs,rw=>match opl fr ch x with
  | some (ag,vs)=>match take (fun m=>m==.own) (some q) s vs rw with
   | some (y,[],rw1)=>bif Nat.blt i xs.length&&(s.agg==ag) then G8 fr ch q s r (xs.set i y) rw1 else none
   | _=>none
  | none=>none

def A7:(s:Sh)→s.T→s.T→Bool
 | .int _,a,b=>(a:Int)==b
 | .bool,a,b=>(a:Bool)==b
 | .str,a,b=>(a:ByteArray)==b
 | .cons s t,a,b=>A7 s a.1 b.1&&A7 t a.2 b.2
 | .list _ _,_,_=>false
 | .fn1 _ _,_,_=>false
 | .fn2 _ _ _,_,_=>false
def B2 {α β:Type} (eq:α→α→Bool):List (α×β)→α→Option β
 | [],_=>none
 | p :: r,x=>bif eq x p.1 then some p.2 else B2 eq r x
def EV {α β:Type} (eq:α→α→Bool):List (α×β)→α→β→List (α×β)
 | [],x,y=>[(x,y)]
 | p :: r,x,y=>bif eq x p.1 then (x,y) :: r else p :: EV eq r x y
def AwZ {K V K' V':Sh} (h1:K=K') (h2:V=V') (xs:List (K.T×V.T)):List (K'.T×V'.T):=h1▸h2▸xs
def Vd (fr:Fr) (i:Nat) (m:MTy):Option (List (m.K.T×m.V.T)) :=
 match at? fr.bx i with
 | some b=>(match b.cs with
  | [.mc K V xs]=>if h:K=m.K∧V=m.V then some (AwZ h.1 h.2 xs) else none
  | _=>none)
 | none=>none
def KW (E:Env) (fr:Fr) (t:Nat) (r:Option Operand):Res :=
 match r,lkp E.mt t with
 | none,some m=>.done true (some (.l (.mp fr.bx.length))) [] [⟨true,[.mc m.K m.V []]⟩] .pure
 | _,_=>.fail
def NG (E:Env) (fr:Fr) (ch:List (Nat×Bool)) (t:Nat) (x ix:Operand) (ok:Bool):Res :=
 match lkp E.mt t,op1 fr ch x,opl fr ch ix with
 | some m,some (.mp i),some (ag,cs)=>match Vd fr i m,whole (AA fr.rw m.K cs) with
  | some xs,some key=>bif m.K.agg==ag then (
    let q:=B2 (A7 m.K) xs key
    let vs:=(Ab .own m.V (q.getD m.V.dfl) 0).1
    bif ok then .done true (some (.tup [(m.V.agg,vs),(false,[.bool q.isSome])])) [] [] .pure else vals m.V.agg vs) else .fail
  | _,_=>.fail
 | _,_,_=>.fail
def E0 (E:Env) (fr:Fr) (ch:List (Nat×Bool)) (t:Nat) (x k v:Operand):Res :=
 match lkp E.mt t,op1 fr ch x,opl fr ch k,opl fr ch v with
 | some m,some (.mp i),some (ag,cs),some (ag',vs)=>match at? fr.bx i,Vd fr i m,whole (AA fr.rw m.K cs),whole (AA fr.rw m.V vs) with
  | some b,some xs,some key,some val=>bif b.own&&(m.K.agg==ag)&&(m.V.agg==ag') then .done true none [] [] (.box i { b with cs:=[.mc m.K m.V (EV (A7 m.K) xs key val)] }) else .fail
  | _,_,_,_=>.fail
 | _,_,_,_=>.fail
def NH (E:Env) (fr:Fr) (t:Nat) (i:Nat):Res :=
 match lkp E.mt t with
 | some m=>match Vd fr i m with
  | some xs=>val true (.int .i64 xs.length)
  | none=>.fail
 | none=>.fail

def Sh.flatL:Sh→Bool
 | .list _ s=>s.flat
 | .cons a b=>a.flatL&&b.flatL
 | .int _ | .bool | .str=>true
 | _=>false
def Ve:Sh→Bool
 | .list _ _ | .int _ | .bool | .str=>true
 | .cons a b=>(a.flatL&&Ve b)||(Ve a&&b.flatL)
 | _=>false
def Lf.isView:Lf→Bool | .view _ _ _=>true | _=>false
def B5:(ps:List (PM×Sh))→List (Bool×List Lf)→List (Option Ad)→Option (List (Option Ad))
 | [],[],rw=>some rw
 | (m,s) :: ps,(ag,cs) :: vs,rw=>match m with
  | .ro | .cap=>B5 ps vs rw
  | .mv=>match take (fun m=>m==.own) none s cs rw with
   | some (_,[],rw1)=>B5 ps vs rw1
   | _=>none
  | .io=>bif cs.any Lf.isView||!Ve s||!(s.agg==ag) then none else (match take Md.mine none s cs rw with
   | some (_,[],rw1)=>B5 ps vs rw1
   | _=>none)
 | _,_,_=>none
def I0 (fr:Fr) (rw:List (Option Ad)):(ps:List (PM×Sh))→List Nat→Option (AT ps)
 | [],[]=>some ()
 | (.cap,s) :: ps,b :: bs=>match at? fr.bx b with
  | some b=>bif Bv b.cs then (match whole (AA rw s b.cs),I0 fr rw ps bs with
   | some x,some xs=>some (x,xs)
   | _,_=>none) else none
  | none=>none
 | _,_=>none
def Asj (a r:Sh) (cps:List (PM×Sh)) (m:Mdl) (c:AT cps):Option (a.T→Option r.T) :=
 if h1:m.ps=(.ro,a) :: cps then (if h2:BO m.ps++m.rs=[r] then some fun x=>cast (congrArg (fun l=>Option (RT l)) h2) (m.F (cast (congrArg AT h1.symm) (x,c))) else none) else none
def Asl (a b r:Sh) (cps:List (PM×Sh)) (m:Mdl) (c:AT cps):Option (a.T→b.T→Option r.T) :=
 if h1:m.ps=(.ro,a) :: (.ro,b) :: cps then (if h2:BO m.ps++m.rs=[r] then some fun x y=>cast (congrArg (fun l=>Option (RT l)) h2) (m.F (cast (congrArg AT h1.symm) (x,y,c))) else none) else none
def NI (rw:List (Option Ad)) (s:Sh):Nat→List Lf→Option (List s.T)
 | 0,ls=>match ls with | []=>some [] | _=>none
 | n+1,ls=>match AA rw s ls with
  | some (x,r)=>(match NI rw s n r with | some xs=>some (x :: xs) | none=>none)
  | none=>none
def Ahc (E:Env) (fr:Fr) (rw:List (Option Ad)) (s:Sh) (cs:List Lf):Option s.T :=
 match s,cs with
 | .fn1 a r,[.fn g caps]=>match lkp E.vf g with
  | some m=>match I0 fr rw (m.ps.drop 1) caps with
   | some c=>bif r.flat then Asj a r (m.ps.drop 1) m c else none
   | none=>none
  | none=>none
 | .fn2 a b r,[.fn g caps]=>match lkp E.vf g with
  | some m=>match I0 fr rw (m.ps.drop 2) caps with
   | some c=>bif r.flat then Asl a b r (m.ps.drop 2) m c else none
   | none=>none
  | none=>none
 | .fn1 a r,[.fv1 a' r' φ]=>if h:a'=a∧r'=r then some (h.1▸h.2▸φ) else none
 | .fn2 a b r,[.fv2 a' b' r' φ]=>if h:a'=a∧b'=b∧r'=r then some (h.1▸h.2.1▸h.2.2▸φ) else none
 | .list e s',[.bsl i e' n]=>if e=e' then (match at? fr.bx i with
  | some b=>bif Bv b.cs then NI rw s' n b.cs else none
  | none=>none) else none
 | s,cs=>whole (AA rw s cs)
def CY (E:Env) (fr:Fr) (rw:List (Option Ad)):(ps:List (PM×Sh))→List (Bool×List Lf)→List (Option Ad)→Option (AT ps)
 | [],[],_=>some ()
 | (m,s) :: ps,(ag,cs) :: vs,rc=>match m with
  | .ro=>bif s.agg==ag then (match Ahc E fr rw s cs,CY E fr rw ps vs rc with
   | some x,some xs=>some (x,xs)
   | _,_=>none) else none
  | .mv=>bif s.agg==ag then (match take (fun m=>m==.own) none s cs rc with
   | some (x,[],rc1)=>(match CY E fr rw ps vs rc1 with | some xs=>some (x,xs) | none=>none)
   | _=>none) else none
  | .io=>bif s.agg==ag then (match take Md.mine none s cs rc with
   | some (x,[],rc1)=>(match CY E fr rw ps vs rc1 with | some xs=>some (x,xs) | none=>none)
   | _=>none) else none
  | .cap=>match ag,cs with
   | false,[.box b 0]=>(match at? fr.bx b with
    | some b=>bif Bv b.cs then (match whole (AA rw s b.cs),CY E fr rw ps vs rc with
     | some x,some xs=>some (x,xs)
     | _,_=>none) else none
    | none=>none)
   | _,_=>none
 | _,_,_=>none
def DA (E:Env) (fr:Fr) (m:Mdl) (vs:List (Bool×List Lf)):Res :=
 match B5 m.ps vs fr.rw with
 | some rw=>match CY E fr rw m.ps vs fr.rw with
  | some xs=>bif m.rs.all Sh.data then .call m (m.F xs) vs rw (m.ps.all fun p=>p.1==.ro||p.1==.cap) else .fail
  | none=>.fail
 | none=>.fail
def RT.hd {s:Sh} {l:List Sh}:RT (s :: l)→s.T:=match l with | []=>fun x=>x | _ :: _=>fun x=>x.1
def RT.tl {s:Sh} {l:List Sh}:RT (s :: l)→RT l:=match l with | []=>fun _=>() | _ :: _=>fun x=>x.2
def RT.mk {s:Sh} {l:List Sh}:s.T→RT l→RT (s :: l):=match l with | []=>fun x _=>x | _ :: _=>fun x y=>(x,y)
def BE (rw0:List (Option Ad)):(s:Sh)→List Lf→s.T→List (Option Ad)→List Lf×List (Option Ad)
 | .list e s,l :: r,xs,rw=>(r,match l with
  | .row i=>(match at? rw0 i with | some q=>Bn rw i (some ⟨e,s,xs,q.m⟩) | none=>rw)
  | _=>rw)
 | .cons a b,l,x,rw=>let p:=BE rw0 a l x.1 rw;BE rw0 b p.1 x.2 p.2
 | _,_ :: r,_,rw=>(r,rw)
 | _,[],_,rw=>([],rw)
def QA {rs:List Sh} (rw0:List (Option Ad)):(ps:List (PM×Sh))→List (Bool×List Lf)→RT (BO ps++rs)→List (Option Ad)→List (Option Ad)×RT rs
 | [],_,y,rw=>(rw,y)
 | (.io,s) :: ps,vs,y,rw=>QA rw0 ps vs.tail (RT.tl (l:=BO ps++rs) y) (BE rw0 s (match vs with | v :: _=>v.2 | []=>[]) (RT.hd (l:=BO ps++rs) y) rw).2
 | (.ro,_) :: ps,vs,y,rw | (.mv,_) :: ps,vs,y,rw | (.cap,_) :: ps,vs,y,rw=>QA rw0 ps vs.tail y rw
def Ar:(l:List Sh)→RT l→Nat→List (Bool×List Lf)×List Ad
 | [],_,_=>([],[])
 | s :: l,x,n =>
  let p:=Ab .own s x.hd n
  let q:=Ar l x.tl (n+p.2.length)
  ((s.agg,p.1) :: q.1,p.2++q.2)
def one (vs:List (Bool×List Lf)):AV:=match vs with | [(ag,cs)]=>.v ag cs | vs=>.tup vs
def Am (fr:Fr) (m:Mdl) (vs:List (Bool×List Lf)) (rw:List (Option Ad)) (quiet:Bool) (y:RT (BO m.ps++m.rs)):AV×List Ad×Eff :=
 let b:=QA fr.rw m.ps vs y rw
 let q:=Ar m.rs b.2 fr.rw.length
 (one q.1,q.2,bif quiet then .pure else .tab b.1)

def LQ (E:Env) (fr:Fr) (m:Mdl) (vs:List (Bool×List Lf)):Res:=.fail
def G9 (E:Env) (fr:Fr) (m:Fx) (vs:List (Bool×List Lf)):Res :=
 match vs with
 | (false,[.box i 0]) :: vs'=>match at? fr.bx i with
  | some b=>match b.cs with
   | l :: cs=>bif b.own&&m.ps.all (fun p=>p.1==.ro)&&m.rs.all Sh.data&&m.r.flat then (
    match NE fr.rw m.e m.s l,whole (AA fr.rw m.r cs),CY E { fr with bx:=Bn fr.bx i none } fr.rw m.ps vs' fr.rw with
    | some xs,some y,some a=>.callE (m.r :: m.rs) (m.F ((xs,y),a)) (some (RT.mk y (RT.dfl m.rs))) (fun z =>
      let q:=Ar m.rs (RT.tl z) fr.rw.length
      ⟨one q.1,q.2,[],.box i { b with cs:=l :: (Ab .own m.r (RT.hd z) 0).1 }⟩)
    | _,_,_=>.fail) else .fail
   | []=>.fail
  | none=>.fail
 | _=>.fail
def NJ (E:Env) (fr:Fr) (m:P9) (vs:List (Bool×List Lf)):Res :=
 match vs with
 | (false,[.row i]) :: vs'=>bif m.ps.all (fun p=>p.1==.ro)&&m.r.flat then (
   match NE fr.rw m.e m.s (.row i),CY E fr fr.rw m.ps vs' fr.rw with
   | some xs,some a=>.callE [m.r] (m.F (xs,a)) none (fun z=>⟨.l (.box fr.bx.length 0),[],[⟨true,.row i :: (Ab .own m.r z 0).1⟩],.pure⟩)
   | _,_=>.fail) else .fail
 | _=>.fail

def NK (E:Env) (fr:Fr) (t:Nat) (x y:Lf):Res :=
 match slT E t,x with
 | some (e,s,b),.row i=>match at? fr.rw i with
  | some q=>bif q.m==.own&&Nat.beq e q.e then (if hq:q.s=s then (
   match y with
   | .row j=>match at? fr.rw j with
    | some p=>bif Nat.beq p.e e then (if h:p.s=s then (
      bif s.flat then
       .done (Nat.ble (q.xs.length+p.xs.length) (lim b)) (some (.l (.row fr.rw.length))) [⟨e,s,Ey hq q.xs++Ey h p.xs,.own⟩] [] (.gone [i])
      else bif p.m==.own&&!Nat.beq i j then
       .done (Nat.ble (q.xs.length+p.xs.length) (lim b)) (some (.l (.row fr.rw.length))) [⟨e,s,Ey hq q.xs++Ey h p.xs,.own⟩] [] (.tab (AH j (Bn (AH i (Bn fr.rw i none)) j none)))
      else .fail) else .fail) else .fail
    | none=>.fail
   | .view j lo hi=>match at? fr.rw j with
    | some p=>bif Nat.beq p.e e&&s.flat then (if h:p.s=s then
       .done (Nat.ble (q.xs.length+(((Ey h p.xs).take hi.toNat).drop lo.toNat).length) (lim b)) (some (.l (.row fr.rw.length))) [⟨e,s,Ey hq q.xs++((Ey h p.xs).take hi.toNat).drop lo.toNat,.own⟩] [] (.gone [i])
      else .fail) else .fail
    | none=>.fail
   | _=>.fail) else .fail) else .fail
  | none=>.fail
 | _,_=>.fail
def bnd (fr:Fr) (ch:List (Nat×Bool)) (d:Int):Option Operand→Option Int
 | none=>some d
 | some x=>match op1 fr ch x with | some (.int _ n)=>some n | _=>none
def SB (E:Env) (fr:Fr) (ch:List (Nat×Bool)) (ty:Nat) (x:Operand):Res :=
 match opd fr ch x with
 | some (.v false [.nil])=>match slT E ty with
  | some (e,s,_)=>.done true (some (.l (.row fr.rw.length))) [⟨e,s,[],.own⟩] [] .pure
  | none=>vals false [.nil]
 | some (.v ag cs)=>vals ag cs
 | some (.tup vs)=>.done true (some (.tup vs)) [] [] .pure
 | _=>.fail
def Ahd (E:Env) (fr:Fr) (ch:List (Nat×Bool)) (op:BinOp) (t:Nat) (x y:Operand):Res :=
 match opl fr ch x,opl fr ch y with
 | some v,some u=>match bin E op t v u with
  | some (req,l)=>val req l
  | none=>.fail
 | _,_=>.fail
def At7 (fr:Fr) (ch:List (Nat×Bool)) (op:UnOp) (x:Operand):Res :=
 match op,op1 fr ch x with
 | .not,some (.bool b)=>val true (.bool (!b))
 | .neg,some (.int k n)=>val true (.int k (k.wrap (0-n)))
 | _,_=>.fail
def Yz (fr:Fr) (ch:List (Nat×Bool)) (c:Operand) (a b:Operand):Res :=
 match c with
 | .tmp c=>match op1 fr ch (.tmp c),op1 fr ((c,true) :: ch) a,op1 fr ((c,false) :: ch) b with
  | some (.bool t),some (.bool u),some (.bool v)=>val true (.bool (bif t then u else v))
  | _,_,_=>.fail
 | _=>.fail
def Ahe (fr:Fr) (ch:List (Nat×Bool)) (x:Operand):Res :=
 match opl fr ch x with
 | some (_,cs)=>.done true (some (.l (.box fr.bx.length 0))) [] [⟨true,cs⟩] .pure
 | none=>.fail
def SC (E:Env) (fr:Fr) (t:Nat):Res :=
 match lkp E.ty t with
 | some ty=>bif ty.sh.data then (
   let q:=Ab .own ty.sh ty.sh.dfl fr.rw.length
   .done true (some (.l (.box fr.bx.length 0))) q.2 [⟨true,q.1⟩] .pure) else .fail
 | none=>.fail
def Ahf (fr:Fr) (ch:List (Nat×Bool)) (x:Operand):Res :=
 match op1 fr ch x with
 | some (.box i o)=>val true (.box i o)
 | some (.elem i j o)=>val true (.elem i j o)
 | _=>.fail
def Ha (E:Env) (fr:Fr) (ch:List (Nat×Bool)) (s:Nat) (x:Operand) (f:Nat):Res :=
 match lkp E.ty s with
 | some (.st _ fs)=>match fs[f]?,op1 fr ch x with
  | some (off,_),some (.box i o)=>val true (.box i (o+off))
  | some (off,_),some (.elem i j o)=>val true (.elem i j (o+off))
  | _,_=>.fail
 | _=>.fail
def SD (E:Env) (fr:Fr) (ch:List (Nat×Bool)) (t:Nat) (x:Operand) (f:Nat):Res :=
 match lkp E.ty t,opl fr ch x with
 | some (.st _ fs),some (true,cs)=>match fs[f]? with
  | some (off,n)=>bif Nat.ble (off+n) cs.length then vals (Nat.blt 1 n) ((cs.drop off).take n) else .fail
  | none=>.fail
 | _,_=>.fail
def YA (E:Env) (fr:Fr) (ch:List (Nat×Bool)) (t:Nat) (x:Operand):Res :=
 match op1 fr ch x with
 | some p=>loadAt E fr t p
 | none=>.fail
def I1 (fr:Fr) (i off n:Nat) (vs:List Lf):Res :=
 match at? fr.bx i with
 | some b=>bif b.own&&Bv b.cs&&Nat.ble (off+n) b.cs.length&&Nat.beq vs.length n then .done true none [] [] (.box i { b with cs:=Ge b.cs off vs }) else .fail
 | none=>.fail
def Hb (fr:Fr) (i:Nat) (j:Int) (off n:Nat) (vs:List Lf):Res :=
 match at? fr.rw i with
 | some r=>bif r.m.mine&&Nat.beq vs.length n then (match IM r.s off n with
  | some ⟨u,_,g⟩=>match take (fun m=>m==.own) (some i) u vs fr.rw with
   | some (y,[],_)=>bif u.flat then .done true none [] [] (.tab (AH i (Bn fr.rw i (some { r with xs:=r.xs.set j.toNat (g (r.xs.getD j.toNat r.s.dfl) y) })))) else .fail
   | _=>.fail
  | none=>.fail) else .fail
 | none=>.fail
def SE (E:Env) (fr:Fr) (ch:List (Nat×Bool)) (t:Nat) (a x:Operand):Res :=
 match op1 fr ch a,opl fr ch x,tyN E t with
 | some (.box i off),some (_,vs),some (n,_)=>I1 fr i off n vs
 | some (.elem i j off),some (_,vs),some (n,_)=>Hb fr i j off n vs
 | _,_,_=>.fail
def Hc (E:Env) (fr:Fr) (ch:List (Nat×Bool)) (t:Nat) (x i:Operand):Res :=
 match op1 fr ch x,op1 fr ch i with
 | some v,some (.int _ j)=>match C5 fr v with
  | some (r,q,lo,len)=>bif Jy E t q then val (decide (0≤j)&&decide (j<len)) (.elem r (lo+j) 0) else .fail
  | none=>.fail
 | _,_=>.fail
def Aa5:List Lf→Option (List ByteArray)
 | []=>some []
 | .str s :: r=>(match Aa5 r with | some l=>some (s :: l) | none=>none)
 | _=>none
def NL (E:Env) (fr:Fr) (ch:List (Nat×Bool)) (t:Nat) (x i:Operand):Res :=
 match lkp E.ty t,opl fr ch x,op1 fr ch i with
 | some (.ar _ _ n),some (true,cs),some (.int _ j)=>(match Aa5 cs with
  | some l=>bif Nat.beq l.length n then val (decide (0≤j)&&decide (j<(n:Int))) (.str (l.getD j.toNat ByteArray.empty)) else .fail
  | none=>.fail)
 | _,_,_=>.fail
def SG (E:Env) (fr:Fr) (ch:List (Nat×Bool)) (t:Nat) (x i:Operand):Res :=
 match lkp E.ty t,op1 fr ch x,op1 fr ch i with
 | some (.sc .str),some (.str s),some (.int _ j)=>val (decide (0≤j)&&decide (j<(s.size:Int))) (.int .u8 ((s.data.getD j.toNat 0).toNat:Int))
 | _,_,_=>NL E fr ch t x i
def SH (E:Env) (fr:Fr) (ch:List (Nat×Bool)) (t:Nat) (x:Operand) (lo hi:Option Operand):Res :=
 match op1 fr ch x with
 | some (.str s)=>match lkp E.ty t,bnd fr ch 0 lo,bnd fr ch s.size hi with
  | some (.sc .str),some l,some h=>val (decide (0≤l)&&decide (l≤h)&&decide (h≤(s.size:Int))) (.str (s.extract l.toNat h.toNat))
  | _,_,_=>.fail
 | some v=>match C5 fr v with
  | some (r,q,b,n)=>bif Jy E t q then (
   match bnd fr ch 0 lo,bnd fr ch n hi with
   | some l,some h=>val (decide (0≤l)&&decide (l≤h)&&decide (h≤n)) (.view r (b+l) (b+h))
   | _,_=>.fail) else .fail
  | none=>.fail
 | none=>.fail
def SJ (E:Env) (fr:Fr) (ch:List (Nat×Bool)) (t:Nat) (parts:List (Nat×Operand)):Res :=
 match (lkp E.ty t).bind Ty.parts with
 | some (s,fs)=>bif s.data then (
   let q:=Ab .own s s.dfl fr.rw.length
   match SA fr ch fs parts q.1 with
   | some cs=>.done true (some (.v true cs)) q.2 [] .pure
   | none=>.fail) else .fail
 | _=>.fail
def SK (fr:Fr) (ch:List (Nat×Bool)) (sz:Nat):List (Nat×Operand)→List Lf→Option (List Lf)
 | [],cs=>some cs
 | (i,x) :: r,cs=>match opl fr ch x with
  | some (_,vs)=>bif Nat.beq vs.length sz&&Nat.ble (i*sz+sz) cs.length then SK fr ch sz r (Ge cs (i*sz) vs) else none
  | none=>none
def Ja (fr:Fr) (ch:List (Nat×Bool)) (e:Nat) (s:Sh) (n:Nat) (parts:List (Nat×Operand)):Res :=
 match KU s with
 | some z=>(match SK fr ch s.n parts (List.replicate n z).flatten with
  | some cs=>bif Nat.ble (n*s.n) 16777216 then .done true (some (.l (.bsl fr.bx.length e n))) [] [⟨true,cs⟩] .pure else .fail
  | none=>.fail)
 | none=>.fail
def Gf (E:Env) (fr:Fr) (ch:List (Nat×Bool)) (t n:Nat) (parts:List (Nat×Operand)):Res :=
 match slT E t with
 | some (e,s,_)=>match G8 fr ch fr.rw.length s parts (List.replicate n s.dfl) fr.rw with
  | some (xs,rw)=>bif Nat.ble (n*s.n) 16777216 then .done true (some (.l (.row fr.rw.length))) [⟨e,s,xs,.own⟩] [] (bif s.flat then .pure else .tab rw) else .fail
  | none=>Ja fr ch e s n parts
 | none=>.fail
def YB (E:Env) (fr:Fr) (ch:List (Nat×Bool)) (t:Nat) (x y:Operand):Res :=
 match slT E t,op1 fr ch x,op1 fr ch y with
 | some (e,s,b),some (.int .i64 n),some (.int .i64 c)=>.done (decide (0≤n)&&Nat.ble n.toNat (lim b)&&(n==c)) (some (.l (.row fr.rw.length))) [⟨e,s,List.replicate n.toNat s.dfl,.own⟩] [] .pure
 | _,_,_=>.fail
def MC:List (Bool×List Lf)→Option (List Nat)
 | []=>some []
 | (false,[.box b 0]) :: r=>match MC r with | some bs=>some (b :: bs) | none=>none
 | _=>none
def YC (fr:Fr) (ch:List (Nat×Bool)) (f:Fn) (first captured:List Operand):Res :=
 match f,first,Yx fr ch captured with
 | .func g,[],some vs=>match MC vs with
  | some bs=>val true (.fn g bs)
  | none=>.fail
 | _,_,_=>.fail
def KX (E:Env) (fr:Fr) (ch:List (Nat×Bool)) (src t:Nat) (x:Operand):Res :=
 match op1 fr ch x with
 | some (.int _ n)=>match lkp E.ty src,lkp E.ty t with
  | some _,some (.sc (.int k))=>val true (.int k (k.wrap n))
  | _,_=>.fail
 | some (.row i)=>match slT E src,lkp E.ty t,at? fr.rw i with
  | some (e,_,_),some (.sc .str),some r=>(match lkp E.ty e with
   | some (.sc (.int .u8))=>if h:r.s=.int .u8 then val true (.str (strOfNums (Ey h r.xs))) else .fail
   | _=>.fail)
  | _,_,_=>.fail
 | _=>.fail
def KY (fr:Fr) (ch:List (Nat×Bool)) (x:Operand) (i:Nat):Res :=
 match opd fr ch x with
 | some (.tup vs)=>match vs[i]? with | some (ag,cs)=>vals ag cs | none=>.fail
 | _=>.fail
def Ahg (E:Env) (fr:Fr) (ch:List (Nat×Bool)) (as:List Operand) (ts:List Nat):Res :=
 match as,ts with
 | [x],[t]=>match lkp E.ty t,op1 fr ch x with
  | some (.sc .str),some (.str s)=>val true (.int .i64 s.size)
  | some (.sl _ _ _),some .nil=>val true (.int .i64 0)
  | some (.sl _ _ _),some v=>match C5 fr v with | some (_,_,_,n)=>val true (.int .i64 n) | none=>.fail
  | _,_=>.fail
 | _,_=>.fail
def YD (E:Env) (fr:Fr) (ch:List (Nat×Bool)) (as:List Operand) (ts:List Nat):Res :=
 match as,ts with
 | [x],[t]=>(match op1 fr ch x with
  | some (.mp i)=>NH E fr t i
  | _=>Ahg E fr ch [x] [t])
 | _,_=>.fail
def NM (E:Env) (fr:Fr) (ch:List (Nat×Bool)) (as:List Operand) (ts:List Nat):Res :=
 match as,ts with
 | [x,y],[t,t']=>match op1 fr ch x,op1 fr ch y with
  | some v,some u=>bif Nat.beq t t' then NK E fr t v u else .fail
  | _,_=>.fail
 | _,_=>.fail
def clr {α:Type} (xs:List α) (lo hi:Nat) (d:α):List α:=xs.take lo++List.replicate (hi-lo) d++xs.drop hi
def SL (E:Env) (fr:Fr) (ch:List (Nat×Bool)) (as:List Operand) (ts:List Nat):Res :=
 match as,ts with
 | [x],[t]=>match op1 fr ch x with
  | some v=>match C5 fr v with
   | some (i,r,lo,len)=>bif r.m.mine&&r.s.flat&&Jy E t r then .done true none [] [] (.tab (AH i (Bn fr.rw i (some { r with xs:=clr r.xs lo.toNat (lo+len).toNat r.s.dfl })))) else .fail
   | none=>.fail
  | none=>.fail
 | _,_=>.fail
def YE (E:Env) (fr:Fr) (ch:List (Nat×Bool)) (as:List Operand) (ts:List Nat):Res :=
 match as,ts with
 | [x,y],[t,t']=>match op1 fr ch x,op1 fr ch y with
  | some v,some u=>match C5 fr v,C5 fr u with
   | some (i,r,lo,len),some (_,p,lo',len')=>if h:p.s=r.s then (bif r.m.mine&&r.s.flat&&Nat.beq r.s.n 1&&Jy E t r&&Jy E t' p then
     .done true (some (.l (.int .i64 (bif decide (len≤len') then len else len')))) [] [] (.set i r.e r.s (r.xs.take lo.toNat++(((Ey h p.xs).take (lo'+len').toNat).drop lo'.toNat).take (bif decide (len≤len') then len else len').toNat++r.xs.drop (lo.toNat+(bif decide (len≤len') then len else len').toNat))) else .fail) else .fail
   | _,_=>.fail
  | _,_=>.fail
 | _,_=>.fail
def Aa6 (big:Bool) (fr:Fr) (ch:List (Nat×Bool)) (as:List Operand):Res :=
 match as with
 | [x,y]=>match op1 fr ch x,op1 fr ch y with
  | some (.int k a),some (.int k' b)=>if k=k' then val true (.int k (bif big then (if b>a then b else a) else (if b<a then b else a))) else .fail
  | _,_=>.fail
 | _=>.fail
def YF (E:Env) (fr:Fr) (ch:List (Nat×Bool)) (f:Operand) (as:List Operand):Res :=
 match op1 fr ch f,Yx fr ch as with
 | some (.fn g caps),some vs=>match lkp E.fs g with
  | some m=>(match DA E fr m (vs++caps.map fun b=>(false,[Lf.box b 0])) with
   | .fail=>LQ E fr m (vs++caps.map fun b=>(false,[Lf.box b 0]))
   | r=>r)
  | none=>(match caps with
   | []=>(match lkp E.pf g with
    | some m=>G9 E fr m vs
    | none=>(match lkp E.nf g with
     | some m=>NJ E fr m vs
     | none=>.fail))
   | _ :: _=>.fail)
 | some (.fv1 a r φ),some vs=>DA E fr ⟨[(.ro,a)],[r],fun x=>φ x.1⟩ vs
 | some (.fv2 a b r φ),some vs=>DA E fr ⟨[(.ro,a),(.ro,b)],[r],fun x=>φ x.1 x.2.1⟩ vs
 | _,_=>.fail
def Hd (E:Env) (fr:Fr) (ch:List (Nat×Bool)) (o:Oper):Res :=
 match o.op with
 | .move x=>SB E fr ch o.type x
 | .assign x=>SB E fr ch o.type x
 | .binOp op t x y _=>Ahd E fr ch op t x y
 | .unOp op _ x=>At7 fr ch op x
 | .pick c a b=>Yz fr ch c a b
 | .box _ x=>Ahe fr ch x
 | .alloc t=>SC E fr t
 | .nilCheck x=>Ahf fr ch x
 | .fieldAddr s x f=>Ha E fr ch s x f
 | .field t x f=>SD E fr ch t x f
 | .load t x=>YA E fr ch t x
 | .store t a x=>SE E fr ch t a x
 | .indexAddr t x i=>Hc E fr ch t x i
 | .index t x i=>SG E fr ch t x i
 | .slice t x lo hi none=>SH E fr ch t x lo hi
 | .build t parts=>SJ E fr ch t parts.toList
 | .buildSlice t n parts=>Gf E fr ch t n parts.toList
 | .makeSlice t x y=>YB E fr ch t x y
 | .makeFunc f first captured=>YC fr ch f first.toList captured.toList
 | .convert s t x=>KX E fr ch s t x
 | .extract x i=>KY fr ch x i
 | .makeMap t r=>KW E fr t r
 | .lookup t x ix ok=>NG E fr ch t x ix ok
 | .mapUpdate t m k x=>E0 E fr ch t m k x
 | .insert t m k x=>E0 E fr ch t m k x
 | .call c=>match c.callee with
  | .builtin .len=>YD E fr ch c.args.toList c.argTypes.toList
  | .builtin .append=>NM E fr ch c.args.toList c.argTypes.toList
  | .builtin .copy=>YE E fr ch c.args.toList c.argTypes.toList
  | .builtin .clear=>SL E fr ch c.args.toList c.argTypes.toList
  | .builtin .max=>Aa6 true fr ch c.args.toList
  | .builtin .min=>Aa6 false fr ch c.args.toList
  | .value f=>YF E fr ch f c.args.toList
  | _=>.fail
 | _=>.fail

def AV.waits (t:Nat):AV→Bool
 | .grd c _ _ _=>c.any fun p=>Nat.beq p.1 t
 | _=>false
def Qb (nt:Nat) (sl:List (Nat×AV)) (d:Option Nat) (v:Option AV):Option (List (Nat×AV)) :=
 match d with
 | none=>some sl
 | some t=>bif Nat.blt t nt then
   let sl:=sl.filter fun p=>!p.2.waits t
   (match v with
   | some v=>bif v.waits t then none else some (ins sl t v)
   | none=>some (sl.filter fun p=>!Nat.beq p.1 t)) else none
def Fy (fr:Fr) (d:Option Nat) (v:Option AV):Option Fr :=
 match Qb fr.nt fr.sl d v with
 | some sl=>some { fr with sl:=sl }
 | none=>none
def Ae4 (i e:Nat) (s:Sh) (xs:List s.T) (rw:List (Option Ad)):List (Option Ad):=AH i (Bn rw i ((at? rw i).map fun r=>⟨e,s,xs,r.m⟩))
def He (is:List Nat) (rw:List (Option Ad)):List (Option Ad):=is.foldl (fun rw i=>AH i (Bn rw i none)) rw
def Ez (a b:List (Option Ad)):List Nat:=(List.range a.length).filter fun i=>match at? a i,at? b i with | some _,none=>true | _,_=>false
def SN (ps:List (PM×Sh)):Bool:=ps.all fun p=>p.1==.ro||p.1==.cap||p.1==.mv
def upd (fr:Fr) (nr:List Ad) (nb:List BD) (ef:Eff):Fr :=
 match ef with
 | .pure=>{ fr with bx:=fr.bx++nb.map some,rw:=fr.rw++nr.map some }
 | .box i b=>{ fr with bx:=Bn fr.bx i (some b)++nb.map some,rw:=fr.rw++nr.map some }
 | .tab rw=>{ fr with bx:=fr.bx++nb.map some,rw:=rw++nr.map some }
 | .gone is=>{ fr with bx:=fr.bx++nb.map some,rw:=He is fr.rw++nr.map some }
 | .set i e s xs=>{ fr with bx:=fr.bx++nb.map some,rw:=Ae4 i e s xs fr.rw++nr.map some }
def AR (g:Bool) (r:Ad):Ad:={ r with xs:=bif g then r.xs else [],m:=match r.m with | .bor p _=>.bor p none | m=>m }
def Cc (fr:Fr) (r:Ad):Bool :=
 match r.m with
 | .own | .ro=>true
 | .io=>false
 | .bor p _=>match at? fr.rw p with | some r=>r.m.mine | none=>false
def Hf (ch:List (Nat×Bool)) (g:Bool):AV→Option AV
 | .v ag cs=>some (.grd ch g ag cs)
 | _=>none
def MD (all:List Oper) (fr:Fr) (i:Nat) (want:Bool):Option (List (Nat×Bool)×Bool) :=
 match (all[i]?).bind (·.dst) with
 | none=>none
 | some s=>match lkp fr.sl s with
  | some (.v false [.bool b])=>some ([(s,want)],bif want then b else !b)
  | some (.grd c g false [.bool b])=>some ((s,want) :: c,g&&(bif want then b else !b))
  | _=>none
def DW (fr:Fr):Eff→Bool | .tab rw=>Nat.beq rw.length fr.rw.length | .box i _=>Nat.blt i fr.bx.length | .pure=>true | .gone _=>true | .set i _ _ _=>(match at? fr.rw i with | some r=>r.m.mine | none=>false)
def Asm:Eff→Bool | .box _ _=>true | _=>false
def Hg:Eff→Bool | .pure=>true | _=>false
def Jz (E:Env) (fr:Fr) (ch:List (Nat×Bool)) (o:Oper):Res :=
 match o.op with
 | .call c=>(match c.callee with
  | .value x=>(match op1 fr ch x,Yx fr ch c.args.toList with
   | some (.fn f []),some vs=>(match lkp E.pf f with
    | some m=>G9 E fr m vs
    | none=>.fail)
   | _,_=>.fail)
  | _=>.fail)
 | _=>.fail
def KZ {R:Type} (fr:Fr) (d:Option Nat) (v:AV) (k:Fr→Option R):Option R:=match Fy fr d (some v) with | some fr'=>k fr' | none=>none
def Ahh {R:Type} (E:Env) (fr:Fr) (m:Qa) (vs:List (Bool×List Lf)) (d:Option Nat) (k:Fr→Option R):Option R :=
 match vs with
 | (false,[.box i 0]) :: vs'=>match at? fr.bx i with
  | some b=>bif b.own&&(Bv b.cs&&(m.c.agg&&(m.c.data&&(m.ps.all (fun p=>p.1==.ro)&&m.rs.all Sh.data)))) then (
   match B5 ((.mv,m.c) :: m.ps) ((true,b.cs) :: vs') fr.rw with
   | some rw1=>(match CY E { fr with bx:=Bn fr.bx i none } rw1 ((.mv,m.c) :: m.ps) ((true,b.cs) :: vs') fr.rw with
    | some x=>(m.F x).bind fun y =>
      let q:=Ar (m.c :: m.rs) y fr.rw.length
      KZ { nt:=fr.nt,sl:=fr.sl,bx:=Bn fr.bx i (some ⟨true,(Ab .own m.c (RT.hd y) fr.rw.length).1⟩),rw:=rw1++q.2.map some } d (one q.1.tail) k
    | none=>none)
   | none=>none) else none
  | none=>none
 | _=>none
def Vf {α R:Type} (o:Option α) (n:Option R) (s:α→Option R):Option R:=match o with | none=>n | some x=>s x
def Ahi {R:Type} (E:Env) (fr:Fr) (m:IG) (vs:List (Bool×List Lf)) (d:Option Nat) (k:Fr→Option R):Option R :=
 bif m.c.data&&(m.ps.all (fun p=>p.1==.ro)&&m.rs.all Sh.data) then (
  match CY E fr fr.rw m.ps vs fr.rw with
  | some x=>(m.F x).bind fun y=>Vf y.1
    (let q:=Ar m.rs y.2 fr.rw.length
    KZ { nt:=fr.nt,sl:=fr.sl,bx:=fr.bx,rw:=fr.rw++q.2.map some } d (one ((false,[.und]) :: q.1)) k)
    (fun z =>
     let q:=Ar (m.c :: m.rs) (RT.mk z y.2) fr.rw.length
     KZ { nt:=fr.nt,sl:=fr.sl,bx:=fr.bx++[some ⟨true,(Ab .own m.c z fr.rw.length).1⟩],rw:=fr.rw++q.2.map some } d (one ((false,[.box fr.bx.length 0]) :: q.1.tail)) k)
  | none=>none) else none
def Ahj {R:Type} (E:Env) (fr:Fr) (m:IG) (vs:List (Bool×List Lf)) (d:Option Nat) (k:Fr→Option R):Option R :=
 bif m.c.data&&m.c.agg&&(m.ps.all (fun p=>p.1==.ro)&&m.rs.all Sh.data) then (
  match CY E fr fr.rw m.ps vs fr.rw with
  | some x=>(m.F x).bind fun y=>Vf y.1
    (let q:=Ar m.rs y.2 fr.rw.length
    KZ { nt:=fr.nt,sl:=fr.sl,bx:=fr.bx,rw:=fr.rw++q.2.map some } d (one ((true,List.replicate m.c.n .und) :: q.1)) k)
    (fun z =>
     let q:=Ar (m.c :: m.rs) (RT.mk z y.2) fr.rw.length
     KZ { nt:=fr.nt,sl:=fr.sl,bx:=fr.bx,rw:=fr.rw++q.2.map some } d (one q.1) k)
  | none=>none) else none
def opX {R:Type} (E:Env) (o:Oper) (fr:Fr) (k:Fr→Option R):Option R :=
 match o.op with
 | .call c=>(match c.callee with
  | .value x=>(match op1 fr [] x,Yx fr [] c.args.toList with
   | some (.fn f []),some vs=>(match lkp E.qf f with
    | some m=>Ahh E fr m vs o.dst k
    | none=>(match lkp E.cf f with
     | some m=>Ahi E fr m vs o.dst k
     | none=>(match lkp E.xf f with
      | some m=>Ahj E fr m vs o.dst k
      | none=>none)))
   | _,_=>none)
  | _=>none)
 | _=>none
def opK {R:Type} (E:Env) (all:List Oper) (o:Oper) (fr:Fr) (k:Fr→Option R):Option R :=
 match o.guard with
 | none=>match Hd E fr [] o with
  | .fail=>opX E o fr k
  | .done req v nr nb ef=>bif DW fr ef then (bif req then (match Fy (upd fr nr nb ef) o.dst v with | some fr'=>k fr' | none=>none) else none) else none
  | .call m x vs rw quiet=>x.bind fun y =>
    let r:=Am fr m vs rw quiet y
    bif DW fr r.2.2 then (match Fy (upd fr r.2.1 [] r.2.2) o.dst (some r.1) with | some fr'=>k fr' | none=>none) else none
  | .callE _ x _ f=>x.bind fun y=>bif DW fr (f y).ef then (match Fy (upd fr (f y).nr (f y).nb (f y).ef) o.dst (some (f y).v) with | some fr'=>k fr' | none=>none) else none
 | some (i,want)=>match MD all fr i want with
  | none=>none
  | some (ch,g)=>match Hd E fr ch o with
   | .fail=>none
   | .done req v nr nb ef=>bif nb.isEmpty&&Hg ef&&nr.all (Cc fr) then (bif req||!g then (match v.bind (Hf ch g) with
     | some v=>match Fy (upd fr (nr.map (AR g)) [] .pure) o.dst (some v) with | some fr'=>k fr' | none=>none
     | none=>none) else none) else none
   | .call m x vs rw quiet=>bif quiet then ((bif g then x else some (RT.dfl _)).bind fun y =>
     let r:=Am fr m vs rw true y
     bif r.2.1.all (Cc fr) then (match Hf ch g r.1 with
     | some v=>match Fy (upd fr (r.2.1.map (AR g)) [] .pure) o.dst (some v) with | some fr'=>k fr' | none=>none
     | none=>none) else none) else none
   | .callE _ _ _ _=>match Jz E fr ch o with
    | .callE _ x (some z) f=>(bif g then x else some z).bind fun y=>bif (f y).nb.isEmpty&&Asm (f y).ef&&DW fr (f y).ef&&(f y).nr.all (Cc fr) then (match Hf ch g (f y).v with
     | some v=>match Fy (upd fr ((f y).nr.map (AR g)) [] (f y).ef) o.dst (some v) with | some fr'=>k fr' | none=>none
     | none=>none) else none
    | _=>none
def Anf (E:Env) (fr:Fr):Fr:={ fr with sl:=fr.sl.filter fun p=>match p.2 with | .grd _ _ _ _=>false | _=>E.kp.any (Nat.beq p.1) }
def NN {R:Type} (E:Env) (all:List Oper):List Oper→Fr→(Fr→Option R)→Option R
 | [],fr,k=>k (Anf E fr)
 | o :: rest,fr,k=>opK E all o fr fun fr'=>NN E all rest fr' k

def Jb (l:List Nat):List Nat→List Nat
 | []=>l
 | i :: r=>bif l.any (Nat.beq i) then Jb l r else Jb (l++[i]) r

def has (l:List Nat) (i:Nat):Bool:=l.any (Nat.beq i)
def NO (bs:List (List Nat)) (o:Oper):List Nat:=o.after.toList.foldl (fun s e=>bif Region.binds .any e then Jb (Jb s [e.on]) (bs.getD e.on []) else s) []
def SO:List Oper→List (List Nat)→List (List Nat)
 | [],bs=>bs
 | o :: r,bs=>SO r (bs++[NO bs o])
def Ek:List Oper→Nat→Bool
 | [],_=>true
 | o :: r,i=>(o.after.toList.all fun e=>!Region.binds .any e||Nat.blt e.on i)&&(match o.op with | .select _ _=>false | _=>true)&&Ek r (i+1)
def inc (bs:List (List Nat)) (i j:Nat):Bool:=!Nat.beq i j&&!has (bs.getD j []) i&&!has (bs.getD i []) j
def Asn (fr:Fr):Operand→Option Nat
 | .tmp a=>(match lkp fr.sl a with
  | some (.v false [.box k _])=>bif Nat.blt k fr.bx.length then some k else none
  | _=>none)
 | _=>none
def Ang (all:List Oper):Operand→Operand
 | .tmp a=>(match all.find? fun o=>match o.dst with | some d=>Nat.beq d a | none=>false with
  | some o=>(match o.op with | .move (.tmp b)=>.tmp b | _=>.tmp a)
  | none=>.tmp a)
 | x=>x
def JA (all:List Oper) (fr:Fr) (o:Oper):Option Nat :=
 match o.op with
 | .store _ x _=>Asn fr x
 | .call c=>(match c.args.toList with
  | x :: _=>(match Asn fr (Ang all x) with
   | some k=>(match at? fr.bx k with
    | some b=>(match b.cs with | .row _ :: _=>some k | _=>none)
    | none=>some k)
   | none=>none)
  | []=>none)
 | _=>none
structure Dr where
 ops:List Oper
 bs:List (List Nat)
 n:Nat
 ds:List (Option Nat)
def Dr.of (ops:List Oper):Dr:=⟨ops,SO ops [],ops.length,ops.map (·.dst)⟩
def Hh (v:AV):Option Nat→Bool | some d=>v.waits d | none=>false
def DB (fr:Fr) (ds:List (Option Nat)):Bool:=fr.sl.all fun p=>match p.2 with | .grd _ _ _ _=>ds.all fun d=>!Hh p.2 d | _=>true
def neO:Option Nat→Option Nat→Bool | some a,some b=>!Nat.beq a b | _,_=>true
def inO (ds:List (Option Nat)) (t:Nat):Bool:=ds.any fun d=>match d with | some d=>Nat.beq d t | none=>false
def Hi {α:Type} (l:List (Option α)) (is:List Nat):List (Option α):=is.foldl (fun l i=>Bn l i none) l
def SP (rw:List (Option Ad)) (r:Option Ad):Option Ad :=
 match r with
 | some q=>(match q.m with | .bor p _=>(match at? rw p with | some q'=>bif q'.m.mine then r else none | none=>none) | _=>r)
 | none=>none
def AW (o:Oper):Bool:=match o.op with | .move _=>true | _=>false
def GP (fr:Fr) (z:Bool) (ds:List (Option Nat)) (rs bs:List Nat):Fr :=
 let rw:=Hi fr.rw rs
 {nt:=fr.nt,sl:=fr.sl.filter fun p=>!inO ds p.1,bx:=Hi fr.bx bs,rw:=rw.map fun r=>bif z then none else SP rw r }
structure Jc where
 r0:Nat
 rn:Nat
 b0:Nat
 bn:Nat
 et:Option Nat
 pr:List (Option Nat)
def Ahk (D:Dr) (fr:Fr) (j:Nat):Option Nat:=(D.ops.map (JA D.ops fr)).getD j none
def Ch (D:Dr) (z:Bool) (I:List Nat) (st:List Jc) (fr:Fr):Fr :=
 GP fr z (I.map fun j=>D.ds.getD j none)
  (I.flatMap fun j=>match st[j]? with | some p=>List.range' p.r0 p.rn | none=>[])
  ((I.flatMap fun j=>match st[j]? with | some p=>List.range' p.b0 p.bn | none=>[])++I.filterMap fun j=>match st[j]? with | some p=>p.et | none=>Ahk D fr j)
def SQ (st:List Jc) (i j:Nat):Option Nat→Bool
 | none=>true
 | some k=>(match st[j]? with
  | some p=>(match p.pr.getD i none with | some k'=>Nat.beq k k' | none=>false)||Nat.ble p.b0 k
  | none=>true)
def JB (req:Bool) (ws:List (Option Nat)) (d:Option Nat) (v:Option AV):Bool :=
 (match v with | some v=>ws.all fun w=>!Hh v w | none=>(match d with | none=>true | some _=>false))&&req
def Aw0 (st:List Jc) (I:List Nat) (i:Nat):Bool:=I.all fun j=>match st[j]? with | some p=>Nat.ble p.r0 i | none=>true
def Aw1 (D:Dr) (I:List Nat):Bool:=I.all fun j=>match D.ops[j]? with | some o=>AW o | none=>false
def GQ (s:Fr) (frw:List (Option Ad)) (m:Nat) (lo:Nat→Bool) (al:Bool) (tg:Option Nat) (nb:List BD):Eff→Bool
 | .pure=>true
 | .box j _=>nb.isEmpty&&Nat.blt j m&&(match tg with | some k=>Nat.beq j k | none=>false)&&(match at? s.bx j with | some _=>true | none=>false)
 | .tab _=>false
 | .gone is=>nb.isEmpty&&is.all fun i=>(lo i||al)&&(match at? s.rw i with | some _=>true | none=>false)
 | .set i _ _ _=>nb.isEmpty&&al&&(match at? s.rw i with | some _=>true | none=>false)&&(match at? frw i with | some r=>r.m.mine | none=>false)
def opD {R:Type} (E:Env) (all:List Oper) (o:Oper) (tg:Option Nat) (lo:Nat→Bool) (al:Bool) (ws:List (Option Nat)) (s fr:Fr) (k:Fr→Option R):Option R :=
 match o.guard with
 | none=>match Hd E s [] o with
  | .fail=>none
  | .done req v nr nb ef=>bif GQ s fr.rw fr.bx.length lo al tg nb ef&&(!AW o||Hg ef)&&nr.all (Cc s)&&JB req ws o.dst v then (match Fy (upd fr nr nb ef) o.dst v with | some fr'=>k fr' | none=>none) else none
  | .call m x vs rw quiet=>bif quiet then (x.bind fun y =>
    let r:=Am s m vs rw true y
    bif r.2.1.all (Cc s)&&JB true ws o.dst (some r.1) then (match Fy (upd fr r.2.1 [] .pure) o.dst (some r.1) with | some fr'=>k fr' | none=>none) else none) else
    bif SN m.ps&&!AW o&&((Ez s.rw rw).all fun i=>lo i||al) then (x.bind fun y =>
    let r:=Am s m vs rw true y
    bif r.2.1.all (Cc s)&&JB true ws o.dst (some r.1) then (match Fy (upd fr r.2.1 [] (.gone (Ez s.rw rw))) o.dst (some r.1) with | some fr'=>k fr' | none=>none) else none) else none
  | .callE _ x _ f=>x.bind fun y=>bif GQ s fr.rw fr.bx.length lo al tg (f y).nb (f y).ef&&(!AW o||Hg (f y).ef)&&(f y).nr.all (Cc s)&&JB true ws o.dst (some (f y).v) then (match Fy (upd fr (f y).nr (f y).nb (f y).ef) o.dst (some (f y).v) with | some fr'=>k fr' | none=>none) else none
 | some (i,want)=>match MD all s i want with
  | none=>none
  | some (ch,g)=>match Hd E s ch o with
   | .fail=>none
   | .done req v nr nb ef=>bif nb.isEmpty&&Hg ef&&nr.all (Cc s) then (match v.bind (Hf ch g) with
     | some v=>bif JB (req||!g) ws o.dst (some v) then (match Fy (upd fr (nr.map (AR g)) [] .pure) o.dst (some v) with | some fr'=>k fr' | none=>none) else none
     | none=>none) else none
   | .call m x vs rw quiet=>bif quiet then ((bif g then x else some (RT.dfl _)).bind fun y =>
     let r:=Am s m vs rw true y
     bif r.2.1.all (Cc s) then (match Hf ch g r.1 with
     | some v=>bif JB true ws o.dst (some v) then (match Fy (upd fr (r.2.1.map (AR g)) [] .pure) o.dst (some v) with | some fr'=>k fr' | none=>none) else none
     | none=>none) else none) else none
   | .callE _ _ _ _=>none
def Cw (D:Dr) (i:Nat):List Nat:=(List.range D.n).filter (inc D.bs i)
def YG (D:Dr) (tg:Option Nat) (a b:Fr):Jc:=⟨a.rw.length,b.rw.length-a.rw.length,a.bx.length,b.bx.length-a.bx.length,tg,D.ops.map (JA D.ops a)⟩
def JC {R:Type} (E:Env) (D:Dr):List Oper→Nat→List Jc→Fr→(Fr→Option R)→Option R
 | [],_,_,fr,k=>k (Anf E fr)
 | o :: rest,i,st,fr,k =>
  let I:=Cw D i
  match I with
  | []=>opK E D.ops o fr fun fr'=>bif Nat.ble fr.bx.length fr'.bx.length&&DB fr' (D.ds.drop (i+1)) then JC E D rest (i+1) (st++[⟨0,0,0,0,none,[]⟩]) fr' k else none
  | _ =>
   let s:=Ch D (AW o) I st fr
   let tg:=JA D.ops s o
   bif I.all fun j=>neO (D.ds.getD i none) (D.ds.getD j none)&&SQ st i j tg then
    opD E D.ops o tg (Aw0 st I) (Aw1 D I) (I.map fun j=>D.ds.getD j none) s fr fun fr'=>bif DB fr' (D.ds.drop (i+1)) then JC E D rest (i+1) (st++[YG D tg fr fr']) fr' k else none
   else none
def ME {R:Type} (E:Env) (ops:List Oper) (fr:Fr) (k:Fr→Option R):Option R :=
 let D:=Dr.of ops
 bif Ek ops 0&&DB fr D.ds then JC E D ops 0 [] fr k else none

inductive Ex where | normal | exit (id:Nat) | ret
def Lf.rowOf:Lf→List Nat
 | .row i | .view i _ _ | .elem i _ _=>[i]
 | _=>[]
def YH (cs:List Lf):List Nat:=cs.flatMap Lf.rowOf
def AV.rows:AV→List Nat
 | .v _ cs | .grd _ _ _ cs=>YH cs
 | .tup vs=>vs.flatMap fun p=>YH p.2
def Aa7 (rw:List (Option Ad)) (l:List Nat):List Nat :=
 l.flatMap fun i=>match at? rw i with
  | some r=>(match r.m with | .bor p _=>[p,i] | _=>[i])
  | none=>[]
def Fz:List Nat→Nat→Option Nat
 | [],_=>none
 | j :: r,i=>bif Nat.beq j i then some 0 else (match Fz r i with | some n=>some (n+1) | none=>none)
def SR (bm:List Nat):List Nat→Option (List Nat)
 | []=>some []
 | i :: r=>match Fz bm i,SR bm r with | some j,some l=>some (j :: l) | _,_=>none
def Lf.ren (bm pm:List Nat):Lf→Option Lf
 | .row i=>(Fz pm i).map .row
 | .view i lo hi=>(Fz pm i).map fun i=>.view i lo hi
 | .elem i j off=>(Fz pm i).map fun i=>.elem i j off
 | .box i off=>(Fz bm i).map fun i=>.box i off
 | .mp i=>(Fz bm i).map .mp
 | .bsl i e n=>(Fz bm i).map fun i=>.bsl i e n
 | .fn g caps=>(SR bm caps).map fun caps=>.fn g caps
 | l=>some l
def Anh (bm pm:List Nat):List Lf→Option (List Lf)
 | []=>some []
 | l :: r=>match l.ren bm pm,Anh bm pm r with | some l,some r=>some (l :: r) | _,_=>none
def AV.ren (bm pm:List Nat):AV→Option AV
 | .v ag cs=>match Anh bm pm cs with | some cs=>some (.v ag cs) | none=>none
 | _=>none
def Md.ren (pm:List Nat):Md→Option Md
 | .bor p a=>(Fz pm p).map fun p=>.bor p a
 | m=>some m
def AV.bx:AV→Option Nat
 | .v false [.box k 0]=>some k
 | _=>none
def Vg (base:List (Nat×AV)):List (Nat×AV)→List Nat→List Nat
 | [],bm=>bm
 | (t,v) :: r,bm=>Vg base r (match v.bx,(lkp base t).bind AV.bx with
  | some k',some k=>bif Nat.blt k' bm.length then bm else bm.set k k'
  | _,_=>bm)
def Aso:List Nat→Bool
 | i :: _=>Nat.beq i 0
 | []=>true
def Vh:List Nat→Bool
 | []=>true
 | i :: r=>!(r.any (Nat.beq i))&&Vh r
def K0 (m:Nat) (base cur:List (Nat×AV)):List Nat :=
 let bm:=Vg base cur (List.range m)
 bif Vh bm&&Aso bm then bm else List.range m
def Gg (n0:Nat) (base cur:Fr):Fr :=
 let sl:=cur.sl.filter fun p=>(lkp base.sl p.1).isSome
 let bm:=K0 base.bx.length base.sl sl
 let bx:=bm.map fun i=>at? cur.bx i
 let pm:=Jb (List.range n0) (Aa7 cur.rw (sl.flatMap (fun p=>p.2.rows)++bx.flatMap fun b=>match b with | some b=>YH b.cs | none=>[]))
 {nt:=cur.nt
  sl:=sl.filterMap fun p=>(p.2.ren bm pm).map fun v=>(p.1,v)
  bx:=bx.map fun b=>b.map fun b=>{ b with cs:=b.cs.map fun l=>(l.ren bm pm).getD .und }
  rw:=pm.map fun i=>match at? cur.rw i with
   | some r=>(match r.m.ren pm with | some m=>some { r with m:=m } | none=>none)
   | none=>none }
def Hj {R:Type} (f:Fr→(Ex→Fr→Option R)→Option R) (n0:Nat) (base:Fr):Nat→Fr→(Ex→Fr→Option R)→Option R
 | 0,_,_=>none
 | n+1,fr,k=>f fr fun e fr'=>match e with
  | .normal=>Hj f n0 base n (Gg n0 base fr') k
  | e=>k e fr'
def SS (E:Env) (fr:Fr) (c:Operand) (b:Bool):Fr:=bif E.rf then (match c with
 | .tmp t=>(match lkp fr.sl t with
  | some (.v false [.bool _])=>{ fr with sl:=ins fr.sl t (.l (.bool b)) }
  | _=>fr)
 | _=>fr) else fr
def D9 {R:Type} (E:Env) (n0:Nat):Code→Fr→(Ex→Fr→Option R)→Option R
 | .skip,fr,k=>k .normal fr
 | .region _ ops dr,fr,k=>bif dr then ME E ops.toList fr (k .normal) else NN E ops.toList ops.toList fr (k .normal)
 | .seq a b,fr,k=>D9 E n0 a fr fun e fr'=>match e with | .normal=>D9 E n0 b fr' k | e=>k e fr'
 | .cond c x y,fr,k=>match op1 fr [] c with | some (.bool b)=>bif b then D9 E n0 x (SS E fr c true) k else D9 E n0 y (SS E fr c false) k | _=>none
 | .block id b,fr,k=>D9 E n0 b fr fun e fr'=>match e with | .exit j=>bif Nat.beq j id then k .normal fr' else k (.exit j) fr' | e=>k e fr'
 | .loop b,fr,k=>(let h:=Gg n0 fr fr;Hj (D9 E n0 b) n0 h E.K h k)
 | .exit id,fr,k=>k (.exit id) fr
 | .ret,fr,k=>k .ret fr
 | _,_,_=>none

def Ag (mi:Md):(ps:List (PM×Sh))→Nat→Fr→AT ps→Fr
 | [],_,fr,_=>fr
 | (m,s) :: ps,i,fr,x =>
  let q:=Ab (match m with | .mv=>.own | .io=>mi | _=>.ro) s x.1 fr.rw.length
  let rw:=fr.rw++q.2.map some
  match m with
  | .cap=>Ag mi ps (i+1) { nt:=fr.nt,sl:=ins fr.sl i (.l (.box fr.bx.length 0)),bx:=fr.bx++[some ⟨false,q.1⟩],rw:=rw } x.2
  | _=>Ag mi ps (i+1) { fr with sl:=ins fr.sl i (.v s.agg q.1),rw:=rw } x.2
def LS:PM×Sh→Bool
 | (.ro,s)=>s.data||(match s with | .fn1 _ _ | .fn2 _ _ _=>true | _=>false)
 | (_,s)=>s.data
def Ahl (E:Env) (fr:Fr) (s:Sh):ResultVar→Option (List Lf)
 | .tmp t=>match lkp fr.sl t with
  | some (.v ag cs)=>bif s.agg==ag then some cs else none
  | _=>none
 | .cell t ty=>match lkp fr.sl t,lkp E.ty ty with
  | some (.v false [.box i 0]),some tt=>bif decide (tt.sh=s) then (match at? fr.bx i with | some b=>bif Bv b.cs&&Nat.beq b.cs.length s.n then some b.cs else none | none=>none) else none
  | _,_=>none
def FA (E:Env) (fr:Fr):List ResultVar→(rs:List Sh)→List (Option Ad)→Option (RT rs×List (Option Ad))
 | [],[],rw=>some ((),rw)
 | r :: l,s :: m,rw=>match Ahl E fr s r with
  | some cs=>match take (fun m=>m==.own) none s cs rw with
   | some (x,[],rw1)=>match FA E fr l m rw1 with
    | some (y,rw2)=>some (RT.mk x y,rw2)
    | none=>none
   | _=>none
  | none=>none
 | _,_,_=>none
def Bs:Sh→Nat
 | .list _ _=>1
 | .cons a b=>Bs a+Bs b
 | _=>0
def JD (rw:List (Option Ad)):(s:Sh)→Nat→s.T→Option s.T
 | .list e s,n,_=>match at? rw n with
  | some q=>if q.e=e then (bif q.m==.io then (if h:q.s=s then some (Ey h q.xs) else none) else none) else none
  | none=>none
 | .cons a b,n,x=>match JD rw a n x.1,JD rw b (n+Bs a) x.2 with | some x,some y=>some (x,y) | _,_=>none
 | .int _,_,x=>some x
 | .bool,_,x=>some x
 | .str,_,x=>some x
 | .fn1 _ _,_,_=>none
 | .fn2 _ _ _,_,_=>none
def NP (rw:List (Option Ad)):(ps:List (PM×Sh))→Nat→(rs:List Sh)→AT ps→RT rs→Option (RT (BO ps++rs))
 | [],_,_,_,y=>some y
 | (.io,s) :: ps,n,rs,x,y=>match JD rw s n x.1,NP rw ps (n+Bs s) rs x.2 y with
   | some x,some z=>some (RT.mk (l:=BO ps++rs) x z)
   | _,_=>none
 | (.ro,s) :: ps,n,rs,x,y=>NP rw ps (n+Bs s) rs x.2 y
 | (.mv,s) :: ps,n,rs,x,y=>NP rw ps (n+Bs s) rs x.2 y
 | (.cap,s) :: ps,n,rs,x,y=>NP rw ps (n+Bs s) rs x.2 y
def ST (E:Env) (f:Func) (ps:List (PM×Sh)) (rs:List Sh) (x:AT ps):Option (RT (BO ps++rs)) :=
 bif Nat.ble ps.length f.ntmps&&ps.all LS then (match f.body with
 | some c =>
  let fr:=Ag .io ps 0 ⟨f.ntmps,[],[],[]⟩ x
  D9 E fr.rw.length c fr fun e fr=>match e with
  | .ret | .normal=>match FA E fr f.results.toList rs fr.rw with
   | some (y,rw)=>NP rw ps 0 rs x y
   | none=>none
  | .exit _=>none
 | none=>none) else none
def Fo (ps:List (PM×Sh)):Bool:=ps.all fun p=>p.1==.ro&&LS p
def frP (nt e:Nat) (s r:Sh) (ps:List (PM×Sh)) (x:(List s.T×r.T)×AT ps):Fr:=Ag .own ps 1 ⟨nt,[(0,.l (.box 0 0))],[some ⟨true,.row 0 :: (Ab .own r x.1.2 0).1⟩],[some ⟨e,s,x.1.1,.ro⟩]⟩ x.2
def At8 (fr:Fr) (r:Sh):Option r.T :=
 match at? fr.bx 0 with
 | some b=>(match b.cs with
  | .row 0 :: cs=>bif b.own then whole (AA fr.rw r cs) else none
  | _=>none)
 | none=>none
def Jd (E:Env) (f:Func) (r:Sh) (rs:List Sh):Ex→Fr→Option (RT (r :: rs)):=fun e fr=>match e with
 | .ret | .normal=>(match FA E fr f.results.toList rs fr.rw,At8 fr r with
  | some (y,_),some z=>some (RT.mk z y)
  | _,_=>none)
 | .exit _=>none
def YI (E:Env) (f:Func) (e:Nat) (s r:Sh) (ps:List (PM×Sh)) (rs:List Sh) (x:(List s.T×r.T)×AT ps):Option (RT (r :: rs)) :=
 bif Nat.ble (ps.length+1) f.ntmps&&Fo ps&&r.flat&&s.data then (match f.body with
 | some c=>D9 E (frP f.ntmps e s r ps x).rw.length c (frP f.ntmps e s r ps x) (Jd E f r rs)
 | none=>none) else none
def frN (nt e:Nat) (s:Sh) (ps:List (PM×Sh)) (x:List s.T×AT ps):Fr:=Ag .own ps 1 ⟨nt,[(0,.l (.row 0))],[],[some ⟨e,s,x.1,.ro⟩]⟩ x.2
def At9 (fr:Fr) (r:Sh):List ResultVar→Option r.T
 | [.tmp t]=>(match lkp fr.sl t with
  | some (.v false [.box i 0])=>(match at? fr.bx i with
   | some b=>(match b.cs with
    | .row 0 :: cs=>bif b.own then whole (AA fr.rw r cs) else none
    | _=>none)
   | none=>none)
  | _=>none)
 | _=>none
def Aua (f:Func) (r:Sh):Ex→Fr→Option (RT [r]):=fun e fr=>match e with
 | .ret | .normal=>At9 fr r f.results.toList
 | .exit _=>none
def Ae5 (E:Env) (f:Func) (e:Nat) (s r:Sh) (ps:List (PM×Sh)) (x:List s.T×AT ps):Option (RT [r]) :=
 bif Nat.ble (ps.length+1) f.ntmps&&Fo ps&&r.flat&&s.data then (match f.body with
 | some c=>D9 E (frN f.ntmps e s ps x).rw.length c (frN f.ntmps e s ps x) (Aua f r)
 | none=>none) else none
def frQ (nt:Nat) (c:Sh) (ps:List (PM×Sh)) (x:c.T×AT ps):Fr:=Ag .own ps 1 ⟨nt,[(0,.l (.box 0 0))],[some ⟨true,(Ab .own c x.1 0).1⟩],(Ab .own c x.1 0).2.map some⟩ x.2
def Ani (E:Env) (f:Func) (c:Sh) (rs:List Sh):Ex→Fr→Option (RT (c :: rs)):=fun e fr=>match e with
 | .ret | .normal=>(match at? fr.bx 0 with
  | some b=>bif b.own&&Bv b.cs then (match take (fun m=>m==.own) none c b.cs fr.rw with
   | some (z,[],rw1)=>(match FA E fr f.results.toList rs rw1 with
    | some (y,_)=>some (RT.mk z y)
    | none=>none)
   | _=>none) else none
  | none=>none)
 | .exit _=>none
def Aub (E:Env) (f:Func) (c:Sh) (ps:List (PM×Sh)) (rs:List Sh) (x:c.T×AT ps):Option (RT (c :: rs)) :=
 bif Nat.ble (ps.length+1) f.ntmps&&Fo ps&&(c.data&&c.agg) then (match f.body with
 | some code=>D9 E (frQ f.ntmps c ps x).rw.length code (frQ f.ntmps c ps x) (Ani E f c rs)
 | none=>none) else none
def Ahm (E:Env) (f:Func) (c:Sh) (rs:List Sh):Ex→Fr→Option (Option c.T×RT rs):=fun e fr=>match e with
 | .ret | .normal=>(match f.results.toList with
  | .tmp t :: l=>(match lkp fr.sl t with
   | some (.v false [.box i 0])=>(match at? fr.bx i with
    | some b=>bif b.own&&Bv b.cs then (match take (fun m=>m==.own) none c b.cs fr.rw with
     | some (z,[],rw1)=>(match FA E fr l rs rw1 with
      | some (y,_)=>some (some z,y)
      | none=>none)
     | _=>none) else none
    | none=>none)
   | some (.v false [.und])=>(match FA E fr l rs fr.rw with
    | some (y,_)=>some (none,y)
    | none=>none)
   | _=>none)
  | _=>none)
 | .exit _=>none
def Ae6 (E:Env) (f:Func) (c:Sh) (ps:List (PM×Sh)) (rs:List Sh) (x:AT ps):Option (Option c.T×RT rs) :=
 bif Nat.ble ps.length f.ntmps&&Fo ps&&(c.data&&c.agg) then (match f.body with
 | some code=>D9 E (Ag .own ps 0 ⟨f.ntmps,[],[],[]⟩ x).rw.length code (Ag .own ps 0 ⟨f.ntmps,[],[],[]⟩ x) (Ahm E f c rs)
 | none=>none) else none
def Ahn (E:Env) (f:Func) (c:Sh) (rs:List Sh):Ex→Fr→Option (Option c.T×RT rs):=fun e fr=>match e with
 | .ret | .normal=>(match f.results.toList with
  | r :: l=>(match Ahl E fr c r with
   | some cs=>bif Nat.beq cs.length c.n then (match take (fun m=>m==.own) none c cs fr.rw with
    | some (z,[],rw1)=>(match FA E fr l rs rw1 with
     | some (y,_)=>some (some z,y)
     | none=>none)
    | _=>(match FA E fr l rs fr.rw with
     | some (y,_)=>some (none,y)
     | none=>none)) else none
   | none=>none)
  | _=>none)
 | .exit _=>none
def Ae7 (E:Env) (f:Func) (c:Sh) (ps:List (PM×Sh)) (rs:List Sh) (x:AT ps):Option (Option c.T×RT rs) :=
 bif Nat.ble ps.length f.ntmps&&Fo ps&&(c.data&&c.agg) then (match f.body with
 | some code=>D9 E (Ag .own ps 0 ⟨f.ntmps,[],[],[]⟩ x).rw.length code (Ag .own ps 0 ⟨f.ntmps,[],[],[]⟩ x) (Ahn E f c rs)
 | none=>none) else none
end Go.Proofs.YtkemdhpdfaejgaaGreatDoor.X
