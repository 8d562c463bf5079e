/- The law FnPrograms holds of the program for every input. There is no condition. -/
import Derived.Deep.DeepHandedRow
import Derived.Deep.DeepLaidRun
import Derived.Stop.LaidErr
import Derived.Shelf.Vars
import Derived.Lib.LaidTab
import Derived.MakeChecks
import Derived.Test.YtkemdhpdfaejgaaGreatDoorCards
import Derived.Test.YtkemdhpdfaejgaaGreatDoorTie
import Derived.WalkKit
import Derived.ProofKit
import Derived.OpenShut
import Derived.Test.YtkemdhpdfaejgaaGreatDoorQtS0
import Derived.Test.YtkemdhpdfaejgaaGreatDoorRows
import Derived.Test.YtkemdhpdfaejgaaGreatDoorQzXRow
import Derived.Test.YtkemdhpdfaejgaaGreatDoorQtPPrograms
namespace Go.Proofs.YtkemdhpdfaejgaaGreatDoor.fnPrograms
open Go Go.ChangeShapes Go.WideShapes Go.ChangeAt Go.RowKit
theorem own:ownKnob Tryz.prog.godebug=none:=by kernel_rfl
theorem Adp:laidOutB Tryz.prog=true:=by kernel_rfl
set_option maxRecDepth 100000
attribute [local instance] X.cwZ
abbrev shs:List X.Sh:=[(.list 5 (.int .u8))]
theorem WR {P:Program} {W:World} {n:String} {g:Nat} {cs:Array Value} (hg:P.globalNamed n=some g) (h:W.var? P n=some cs):∃ t z,W.heap[g]? = some (.cells cs t z):=by
  unfold World.var? at h;simp only[hg,X.ACb] at h;split at h
  · rename_i cs' t z e
    cases h;exact⟨t,z,e⟩
  · cases h
theorem Ay1 : "*" ++ "errors.errorString" = "*errors.errorString" := by decide
theorem AjM (u:TypeId) (h:Tryz.prog.typeName? 3 u=some "*errors.errorString"):u=308 :=
  typeName_ptr_named (nm := "errors.errorString") (by rw[Ay1];kernel_rfl) (by kernel_rfl) (by decide) u (by rw[Ay1];exact h)
theorem Ao1 {W:World} (hL:laidMetH Tryz.prog Rows.fnProgramsRow.laid W) (hShaped:W.ShapedOpen Tryz.prog):X.Dq W:=by
  have hM:laidMet Tryz.prog Rows.fnProgramsRow.laid W:=(MakeChecks.laidMetH_plain _ _ _ (by kernel_rfl))▸hL
  refine⟨?_,?_,?_,?_,?_⟩
  · obtain⟨cs,hh,_⟩:=hShaped.1 7 _ _ (of_decide_eq_true (by kernel_rfl)) rfl
    rcases X.ABK 7 W.heap.size with h | h
    · exact h
    · rw[Array.getElem?_eq_none h] at hh;cases hh
  · have hv:Lib.TabIs Tryz.prog W "internal/strconv.uint64pow10" .u64 Lib.pow10Tab:=Lib.tabIs_of_head (g:=1) (t:=273) (e:=232) (n:=20) (by kernel_rfl) (by kernel_rfl) (by kernel_rfl) (by kernel_rfl) (by kernel_rfl) (by kernel_rfl) (hM.tail.tail)
    exact WR (by kernel_rfl) hv
  · exact Go.Proofs.cell_of_shapedOpen_int (P:=Tryz.prog) (g:=0) (t:=3) (zero:=#[.int .i64 0]) hShaped (of_decide_eq_true (by kernel_rfl)) (by kernel_rfl) rfl (by kernel_rfl) (by kernel_rfl) Tryz.underlying3
  · obtain⟨a,s,hv,_⟩:=laid_sentinel (g:=6) (ti:=238) (tp:=308) (te:=310) (ts:=9) (hM.tail.tail.tail.tail.tail) (by kernel_rfl) (by kernel_rfl) Tryz.underlying238 AjM Tryz.underlying308 Tryz.underlying310 rfl rfl (by kernel_rfl) (by kernel_rfl) (by kernel_rfl)
    exact⟨_,_,by simpa using World.var?_cell (show Tryz.prog.globalNamed "strconv.ErrSyntax" = some 6 by kernel_rfl) hv 0⟩
  · obtain⟨a,s,hv,_⟩:=laid_sentinel (g:=7) (ti:=238) (tp:=308) (te:=310) (ts:=9) (hM.tail.tail.tail.tail) (by kernel_rfl) (by kernel_rfl) Tryz.underlying238 AjM Tryz.underlying308 Tryz.underlying310 rfl rfl (by kernel_rfl) (by kernel_rfl) (by kernel_rfl)
    exact⟨_,_,by simpa using World.var?_cell (show Tryz.prog.globalNamed "strconv.ErrRange" = some 7 by kernel_rfl) hv 0⟩
noncomputable def low:Nat:=(World.holding Tryz.prog default ⟨#[],#[],[]⟩).heap.size
/-- a world in which the listed variables are laid -/
noncomputable def FJ (os:Os):World :=
  let w0:=World.holding Tryz.prog os ⟨#[.cells #[.string { data:=#[118,97,108,117,101,32,111,117,116,32,111,102,32,114,97,110,103,101] }] 310,.cells #[.string { data:=#[105,110,118,97,108,105,100,32,115,121,110,116,97,120] }] 310],#[],[]⟩
  { w0 with heap:=(((((((w0.heap.modify 4 (fun | .cells _ t z=>.cells #[.int .u8 0,.int .u8 1,.int .u8 28,.int .u8 2,.int .u8 29,.int .u8 14,.int .u8 24,.int .u8 3,.int .u8 30,.int .u8 22,.int .u8 20,.int .u8 15,.int .u8 25,.int .u8 17,.int .u8 4,.int .u8 8,.int .u8 31,.int .u8 27,.int .u8 13,.int .u8 23,.int .u8 21,.int .u8 19,.int .u8 16,.int .u8 7,.int .u8 26,.int .u8 12,.int .u8 18,.int .u8 6,.int .u8 11,.int .u8 5,.int .u8 10,.int .u8 9] t z | o=>o)).modify 5 (fun | .cells _ t z=>.cells #[.int .u8 0,.int .u8 1,.int .u8 56,.int .u8 2,.int .u8 57,.int .u8 49,.int .u8 28,.int .u8 3,.int .u8 61,.int .u8 58,.int .u8 42,.int .u8 50,.int .u8 38,.int .u8 29,.int .u8 17,.int .u8 4,.int .u8 62,.int .u8 47,.int .u8 59,.int .u8 36,.int .u8 45,.int .u8 43,.int .u8 51,.int .u8 22,.int .u8 53,.int .u8 39,.int .u8 33,.int .u8 30,.int .u8 24,.int .u8 18,.int .u8 12,.int .u8 5,.int .u8 63,.int .u8 55,.int .u8 48,.int .u8 27,.int .u8 60,.int .u8 41,.int .u8 37,.int .u8 16,.int .u8 46,.int .u8 35,.int .u8 44,.int .u8 21,.int .u8 52,.int .u8 32,.int .u8 23,.int .u8 11,.int .u8 54,.int .u8 26,.int .u8 40,.int .u8 15,.int .u8 34,.int .u8 20,.int .u8 31,.int .u8 10,.int .u8 25,.int .u8 14,.int .u8 19,.int .u8 9,.int .u8 13,.int .u8 8,.int .u8 7,.int .u8 6] t z | o=>o)).modify 1 (fun | .cells _ t z=>.cells #[.int .u64 1,.int .u64 10,.int .u64 100,.int .u64 1000,.int .u64 10000,.int .u64 100000,.int .u64 1000000,.int .u64 10000000,.int .u64 100000000,.int .u64 1000000000,.int .u64 10000000000,.int .u64 100000000000,.int .u64 1000000000000,.int .u64 10000000000000,.int .u64 100000000000000,.int .u64 1000000000000000,.int .u64 10000000000000000,.int .u64 100000000000000000,.int .u64 1000000000000000000,.int .u64 10000000000000000000] t z | o=>o)).modify 3 (fun | .cells _ t z=>.cells #[.int .u8 128,.int .u8 191,.int .u8 160,.int .u8 191,.int .u8 128,.int .u8 159,.int .u8 144,.int .u8 191,.int .u8 128,.int .u8 143,.int .u8 0,.int .u8 0,.int .u8 0,.int .u8 0,.int .u8 0,.int .u8 0,.int .u8 0,.int .u8 0,.int .u8 0,.int .u8 0,.int .u8 0,.int .u8 0,.int .u8 0,.int .u8 0,.int .u8 0,.int .u8 0,.int .u8 0,.int .u8 0,.int .u8 0,.int .u8 0,.int .u8 0,.int .u8 0] t z | o=>o)).modify 7 (fun | .cells _ t z=>.cells #[.iface 308 (.pointer (some ⟨low,0,none⟩))] t z | o=>o)).modify 6 (fun | .cells _ t z=>.cells #[.iface 308 (.pointer (some ⟨low+1,0,none⟩))] t z | o=>o)).modify 2 (fun | .cells _ t z=>.cells (Go.Pinned.utf8FirstZ.map fun (n:Nat)=>Value.int .u8 n).toArray t z | o=>o)) }
theorem AjN (os:Os):laidMet Tryz.prog Rows.fnProgramsRow.laid ((FJ os).forCall (fun _ _=>0) ⟨#[],#[.slice none 0 0],[]⟩).memory :=
  laidMet_of_run3 8 (by kernel_rfl) (by kernel_rfl) (by kernel_rfl)
theorem AfC (os:Os):laidMetH Tryz.prog Rows.fnProgramsRow.laid ((FJ os).forCall (fun _ _=>0) ⟨#[],#[.slice none 0 0],[]⟩).memory :=
  (MakeChecks.laidMetH_plain _ _ _ (by kernel_rfl)).symm▸AjN os
theorem reads (os:Os) {H:Type} (enc:TypeId×Value→H):∃ x,DataW.whole enc Tryz.prog ((FJ os).forCall (fun _ _=>0) ⟨#[],#[.slice none 0 0],[]⟩).memory Tryz.f3.params.toList Rows.fnProgramsSpec.vars false (#[.slice none 0 0]:Array Value).toList 8=some x:=by
  have h:(DataW.whole enc Tryz.prog ((FJ os).forCall (fun _ _=>0) ⟨#[],#[.slice none 0 0],[]⟩).memory Tryz.f3.params.toList Rows.fnProgramsSpec.vars false (#[.slice none 0 0]:Array Value).toList 8).isSome=true:=by kernel_rfl
  exact X.AD5.1 h
set_option maxRecDepth 100000 in
theorem AuR (os:Os) (started:os.Started) (H:Type) (enc:TypeId×Value→H) (F:Stop.Interp) :
    ReturnsInHanded {} Tryz.checked os 3 .any ((OpenSpec.ofChange Rows.fnProgramsSpec).preRow enc Tryz.prog Tryz.f3 Rows.fnProgramsRow.domain false Rows.fnProgramsRow.laid) (((OpenSpec.ofChange Rows.fnProgramsSpec).at F).post enc Tryz.prog Tryz.f3 false true false false):=by
  obtain⟨x0,hx⟩:=reads os enc;refine returnsInHanded_of_row (C:=Tryz.checked) (s:=OpenSpec.ofChange Rows.fnProgramsSpec) own started (by kernel_rfl) Tryz.func3
    (witness_row_at (enc:=enc) (C:=Tryz.checked) false (FJ os) #[.slice none 0 0] rfl (by kernel_rfl) (by kernel_rfl) (by kernel_rfl)
      (OpenSpec.preRow_of_cond 8 hx rfl (fun k hk=>by cases hk) (by kernel_rfl) (AfC os))) ?_
  intro W base args ds gs before hval0 hW hcnd _ hsz0 hL hShaped _;have hval:∀ (j:Nat) t v,Tryz.f3.params[j]? = some t→args[j]? = some v→Value.okWide Tryz.prog W .any base t v:=hval0;have hW':=hW;obtain⟨p,q,hA0,hV,rfl,hfz,hnd⟩:=hW;have hA:DataW.TrodAll enc Tryz.prog W 0 (fun _=>true) true Tryz.f3.params.toList args.toList ds p:=hA0;rw[Tryz.params3] at hA hval;obtain⟨rfl,rfl⟩:=trodVars_none hV;obtain⟨x,hX,hwf⟩:=X.AeY [22] shs args.toList ds p (by kernel_rfl) (fun j t v ht hv=>hval j t v (by simpa using ht) (by simpa using hv)) hA
  have hlt:=X.Am1 _ _ _ _ hA;have hback:=fun {W'} (bel:Below W.heap.size W W')=>X.Yk Adp bel [22] args.toList ds p (by kernel_rfl) hlt hA
  obtain⟨K,hK⟩:=X.Mv x.1 hwf;have hTabs:X.Dq W:=Ao1 hL hShaped;have hcall:=X.Ag0 hTabs (P:=Tryz.prog) (f:=3) (ss:=shs) (F:=fun x=>X.f3G K x.1) (X.Azk K) rfl hX hK;rw[X.ABk] at hcall;obtain⟨v0,vs0,d0,ds0,p0,q0,hargs,rfl,rfl,h0,r0⟩:=trodAll_cons hA;obtain⟨rfl,rfl,rfl⟩:=trodAll_nil r0;refine hcall.mono fun e W' ⟨he,bel⟩=>?_;subst he;exact⟨_,rfl,_,_,_,[],_,[],hW',trodAll_mk1 (shut_bool Tryz.underlying4 _),hback bel,rfl,bel.frame _,fun h=>by cases h⟩
theorem j1:(Rows.fnProgramsRow.inPlace==Tryz.prog.inPlace 3)=true:=by kernel_rfl
theorem j2:(Rows.fnProgramsRow.unfollowed==Tryz.prog.unfollowed 3)=true:=by kernel_rfl
theorem j3:(Rows.fnProgramsRow.recurses==Tryz.prog.recurses 3)=true:=by kernel_rfl
theorem j4:(Rows.fnProgramsRow.named==Tryz.prog.varsNamed 3)=true:=by kernel_rfl
theorem j5:mapsRowed Tryz.prog=true:=by kernel_rfl
theorem j6:Tryz.prog.funcNamed Rows.fnProgramsRow.func=some 3:=by kernel_rfl
theorem closed:joinedFacts Tryz.prog 3 Tryz.f3 Rows.fnProgramsSpec Rows.fnProgramsRow=true:=by
  unfold joinedFacts;rw[Adp,j1,j2,j3,j4,j5]
  kernel_rfl
theorem over:Rows.fnProgramsRow.holds Tryz.pinned (OpenSpec.ofChange Rows.fnProgramsSpec) :=
  OpenClaim.holds_of_cond 3 Tryz.f3 rfl rfl rfl rfl rfl rfl rfl ⟨rfl,rfl,rfl,rfl,rfl⟩ rfl rfl rfl rfl rfl j6 Tryz.func3 closed
    (of_decide_eq_true (by kernel_rfl)) (by unfold Func.isWrapper;first | (rw[if_pos (by decide +kernel)];kernel_rfl) | (rw[if_neg (by decide +kernel)];exact⟨rfl,rfl⟩))
    (fun os started H enc _ F=>by rw[OpenClaim.pre_eq_preRow];exact AuR os started H enc F)
theorem plain (f:FuncId) (fn:Func) (hf:Tryz.pinned.checked.prog.funcNamed "loop.example/g00943/laws.FnPrograms" = some f) (hfn:Tryz.pinned.checked.prog.funcs[f]? = some fn) :
    true=Tryz.pinned.checked.prog.looks []∧∀ (j:Nat) t,fn.params[j]? = some t→Tryz.pinned.checked.prog.wantsStandIn t=false:=by
  obtain rfl:f=3:=Option.some.inj ((show Tryz.prog.funcNamed "loop.example/g00943/laws.FnPrograms" = some 3 by kernel_rfl).symm.trans hf) |>.symm
  obtain rfl:fn=Tryz.f3:=(Option.some.inj (Tryz.func3.symm.trans hfn)).symm;refine⟨by kernel_rfl,fun j t ht=>?_⟩
  rw[Tryz.params3] at ht;have h:=Array.mem_of_getElem? ht;have hall:([22]:List Nat).all (fun t=>!Tryz.prog.wantsStandIn t)=true:=by kernel_rfl
  have:=X.AA3.1 hall t (by simpa using h)
  exact (by simpa using this:Tryz.prog.wantsStandIn t=false)
theorem card:Rows.FnProgramsCardSaid :=
  Claim7.holds_tied_plain_at .later [] _ _ _ _ over (fun _ h=>by cases h) (by kernel_rfl) (fun _ h=>by cases h) fnPrograms_row_tie rfl ⟨rfl,rfl⟩ (by kernel_rfl) rfl plain (by kernel_rfl)
end Go.Proofs.YtkemdhpdfaejgaaGreatDoor.fnPrograms
namespace Go.Proofs.YtkemdhpdfaejgaaGreatDoor
theorem fnPrograms_holds:Rows.FnProgramsCardSaid:=fnPrograms.card
#print axioms fnPrograms_holds
end Go.Proofs.YtkemdhpdfaejgaaGreatDoor

