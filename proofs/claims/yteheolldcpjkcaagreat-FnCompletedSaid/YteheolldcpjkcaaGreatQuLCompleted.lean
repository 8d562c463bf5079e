/- The law FnCompleted holds of the program for every input. There is no condition. -/
import Derived.Test.YteheolldcpjkcaaGreatQuS0
import Derived.Test.YteheolldcpjkcaaGreatRows
import Derived.Test.YteheolldcpjkcaaGreatQvXRow
import Derived.Test.YteheolldcpjkcaaGreatQuPCompleted
namespace Go.Proofs.YteheolldcpjkcaaGreat.fnCompleted
open Go Go.ChangeShapes Go.WideShapes Go.ChangeAt Go.RowKit
attribute [local instance] X.cwD
theorem own:ownKnob Tryz.prog.godebug=none:=by kernel_rfl
theorem YM:laidOutB Tryz.prog=true:=by kernel_rfl
abbrev shs:List X.Sh:=[(.list 5 (.int .u8))]
set_option maxRecDepth 100000 in
theorem Al5 (os:Os) (started:os.Started) (H:Type) (enc:TypeId×Value→H) :
    ReturnsInHanded {} Tryz.checked os 6 .any (Rows.fnCompletedSpec.pre6 enc Tryz.prog Tryz.f6 Rows.fnCompletedRow.domain false) (Rows.fnCompletedSpec.post enc Tryz.prog Tryz.f6 false true false false):=by
  refine returnsInHanded_of_change_sized (C:=Tryz.checked) own started (by kernel_rfl) Tryz.func6
    (ChangeSpec.witness6 (enc:=enc) (C:=Tryz.checked) false ⟨#[],#[.slice none 0 0],[]⟩ 8 (by kernel_rfl) (by kernel_rfl) (by kernel_rfl) (by kernel_rfl)) ?_
  intro W base args ds gs before hval0 hW hcnd hsz0 _;have hval:∀ (j:Nat) t v,Tryz.f6.params[j]? = some t→args[j]? = some v→Value.okWide Tryz.prog W .any base t v:=hval0;have hW':=hW;obtain⟨p,q,hA0,hV,rfl,hfz,hnd⟩:=hW;have hA:DataW.TrodAll enc Tryz.prog W 0 (fun _=>true) true Tryz.f6.params.toList args.toList ds p:=hA0;rw[Tryz.params6] at hA hval;obtain⟨rfl,rfl⟩:=trodVars_none hV;obtain⟨x,hX,hwf⟩:=X.ZT [38] shs args.toList ds p (by kernel_rfl) (fun j t v ht hv=>hval j t v (by simpa using ht) (by simpa using hv)) hA
  have hlt:=X.Af1 _ _ _ _ hA;have hback:=fun {W'} (bel:Below W.heap.size W W')=>X.Uu YM bel [38] args.toList ds p (by kernel_rfl) hlt hA
  obtain⟨K,hK⟩:=X.JO x.1 hwf;have hTabs:X.Hv W:=⟨X.Ari _,trivial⟩;have hcall:=X.Abp hTabs (P:=Tryz.prog) (f:=6) (ss:=shs) (F:=fun x=>X.f6G K x.1) (X.Apa K) rfl hX hK;rw[X.Aqw] at hcall;obtain⟨v0,vs0,d0,ds0,p0,q0,hargs,rfl,rfl,h0,r0⟩:=trodAll_cons hA;obtain⟨rfl,rfl,rfl⟩:=trodAll_nil r0;refine hcall.mono fun e W' ⟨he,bel⟩=>?_;subst he;exact⟨_,rfl,_,_,_,[],_,[],hW',trodAll_mk1 (shut_bool Tryz.underlying4 _),hback bel,rfl,bel.frame _,fun h=>by cases h⟩
theorem j1:(Rows.fnCompletedRow.inPlace==Tryz.prog.inPlace 6)=true:=by kernel_rfl
theorem j2:(Rows.fnCompletedRow.unfollowed==Tryz.prog.unfollowed 6)=true:=by kernel_rfl
theorem j3:(Rows.fnCompletedRow.recurses==Tryz.prog.recurses 6)=true:=by kernel_rfl
theorem j4:(Rows.fnCompletedRow.named==Tryz.prog.varsNamed 6)=true:=by kernel_rfl
theorem j5:mapsRowed Tryz.prog=true:=by kernel_rfl
theorem j6:Tryz.prog.funcNamed Rows.fnCompletedRow.func=some 6:=by kernel_rfl
theorem Al6:joinedFacts Tryz.prog 6 Tryz.f6 Rows.fnCompletedSpec Rows.fnCompletedRow=true:=by
  unfold joinedFacts;rw[YM,j1,j2,j3,j4,j5]
  kernel_rfl
theorem over:Rows.fnCompletedRow.holds Tryz.pinned (OpenSpec.ofChange Rows.fnCompletedSpec) :=
  OpenClaim.holds_of_wide 6 Tryz.f6 rfl rfl rfl rfl rfl rfl rfl ⟨rfl,rfl,rfl,rfl,rfl⟩ rfl rfl rfl rfl rfl j6 Tryz.func6 Al6
    (of_decide_eq_true (by kernel_rfl)) (by unfold Func.isWrapper;first | (rw[if_pos (by decide +kernel)];kernel_rfl) | (rw[if_neg (by decide +kernel)];exact⟨rfl,rfl⟩))
    (fun os started H enc _=>Al5 os started H enc)
end Go.Proofs.YteheolldcpjkcaaGreat.fnCompleted
namespace Go.Proofs.YteheolldcpjkcaaGreat
theorem fnCompleted_holds:Rows.FnCompletedSaid:=fnCompleted.over
#print axioms fnCompleted_holds
end Go.Proofs.YteheolldcpjkcaaGreat

