/- The law FnExactOpenOrbits holds of the program for every input. There is no condition. -/
import Derived.Test.YteheolldcpjkcaaGreatQtS0
import Derived.Test.YteheolldcpjkcaaGreatRows
import Derived.Test.YteheolldcpjkcaaGreatQzXRow
import Derived.Test.YteheolldcpjkcaaGreatQtPOpenOrbits
namespace Go.Proofs.YteheolldcpjkcaaGreat.fnExactOpenOrbits
open Go Go.ChangeShapes Go.WideShapes Go.ChangeAt Go.RowKit
attribute [local instance] X.cwD
theorem own:ownKnob Tryz.prog.godebug=none:=by kernel_rfl
theorem TO:laidOutB Tryz.prog=true:=by kernel_rfl
abbrev shs:List X.Sh:=[(.int .i64),(.cons (.int .i64) (.cons (.int .i64) (.int .i64))),(.list 96 (.cons (.cons (.int .i64) (.cons (.int .i64) (.cons (.int .i64) (.int .i64)))) (.cons (.int .i64) (.int .i64)))),(.list 135 (.cons (.cons (.int .i64) (.int .i64)) (.int .i64)))]
set_option maxRecDepth 100000 in
theorem Aeu (os:Os) (started:os.Started) (H:Type) (enc:TypeId×Value→H) :
    ReturnsInHanded {} Tryz.checked os 5 .any (Rows.fnExactOpenOrbitsSpec.pre6 enc Tryz.prog Tryz.f5 Rows.fnExactOpenOrbitsRow.domain false) (Rows.fnExactOpenOrbitsSpec.post enc Tryz.prog Tryz.f5 false true false false):=by
  refine returnsInHanded_of_change_sized (C:=Tryz.checked) own started (by kernel_rfl) Tryz.func5
    (ChangeSpec.witness6 (enc:=enc) (C:=Tryz.checked) false ⟨#[],#[.int .i64 0,.agg #[.int .i64 0,.int .i64 0,.int .i64 0],.slice none 0 0,.slice none 0 0],[]⟩ 8 (by kernel_rfl) (by kernel_rfl) (by kernel_rfl) (by kernel_rfl)) ?_
  intro W base args ds gs before hval0 hW hcnd hsz0 _;have hval:∀ (j:Nat) t v,Tryz.f5.params[j]? = some t→args[j]? = some v→Value.okWide Tryz.prog W .any base t v:=hval0;have hW':=hW;obtain⟨p,q,hA0,hV,rfl,hfz,hnd⟩:=hW;have hA:DataW.TrodAll enc Tryz.prog W 0 (fun _=>true) true Tryz.f5.params.toList args.toList ds p:=hA0;rw[Tryz.params5] at hA hval;obtain⟨rfl,rfl⟩:=trodVars_none hV;obtain⟨x,hX,hwf⟩:=X.Uy [2,23,24,60] shs args.toList ds p (by kernel_rfl) (fun j t v ht hv=>hval j t v (by simpa using ht) (by simpa using hv)) hA
  have hlt:=X.Zo _ _ _ _ hA;have hback:=fun {W'} (bel:Below W.heap.size W W')=>X.Qi TO bel [2,23,24,60] args.toList ds p (by kernel_rfl) hlt hA
  obtain⟨K,hK⟩:=X.Ee x.1 x.2.1 x.2.2.1 x.2.2.2.1 hwf;have hTabs:X.FJ W:=⟨X.Ajx _,trivial⟩;have hcall:=X.VK hTabs (P:=Tryz.prog) (f:=5) (ss:=shs) (F:=fun x=>X.f5G K x.1 x.2.1 x.2.2.1 x.2.2.2.1) (X.AhF K) rfl hX hK;rw[X.AiO] at hcall;obtain⟨v0,vs0,d0,ds0,p0,q0,hargs,rfl,rfl,h0,r0⟩:=trodAll_cons hA;obtain⟨v1,vs1,d1,ds1,p1,q1,rfl,rfl,rfl,h1,r1⟩:=trodAll_cons r0;obtain⟨v2,vs2,d2,ds2,p2,q2,rfl,rfl,rfl,h2,r2⟩:=trodAll_cons r1;obtain⟨v3,vs3,d3,ds3,p3,q3,rfl,rfl,rfl,h3,r3⟩:=trodAll_cons r2;obtain⟨rfl,rfl,rfl⟩:=trodAll_nil r3;refine hcall.mono fun e W' ⟨he,bel⟩=>?_;subst he;exact⟨_,rfl,_,_,_,[],_,[],hW',trodAll_mk1 (shut_bool Tryz.underlying4 _),hback bel,rfl,bel.frame _,fun h=>by cases h⟩
theorem j1:(Rows.fnExactOpenOrbitsRow.inPlace==Tryz.prog.inPlace 5)=true:=by kernel_rfl
theorem j2:(Rows.fnExactOpenOrbitsRow.unfollowed==Tryz.prog.unfollowed 5)=true:=by kernel_rfl
theorem j3:(Rows.fnExactOpenOrbitsRow.recurses==Tryz.prog.recurses 5)=true:=by kernel_rfl
theorem j4:(Rows.fnExactOpenOrbitsRow.named==Tryz.prog.varsNamed 5)=true:=by kernel_rfl
theorem j5:mapsRowed Tryz.prog=true:=by kernel_rfl
theorem j6:Tryz.prog.funcNamed Rows.fnExactOpenOrbitsRow.func=some 5:=by kernel_rfl
theorem Aev:joinedFacts Tryz.prog 5 Tryz.f5 Rows.fnExactOpenOrbitsSpec Rows.fnExactOpenOrbitsRow=true:=by
  unfold joinedFacts;rw[TO,j1,j2,j3,j4,j5]
  kernel_rfl
theorem over:Rows.fnExactOpenOrbitsRow.holds Tryz.pinned (OpenSpec.ofChange Rows.fnExactOpenOrbitsSpec) :=
  OpenClaim.holds_of_wide 5 Tryz.f5 rfl rfl rfl rfl rfl rfl rfl ⟨rfl,rfl,rfl,rfl,rfl⟩ rfl rfl rfl rfl rfl j6 Tryz.func5 Aev
    (of_decide_eq_true (by kernel_rfl)) (by unfold Func.isWrapper;first | (rw[if_pos (by decide +kernel)];kernel_rfl) | (rw[if_neg (by decide +kernel)];exact⟨rfl,rfl⟩))
    (fun os started H enc _=>Aeu os started H enc)
end Go.Proofs.YteheolldcpjkcaaGreat.fnExactOpenOrbits
namespace Go.Proofs.YteheolldcpjkcaaGreat
theorem fnExactOpenOrbits_holds:Rows.FnExactOpenOrbitsSaid:=fnExactOpenOrbits.over
#print axioms fnExactOpenOrbits_holds
end Go.Proofs.YteheolldcpjkcaaGreat

