/- Functions of the program as plain Lean functions, and that the program does what they say. Printed by gen.py. -/
import Derived.Test.YtkemdhpdfaejgaaGreatDoorQtR0
namespace Go.Proofs.YtkemdhpdfaejgaaGreatDoor.X
open Go
set_option maxRecDepth 100000
attribute [local instance] cwD
set_option linter.unusedVariables false
theorem rk (n:Nat) (h:Ae3 Tryz.prog n=true:=by kernel_rfl):CG Tryz.prog n:=Yw h
abbrev SF [CW] (n:Nat) (m:Mdl):Prop:=Al Tryz.prog n m
theorem aF [CW] {f:Nat} {m:Mdl} {l:List (Nat×Mdl)} (a:Al Tryz.prog f m) (c:Ej Tryz.prog l) (b:Ae3 Tryz.prog f=true:=by kernel_rfl):Ej Tryz.prog ((f,m) :: l):=Ej.cons a (Yw b) c
theorem aN [CW]:Ej Tryz.prog []:=Ej.nil
theorem eO [CW] (E:Env) (a:Ej Tryz.prog E.fs) (h:And Tryz.prog E.ty E.eq E.mt=true:=by exact SU) (p:BR Tryz.prog E.pf:=by exact BR.nil) (n:Jx Tryz.prog E.nf:=by exact Jx.nil) (q:IL Tryz.prog E.qf:=by exact IL.nil) (c:H6 Tryz.prog E.cf:=by exact H6.nil) (v:Fw Tryz.prog E.vf:=by exact Fw.nil) (o:H7 Tryz.prog E.xf:=by exact H7.nil):AF Tryz.prog E:=Ae2 h JE a p n q c v o
theorem sF [CW] {f:Nat} {fn:Func} {ps:List (PM×Sh)} {rs:List Sh} {F:AT ps→Option (RT (BO ps++rs))} (E:Env) (a:Ej Tryz.prog E.fs) (hfn:Tryz.prog.funcs[f]? = some fn) (hF:∀ x,ST E fn ps rs x=F x:=by intro x;kernel_rfl) (h:And Tryz.prog E.ty E.eq E.mt=true:=by exact SU) (p:BR Tryz.prog E.pf:=by exact BR.nil) (n:Jx Tryz.prog E.nf:=by exact Jx.nil) (q:IL Tryz.prog E.qf:=by exact IL.nil) (c:H6 Tryz.prog E.cf:=by exact H6.nil) (v:Fw Tryz.prog E.vf:=by exact Fw.nil) (o:H7 Tryz.prog E.xf:=by exact H7.nil):SF f ⟨ps,rs,F⟩:=BC (Ae2 h JE a p n q c v o) hfn hF
variable (K:Nat)
include K
theorem Aze:SF 4 (f4M K) :=
  sF (f4E K) aN Tryz.func4
theorem Alq:EO Tryz.prog 19 (Auc K) :=
  AgN (eO (Aho K) aN) Tryz.func19 fun x=>Apt K x.1
theorem Ft:B7 Tryz.prog 26 (NZ K) :=
  CD (eO (AzA K) aN) Tryz.func26 fun x=>by kernel_rfl
theorem Z6:B7 Tryz.prog 61 (Ant K) :=
  CD (eO (AzB K) aN (p:=(BR.cons (Ft K) (rk 26) BR.nil))) Tryz.func61 fun x=>by kernel_rfl
theorem AqN:B7 Tryz.prog 115 (AsK K) :=
  CD (eO (Axl K) aN (p:=(BR.cons (Ft K) (rk 26) (BR.cons (Z6 K) (rk 61) BR.nil)))) Tryz.func115 fun x=>by kernel_rfl
theorem AqO:B7 Tryz.prog 116 (AsL K) :=
  CD (eO (Axm K) aN (p:=(BR.cons (Ft K) (rk 26) (BR.cons (Z6 K) (rk 61) BR.nil)))) Tryz.func116 fun x=>by kernel_rfl
theorem AvC:B7 Tryz.prog 59 (Axn K) :=
  CD (eO (AzC K) aN (p:=(BR.cons (Ft K) (rk 26) (BR.cons (AqN K) (rk 115) (BR.cons (AqO K) (rk 116) BR.nil))))) Tryz.func59 fun x=>by kernel_rfl
theorem AdQ:SF 123 (Ahr K) :=
  sF (Axo K) aN Tryz.func123
theorem Ut:SF 125 (Abz K) :=
  sF (Axp K) aN Tryz.func125
theorem Uu:SF 124 (AbA K) :=
  sF (Axq K) (aF (Ut K) aN) Tryz.func124
theorem Uv:SF 70 (Ahs K) :=
  sF (AzD K) (aF (AdQ K) (aF (Uu K) aN)) Tryz.func70
theorem Uw:SF 83 (Aht K) :=
  sF (AzE K) aN Tryz.func83
theorem Z7:SF 52 (Anv K) :=
  sF (AzF K) (aF (Uw K) aN) Tryz.func52
theorem AqP:SF 225 (AsM K) :=
  sF (Axr K) aN Tryz.func225
theorem Ux:SF 106 (AbB K) :=
  sF (Axs K) aN Tryz.func106
theorem AdR:SF 180 (Ahu K) :=
  sF (Axt K) (aF (Ux K) (aF (AqP K) aN)) Tryz.func180
theorem AqQ:SF 138 (AbD K) :=
  sF (QH K) (aF (AdR K) aN) Tryz.func138 fun x=>AkU K x.1
theorem AdS:SF 133 (Ahw K) :=
  sF (Axu K) aN Tryz.func133
theorem Uy:SF 107 (AbF K) :=
  sF (Axv K) aN Tryz.func107
omit K
theorem Xy (K:Nat):∀ n,Al Tryz.prog 175 ⟨[(.ro,sI),(.ro,sI)],[sI],fun x=>LT K n x.1 x.2.1⟩
  | 0=>fun _ _ _ _ _ _ _ _ _ h=>by cases h
  | n+1=>BC (Ae2 (E:=AsN K (LT K n)) SU JE (Ej.cons (Xy K n) (rk 175) Ej.nil) BR.nil Jx.nil IL.nil H6.nil Fw.nil H7.nil) Tryz.func175 fun x=>AkV K (LT K n) x.1 x.2.1
theorem AqR (K:Nat):Al Tryz.prog 175 (AsO K):=Xy K K
include K
theorem AdT:SF 109 (Ahx K) :=
  sF (Axw K) aN Tryz.func109
theorem AqS:SF 176 (AsP K) :=
  sF (Axx K) aN Tryz.func176
theorem AdU:SF 134 (VY K) :=
  sF (JM K) (aF (AdT K) (aF (AqR K) (aF (AqS K) aN))) Tryz.func134 fun x=>AkY K x.1
theorem AdV:SF 139 (AhA K) :=
  sF (Axy K) (aF (Uy K) (aF (AdS K) (aF (AdU K) aN))) Tryz.func139
theorem Alr:SF 84 (AhC K) :=
  sF (Ae9 K) (aF (AqQ K) (aF (AdV K) aN)) Tryz.func84 fun x=>Apv K x.1 x.2.1
theorem Als:B7 Tryz.prog 42 (Auf K) :=
  CD (eO (AzG K) (aF (Uv K) (aF (Uw K) (aF (Alr K) aN))) (p:=(BR.cons (Ft K) (rk 26) BR.nil))) Tryz.func42 fun x=>by kernel_rfl
theorem Z8:SF 57 (Anz K) :=
  sF (AzH K) (aF (AdT K) aN) Tryz.func57
theorem Z9:SF 53 (AnA K) :=
  sF (AzI K) (aF (Z8 K) aN) Tryz.func53
theorem AdW:SF 105 (AhE K) :=
  sF (Axz K) aN Tryz.func105
theorem AvD:SF 54 (AxA K) :=
  sF (AzJ K) (aF (AdW K) (aF (Ux K) (aF (Uy K) aN))) Tryz.func54
theorem AdX:SF 137 (AhF K) :=
  sF (AxB K) aN Tryz.func137
theorem AqT:SF 243 (AbI K) :=
  sF (QL K) aN Tryz.func243 fun x=>AkZ K x.1 x.2.1
theorem AqU:SF 201 (AsQ K) :=
  sF (AxC K) (aF (AdX K) (aF (AqT K) aN)) Tryz.func201
theorem AdY:SF 200 (AhH K) :=
  sF (AxD K) aN Tryz.func200
theorem AqV:SF 161 (AsR K) :=
  sF (AxE K) (aF (AdY K) (aF (AqU K) aN)) Tryz.func161
theorem AdZ:SF 108 (V4 K) :=
  sF (QM K) (aF (AqV K) aN) Tryz.func108 fun x=>Ak0 K x.1 x.2.1
theorem Alt:SF 55 (Aug K) :=
  sF (AzK K) (aF (AdZ K) aN) Tryz.func55
theorem AvE:SF 56 (AxF K) :=
  sF (AzL K) (aF (AdZ K) aN) Tryz.func56
theorem O4:SF 23 (V5 K) :=
  sF (S0 K) (aF (Z7 K) (aF (Z9 K) (aF (AvD K) (aF (Alt K) (aF (AvE K) aN))))) Tryz.func23 fun x=>ApA K x.1 x.2.1
theorem Ln:SF 33 (S3 K) :=
  sF (S1 K) aN Tryz.func33 fun x=>ApB K x.1
theorem Ad0:SF 174 (AhO K) :=
  sF (AxG K) (aF (Ux K) (aF (Uy K) aN)) Tryz.func174
theorem AqW:SF 160 (AsS K) :=
  sF (AxH K) (aF (Z8 K) (aF (Ad0 K) aN)) Tryz.func160
theorem AqX:SF 159 (AbQ K) :=
  sF (QO K) (aF (AdY K) aN) Tryz.func159 fun x=>Ak1 K x.1 x.2.1
theorem AqY:SF 104 (AbS K) :=
  sF (QP K) (aF (AqX K) (aF (AqW K) aN)) Tryz.func104 fun x=>Ak2 K x.1 x.2.1 x.2.2.1
theorem Alu:SF 51 (AhQ K) :=
  sF (Afd K) (aF (Ln K) (aF (AqY K) aN)) Tryz.func51 fun x=>ApE K x.1 x.2.1
theorem Uz:SF 24 (AhS K) :=
  sF (AzM K) (aF (Z8 K) aN) Tryz.func24
theorem Aaa:SF 22 (Aff K) :=
  sF (S6 K) (aF (Uz K) (aF (Alu K) aN)) Tryz.func22 fun x=>ApG K x.1 x.2.1
theorem AvF:B7 Tryz.prog 60 (AxI K) :=
  CD (eO (EW K) (aF (Aaa K) (aF (O4 K) (aF (Z7 K) (aF (Z9 K) (aF (Uv K) aN))))) (p:=(BR.cons (Ft K) (rk 26) (BR.cons (Als K) (rk 42) BR.nil)))) Tryz.func60 fun x=>ApL K x.1 x.2.1 x.2.2.1
theorem Alv:B7 Tryz.prog 27 (Auk K) :=
  CD (eO (AzN K) aN (p:=(BR.cons (Ft K) (rk 26) (BR.cons (AvC K) (rk 59) (BR.cons (AvF K) (rk 60) (BR.cons (Z6 K) (rk 61) BR.nil)))))) Tryz.func27 fun x=>by kernel_rfl
theorem AvG:SF 71 (AnN K) :=
  sF (Afg K) (aF (Ut K) aN) Tryz.func71 fun x=>ApM K x.1 x.2.1 x.2.2.1 x.2.2.2.1
theorem Aab:SF 32 (AnO K) :=
  sF (AzO K) (aF (Uv K) (aF (AvG K) aN)) Tryz.func32
theorem Aac:SF 78 (AnP K) :=
  sF (AzP K) (aF (Uz K) aN) Tryz.func78
theorem Ad1:SF 132 (Wa K) :=
  sF (QQ K) (aF (Ln K) (aF (Aac K) (aF (Ad0 K) aN))) Tryz.func132 fun x=>Ak3 K x.1 x.2.1
theorem AvH:SF 80 (AnR K) :=
  sF (Afh K) (aF (Ln K) (aF (Uw K) (aF (Ad1 K) (aF (AdS K) (aF (AdU K) aN))))) Tryz.func80 fun x=>ApO K x.1
theorem AvI:SF 79 (AnS K) :=
  sF (Afi K) (aF (Ln K) (aF (Aac K) aN)) Tryz.func79 fun x=>ApP K x.1 x.2.1
theorem Alw:SF 40 (Auo K) :=
  sF (AzQ K) (aF (AvI K) (aF (AvH K) aN)) Tryz.func40
theorem AvJ:SF 77 (AnT K) :=
  sF (Tf K) (aF (Ln K) (aF (Alr K) (aF (Ad1 K) aN))) Tryz.func77 fun x=>ApS K x.1
omit K
theorem Ad2 (K:Nat):∀ n,Al Tryz.prog 74 ⟨[(.ro,sI)],[.str],fun x=>YY K n x.1⟩
  | 0=>fun _ _ _ _ _ _ _ _ _ h=>by cases h
  | n+1=>BC (Ae2 (E:=AxJ K (YY K n)) SU JE (Ej.cons (Ad2 K n) (rk 74) Ej.nil) BR.nil Jx.nil IL.nil H6.nil Fw.nil H7.nil) Tryz.func74 fun x=>ApT K (YY K n) x.1
theorem Aad (K:Nat):Al Tryz.prog 74 (AnV K):=Ad2 K K
include K
theorem Ad3:SF 128 (Aic K) :=
  sF (AxK K) (aF (Aad K) aN) Tryz.func128
theorem Ad4:SF 126 (Wb K) :=
  sF (QS K) (aF (Ad3 K) aN) Tryz.func126 fun x=>Ak4 K x.1 x.2.1
theorem AvK:SF 72 (AxL K) :=
  sF (AzR K) (aF (Uu K) (aF (Ad4 K) aN)) Tryz.func72
theorem Aae:SF 34 (AnY K) :=
  sF (AzS K) (aF (AvK K) aN) Tryz.func34
theorem Kq:SF 127 (QU K) :=
  sF (AxM K) (aF (Ut K) aN) Tryz.func127
theorem Ad5:SF 177 (Aid K) :=
  sF (AxN K) (aF (Kq K) aN) Tryz.func177
theorem Ad6:SF 178 (Aie K) :=
  sF (AxO K) aN Tryz.func178
theorem Nj:SF 135 (Wd K) :=
  sF (AxP K) (aF (Ad5 K) (aF (Ad6 K) aN)) Tryz.func135
theorem AqZ:SF 179 (Ab5 K) :=
  sF (QX K) (aF (Uw K) (aF (AdW K) (aF (Ad5 K) aN))) Tryz.func179 fun x=>Ak5 K x.1
theorem Aq0:SF 136 (AsT K) :=
  sF (AxQ K) (aF (Ad6 K) (aF (AqZ K) aN)) Tryz.func136
theorem Alx:SF 81 (Aup K) :=
  sF (AzT K) (aF (Kq K) (aF (Nj K) (aF (Aq0 K) aN))) Tryz.func81
theorem AvL:SF 82 (AxR K) :=
  sF (AzU K) (aF (Ad4 K) (aF (Nj K) (aF (AdX K) aN))) Tryz.func82
theorem Aly:SF 73 (Auq K) :=
  sF (AzV K) (aF (Kq K) (aF (Ad3 K) aN)) Tryz.func73
theorem Alz:SF 41 (Aur K) :=
  sF (AzW K) (aF (Aly K) (aF (Alx K) (aF (AvL K) aN))) Tryz.func41
theorem Aaf:SF 35 (An1 K) :=
  sF (AzX K) (aF (Aly K) (aF (Aad K) aN)) Tryz.func35
theorem AvM:SF 39 (Aii K) :=
  sF (Qh K) (aF (O4 K) (aF (Aab K) (aF (Aae K) (aF (Aaf K) (aF (Alw K) (aF (Alz K) (aF (Alu K) (aF (Z7 K) (aF (Alt K) (aF (AvJ K) (aF (Aac K) aN))))))))))) Tryz.func39 fun x=>ApY K x.1
theorem AlA:SF 14 (Aik K) :=
  sF (Afj K) (aF (Aab K) (aF (Ln K) (aF (Aae K) (aF (Aaf K) aN)))) Tryz.func14 fun x=>ApZ K x.1
theorem AvN:B7 Tryz.prog 43 (AxS K) :=
  CD (eO (AzY K) aN (p:=(BR.cons (Ft K) (rk 26) BR.nil))) Tryz.func43 fun x=>by kernel_rfl
theorem AvO:B7 Tryz.prog 18 (AxT K) :=
  CD (eO (CR K) (aF (AlA K) (aF (Aab K) (aF (Aae K) (aF (Aaf K) (aF (AvM K) (aF (Alw K) (aF (Alz K) aN))))))) (p:=(BR.cons (Ft K) (rk 26) (BR.cons (Alv K) (rk 27) (BR.cons (Als K) (rk 42) (BR.cons (AvN K) (rk 43) BR.nil)))))) Tryz.func18 fun x=>Ap8 K x.1
theorem Azf:Al Tryz.prog 5 (f5M K) :=
  BC (eO (f5E K) aN (p:=(BR.cons (AvO K) (rk 18) BR.nil)) (n:=(Jx.cons (Alq K) (rk 19) Jx.nil))) Tryz.func5 fun x=>by kernel_rfl
theorem Aq1:SF 140 (AsU K) :=
  sF (AxU K) aN Tryz.func140
theorem AvP:SF 85 (AxV K) :=
  sF (AzZ K) (aF (Aq1 K) aN) Tryz.func85
theorem AvQ:SF 44 (AxW K) :=
  sF (Az0 K) (aF (AvP K) aN) Tryz.func44
omit K
def Aq2:Go.Shelf.Ren:=⟨fun | 138=>142 | 143=>88 | 146=>45 | 195=>181 | 197=>182 | 217=>186 | 218=>183 | 219=>144 | 221=>86 | 224=>188 | 225=>187 | 260=>226 | 266=>227 | 267=>189 | 268=>141 | 314=>228 | n=>n,fun | 0=>0 | 3=>3 | 4=>4 | 5=>5 | 9=>9 | 21=>21 | 31=>84 | 46=>200 | 51=>230 | 105=>207 | 119=>277 | 138=>279 | 139=>280 | 146=>252 | n=>n,fun | 1=>0 | 3=>2 | 4=>3 | n=>n⟩
theorem AlB:Lays.n146 Tryz.prog Aq2 where
  mixed:=by kernel_rfl
  f138:=Tryz.func142.trans (congrArg some (by kernel_rfl))
  f143:=Tryz.func88.trans (congrArg some (by kernel_rfl))
  f146:=Tryz.func45.trans (congrArg some (by kernel_rfl))
  f195:=Tryz.func181.trans (congrArg some (by kernel_rfl))
  f197:=Tryz.func182.trans (congrArg some (by kernel_rfl))
  f217:=Tryz.func186.trans (congrArg some (by kernel_rfl))
  f218:=Tryz.func183.trans (congrArg some (by kernel_rfl))
  f219:=Tryz.func144.trans (congrArg some (by kernel_rfl))
  f221:=Tryz.func86.trans (congrArg some (by kernel_rfl))
  f224:=Tryz.func188.trans (congrArg some (by kernel_rfl))
  f225:=Tryz.func187.trans (congrArg some (by kernel_rfl))
  f260:=Tryz.func226.trans (congrArg some (by kernel_rfl))
  f266:=Tryz.func227.trans (congrArg some (by kernel_rfl))
  f267:=Tryz.func189.trans (congrArg some (by kernel_rfl))
  f268:=Tryz.func141.trans (congrArg some (by kernel_rfl))
  f314:=Tryz.func228.trans (congrArg some (by kernel_rfl))
  t0:=Tryz.underlying0
  a0:=Tryz.isAgg0
  z0:=Tryz.sizeOf0
  v0:=Tryz.zeroValue0
  t3:=Tryz.underlying3
  a3:=Tryz.isAgg3
  z3:=Tryz.sizeOf3
  v3:=Tryz.zeroValue3
  t4:=Tryz.underlying4
  a4:=Tryz.isAgg4
  z4:=Tryz.sizeOf4
  v4:=Tryz.zeroValue4
  t5:=Tryz.underlying5
  a5:=Tryz.isAgg5
  z5:=Tryz.sizeOf5
  v5:=Tryz.zeroValue5
  t9:=Tryz.underlying9
  a9:=Tryz.isAgg9
  z9:=Tryz.sizeOf9
  v9:=Tryz.zeroValue9
  t21:=Tryz.underlying21
  a21:=Tryz.isAgg21
  z21:=Tryz.sizeOf21
  v21:=Tryz.zeroValue21
  t31:=Tryz.underlying84
  a31:=Tryz.isAgg84
  z31:=Tryz.sizeOf84
  v31:=Tryz.zeroValue84
  t46:=Tryz.underlying200
  a46:=Tryz.isAgg200
  z46:=Tryz.sizeOf200
  v46:=Tryz.zeroValue200
  t51:=Tryz.underlying230
  a51:=Tryz.isAgg230
  z51:=Tryz.sizeOf230
  v51:=Tryz.zeroValue230
  t105:=Tryz.underlying207
  a105:=Tryz.isAgg207
  z105:=Tryz.sizeOf207
  v105:=Tryz.zeroValue207
  t119:=Tryz.underlying277
  a119:=Tryz.isAgg277
  z119:=Tryz.sizeOf277
  t138:=Tryz.underlying279
  a138:=Tryz.isAgg279
  z138:=Tryz.sizeOf279
  v138:=Tryz.zeroValue279
  t139:=Tryz.underlying280
  a139:=Tryz.isAgg280
  z139:=Tryz.sizeOf280
  v139:=Tryz.zeroValue280
  t146:=Tryz.underlying252
  a146:=Tryz.isAgg252
  z146:=Tryz.sizeOf252
  v146:=Tryz.zeroValue252
  g1:=by kernel_rfl
  g3:=by kernel_rfl
  g4:=by kernel_rfl
theorem AvR:∀ w,Dq w→∃ m,w.cell? ⟨0,0,none⟩=some (.int .i64 m):=fun w h=>by
  obtain⟨_,h⟩:=h;have h:gp w:=h;unfold gp at h;exact h.2.1
theorem Aag (K:Nat):Al Tryz.prog 45 (Aoh K):=Yt (e:=9) AlB rfl rfl (by kernel_rfl) AvR
def AlC:Go.Shelf.Ren:=⟨fun | 129=>211 | 173=>122 | 246=>171 | 283=>215 | 284=>216 | 285=>217 | 286=>218 | 317=>251 | 318=>252 | 319=>253 | 320=>254 | 337=>271 | 338=>272 | n=>n,fun | 0=>0 | 2=>2 | 3=>3 | 4=>4 | 5=>5 | 9=>9 | 20=>20 | 37=>22 | 46=>200 | 51=>230 | 53=>232 | 171=>243 | 173=>245 | 212=>273 | 213=>274 | 232=>300 | 233=>301 | n=>n,fun | 17=>1 | 18=>4 | 19=>5 | n=>n⟩
theorem Age:LaysM.n173 Tryz.prog AlC where
  mixed:=by kernel_rfl
  f129:=Tryz.func211.trans (congrArg some (by kernel_rfl))
  f173:=Tryz.func122.trans (congrArg some (by kernel_rfl))
  f246:=Tryz.func171.trans (congrArg some (by kernel_rfl))
  f283:=Tryz.func215.trans (congrArg some (by kernel_rfl))
  f284:=Tryz.func216.trans (congrArg some (by kernel_rfl))
  f285:=Tryz.func217.trans (congrArg some (by kernel_rfl))
  f286:=Tryz.func218.trans (congrArg some (by kernel_rfl))
  f317:=Tryz.func251.trans (congrArg some (by kernel_rfl))
  f318:=Tryz.func252.trans (congrArg some (by kernel_rfl))
  f319:=Tryz.func253.trans (congrArg some (by kernel_rfl))
  f320:=Tryz.func254.trans (congrArg some (by kernel_rfl))
  f337:=Tryz.func271.trans (congrArg some (by kernel_rfl))
  f338:=Tryz.func272.trans (congrArg some (by kernel_rfl))
  t0:=Tryz.underlying0
  a0:=Tryz.isAgg0
  z0:=Tryz.sizeOf0
  v0:=Tryz.zeroValue0
  t2:=Tryz.underlying2
  a2:=Tryz.isAgg2
  z2:=Tryz.sizeOf2
  v2:=Tryz.zeroValue2
  t3:=Tryz.underlying3
  a3:=Tryz.isAgg3
  z3:=Tryz.sizeOf3
  v3:=Tryz.zeroValue3
  t4:=Tryz.underlying4
  a4:=Tryz.isAgg4
  z4:=Tryz.sizeOf4
  v4:=Tryz.zeroValue4
  t5:=Tryz.underlying5
  a5:=Tryz.isAgg5
  z5:=Tryz.sizeOf5
  v5:=Tryz.zeroValue5
  t9:=Tryz.underlying9
  a9:=Tryz.isAgg9
  z9:=Tryz.sizeOf9
  v9:=Tryz.zeroValue9
  t20:=Tryz.underlying20
  a20:=Tryz.isAgg20
  z20:=Tryz.sizeOf20
  v20:=Tryz.zeroValue20
  t37:=Tryz.underlying22
  a37:=Tryz.isAgg22
  z37:=Tryz.sizeOf22
  v37:=Tryz.zeroValue22
  t46:=Tryz.underlying200
  a46:=Tryz.isAgg200
  z46:=Tryz.sizeOf200
  v46:=Tryz.zeroValue200
  t51:=Tryz.underlying230
  a51:=Tryz.isAgg230
  z51:=Tryz.sizeOf230
  v51:=Tryz.zeroValue230
  t53:=Tryz.underlying232
  a53:=Tryz.isAgg232
  z53:=Tryz.sizeOf232
  v53:=Tryz.zeroValue232
  t171:=Tryz.underlying243
  a171:=Tryz.isAgg243
  z171:=Tryz.sizeOf243
  v171:=Tryz.zeroValue243
  t173:=Tryz.underlying245
  a173:=Tryz.isAgg245
  z173:=Tryz.sizeOf245
  v173:=Tryz.zeroValue245
  t212:=Tryz.underlying273
  a212:=Tryz.isAgg273
  z212:=Tryz.sizeOf273
  v212:=Tryz.zeroValue273
  t213:=Tryz.underlying274
  a213:=Tryz.isAgg274
  z213:=Tryz.sizeOf274
  t232:=Tryz.underlying300
  a232:=Tryz.isAgg300
  z232:=Tryz.sizeOf300
  v232:=Tryz.zeroValue300
  t233:=Tryz.underlying301
  a233:=Tryz.isAgg301
  z233:=Tryz.sizeOf301
  v233:=Tryz.zeroValue301
  g17:=by kernel_rfl
  g18:=by kernel_rfl
  g19:=by kernel_rfl
  i0:=by kernel_rfl
  i2:=by kernel_rfl
  i3:=by kernel_rfl
  i4:=by kernel_rfl
  i5:=by kernel_rfl
  i9:=by kernel_rfl
  i20:=by kernel_rfl
  i37:=by kernel_rfl
  i46:=by kernel_rfl
  i51:=by kernel_rfl
  i53:=by kernel_rfl
  i171:=by kernel_rfl
  i173:=by kernel_rfl
  i212:=by kernel_rfl
  i232:=by kernel_rfl
  i233:=by kernel_rfl
  m17:=by kernel_rfl
  m18:=by kernel_rfl
  m19:=by kernel_rfl
theorem AAE:∀ w,Dq w→Lib.TabIs Tryz.prog w "internal/strconv.uint64pow10" .u64 Lib.pow10Tab:=fun w h=>by
  obtain⟨_,h⟩:=h;have h:gp w:=h;unfold gp at h;obtain⟨t,z,h1⟩:=h.1;unfold Lib.TabIs World.var?;rw[show Tryz.prog.globalNamed "internal/strconv.uint64pow10" = some 1 by kernel_rfl,ACb,h1]
theorem Aq3 (K:Nat):Al Tryz.prog 122 (AsV K):=Ag7 Age rfl AAE
include K
theorem Aah:SF 68 (Auu K) :=
  sF (Az1 K) (aF (Aq3 K) aN) Tryz.func68
omit K
def AlD:Go.Shelf.Ren:=⟨fun | 129=>211 | 171=>284 | 174=>229 | 205=>283 | 243=>285 | 245=>258 | 246=>171 | 247=>257 | 279=>274 | 280=>275 | 281=>276 | 282=>277 | 283=>215 | 284=>216 | 285=>217 | 286=>218 | 287=>273 | 316=>282 | 317=>251 | 318=>252 | 319=>253 | 320=>254 | 321=>280 | 322=>281 | 337=>271 | 338=>272 | n=>n,fun | 0=>0 | 2=>2 | 3=>3 | 4=>4 | 5=>5 | 9=>9 | 20=>20 | 21=>21 | 37=>22 | 46=>200 | 51=>230 | 53=>232 | 75=>238 | 80=>241 | 85=>254 | 127=>271 | 143=>308 | 145=>310 | 167=>293 | 168=>296 | 171=>243 | 173=>245 | 175=>294 | 210=>306 | 212=>273 | 213=>274 | 232=>300 | 233=>301 | n=>n,fun | 15=>6 | 16=>7 | 17=>1 | 18=>4 | 19=>5 | n=>n⟩
theorem Lo:LaysC.n174 Tryz.prog AlD where
  mixed:=by kernel_rfl
  f129:=Tryz.func211.trans (congrArg some (by kernel_rfl))
  f171:=Tryz.func284.trans (congrArg some (by kernel_rfl))
  f174:=Tryz.func229.trans (congrArg some (by kernel_rfl))
  f205:=Tryz.func283.trans (congrArg some (by kernel_rfl))
  f243:=Tryz.func285.trans (congrArg some (by kernel_rfl))
  f245:=Tryz.func258.trans (congrArg some (by kernel_rfl))
  f246:=Tryz.func171.trans (congrArg some (by kernel_rfl))
  f247:=Tryz.func257.trans (congrArg some (by kernel_rfl))
  f279:=Tryz.func274.trans (congrArg some (by kernel_rfl))
  f280:=Tryz.func275.trans (congrArg some (by kernel_rfl))
  f281:=Tryz.func276.trans (congrArg some (by kernel_rfl))
  f282:=Tryz.func277.trans (congrArg some (by kernel_rfl))
  f283:=Tryz.func215.trans (congrArg some (by kernel_rfl))
  f284:=Tryz.func216.trans (congrArg some (by kernel_rfl))
  f285:=Tryz.func217.trans (congrArg some (by kernel_rfl))
  f286:=Tryz.func218.trans (congrArg some (by kernel_rfl))
  f287:=Tryz.func273.trans (congrArg some (by kernel_rfl))
  f316:=Tryz.func282.trans (congrArg some (by kernel_rfl))
  f317:=Tryz.func251.trans (congrArg some (by kernel_rfl))
  f318:=Tryz.func252.trans (congrArg some (by kernel_rfl))
  f319:=Tryz.func253.trans (congrArg some (by kernel_rfl))
  f320:=Tryz.func254.trans (congrArg some (by kernel_rfl))
  f321:=Tryz.func280.trans (congrArg some (by kernel_rfl))
  f322:=Tryz.func281.trans (congrArg some (by kernel_rfl))
  f337:=Tryz.func271.trans (congrArg some (by kernel_rfl))
  f338:=Tryz.func272.trans (congrArg some (by kernel_rfl))
  t0:=Tryz.underlying0
  a0:=Tryz.isAgg0
  z0:=Tryz.sizeOf0
  v0:=Tryz.zeroValue0
  t2:=Tryz.underlying2
  a2:=Tryz.isAgg2
  z2:=Tryz.sizeOf2
  v2:=Tryz.zeroValue2
  t3:=Tryz.underlying3
  a3:=Tryz.isAgg3
  z3:=Tryz.sizeOf3
  v3:=Tryz.zeroValue3
  t4:=Tryz.underlying4
  a4:=Tryz.isAgg4
  z4:=Tryz.sizeOf4
  v4:=Tryz.zeroValue4
  t5:=Tryz.underlying5
  a5:=Tryz.isAgg5
  z5:=Tryz.sizeOf5
  v5:=Tryz.zeroValue5
  t9:=Tryz.underlying9
  a9:=Tryz.isAgg9
  z9:=Tryz.sizeOf9
  v9:=Tryz.zeroValue9
  t20:=Tryz.underlying20
  a20:=Tryz.isAgg20
  z20:=Tryz.sizeOf20
  v20:=Tryz.zeroValue20
  t21:=Tryz.underlying21
  a21:=Tryz.isAgg21
  z21:=Tryz.sizeOf21
  v21:=Tryz.zeroValue21
  t37:=Tryz.underlying22
  a37:=Tryz.isAgg22
  z37:=Tryz.sizeOf22
  v37:=Tryz.zeroValue22
  t46:=Tryz.underlying200
  a46:=Tryz.isAgg200
  z46:=Tryz.sizeOf200
  v46:=Tryz.zeroValue200
  t51:=Tryz.underlying230
  a51:=Tryz.isAgg230
  z51:=Tryz.sizeOf230
  v51:=Tryz.zeroValue230
  t53:=Tryz.underlying232
  a53:=Tryz.isAgg232
  z53:=Tryz.sizeOf232
  v53:=Tryz.zeroValue232
  t75:=Tryz.underlying238
  a75:=Tryz.isAgg238
  z75:=Tryz.sizeOf238
  v75:=Tryz.zeroValue238
  t85:=Tryz.underlying254
  a85:=Tryz.isAgg254
  z85:=Tryz.sizeOf254
  v85:=Tryz.zeroValue254
  t127:=Tryz.underlying271
  a127:=Tryz.isAgg271
  z127:=Tryz.sizeOf271
  v127:=Tryz.zeroValue271
  t143:=Tryz.underlying308
  a143:=Tryz.isAgg308
  z143:=Tryz.sizeOf308
  v143:=Tryz.zeroValue308
  t145:=Tryz.underlying310
  a145:=Tryz.isAgg310
  z145:=Tryz.sizeOf310
  v145:=Tryz.zeroValue310
  t167:=Tryz.underlying293
  a167:=Tryz.isAgg293
  z167:=Tryz.sizeOf293
  v167:=Tryz.zeroValue293
  t168:=Tryz.underlying296
  a168:=Tryz.isAgg296
  z168:=Tryz.sizeOf296
  v168:=Tryz.zeroValue296
  t171:=Tryz.underlying243
  a171:=Tryz.isAgg243
  z171:=Tryz.sizeOf243
  v171:=Tryz.zeroValue243
  t173:=Tryz.underlying245
  a173:=Tryz.isAgg245
  z173:=Tryz.sizeOf245
  v173:=Tryz.zeroValue245
  t175:=Tryz.underlying294
  a175:=Tryz.isAgg294
  z175:=Tryz.sizeOf294
  v175:=Tryz.zeroValue294
  t210:=Tryz.underlying306
  a210:=Tryz.isAgg306
  z210:=Tryz.sizeOf306
  v210:=Tryz.zeroValue306
  t212:=Tryz.underlying273
  a212:=Tryz.isAgg273
  z212:=Tryz.sizeOf273
  v212:=Tryz.zeroValue273
  t213:=Tryz.underlying274
  a213:=Tryz.isAgg274
  z213:=Tryz.sizeOf274
  t232:=Tryz.underlying300
  a232:=Tryz.isAgg300
  z232:=Tryz.sizeOf300
  v232:=Tryz.zeroValue300
  t233:=Tryz.underlying301
  a233:=Tryz.isAgg301
  z233:=Tryz.sizeOf301
  v233:=Tryz.zeroValue301
  g15:=by kernel_rfl
  g16:=by kernel_rfl
  g17:=by kernel_rfl
  g18:=by kernel_rfl
  g19:=by kernel_rfl
  t80:=Tryz.underlying241
  a80:=Tryz.isAgg241
  z80:=Tryz.sizeOf241
  v80:=Tryz.zeroValue241
  i0:=by kernel_rfl
  i2:=by kernel_rfl
  i3:=by kernel_rfl
  i4:=by kernel_rfl
  i5:=by kernel_rfl
  i9:=by kernel_rfl
  i20:=by kernel_rfl
  i21:=by kernel_rfl
  i37:=by kernel_rfl
  i46:=by kernel_rfl
  i51:=by kernel_rfl
  i53:=by kernel_rfl
  i75:=by kernel_rfl
  i80:=by kernel_rfl
  i85:=by kernel_rfl
  i127:=by kernel_rfl
  i143:=by kernel_rfl
  i145:=by kernel_rfl
  i167:=by kernel_rfl
  i168:=by kernel_rfl
  i171:=by kernel_rfl
  i173:=by kernel_rfl
  i175:=by kernel_rfl
  i210:=by kernel_rfl
  i212:=by kernel_rfl
  i232:=by kernel_rfl
  i233:=by kernel_rfl
  m15:=by kernel_rfl
  m16:=by kernel_rfl
  m17:=by kernel_rfl
  m18:=by kernel_rfl
  m19:=by kernel_rfl
  c0:=by kernel_rfl
  c2:=by kernel_rfl
  c3:=by kernel_rfl
  c4:=by kernel_rfl
  c5:=by kernel_rfl
  c9:=by kernel_rfl
  c20:=by kernel_rfl
  c21:=by kernel_rfl
  c37:=by kernel_rfl
  c46:=by kernel_rfl
  c51:=by kernel_rfl
  c53:=by kernel_rfl
  c75:=by kernel_rfl
  c80:=by kernel_rfl
  c85:=by kernel_rfl
  c127:=by kernel_rfl
  c143:=by kernel_rfl
  c145:=by kernel_rfl
  c167:=by kernel_rfl
  c168:=by kernel_rfl
  c171:=by kernel_rfl
  c173:=by kernel_rfl
  c175:=by kernel_rfl
  c210:=by kernel_rfl
  c212:=by kernel_rfl
  c213:=by kernel_rfl
  c232:=by kernel_rfl
  c233:=by kernel_rfl
theorem AAF:∀ w,Dq w→∃ te pe,w.cell? ⟨6,0,none⟩=some (.iface te pe):=fun w h=>by
  obtain⟨_,h⟩:=h;have h:gp w:=h;unfold gp at h;exact h.2.2.1
theorem AAG:∀ w,Dq w→∃ te pe,w.cell? ⟨7,0,none⟩=some (.iface te pe):=fun w h=>by
  obtain⟨_,h⟩:=h;have h:gp w:=h;unfold gp at h;exact h.2.2.2
open Go.RowKit Go.Shelf in
theorem Aq4 (K:Nat):@Al cwZ Tryz.prog 190 (Air K):=by
  intro w x us Fs hW hgf hA hap;refine fun (y:Int×Bool) hy=>?_;obtain⟨s,x0⟩:=x;obtain⟨rfl,G,rfl⟩:=AAL hA;change Aha s=some y at hy;unfold Aha at hy;cases hsz:Nat.ble s.size 140737488355328
  · rw[hsz] at hy;cases hy
  rw[hsz,cond_true] at hy;have hsz:=ADH hsz;have e229:∀ args w,(callFunc 229 args).run Tryz.prog w=.ok (.enter 229 args) w:=enters_of Tryz.func229 (by kernel_rfl) rfl
  have e68:∀ args w,(callFunc 68 args).run Tryz.prog w=.ok (.enter 68 args) w:=enters_of Tryz.func68 (by kernel_rfl) rfl
  have hfin:∀ (n:Int) (b:Bool),(n,b)=y→(Calls Tryz.prog 190 #[.string s] w fun e w'=>e=.returned (.tuple #[.int .i64 n,.bool b])∧Below w.heap.size w w')→Calls Tryz.prog 190 [Value.string s].toArray w fun e w'=>∃ u,e=.returned u∧@LF cwZ w (Air K) [.string s] [G] y u w':=by
    intro n b hy h;subst hy;exact h.mono fun e w' ⟨he,hB⟩=>⟨_,he,Am9 hB⟩
  cases hp:Lib.parseIntB 64 s.data.toList
  · rename_i v
    rw[hp] at hy;have hb:=Lib.parseIntB_bounds hp;refine hfin v (Yq v==s) (by simpa using hy) ?_
    have hP:=Any.strconv_ParseInt_10_at64_ok Lo s (by omega) v hp w
    have hin:Sx v=true:=by
      simp only[Sx,AA1,decide_eq_true_eq];omega
    go_enter Tryz.func190,Tryz.ntmps190
    go_wp2_with (go_at_fn 229;refine hP.mono ?_)
    rintro e W1 rfl hW1
    have hB1:Below w.heap.size w W1:=by
      rcases hW1 with rfl | ⟨t,rfl⟩
      · exact Below.refl _ _
      · exact Lib.bytesWorld_below _ _ _
    go_wp2_with (go_at_fn 68;refine (Aa3 (Aah K) (hW.below hB1) (y:=Yq v) ?_).mono ?_)
    · show (Option.bind (Aa1 v 10) fun y=>some y)=some (Yq v)
      unfold Aa1;rw[hin];rfl
    · rintro e W2 ⟨rfl,hB2⟩
      go_wp2
      go_ret2
      refine⟨?_,hB1.trans (hB2.mono hB1.size)⟩;rw[beq_toListBytes];rfl
  · rw[hp] at hy
    obtain⟨te,pe,hc⟩:=AAF w hW;have hP:=Any.strconv_ParseInt_10_at64_syntax Lo s (by omega) hp (.iface te pe) w hc (.inr ⟨te,pe,rfl⟩)
    refine hfin _ false (by simpa using hy) ?_
    go_enter Tryz.func190,Tryz.ntmps190
    go_wp2_with (go_at_fn 229;refine hP.mono ?_)
    rintro e W1 N rfl hN _ hB1
    go_wp2
    go_ret2
    exact⟨rfl,hB1⟩
  · rw[hp] at hy
    obtain⟨te,pe,hc⟩:=AAG w hW;have hP:=Any.strconv_ParseInt_10_at64_range Lo s (by omega) hp (.iface te pe) w hc (.inr ⟨te,pe,rfl⟩)
    refine hfin _ false (by simpa using hy) ?_
    go_enter Tryz.func190,Tryz.ntmps190
    go_wp2_with (go_at_fn 229;refine hP.mono ?_)
    rintro e W1 N rfl hN _ hB1
    go_wp2
    go_ret2
    exact⟨rfl,hB1⟩

include K
attribute [local instance] cwZ in
theorem UA:SF 145 (Q0 K) :=
  sF (QZ K) (aF (Al.toZ (Aag K)) (aF (Aq4 K) aN)) Tryz.func145 fun x=>Ak6 K x.1 x.2.1 x.2.2.1
theorem Kr:SF 117 (Q1 K) :=
  sF (AxX K) aN Tryz.func117
theorem Ad7:SF 169 (Ais K) :=
  sF (AxY K) (aF (Kr K) aN) Tryz.func169
theorem Ks:SF 120 (Q2 K) :=
  sF (AxZ K) (aF (Ad7 K) aN) Tryz.func120
attribute [local instance] cwZ in
theorem Ad8:SF 184 (Ait K) :=
  sF (Ax0 K) (aF (Al.toZ (Ks K)) (aF (UA K) aN)) Tryz.func184
theorem Aq5:SF 185 (Aco K) :=
  sF (Q3 K) aN Tryz.func185 fun x=>Ak7 K x.1
attribute [local instance] cwZ in
theorem Aq6:SF 143 (AsW K) :=
  sF (Ax1 K) (aF (Ad8 K) (aF (Al.toZ (Aq5 K)) aN)) Tryz.func143
attribute [local instance] cwZ in
theorem AvS:Fv Tryz.prog 87 (Ax2 K) :=
  LH (eO (Az2 K) (aF (Aq6 K) aN)) Tryz.func87 fun x=>by kernel_rfl
omit K
def Aq7:Go.Shelf.Ren:=⟨fun | 143=>88 | 217=>186 | 219=>144 | 224=>188 | 225=>187 | 266=>227 | 267=>189 | 314=>228 | n=>n,fun | 3=>3 | 4=>4 | 5=>5 | 9=>9 | 46=>200 | 51=>230 | 146=>252 | n=>n,fun | 1=>0 | n=>n⟩
theorem AlE:Lays.n143 Tryz.prog Aq7 where
  mixed:=by kernel_rfl
  f143:=Tryz.func88.trans (congrArg some (by kernel_rfl))
  f217:=Tryz.func186.trans (congrArg some (by kernel_rfl))
  f219:=Tryz.func144.trans (congrArg some (by kernel_rfl))
  f224:=Tryz.func188.trans (congrArg some (by kernel_rfl))
  f225:=Tryz.func187.trans (congrArg some (by kernel_rfl))
  f266:=Tryz.func227.trans (congrArg some (by kernel_rfl))
  f267:=Tryz.func189.trans (congrArg some (by kernel_rfl))
  f314:=Tryz.func228.trans (congrArg some (by kernel_rfl))
  t3:=Tryz.underlying3
  a3:=Tryz.isAgg3
  z3:=Tryz.sizeOf3
  v3:=Tryz.zeroValue3
  t4:=Tryz.underlying4
  a4:=Tryz.isAgg4
  z4:=Tryz.sizeOf4
  v4:=Tryz.zeroValue4
  t5:=Tryz.underlying5
  a5:=Tryz.isAgg5
  z5:=Tryz.sizeOf5
  v5:=Tryz.zeroValue5
  t9:=Tryz.underlying9
  a9:=Tryz.isAgg9
  z9:=Tryz.sizeOf9
  v9:=Tryz.zeroValue9
  t46:=Tryz.underlying200
  a46:=Tryz.isAgg200
  z46:=Tryz.sizeOf200
  v46:=Tryz.zeroValue200
  t51:=Tryz.underlying230
  a51:=Tryz.isAgg230
  z51:=Tryz.sizeOf230
  v51:=Tryz.zeroValue230
  t146:=Tryz.underlying252
  a146:=Tryz.isAgg252
  z146:=Tryz.sizeOf252
  v146:=Tryz.zeroValue252
  g1:=by kernel_rfl

theorem AvT (K:Nat):Al Tryz.prog 88 (Ax3 K):=Ag8 AlE rfl AvR
include K
theorem AvU:SF 89 (Ax4 K) :=
  sF (Az3 K) aN Tryz.func89
theorem UB:SF 64 (Aiu K) :=
  sF (Az4 K) aN Tryz.func64
theorem UC:SF 63 (Aiv K) :=
  sF (Az5 K) (aF (UB K) (aF (Kr K) aN)) Tryz.func63
attribute [local instance] cwZ in
theorem AvV:SF 90 (Ax5 K) :=
  sF (Az6 K) (aF (Al.toZ (UC K)) (aF (UA K) aN)) Tryz.func90
omit K
def AlF:Go.Shelf.Ren:=⟨fun | 145=>191 | 217=>186 | 219=>144 | 220=>230 | 224=>188 | 225=>187 | 266=>227 | 267=>189 | 314=>228 | n=>n,fun | 3=>3 | 4=>4 | 5=>5 | 9=>9 | 46=>200 | 51=>230 | 59=>212 | 146=>252 | n=>n,fun | 1=>0 | n=>n⟩
theorem Agf:Lays.n145 Tryz.prog AlF where
  mixed:=by kernel_rfl
  f145:=Tryz.func191.trans (congrArg some (by kernel_rfl))
  f217:=Tryz.func186.trans (congrArg some (by kernel_rfl))
  f219:=Tryz.func144.trans (congrArg some (by kernel_rfl))
  f220:=Tryz.func230.trans (congrArg some (by kernel_rfl))
  f224:=Tryz.func188.trans (congrArg some (by kernel_rfl))
  f225:=Tryz.func187.trans (congrArg some (by kernel_rfl))
  f266:=Tryz.func227.trans (congrArg some (by kernel_rfl))
  f267:=Tryz.func189.trans (congrArg some (by kernel_rfl))
  f314:=Tryz.func228.trans (congrArg some (by kernel_rfl))
  t3:=Tryz.underlying3
  a3:=Tryz.isAgg3
  z3:=Tryz.sizeOf3
  v3:=Tryz.zeroValue3
  t4:=Tryz.underlying4
  a4:=Tryz.isAgg4
  z4:=Tryz.sizeOf4
  v4:=Tryz.zeroValue4
  t5:=Tryz.underlying5
  a5:=Tryz.isAgg5
  z5:=Tryz.sizeOf5
  v5:=Tryz.zeroValue5
  t9:=Tryz.underlying9
  a9:=Tryz.isAgg9
  z9:=Tryz.sizeOf9
  v9:=Tryz.zeroValue9
  t46:=Tryz.underlying200
  a46:=Tryz.isAgg200
  z46:=Tryz.sizeOf200
  v46:=Tryz.zeroValue200
  t51:=Tryz.underlying230
  a51:=Tryz.isAgg230
  z51:=Tryz.sizeOf230
  v51:=Tryz.zeroValue230
  t59:=Tryz.underlying212
  a59:=Tryz.isAgg212
  z59:=Tryz.sizeOf212
  v59:=Tryz.zeroValue212
  t146:=Tryz.underlying252
  a146:=Tryz.isAgg252
  z146:=Tryz.sizeOf252
  v146:=Tryz.zeroValue252
  g1:=by kernel_rfl

theorem Aq8 (K:Nat):Al Tryz.prog 191 (AsX K):=Ag9 Agf rfl AvR
include K
theorem Aq9:SF 259 (AsY K) :=
  sF (Ax6 K) (aF (Ad7 K) aN) Tryz.func259
theorem Nk:SF 260 (Wj K) :=
  sF (Ax7 K) aN Tryz.func260
theorem Ad9:SF 231 (Aix K) :=
  sF (Ax8 K) (aF (Aq9 K) (aF (Nk K) aN)) Tryz.func231
attribute [local instance] cwZ in
theorem Ara:SF 192 (AsZ K) :=
  sF (Ax9 K) (aF (UA K) (aF (Al.toZ (Ad9 K)) aN)) Tryz.func192
theorem UD:SF 110 (Acs K) :=
  sF (Aya K) aN Tryz.func110
theorem Aea:SF 278 (Aiy K) :=
  sF (Ayb K) (aF (UD K) (aF (Nk K) aN)) Tryz.func278
theorem Arb:SF 261 (As0 K) :=
  sF (Ayc K) (aF (Nk K) (aF (Aea K) aN)) Tryz.func261
theorem Arc:SF 262 (As1 K) :=
  sF (Ayd K) (aF (Nk K) (aF (Aea K) aN)) Tryz.func262
theorem Ard:SF 232 (As2 K) :=
  sF (Aye K) (aF (Arb K) (aF (Arc K) aN)) Tryz.func232
theorem Are:SF 193 (As3 K) :=
  sF (Ayf K) (aF (Ks K) (aF (Ad9 K) (aF (Ard K) aN))) Tryz.func193
attribute [local instance] cwZ in
theorem Arf:SF 146 (As4 K) :=
  sF (Ayg K) (aF (Ad8 K) (aF (Al.toZ (Aq8 K)) (aF (Ara K) (aF (Al.toZ (Are K)) aN)))) Tryz.func146
theorem Arh:SF 219 (As5 K) :=
  sF (Ayh K) aN Tryz.func219
theorem Nl:SF 163 (Wm K) :=
  sF (Ayi K) aN Tryz.func163
theorem Ari:SF 256 (As6 K) :=
  sF (Ayj K) aN Tryz.func256
theorem Arj:SF 221 (Acy K) :=
  sF (Q5 K) (aF (Nl K) (aF (Ari K) aN)) Tryz.func221 fun x=>Ak8 K x.1
theorem Ark:SF 155 (As7 K) :=
  sF (Ayk K) aN Tryz.func155
theorem Jj:SF 97 (Wo K) :=
  sF (Az7 K) (aF (Ark K) aN) Tryz.func97
theorem Arl:SF 223 (As8 K) :=
  sF (Ayl K) (aF (Jj K) aN) Tryz.func223
theorem Aeb:SF 222 (AiD K) :=
  sF (Aym K) (aF (Nl K) (aF (Arl K) aN)) Tryz.func222
theorem Arm:SF 255 (AcB K) :=
  sF (Q7 K) aN Tryz.func255 fun x=>Ak9 K x.1 x.2.1
theorem Arn:SF 220 (AcD K) :=
  sF (Q8 K) (aF (Arm K) aN) Tryz.func220 fun x=>Ala K x.1 x.2.1
theorem Aec:Al Tryz.prog 172 (AiE K) :=
  BC (eO (Ayn K) (aF (Arh K) (aF (Arn K) (aF (Arj K) (aF (Aeb K) aN)))) (v:=(Fw.cons (Aeb K) (rk 222) Fw.nil))) Tryz.func172 fun x=>by kernel_rfl
theorem Aro:SF 224 (AcF K) :=
  sF (Q9 K) aN Tryz.func224 fun x=>Alb K x.1 x.2.1
theorem Aed:SF 173 (AiF K) :=
  sF (Ayo K) (aF (Aro K) aN) Tryz.func173
theorem Arp:SF 147 (As9 K) :=
  sF (Ayp K) (aF (Ks K) (aF (Aec K) (aF (Aed K) aN))) Tryz.func147
theorem UE:SF 111 (AcI K) :=
  sF (Ayq K) (aF (Jj K) aN) Tryz.func111
attribute [local instance] cwZ in
theorem AvW:Fv Tryz.prog 91 (Ayr K) :=
  LH (eO (Az8 K) (aF (Al.toZ (UE K)) (aF (Arf K) (aF (Al.toZ (Arp K)) aN)))) Tryz.func91 fun x=>by kernel_rfl
attribute [local instance] cwZ in
theorem AvX:Fv Tryz.prog 46 (Ays K) :=
  LH (eO (Az9 K) (aF (Al.toZ (Aag K)) (aF (Al.toZ (AvT K)) (aF (Al.toZ (AvU K)) (aF (AvV K) aN)))) (q:=(IL.cons (AvS K) (rk 87) (IL.cons (AvW K) (rk 91) IL.nil)))) Tryz.func46 fun x=>by kernel_rfl
theorem Arq:SF 162 (Ata K) :=
  sF (Ayt K) aN Tryz.func162
theorem Aee:SF 164 (AiI K) :=
  sF (Ayu K) aN Tryz.func164
theorem Aef:SF 112 (AiJ K) :=
  sF (Ayv K) (aF (Arq K) (aF (Nl K) (aF (Aee K) aN))) Tryz.func112
theorem Aeg:SF 198 (Wx K) :=
  sF (Rb K) aN Tryz.func198 fun x=>Alc K x.1 x.2.1
theorem Arr:SF 167 (Atb K) :=
  sF (Ayw K) (aF (Aeg K) aN) Tryz.func167
theorem UF:SF 153 (AcK K) :=
  sF (Ayx K) (aF (Aeg K) aN) Tryz.func153
theorem UG:SF 114 (AcL K) :=
  sF (Ayy K) (aF (UF K) (aF (Arr K) aN)) Tryz.func114
omit K
def AlG:Go.Shelf.Ren:=⟨fun | 6=>113 | 14=>165 | 15=>166 | 20=>202 | 21=>203 | 22=>204 | 23=>205 | 24=>206 | 25=>207 | 26=>208 | 27=>209 | 28=>210 | 29=>211 | 46=>244 | 47=>245 | 48=>246 | 49=>247 | 50=>248 | 57=>268 | n=>n,fun | 0=>0 | 3=>3 | 4=>4 | 5=>5 | 9=>9 | 22=>32 | 24=>78 | 25=>158 | 39=>200 | 45=>222 | 46=>223 | 50=>227 | 53=>230 | 55=>232 | 66=>265 | 70=>269 | 76=>287 | 77=>288 | n=>n,fun n=>n⟩
theorem Agg:SlLaysF0.n6 Tryz.prog AlG where
  mixed:=by kernel_rfl
  f6:=⟨ "slices.SortFunc[[]loop.example/g00943/impl.Motion,loop.example/g00943/impl.Motion]", by decide,Tryz.func113.trans (congrArg some (by kernel_rfl))⟩
  f14:=⟨ "slices.pdqsortCmpFunc[loop.example/g00943/impl.Motion]", by decide,Tryz.func165.trans (congrArg some (by kernel_rfl))⟩
  f15:=Tryz.func166.trans (congrArg some (by kernel_rfl))
  f20:=⟨ "slices.insertionSortCmpFunc[loop.example/g00943/impl.Motion]", by decide,Tryz.func202.trans (congrArg some (by kernel_rfl))⟩
  f21:=⟨ "slices.heapSortCmpFunc[loop.example/g00943/impl.Motion]", by decide,Tryz.func203.trans (congrArg some (by kernel_rfl))⟩
  f22:=⟨ "slices.breakPatternsCmpFunc[loop.example/g00943/impl.Motion]", by decide,Tryz.func204.trans (congrArg some (by kernel_rfl))⟩
  f23:=⟨ "slices.choosePivotCmpFunc[loop.example/g00943/impl.Motion]", by decide,Tryz.func205.trans (congrArg some (by kernel_rfl))⟩
  f24:=⟨ "slices.reverseRangeCmpFunc[loop.example/g00943/impl.Motion]", by decide,Tryz.func206.trans (congrArg some (by kernel_rfl))⟩
  f25:=⟨ "slices.partialInsertionSortCmpFunc[loop.example/g00943/impl.Motion]", by decide,Tryz.func207.trans (congrArg some (by kernel_rfl))⟩
  f26:=⟨ "slices.partitionEqualCmpFunc[loop.example/g00943/impl.Motion]", by decide,Tryz.func208.trans (congrArg some (by kernel_rfl))⟩
  f27:=⟨ "slices.partitionCmpFunc[loop.example/g00943/impl.Motion]", by decide,Tryz.func209.trans (congrArg some (by kernel_rfl))⟩
  f28:=Tryz.func210.trans (congrArg some (by kernel_rfl))
  f29:=Tryz.func211.trans (congrArg some (by kernel_rfl))
  f46:=⟨ "slices.siftDownCmpFunc[loop.example/g00943/impl.Motion]", by decide,Tryz.func244.trans (congrArg some (by kernel_rfl))⟩
  f47:=Tryz.func245.trans (congrArg some (by kernel_rfl))
  f48:=Tryz.func246.trans (congrArg some (by kernel_rfl))
  f49:=⟨ "slices.medianAdjacentCmpFunc[loop.example/g00943/impl.Motion]", by decide,Tryz.func247.trans (congrArg some (by kernel_rfl))⟩
  f50:=⟨ "slices.medianCmpFunc[loop.example/g00943/impl.Motion]", by decide,Tryz.func248.trans (congrArg some (by kernel_rfl))⟩
  f57:=⟨ "slices.order2CmpFunc[loop.example/g00943/impl.Motion]", by decide,Tryz.func268.trans (congrArg some (by kernel_rfl))⟩
  t0:=Tryz.underlying0
  a0:=Tryz.isAgg0
  z0:=Tryz.sizeOf0
  v0:=Tryz.zeroValue0
  t3:=Tryz.underlying3
  a3:=Tryz.isAgg3
  z3:=Tryz.sizeOf3
  v3:=Tryz.zeroValue3
  t4:=Tryz.underlying4
  a4:=Tryz.isAgg4
  z4:=Tryz.sizeOf4
  v4:=Tryz.zeroValue4
  t5:=Tryz.underlying5
  a5:=Tryz.isAgg5
  z5:=Tryz.sizeOf5
  v5:=Tryz.zeroValue5
  t9:=Tryz.underlying9
  a9:=Tryz.isAgg9
  z9:=Tryz.sizeOf9
  v9:=Tryz.zeroValue9
  t22:=Tryz.underlying32
  a22:=Tryz.isAgg32
  z22:=Tryz.sizeOf32
  v22:=Tryz.zeroValue32
  t25:=Tryz.underlying158
  a25:=Tryz.isAgg158
  z25:=Tryz.sizeOf158
  v25:=Tryz.zeroValue158
  t39:=Tryz.underlying200
  a39:=Tryz.isAgg200
  z39:=Tryz.sizeOf200
  v39:=Tryz.zeroValue200
  t45:=Tryz.underlying222
  a45:=Tryz.isAgg222
  z45:=Tryz.sizeOf222
  v45:=Tryz.zeroValue222
  t46:=Tryz.underlying223
  a46:=Tryz.isAgg223
  z46:=Tryz.sizeOf223
  v46:=Tryz.zeroValue223
  t50:=Tryz.underlying227
  a50:=Tryz.isAgg227
  z50:=Tryz.sizeOf227
  v50:=Tryz.zeroValue227
  t53:=Tryz.underlying230
  a53:=Tryz.isAgg230
  z53:=Tryz.sizeOf230
  v53:=Tryz.zeroValue230
  t55:=Tryz.underlying232
  a55:=Tryz.isAgg232
  z55:=Tryz.sizeOf232
  v55:=Tryz.zeroValue232
  t66:=Tryz.underlying265
  a66:=Tryz.isAgg265
  z66:=Tryz.sizeOf265
  v66:=Tryz.zeroValue265
  t70:=Tryz.underlying269
  a70:=Tryz.isAgg269
  z70:=Tryz.sizeOf269
  v70:=Tryz.zeroValue269
  t76:=Tryz.underlying287
  a76:=Tryz.isAgg287
  z76:=Tryz.sizeOf287
  v76:=Tryz.zeroValue287
  t77:=Tryz.underlying288
  a77:=Tryz.isAgg288
  z77:=Tryz.sizeOf288
  v77:=Tryz.zeroValue288
theorem Ars (K:Nat):Al Tryz.prog 113 (Atc K):=PN (e:=78) (s:=sM) Agg rfl rfl rfl Tryz.isAgg78 Tryz.sizeOf78
include K
theorem AvY:Al Tryz.prog 58 (Aos K) :=
  BC (eO (Tx K) (aF (UD K) (aF (UE K) (aF (Aef K) (aF (Ars K) (aF (UG K) aN))))) (v:=(Fw.cons (UG K) (rk 114) Fw.nil))) Tryz.func58 fun x=>Aqi K x.1 x.2.1
theorem AlH:SF 25 (Aux K) :=
  sF (AAa K) (aF (AvY K) aN) Tryz.func25
theorem AlI:SF 62 (Auy K) :=
  sF (AAb K) (aF (Kr K) aN) Tryz.func62
theorem Art:SF 129 (Atd K) :=
  sF (Ayz K) (aF (AlI K) (aF (UC K) aN)) Tryz.func129
theorem Aru:SF 130 (Wz K) :=
  sF (FH K) (aF (Jj K) (aF (UD K) (aF (UE K) (aF (Aef K) (aF (UG K) (aF (Aec K) (aF (Aed K) aN))))))) Tryz.func130 fun x=>Alf K x.1 x.2.1 x.2.2.1
theorem AlJ:SF 75 (AiP K) :=
  sF (Afl K) (aF (Art K) (aF (Aru K) aN)) Tryz.func75 fun x=>Aqk K x.1 x.2.1 x.2.2.1
theorem AlK:SF 93 (AuA K) :=
  sF (AAc K) (aF (Kr K) aN) Tryz.func93
theorem Aeh:SF 195 (AiS K) :=
  sF (AyA K) (aF (AlK K) (aF (Ks K) aN)) Tryz.func195
theorem Arv:SF 233 (AcT K) :=
  sF (Re K) aN Tryz.func233 fun x=>Alg K x.1 x.2.1
theorem Arw:SF 194 (Ate K) :=
  sF (AyB K) (aF (Arv K) aN) Tryz.func194
theorem Arx:Al Tryz.prog 148 (Atf K) :=
  BC (eO (AyC K) (aF (Arw K) (aF (Aeh K) aN)) (v:=(Fw.cons (Aeh K) (rk 195) Fw.nil))) Tryz.func148 fun x=>by kernel_rfl
theorem AvZ:SF 92 (AyD K) :=
  sF (AAd K) (aF (AlJ K) (aF (Arx K) aN)) Tryz.func92
omit K
def AlL:Go.Shelf.Ren:=⟨fun | 212=>234 | 263=>263 | 264=>264 | n=>n,fun | 46=>200 | 51=>230 | 53=>232 | 146=>252 | 148=>283 | n=>n,fun n=>n⟩
theorem Agh:Lays.n212 Tryz.prog AlL where
  mixed:=by kernel_rfl
  f212:=Tryz.func234.trans (congrArg some (by kernel_rfl))
  f263:=Tryz.func263.trans (congrArg some (by kernel_rfl))
  f264:=Tryz.func264.trans (congrArg some (by kernel_rfl))
  t46:=Tryz.underlying200
  a46:=Tryz.isAgg200
  z46:=Tryz.sizeOf200
  v46:=Tryz.zeroValue200
  t51:=Tryz.underlying230
  a51:=Tryz.isAgg230
  z51:=Tryz.sizeOf230
  v51:=Tryz.zeroValue230
  t53:=Tryz.underlying232
  a53:=Tryz.isAgg232
  z53:=Tryz.sizeOf232
  v53:=Tryz.zeroValue232
  t146:=Tryz.underlying252
  a146:=Tryz.isAgg252
  z146:=Tryz.sizeOf252
  v146:=Tryz.zeroValue252
  t148:=Tryz.underlying283
  a148:=Tryz.isAgg283
  z148:=Tryz.sizeOf283
  v148:=Tryz.zeroValue283
theorem Ary (K:Nat):Al Tryz.prog 234 (Atg K):=AgK Agh rfl
include K
theorem Arz:SF 196 (AcX K) :=
  sF (Rf K) (aF (Ary K) aN) Tryz.func196 fun x=>Alh K x.1 x.2.1
theorem UH:SF 30 (Zm K) :=
  sF (TD K) aN Tryz.func30 fun x=>Aqn K x.1
theorem O5:SF 98 (Afm K) :=
  sF (AAe K) aN Tryz.func98
theorem Aei:SF 131 (AiY K) :=
  sF (AyE K) (aF (Nl K) (aF (Aee K) aN)) Tryz.func131
theorem ArA:SF 151 (Ath K) :=
  sF (AyF K) (aF (Jj K) (aF (Aei K) aN)) Tryz.func151
omit K
def AlM:Go.Shelf.Ren:=⟨fun | 6=>152 | 14=>197 | 15=>166 | 20=>235 | 21=>236 | 22=>237 | 23=>238 | 24=>239 | 25=>240 | 26=>241 | 27=>242 | 28=>210 | 29=>211 | 46=>265 | 47=>245 | 48=>246 | 49=>266 | 50=>267 | 57=>279 | n=>n,fun | 0=>0 | 3=>3 | 4=>4 | 5=>5 | 9=>9 | 22=>69 | 24=>59 | 25=>188 | 39=>200 | 45=>222 | 46=>223 | 50=>227 | 53=>230 | 55=>232 | 66=>265 | 70=>269 | 76=>287 | 77=>288 | n=>n,fun n=>n⟩
theorem Agi:SlLaysF0.n6 Tryz.prog AlM where
  mixed:=by kernel_rfl
  f6:=⟨ "slices.SortFunc[[]loop.example/g00943/impl.Vec,loop.example/g00943/impl.Vec]", by decide,Tryz.func152.trans (congrArg some (by kernel_rfl))⟩
  f14:=⟨ "slices.pdqsortCmpFunc[loop.example/g00943/impl.Vec]", by decide,Tryz.func197.trans (congrArg some (by kernel_rfl))⟩
  f15:=Tryz.func166.trans (congrArg some (by kernel_rfl))
  f20:=⟨ "slices.insertionSortCmpFunc[loop.example/g00943/impl.Vec]", by decide,Tryz.func235.trans (congrArg some (by kernel_rfl))⟩
  f21:=⟨ "slices.heapSortCmpFunc[loop.example/g00943/impl.Vec]", by decide,Tryz.func236.trans (congrArg some (by kernel_rfl))⟩
  f22:=⟨ "slices.breakPatternsCmpFunc[loop.example/g00943/impl.Vec]", by decide,Tryz.func237.trans (congrArg some (by kernel_rfl))⟩
  f23:=⟨ "slices.choosePivotCmpFunc[loop.example/g00943/impl.Vec]", by decide,Tryz.func238.trans (congrArg some (by kernel_rfl))⟩
  f24:=⟨ "slices.reverseRangeCmpFunc[loop.example/g00943/impl.Vec]", by decide,Tryz.func239.trans (congrArg some (by kernel_rfl))⟩
  f25:=⟨ "slices.partialInsertionSortCmpFunc[loop.example/g00943/impl.Vec]", by decide,Tryz.func240.trans (congrArg some (by kernel_rfl))⟩
  f26:=⟨ "slices.partitionEqualCmpFunc[loop.example/g00943/impl.Vec]", by decide,Tryz.func241.trans (congrArg some (by kernel_rfl))⟩
  f27:=⟨ "slices.partitionCmpFunc[loop.example/g00943/impl.Vec]", by decide,Tryz.func242.trans (congrArg some (by kernel_rfl))⟩
  f28:=Tryz.func210.trans (congrArg some (by kernel_rfl))
  f29:=Tryz.func211.trans (congrArg some (by kernel_rfl))
  f46:=⟨ "slices.siftDownCmpFunc[loop.example/g00943/impl.Vec]", by decide,Tryz.func265.trans (congrArg some (by kernel_rfl))⟩
  f47:=Tryz.func245.trans (congrArg some (by kernel_rfl))
  f48:=Tryz.func246.trans (congrArg some (by kernel_rfl))
  f49:=⟨ "slices.medianAdjacentCmpFunc[loop.example/g00943/impl.Vec]", by decide,Tryz.func266.trans (congrArg some (by kernel_rfl))⟩
  f50:=⟨ "slices.medianCmpFunc[loop.example/g00943/impl.Vec]", by decide,Tryz.func267.trans (congrArg some (by kernel_rfl))⟩
  f57:=⟨ "slices.order2CmpFunc[loop.example/g00943/impl.Vec]", by decide,Tryz.func279.trans (congrArg some (by kernel_rfl))⟩
  t0:=Tryz.underlying0
  a0:=Tryz.isAgg0
  z0:=Tryz.sizeOf0
  v0:=Tryz.zeroValue0
  t3:=Tryz.underlying3
  a3:=Tryz.isAgg3
  z3:=Tryz.sizeOf3
  v3:=Tryz.zeroValue3
  t4:=Tryz.underlying4
  a4:=Tryz.isAgg4
  z4:=Tryz.sizeOf4
  v4:=Tryz.zeroValue4
  t5:=Tryz.underlying5
  a5:=Tryz.isAgg5
  z5:=Tryz.sizeOf5
  v5:=Tryz.zeroValue5
  t9:=Tryz.underlying9
  a9:=Tryz.isAgg9
  z9:=Tryz.sizeOf9
  v9:=Tryz.zeroValue9
  t22:=Tryz.underlying69
  a22:=Tryz.isAgg69
  z22:=Tryz.sizeOf69
  v22:=Tryz.zeroValue69
  t25:=Tryz.underlying188
  a25:=Tryz.isAgg188
  z25:=Tryz.sizeOf188
  v25:=Tryz.zeroValue188
  t39:=Tryz.underlying200
  a39:=Tryz.isAgg200
  z39:=Tryz.sizeOf200
  v39:=Tryz.zeroValue200
  t45:=Tryz.underlying222
  a45:=Tryz.isAgg222
  z45:=Tryz.sizeOf222
  v45:=Tryz.zeroValue222
  t46:=Tryz.underlying223
  a46:=Tryz.isAgg223
  z46:=Tryz.sizeOf223
  v46:=Tryz.zeroValue223
  t50:=Tryz.underlying227
  a50:=Tryz.isAgg227
  z50:=Tryz.sizeOf227
  v50:=Tryz.zeroValue227
  t53:=Tryz.underlying230
  a53:=Tryz.isAgg230
  z53:=Tryz.sizeOf230
  v53:=Tryz.zeroValue230
  t55:=Tryz.underlying232
  a55:=Tryz.isAgg232
  z55:=Tryz.sizeOf232
  v55:=Tryz.zeroValue232
  t66:=Tryz.underlying265
  a66:=Tryz.isAgg265
  z66:=Tryz.sizeOf265
  v66:=Tryz.zeroValue265
  t70:=Tryz.underlying269
  a70:=Tryz.isAgg269
  z70:=Tryz.sizeOf269
  v70:=Tryz.zeroValue269
  t76:=Tryz.underlying287
  a76:=Tryz.isAgg287
  z76:=Tryz.sizeOf287
  v76:=Tryz.zeroValue287
  t77:=Tryz.underlying288
  a77:=Tryz.isAgg288
  z77:=Tryz.sizeOf288
  v77:=Tryz.zeroValue288
theorem ArB (K:Nat):Al Tryz.prog 152 (Ati K):=PN (e:=59) (s:=sV) Agi rfl rfl rfl Tryz.isAgg59 Tryz.sizeOf59
include K
theorem ArC:SF 154 (Ac1 K) :=
  sF (J0 K) aN Tryz.func154 fun x=>Ali K x.1
theorem AlN:Al Tryz.prog 96 (Ai0 K) :=
  BC (eO (Afn K) (aF (ArA K) (aF (ArB K) (aF (UF K) (aF (ArC K) aN)))) (v:=(Fw.cons (UF K) (rk 153) Fw.nil))) Tryz.func96 fun x=>Aqq K x.1 x.2.1 x.2.2.1
theorem ArD:SF 149 (Ac5 K) :=
  sF (J2 K) (aF (UH K) (aF (UB K) (aF (AlN K) (aF (O5 K) (aF (Arz K) aN))))) Tryz.func149 fun x=>All K x.1 x.2.1
theorem ArE:SF 150 (Atj K) :=
  sF (AyG K) (aF (Jj K) (aF (O5 K) aN)) Tryz.func150
theorem Av0:SF 94 (Aoz K) :=
  sF (TG K) (aF (ArD K) (aF (ArE K) aN)) Tryz.func94 fun x=>Aqt K x.1 x.2.1 x.2.2.1
theorem Av1:SF 95 (AoB K) :=
  sF (Afp K) (aF (UB K) (aF (O5 K) aN)) Tryz.func95 fun x=>Aqu K x.1 x.2.1 x.2.2.1 x.2.2.2.1
theorem Av2:SF 47 (AoC K) :=
  sF (TH K) (aF (UH K) (aF (AvZ K) (aF (AlK K) (aF (Av0 K) (aF (Av1 K) (aF (AlN K) (aF (Jj K) (aF (O5 K) aN)))))))) Tryz.func47 fun x=>Aqx K x.1 x.2.1 x.2.2.1 x.2.2.2.1 x.2.2.2.2.1
attribute [local instance] cwZ in
theorem Aai:HS Tryz.prog 20 (AoE K) :=
  AgL (eO (Afq K) (aF (Al.toZ (AlH K)) (aF (Al.toZ (AvQ K)) (aF (Al.toZ (Aag K)) (aF (Al.toZ (Av2 K)) aN)))) (q:=(IL.cons (AvX K) (rk 46) IL.nil))) Tryz.func20 fun x=>Aqy K x.1
attribute [local instance] cwZ in
theorem Azg:Al Tryz.prog 6 (f6M K) :=
  BC (eO (f6E K) aN (c:=(H6.cons (Aai K) (rk 20) H6.nil))) Tryz.func6 fun x=>by kernel_rfl
theorem Lp:SF 48 (TK K) :=
  sF (Afr K) aN Tryz.func48 fun x=>Aqz K x.1 x.2.1
theorem Aej:SF 103 (WO K) :=
  sF (Rg K) (aF (Aad K) aN) Tryz.func103 fun x=>Alm K x.1
theorem ArF:SF 199 (Atk K) :=
  sF (AyH K) (aF (Aej K) aN) Tryz.func199
theorem UI:SF 156 (Ri K) :=
  sF (Rh K) (aF (ArF K) aN) Tryz.func156 fun x=>Aln K x.1
theorem Av3:SF 99 (AyI K) :=
  sF (AAf K) (aF (Lp K) (aF (Uu K) (aF (UI K) aN))) Tryz.func99
theorem ArG:SF 157 (Atl K) :=
  sF (AyJ K) (aF (Lp K) (aF (Nj K) (aF (UI K) aN))) Tryz.func157
theorem Aek:SF 102 (Aje K) :=
  sF (AyK K) (aF (Lp K) (aF (Kq K) (aF (UI K) aN))) Tryz.func102
theorem ArH:SF 100 (Atm K) :=
  sF (AyL K) (aF (Lp K) (aF (Alx K) (aF (Aek K) (aF (ArG K) aN)))) Tryz.func100
theorem ArI:SF 158 (Atn K) :=
  sF (AyM K) (aF (AdQ K) (aF (Nj K) (aF (AdR K) aN))) Tryz.func158
theorem ArJ:SF 101 (Ato K) :=
  sF (AyN K) (aF (Uv K) (aF (Kq K) (aF (AdV K) (aF (ArI K) aN)))) Tryz.func101
theorem Av4:SF 49 (AyO K) :=
  sF (AAg K) (aF (Lp K) (aF (Z9 K) (aF (Av3 K) (aF (ArH K) (aF (ArJ K) (aF (Aek K) (aF (Aej K) aN))))))) Tryz.func49
theorem Av5:SF 50 (AoI K) :=
  sF (TN K) (aF (Uz K) aN) Tryz.func50 fun x=>AqD K x.1 x.2.1 x.2.2.1
theorem Aaj:HT Tryz.prog 21 (AoK K) :=
  AgM (eO (Aft K) (aF (Aaa K) (aF (O4 K) (aF (Lp K) (aF (Av4 K) (aF (Av5 K) aN)))))) Tryz.func21 fun x=>AqE K x.1
theorem Azh:Al Tryz.prog 7 (f7M K) :=
  BC (eO (f7E K) (aF (Aaa K) (aF (O4 K) (aF (Uz K) aN))) (o:=(H7.cons (Aaj K) (rk 21) H7.nil))) Tryz.func7 fun x=>Avv K x.1
attribute [local instance] cwZ in
theorem Azi:Al Tryz.prog 8 (f8M K) :=
  BC (eO (f8E K) (aF (Al.toZ (AlH K)) aN) (c:=(H6.cons (Aai K) (rk 20) H6.nil))) Tryz.func8 fun x=>by kernel_rfl
theorem Azj:Al Tryz.prog 9 (f9M K) :=
  BC (eO (f9E K) (aF (O4 K) aN) (o:=(H7.cons (Aaj K) (rk 21) H7.nil))) Tryz.func9 fun x=>by kernel_rfl
attribute [local instance] cwZ in
theorem Av6:Al Tryz.prog 10 (AyP K) :=
  BC (eO (AAh K) aN (c:=(H6.cons (Aai K) (rk 20) H6.nil))) Tryz.func10 fun x=>by kernel_rfl
theorem Av7:Al Tryz.prog 11 (AyQ K) :=
  BC (eO (AAi K) aN (o:=(H7.cons (Aaj K) (rk 21) H7.nil))) Tryz.func11 fun x=>by kernel_rfl
theorem Av8:Al Tryz.prog 12 (AoN K) :=
  BC (eO (Afu K) aN (p:=(BR.cons (Ft K) (rk 26) (BR.cons (Alv K) (rk 27) BR.nil))) (n:=(Jx.cons (Alq K) (rk 19) Jx.nil))) Tryz.func12 fun x=>AqF K x.1
theorem Ael:SF 119 (Ajr K) :=
  sF (AyR K) (aF (Kr K) aN) Tryz.func119
theorem ArK:SF 168 (Adm K) :=
  sF (Rj K) aN Tryz.func168 fun x=>Alo K x.1 x.2.1
theorem ArL:SF 118 (Atp K) :=
  sF (AyS K) (aF (ArK K) aN) Tryz.func118
theorem Av9:Al Tryz.prog 65 (AyT K) :=
  BC (eO (AAj K) (aF (ArL K) (aF (Ael K) aN)) (v:=(Fw.cons (Ael K) (rk 119) Fw.nil))) Tryz.func65 fun x=>by kernel_rfl
theorem AlO:SF 28 (AuK K) :=
  sF (AAk K) (aF (AlI K) (aF (UC K) (aF (UB K) (aF (Av9 K) aN)))) Tryz.func28
theorem AlP:SF 66 (AuL K) :=
  sF (AAl K) (aF (Jj K) (aF (O5 K) aN)) Tryz.func66
omit K
def Xz:Go.Shelf.Ren:=⟨fun | 156=>170 | 165=>212 | 166=>213 | 169=>214 | 240=>249 | 241=>250 | 276=>269 | 277=>270 | n=>n,fun | 0=>0 | 3=>3 | 4=>4 | 5=>5 | 9=>9 | 20=>20 | 31=>84 | 37=>22 | 70=>233 | 72=>235 | 75=>238 | 76=>239 | 80=>241 | 127=>271 | 164=>290 | n=>n,fun n=>n⟩
theorem Agj:Lays.n156 Tryz.prog Xz where
  mixed:=by kernel_rfl
  f156:=Tryz.func170.trans (congrArg some (by kernel_rfl))
  f165:=Tryz.func212.trans (congrArg some (by kernel_rfl))
  f166:=Tryz.func213.trans (congrArg some (by kernel_rfl))
  f169:=Tryz.func214.trans (congrArg some (by kernel_rfl))
  f240:=Tryz.func249.trans (congrArg some (by kernel_rfl))
  f241:=Tryz.func250.trans (congrArg some (by kernel_rfl))
  f276:=Tryz.func269.trans (congrArg some (by kernel_rfl))
  f277:=Tryz.func270.trans (congrArg some (by kernel_rfl))
  t0:=Tryz.underlying0
  a0:=Tryz.isAgg0
  z0:=Tryz.sizeOf0
  v0:=Tryz.zeroValue0
  t3:=Tryz.underlying3
  a3:=Tryz.isAgg3
  z3:=Tryz.sizeOf3
  v3:=Tryz.zeroValue3
  t4:=Tryz.underlying4
  a4:=Tryz.isAgg4
  z4:=Tryz.sizeOf4
  v4:=Tryz.zeroValue4
  t9:=Tryz.underlying9
  a9:=Tryz.isAgg9
  z9:=Tryz.sizeOf9
  v9:=Tryz.zeroValue9
  t20:=Tryz.underlying20
  a20:=Tryz.isAgg20
  z20:=Tryz.sizeOf20
  v20:=Tryz.zeroValue20
  t31:=Tryz.underlying84
  a31:=Tryz.isAgg84
  z31:=Tryz.sizeOf84
  v31:=Tryz.zeroValue84
  t37:=Tryz.underlying22
  a37:=Tryz.isAgg22
  z37:=Tryz.sizeOf22
  v37:=Tryz.zeroValue22
  t70:=Tryz.underlying233
  a70:=Tryz.isAgg233
  z70:=Tryz.sizeOf233
  v70:=Tryz.zeroValue233
  t72:=Tryz.underlying235
  a72:=Tryz.isAgg235
  z72:=Tryz.sizeOf235
  v72:=Tryz.zeroValue235
  t75:=Tryz.underlying238
  a75:=Tryz.isAgg238
  z75:=Tryz.sizeOf238
  v75:=Tryz.zeroValue238
  t76:=Tryz.underlying239
  a76:=Tryz.isAgg239
  z76:=Tryz.sizeOf239
  v76:=Tryz.zeroValue239
  t127:=Tryz.underlying271
  a127:=Tryz.isAgg271
  z127:=Tryz.sizeOf271
  v127:=Tryz.zeroValue271
  t164:=Tryz.underlying290
  a164:=Tryz.isAgg290
  z164:=Tryz.sizeOf290
  v164:=Tryz.zeroValue290
theorem Aak:Builder.Extra Tryz.prog Xz where
  sizeBuilder:=by kernel_rfl
  liesBuilder:=by kernel_rfl
  t5:=Tryz.underlying5
  a5:=Tryz.isAgg5
  z5:=Tryz.sizeOf5
  v5:=Tryz.zeroValue5
  infoByte:=by kernel_rfl
  cellsByte:=by kernel_rfl
  sizeByte:=by kernel_rfl
  neB5:=by decide
theorem ArM (K:Nat):@Al cwZ Tryz.prog 170 (Atq K):=Aa4 (e:=9) Agj Aak rfl
include K
attribute [local instance] cwZ in
theorem Aem:SF 121 (WQ K) :=
  sF (Rk K) (aF (Al.toZ (Aah K)) (aF (ArM K) aN)) Tryz.func121 fun x=>Alp K x.1 x.2.1
attribute [local instance] cwZ in
theorem Awa:SF 67 (AyU K) :=
  sF (AAm K) (aF (Al.toZ (Ks K)) (aF (Aem K) aN)) Tryz.func67
attribute [local instance] cwZ in
theorem Awb:SF 29 (AoS K) :=
  sF (Afv K) (aF (Al.toZ (AlP K)) (aF (Awa K) (aF (Al.toZ (Aah K)) aN))) Tryz.func29 fun x=>AqI K x.1 x.2.1
attribute [local instance] cwZ in
theorem Awc:SF 69 (AyV K) :=
  sF (AAn K) (aF (Al.toZ (UC K)) (aF (Aem K) aN)) Tryz.func69
attribute [local instance] cwZ in
theorem Awd:SF 31 (AyW K) :=
  sF (AAo K) (aF (Awc K) aN) Tryz.func31
attribute [local instance] cwZ in
theorem Awe:SF 13 (AyX K) :=
  sF (AAp K) (aF (Al.toZ (AlO K)) (aF (Awb K) (aF (Al.toZ (UH K)) (aF (Awd K) aN)))) Tryz.func13
theorem Awf:SF 36 (AoW K) :=
  sF (Afw K) aN Tryz.func36 fun x=>AqJ K x.1 x.2.1
theorem Awg:SF 15 (AyY K) :=
  sF (AAq K) (aF (Awf K) aN) Tryz.func15
theorem Awh:SF 16 (AoX K) :=
  sF (Afx K) aN Tryz.func16 fun x=>AqK K x.1 x.2.1
theorem Awi:SF 37 (AyZ K) :=
  sF (AAr K) (aF (AlO K) (aF (AlJ K) aN)) Tryz.func37
theorem Awj:SF 76 (AoZ K) :=
  sF (Afy K) (aF (UH K) (aF (AlP K) (aF (Aei K) aN))) Tryz.func76 fun x=>AqL K x.1 x.2.1
theorem Awk:SF 38 (Ao0 K) :=
  sF (AfA K) (aF (Awj K) aN) Tryz.func38 fun x=>AqM K x.1 x.2.1
theorem Awl:SF 17 (Ay0 K) :=
  sF (AAs K) (aF (Awi K) (aF (Awk K) aN)) Tryz.func17
attribute [local instance] cwZ in
theorem Azk:SF 3 (f3M K) :=
  sF (f3E K) (aF (Al.toZ (Aze K)) (aF (Al.toZ (Azf K)) (aF (Azg K) (aF (Al.toZ (Azh K)) (aF (Azi K) (aF (Al.toZ (Azj K)) (aF (Av6 K) (aF (Al.toZ (Av7 K)) (aF (Al.toZ (Av8 K)) (aF (Awe K) (aF (Al.toZ (AlA K)) (aF (Al.toZ (Awg K)) (aF (Al.toZ (Awh K)) (aF (Al.toZ (Awl K)) aN)))))))))))))) Tryz.func3
end Go.Proofs.YtkemdhpdfaejgaaGreatDoor.X
