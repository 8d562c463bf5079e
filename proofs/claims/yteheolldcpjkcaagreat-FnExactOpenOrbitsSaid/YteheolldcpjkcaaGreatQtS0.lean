/- Functions of the program as plain Lean functions, and that the program does what they say. Printed by gen.py. -/
import Derived.Test.YteheolldcpjkcaaGreatQtR0
namespace Go.Proofs.YteheolldcpjkcaaGreat.X
open Go
set_option maxRecDepth 100000
attribute [local instance] cwD
set_option linter.unusedVariables false
theorem rk (n:Nat) (h:UC Tryz.prog n=true:=by kernel_rfl):BZ Tryz.prog n:=Qr h
abbrev SF [CW] (n:Nat) (m:Mdl):Prop:=Bk Tryz.prog n m
theorem aF [CW] {f:Nat} {m:Mdl} {l:List (Nat×Mdl)} (a:Bk Tryz.prog f m) (c:DE Tryz.prog l) (b:UC Tryz.prog f=true:=by kernel_rfl):DE Tryz.prog ((f,m) :: l):=DE.cons a (Qr b) c
theorem aN [CW]:DE Tryz.prog []:=DE.nil
theorem eO [CW] (E:Env) (a:DE Tryz.prog E.fs) (h:Zx Tryz.prog E.ty E.eq E.mt=true:=by exact QE) (p:K0 Tryz.prog E.pf:=by exact K0.nil) (n:K1 Tryz.prog E.nf:=by exact K1.nil) (q:K2 Tryz.prog E.qf:=by exact K2.nil) (c:K3 Tryz.prog E.cf:=by exact K3.nil) (v:D3 Tryz.prog E.vf:=by exact D3.nil) (o:K4 Tryz.prog E.xf:=by exact K4.nil):AA Tryz.prog E:=Zy h Jj a p n q c v o
theorem sF [CW] {f:Nat} {fn:Func} {ps:List (PM×Sh)} {rs:List Sh} {F:AT ps→Option (RT (AU ps++rs))} (E:Env) (a:DE Tryz.prog E.fs) (hfn:Tryz.prog.funcs[f]? = some fn) (hF:∀ x,Od E fn ps rs x=F x:=by intro x;kernel_rfl) (h:Zx Tryz.prog E.ty E.eq E.mt=true:=by exact QE) (p:K0 Tryz.prog E.pf:=by exact K0.nil) (n:K1 Tryz.prog E.nf:=by exact K1.nil) (q:K2 Tryz.prog E.qf:=by exact K2.nil) (c:K3 Tryz.prog E.cf:=by exact K3.nil) (v:D3 Tryz.prog E.vf:=by exact D3.nil) (o:K4 Tryz.prog E.xf:=by exact K4.nil):SF f ⟨ps,rs,F⟩:=Df (Zy h Jj a p n q c v o) hfn hF
variable (K:Nat)
include K
theorem AhD:SF 7 (f7M K) :=
  sF (f7E K) aN Tryz.func7
theorem Ae3:SF 23 (Agg K) :=
  sF (AhQ K) aN Tryz.func23
theorem AhE:SF 9 (f9M K) :=
  sF (f9E K) aN Tryz.func9
theorem Abu:SF 120 (Ac1 K) :=
  sF (Agh K) aN Tryz.func120
theorem Yx:SF 11 (Ad2 K) :=
  sF (AhR K) aN Tryz.func11
theorem Ae4:SF 50 (Agi K) :=
  sF (AhS K) (aF (Yx K) (aF (Abu K) aN)) Tryz.func50
theorem Ae5:SF 10 (ZH K) :=
  sF (UG K) (aF (Ae4 K) aN) Tryz.func10 fun x=>AaN K x.1
theorem Ae6:SF 82 (Agj K) :=
  sF (AhT K) (aF (Yx K) aN) Tryz.func82
theorem Ae7:SF 25 (ZJ K) :=
  sF (UH K) (aF (Ae6 K) aN) Tryz.func25 fun x=>AaO K x.1
theorem NG:SF 101 (Sy K) :=
  sF (Agk K) aN Tryz.func101
theorem NH:SF 112 (Sz K) :=
  sF (Agl K) (aF (NG K) aN) Tryz.func112
theorem Ae8:SF 43 (ZK K) :=
  sF (UI K) (aF (NG K) (aF (NH K) aN)) Tryz.func43 fun x=>AaP K x.1
theorem Ua:SF 200 (Wd K) :=
  sF (Agm K) aN Tryz.func200
theorem Abv:SF 201 (Ac2 K) :=
  sF (Agn K) (aF (NG K) aN) Tryz.func201
theorem NI:SF 138 (SB K) :=
  sF (Ago K) (aF (Ua K) (aF (Abv K) aN)) Tryz.func138
theorem Abw:SF 269 (Ac3 K) :=
  sF (Agp K) (aF (NH K) aN) Tryz.func269
theorem Abx:SF 270 (Ac4 K) :=
  sF (Agq K) aN Tryz.func270
theorem Aby:SF 248 (Ac5 K) :=
  sF (Agr K) (aF (Abw K) (aF (Abx K) aN)) Tryz.func248
theorem Abz:SF 271 (Ac6 K) :=
  sF (Ags K) aN Tryz.func271
theorem NJ:SF 152 (SE K) :=
  sF (Agt K) aN Tryz.func152
theorem AbA:SF 249 (Ac7 K) :=
  sF (Agu K) (aF (NJ K) (aF (Abz K) aN)) Tryz.func249
theorem AbB:SF 205 (Ac8 K) :=
  sF (Agv K) (aF (Ua K) (aF (Aby K) (aF (AbA K) aN))) Tryz.func205
theorem AbC:SF 250 (Ac9 K) :=
  sF (Agw K) aN Tryz.func250
theorem NK:SF 153 (SJ K) :=
  sF (Agx K) aN Tryz.func153
omit K
theorem PL (K:Nat):∀ n,Bk Tryz.prog 272 ⟨[(.ro,sI),(.ro,sI)],[sI],fun x=>HW K n x.1 x.2.1⟩
  | 0=>fun _ _ _ _ _ _ _ _ _ h=>by cases h
  | n+1=>Df (Zy (E:=Ada K (HW K n)) QE Jj (DE.cons (PL K n) (rk 272) DE.nil) K0.nil K1.nil K2.nil K3.nil D3.nil K4.nil) Tryz.func272 fun x=>Yd K (HW K n) x.1 x.2.1
theorem AbD (K:Nat):Bk Tryz.prog 272 (Adb K):=PL K K
include K
theorem Ub:SF 165 (Wh K) :=
  sF (Agy K) aN Tryz.func165
theorem AbE:SF 273 (Adc K) :=
  sF (Agz K) aN Tryz.func273
theorem AbF:SF 251 (SL K) :=
  sF (Gx K) (aF (Ub K) (aF (AbD K) (aF (AbE K) aN))) Tryz.func251 fun x=>Yg K x.1
theorem AbG:SF 206 (Add K) :=
  sF (AgA K) (aF (NK K) (aF (AbC K) (aF (AbF K) aN))) Tryz.func206
theorem AbH:SF 147 (Ade K) :=
  sF (AgB K) (aF (NH K) (aF (NI K) (aF (AbB K) (aF (AbG K) aN)))) Tryz.func147
theorem RA:SF 81 (ZL K) :=
  sF (AhU K) (aF (Ub K) aN) Tryz.func81
theorem AbI:SF 148 (Adf K) :=
  sF (AgC K) (aF (RA K) aN) Tryz.func148
theorem AbJ:SF 252 (Adg K) :=
  sF (AgD K) aN Tryz.func252
theorem Ae9:SF 71 (ZN K) :=
  sF (UJ K) aN Tryz.func71 fun x=>AaQ K x.1 x.2.1
theorem AbK:SF 207 (Adh K) :=
  sF (AgE K) (aF (Ae9 K) (aF (AbJ K) aN)) Tryz.func207
theorem Uc:SF 208 (Wn K) :=
  sF (AgF K) aN Tryz.func208
theorem Ud:SF 149 (Wo K) :=
  sF (AgG K) (aF (AbK K) (aF (Uc K) aN)) Tryz.func149
theorem AbL:SF 141 (Adi K) :=
  sF (AgH K) aN Tryz.func141
theorem Afa:SF 58 (AgI K) :=
  sF (AhV K) (aF (AbL K) aN) Tryz.func58
theorem AbM:SF 181 (SQ K) :=
  sF (Lc K) (aF (Ud K) aN) Tryz.func181 fun x=>Yh K x.1 x.2.1
theorem AbN:SF 150 (Adj K) :=
  sF (AgJ K) (aF (AbM K) aN) Tryz.func150
theorem AbO:SF 209 (Adk K) :=
  sF (AgK K) aN Tryz.func209
theorem AbP:SF 151 (Adl K) :=
  sF (AgL K) (aF (NJ K) (aF (NK K) (aF (AbO K) aN))) Tryz.func151
theorem Afb:SF 66 (Wt K) :=
  sF (Hi K) (aF (Afa K) (aF (NI K) (aF (AbH K) (aF (AbI K) (aF (Ud K) (aF (AbN K) (aF (AbP K) aN))))))) Tryz.func66 fun x=>AaU K x.1 x.2.1 x.2.2.1
theorem AbQ:SF 115 (Adm K) :=
  sF (AgM K) (aF (NI K) aN) Tryz.func115
theorem Afc:SF 46 (AgN K) :=
  sF (AhW K) (aF (Afb K) (aF (AbQ K) aN)) Tryz.func46
theorem Afd:SF 78 (AgO K) :=
  sF (AhX K) (aF (Ae8 K) (aF (Afc K) aN)) Tryz.func78
theorem Afe:SF 67 (ZR K) :=
  sF (MP K) aN Tryz.func67 fun x=>AaV K x.1
theorem Aff:SF 69 (AgP K) :=
  sF (AhY K) (aF (NJ K) (aF (NK K) aN)) Tryz.func69
theorem AbR:SF 184 (Adn K) :=
  sF (AgQ K) (aF (Aff K) (aF (RA K) aN)) Tryz.func184
theorem AbS:SF 183 (SY K) :=
  sF (Ld K) (aF (Uc K) aN) Tryz.func183 fun x=>Yi K x.1 x.2.1
theorem AbT:SF 119 (S0 K) :=
  sF (Lg K) (aF (AbS K) (aF (AbR K) aN)) Tryz.func119 fun x=>Yj K x.1 x.2.1 x.2.2.1
theorem Afg:SF 79 (ZV K) :=
  sF (UK K) (aF (Afe K) (aF (AbT K) aN)) Tryz.func79 fun x=>AaY K x.1 x.2.1
theorem Afh:SF 80 (ZW K) :=
  sF (UL K) aN Tryz.func80 fun x=>AaZ K x.1 x.2.1
theorem Afi:SF 24 (ZX K) :=
  sF (MU K) (aF (Afd K) (aF (Afg K) (aF (Afh K) (aF (RA K) aN)))) Tryz.func24 fun x=>Aa2 K x.1 x.2.1 x.2.2.1 x.2.2.2.1
theorem IK:SF 172 (OL K) :=
  sF (AgR K) aN Tryz.func172
theorem AbU:SF 154 (Ado K) :=
  sF (AgS K) (aF (IK K) aN) Tryz.func154
theorem Yy:SF 62 (Aec K) :=
  sF (AhZ K) aN Tryz.func62
theorem AbV:SF 155 (Adp K) :=
  sF (AgT K) (aF (Yy K) (aF (IK K) aN)) Tryz.func155
theorem AbW:SF 185 (Adq K) :=
  sF (AgU K) (aF (AbU K) (aF (AbV K) aN)) Tryz.func185
theorem AbX:SF 160 (Adr K) :=
  sF (AgV K) aN Tryz.func160
theorem IL:SF 162 (OM K) :=
  sF (AgW K) aN Tryz.func162
theorem AbY:SF 213 (Ads K) :=
  sF (AgX K) aN Tryz.func213
theorem AbZ:SF 158 (Ta K) :=
  sF (Lh K) (aF (IL K) (aF (AbY K) aN)) Tryz.func158 fun x=>Yk K x.1
theorem Ab0:SF 170 (Adt K) :=
  sF (AgY K) aN Tryz.func170
theorem JZ:SF 90 (UN K) :=
  sF (Ah0 K) (aF (Ab0 K) aN) Tryz.func90
theorem Ab1:SF 259 (Adu K) :=
  sF (AgZ K) (aF (JZ K) aN) Tryz.func259
theorem Ue:SF 258 (WM K) :=
  sF (Ag0 K) (aF (IL K) (aF (Ab1 K) aN)) Tryz.func258
theorem Ab2:SF 274 (Td K) :=
  sF (Lj K) aN Tryz.func274 fun x=>Yl K x.1 x.2.1
theorem Ab3:SF 257 (Tf K) :=
  sF (Lk K) (aF (Ab2 K) aN) Tryz.func257 fun x=>Ym K x.1 x.2.1
theorem Ab4:Bk Tryz.prog 223 (Adv K) :=
  Df (eO (Ag1 K) (aF (AbZ K) (aF (AbX K) (aF (Ab3 K) (aF (Ue K) aN)))) (v:=(D3.cons (Ue K) (rk 258) D3.nil))) Tryz.func223 fun x=>by kernel_rfl
theorem Ab5:SF 212 (Ti K) :=
  sF (Ll K) aN Tryz.func212 fun x=>Yn K x.1 x.2.1
theorem Ab6:SF 157 (Adw K) :=
  sF (Ag2 K) (aF (Ab5 K) aN) Tryz.func157
theorem Uf:SF 190 (OS K) :=
  sF (Lm K) aN Tryz.func190 fun x=>Yo K x.1 x.2.1
theorem Ab7:SF 245 (Adx K) :=
  sF (Ag3 K) (aF (Uf K) aN) Tryz.func245
theorem NL:SF 127 (Tm K) :=
  sF (Ag4 K) (aF (Uf K) aN) Tryz.func127
theorem Ab8:SF 197 (Ady K) :=
  sF (Ag5 K) (aF (NL K) (aF (Ab7 K) aN)) Tryz.func197
theorem Ab9:SF 224 (Adz K) :=
  sF (Ag6 K) aN Tryz.func224
theorem Aca:SF 236 (AdA K) :=
  sF (Ag7 K) aN Tryz.func236
theorem Ug:SF 214 (WQ K) :=
  sF (Ag8 K) aN Tryz.func214
theorem Acb:SF 193 (AdB K) :=
  sF (Ag9 K) (aF (IL K) (aF (Ug K) (aF (Aca K) aN))) Tryz.func193
theorem Acc:SF 192 (AdC K) :=
  sF (Aha K) (aF (JZ K) aN) Tryz.func192
theorem Acd:SF 186 (OV K) :=
  sF (DN K) (aF (JZ K) (aF (Ab6 K) (aF (Acc K) (aF (Acb K) (aF (Ab8 K) (aF (Ab4 K) (aF (Ab9 K) aN))))))) Tryz.func186 fun x=>Yr K x.1 x.2.1 x.2.2.1
theorem Ace:SF 121 (Tr K) :=
  sF (Lo K) (aF (AbW K) (aF (Acd K) aN)) Tryz.func121 fun x=>Ys K x.1 x.2.1 x.2.2.1
theorem Acf:SF 159 (AdD K) :=
  sF (Ahb K) (aF (IK K) aN) Tryz.func159
theorem Afj:SF 76 (Ahc K) :=
  sF (Ah1 K) (aF (Acf K) aN) Tryz.func76
theorem Afk:SF 96 (Ahd K) :=
  sF (Ah2 K) (aF (IK K) aN) Tryz.func96
theorem Uh:SF 111 (WS K) :=
  sF (Ahe K) (aF (Afj K) (aF (Afk K) aN)) Tryz.func111
theorem Acg:SF 168 (Tv K) :=
  sF (Lq K) aN Tryz.func168 fun x=>Yt K x.1 x.2.1
theorem Yz:SF 87 (Aee K) :=
  sF (Ah3 K) (aF (Acg K) aN) Tryz.func87
theorem Afl:Bk Tryz.prog 42 (Ahf K) :=
  Df (eO (Ah4 K) (aF (Yz K) (aF (Uh K) aN)) (v:=(D3.cons (Uh K) (rk 111) D3.nil))) Tryz.func42 fun x=>by kernel_rfl
theorem Afm:SF 83 (Ahg K) :=
  sF (Ah5 K) (aF (Afl K) (aF (Ace K) aN)) Tryz.func83
omit K
def YA:Go.Shelf.Ren:=⟨fun | 212=>218 | 263=>255 | 264=>256 | n=>n,fun | 46=>124 | 51=>229 | 53=>52 | 146=>270 | 148=>272 | n=>n,fun n=>n⟩
theorem Vj:Lays.n212 Tryz.prog YA where
  mixed:=by kernel_rfl
  f212:=Tryz.func218.trans (congrArg some (by kernel_rfl))
  f263:=Tryz.func255.trans (congrArg some (by kernel_rfl))
  f264:=Tryz.func256.trans (congrArg some (by kernel_rfl))
  t46:=Tryz.underlying124
  a46:=Tryz.isAgg124
  z46:=Tryz.sizeOf124
  v46:=Tryz.zeroValue124
  t51:=Tryz.underlying229
  a51:=Tryz.isAgg229
  z51:=Tryz.sizeOf229
  v51:=Tryz.zeroValue229
  t53:=Tryz.underlying52
  a53:=Tryz.isAgg52
  z53:=Tryz.sizeOf52
  v53:=Tryz.zeroValue52
  t146:=Tryz.underlying270
  a146:=Tryz.isAgg270
  z146:=Tryz.sizeOf270
  v146:=Tryz.zeroValue270
  t148:=Tryz.underlying272
  a148:=Tryz.isAgg272
  z148:=Tryz.sizeOf272
  v148:=Tryz.zeroValue272
theorem Ach (K:Nat):Bk Tryz.prog 218 (AdE K):=Vx Vj rfl
include K
theorem Aci:SF 166 (Tx K) :=
  sF (Lr K) (aF (Ach K) aN) Tryz.func166 fun x=>Yu K x.1 x.2.1
theorem Afn:SF 99 (Aac K) :=
  sF (M5 K) aN Tryz.func99 fun x=>Abc K x.1
theorem Acj:SF 100 (AdF K) :=
  sF (Ahh K) aN Tryz.func100
theorem Ack:SF 164 (AdG K) :=
  sF (Ahi K) (aF (IL K) (aF (Ug K) aN)) Tryz.func164
theorem Acl:SF 125 (AdH K) :=
  sF (Ahj K) (aF (JZ K) (aF (Ack K) aN)) Tryz.func125
omit K
def YB:Go.Shelf.Ren:=⟨fun | 6=>126 | 14=>188 | 15=>189 | 20=>225 | 21=>226 | 22=>227 | 23=>228 | 24=>229 | 25=>230 | 26=>231 | 27=>232 | 28=>233 | 29=>234 | 46=>260 | 47=>261 | 48=>262 | 49=>263 | 50=>264 | 57=>275 | n=>n,fun | 0=>0 | 3=>3 | 4=>4 | 5=>5 | 9=>9 | 22=>87 | 24=>34 | 25=>169 | 39=>124 | 45=>251 | 46=>252 | 50=>256 | 53=>229 | 55=>52 | 66=>275 | 70=>279 | 76=>287 | 77=>288 | n=>n,fun n=>n⟩
theorem Vk:SlLaysF0.n6 Tryz.prog YB where
  mixed:=by kernel_rfl
  f6:=⟨ "slices.SortFunc[[]loop.example/g00943/impl.Vec,loop.example/g00943/impl.Vec]", by decide,Tryz.func126.trans (congrArg some (by kernel_rfl))⟩
  f14:=⟨ "slices.pdqsortCmpFunc[loop.example/g00943/impl.Vec]", by decide,Tryz.func188.trans (congrArg some (by kernel_rfl))⟩
  f15:=Tryz.func189.trans (congrArg some (by kernel_rfl))
  f20:=⟨ "slices.insertionSortCmpFunc[loop.example/g00943/impl.Vec]", by decide,Tryz.func225.trans (congrArg some (by kernel_rfl))⟩
  f21:=⟨ "slices.heapSortCmpFunc[loop.example/g00943/impl.Vec]", by decide,Tryz.func226.trans (congrArg some (by kernel_rfl))⟩
  f22:=⟨ "slices.breakPatternsCmpFunc[loop.example/g00943/impl.Vec]", by decide,Tryz.func227.trans (congrArg some (by kernel_rfl))⟩
  f23:=⟨ "slices.choosePivotCmpFunc[loop.example/g00943/impl.Vec]", by decide,Tryz.func228.trans (congrArg some (by kernel_rfl))⟩
  f24:=⟨ "slices.reverseRangeCmpFunc[loop.example/g00943/impl.Vec]", by decide,Tryz.func229.trans (congrArg some (by kernel_rfl))⟩
  f25:=⟨ "slices.partialInsertionSortCmpFunc[loop.example/g00943/impl.Vec]", by decide,Tryz.func230.trans (congrArg some (by kernel_rfl))⟩
  f26:=⟨ "slices.partitionEqualCmpFunc[loop.example/g00943/impl.Vec]", by decide,Tryz.func231.trans (congrArg some (by kernel_rfl))⟩
  f27:=⟨ "slices.partitionCmpFunc[loop.example/g00943/impl.Vec]", by decide,Tryz.func232.trans (congrArg some (by kernel_rfl))⟩
  f28:=Tryz.func233.trans (congrArg some (by kernel_rfl))
  f29:=Tryz.func234.trans (congrArg some (by kernel_rfl))
  f46:=⟨ "slices.siftDownCmpFunc[loop.example/g00943/impl.Vec]", by decide,Tryz.func260.trans (congrArg some (by kernel_rfl))⟩
  f47:=Tryz.func261.trans (congrArg some (by kernel_rfl))
  f48:=Tryz.func262.trans (congrArg some (by kernel_rfl))
  f49:=⟨ "slices.medianAdjacentCmpFunc[loop.example/g00943/impl.Vec]", by decide,Tryz.func263.trans (congrArg some (by kernel_rfl))⟩
  f50:=⟨ "slices.medianCmpFunc[loop.example/g00943/impl.Vec]", by decide,Tryz.func264.trans (congrArg some (by kernel_rfl))⟩
  f57:=⟨ "slices.order2CmpFunc[loop.example/g00943/impl.Vec]", by decide,Tryz.func275.trans (congrArg some (by kernel_rfl))⟩
  t0:=Tryz.underlying0
  a0:=Tryz.isAgg0
  z0:=Tryz.sizeOf0
  v0:=Tryz.zeroValue0
  t3:=Tryz.underlying3
  a3:=Tryz.isAgg3
  z3:=Tryz.sizeOf3
  v3:=Tryz.zeroValue3
  t4:=Tryz.underlying4
  a4:=Tryz.isAgg4
  z4:=Tryz.sizeOf4
  v4:=Tryz.zeroValue4
  t5:=Tryz.underlying5
  a5:=Tryz.isAgg5
  z5:=Tryz.sizeOf5
  v5:=Tryz.zeroValue5
  t9:=Tryz.underlying9
  a9:=Tryz.isAgg9
  z9:=Tryz.sizeOf9
  v9:=Tryz.zeroValue9
  t22:=Tryz.underlying87
  a22:=Tryz.isAgg87
  z22:=Tryz.sizeOf87
  v22:=Tryz.zeroValue87
  t25:=Tryz.underlying169
  a25:=Tryz.isAgg169
  z25:=Tryz.sizeOf169
  v25:=Tryz.zeroValue169
  t39:=Tryz.underlying124
  a39:=Tryz.isAgg124
  z39:=Tryz.sizeOf124
  v39:=Tryz.zeroValue124
  t45:=Tryz.underlying251
  a45:=Tryz.isAgg251
  z45:=Tryz.sizeOf251
  v45:=Tryz.zeroValue251
  t46:=Tryz.underlying252
  a46:=Tryz.isAgg252
  z46:=Tryz.sizeOf252
  v46:=Tryz.zeroValue252
  t50:=Tryz.underlying256
  a50:=Tryz.isAgg256
  z50:=Tryz.sizeOf256
  v50:=Tryz.zeroValue256
  t53:=Tryz.underlying229
  a53:=Tryz.isAgg229
  z53:=Tryz.sizeOf229
  v53:=Tryz.zeroValue229
  t55:=Tryz.underlying52
  a55:=Tryz.isAgg52
  z55:=Tryz.sizeOf52
  v55:=Tryz.zeroValue52
  t66:=Tryz.underlying275
  a66:=Tryz.isAgg275
  z66:=Tryz.sizeOf275
  v66:=Tryz.zeroValue275
  t70:=Tryz.underlying279
  a70:=Tryz.isAgg279
  z70:=Tryz.sizeOf279
  v70:=Tryz.zeroValue279
  t76:=Tryz.underlying287
  a76:=Tryz.isAgg287
  z76:=Tryz.sizeOf287
  v76:=Tryz.zeroValue287
  t77:=Tryz.underlying288
  a77:=Tryz.isAgg288
  z77:=Tryz.sizeOf288
  v77:=Tryz.zeroValue288
theorem Acm (K:Nat):Bk Tryz.prog 126 (AdI K):=RO (e:=34) (s:=sV) Vk rfl rfl rfl Tryz.isAgg34 Tryz.sizeOf34
include K
theorem Acn:SF 128 (TD K) :=
  sF (GF K) aN Tryz.func128 fun x=>Yv K x.1
theorem Afo:Bk Tryz.prog 52 (Aae K) :=
  Df (eO (UO K) (aF (Acl K) (aF (Acm K) (aF (NL K) (aF (Acn K) aN)))) (v:=(D3.cons (NL K) (rk 127) D3.nil))) Tryz.func52 fun x=>Abf K x.1 x.2.1 x.2.2.1
theorem Afp:SF 84 (Aaf K) :=
  sF (M8 K) (aF (Afo K) (aF (Yy K) (aF (Afn K) (aF (Acj K) (aF (Aci K) aN))))) Tryz.func84 fun x=>Abi K x.1 x.2.1
theorem Aco:SF 169 (TL K) :=
  sF (Ls K) aN Tryz.func169 fun x=>Yw K x.1 x.2.1
theorem Afq:SF 89 (Ahk K) :=
  sF (Ah6 K) (aF (Aco K) aN) Tryz.func89
theorem YC:SF 88 (Aei K) :=
  sF (Ah7 K) (aF (Afq K) (aF (JZ K) aN)) Tryz.func88
theorem YD:Bk Tryz.prog 86 (Aej K) :=
  Df (eO (Ah8 K) (aF (Yz K) (aF (YC K) aN)) (v:=(D3.cons (YC K) (rk 88) D3.nil))) Tryz.func86 fun x=>by kernel_rfl
omit K
def Acp:Go.Shelf.Ren:=⟨fun | 6=>167 | 10=>85 | n=>n,fun | 0=>0 | 3=>3 | 4=>4 | 22=>62 | 23=>87 | 25=>142 | n=>n,fun n=>n⟩
theorem YE:SlLaysH.n10 Tryz.prog Acp where
  mixed:=by kernel_rfl
  f6:=⟨ "slices.IndexFunc[[][]loop.example/g00943/impl.Vec,[]loop.example/g00943/impl.Vec]", by decide,Tryz.func167.trans (congrArg some (by kernel_rfl))⟩
  f10:=⟨ "slices.DeleteFunc[[][]loop.example/g00943/impl.Vec,[]loop.example/g00943/impl.Vec]", by decide,Tryz.func85.trans (congrArg some (by kernel_rfl))⟩
  t0:=Tryz.underlying0
  a0:=Tryz.isAgg0
  z0:=Tryz.sizeOf0
  v0:=Tryz.zeroValue0
  t3:=Tryz.underlying3
  a3:=Tryz.isAgg3
  z3:=Tryz.sizeOf3
  v3:=Tryz.zeroValue3
  t4:=Tryz.underlying4
  a4:=Tryz.isAgg4
  z4:=Tryz.sizeOf4
  v4:=Tryz.zeroValue4
  t22:=Tryz.underlying62
  a22:=Tryz.isAgg62
  z22:=Tryz.sizeOf62
  v22:=Tryz.zeroValue62
  a23:=Tryz.isAgg87
  z23:=Tryz.sizeOf87
  t25:=Tryz.underlying142
  a25:=Tryz.isAgg142
  z25:=Tryz.sizeOf142
  v25:=Tryz.zeroValue142
theorem Afr (K:Nat):Bk Tryz.prog 85 (Ahl K):=RI (e:=87) (s:=(.list 34 sV)) YE rfl rfl Tryz.zeroValue87
include K
theorem Afs:Bk Tryz.prog 26 (Ahm K) :=
  Df (eO (Ah9 K) (aF (Afm K) (aF (Afp K) (aF (Afr K) (aF (YD K) aN)))) (v:=(D3.cons (YD K) (rk 86) D3.nil))) Tryz.func26 fun x=>by kernel_rfl
theorem NM:SF 136 (TN K) :=
  sF (Ahn K) aN Tryz.func136
theorem Aft:SF 91 (Aak K) :=
  sF (UP K) (aF (NM K) aN) Tryz.func91 fun x=>Abk K x.1 x.2.1
theorem Afu:SF 27 (Aal K) :=
  sF (UQ K) (aF (Aft K) aN) Tryz.func27 fun x=>Abl K x.1 x.2.1
theorem Acq:SF 135 (AdJ K) :=
  sF (Aho K) aN Tryz.func135
theorem Afv:SF 54 (Ahp K) :=
  sF (Aia K) (aF (Acq K) (aF (NM K) aN)) Tryz.func54
theorem Afw:SF 13 (Aan K) :=
  sF (UR K) (aF (Afv K) aN) Tryz.func13 fun x=>Abm K x.1 x.2.1
theorem Afx:SF 92 (Ahq K) :=
  sF (Aib K) (aF (NM K) aN) Tryz.func92
theorem Afy:SF 28 (Aap K) :=
  sF (US K) (aF (Afx K) aN) Tryz.func28 fun x=>Abn K x.1 x.2.1
theorem Afz:SF 29 (Aaq K) :=
  sF (UT K) aN Tryz.func29 fun x=>Abo K x.1 x.2.1
theorem AfA:SF 30 (Aar K) :=
  sF (UU K) aN Tryz.func30 fun x=>Abp K x.1 x.2.1
theorem AfB:SF 93 (Aas K) :=
  sF (UV K) aN Tryz.func93 fun x=>Abq K x.1 x.2.1
theorem AfC:SF 31 (Aat K) :=
  sF (UW K) (aF (AfB K) aN) Tryz.func31 fun x=>Abr K x.1 x.2.1
theorem AfD:SF 94 (Aau K) :=
  sF (UY K) aN Tryz.func94 fun x=>Abs K x.1 x.2.1
theorem AfE:SF 32 (Aav K) :=
  sF (UZ K) (aF (AfD K) aN) Tryz.func32 fun x=>Abt K x.1 x.2.1
theorem AhF:SF 5 (f5M K) :=
  sF (f5E K) (aF (AhD K) (aF (AhE K) (aF (Ae5 K) (aF (Afw K) (aF (Ae3 K) (aF (Afi K) (aF (Ae7 K) (aF (Afs K) (aF (Afu K) (aF (Afy K) (aF (Afz K) (aF (AfA K) (aF (AfC K) (aF (AfE K) aN)))))))))))))) Tryz.func5
end Go.Proofs.YteheolldcpjkcaaGreat.X
