/- Functions of the program as plain Lean functions, and that the program does what they say. Printed by gen.py. -/
import Derived.Test.YteheolldcpjkcaaGreatQuR0
namespace Go.Proofs.YteheolldcpjkcaaGreat.X
open Go
set_option maxRecDepth 100000
attribute [local instance] cwD
set_option linter.unusedVariables false
theorem rk (n:Nat) (h:ZX Tryz.prog n=true:=by kernel_rfl):Cs Tryz.prog n:=UC h
abbrev SF [CW] (n:Nat) (m:Mdl):Prop:=Br Tryz.prog n m
theorem aF [CW] {f:Nat} {m:Mdl} {l:List (Nat×Mdl)} (a:Br Tryz.prog f m) (c:Ew Tryz.prog l) (b:ZX Tryz.prog f=true:=by kernel_rfl):Ew Tryz.prog ((f,m) :: l):=Ew.cons a (UC b) c
theorem aN [CW]:Ew Tryz.prog []:=Ew.nil
theorem eO [CW] (E:Env) (a:Ew Tryz.prog E.fs) (h:Af9 Tryz.prog E.ty E.eq E.mt=true:=by exact UP) (p:Bc Tryz.prog E.pf:=by exact Bc.nil) (n:Jo Tryz.prog E.nf:=by exact Jo.nil) (q:NW Tryz.prog E.qf:=by exact NW.nil) (c:NX Tryz.prog E.cf:=by exact NX.nil) (v:DT Tryz.prog E.vf:=by exact DT.nil) (o:NY Tryz.prog E.xf:=by exact NY.nil):AG Tryz.prog E:=Aga h LT a p n q c v o
theorem sF [CW] {f:Nat} {fn:Func} {ps:List (PM×Sh)} {rs:List Sh} {F:AT ps→Option (RT (BG ps++rs))} (E:Env) (a:Ew Tryz.prog E.fs) (hfn:Tryz.prog.funcs[f]? = some fn) (hF:∀ x,RE E fn ps rs x=F x:=by intro x;kernel_rfl) (h:Af9 Tryz.prog E.ty E.eq E.mt=true:=by exact UP) (p:Bc Tryz.prog E.pf:=by exact Bc.nil) (n:Jo Tryz.prog E.nf:=by exact Jo.nil) (q:NW Tryz.prog E.qf:=by exact NW.nil) (c:NX Tryz.prog E.cf:=by exact NX.nil) (v:DT Tryz.prog E.vf:=by exact DT.nil) (o:NY Tryz.prog E.xf:=by exact NY.nil):SF f ⟨ps,rs,F⟩:=CA (Aga h LT a p n q c v o) hfn hF
variable (K:Nat)
include K
theorem AmH:SF 14 (AnA K) :=
  sF (Apj K) aN Tryz.func14
theorem Ae3:GN Tryz.prog 55 (AlK K) :=
  Abc (eO (AbI K) aN) Tryz.func55 fun x=>AhR K x.1
theorem Df:BU Tryz.prog 57 (Ii K) :=
  Bj (eO (Apk K) aN) Tryz.func57 fun x=>by kernel_rfl
theorem MZ:BU Tryz.prog 59 (Z2 K) :=
  Bj (eO (Apl K) aN (p:=(Bc.cons (Df K) (rk 57) Bc.nil))) Tryz.func59 fun x=>by kernel_rfl
theorem AiR:BU Tryz.prog 220 (AkF K) :=
  Bj (eO (AnB K) aN (p:=(Bc.cons (Df K) (rk 57) (Bc.cons (MZ K) (rk 59) Bc.nil)))) Tryz.func220 fun x=>by kernel_rfl
theorem AiS:BU Tryz.prog 221 (AkG K) :=
  Bj (eO (AnC K) aN (p:=(Bc.cons (Df K) (rk 57) (Bc.cons (MZ K) (rk 59) Bc.nil)))) Tryz.func221 fun x=>by kernel_rfl
theorem Ze:BU Tryz.prog 174 (AbL K) :=
  Bj (eO (AnD K) aN (p:=(Bc.cons (Df K) (rk 57) (Bc.cons (AiR K) (rk 220) (Bc.cons (AiS K) (rk 221) Bc.nil))))) Tryz.func174 fun x=>by kernel_rfl
theorem Zf:SF 200 (AbM K) :=
  sF (AnE K) aN Tryz.func200
theorem IY:SF 101 (N9 K) :=
  sF (AnF K) aN Tryz.func101
theorem AiT:SF 201 (AkH K) :=
  sF (AnG K) (aF (IY K) aN) Tryz.func201
theorem Fo:SF 138 (Ka K) :=
  sF (AnH K) (aF (Zf K) (aF (AiT K) aN)) Tryz.func138
theorem Zg:SF 141 (AbN K) :=
  sF (AnI K) aN Tryz.func141
theorem AiU:SF 271 (AkI K) :=
  sF (AnJ K) aN Tryz.func271
theorem Q7:SF 152 (WW K) :=
  sF (AnK K) aN Tryz.func152
theorem Zh:SF 249 (AbO K) :=
  sF (AnL K) (aF (Q7 K) (aF (AiU K) aN)) Tryz.func249
theorem AiV:SF 246 (WY K) :=
  sF (Ob K) (aF (Zh K) aN) Tryz.func246 fun x=>Ael K x.1
theorem AiW:SF 250 (AkJ K) :=
  sF (AnM K) aN Tryz.func250
theorem Q8:SF 153 (W0 K) :=
  sF (AnN K) aN Tryz.func153
omit K
theorem T0 (K:Nat):∀ n,Br Tryz.prog 272 ⟨[(.ro,sI),(.ro,sI)],[sI],fun x=>Kb K n x.1 x.2.1⟩
  | 0=>fun _ _ _ _ _ _ _ _ _ h=>by cases h
  | n+1=>CA (Aga (E:=AkK K (Kb K n)) UP LT (Ew.cons (T0 K n) (rk 272) Ew.nil) Bc.nil Jo.nil NW.nil NX.nil DT.nil NY.nil) Tryz.func272 fun x=>Aem K (Kb K n) x.1 x.2.1
theorem AiX (K:Nat):Br Tryz.prog 272 (AkL K):=T0 K K
include K
theorem Zi:SF 165 (AbR K) :=
  sF (AnO K) aN Tryz.func165
theorem AiY:SF 273 (AkM K) :=
  sF (AnP K) aN Tryz.func273
theorem AiZ:SF 251 (W3 K) :=
  sF (Ij K) (aF (Zi K) (aF (AiX K) (aF (AiY K) aN))) Tryz.func251 fun x=>Aep K x.1
theorem Zj:SF 206 (AbU K) :=
  sF (AnQ K) (aF (Q8 K) (aF (AiW K) (aF (AiZ K) aN))) Tryz.func206
theorem Ai0:SF 202 (W4 K) :=
  sF (Oe K) (aF (Zj K) (aF (AiV K) aN)) Tryz.func202 fun x=>Aeq K x.1 x.2.1
theorem Zk:BU Tryz.prog 198 (AbV K) :=
  Bj (eO (AnR K) (aF (Fo K) (aF (Zg K) (aF (Ai0 K) aN))) (p:=(Bc.cons (Df K) (rk 57) Bc.nil))) Tryz.func198 fun x=>by kernel_rfl
theorem Q9:SF 81 (AbW K) :=
  sF (Apm K) (aF (Zi K) aN) Tryz.func81
theorem Lr:SF 148 (Sr K) :=
  sF (AnS K) (aF (Q9 K) aN) Tryz.func148
theorem VU:SF 58 (Agn K) :=
  sF (Apn K) (aF (Zg K) aN) Tryz.func58
theorem Ai1:SF 209 (AkN K) :=
  sF (AnT K) aN Tryz.func209
theorem Zl:SF 151 (AbY K) :=
  sF (AnU K) (aF (Q7 K) (aF (Q8 K) (aF (Ai1 K) aN))) Tryz.func151
theorem Ai2:SF 252 (AkO K) :=
  sF (AnV K) aN Tryz.func252
theorem AmI:SF 71 (Agp K) :=
  sF (Z3 K) aN Tryz.func71 fun x=>AhU K x.1 x.2.1
theorem Ai3:SF 207 (AkP K) :=
  sF (AnW K) (aF (AmI K) (aF (Ai2 K) aN)) Tryz.func207
theorem Zm:SF 208 (Ab2 K) :=
  sF (AnX K) aN Tryz.func208
theorem Zn:SF 149 (Ab3 K) :=
  sF (AnY K) (aF (Ai3 K) (aF (Zm K) aN)) Tryz.func149
theorem Zo:SF 181 (Sx K) :=
  sF (Of K) (aF (Zn K) aN) Tryz.func181 fun x=>Aer K x.1 x.2.1
theorem Zp:SF 150 (Ab4 K) :=
  sF (AnZ K) (aF (Zo K) aN) Tryz.func150
theorem Ai4:SF 182 (AkQ K) :=
  sF (An0 K) (aF (Zo K) aN) Tryz.func182
theorem Zq:SF 199 (Sy K) :=
  sF (Ik K) (aF (VU K) (aF (Lr K) (aF (Zp K) (aF (Zl K) (aF (Ai4 K) aN))))) Tryz.func199 fun x=>Aeu K x.1 x.2.1
theorem Ai5:BU Tryz.prog 137 (AkR K) :=
  Bj (eO (Oi K) (aF (Fo K) (aF (Lr K) (aF (Zq K) aN))) (p:=(Bc.cons (Df K) (rk 57) (Bc.cons (Ze K) (rk 174) (Bc.cons (Zk K) (rk 198) Bc.nil))))) Tryz.func137 fun x=>Aev K x.1
theorem Ra:SF 112 (Xa K) :=
  sF (An1 K) (aF (IY K) aN) Tryz.func112
theorem Ai6:SF 269 (AkS K) :=
  sF (An2 K) (aF (Ra K) aN) Tryz.func269
theorem Ai7:SF 270 (AkT K) :=
  sF (An3 K) aN Tryz.func270
theorem Ai8:SF 248 (AkU K) :=
  sF (An4 K) (aF (Ai6 K) (aF (Ai7 K) aN)) Tryz.func248
theorem Ai9:SF 205 (AkV K) :=
  sF (An5 K) (aF (Zf K) (aF (Ai8 K) (aF (Zh K) aN))) Tryz.func205
theorem Aja:SF 147 (AkW K) :=
  sF (An6 K) (aF (Ra K) (aF (Fo K) (aF (Ai9 K) (aF (Zj K) aN)))) Tryz.func147
theorem Ae4:SF 66 (Z5 K) :=
  sF (Jx K) (aF (VU K) (aF (Fo K) (aF (Aja K) (aF (Lr K) (aF (Zn K) (aF (Zp K) (aF (Zl K) aN))))))) Tryz.func66 fun x=>AhZ K x.1 x.2.1 x.2.2.1
theorem AmJ:SF 67 (Agt K) :=
  sF (P2 K) aN Tryz.func67 fun x=>Ah0 K x.1
theorem AmK:SF 69 (An7 K) :=
  sF (Apo K) (aF (Q7 K) (aF (Q8 K) aN)) Tryz.func69
theorem Ajb:SF 184 (AkX K) :=
  sF (An8 K) (aF (AmK K) (aF (Q9 K) aN)) Tryz.func184
theorem Ajc:SF 183 (Xj K) :=
  sF (Oj K) (aF (Zm K) aN) Tryz.func183 fun x=>Aew K x.1 x.2.1
theorem Ajd:SF 119 (Xl K) :=
  sF (Ok K) (aF (Ajc K) (aF (Ajb K) aN)) Tryz.func119 fun x=>Aex K x.1 x.2.1 x.2.2.1
theorem VV:SF 79 (Z7 K) :=
  sF (Z6 K) (aF (AmJ K) (aF (Ajd K) aN)) Tryz.func79 fun x=>Ah3 K x.1 x.2.1
theorem Rb:SF 68 (Acg K) :=
  sF (App K) (aF (Q9 K) aN) Tryz.func68
theorem Ls:SF 102 (Mf K) :=
  sF (Io K) (aF (Rb K) (aF (VV K) aN)) Tryz.func102 fun x=>Aez K x.1 x.2.1
theorem Aje:SF 219 (Xr K) :=
  sF (Ol K) (aF (Ls K) aN) Tryz.func219 fun x=>AeA K x.1 x.2.1 x.2.2.1 x.2.2.2.1
theorem Ajf:BU Tryz.prog 171 (AkY K) :=
  Bj (eO (Om K) (aF (Ae4 K) (aF (VV K) (aF (Aje K) aN))) (p:=(Bc.cons (Df K) (rk 57) (Bc.cons (Ai5 K) (rk 137) Bc.nil)))) Tryz.func171 fun x=>AeB K x.1
theorem Ajg:SF 177 (Xu K) :=
  sF (On K) (aF (IY K) aN) Tryz.func177 fun x=>AeC K x.1 x.2.1 x.2.2.1 x.2.2.2.1
theorem Zr:SF 108 (Aci K) :=
  sF (An9 K) (aF (Fo K) (aF (Ajg K) aN)) Tryz.func108
theorem Ajh:BU Tryz.prog 222 (AkZ K) :=
  Bj (eO (Aoa K) aN (p:=(Bc.cons (Df K) (rk 57) (Bc.cons (MZ K) (rk 59) Bc.nil)))) Tryz.func222 fun x=>by kernel_rfl
theorem Aji:BU Tryz.prog 176 (Ak0 K) :=
  Bj (eO (Oo K) aN (p:=(Bc.cons (Df K) (rk 57) (Bc.cons (MZ K) (rk 59) (Bc.cons (Ajh K) (rk 222) Bc.nil))))) Tryz.func176 fun x=>AeD K x.1
theorem Zs:SF 109 (Acj K) :=
  sF (Aob K) (aF (Rb K) aN) Tryz.func109
theorem Zt:BU Tryz.prog 105 (Ack K) :=
  Bj (eO (Oq K) (aF (Zr K) (aF (Zs K) aN)) (p:=(Bc.cons (Df K) (rk 57) (Bc.cons (Aji K) (rk 176) Bc.nil)))) Tryz.func105 fun x=>AeE K x.1 x.2.1
theorem AmL:BU Tryz.prog 95 (Aoc K) :=
  Bj (eO (Apq K) aN (p:=(Bc.cons (Zt K) (rk 105) (Bc.cons (Ajf K) (rk 171) Bc.nil)))) Tryz.func95 fun x=>by kernel_rfl
theorem AmM:Br Tryz.prog 33 (Aod K) :=
  CA (eO (Apr K) aN (p:=(Bc.cons (Df K) (rk 57) (Bc.cons (AmL K) (rk 95) Bc.nil))) (n:=(Jo.cons (Ae3 K) (rk 55) Jo.nil))) Tryz.func33 fun x=>by kernel_rfl
theorem IZ:SF 172 (Ou K) :=
  sF (Aoe K) aN Tryz.func172
theorem Zu:SF 154 (Acl K) :=
  sF (Aof K) (aF (IZ K) aN) Tryz.func154
theorem Rc:SF 62 (Acm K) :=
  sF (Aps K) aN Tryz.func62
theorem Zv:SF 155 (Acn K) :=
  sF (Aog K) (aF (Rc K) (aF (IZ K) aN)) Tryz.func155
theorem Ajj:SF 185 (Ak1 K) :=
  sF (Aoh K) (aF (Zu K) (aF (Zv K) aN)) Tryz.func185
theorem Ajk:SF 160 (Ak2 K) :=
  sF (Aoi K) aN Tryz.func160
theorem Lu:SF 162 (SR K) :=
  sF (Aoj K) aN Tryz.func162
theorem Ajl:SF 213 (Ak3 K) :=
  sF (Aok K) aN Tryz.func213
theorem Ajm:SF 158 (XC K) :=
  sF (Ov K) (aF (Lu K) (aF (Ajl K) aN)) Tryz.func158 fun x=>AeF K x.1
theorem Ajn:SF 170 (Ak4 K) :=
  sF (Aol K) aN Tryz.func170
theorem GH:SF 90 (Qb K) :=
  sF (Apt K) (aF (Ajn K) aN) Tryz.func90
theorem Ajo:SF 259 (Ak5 K) :=
  sF (Aom K) (aF (GH K) aN) Tryz.func259
theorem Zw:SF 258 (Acq K) :=
  sF (Aon K) (aF (Lu K) (aF (Ajo K) aN)) Tryz.func258
theorem Ajp:SF 274 (XF K) :=
  sF (Ox K) aN Tryz.func274 fun x=>AeG K x.1 x.2.1
theorem Ajq:SF 257 (XH K) :=
  sF (Oy K) (aF (Ajp K) aN) Tryz.func257 fun x=>AeH K x.1 x.2.1
theorem Ajr:Br Tryz.prog 223 (Ak6 K) :=
  CA (eO (Aoo K) (aF (Ajm K) (aF (Ajk K) (aF (Ajq K) (aF (Zw K) aN)))) (v:=(DT.cons (Zw K) (rk 258) DT.nil))) Tryz.func223 fun x=>by kernel_rfl
theorem Ajs:SF 212 (XK K) :=
  sF (Oz K) aN Tryz.func212 fun x=>AeI K x.1 x.2.1
theorem Ajt:SF 157 (Ak7 K) :=
  sF (Aop K) (aF (Ajs K) aN) Tryz.func157
theorem Zx:SF 190 (SY K) :=
  sF (OA K) aN Tryz.func190 fun x=>AeJ K x.1 x.2.1
theorem Aju:SF 245 (Ak8 K) :=
  sF (Aoq K) (aF (Zx K) aN) Tryz.func245
theorem Re:SF 127 (XO K) :=
  sF (Aor K) (aF (Zx K) aN) Tryz.func127
theorem Ajv:SF 197 (Ak9 K) :=
  sF (Aos K) (aF (Re K) (aF (Aju K) aN)) Tryz.func197
theorem Ajw:SF 224 (Ala K) :=
  sF (Aot K) aN Tryz.func224
theorem Ajx:SF 236 (Alb K) :=
  sF (Aou K) aN Tryz.func236
theorem Zy:SF 214 (Acv K) :=
  sF (Aov K) aN Tryz.func214
theorem Ajy:SF 193 (Alc K) :=
  sF (Aow K) (aF (Lu K) (aF (Zy K) (aF (Ajx K) aN))) Tryz.func193
theorem Ajz:SF 192 (Ald K) :=
  sF (Aox K) (aF (GH K) aN) Tryz.func192
theorem AjA:SF 186 (S1 K) :=
  sF (EL K) (aF (GH K) (aF (Ajt K) (aF (Ajz K) (aF (Ajy K) (aF (Ajv K) (aF (Ajr K) (aF (Ajw K) aN))))))) Tryz.func186 fun x=>AeM K x.1 x.2.1 x.2.2.1
theorem Zz:SF 121 (S5 K) :=
  sF (OD K) (aF (Ajj K) (aF (AjA K) aN)) Tryz.func121 fun x=>AeN K x.1 x.2.1 x.2.2.1
theorem AjB:SF 159 (Ale K) :=
  sF (Aoy K) (aF (IZ K) aN) Tryz.func159
theorem Ae5:SF 76 (AlQ K) :=
  sF (Apu K) (aF (AjB K) aN) Tryz.func76
theorem Ae6:SF 96 (AlR K) :=
  sF (Apv K) (aF (IZ K) aN) Tryz.func96
theorem ZA:SF 111 (Acz K) :=
  sF (Aoz K) (aF (Ae5 K) (aF (Ae6 K) aN)) Tryz.func111
theorem AjC:SF 168 (XW K) :=
  sF (OE K) aN Tryz.func168 fun x=>AeO K x.1 x.2.1
theorem VW:SF 87 (AgN K) :=
  sF (Apw K) (aF (AjC K) aN) Tryz.func87
theorem VX:Br Tryz.prog 42 (AgO K) :=
  CA (eO (Apx K) (aF (VW K) (aF (ZA K) aN)) (v:=(DT.cons (ZA K) (rk 111) DT.nil))) Tryz.func42 fun x=>by kernel_rfl
theorem VY:SF 83 (AgP K) :=
  sF (Apy K) (aF (VX K) (aF (Zz K) aN)) Tryz.func83
omit K
def Ae7:Go.Shelf.Ren:=⟨fun | 212=>218 | 263=>255 | 264=>256 | n=>n,fun | 46=>124 | 51=>229 | 53=>52 | 146=>270 | 148=>272 | n=>n,fun n=>n⟩
theorem AaY:Lays.n212 Tryz.prog Ae7 where
  mixed:=by kernel_rfl
  f212:=Tryz.func218.trans (congrArg some (by kernel_rfl))
  f263:=Tryz.func255.trans (congrArg some (by kernel_rfl))
  f264:=Tryz.func256.trans (congrArg some (by kernel_rfl))
  t46:=Tryz.underlying124
  a46:=Tryz.isAgg124
  z46:=Tryz.sizeOf124
  v46:=Tryz.zeroValue124
  t51:=Tryz.underlying229
  a51:=Tryz.isAgg229
  z51:=Tryz.sizeOf229
  v51:=Tryz.zeroValue229
  t53:=Tryz.underlying52
  a53:=Tryz.isAgg52
  z53:=Tryz.sizeOf52
  v53:=Tryz.zeroValue52
  t146:=Tryz.underlying270
  a146:=Tryz.isAgg270
  z146:=Tryz.sizeOf270
  v146:=Tryz.zeroValue270
  t148:=Tryz.underlying272
  a148:=Tryz.isAgg272
  z148:=Tryz.sizeOf272
  v148:=Tryz.zeroValue272
theorem AjD (K:Nat):Br Tryz.prog 218 (Alf K):=Abb AaY rfl
include K
theorem AjE:SF 166 (XY K) :=
  sF (OG K) (aF (AjD K) aN) Tryz.func166 fun x=>AeP K x.1 x.2.1
theorem VZ:SF 99 (Aab K) :=
  sF (Ql K) aN Tryz.func99 fun x=>Aij K x.1
theorem I0:SF 100 (OH K) :=
  sF (AoA K) aN Tryz.func100
theorem ZB:SF 164 (AcF K) :=
  sF (AoB K) (aF (Lu K) (aF (Zy K) aN)) Tryz.func164
theorem AjF:SF 125 (Alg K) :=
  sF (AoC K) (aF (GH K) (aF (ZB K) aN)) Tryz.func125
omit K
def Ae8:Go.Shelf.Ren:=⟨fun | 6=>126 | 14=>188 | 15=>189 | 20=>225 | 21=>226 | 22=>227 | 23=>228 | 24=>229 | 25=>230 | 26=>231 | 27=>232 | 28=>233 | 29=>234 | 46=>260 | 47=>261 | 48=>262 | 49=>263 | 50=>264 | 57=>275 | n=>n,fun | 0=>0 | 3=>3 | 4=>4 | 5=>5 | 9=>9 | 22=>87 | 24=>34 | 25=>169 | 39=>124 | 45=>251 | 46=>252 | 50=>256 | 53=>229 | 55=>52 | 66=>275 | 70=>279 | 76=>287 | 77=>288 | n=>n,fun n=>n⟩
theorem AaZ:SlLaysF0.n6 Tryz.prog Ae8 where
  mixed:=by kernel_rfl
  f6:=⟨ "slices.SortFunc[[]loop.example/g00943/impl.Vec,loop.example/g00943/impl.Vec]", by decide,Tryz.func126.trans (congrArg some (by kernel_rfl))⟩
  f14:=⟨ "slices.pdqsortCmpFunc[loop.example/g00943/impl.Vec]", by decide,Tryz.func188.trans (congrArg some (by kernel_rfl))⟩
  f15:=Tryz.func189.trans (congrArg some (by kernel_rfl))
  f20:=⟨ "slices.insertionSortCmpFunc[loop.example/g00943/impl.Vec]", by decide,Tryz.func225.trans (congrArg some (by kernel_rfl))⟩
  f21:=⟨ "slices.heapSortCmpFunc[loop.example/g00943/impl.Vec]", by decide,Tryz.func226.trans (congrArg some (by kernel_rfl))⟩
  f22:=⟨ "slices.breakPatternsCmpFunc[loop.example/g00943/impl.Vec]", by decide,Tryz.func227.trans (congrArg some (by kernel_rfl))⟩
  f23:=⟨ "slices.choosePivotCmpFunc[loop.example/g00943/impl.Vec]", by decide,Tryz.func228.trans (congrArg some (by kernel_rfl))⟩
  f24:=⟨ "slices.reverseRangeCmpFunc[loop.example/g00943/impl.Vec]", by decide,Tryz.func229.trans (congrArg some (by kernel_rfl))⟩
  f25:=⟨ "slices.partialInsertionSortCmpFunc[loop.example/g00943/impl.Vec]", by decide,Tryz.func230.trans (congrArg some (by kernel_rfl))⟩
  f26:=⟨ "slices.partitionEqualCmpFunc[loop.example/g00943/impl.Vec]", by decide,Tryz.func231.trans (congrArg some (by kernel_rfl))⟩
  f27:=⟨ "slices.partitionCmpFunc[loop.example/g00943/impl.Vec]", by decide,Tryz.func232.trans (congrArg some (by kernel_rfl))⟩
  f28:=Tryz.func233.trans (congrArg some (by kernel_rfl))
  f29:=Tryz.func234.trans (congrArg some (by kernel_rfl))
  f46:=⟨ "slices.siftDownCmpFunc[loop.example/g00943/impl.Vec]", by decide,Tryz.func260.trans (congrArg some (by kernel_rfl))⟩
  f47:=Tryz.func261.trans (congrArg some (by kernel_rfl))
  f48:=Tryz.func262.trans (congrArg some (by kernel_rfl))
  f49:=⟨ "slices.medianAdjacentCmpFunc[loop.example/g00943/impl.Vec]", by decide,Tryz.func263.trans (congrArg some (by kernel_rfl))⟩
  f50:=⟨ "slices.medianCmpFunc[loop.example/g00943/impl.Vec]", by decide,Tryz.func264.trans (congrArg some (by kernel_rfl))⟩
  f57:=⟨ "slices.order2CmpFunc[loop.example/g00943/impl.Vec]", by decide,Tryz.func275.trans (congrArg some (by kernel_rfl))⟩
  t0:=Tryz.underlying0
  a0:=Tryz.isAgg0
  z0:=Tryz.sizeOf0
  v0:=Tryz.zeroValue0
  t3:=Tryz.underlying3
  a3:=Tryz.isAgg3
  z3:=Tryz.sizeOf3
  v3:=Tryz.zeroValue3
  t4:=Tryz.underlying4
  a4:=Tryz.isAgg4
  z4:=Tryz.sizeOf4
  v4:=Tryz.zeroValue4
  t5:=Tryz.underlying5
  a5:=Tryz.isAgg5
  z5:=Tryz.sizeOf5
  v5:=Tryz.zeroValue5
  t9:=Tryz.underlying9
  a9:=Tryz.isAgg9
  z9:=Tryz.sizeOf9
  v9:=Tryz.zeroValue9
  t22:=Tryz.underlying87
  a22:=Tryz.isAgg87
  z22:=Tryz.sizeOf87
  v22:=Tryz.zeroValue87
  t25:=Tryz.underlying169
  a25:=Tryz.isAgg169
  z25:=Tryz.sizeOf169
  v25:=Tryz.zeroValue169
  t39:=Tryz.underlying124
  a39:=Tryz.isAgg124
  z39:=Tryz.sizeOf124
  v39:=Tryz.zeroValue124
  t45:=Tryz.underlying251
  a45:=Tryz.isAgg251
  z45:=Tryz.sizeOf251
  v45:=Tryz.zeroValue251
  t46:=Tryz.underlying252
  a46:=Tryz.isAgg252
  z46:=Tryz.sizeOf252
  v46:=Tryz.zeroValue252
  t50:=Tryz.underlying256
  a50:=Tryz.isAgg256
  z50:=Tryz.sizeOf256
  v50:=Tryz.zeroValue256
  t53:=Tryz.underlying229
  a53:=Tryz.isAgg229
  z53:=Tryz.sizeOf229
  v53:=Tryz.zeroValue229
  t55:=Tryz.underlying52
  a55:=Tryz.isAgg52
  z55:=Tryz.sizeOf52
  v55:=Tryz.zeroValue52
  t66:=Tryz.underlying275
  a66:=Tryz.isAgg275
  z66:=Tryz.sizeOf275
  v66:=Tryz.zeroValue275
  t70:=Tryz.underlying279
  a70:=Tryz.isAgg279
  z70:=Tryz.sizeOf279
  v70:=Tryz.zeroValue279
  t76:=Tryz.underlying287
  a76:=Tryz.isAgg287
  z76:=Tryz.sizeOf287
  v76:=Tryz.zeroValue287
  t77:=Tryz.underlying288
  a77:=Tryz.isAgg288
  z77:=Tryz.sizeOf288
  v77:=Tryz.zeroValue288
theorem AjG (K:Nat):Br Tryz.prog 126 (Alh K):=Wh (e:=34) (s:=sV) AaZ rfl rfl rfl Tryz.isAgg34 Tryz.sizeOf34
include K
theorem AjH:SF 128 (X2 K) :=
  sF (Ir K) aN Tryz.func128 fun x=>AeQ K x.1
theorem Ae9:Br Tryz.prog 52 (AcH K) :=
  CA (eO (Aac K) (aF (AjF K) (aF (AjG K) (aF (Re K) (aF (AjH K) aN)))) (v:=(DT.cons (Re K) (rk 127) DT.nil))) Tryz.func52 fun x=>Aim K x.1 x.2.1 x.2.2.1
theorem Afa:SF 84 (AcK K) :=
  sF (Qo K) (aF (Ae9 K) (aF (Rc K) (aF (VZ K) (aF (I0 K) (aF (AjE K) aN))))) Tryz.func84 fun x=>Aip K x.1 x.2.1
theorem AjI:SF 173 (Ali K) :=
  sF (AoD K) (aF (GH K) (aF (I0 K) aN)) Tryz.func173
theorem Afb:SF 97 (AcM K) :=
  sF (Qp K) (aF (Afa K) (aF (AjI K) aN)) Tryz.func97 fun x=>Ais K x.1 x.2.1 x.2.2.1
theorem AmN:SF 98 (AgU K) :=
  sF (Aag K) (aF (Rc K) (aF (I0 K) aN)) Tryz.func98 fun x=>Ait K x.1 x.2.1 x.2.2.1 x.2.2.2.1
theorem AmO:SF 34 (AgV K) :=
  sF (Qq K) (aF (Ae9 K) (aF (VY K) (aF (GH K) (aF (Ae6 K) (aF (Afb K) (aF (AmN K) (aF (VZ K) (aF (I0 K) aN)))))))) Tryz.func34 fun x=>Aiw K x.1 x.2.1 x.2.2.1 x.2.2.2.1 x.2.2.2.2.1
theorem V0:SF 43 (Aai K) :=
  sF (Aah K) (aF (IY K) (aF (Ra K) aN)) Tryz.func43 fun x=>Aix K x.1
theorem AjJ:SF 115 (Alj K) :=
  sF (AoE K) (aF (Fo K) aN) Tryz.func115
theorem AmP:SF 46 (AoF K) :=
  sF (Apz K) (aF (Ae4 K) (aF (AjJ K) aN)) Tryz.func46
theorem V1:SF 78 (AgX K) :=
  sF (ApA K) (aF (V0 K) (aF (AmP K) aN)) Tryz.func78
theorem ZC:SF 103 (Ta K) :=
  sF (Iw K) (aF (Rb K) aN) Tryz.func103 fun x=>AeS K x.1 x.2.1 x.2.2.1
theorem AmQ:SF 35 (Ac0 K) :=
  sF (Ht K) (aF (Rb K) (aF (V1 K) (aF (IY K) (aF (Ls K) (aF (ZC K) aN))))) Tryz.func35 fun x=>AiD K x.1 x.2.1 x.2.2.1 x.2.2.2.1 x.2.2.2.2.1
theorem AmR:SF 36 (AoG K) :=
  sF (ApB K) (aF (VY K) (aF (Afb K) aN)) Tryz.func36
theorem AmS:SF 37 (AoH K) :=
  sF (ApC K) (aF (V1 K) (aF (Ls K) (aF (ZC K) aN))) Tryz.func37
theorem AjK:SF 169 (Yr K) :=
  sF (OI K) aN Tryz.func169 fun x=>AeT K x.1 x.2.1
theorem AmT:SF 89 (AoI K) :=
  sF (ApD K) (aF (AjK K) aN) Tryz.func89
theorem Afc:SF 88 (AlX K) :=
  sF (ApE K) (aF (AmT K) (aF (GH K) aN)) Tryz.func88
theorem Afd:Br Tryz.prog 86 (AlY K) :=
  CA (eO (ApF K) (aF (VW K) (aF (Afc K) aN)) (v:=(DT.cons (Afc K) (rk 88) DT.nil))) Tryz.func86 fun x=>by kernel_rfl
omit K
def AjL:Go.Shelf.Ren:=⟨fun | 6=>167 | 10=>85 | n=>n,fun | 0=>0 | 3=>3 | 4=>4 | 22=>62 | 23=>87 | 25=>142 | n=>n,fun n=>n⟩
theorem Afe:SlLaysH.n10 Tryz.prog AjL where
  mixed:=by kernel_rfl
  f6:=⟨ "slices.IndexFunc[[][]loop.example/g00943/impl.Vec,[]loop.example/g00943/impl.Vec]", by decide,Tryz.func167.trans (congrArg some (by kernel_rfl))⟩
  f10:=⟨ "slices.DeleteFunc[[][]loop.example/g00943/impl.Vec,[]loop.example/g00943/impl.Vec]", by decide,Tryz.func85.trans (congrArg some (by kernel_rfl))⟩
  t0:=Tryz.underlying0
  a0:=Tryz.isAgg0
  z0:=Tryz.sizeOf0
  v0:=Tryz.zeroValue0
  t3:=Tryz.underlying3
  a3:=Tryz.isAgg3
  z3:=Tryz.sizeOf3
  v3:=Tryz.zeroValue3
  t4:=Tryz.underlying4
  a4:=Tryz.isAgg4
  z4:=Tryz.sizeOf4
  v4:=Tryz.zeroValue4
  t22:=Tryz.underlying62
  a22:=Tryz.isAgg62
  z22:=Tryz.sizeOf62
  v22:=Tryz.zeroValue62
  a23:=Tryz.isAgg87
  z23:=Tryz.sizeOf87
  t25:=Tryz.underlying142
  a25:=Tryz.isAgg142
  z25:=Tryz.sizeOf142
  v25:=Tryz.zeroValue142
theorem AmU (K:Nat):Br Tryz.prog 85 (AoJ K):=V9 (e:=87) (s:=(.list 34 sV)) Afe rfl rfl Tryz.zeroValue87
include K
theorem AmV:Br Tryz.prog 26 (AoK K) :=
  CA (eO (ApG K) (aF (VY K) (aF (Afa K) (aF (AmU K) (aF (Afd K) aN)))) (v:=(DT.cons (Afd K) (rk 86) DT.nil))) Tryz.func26 fun x=>by kernel_rfl
theorem AmW:SF 80 (Ag7 K) :=
  sF (Aak K) aN Tryz.func80 fun x=>AiF K x.1 x.2.1
theorem AmX:SF 24 (Ag8 K) :=
  sF (Qw K) (aF (V1 K) (aF (VV K) (aF (AmW K) (aF (Q9 K) aN)))) Tryz.func24 fun x=>AiI K x.1 x.2.1 x.2.2.1 x.2.2.2.1
theorem AjM:BU Tryz.prog 175 (Alk K) :=
  Bj (eO (CH K) (aF (VU K) (aF (Ls K) (aF (Fo K) (aF (Lr K) (aF (Zq K) aN))))) (p:=(Bc.cons (Df K) (rk 57) (Bc.cons (Zk K) (rk 198) Bc.nil)))) Tryz.func175 fun x=>AeY K x.1 x.2.1 x.2.2.1
theorem AjN:BU Tryz.prog 104 (All K) :=
  Bj (eO (AoL K) aN (p:=(Bc.cons (Df K) (rk 57) (Bc.cons (MZ K) (rk 59) (Bc.cons (Ze K) (rk 174) (Bc.cons (AjM K) (rk 175) Bc.nil)))))) Tryz.func104 fun x=>by kernel_rfl
theorem AmY:Br Tryz.prog 38 (AoM K) :=
  CA (eO (ApH K) aN (p:=(Bc.cons (AjN K) (rk 104) (Bc.cons (Zt K) (rk 105) Bc.nil))) (n:=(Jo.cons (Ae3 K) (rk 55) Jo.nil))) Tryz.func38 fun x=>by kernel_rfl
theorem ZD:SF 211 (Ac9 K) :=
  sF (AoN K) (aF (IZ K) aN) Tryz.func211
theorem AjO:SF 253 (YA K) :=
  sF (OJ K) aN Tryz.func253 fun x=>AeZ K x.1 x.2.1
theorem AjP:SF 210 (Alm K) :=
  sF (AoO K) (aF (AjO K) aN) Tryz.func210
theorem AjQ:Br Tryz.prog 156 (Aln K) :=
  CA (eO (AoP K) (aF (AjP K) (aF (ZD K) aN)) (v:=(DT.cons (ZD K) (rk 211) DT.nil))) Tryz.func156 fun x=>by kernel_rfl
theorem V2:SF 74 (Ahd K) :=
  sF (ApI K) (aF (Rc K) (aF (Zu K) (aF (Zv K) (aF (AjQ K) aN)))) Tryz.func74
theorem Rf:SF 107 (YD K) :=
  sF (AoQ K) (aF (GH K) (aF (I0 K) aN)) Tryz.func107
theorem ZE:SF 106 (Adb K) :=
  sF (AoR K) (aF (Rf K) aN) Tryz.func106
theorem AmZ:Br Tryz.prog 39 (AoS K) :=
  CA (eO (ApJ K) (aF (VX K) (aF (V2 K) (aF (VW K) (aF (ZE K) aN)))) (v:=(DT.cons (ZE K) (rk 106) DT.nil))) Tryz.func39 fun x=>by kernel_rfl
theorem Am0:SF 40 (Ahe K) :=
  sF (Aan K) (aF (V0 K) (aF (Zr K) (aF (Zs K) aN))) Tryz.func40 fun x=>AiL K x.1 x.2.1
theorem Am1:SF 72 (Ahf K) :=
  sF (Aao K) aN Tryz.func72 fun x=>AiM K x.1 x.2.1
theorem Am2:SF 18 (AoT K) :=
  sF (ApK K) (aF (Am1 K) aN) Tryz.func18
theorem AjR:SF 110 (YF K) :=
  sF (OL K) aN Tryz.func110 fun x=>Ae0 K x.1 x.2.1
theorem Am3:SF 41 (Ahi K) :=
  sF (Aap K) (aF (AjR K) aN) Tryz.func41 fun x=>AiO K x.1 x.2.1
theorem AjS:SF 113 (Alo K) :=
  sF (AoU K) (aF (V2 K) (aF (Zz K) aN)) Tryz.func113
theorem AjT:SF 178 (YI K) :=
  sF (OM K) (aF (VZ K) (aF (Rf K) (aF (ZB K) aN))) Tryz.func178 fun x=>Ae1 K x.1 x.2.1
theorem AjU:SF 114 (YK K) :=
  sF (OO K) (aF (AjT K) aN) Tryz.func114 fun x=>Ae2 K x.1 x.2.1
theorem Am4:SF 44 (AoV K) :=
  sF (ApL K) (aF (AjS K) (aF (AjU K) aN)) Tryz.func44
theorem Am5:SF 45 (AoW K) :=
  sF (ApM K) (aF (V2 K) (aF (Ae5 K) (aF (Rf K) aN))) Tryz.func45
theorem Apa:SF 6 (f6M K) :=
  sF (f6E K) (aF (AmH K) (aF (Am2 K) (aF (AmX K) (aF (AmV K) (aF (AmM K) (aF (AmO K) (aF (AmQ K) (aF (AmR K) (aF (AmS K) (aF (AmY K) (aF (AmZ K) (aF (Am0 K) (aF (Am3 K) (aF (VX K) (aF (V0 K) (aF (Am4 K) (aF (Am5 K) aN))))))))))))))))) Tryz.func6 fun x=>AmG K x.1
end Go.Proofs.YteheolldcpjkcaaGreat.X
