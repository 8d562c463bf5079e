/- Functions of the program as plain Lean functions, and that the program does what they say. Printed by gen.py. -/
import Derived.Test.YtelgaemfnhnbmaaGreatDoorQtR0
namespace Go.Proofs.YtelgaemfnhnbmaaGreatDoor.X
open Go
set_option maxRecDepth 100000
attribute [local instance] cwD
set_option linter.unusedVariables false
theorem rk (n:Nat) (h:runsB Tryz.prog n=true:=by kernel_rfl):Runs Tryz.prog n:=runsB_ok h
abbrev SF [CW] (n:Nat) (m:Mdl):Prop:=Sound Tryz.prog n m
theorem aF [CW] {f:Nat} {m:Mdl} {l:List (Nat×Mdl)} (a:Sound Tryz.prog f m) (c:AllOK Tryz.prog l) (b:runsB Tryz.prog f=true:=by kernel_rfl):AllOK Tryz.prog ((f,m) :: l):=AllOK.cons a (runsB_ok b) c
theorem aN [CW]:AllOK Tryz.prog []:=AllOK.nil
theorem eO [CW] (E:Env) (a:AllOK Tryz.prog E.fs) (h:tabB Tryz.prog E.ty E.eq E.mt=true:=by exact tab_ok) (p:AllP Tryz.prog E.pf:=by exact AllP.nil) (n:AllN Tryz.prog E.nf:=by exact AllN.nil) (q:AllQ Tryz.prog E.qf:=by exact AllQ.nil) (c:AllC Tryz.prog E.cf:=by exact AllC.nil) (v:AllV Tryz.prog E.vf:=by exact AllV.nil) (o:AllO Tryz.prog E.xf:=by exact AllO.nil):EnvOK Tryz.prog E:=envOK h mixed_ok a p n q c v o
theorem sF [CW] {f:Nat} {fn:Func} {ps:List (PM×Sh)} {rs:List Sh} {F:AT ps→Option (RT (outs ps++rs))} (E:Env) (a:AllOK Tryz.prog E.fs) (hfn:Tryz.prog.funcs[f]? = some fn) (hF:∀ x,runF E fn ps rs x=F x:=by intro x;kernel_rfl) (h:tabB Tryz.prog E.ty E.eq E.mt=true:=by exact tab_ok) (p:AllP Tryz.prog E.pf:=by exact AllP.nil) (n:AllN Tryz.prog E.nf:=by exact AllN.nil) (q:AllQ Tryz.prog E.qf:=by exact AllQ.nil) (c:AllC Tryz.prog E.cf:=by exact AllC.nil) (v:AllV Tryz.prog E.vf:=by exact AllV.nil) (o:AllO Tryz.prog E.xf:=by exact AllO.nil):SF f ⟨ps,rs,F⟩:=sound_fn (envOK h mixed_ok a p n q c v o) hfn hF
variable (K:Nat)
include K
theorem f4_ok:SF 4 (f4M K) :=
  sF (f4E K) aN Tryz.func4
theorem f38_ok:SoundN Tryz.prog 38 (f38M K) :=
  sound_fnN (eO (f38E K) aN) Tryz.func38 fun x=>f38_run K x.1
theorem f39_ok:SoundP Tryz.prog 39 (f39M K) :=
  sound_fnP (eO (f39E K) aN) Tryz.func39 fun x=>by kernel_rfl
theorem f90_ok:SoundP Tryz.prog 90 (f90M K) :=
  sound_fnP (eO (f90E K) aN (p:=(AllP.cons (f39_ok K) (rk 39) AllP.nil))) Tryz.func90 fun x=>by kernel_rfl
theorem f150_ok:SoundP Tryz.prog 150 (f150M K) :=
  sound_fnP (eO (f150E K) aN (p:=(AllP.cons (f39_ok K) (rk 39) (AllP.cons (f90_ok K) (rk 90) AllP.nil)))) Tryz.func150 fun x=>by kernel_rfl
theorem f151_ok:SoundP Tryz.prog 151 (f151M K) :=
  sound_fnP (eO (f151E K) aN (p:=(AllP.cons (f39_ok K) (rk 39) (AllP.cons (f90_ok K) (rk 90) AllP.nil)))) Tryz.func151 fun x=>by kernel_rfl
theorem f88_ok:SoundP Tryz.prog 88 (f88M K) :=
  sound_fnP (eO (f88E K) aN (p:=(AllP.cons (f39_ok K) (rk 39) (AllP.cons (f150_ok K) (rk 150) (AllP.cons (f151_ok K) (rk 151) AllP.nil))))) Tryz.func88 fun x=>by kernel_rfl
theorem f118_ok:SF 118 (f118M K) :=
  sF (f118E K) aN Tryz.func118
theorem f120_ok:SF 120 (f120M K) :=
  sF (f120E K) aN Tryz.func120
theorem f119_ok:SF 119 (f119M K) :=
  sF (f119E K) (aF (f120_ok K) aN) Tryz.func119
theorem f65_ok:SF 65 (f65M K) :=
  sF (f65E K) (aF (f118_ok K) (aF (f119_ok K) aN)) Tryz.func65
theorem f73_ok:SF 73 (f73M K) :=
  sF (f73E K) aN Tryz.func73
theorem f28_ok:SF 28 (f28M K) :=
  sF (f28E K) (aF (f73_ok K) aN) Tryz.func28
theorem f222_ok:SF 222 (f222M K) :=
  sF (f222E K) aN Tryz.func222
theorem f130_ok:SF 130 (f130M K) :=
  sF (f130E K) aN Tryz.func130
theorem f184_ok:SF 184 (f184M K) :=
  sF (f184E K) (aF (f130_ok K) (aF (f222_ok K) aN)) Tryz.func184
theorem f123_ok:SF 123 (f123M K) :=
  sF (f123E K) (aF (f184_ok K) aN) Tryz.func123 fun x=>f123_run K x.1
theorem f121_ok:SF 121 (f121M K) :=
  sF (f121E K) aN Tryz.func121
theorem f131_ok:SF 131 (f131M K) :=
  sF (f131E K) aN Tryz.func131
omit K
theorem f181_okn (K:Nat):∀ n,Sound Tryz.prog 181 ⟨[(.ro,sI),(.ro,sI)],[sI],fun x=>f181R K n x.1 x.2.1⟩
  | 0=>fun _ _ _ _ _ _ _ _ _ h=>by cases h
  | n+1=>sound_fn (envOK (E:=f181E K (f181R K n)) tab_ok mixed_ok (AllOK.cons (f181_okn K n) (rk 181) AllOK.nil) AllP.nil AllN.nil AllQ.nil AllC.nil AllV.nil AllO.nil) Tryz.func181 fun x=>f181_run K (f181R K n) x.1 x.2.1
theorem f181_ok (K:Nat):Sound Tryz.prog 181 (f181M K):=f181_okn K K
include K
theorem f182_ok:SF 182 (f182M K) :=
  sF (f182E K) aN Tryz.func182
theorem f183_ok:SF 183 (f183M K) :=
  sF (f183E K) aN Tryz.func183
theorem f122_ok:SF 122 (f122M K) :=
  sF (f122E K) (aF (f181_ok K) (aF (f182_ok K) (aF (f183_ok K) aN))) Tryz.func122 fun x=>f122_run K x.1
theorem f124_ok:SF 124 (f124M K) :=
  sF (f124E K) (aF (f121_ok K) (aF (f122_ok K) (aF (f131_ok K) aN))) Tryz.func124
theorem f69_ok:SF 69 (f69M K) :=
  sF (f69E K) (aF (f123_ok K) (aF (f124_ok K) aN)) Tryz.func69 fun x=>f69_run K x.1 x.2.1
theorem f152_ok:SoundP Tryz.prog 152 (f152M K) :=
  sound_fnP (eO (f152E K) (aF (f65_ok K) (aF (f69_ok K) (aF (f73_ok K) aN))) (p:=(AllP.cons (f39_ok K) (rk 39) AllP.nil))) Tryz.func152 fun x=>by kernel_rfl
theorem f128_ok:SF 128 (f128M K) :=
  sF (f128E K) (aF (f182_ok K) aN) Tryz.func128
theorem f75_ok:SF 75 (f75M K) :=
  sF (f75E K) (aF (f128_ok K) aN) Tryz.func75
theorem f129_ok:SF 129 (f129M K) :=
  sF (f129E K) aN Tryz.func129
theorem f76_ok:SF 76 (f76M K) :=
  sF (f76E K) (aF (f129_ok K) (aF (f130_ok K) (aF (f131_ok K) aN))) Tryz.func76
theorem f135_ok:SF 135 (f135M K) :=
  sF (f135E K) aN Tryz.func135
theorem f223_ok:SF 223 (f223M K) :=
  sF (f223E K) aN Tryz.func223 fun x=>f223_run K x.1 x.2.1
theorem f185_ok:SF 185 (f185M K) :=
  sF (f185E K) (aF (f135_ok K) (aF (f223_ok K) aN)) Tryz.func185
theorem f186_ok:SF 186 (f186M K) :=
  sF (f186E K) aN Tryz.func186
theorem f127_ok:SF 127 (f127M K) :=
  sF (f127E K) (aF (f185_ok K) (aF (f186_ok K) aN)) Tryz.func127
theorem f74_ok:SF 74 (f74M K) :=
  sF (f74E K) (aF (f127_ok K) aN) Tryz.func74 fun x=>f74_run K x.1 x.2.1
theorem f29_ok:SF 29 (f29M K) :=
  sF (f29E K) (aF (f74_ok K) aN) Tryz.func29
theorem f77_ok:SF 77 (f77M K) :=
  sF (f77E K) (aF (f74_ok K) aN) Tryz.func77
theorem f30_ok:SF 30 (f30M K) :=
  sF (f30E K) (aF (f28_ok K) (aF (f29_ok K) (aF (f75_ok K) (aF (f76_ok K) (aF (f77_ok K) aN))))) Tryz.func30 fun x=>f30_run K x.1 x.2.1
theorem f70_ok:SF 70 (f70M K) :=
  sF (f70E K) aN Tryz.func70 fun x=>f70_run K x.1
theorem f125_ok:SF 125 (f125M K) :=
  sF (f125E K) (aF (f130_ok K) (aF (f131_ok K) aN)) Tryz.func125
theorem f138_ok:SF 138 (f138M K) :=
  sF (f138E K) (aF (f125_ok K) (aF (f128_ok K) aN)) Tryz.func138
theorem f137_ok:SF 137 (f137M K) :=
  sF (f137E K) (aF (f186_ok K) aN) Tryz.func137 fun x=>f137_run K x.1 x.2.1
theorem f81_ok:SF 81 (f81M K) :=
  sF (f81E K) (aF (f137_ok K) (aF (f138_ok K) aN)) Tryz.func81 fun x=>f81_run K x.1 x.2.1 x.2.2.1
theorem f32_ok:SF 32 (f32M K) :=
  sF (f32E K) (aF (f70_ok K) (aF (f81_ok K) aN)) Tryz.func32 fun x=>f32_run K x.1 x.2.1
theorem f82_ok:SF 82 (f82M K) :=
  sF (f82E K) (aF (f128_ok K) aN) Tryz.func82
theorem f153_ok:SF 153 (f153M K) :=
  sF (f153E K) (aF (f32_ok K) (aF (f82_ok K) aN)) Tryz.func153 fun x=>f153_run K x.1 x.2.1
theorem f89_ok:SoundP Tryz.prog 89 (f89M K) :=
  sound_fnP (eO (f89E K) (aF (f28_ok K) (aF (f30_ok K) (aF (f65_ok K) (aF (f75_ok K) (aF (f153_ok K) aN))))) (p:=(AllP.cons (f39_ok K) (rk 39) (AllP.cons (f152_ok K) (rk 152) AllP.nil)))) Tryz.func89 fun x=>f89_run K x.1 x.2.1 x.2.2.1
theorem f40_ok:SoundP Tryz.prog 40 (f40M K) :=
  sound_fnP (eO (f40E K) aN (p:=(AllP.cons (f39_ok K) (rk 39) (AllP.cons (f88_ok K) (rk 88) (AllP.cons (f89_ok K) (rk 89) (AllP.cons (f90_ok K) (rk 90) AllP.nil)))))) Tryz.func40 fun x=>by kernel_rfl
theorem f14_ok:Sound Tryz.prog 14 (f14M K) :=
  sound_fn (eO (f14E K) aN (p:=(AllP.cons (f39_ok K) (rk 39) (AllP.cons (f40_ok K) (rk 40) AllP.nil))) (n:=(AllN.cons (f38_ok K) (rk 38) AllN.nil))) Tryz.func14 fun x=>f14_run K x.1
theorem f5_ok:SF 5 (f5M K) :=
  sF (f5E K) (aF (f14_ok K) aN) Tryz.func5
theorem f91_ok:SF 91 (f91M K) :=
  sF (f91E K) aN Tryz.func91
theorem f41_ok:SF 41 (f41M K) :=
  sF (f41E K) (aF (f91_ok K) aN) Tryz.func41
theorem f43_ok:SF 43 (f43M K) :=
  sF (f43E K) aN Tryz.func43
theorem f42_ok:SF 42 (f42M K) :=
  sF (f42E K) (aF (f43_ok K) (aF (f91_ok K) aN)) Tryz.func42
theorem f93_ok:SF 93 (f93M K) :=
  sF (f93E K) (aF (f91_ok K) aN) Tryz.func93
theorem f154_ok:SF 154 (f154M K) :=
  sF (f154E K) aN Tryz.func154 fun x=>f154_run K x.1 x.2.1
theorem f92_ok:SF 92 (f92M K) :=
  sF (f92E K) (aF (f154_ok K) aN) Tryz.func92
theorem f44_ok:Sound Tryz.prog 44 (f44M K) :=
  sound_fn (eO (f44E K) (aF (f92_ok K) (aF (f93_ok K) aN)) (v:=(AllV.cons (f93_ok K) (rk 93) AllV.nil))) Tryz.func44 fun x=>by kernel_rfl
theorem f15_ok:SF 15 (f15M K) :=
  sF (f15E K) (aF (f41_ok K) (aF (f42_ok K) (aF (f43_ok K) (aF (f44_ok K) aN)))) Tryz.func15
theorem f94_ok:SF 94 (f94M K) :=
  sF (f94E K) aN Tryz.func94
theorem f54_ok:SF 54 (f54M K) :=
  sF (f54E K) aN Tryz.func54 fun x=>f54_run K x.1
theorem f48_ok:SF 48 (f48M K) :=
  sF (f48E K) aN Tryz.func48
theorem f99_ok:SF 99 (f99M K) :=
  sF (f99E K) aN Tryz.func99
theorem f100_ok:SF 100 (f100M K) :=
  sF (f100E K) aN Tryz.func100
theorem f109_ok:SF 109 (f109M K) :=
  sF (f109E K) (aF (f99_ok K) (aF (f100_ok K) aN)) Tryz.func109
theorem f157_ok:SF 157 (f157M K) :=
  sF (f157E K) aN Tryz.func157
theorem f97_ok:SF 97 (f97M K) :=
  sF (f97E K) (aF (f157_ok K) aN) Tryz.func97
theorem f61_ok:SF 61 (f61M K) :=
  sF (f61E K) aN Tryz.func61
theorem f63_ok:SF 63 (f63M K) :=
  sF (f63E K) (aF (f61_ok K) (aF (f97_ok K) aN)) Tryz.func63
theorem f55_ok:SF 55 (f55M K) :=
  sF (f55E K) (aF (f54_ok K) (aF (f63_ok K) (aF (f109_ok K) aN))) Tryz.func55 fun x=>f55_run K x.1 x.2.1
theorem f155_ok:SF 155 (f155M K) :=
  sF (f155E K) aN Tryz.func155
theorem f156_ok:SF 156 (f156M K) :=
  sF (f156E K) aN Tryz.func156 fun x=>f156_run K x.1 x.2.1
theorem f95_ok:SF 95 (f95M K) :=
  sF (f95E K) (aF (f100_ok K) (aF (f155_ok K) (aF (f156_ok K) (aF (f157_ok K) aN)))) Tryz.func95 fun x=>f95_run K x.1
theorem f46_ok:SF 46 (f46M K) :=
  sF (f46E K) (aF (f48_ok K) (aF (f54_ok K) (aF (f55_ok K) (aF (f94_ok K) (aF (f95_ok K) aN))))) Tryz.func46 fun x=>f46_run K x.1
theorem f45_ok:SF 45 (f45M K) :=
  sF (f45E K) (aF (f54_ok K) (aF (f63_ok K) aN)) Tryz.func45 fun x=>f45_run K x.1 x.2.1
theorem f16_ok:SF 16 (f16M K) :=
  sF (f16E K) (aF (f45_ok K) (aF (f46_ok K) aN)) Tryz.func16
omit K
def f117_ren:Go.Shelf.Ren:=⟨fun | 129=>168 | 173=>117 | 246=>180 | 283=>218 | 284=>219 | 285=>220 | 286=>221 | 317=>247 | 318=>248 | 319=>249 | 320=>250 | 337=>261 | 338=>262 | n=>n,fun | 0=>0 | 2=>2 | 3=>3 | 4=>4 | 5=>5 | 9=>9 | 20=>20 | 37=>22 | 46=>132 | 51=>188 | 53=>190 | 171=>236 | 173=>238 | 212=>266 | 213=>267 | 232=>283 | 233=>284 | n=>n,fun | 17=>1 | 18=>4 | 19=>5 | n=>n⟩
theorem f117_lays:LaysM.n173 Tryz.prog f117_ren where
  mixed:=by kernel_rfl
  f129:=Tryz.func168.trans (congrArg some (by kernel_rfl))
  f173:=Tryz.func117.trans (congrArg some (by kernel_rfl))
  f246:=Tryz.func180.trans (congrArg some (by kernel_rfl))
  f283:=Tryz.func218.trans (congrArg some (by kernel_rfl))
  f284:=Tryz.func219.trans (congrArg some (by kernel_rfl))
  f285:=Tryz.func220.trans (congrArg some (by kernel_rfl))
  f286:=Tryz.func221.trans (congrArg some (by kernel_rfl))
  f317:=Tryz.func247.trans (congrArg some (by kernel_rfl))
  f318:=Tryz.func248.trans (congrArg some (by kernel_rfl))
  f319:=Tryz.func249.trans (congrArg some (by kernel_rfl))
  f320:=Tryz.func250.trans (congrArg some (by kernel_rfl))
  f337:=Tryz.func261.trans (congrArg some (by kernel_rfl))
  f338:=Tryz.func262.trans (congrArg some (by kernel_rfl))
  t0:=Tryz.underlying0
  a0:=Tryz.isAgg0
  z0:=Tryz.sizeOf0
  v0:=Tryz.zeroValue0
  t2:=Tryz.underlying2
  a2:=Tryz.isAgg2
  z2:=Tryz.sizeOf2
  v2:=Tryz.zeroValue2
  t3:=Tryz.underlying3
  a3:=Tryz.isAgg3
  z3:=Tryz.sizeOf3
  v3:=Tryz.zeroValue3
  t4:=Tryz.underlying4
  a4:=Tryz.isAgg4
  z4:=Tryz.sizeOf4
  v4:=Tryz.zeroValue4
  t5:=Tryz.underlying5
  a5:=Tryz.isAgg5
  z5:=Tryz.sizeOf5
  v5:=Tryz.zeroValue5
  t9:=Tryz.underlying9
  a9:=Tryz.isAgg9
  z9:=Tryz.sizeOf9
  v9:=Tryz.zeroValue9
  t20:=Tryz.underlying20
  a20:=Tryz.isAgg20
  z20:=Tryz.sizeOf20
  v20:=Tryz.zeroValue20
  t37:=Tryz.underlying22
  a37:=Tryz.isAgg22
  z37:=Tryz.sizeOf22
  v37:=Tryz.zeroValue22
  t46:=Tryz.underlying132
  a46:=Tryz.isAgg132
  z46:=Tryz.sizeOf132
  v46:=Tryz.zeroValue132
  t51:=Tryz.underlying188
  a51:=Tryz.isAgg188
  z51:=Tryz.sizeOf188
  v51:=Tryz.zeroValue188
  t53:=Tryz.underlying190
  a53:=Tryz.isAgg190
  z53:=Tryz.sizeOf190
  v53:=Tryz.zeroValue190
  t171:=Tryz.underlying236
  a171:=Tryz.isAgg236
  z171:=Tryz.sizeOf236
  v171:=Tryz.zeroValue236
  t173:=Tryz.underlying238
  a173:=Tryz.isAgg238
  z173:=Tryz.sizeOf238
  v173:=Tryz.zeroValue238
  t212:=Tryz.underlying266
  a212:=Tryz.isAgg266
  z212:=Tryz.sizeOf266
  v212:=Tryz.zeroValue266
  t213:=Tryz.underlying267
  a213:=Tryz.isAgg267
  z213:=Tryz.sizeOf267
  t232:=Tryz.underlying283
  a232:=Tryz.isAgg283
  z232:=Tryz.sizeOf283
  v232:=Tryz.zeroValue283
  t233:=Tryz.underlying284
  a233:=Tryz.isAgg284
  z233:=Tryz.sizeOf284
  v233:=Tryz.zeroValue284
  g17:=by kernel_rfl
  g18:=by kernel_rfl
  g19:=by kernel_rfl
  i0:=by kernel_rfl
  i2:=by kernel_rfl
  i3:=by kernel_rfl
  i4:=by kernel_rfl
  i5:=by kernel_rfl
  i9:=by kernel_rfl
  i20:=by kernel_rfl
  i37:=by kernel_rfl
  i46:=by kernel_rfl
  i51:=by kernel_rfl
  i53:=by kernel_rfl
  i171:=by kernel_rfl
  i173:=by kernel_rfl
  i212:=by kernel_rfl
  i232:=by kernel_rfl
  i233:=by kernel_rfl
  m17:=by kernel_rfl
  m18:=by kernel_rfl
  m19:=by kernel_rfl
theorem tPow:∀ w,Tabs w→Lib.TabIs Tryz.prog w "internal/strconv.uint64pow10" .u64 Lib.pow10Tab:=fun w h=>by
  obtain⟨_,h⟩:=h;have h:gp w:=h;unfold gp at h;obtain⟨t,z,h1⟩:=h.1;unfold Lib.TabIs World.var?;rw[show Tryz.prog.globalNamed "internal/strconv.uint64pow10" = some 1 by kernel_rfl,Option.bind_some,h1]
theorem f117_ok (K:Nat):Sound Tryz.prog 117 (f117M K):=fmt_sound f117_lays rfl tPow
include K
theorem f64_ok:SF 64 (f64M K) :=
  sF (f64E K) (aF (f117_ok K) aN) Tryz.func64
omit K
def f158_ren:Go.Shelf.Ren:=⟨fun | 156=>158 | 165=>201 | 166=>202 | 169=>203 | 240=>241 | 241=>242 | 276=>258 | 277=>259 | n=>n,fun | 0=>0 | 3=>3 | 4=>4 | 5=>5 | 9=>9 | 20=>20 | 31=>112 | 37=>22 | 70=>215 | 72=>217 | 75=>220 | 76=>221 | 80=>223 | 127=>259 | 164=>274 | n=>n,fun n=>n⟩
theorem f158_lays:Lays.n156 Tryz.prog f158_ren where
  mixed:=by kernel_rfl
  f156:=Tryz.func158.trans (congrArg some (by kernel_rfl))
  f165:=Tryz.func201.trans (congrArg some (by kernel_rfl))
  f166:=Tryz.func202.trans (congrArg some (by kernel_rfl))
  f169:=Tryz.func203.trans (congrArg some (by kernel_rfl))
  f240:=Tryz.func241.trans (congrArg some (by kernel_rfl))
  f241:=Tryz.func242.trans (congrArg some (by kernel_rfl))
  f276:=Tryz.func258.trans (congrArg some (by kernel_rfl))
  f277:=Tryz.func259.trans (congrArg some (by kernel_rfl))
  t0:=Tryz.underlying0
  a0:=Tryz.isAgg0
  z0:=Tryz.sizeOf0
  v0:=Tryz.zeroValue0
  t3:=Tryz.underlying3
  a3:=Tryz.isAgg3
  z3:=Tryz.sizeOf3
  v3:=Tryz.zeroValue3
  t4:=Tryz.underlying4
  a4:=Tryz.isAgg4
  z4:=Tryz.sizeOf4
  v4:=Tryz.zeroValue4
  t9:=Tryz.underlying9
  a9:=Tryz.isAgg9
  z9:=Tryz.sizeOf9
  v9:=Tryz.zeroValue9
  t20:=Tryz.underlying20
  a20:=Tryz.isAgg20
  z20:=Tryz.sizeOf20
  v20:=Tryz.zeroValue20
  t31:=Tryz.underlying112
  a31:=Tryz.isAgg112
  z31:=Tryz.sizeOf112
  v31:=Tryz.zeroValue112
  t37:=Tryz.underlying22
  a37:=Tryz.isAgg22
  z37:=Tryz.sizeOf22
  v37:=Tryz.zeroValue22
  t70:=Tryz.underlying215
  a70:=Tryz.isAgg215
  z70:=Tryz.sizeOf215
  v70:=Tryz.zeroValue215
  t72:=Tryz.underlying217
  a72:=Tryz.isAgg217
  z72:=Tryz.sizeOf217
  v72:=Tryz.zeroValue217
  t75:=Tryz.underlying220
  a75:=Tryz.isAgg220
  z75:=Tryz.sizeOf220
  v75:=Tryz.zeroValue220
  t76:=Tryz.underlying221
  a76:=Tryz.isAgg221
  z76:=Tryz.sizeOf221
  v76:=Tryz.zeroValue221
  t127:=Tryz.underlying259
  a127:=Tryz.isAgg259
  z127:=Tryz.sizeOf259
  v127:=Tryz.zeroValue259
  t164:=Tryz.underlying274
  a164:=Tryz.isAgg274
  z164:=Tryz.sizeOf274
  v164:=Tryz.zeroValue274
theorem f158_extra:Builder.Extra Tryz.prog f158_ren where
  sizeBuilder:=by kernel_rfl
  liesBuilder:=by kernel_rfl
  t5:=Tryz.underlying5
  a5:=Tryz.isAgg5
  z5:=Tryz.sizeOf5
  v5:=Tryz.zeroValue5
  infoByte:=by kernel_rfl
  cellsByte:=by kernel_rfl
  sizeByte:=by kernel_rfl
  neB5:=by decide
theorem f158_ok (K:Nat):@Sound cwZ Tryz.prog 158 (f158M K):=join_sound (e:=9) f158_lays f158_extra rfl
include K
attribute [local instance] cwZ in
theorem f96_ok:SF 96 (f96M K) :=
  sF (f96E K) (aF (Sound.toZ (f64_ok K)) (aF (f158_ok K) aN)) Tryz.func96 fun x=>f96_run K x.1 x.2.1
attribute [local instance] cwZ in
theorem f47_ok:SF 47 (f47M K) :=
  sF (f47E K) (aF (Sound.toZ (f42_ok K)) (aF (f96_ok K) aN)) Tryz.func47
attribute [local instance] cwZ in
theorem f17_ok:SF 17 (f17M K) :=
  sF (f17E K) (aF (f47_ok K) aN) Tryz.func17
theorem f98_ok:SF 98 (f98M K) :=
  sF (f98E K) aN Tryz.func98
theorem f50_ok:SF 50 (f50M K) :=
  sF (f50E K) (aF (f98_ok K) (aF (f99_ok K) (aF (f100_ok K) aN))) Tryz.func50
theorem f49_ok:SF 49 (f49M K) :=
  sF (f49E K) (aF (f97_ok K) aN) Tryz.func49
theorem f169_ok:SF 169 (f169M K) :=
  sF (f169E K) aN Tryz.func169 fun x=>f169_run K x.1 x.2.1
theorem f103_ok:SF 103 (f103M K) :=
  sF (f103E K) (aF (f169_ok K) aN) Tryz.func103
theorem f104_ok:SF 104 (f104M K) :=
  sF (f104E K) (aF (f169_ok K) aN) Tryz.func104
theorem f52_ok:SF 52 (f52M K) :=
  sF (f52E K) (aF (f103_ok K) (aF (f104_ok K) aN)) Tryz.func52
omit K
def f51_ren:Go.Shelf.Ren:=⟨fun | 6=>51 | 14=>101 | 15=>102 | 20=>159 | 21=>160 | 22=>161 | 23=>162 | 24=>163 | 25=>164 | 26=>165 | 27=>166 | 28=>167 | 29=>168 | 46=>204 | 47=>205 | 48=>206 | 49=>207 | 50=>208 | 57=>243 | n=>n,fun | 0=>0 | 3=>3 | 4=>4 | 5=>5 | 9=>9 | 22=>36 | 24=>52 | 25=>85 | 39=>132 | 45=>180 | 46=>181 | 50=>185 | 53=>188 | 55=>190 | 66=>224 | 70=>228 | 76=>260 | 77=>261 | n=>n,fun n=>n⟩
theorem f51_lays:SlLaysF0.n6 Tryz.prog f51_ren where
  mixed:=by kernel_rfl
  f6:=⟨ "slices.SortFunc[[]loop.example/g00943/impl.Motion,loop.example/g00943/impl.Motion]", by decide,Tryz.func51.trans (congrArg some (by kernel_rfl))⟩
  f14:=⟨ "slices.pdqsortCmpFunc[loop.example/g00943/impl.Motion]", by decide,Tryz.func101.trans (congrArg some (by kernel_rfl))⟩
  f15:=Tryz.func102.trans (congrArg some (by kernel_rfl))
  f20:=⟨ "slices.insertionSortCmpFunc[loop.example/g00943/impl.Motion]", by decide,Tryz.func159.trans (congrArg some (by kernel_rfl))⟩
  f21:=⟨ "slices.heapSortCmpFunc[loop.example/g00943/impl.Motion]", by decide,Tryz.func160.trans (congrArg some (by kernel_rfl))⟩
  f22:=⟨ "slices.breakPatternsCmpFunc[loop.example/g00943/impl.Motion]", by decide,Tryz.func161.trans (congrArg some (by kernel_rfl))⟩
  f23:=⟨ "slices.choosePivotCmpFunc[loop.example/g00943/impl.Motion]", by decide,Tryz.func162.trans (congrArg some (by kernel_rfl))⟩
  f24:=⟨ "slices.reverseRangeCmpFunc[loop.example/g00943/impl.Motion]", by decide,Tryz.func163.trans (congrArg some (by kernel_rfl))⟩
  f25:=⟨ "slices.partialInsertionSortCmpFunc[loop.example/g00943/impl.Motion]", by decide,Tryz.func164.trans (congrArg some (by kernel_rfl))⟩
  f26:=⟨ "slices.partitionEqualCmpFunc[loop.example/g00943/impl.Motion]", by decide,Tryz.func165.trans (congrArg some (by kernel_rfl))⟩
  f27:=⟨ "slices.partitionCmpFunc[loop.example/g00943/impl.Motion]", by decide,Tryz.func166.trans (congrArg some (by kernel_rfl))⟩
  f28:=Tryz.func167.trans (congrArg some (by kernel_rfl))
  f29:=Tryz.func168.trans (congrArg some (by kernel_rfl))
  f46:=⟨ "slices.siftDownCmpFunc[loop.example/g00943/impl.Motion]", by decide,Tryz.func204.trans (congrArg some (by kernel_rfl))⟩
  f47:=Tryz.func205.trans (congrArg some (by kernel_rfl))
  f48:=Tryz.func206.trans (congrArg some (by kernel_rfl))
  f49:=⟨ "slices.medianAdjacentCmpFunc[loop.example/g00943/impl.Motion]", by decide,Tryz.func207.trans (congrArg some (by kernel_rfl))⟩
  f50:=⟨ "slices.medianCmpFunc[loop.example/g00943/impl.Motion]", by decide,Tryz.func208.trans (congrArg some (by kernel_rfl))⟩
  f57:=⟨ "slices.order2CmpFunc[loop.example/g00943/impl.Motion]", by decide,Tryz.func243.trans (congrArg some (by kernel_rfl))⟩
  t0:=Tryz.underlying0
  a0:=Tryz.isAgg0
  z0:=Tryz.sizeOf0
  v0:=Tryz.zeroValue0
  t3:=Tryz.underlying3
  a3:=Tryz.isAgg3
  z3:=Tryz.sizeOf3
  v3:=Tryz.zeroValue3
  t4:=Tryz.underlying4
  a4:=Tryz.isAgg4
  z4:=Tryz.sizeOf4
  v4:=Tryz.zeroValue4
  t5:=Tryz.underlying5
  a5:=Tryz.isAgg5
  z5:=Tryz.sizeOf5
  v5:=Tryz.zeroValue5
  t9:=Tryz.underlying9
  a9:=Tryz.isAgg9
  z9:=Tryz.sizeOf9
  v9:=Tryz.zeroValue9
  t22:=Tryz.underlying36
  a22:=Tryz.isAgg36
  z22:=Tryz.sizeOf36
  v22:=Tryz.zeroValue36
  t25:=Tryz.underlying85
  a25:=Tryz.isAgg85
  z25:=Tryz.sizeOf85
  v25:=Tryz.zeroValue85
  t39:=Tryz.underlying132
  a39:=Tryz.isAgg132
  z39:=Tryz.sizeOf132
  v39:=Tryz.zeroValue132
  t45:=Tryz.underlying180
  a45:=Tryz.isAgg180
  z45:=Tryz.sizeOf180
  v45:=Tryz.zeroValue180
  t46:=Tryz.underlying181
  a46:=Tryz.isAgg181
  z46:=Tryz.sizeOf181
  v46:=Tryz.zeroValue181
  t50:=Tryz.underlying185
  a50:=Tryz.isAgg185
  z50:=Tryz.sizeOf185
  v50:=Tryz.zeroValue185
  t53:=Tryz.underlying188
  a53:=Tryz.isAgg188
  z53:=Tryz.sizeOf188
  v53:=Tryz.zeroValue188
  t55:=Tryz.underlying190
  a55:=Tryz.isAgg190
  z55:=Tryz.sizeOf190
  v55:=Tryz.zeroValue190
  t66:=Tryz.underlying224
  a66:=Tryz.isAgg224
  z66:=Tryz.sizeOf224
  v66:=Tryz.zeroValue224
  t70:=Tryz.underlying228
  a70:=Tryz.isAgg228
  z70:=Tryz.sizeOf228
  v70:=Tryz.zeroValue228
  t76:=Tryz.underlying260
  a76:=Tryz.isAgg260
  z76:=Tryz.sizeOf260
  v76:=Tryz.zeroValue260
  t77:=Tryz.underlying261
  a77:=Tryz.isAgg261
  z77:=Tryz.sizeOf261
  v77:=Tryz.zeroValue261
theorem f51_ok (K:Nat):Sound Tryz.prog 51 (f51M K):=sort_sound (e:=52) (s:=sM) f51_lays rfl rfl rfl Tryz.isAgg52 Tryz.sizeOf52
include K
theorem f18_ok:Sound Tryz.prog 18 (f18M K) :=
  sound_fn (eO (f18E K) (aF (f48_ok K) (aF (f49_ok K) (aF (f50_ok K) (aF (f51_ok K) (aF (f52_ok K) aN))))) (v:=(AllV.cons (f52_ok K) (rk 52) AllV.nil))) Tryz.func18 fun x=>f18_run K x.1 x.2.1
theorem f171_ok:SF 171 (f171M K) :=
  sF (f171E K) aN Tryz.func171
theorem f106_ok:SF 106 (f106M K) :=
  sF (f106E K) (aF (f99_ok K) (aF (f171_ok K) aN)) Tryz.func106 fun x=>f106_run K x.1
theorem f108_ok:SF 108 (f108M K) :=
  sF (f108E K) (aF (f97_ok K) aN) Tryz.func108
theorem f107_ok:SF 107 (f107M K) :=
  sF (f107E K) (aF (f99_ok K) (aF (f108_ok K) aN)) Tryz.func107
theorem f170_ok:SF 170 (f170M K) :=
  sF (f170E K) aN Tryz.func170 fun x=>f170_run K x.1 x.2.1
theorem f105_ok:SF 105 (f105M K) :=
  sF (f105E K) (aF (f170_ok K) aN) Tryz.func105 fun x=>f105_run K x.1 x.2.1
theorem f53_ok:Sound Tryz.prog 53 (f53M K) :=
  sound_fn (eO (f53E K) (aF (f94_ok K) (aF (f105_ok K) (aF (f106_ok K) (aF (f107_ok K) aN)))) (v:=(AllV.cons (f107_ok K) (rk 107) AllV.nil))) Tryz.func53 fun x=>by kernel_rfl
theorem f19_ok:SF 19 (f19M K) :=
  sF (f19E K) (aF (f53_ok K) (aF (f54_ok K) (aF (f55_ok K) aN))) Tryz.func19 fun x=>f19_run K x.1
theorem f56_ok:SF 56 (f56M K) :=
  sF (f56E K) aN Tryz.func56 fun x=>f56_run K x.1 x.2.1
theorem f20_ok:SF 20 (f20M K) :=
  sF (f20E K) (aF (f56_ok K) aN) Tryz.func20
theorem f176_ok:SF 176 (f176M K) :=
  sF (f176E K) (aF (f91_ok K) aN) Tryz.func176
theorem f172_ok:SF 172 (f172M K) :=
  sF (f172E K) (aF (f176_ok K) aN) Tryz.func172
theorem f173_ok:SF 173 (f173M K) :=
  sF (f173E K) aN Tryz.func173
theorem f110_ok:SF 110 (f110M K) :=
  sF (f110E K) (aF (f172_ok K) (aF (f173_ok K) aN)) Tryz.func110
theorem f209_ok:SF 209 (f209M K) :=
  sF (f209E K) (aF (f48_ok K) (aF (f173_ok K) aN)) Tryz.func209
theorem f174_ok:SF 174 (f174M K) :=
  sF (f174E K) (aF (f173_ok K) (aF (f209_ok K) aN)) Tryz.func174
theorem f175_ok:SF 175 (f175M K) :=
  sF (f175E K) (aF (f173_ok K) (aF (f209_ok K) aN)) Tryz.func175
theorem f111_ok:SF 111 (f111M K) :=
  sF (f111E K) (aF (f174_ok K) (aF (f175_ok K) aN)) Tryz.func111
theorem f112_ok:SF 112 (f112M K) :=
  sF (f112E K) (aF (f176_ok K) aN) Tryz.func112
theorem f57_ok:SF 57 (f57M K) :=
  sF (f57E K) (aF (f110_ok K) (aF (f111_ok K) (aF (f112_ok K) aN))) Tryz.func57
attribute [local instance] cwZ in
theorem f58_ok:SF 58 (f58M K) :=
  sF (f58E K) (aF (f96_ok K) (aF (Sound.toZ (f110_ok K)) aN)) Tryz.func58
attribute [local instance] cwZ in
theorem f59_ok:SF 59 (f59M K) :=
  sF (f59E K) (aF (f96_ok K) (aF (Sound.toZ (f112_ok K)) aN)) Tryz.func59
attribute [local instance] cwZ in
theorem f21_ok:SF 21 (f21M K) :=
  sF (f21E K) (aF (Sound.toZ (f57_ok K)) (aF (f58_ok K) (aF (f59_ok K) aN))) Tryz.func21
omit K
def f113_ren:Go.Shelf.Ren:=⟨fun | 212=>113 | 263=>177 | 264=>178 | n=>n,fun | 46=>132 | 51=>188 | 53=>190 | 146=>194 | 148=>196 | n=>n,fun n=>n⟩
theorem f113_lays:Lays.n212 Tryz.prog f113_ren where
  mixed:=by kernel_rfl
  f212:=Tryz.func113.trans (congrArg some (by kernel_rfl))
  f263:=Tryz.func177.trans (congrArg some (by kernel_rfl))
  f264:=Tryz.func178.trans (congrArg some (by kernel_rfl))
  t46:=Tryz.underlying132
  a46:=Tryz.isAgg132
  z46:=Tryz.sizeOf132
  v46:=Tryz.zeroValue132
  t51:=Tryz.underlying188
  a51:=Tryz.isAgg188
  z51:=Tryz.sizeOf188
  v51:=Tryz.zeroValue188
  t53:=Tryz.underlying190
  a53:=Tryz.isAgg190
  z53:=Tryz.sizeOf190
  v53:=Tryz.zeroValue190
  t146:=Tryz.underlying194
  a146:=Tryz.isAgg194
  z146:=Tryz.sizeOf194
  v146:=Tryz.zeroValue194
  t148:=Tryz.underlying196
  a148:=Tryz.isAgg196
  z148:=Tryz.sizeOf196
  v148:=Tryz.zeroValue196
theorem f113_ok (K:Nat):Sound Tryz.prog 113 (f113M K):=mul_sound f113_lays rfl
include K
theorem f60_ok:SF 60 (f60M K) :=
  sF (f60E K) (aF (f113_ok K) aN) Tryz.func60 fun x=>f60_run K x.1 x.2.1
theorem f114_ok:SF 114 (f114M K) :=
  sF (f114E K) (aF (f97_ok K) (aF (f109_ok K) aN)) Tryz.func114
omit K
def f115_ren:Go.Shelf.Ren:=⟨fun | 6=>115 | 14=>179 | 15=>102 | 20=>210 | 21=>211 | 22=>212 | 23=>213 | 24=>214 | 25=>215 | 26=>216 | 27=>217 | 28=>167 | 29=>168 | 46=>244 | 47=>205 | 48=>206 | 49=>245 | 50=>246 | 57=>260 | n=>n,fun | 0=>0 | 3=>3 | 4=>4 | 5=>5 | 9=>9 | 22=>55 | 24=>50 | 25=>134 | 39=>132 | 45=>180 | 46=>181 | 50=>185 | 53=>188 | 55=>190 | 66=>224 | 70=>228 | 76=>260 | 77=>261 | n=>n,fun n=>n⟩
theorem f115_lays:SlLaysF0.n6 Tryz.prog f115_ren where
  mixed:=by kernel_rfl
  f6:=⟨ "slices.SortFunc[[]loop.example/g00943/impl.Vec,loop.example/g00943/impl.Vec]", by decide,Tryz.func115.trans (congrArg some (by kernel_rfl))⟩
  f14:=⟨ "slices.pdqsortCmpFunc[loop.example/g00943/impl.Vec]", by decide,Tryz.func179.trans (congrArg some (by kernel_rfl))⟩
  f15:=Tryz.func102.trans (congrArg some (by kernel_rfl))
  f20:=⟨ "slices.insertionSortCmpFunc[loop.example/g00943/impl.Vec]", by decide,Tryz.func210.trans (congrArg some (by kernel_rfl))⟩
  f21:=⟨ "slices.heapSortCmpFunc[loop.example/g00943/impl.Vec]", by decide,Tryz.func211.trans (congrArg some (by kernel_rfl))⟩
  f22:=⟨ "slices.breakPatternsCmpFunc[loop.example/g00943/impl.Vec]", by decide,Tryz.func212.trans (congrArg some (by kernel_rfl))⟩
  f23:=⟨ "slices.choosePivotCmpFunc[loop.example/g00943/impl.Vec]", by decide,Tryz.func213.trans (congrArg some (by kernel_rfl))⟩
  f24:=⟨ "slices.reverseRangeCmpFunc[loop.example/g00943/impl.Vec]", by decide,Tryz.func214.trans (congrArg some (by kernel_rfl))⟩
  f25:=⟨ "slices.partialInsertionSortCmpFunc[loop.example/g00943/impl.Vec]", by decide,Tryz.func215.trans (congrArg some (by kernel_rfl))⟩
  f26:=⟨ "slices.partitionEqualCmpFunc[loop.example/g00943/impl.Vec]", by decide,Tryz.func216.trans (congrArg some (by kernel_rfl))⟩
  f27:=⟨ "slices.partitionCmpFunc[loop.example/g00943/impl.Vec]", by decide,Tryz.func217.trans (congrArg some (by kernel_rfl))⟩
  f28:=Tryz.func167.trans (congrArg some (by kernel_rfl))
  f29:=Tryz.func168.trans (congrArg some (by kernel_rfl))
  f46:=⟨ "slices.siftDownCmpFunc[loop.example/g00943/impl.Vec]", by decide,Tryz.func244.trans (congrArg some (by kernel_rfl))⟩
  f47:=Tryz.func205.trans (congrArg some (by kernel_rfl))
  f48:=Tryz.func206.trans (congrArg some (by kernel_rfl))
  f49:=⟨ "slices.medianAdjacentCmpFunc[loop.example/g00943/impl.Vec]", by decide,Tryz.func245.trans (congrArg some (by kernel_rfl))⟩
  f50:=⟨ "slices.medianCmpFunc[loop.example/g00943/impl.Vec]", by decide,Tryz.func246.trans (congrArg some (by kernel_rfl))⟩
  f57:=⟨ "slices.order2CmpFunc[loop.example/g00943/impl.Vec]", by decide,Tryz.func260.trans (congrArg some (by kernel_rfl))⟩
  t0:=Tryz.underlying0
  a0:=Tryz.isAgg0
  z0:=Tryz.sizeOf0
  v0:=Tryz.zeroValue0
  t3:=Tryz.underlying3
  a3:=Tryz.isAgg3
  z3:=Tryz.sizeOf3
  v3:=Tryz.zeroValue3
  t4:=Tryz.underlying4
  a4:=Tryz.isAgg4
  z4:=Tryz.sizeOf4
  v4:=Tryz.zeroValue4
  t5:=Tryz.underlying5
  a5:=Tryz.isAgg5
  z5:=Tryz.sizeOf5
  v5:=Tryz.zeroValue5
  t9:=Tryz.underlying9
  a9:=Tryz.isAgg9
  z9:=Tryz.sizeOf9
  v9:=Tryz.zeroValue9
  t22:=Tryz.underlying55
  a22:=Tryz.isAgg55
  z22:=Tryz.sizeOf55
  v22:=Tryz.zeroValue55
  t25:=Tryz.underlying134
  a25:=Tryz.isAgg134
  z25:=Tryz.sizeOf134
  v25:=Tryz.zeroValue134
  t39:=Tryz.underlying132
  a39:=Tryz.isAgg132
  z39:=Tryz.sizeOf132
  v39:=Tryz.zeroValue132
  t45:=Tryz.underlying180
  a45:=Tryz.isAgg180
  z45:=Tryz.sizeOf180
  v45:=Tryz.zeroValue180
  t46:=Tryz.underlying181
  a46:=Tryz.isAgg181
  z46:=Tryz.sizeOf181
  v46:=Tryz.zeroValue181
  t50:=Tryz.underlying185
  a50:=Tryz.isAgg185
  z50:=Tryz.sizeOf185
  v50:=Tryz.zeroValue185
  t53:=Tryz.underlying188
  a53:=Tryz.isAgg188
  z53:=Tryz.sizeOf188
  v53:=Tryz.zeroValue188
  t55:=Tryz.underlying190
  a55:=Tryz.isAgg190
  z55:=Tryz.sizeOf190
  v55:=Tryz.zeroValue190
  t66:=Tryz.underlying224
  a66:=Tryz.isAgg224
  z66:=Tryz.sizeOf224
  v66:=Tryz.zeroValue224
  t70:=Tryz.underlying228
  a70:=Tryz.isAgg228
  z70:=Tryz.sizeOf228
  v70:=Tryz.zeroValue228
  t76:=Tryz.underlying260
  a76:=Tryz.isAgg260
  z76:=Tryz.sizeOf260
  v76:=Tryz.zeroValue260
  t77:=Tryz.underlying261
  a77:=Tryz.isAgg261
  z77:=Tryz.sizeOf261
  v77:=Tryz.zeroValue261
theorem f115_ok (K:Nat):Sound Tryz.prog 115 (f115M K):=sort_sound (e:=50) (s:=sV) f115_lays rfl rfl rfl Tryz.isAgg50 Tryz.sizeOf50
include K
theorem f116_ok:SF 116 (f116M K) :=
  sF (f116E K) aN Tryz.func116 fun x=>f116_run K x.1
theorem f62_ok:Sound Tryz.prog 62 (f62M K) :=
  sound_fn (eO (f62E K) (aF (f104_ok K) (aF (f114_ok K) (aF (f115_ok K) (aF (f116_ok K) aN)))) (v:=(AllV.cons (f104_ok K) (rk 104) AllV.nil))) Tryz.func62 fun x=>f62_run K x.1 x.2.1 x.2.2.1
theorem f22_ok:SF 22 (f22M K) :=
  sF (f22E K) (aF (f43_ok K) (aF (f54_ok K) (aF (f60_ok K) (aF (f61_ok K) (aF (f62_ok K) aN))))) Tryz.func22 fun x=>f22_run K x.1 x.2.1
attribute [local instance] cwZ in
theorem f23_ok:SF 23 (f23M K) :=
  sF (f23E K) (aF (f59_ok K) (aF (Sound.toZ (f63_ok K)) (aF (Sound.toZ (f64_ok K)) aN))) Tryz.func23 fun x=>f23_run K x.1 x.2.1
attribute [local instance] cwZ in
theorem f6_ok:SF 6 (f6M K) :=
  sF (f6E K) (aF (Sound.toZ (f15_ok K)) (aF (Sound.toZ (f16_ok K)) (aF (f17_ok K) (aF (Sound.toZ (f18_ok K)) (aF (Sound.toZ (f19_ok K)) (aF (Sound.toZ (f20_ok K)) (aF (f21_ok K) (aF (Sound.toZ (f22_ok K)) (aF (f23_ok K) aN))))))))) Tryz.func6 fun x=>f6_run K x.1
theorem f66_ok:SF 66 (f66M K) :=
  sF (f66E K) (aF (f120_ok K) aN) Tryz.func66 fun x=>f66_run K x.1 x.2.1 x.2.2.1 x.2.2.2.1
theorem f24_ok:SF 24 (f24M K) :=
  sF (f24E K) (aF (f65_ok K) (aF (f66_ok K) aN)) Tryz.func24
theorem f33_ok:SF 33 (f33M K) :=
  sF (f33E K) (aF (f82_ok K) aN) Tryz.func33
theorem f71_ok:SF 71 (f71M K) :=
  sF (f71E K) (aF (f33_ok K) (aF (f70_ok K) (aF (f125_ok K) aN))) Tryz.func71 fun x=>f71_run K x.1 x.2.1
theorem f68_ok:SF 68 (f68M K) :=
  sF (f68E K) (aF (f70_ok K) (aF (f71_ok K) (aF (f73_ok K) (aF (f121_ok K) (aF (f122_ok K) aN))))) Tryz.func68 fun x=>f68_run K x.1
theorem f67_ok:SF 67 (f67M K) :=
  sF (f67E K) (aF (f33_ok K) (aF (f70_ok K) aN)) Tryz.func67 fun x=>f67_run K x.1 x.2.1
theorem f25_ok:SF 25 (f25M K) :=
  sF (f25E K) (aF (f67_ok K) (aF (f68_ok K) aN)) Tryz.func25
theorem f26_ok:SF 26 (f26M K) :=
  sF (f26E K) (aF (f69_ok K) (aF (f70_ok K) (aF (f71_ok K) aN))) Tryz.func26 fun x=>f26_run K x.1
omit K
theorem f83_okn (K:Nat):∀ n,Sound Tryz.prog 83 ⟨[(.ro,sI)],[.str],fun x=>f83R K n x.1⟩
  | 0=>fun _ _ _ _ _ _ _ _ _ h=>by cases h
  | n+1=>sound_fn (envOK (E:=f83E K (f83R K n)) tab_ok mixed_ok (AllOK.cons (f83_okn K n) (rk 83) AllOK.nil) AllP.nil AllN.nil AllQ.nil AllC.nil AllV.nil AllO.nil) Tryz.func83 fun x=>f83_run K (f83R K n) x.1
theorem f83_ok (K:Nat):Sound Tryz.prog 83 (f83M K):=f83_okn K K
include K
theorem f136_ok:SF 136 (f136M K) :=
  sF (f136E K) (aF (f83_ok K) aN) Tryz.func136
theorem f126_ok:SF 126 (f126M K) :=
  sF (f126E K) (aF (f136_ok K) aN) Tryz.func126 fun x=>f126_run K x.1 x.2.1
theorem f72_ok:SF 72 (f72M K) :=
  sF (f72E K) (aF (f119_ok K) (aF (f126_ok K) aN)) Tryz.func72
theorem f27_ok:SF 27 (f27M K) :=
  sF (f27E K) (aF (f72_ok K) aN) Tryz.func27
theorem f134_ok:SF 134 (f134M K) :=
  sF (f134E K) (aF (f120_ok K) aN) Tryz.func134
theorem f187_ok:SF 187 (f187M K) :=
  sF (f187E K) (aF (f134_ok K) aN) Tryz.func187
theorem f188_ok:SF 188 (f188M K) :=
  sF (f188E K) aN Tryz.func188
theorem f132_ok:SF 132 (f132M K) :=
  sF (f132E K) (aF (f187_ok K) (aF (f188_ok K) aN)) Tryz.func132
theorem f189_ok:SF 189 (f189M K) :=
  sF (f189E K) (aF (f73_ok K) (aF (f129_ok K) (aF (f187_ok K) aN))) Tryz.func189 fun x=>f189_run K x.1
theorem f133_ok:SF 133 (f133M K) :=
  sF (f133E K) (aF (f188_ok K) (aF (f189_ok K) aN)) Tryz.func133
theorem f78_ok:SF 78 (f78M K) :=
  sF (f78E K) (aF (f132_ok K) (aF (f133_ok K) (aF (f134_ok K) aN))) Tryz.func78
theorem f79_ok:SF 79 (f79M K) :=
  sF (f79E K) (aF (f126_ok K) (aF (f132_ok K) (aF (f135_ok K) aN))) Tryz.func79
theorem f80_ok:SF 80 (f80M K) :=
  sF (f80E K) (aF (f134_ok K) (aF (f136_ok K) aN)) Tryz.func80
theorem f31_ok:SF 31 (f31M K) :=
  sF (f31E K) (aF (f78_ok K) (aF (f79_ok K) (aF (f80_ok K) aN))) Tryz.func31
theorem f34_ok:SF 34 (f34M K) :=
  sF (f34E K) (aF (f80_ok K) (aF (f83_ok K) aN)) Tryz.func34
theorem f7_ok:SF 7 (f7M K) :=
  sF (f7E K) (aF (f24_ok K) (aF (f25_ok K) (aF (f26_ok K) (aF (f27_ok K) (aF (f28_ok K) (aF (f29_ok K) (aF (f30_ok K) (aF (f31_ok K) (aF (f32_ok K) (aF (f33_ok K) (aF (f34_ok K) aN))))))))))) Tryz.func7 fun x=>f7_run K x.1
theorem f190_ok:SF 190 (f190M K) :=
  sF (f190E K) aN Tryz.func190
theorem f139_ok:SF 139 (f139M K) :=
  sF (f139E K) (aF (f190_ok K) aN) Tryz.func139
theorem f84_ok:SF 84 (f84M K) :=
  sF (f84E K) (aF (f139_ok K) aN) Tryz.func84
omit K
def f85_ren:Go.Shelf.Ren:=⟨fun | 138=>192 | 143=>142 | 146=>85 | 195=>224 | 197=>225 | 217=>229 | 218=>226 | 219=>194 | 221=>140 | 224=>231 | 225=>230 | 260=>251 | 266=>252 | 267=>232 | 268=>191 | 314=>253 | n=>n,fun | 0=>0 | 3=>3 | 4=>4 | 5=>5 | 9=>9 | 21=>21 | 31=>112 | 46=>132 | 51=>188 | 105=>241 | 119=>278 | 138=>280 | 139=>281 | 146=>194 | n=>n,fun | 1=>0 | 3=>2 | 4=>3 | n=>n⟩
theorem f85_lays:Lays.n146 Tryz.prog f85_ren where
  mixed:=by kernel_rfl
  f138:=Tryz.func192.trans (congrArg some (by kernel_rfl))
  f143:=Tryz.func142.trans (congrArg some (by kernel_rfl))
  f146:=Tryz.func85.trans (congrArg some (by kernel_rfl))
  f195:=Tryz.func224.trans (congrArg some (by kernel_rfl))
  f197:=Tryz.func225.trans (congrArg some (by kernel_rfl))
  f217:=Tryz.func229.trans (congrArg some (by kernel_rfl))
  f218:=Tryz.func226.trans (congrArg some (by kernel_rfl))
  f219:=Tryz.func194.trans (congrArg some (by kernel_rfl))
  f221:=Tryz.func140.trans (congrArg some (by kernel_rfl))
  f224:=Tryz.func231.trans (congrArg some (by kernel_rfl))
  f225:=Tryz.func230.trans (congrArg some (by kernel_rfl))
  f260:=Tryz.func251.trans (congrArg some (by kernel_rfl))
  f266:=Tryz.func252.trans (congrArg some (by kernel_rfl))
  f267:=Tryz.func232.trans (congrArg some (by kernel_rfl))
  f268:=Tryz.func191.trans (congrArg some (by kernel_rfl))
  f314:=Tryz.func253.trans (congrArg some (by kernel_rfl))
  t0:=Tryz.underlying0
  a0:=Tryz.isAgg0
  z0:=Tryz.sizeOf0
  v0:=Tryz.zeroValue0
  t3:=Tryz.underlying3
  a3:=Tryz.isAgg3
  z3:=Tryz.sizeOf3
  v3:=Tryz.zeroValue3
  t4:=Tryz.underlying4
  a4:=Tryz.isAgg4
  z4:=Tryz.sizeOf4
  v4:=Tryz.zeroValue4
  t5:=Tryz.underlying5
  a5:=Tryz.isAgg5
  z5:=Tryz.sizeOf5
  v5:=Tryz.zeroValue5
  t9:=Tryz.underlying9
  a9:=Tryz.isAgg9
  z9:=Tryz.sizeOf9
  v9:=Tryz.zeroValue9
  t21:=Tryz.underlying21
  a21:=Tryz.isAgg21
  z21:=Tryz.sizeOf21
  v21:=Tryz.zeroValue21
  t31:=Tryz.underlying112
  a31:=Tryz.isAgg112
  z31:=Tryz.sizeOf112
  v31:=Tryz.zeroValue112
  t46:=Tryz.underlying132
  a46:=Tryz.isAgg132
  z46:=Tryz.sizeOf132
  v46:=Tryz.zeroValue132
  t51:=Tryz.underlying188
  a51:=Tryz.isAgg188
  z51:=Tryz.sizeOf188
  v51:=Tryz.zeroValue188
  t105:=Tryz.underlying241
  a105:=Tryz.isAgg241
  z105:=Tryz.sizeOf241
  v105:=Tryz.zeroValue241
  t119:=Tryz.underlying278
  a119:=Tryz.isAgg278
  z119:=Tryz.sizeOf278
  t138:=Tryz.underlying280
  a138:=Tryz.isAgg280
  z138:=Tryz.sizeOf280
  v138:=Tryz.zeroValue280
  t139:=Tryz.underlying281
  a139:=Tryz.isAgg281
  z139:=Tryz.sizeOf281
  v139:=Tryz.zeroValue281
  t146:=Tryz.underlying194
  a146:=Tryz.isAgg194
  z146:=Tryz.sizeOf194
  v146:=Tryz.zeroValue194
  g1:=by kernel_rfl
  g3:=by kernel_rfl
  g4:=by kernel_rfl
theorem tMax:∀ w,Tabs w→∃ m,w.cell? ⟨0,0,none⟩=some (.int .i64 m):=fun w h=>by
  obtain⟨_,h⟩:=h;have h:gp w:=h;unfold gp at h;exact h.2.1
theorem f85_ok (K:Nat):Sound Tryz.prog 85 (f85M K):=split_sound (e:=9) f85_lays rfl rfl (by kernel_rfl) tMax
def f233_ren:Go.Shelf.Ren:=⟨fun | 129=>168 | 171=>274 | 174=>254 | 205=>273 | 243=>275 | 245=>264 | 246=>180 | 247=>263 | 279=>266 | 280=>267 | 281=>268 | 282=>269 | 283=>218 | 284=>219 | 285=>220 | 286=>221 | 287=>265 | 316=>272 | 317=>247 | 318=>248 | 319=>249 | 320=>250 | 321=>270 | 322=>271 | 337=>261 | 338=>262 | n=>n,fun | 0=>0 | 2=>2 | 3=>3 | 4=>4 | 5=>5 | 9=>9 | 20=>20 | 21=>21 | 37=>22 | 46=>132 | 51=>188 | 53=>190 | 75=>220 | 80=>223 | 85=>270 | 127=>259 | 143=>297 | 145=>299 | 167=>285 | 168=>288 | 171=>236 | 173=>238 | 175=>286 | 210=>295 | 212=>266 | 213=>267 | 232=>283 | 233=>284 | n=>n,fun | 15=>6 | 16=>7 | 17=>1 | 18=>4 | 19=>5 | n=>n⟩
theorem f233_lays:LaysC.n174 Tryz.prog f233_ren where
  mixed:=by kernel_rfl
  f129:=Tryz.func168.trans (congrArg some (by kernel_rfl))
  f171:=Tryz.func274.trans (congrArg some (by kernel_rfl))
  f174:=Tryz.func254.trans (congrArg some (by kernel_rfl))
  f205:=Tryz.func273.trans (congrArg some (by kernel_rfl))
  f243:=Tryz.func275.trans (congrArg some (by kernel_rfl))
  f245:=Tryz.func264.trans (congrArg some (by kernel_rfl))
  f246:=Tryz.func180.trans (congrArg some (by kernel_rfl))
  f247:=Tryz.func263.trans (congrArg some (by kernel_rfl))
  f279:=Tryz.func266.trans (congrArg some (by kernel_rfl))
  f280:=Tryz.func267.trans (congrArg some (by kernel_rfl))
  f281:=Tryz.func268.trans (congrArg some (by kernel_rfl))
  f282:=Tryz.func269.trans (congrArg some (by kernel_rfl))
  f283:=Tryz.func218.trans (congrArg some (by kernel_rfl))
  f284:=Tryz.func219.trans (congrArg some (by kernel_rfl))
  f285:=Tryz.func220.trans (congrArg some (by kernel_rfl))
  f286:=Tryz.func221.trans (congrArg some (by kernel_rfl))
  f287:=Tryz.func265.trans (congrArg some (by kernel_rfl))
  f316:=Tryz.func272.trans (congrArg some (by kernel_rfl))
  f317:=Tryz.func247.trans (congrArg some (by kernel_rfl))
  f318:=Tryz.func248.trans (congrArg some (by kernel_rfl))
  f319:=Tryz.func249.trans (congrArg some (by kernel_rfl))
  f320:=Tryz.func250.trans (congrArg some (by kernel_rfl))
  f321:=Tryz.func270.trans (congrArg some (by kernel_rfl))
  f322:=Tryz.func271.trans (congrArg some (by kernel_rfl))
  f337:=Tryz.func261.trans (congrArg some (by kernel_rfl))
  f338:=Tryz.func262.trans (congrArg some (by kernel_rfl))
  t0:=Tryz.underlying0
  a0:=Tryz.isAgg0
  z0:=Tryz.sizeOf0
  v0:=Tryz.zeroValue0
  t2:=Tryz.underlying2
  a2:=Tryz.isAgg2
  z2:=Tryz.sizeOf2
  v2:=Tryz.zeroValue2
  t3:=Tryz.underlying3
  a3:=Tryz.isAgg3
  z3:=Tryz.sizeOf3
  v3:=Tryz.zeroValue3
  t4:=Tryz.underlying4
  a4:=Tryz.isAgg4
  z4:=Tryz.sizeOf4
  v4:=Tryz.zeroValue4
  t5:=Tryz.underlying5
  a5:=Tryz.isAgg5
  z5:=Tryz.sizeOf5
  v5:=Tryz.zeroValue5
  t9:=Tryz.underlying9
  a9:=Tryz.isAgg9
  z9:=Tryz.sizeOf9
  v9:=Tryz.zeroValue9
  t20:=Tryz.underlying20
  a20:=Tryz.isAgg20
  z20:=Tryz.sizeOf20
  v20:=Tryz.zeroValue20
  t21:=Tryz.underlying21
  a21:=Tryz.isAgg21
  z21:=Tryz.sizeOf21
  v21:=Tryz.zeroValue21
  t37:=Tryz.underlying22
  a37:=Tryz.isAgg22
  z37:=Tryz.sizeOf22
  v37:=Tryz.zeroValue22
  t46:=Tryz.underlying132
  a46:=Tryz.isAgg132
  z46:=Tryz.sizeOf132
  v46:=Tryz.zeroValue132
  t51:=Tryz.underlying188
  a51:=Tryz.isAgg188
  z51:=Tryz.sizeOf188
  v51:=Tryz.zeroValue188
  t53:=Tryz.underlying190
  a53:=Tryz.isAgg190
  z53:=Tryz.sizeOf190
  v53:=Tryz.zeroValue190
  t75:=Tryz.underlying220
  a75:=Tryz.isAgg220
  z75:=Tryz.sizeOf220
  v75:=Tryz.zeroValue220
  t85:=Tryz.underlying270
  a85:=Tryz.isAgg270
  z85:=Tryz.sizeOf270
  v85:=Tryz.zeroValue270
  t127:=Tryz.underlying259
  a127:=Tryz.isAgg259
  z127:=Tryz.sizeOf259
  v127:=Tryz.zeroValue259
  t143:=Tryz.underlying297
  a143:=Tryz.isAgg297
  z143:=Tryz.sizeOf297
  v143:=Tryz.zeroValue297
  t145:=Tryz.underlying299
  a145:=Tryz.isAgg299
  z145:=Tryz.sizeOf299
  v145:=Tryz.zeroValue299
  t167:=Tryz.underlying285
  a167:=Tryz.isAgg285
  z167:=Tryz.sizeOf285
  v167:=Tryz.zeroValue285
  t168:=Tryz.underlying288
  a168:=Tryz.isAgg288
  z168:=Tryz.sizeOf288
  v168:=Tryz.zeroValue288
  t171:=Tryz.underlying236
  a171:=Tryz.isAgg236
  z171:=Tryz.sizeOf236
  v171:=Tryz.zeroValue236
  t173:=Tryz.underlying238
  a173:=Tryz.isAgg238
  z173:=Tryz.sizeOf238
  v173:=Tryz.zeroValue238
  t175:=Tryz.underlying286
  a175:=Tryz.isAgg286
  z175:=Tryz.sizeOf286
  v175:=Tryz.zeroValue286
  t210:=Tryz.underlying295
  a210:=Tryz.isAgg295
  z210:=Tryz.sizeOf295
  v210:=Tryz.zeroValue295
  t212:=Tryz.underlying266
  a212:=Tryz.isAgg266
  z212:=Tryz.sizeOf266
  v212:=Tryz.zeroValue266
  t213:=Tryz.underlying267
  a213:=Tryz.isAgg267
  z213:=Tryz.sizeOf267
  t232:=Tryz.underlying283
  a232:=Tryz.isAgg283
  z232:=Tryz.sizeOf283
  v232:=Tryz.zeroValue283
  t233:=Tryz.underlying284
  a233:=Tryz.isAgg284
  z233:=Tryz.sizeOf284
  v233:=Tryz.zeroValue284
  g15:=by kernel_rfl
  g16:=by kernel_rfl
  g17:=by kernel_rfl
  g18:=by kernel_rfl
  g19:=by kernel_rfl
  t80:=Tryz.underlying223
  a80:=Tryz.isAgg223
  z80:=Tryz.sizeOf223
  v80:=Tryz.zeroValue223
  i0:=by kernel_rfl
  i2:=by kernel_rfl
  i3:=by kernel_rfl
  i4:=by kernel_rfl
  i5:=by kernel_rfl
  i9:=by kernel_rfl
  i20:=by kernel_rfl
  i21:=by kernel_rfl
  i37:=by kernel_rfl
  i46:=by kernel_rfl
  i51:=by kernel_rfl
  i53:=by kernel_rfl
  i75:=by kernel_rfl
  i80:=by kernel_rfl
  i85:=by kernel_rfl
  i127:=by kernel_rfl
  i143:=by kernel_rfl
  i145:=by kernel_rfl
  i167:=by kernel_rfl
  i168:=by kernel_rfl
  i171:=by kernel_rfl
  i173:=by kernel_rfl
  i175:=by kernel_rfl
  i210:=by kernel_rfl
  i212:=by kernel_rfl
  i232:=by kernel_rfl
  i233:=by kernel_rfl
  m15:=by kernel_rfl
  m16:=by kernel_rfl
  m17:=by kernel_rfl
  m18:=by kernel_rfl
  m19:=by kernel_rfl
  c0:=by kernel_rfl
  c2:=by kernel_rfl
  c3:=by kernel_rfl
  c4:=by kernel_rfl
  c5:=by kernel_rfl
  c9:=by kernel_rfl
  c20:=by kernel_rfl
  c21:=by kernel_rfl
  c37:=by kernel_rfl
  c46:=by kernel_rfl
  c51:=by kernel_rfl
  c53:=by kernel_rfl
  c75:=by kernel_rfl
  c80:=by kernel_rfl
  c85:=by kernel_rfl
  c127:=by kernel_rfl
  c143:=by kernel_rfl
  c145:=by kernel_rfl
  c167:=by kernel_rfl
  c168:=by kernel_rfl
  c171:=by kernel_rfl
  c173:=by kernel_rfl
  c175:=by kernel_rfl
  c210:=by kernel_rfl
  c212:=by kernel_rfl
  c213:=by kernel_rfl
  c232:=by kernel_rfl
  c233:=by kernel_rfl
theorem tSyn:∀ w,Tabs w→∃ te pe,w.cell? ⟨6,0,none⟩=some (.iface te pe):=fun w h=>by
  obtain⟨_,h⟩:=h;have h:gp w:=h;unfold gp at h;exact h.2.2.1
theorem tRng:∀ w,Tabs w→∃ te pe,w.cell? ⟨7,0,none⟩=some (.iface te pe):=fun w h=>by
  obtain⟨_,h⟩:=h;have h:gp w:=h;unfold gp at h;exact h.2.2.2
open Go.RowKit Go.Shelf in
theorem f233_ok (K:Nat):@Sound cwZ Tryz.prog 233 (f233M K):=by
  intro w x us Fs hW hgf hA hap;refine fun (y:Int×Bool) hy=>?_;obtain⟨s,x0⟩:=x;obtain⟨rfl,G,rfl⟩:=str1 hA;change numF s=some y at hy;unfold numF at hy;cases hsz:Nat.ble s.size 140737488355328
  · rw[hsz] at hy;cases hy
  rw[hsz,cond_true] at hy;have hsz:=Nat.le_of_ble_eq_true hsz;have e254:∀ args w,(callFunc 254 args).run Tryz.prog w=.ok (.enter 254 args) w:=enters_of Tryz.func254 (by kernel_rfl) rfl
  have e64:∀ args w,(callFunc 64 args).run Tryz.prog w=.ok (.enter 64 args) w:=enters_of Tryz.func64 (by kernel_rfl) rfl
  have hfin:∀ (n:Int) (b:Bool),(n,b)=y→(Calls Tryz.prog 233 #[.string s] w fun e w'=>e=.returned (.tuple #[.int .i64 n,.bool b])∧Below w.heap.size w w')→Calls Tryz.prog 233 [Value.string s].toArray w fun e w'=>∃ u,e=.returned u∧@Post cwZ w (f233M K) [.string s] [G] y u w':=by
    intro n b hy h;subst hy;exact h.mono fun e w' ⟨he,hB⟩=>⟨_,he,num_post hB⟩
  cases hp:Lib.parseIntB 64 s.data.toList
  · rename_i v
    rw[hp] at hy;have hb:=Lib.parseIntB_bounds hp;refine hfin v (itoaB v==s) (by simpa using hy) ?_
    have hP:=Any.strconv_ParseInt_10_at64_ok f233_lays s (by omega) v hp w
    have hin:inI64 v=true:=by
      simp only[inI64,Bool.and_eq_true,decide_eq_true_eq];omega
    go_enter Tryz.func233,Tryz.ntmps233
    go_wp2_with (go_at_fn 254;refine hP.mono ?_)
    rintro e W1 rfl hW1
    have hB1:Below w.heap.size w W1:=by
      rcases hW1 with rfl | ⟨t,rfl⟩
      · exact Below.refl _ _
      · exact Lib.bytesWorld_below _ _ _
    go_wp2_with (go_at_fn 64;refine (text_calls (f64_ok K) (hW.below hB1) (y:=itoaB v) ?_).mono ?_)
    · show (Option.bind (fmtF v 10) fun y=>some y)=some (itoaB v)
      unfold fmtF;rw[hin];rfl
    · rintro e W2 ⟨rfl,hB2⟩
      go_wp2
      go_ret2
      refine⟨?_,hB1.trans (hB2.mono hB1.size)⟩;rw[beq_toListBytes];rfl
  · rw[hp] at hy
    obtain⟨te,pe,hc⟩:=tSyn w hW;have hP:=Any.strconv_ParseInt_10_at64_syntax f233_lays s (by omega) hp (.iface te pe) w hc (.inr ⟨te,pe,rfl⟩)
    refine hfin _ false (by simpa using hy) ?_
    go_enter Tryz.func233,Tryz.ntmps233
    go_wp2_with (go_at_fn 254;refine hP.mono ?_)
    rintro e W1 N rfl hN _ hB1
    go_wp2
    go_ret2
    exact⟨rfl,hB1⟩
  · rw[hp] at hy
    obtain⟨te,pe,hc⟩:=tRng w hW;have hP:=Any.strconv_ParseInt_10_at64_range f233_lays s (by omega) hp (.iface te pe) w hc (.inr ⟨te,pe,rfl⟩)
    refine hfin _ false (by simpa using hy) ?_
    go_enter Tryz.func233,Tryz.ntmps233
    go_wp2_with (go_at_fn 254;refine hP.mono ?_)
    rintro e W1 N rfl hN _ hB1
    go_wp2
    go_ret2
    exact⟨rfl,hB1⟩

include K
attribute [local instance] cwZ in
theorem f195_ok:SF 195 (f195M K) :=
  sF (f195E K) (aF (Sound.toZ (f85_ok K)) (aF (f233_ok K) aN)) Tryz.func195 fun x=>f195_run K x.1 x.2.1 x.2.2.1
attribute [local instance] cwZ in
theorem f227_ok:SF 227 (f227M K) :=
  sF (f227E K) (aF (Sound.toZ (f112_ok K)) (aF (f195_ok K) aN)) Tryz.func227
theorem f228_ok:SF 228 (f228M K) :=
  sF (f228E K) aN Tryz.func228 fun x=>f228_run K x.1
attribute [local instance] cwZ in
theorem f193_ok:SF 193 (f193M K) :=
  sF (f193E K) (aF (f227_ok K) (aF (Sound.toZ (f228_ok K)) aN)) Tryz.func193
attribute [local instance] cwZ in
theorem f141_ok:SoundQ Tryz.prog 141 (f141M K) :=
  sound_fnQ (eO (f141E K) (aF (f193_ok K) aN)) Tryz.func141 fun x=>by kernel_rfl
omit K
def f142_ren:Go.Shelf.Ren:=⟨fun | 143=>142 | 217=>229 | 219=>194 | 224=>231 | 225=>230 | 266=>252 | 267=>232 | 314=>253 | n=>n,fun | 3=>3 | 4=>4 | 5=>5 | 9=>9 | 46=>132 | 51=>188 | 146=>194 | n=>n,fun | 1=>0 | n=>n⟩
theorem f142_lays:Lays.n143 Tryz.prog f142_ren where
  mixed:=by kernel_rfl
  f143:=Tryz.func142.trans (congrArg some (by kernel_rfl))
  f217:=Tryz.func229.trans (congrArg some (by kernel_rfl))
  f219:=Tryz.func194.trans (congrArg some (by kernel_rfl))
  f224:=Tryz.func231.trans (congrArg some (by kernel_rfl))
  f225:=Tryz.func230.trans (congrArg some (by kernel_rfl))
  f266:=Tryz.func252.trans (congrArg some (by kernel_rfl))
  f267:=Tryz.func232.trans (congrArg some (by kernel_rfl))
  f314:=Tryz.func253.trans (congrArg some (by kernel_rfl))
  t3:=Tryz.underlying3
  a3:=Tryz.isAgg3
  z3:=Tryz.sizeOf3
  v3:=Tryz.zeroValue3
  t4:=Tryz.underlying4
  a4:=Tryz.isAgg4
  z4:=Tryz.sizeOf4
  v4:=Tryz.zeroValue4
  t5:=Tryz.underlying5
  a5:=Tryz.isAgg5
  z5:=Tryz.sizeOf5
  v5:=Tryz.zeroValue5
  t9:=Tryz.underlying9
  a9:=Tryz.isAgg9
  z9:=Tryz.sizeOf9
  v9:=Tryz.zeroValue9
  t46:=Tryz.underlying132
  a46:=Tryz.isAgg132
  z46:=Tryz.sizeOf132
  v46:=Tryz.zeroValue132
  t51:=Tryz.underlying188
  a51:=Tryz.isAgg188
  z51:=Tryz.sizeOf188
  v51:=Tryz.zeroValue188
  t146:=Tryz.underlying194
  a146:=Tryz.isAgg194
  z146:=Tryz.sizeOf194
  v146:=Tryz.zeroValue194
  g1:=by kernel_rfl

theorem f142_ok (K:Nat):Sound Tryz.prog 142 (f142M K):=idx_sound f142_lays rfl tMax
include K
theorem f143_ok:SF 143 (f143M K) :=
  sF (f143E K) aN Tryz.func143
attribute [local instance] cwZ in
theorem f144_ok:SF 144 (f144M K) :=
  sF (f144E K) (aF (Sound.toZ (f42_ok K)) (aF (f195_ok K) aN)) Tryz.func144
omit K
def f234_ren:Go.Shelf.Ren:=⟨fun | 145=>234 | 217=>229 | 219=>194 | 220=>255 | 224=>231 | 225=>230 | 266=>252 | 267=>232 | 314=>253 | n=>n,fun | 3=>3 | 4=>4 | 5=>5 | 9=>9 | 46=>132 | 51=>188 | 59=>250 | 146=>194 | n=>n,fun | 1=>0 | n=>n⟩
theorem f234_lays:Lays.n145 Tryz.prog f234_ren where
  mixed:=by kernel_rfl
  f145:=Tryz.func234.trans (congrArg some (by kernel_rfl))
  f217:=Tryz.func229.trans (congrArg some (by kernel_rfl))
  f219:=Tryz.func194.trans (congrArg some (by kernel_rfl))
  f220:=Tryz.func255.trans (congrArg some (by kernel_rfl))
  f224:=Tryz.func231.trans (congrArg some (by kernel_rfl))
  f225:=Tryz.func230.trans (congrArg some (by kernel_rfl))
  f266:=Tryz.func252.trans (congrArg some (by kernel_rfl))
  f267:=Tryz.func232.trans (congrArg some (by kernel_rfl))
  f314:=Tryz.func253.trans (congrArg some (by kernel_rfl))
  t3:=Tryz.underlying3
  a3:=Tryz.isAgg3
  z3:=Tryz.sizeOf3
  v3:=Tryz.zeroValue3
  t4:=Tryz.underlying4
  a4:=Tryz.isAgg4
  z4:=Tryz.sizeOf4
  v4:=Tryz.zeroValue4
  t5:=Tryz.underlying5
  a5:=Tryz.isAgg5
  z5:=Tryz.sizeOf5
  v5:=Tryz.zeroValue5
  t9:=Tryz.underlying9
  a9:=Tryz.isAgg9
  z9:=Tryz.sizeOf9
  v9:=Tryz.zeroValue9
  t46:=Tryz.underlying132
  a46:=Tryz.isAgg132
  z46:=Tryz.sizeOf132
  v46:=Tryz.zeroValue132
  t51:=Tryz.underlying188
  a51:=Tryz.isAgg188
  z51:=Tryz.sizeOf188
  v51:=Tryz.zeroValue188
  t59:=Tryz.underlying250
  a59:=Tryz.isAgg250
  z59:=Tryz.sizeOf250
  v59:=Tryz.zeroValue250
  t146:=Tryz.underlying194
  a146:=Tryz.isAgg194
  z146:=Tryz.sizeOf194
  v146:=Tryz.zeroValue194
  g1:=by kernel_rfl

theorem f234_ok (K:Nat):Sound Tryz.prog 234 (f234M K):=cut_sound f234_lays rfl tMax
include K
attribute [local instance] cwZ in
theorem f235_ok:SF 235 (f235M K) :=
  sF (f235E K) (aF (Sound.toZ (f110_ok K)) (aF (f195_ok K) aN)) Tryz.func235
attribute [local instance] cwZ in
theorem f196_ok:SF 196 (f196M K) :=
  sF (f196E K) (aF (Sound.toZ (f57_ok K)) (aF (f227_ok K) (aF (Sound.toZ (f234_ok K)) (aF (f235_ok K) aN)))) Tryz.func196
theorem f256_ok:SF 256 (f256M K) :=
  sF (f256E K) aN Tryz.func256 fun x=>f256_run K x.1 x.2.1
theorem f236_ok:SF 236 (f236M K) :=
  sF (f236E K) (aF (f256_ok K) aN) Tryz.func236
theorem f197_ok:SF 197 (f197M K) :=
  sF (f197E K) (aF (f53_ok K) (aF (f112_ok K) (aF (f236_ok K) aN))) Tryz.func197
attribute [local instance] cwZ in
theorem f145_ok:SoundQ Tryz.prog 145 (f145M K) :=
  sound_fnQ (eO (f145E K) (aF (Sound.toZ (f49_ok K)) (aF (f196_ok K) (aF (Sound.toZ (f197_ok K)) aN)))) Tryz.func145 fun x=>by kernel_rfl
attribute [local instance] cwZ in
theorem f86_ok:SoundQ Tryz.prog 86 (f86M K) :=
  sound_fnQ (eO (f86E K) (aF (Sound.toZ (f85_ok K)) (aF (Sound.toZ (f142_ok K)) (aF (Sound.toZ (f143_ok K)) (aF (f144_ok K) aN)))) (q:=(AllQ.cons (f141_ok K) (rk 141) (AllQ.cons (f145_ok K) (rk 145) AllQ.nil)))) Tryz.func86 fun x=>by kernel_rfl
theorem f36_ok:SF 36 (f36M K) :=
  sF (f36E K) (aF (f18_ok K) aN) Tryz.func36
theorem f237_ok:SF 237 (f237M K) :=
  sF (f237E K) (aF (f41_ok K) (aF (f42_ok K) aN)) Tryz.func237
theorem f238_ok:SF 238 (f238M K) :=
  sF (f238E K) (aF (f48_ok K) (aF (f49_ok K) (aF (f50_ok K) (aF (f52_ok K) (aF (f53_ok K) (aF (f97_ok K) (aF (f236_ok K) aN))))))) Tryz.func238 fun x=>f238_run K x.1 x.2.1 x.2.2.1
theorem f198_ok:SF 198 (f198M K) :=
  sF (f198E K) (aF (f237_ok K) (aF (f238_ok K) aN)) Tryz.func198 fun x=>f198_run K x.1 x.2.1 x.2.2.1
theorem f147_ok:SF 147 (f147M K) :=
  sF (f147E K) (aF (f91_ok K) aN) Tryz.func147
theorem f240_ok:SF 240 (f240M K) :=
  sF (f240E K) (aF (f112_ok K) (aF (f147_ok K) aN)) Tryz.func240
theorem f257_ok:SF 257 (f257M K) :=
  sF (f257E K) aN Tryz.func257 fun x=>f257_run K x.1 x.2.1
theorem f239_ok:SF 239 (f239M K) :=
  sF (f239E K) (aF (f257_ok K) aN) Tryz.func239
theorem f199_ok:Sound Tryz.prog 199 (f199M K) :=
  sound_fn (eO (f199E K) (aF (f239_ok K) (aF (f240_ok K) aN)) (v:=(AllV.cons (f240_ok K) (rk 240) AllV.nil))) Tryz.func199 fun x=>by kernel_rfl
theorem f146_ok:SF 146 (f146M K) :=
  sF (f146E K) (aF (f198_ok K) (aF (f199_ok K) aN)) Tryz.func146
theorem f200_ok:SF 200 (f200M K) :=
  sF (f200E K) (aF (f61_ok K) (aF (f97_ok K) aN)) Tryz.func200
theorem f148_ok:SF 148 (f148M K) :=
  sF (f148E K) (aF (f22_ok K) (aF (f200_ok K) aN)) Tryz.func148 fun x=>f148_run K x.1 x.2.1 x.2.2.1
theorem f149_ok:SF 149 (f149M K) :=
  sF (f149E K) (aF (f43_ok K) (aF (f61_ok K) aN)) Tryz.func149 fun x=>f149_run K x.1 x.2.1 x.2.2.1 x.2.2.2.1
theorem f87_ok:SF 87 (f87M K) :=
  sF (f87E K) (aF (f54_ok K) (aF (f61_ok K) (aF (f62_ok K) (aF (f97_ok K) (aF (f146_ok K) (aF (f147_ok K) (aF (f148_ok K) (aF (f149_ok K) aN)))))))) Tryz.func87 fun x=>f87_run K x.1 x.2.1 x.2.2.1 x.2.2.2.1 x.2.2.2.2.1
attribute [local instance] cwZ in
theorem f35_ok:SoundC Tryz.prog 35 (f35M K) :=
  sound_fnC (eO (f35E K) (aF (Sound.toZ (f36_ok K)) (aF (Sound.toZ (f84_ok K)) (aF (Sound.toZ (f85_ok K)) (aF (Sound.toZ (f87_ok K)) aN)))) (q:=(AllQ.cons (f86_ok K) (rk 86) AllQ.nil))) Tryz.func35 fun x=>f35_run K x.1
attribute [local instance] cwZ in
theorem f8_ok:Sound Tryz.prog 8 (f8M K) :=
  sound_fn (eO (f8E K) aN (c:=(AllC.cons (f35_ok K) (rk 35) AllC.nil))) Tryz.func8 fun x=>by kernel_rfl
theorem f9_ok:SF 9 (f9M K) :=
  sF (f9E K) (aF (f15_ok K) (aF (f16_ok K) aN)) Tryz.func9
attribute [local instance] cwZ in
theorem f10_ok:Sound Tryz.prog 10 (f10M K) :=
  sound_fn (eO (f10E K) (aF (Sound.toZ (f36_ok K)) aN) (c:=(AllC.cons (f35_ok K) (rk 35) AllC.nil))) Tryz.func10 fun x=>by kernel_rfl
theorem f11_ok:SF 11 (f11M K) :=
  sF (f11E K) (aF (f15_ok K) (aF (f16_ok K) (aF (f19_ok K) aN))) Tryz.func11
theorem f37_ok:SF 37 (f37M K) :=
  sF (f37E K) aN Tryz.func37 fun x=>f37_run K x.1 x.2.1
theorem f12_ok:SF 12 (f12M K) :=
  sF (f12E K) (aF (f37_ok K) aN) Tryz.func12
theorem f13_ok:SF 13 (f13M K) :=
  sF (f13E K) aN Tryz.func13 fun x=>f13_run K x.1 x.2.1
attribute [local instance] cwZ in
theorem f3_ok:SF 3 (f3M K) :=
  sF (f3E K) (aF (Sound.toZ (f4_ok K)) (aF (Sound.toZ (f5_ok K)) (aF (f6_ok K) (aF (Sound.toZ (f7_ok K)) (aF (f8_ok K) (aF (Sound.toZ (f9_ok K)) (aF (f10_ok K) (aF (Sound.toZ (f11_ok K)) (aF (Sound.toZ (f12_ok K)) (aF (Sound.toZ (f13_ok K)) aN)))))))))) Tryz.func3
end Go.Proofs.YtelgaemfnhnbmaaGreatDoor.X
