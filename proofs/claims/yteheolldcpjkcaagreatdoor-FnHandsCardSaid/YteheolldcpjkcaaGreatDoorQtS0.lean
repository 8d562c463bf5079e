/- Functions of the program as plain Lean functions, and that the program does what they say. Printed by gen.py. -/
import Derived.Test.YteheolldcpjkcaaGreatDoorQtR0
namespace Go.Proofs.YteheolldcpjkcaaGreatDoor.X
open Go
set_option maxRecDepth 100000
attribute [local instance] cwD
set_option linter.unusedVariables false
theorem rk (n:Nat) (h:YF Tryz.prog n=true:=by kernel_rfl):Co Tryz.prog n:=Ts h
abbrev SF [CW] (n:Nat) (m:Mdl):Prop:=Ck Tryz.prog n m
theorem aF [CW] {f:Nat} {m:Mdl} {l:List (Nat×Mdl)} (a:Ck Tryz.prog f m) (c:El Tryz.prog l) (b:YF Tryz.prog f=true:=by kernel_rfl):El Tryz.prog ((f,m) :: l):=El.cons a (Ts b) c
theorem aN [CW]:El Tryz.prog []:=El.nil
theorem eO [CW] (E:Env) (a:El Tryz.prog E.fs) (h:AeV Tryz.prog E.ty E.eq E.mt=true:=by exact TI) (p:Cj Tryz.prog E.pf:=by exact Cj.nil) (n:Jb Tryz.prog E.nf:=by exact Jb.nil) (q:Nh Tryz.prog E.qf:=by exact Nh.nil) (c:Ni Tryz.prog E.cf:=by exact Ni.nil) (v:Jc Tryz.prog E.vf:=by exact Jc.nil) (o:Nj Tryz.prog E.xf:=by exact Nj.nil):AE Tryz.prog E:=AeW h K6 a p n q c v o
theorem sF [CW] {f:Nat} {fn:Func} {ps:List (PM×Sh)} {rs:List Sh} {F:AT ps→Option (RT (BD ps++rs))} (E:Env) (a:El Tryz.prog E.fs) (hfn:Tryz.prog.funcs[f]? = some fn) (hF:∀ x,Q4 E fn ps rs x=F x:=by intro x;kernel_rfl) (h:AeV Tryz.prog E.ty E.eq E.mt=true:=by exact TI) (p:Cj Tryz.prog E.pf:=by exact Cj.nil) (n:Jb Tryz.prog E.nf:=by exact Jb.nil) (q:Nh Tryz.prog E.qf:=by exact Nh.nil) (c:Ni Tryz.prog E.cf:=by exact Ni.nil) (v:Jc Tryz.prog E.vf:=by exact Jc.nil) (o:Nj Tryz.prog E.xf:=by exact Nj.nil):SF f ⟨ps,rs,F⟩:=EU (AeW h K6 a p n q c v o) hfn hF
variable (K:Nat)
include K
theorem Ao5:SF 5 (f5M K) :=
  sF (f5E K) aN Tryz.func5
theorem AdZ:Gw Tryz.prog 31 (AkV K) :=
  Z2 (eO (Aaz K) aN) Tryz.func31 fun x=>Ag3 K x.1
theorem Gl:CQ Tryz.prog 45 (O7 K) :=
  CT (eO (Apn K) aN) Tryz.func45 fun x=>by kernel_rfl
theorem Qu:CQ Tryz.prog 44 (AaC K) :=
  CT (eO (Apo K) aN (p:=(Cj.cons (Gl K) (rk 45) Cj.nil))) Tryz.func44 fun x=>by kernel_rfl
theorem Ah4:CQ Tryz.prog 156 (AjA K) :=
  CT (eO (Anl K) aN (p:=(Cj.cons (Qu K) (rk 44) (Cj.cons (Gl K) (rk 45) Cj.nil)))) Tryz.func156 fun x=>by kernel_rfl
theorem Ah5:CQ Tryz.prog 157 (AjB K) :=
  CT (eO (Anm K) aN (p:=(Cj.cons (Qu K) (rk 44) (Cj.cons (Gl K) (rk 45) Cj.nil)))) Tryz.func157 fun x=>by kernel_rfl
theorem Ama:CQ Tryz.prog 76 (Ann K) :=
  CT (eO (App K) aN (p:=(Cj.cons (Gl K) (rk 45) (Cj.cons (Ah4 K) (rk 156) (Cj.cons (Ah5 K) (rk 157) Cj.nil))))) Tryz.func76 fun x=>by kernel_rfl
theorem Ah6:SF 170 (AjC K) :=
  sF (Ano K) aN Tryz.func170
theorem Qv:SF 149 (VV K) :=
  sF (Anp K) aN Tryz.func149
theorem Ah7:SF 171 (AjD K) :=
  sF (Anq K) (aF (Qv K) aN) Tryz.func171
theorem UR:SF 90 (Ae9 K) :=
  sF (Apq K) (aF (Ah6 K) (aF (Ah7 K) aN)) Tryz.func90
theorem KH:SF 131 (RB K) :=
  sF (Anr K) aN Tryz.func131
theorem X2:SF 158 (AaD K) :=
  sF (Ans K) (aF (KH K) aN) Tryz.func158
theorem Ah8:SF 134 (AjE K) :=
  sF (Ant K) aN Tryz.func134
theorem Qw:SF 175 (VY K) :=
  sF (Anu K) aN Tryz.func175
theorem Ah9:SF 237 (AjG K) :=
  sF (Anv K) (aF (Ah8 K) (aF (Qw K) aN)) Tryz.func237
theorem Aia:SF 181 (V0 K) :=
  sF (Ns K) (aF (Ah9 K) aN) Tryz.func181 fun x=>Adw K x.1
theorem X3:SF 172 (AaF K) :=
  sF (Anw K) aN Tryz.func172
theorem Qx:SF 174 (V2 K) :=
  sF (Anx K) aN Tryz.func174
omit K
theorem ST (K:Nat):∀ n,Ck Tryz.prog 215 ⟨[(.ro,sI),(.ro,sI)],[sI],fun x=>JQ K n x.1 x.2.1⟩
  | 0=>fun _ _ _ _ _ _ _ _ _ h=>by cases h
  | n+1=>EU (AeW (E:=AjH K (JQ K n)) TI K6 (El.cons (ST K n) (rk 215) El.nil) Cj.nil Jb.nil Nh.nil Ni.nil Jc.nil Nj.nil) Tryz.func215 fun x=>Adx K (JQ K n) x.1 x.2.1
theorem Aib (K:Nat):Ck Tryz.prog 215 (AjI K):=ST K K
include K
theorem X4:SF 199 (AaG K) :=
  sF (Anz K) aN Tryz.func199
theorem Aic:SF 213 (AjJ K) :=
  sF (AnA K) aN Tryz.func213
theorem X5:SF 173 (RE K) :=
  sF (H2 K) (aF (X4 K) (aF (Aic K) (aF (Aib K) aN))) Tryz.func173 fun x=>AdA K x.1
theorem Ad0:SF 92 (AkX K) :=
  sF (Apr K) (aF (X3 K) (aF (X5 K) (aF (Qx K) aN))) Tryz.func92
theorem Ad1:SF 99 (AaK K) :=
  sF (YM K) (aF (Ad0 K) (aF (Aia K) aN)) Tryz.func99 fun x=>Ag5 K x.1 x.2.1
theorem Aid:CQ Tryz.prog 160 (AjK K) :=
  CT (eO (AnB K) (aF (UR K) (aF (Ad1 K) (aF (KH K) aN))) (p:=(Cj.cons (Gl K) (rk 45) Cj.nil))) Tryz.func160 fun x=>by kernel_rfl
theorem Qy:SF 118 (V5 K) :=
  sF (AnC K) (aF (X4 K) aN) Tryz.func118
theorem X6:SF 159 (AaM K) :=
  sF (AnD K) (aF (Qy K) aN) Tryz.func159
theorem X7:SF 182 (AaN K) :=
  sF (AnE K) aN Tryz.func182
theorem Aie:SF 226 (AjL K) :=
  sF (AnF K) (aF (Qx K) (aF (Qw K) (aF (X7 K) aN))) Tryz.func226
theorem Aif:SF 288 (AjM K) :=
  sF (AnG K) aN Tryz.func288
theorem Aig:SF 287 (Wa K) :=
  sF (Nv K) aN Tryz.func287 fun x=>AdB K x.1 x.2.1
theorem Aih:SF 269 (AjN K) :=
  sF (AnH K) (aF (Aig K) (aF (Aif K) aN)) Tryz.func269
theorem X8:SF 198 (AaP K) :=
  sF (AnI K) aN Tryz.func198
theorem Aii:SF 224 (AjO K) :=
  sF (AnJ K) (aF (X8 K) (aF (Aih K) aN)) Tryz.func224
theorem X9:SF 229 (RK K) :=
  sF (Nw K) (aF (Aii K) aN) Tryz.func229 fun x=>AdC K x.1 x.2.1
theorem Aij:SF 225 (AjP K) :=
  sF (AnK K) (aF (X9 K) aN) Tryz.func225
theorem Aik:SF 230 (AjQ K) :=
  sF (AnL K) (aF (X9 K) aN) Tryz.func230
theorem Ail:SF 161 (Wh K) :=
  sF (H4 K) (aF (X2 K) (aF (X6 K) (aF (Aij K) (aF (Aie K) (aF (Aik K) aN))))) Tryz.func161 fun x=>AdF K x.1 x.2.1
theorem Gm:SF 42 (Li K) :=
  sF (Pd K) aN Tryz.func42 fun x=>Ag8 K x.1
theorem US:SF 93 (Afe K) :=
  sF (Aps K) (aF (Qx K) (aF (Qw K) aN)) Tryz.func93
theorem Ya:SF 101 (AaV K) :=
  sF (AnM K) (aF (US K) (aF (Qy K) aN)) Tryz.func101
theorem Aim:SF 117 (Wi K) :=
  sF (Nz K) (aF (X8 K) aN) Tryz.func117 fun x=>AdG K x.1 x.2.1
theorem Amb:SF 61 (Afg K) :=
  sF (YP K) (aF (Ya K) (aF (Aim K) aN)) Tryz.func61 fun x=>Aha K x.1 x.2.1 x.2.2.1
theorem Ain:SF 234 (Wk K) :=
  sF (NA K) (aF (Gm K) (aF (Amb K) aN)) Tryz.func234 fun x=>AdH K x.1 x.2.1
theorem UT:SF 62 (Afi K) :=
  sF (Apt K) (aF (Qy K) aN) Tryz.func62
theorem Aio:SF 162 (Wn K) :=
  sF (H6 K) (aF (UT K) (aF (Ain K) aN)) Tryz.func162 fun x=>AdJ K x.1 x.2.1
theorem Amc:CQ Tryz.prog 77 (AnN K) :=
  CT (eO (D7 K) (aF (UR K) (aF (X2 K) (aF (X6 K) (aF (Ail K) (aF (Aio K) aN))))) (p:=(Cj.cons (Gl K) (rk 45) (Cj.cons (Aid K) (rk 160) Cj.nil)))) Tryz.func77 fun x=>Ahh K x.1 x.2.1 x.2.2.1
theorem Ad2:CQ Tryz.prog 30 (Ak2 K) :=
  CT (eO (Apu K) aN (p:=(Cj.cons (Qu K) (rk 44) (Cj.cons (Gl K) (rk 45) (Cj.cons (Ama K) (rk 76) (Cj.cons (Amc K) (rk 77) Cj.nil)))))) Tryz.func30 fun x=>by kernel_rfl
theorem Ao6:Ck Tryz.prog 6 (f6M K) :=
  EU (eO (f6E K) aN (p:=(Cj.cons (Ad2 K) (rk 30) Cj.nil)) (n:=(Jb.cons (AdZ K) (rk 31) Jb.nil))) Tryz.func6 fun x=>by kernel_rfl
theorem GW:SF 106 (Lj K) :=
  sF (AnO K) aN Tryz.func106
theorem Amd:SF 78 (AnP K) :=
  sF (Apv K) (aF (GW K) aN) Tryz.func78
theorem UU:SF 80 (Afo K) :=
  sF (Apw K) aN Tryz.func80
theorem Ame:SF 79 (AnQ K) :=
  sF (Apx K) (aF (UU K) (aF (GW K) aN)) Tryz.func79
theorem Yb:SF 164 (Aa4 K) :=
  sF (AnR K) (aF (GW K) aN) Tryz.func164
theorem Aip:SF 235 (Ww K) :=
  sF (NC K) aN Tryz.func235 fun x=>AdK K x.1 x.2.1
theorem Aiq:SF 163 (AjR K) :=
  sF (AnS K) (aF (Aip K) aN) Tryz.func163
theorem Amf:Ck Tryz.prog 81 (AnT K) :=
  EU (eO (Apy K) (aF (Aiq K) (aF (Yb K) aN)) (v:=(Jc.cons (Yb K) (rk 164) Jc.nil))) Tryz.func81 fun x=>by kernel_rfl
theorem Ju:SF 32 (TU K) :=
  sF (Apz K) (aF (Amd K) (aF (Ame K) (aF (UU K) (aF (Amf K) aN)))) Tryz.func32
theorem Qz:SF 84 (Aa6 K) :=
  sF (ApA K) aN Tryz.func84
theorem HH:SF 39 (M1 K) :=
  sF (Po K) aN Tryz.func39 fun x=>Ahj K x.1
theorem Yc:SF 102 (Abb K) :=
  sF (AnU K) aN Tryz.func102
theorem Jv:SF 86 (TW K) :=
  sF (ApB K) aN Tryz.func86
theorem KI:SF 165 (RS K) :=
  sF (AnV K) aN Tryz.func165
theorem UV:SF 89 (Afs K) :=
  sF (ApC K) (aF (Jv K) (aF (KI K) aN)) Tryz.func89
theorem Yd:SF 167 (Abc K) :=
  sF (AnW K) aN Tryz.func167
theorem QA:SF 169 (Wz K) :=
  sF (AnX K) (aF (Yd K) aN) Tryz.func169
theorem Amg:SF 58 (AnY K) :=
  sF (ApD K) aN Tryz.func58
theorem UW:SF 88 (Aft K) :=
  sF (ApE K) (aF (Amg K) (aF (QA K) aN)) Tryz.func88
theorem Ad3:SF 97 (Abe K) :=
  sF (YS K) (aF (HH K) (aF (UW K) (aF (UV K) aN))) Tryz.func97 fun x=>Ahk K x.1 x.2.1
theorem KJ:SF 128 (RU K) :=
  sF (AnZ K) aN Tryz.func128
theorem QB:SF 166 (NF K) :=
  sF (NE K) aN Tryz.func166 fun x=>AdL K x.1 x.2.1
theorem Ad4:SF 85 (Abi K) :=
  sF (Ps K) (aF (KJ K) (aF (KI K) (aF (QB K) (aF (Yd K) aN)))) Tryz.func85 fun x=>Aho K x.1
theorem Amh:SF 83 (Afw K) :=
  sF (YU K) (aF (HH K) (aF (Qz K) (aF (Ad4 K) (aF (Ad3 K) (aF (Yc K) aN))))) Tryz.func83 fun x=>Ahp K x.1
theorem Ami:SF 82 (Afx K) :=
  sF (YV K) (aF (HH K) (aF (UW K) aN)) Tryz.func82 fun x=>Ahq K x.1 x.2.1
theorem Jw:SF 33 (T0 K) :=
  sF (ApF K) (aF (Ami K) (aF (Amh K) aN)) Tryz.func33
theorem HI:SF 46 (RV K) :=
  sF (ApG K) aN Tryz.func46
theorem Air:SF 168 (AjS K) :=
  sF (An0 K) (aF (HI K) aN) Tryz.func168
theorem Amj:SF 87 (An1 K) :=
  sF (ApH K) (aF (Jv K) (aF (KJ K) (aF (Air K) aN))) Tryz.func87
theorem Amk:SF 34 (Afz K) :=
  sF (YW K) (aF (HH K) (aF (Qz K) (aF (Ad4 K) (aF (Jv K) (aF (Amj K) (aF (UW K) (aF (UV K) aN))))))) Tryz.func34 fun x=>Ahs K x.1 x.2.1
theorem Ao7:SF 7 (f7M K) :=
  sF (f7E K) (aF (Ju K) (aF (Jw K) (aF (Amk K) aN))) Tryz.func7
theorem Aml:SF 91 (AfB K) :=
  sF (YX K) (aF (Qv K) aN) Tryz.func91 fun x=>Aht K x.1 x.2.1 x.2.2.1 x.2.2.2.1
theorem UX:SF 35 (AfC K) :=
  sF (ApI K) (aF (UR K) (aF (Aml K) aN)) Tryz.func35
theorem Ye:SF 176 (Abv K) :=
  sF (An2 K) (aF (UT K) aN) Tryz.func176
theorem Yf:SF 100 (RW K) :=
  sF (NH K) (aF (Gm K) (aF (US K) (aF (Ye K) aN))) Tryz.func100 fun x=>AdM K x.1 x.2.1
theorem Amm:SF 95 (AfE K) :=
  sF (YZ K) (aF (Gm K) (aF (Yf K) (aF (KH K) (aF (X3 K) (aF (X5 K) aN))))) Tryz.func95 fun x=>Ahv K x.1
theorem Amn:SF 94 (AfF K) :=
  sF (Y0 K) (aF (Gm K) (aF (Ye K) aN)) Tryz.func94 fun x=>Ahw K x.1 x.2.1
theorem UY:SF 37 (AfG K) :=
  sF (ApJ K) (aF (Amn K) (aF (Amm K) aN)) Tryz.func37
theorem Amo:SF 36 (AfH K) :=
  sF (Y2 K) (aF (Gm K) (aF (UT K) (aF (Ad0 K) (aF (US K) aN)))) Tryz.func36 fun x=>Ahx K x.1 x.2.1
theorem Ao8:SF 8 (f8M K) :=
  sF (f8E K) (aF (UX K) (aF (Amo K) (aF (UY K) aN))) Tryz.func8
theorem Yg:SF 204 (AbF K) :=
  sF (An3 K) aN Tryz.func204
theorem Ais:SF 178 (WH K) :=
  sF (NJ K) (aF (Jv K) (aF (Yg K) aN)) Tryz.func178 fun x=>AdN K x.1
theorem QC:SF 180 (WJ K) :=
  sF (An4 K) (aF (QA K) aN) Tryz.func180
theorem Yh:SF 179 (AbH K) :=
  sF (An5 K) (aF (Jv K) (aF (QC K) aN)) Tryz.func179
theorem Ait:SF 236 (WL K) :=
  sF (NL K) aN Tryz.func236 fun x=>AdO K x.1 x.2.1
theorem Aiu:SF 177 (WN K) :=
  sF (NM K) (aF (Ait K) aN) Tryz.func177 fun x=>AdP K x.1 x.2.1
theorem Amp:Ck Tryz.prog 96 (An6 K) :=
  EU (eO (ApK K) (aF (Qz K) (aF (Aiu K) (aF (Ais K) (aF (Yh K) aN)))) (v:=(Jc.cons (Yh K) (rk 179) Jc.nil))) Tryz.func96 fun x=>by kernel_rfl
theorem QD:SF 38 (T8 K) :=
  sF (PG K) (aF (HH K) (aF (Amp K) (aF (Ad3 K) aN))) Tryz.func38 fun x=>AhD K x.1
theorem Amq:SF 98 (An7 K) :=
  sF (ApL K) (aF (UV K) (aF (QA K) aN)) Tryz.func98
theorem UZ:SF 40 (Y4 K) :=
  sF (Y3 K) (aF (Amq K) aN) Tryz.func40 fun x=>AhE K x.1 x.2.1 x.2.2.1
theorem Ao9:SF 9 (f9M K) :=
  sF (f9E K) (aF (Ju K) (aF (Jw K) (aF (QD K) (aF (HH K) (aF (UZ K) aN))))) Tryz.func9 fun x=>Al3 K x.1
theorem Ad5:SF 41 (AbO K) :=
  sF (PJ K) (aF (Gm K) (aF (Ad1 K) (aF (Yf K) aN))) Tryz.func41 fun x=>AhH K x.1
theorem Ad6:SF 43 (AbQ K) :=
  sF (Y6 K) (aF (Ya K) aN) Tryz.func43 fun x=>AhI K x.1 x.2.1 x.2.2.1
theorem Amr:SF 10 (AfP K) :=
  sF (Y7 K) (aF (UX K) (aF (UY K) (aF (Ad5 K) (aF (Gm K) (aF (Ad6 K) aN))))) Tryz.func10 fun x=>AhJ K x.1
theorem Ams:Ck Tryz.prog 11 (An9 K) :=
  EU (eO (ApM K) aN (p:=(Cj.cons (Ad2 K) (rk 30) (Cj.cons (Qu K) (rk 44) (Cj.cons (Gl K) (rk 45) Cj.nil)))) (n:=(Jb.cons (AdZ K) (rk 31) Jb.nil))) Tryz.func11 fun x=>by kernel_rfl
theorem U0:SF 47 (AfR K) :=
  sF (ApN K) (aF (HI K) (aF (Yc K) aN)) Tryz.func47
theorem Amt:SF 12 (AfS K) :=
  sF (PP K) (aF (Ju K) (aF (Jw K) (aF (QD K) (aF (HH K) (aF (UZ K) (aF (HI K) (aF (U0 K) aN))))))) Tryz.func12 fun x=>AhM K x.1 x.2.1
theorem Amu:SF 48 (AfU K) :=
  sF (Y8 K) aN Tryz.func48 fun x=>AhN K x.1 x.2.1
theorem Aiv:SF 103 (AjU K) :=
  sF (Aoa K) aN Tryz.func103
theorem Aiw:SF 238 (AjV K) :=
  sF (Aob K) (aF (Qv K) aN) Tryz.func238
theorem Aix:SF 183 (AjX K) :=
  sF (Aoc K) (aF (Aiw K) aN) Tryz.func183
theorem Aiy:SF 104 (W2 K) :=
  sF (NN K) (aF (KH K) (aF (X7 K) (aF (Aix K) aN))) Tryz.func104 fun x=>AdQ K x.1
theorem Amv:SF 49 (Aod K) :=
  sF (ApO K) (aF (Aiv K) (aF (Aiy K) aN)) Tryz.func49
theorem Amw:SF 13 (Ab4 K) :=
  sF (M3 K) (aF (UX K) (aF (UY K) (aF (Ad5 K) (aF (Gm K) (aF (Ad6 K) (aF (Amu K) (aF (Amv K) aN))))))) Tryz.func13 fun x=>AhQ K x.1 x.2.1
theorem Amx:SF 50 (AfY K) :=
  sF (Za K) aN Tryz.func50 fun x=>AhR K x.1 x.2.1
theorem Amy:SF 14 (Aoe K) :=
  sF (ApP K) (aF (Amx K) aN) Tryz.func14
theorem Amz:SF 15 (Af0 K) :=
  sF (Zb K) aN Tryz.func15 fun x=>AhS K x.1 x.2.1
theorem Aiz:SF 105 (W5 K) :=
  sF (NO K) aN Tryz.func105 fun x=>AdR K x.1 x.2.1
theorem AmA:SF 51 (Aof K) :=
  sF (ApQ K) (aF (Aiz K) aN) Tryz.func51
theorem AmB:SF 16 (Aog K) :=
  sF (ApR K) (aF (Ju K) (aF (Jw K) (aF (AmA K) aN))) Tryz.func16
theorem AiA:SF 123 (W7 K) :=
  sF (NP K) (aF (HI K) (aF (U0 K) aN)) Tryz.func123 fun x=>AdS K x.1
theorem Yi:SF 231 (Acc K) :=
  sF (Aoh K) (aF (GW K) aN) Tryz.func231
theorem AiB:SF 281 (AjZ K) :=
  sF (Aoi K) (aF (Yi K) aN) Tryz.func281
theorem AiC:SF 257 (Aj1 K) :=
  sF (Aoj K) (aF (HI K) (aF (AiB K) aN)) Tryz.func257
theorem Yj:SF 206 (Acd K) :=
  sF (Aok K) (aF (HI K) (aF (U0 K) aN)) Tryz.func206
theorem AiD:SF 196 (Xa K) :=
  sF (NQ K) aN Tryz.func196 fun x=>AdT K x.1 x.2.1
theorem AiE:SF 113 (Aj2 K) :=
  sF (Aol K) (aF (AiD K) aN) Tryz.func113
theorem AiF:SF 153 (Aj4 K) :=
  sF (Aom K) (aF (Yi K) aN) Tryz.func153
theorem AiG:SF 258 (Aj5 K) :=
  sF (Aon K) (aF (AiF K) aN) Tryz.func258
theorem AiH:SF 202 (Aj7 K) :=
  sF (Aoo K) (aF (AiE K) (aF (KJ K) (aF (QB K) (aF (Yj K) (aF (AiC K) (aF (AiG K) aN)))))) Tryz.func202
theorem QE:SF 125 (Xc K) :=
  sF (Aop K) (aF (AiH K) aN) Tryz.func125
theorem Yk:SF 124 (R4 K) :=
  sF (NR K) (aF (KI K) (aF (QC K) aN)) Tryz.func124 fun x=>AdU K x.1 x.2.1
theorem AiI:SF 203 (Xi K) :=
  sF (Im K) aN Tryz.func203 fun x=>AdV K x.1
theorem AiJ:SF 126 (Xm K) :=
  sF (NS K) (aF (QC K) (aF (AiI K) (aF (Yg K) aN))) Tryz.func126 fun x=>AdW K x.1 x.2.1
theorem AiK:SF 205 (Xp K) :=
  sF (NT K) aN Tryz.func205 fun x=>AdX K x.1 x.2.1
theorem AiL:SF 127 (Aj8 K) :=
  sF (Aoq K) (aF (AiK K) aN) Tryz.func127
theorem AiM:SF 207 (Aj9 K) :=
  sF (Aor K) (aF (Jv K) (aF (QE K) (aF (KI K) aN))) Tryz.func207
theorem AiN:SF 129 (Aka K) :=
  sF (Aos K) (aF (Qz K) (aF (QB K) (aF (Yj K) (aF (AiM K) aN)))) Tryz.func129
theorem AiO:SF 209 (Akb K) :=
  sF (Aot K) aN Tryz.func209
theorem AiP:SF 208 (Akc K) :=
  sF (Aou K) aN Tryz.func208
theorem AiQ:SF 130 (Akd K) :=
  sF (Aov K) (aF (UU K) (aF (Yk K) (aF (QE K) (aF (AiP K) (aF (AiO K) aN))))) Tryz.func130
theorem AmC:SF 65 (Agc K) :=
  sF (Zc K) (aF (HI K) (aF (AiA K) (aF (Yk K) (aF (QE K) (aF (AiJ K) (aF (AiL K) (aF (KJ K) (aF (AiN K) (aF (AiQ K) aN))))))))) Tryz.func65 fun x=>Ah2 K x.1 x.2.1 x.2.2.1
theorem AiR:SF 119 (Ake K) :=
  sF (Aow K) (aF (GW K) aN) Tryz.func119
omit K
def Ad7:Go.Shelf.Ren:=⟨fun | 129=>255 | 173=>200 | 246=>256 | 283=>277 | 284=>278 | 285=>279 | 286=>280 | 317=>290 | 318=>291 | 319=>292 | 320=>293 | 337=>303 | 338=>304 | n=>n,fun | 0=>0 | 2=>2 | 3=>3 | 4=>4 | 5=>5 | 9=>9 | 20=>20 | 37=>22 | 46=>168 | 51=>221 | 53=>223 | 171=>270 | 173=>272 | 212=>283 | 213=>284 | 232=>294 | 233=>295 | n=>n,fun | 17=>0 | 18=>1 | 19=>2 | n=>n⟩
theorem ZR:LaysM.n173 Tryz.prog Ad7 where
  mixed:=by kernel_rfl
  f129:=Tryz.func255.trans (congrArg some (by kernel_rfl))
  f173:=Tryz.func200.trans (congrArg some (by kernel_rfl))
  f246:=Tryz.func256.trans (congrArg some (by kernel_rfl))
  f283:=Tryz.func277.trans (congrArg some (by kernel_rfl))
  f284:=Tryz.func278.trans (congrArg some (by kernel_rfl))
  f285:=Tryz.func279.trans (congrArg some (by kernel_rfl))
  f286:=Tryz.func280.trans (congrArg some (by kernel_rfl))
  f317:=Tryz.func290.trans (congrArg some (by kernel_rfl))
  f318:=Tryz.func291.trans (congrArg some (by kernel_rfl))
  f319:=Tryz.func292.trans (congrArg some (by kernel_rfl))
  f320:=Tryz.func293.trans (congrArg some (by kernel_rfl))
  f337:=Tryz.func303.trans (congrArg some (by kernel_rfl))
  f338:=Tryz.func304.trans (congrArg some (by kernel_rfl))
  t0:=Tryz.underlying0
  a0:=Tryz.isAgg0
  z0:=Tryz.sizeOf0
  v0:=Tryz.zeroValue0
  t2:=Tryz.underlying2
  a2:=Tryz.isAgg2
  z2:=Tryz.sizeOf2
  v2:=Tryz.zeroValue2
  t3:=Tryz.underlying3
  a3:=Tryz.isAgg3
  z3:=Tryz.sizeOf3
  v3:=Tryz.zeroValue3
  t4:=Tryz.underlying4
  a4:=Tryz.isAgg4
  z4:=Tryz.sizeOf4
  v4:=Tryz.zeroValue4
  t5:=Tryz.underlying5
  a5:=Tryz.isAgg5
  z5:=Tryz.sizeOf5
  v5:=Tryz.zeroValue5
  t9:=Tryz.underlying9
  a9:=Tryz.isAgg9
  z9:=Tryz.sizeOf9
  v9:=Tryz.zeroValue9
  t20:=Tryz.underlying20
  a20:=Tryz.isAgg20
  z20:=Tryz.sizeOf20
  v20:=Tryz.zeroValue20
  t37:=Tryz.underlying22
  a37:=Tryz.isAgg22
  z37:=Tryz.sizeOf22
  v37:=Tryz.zeroValue22
  t46:=Tryz.underlying168
  a46:=Tryz.isAgg168
  z46:=Tryz.sizeOf168
  v46:=Tryz.zeroValue168
  t51:=Tryz.underlying221
  a51:=Tryz.isAgg221
  z51:=Tryz.sizeOf221
  v51:=Tryz.zeroValue221
  t53:=Tryz.underlying223
  a53:=Tryz.isAgg223
  z53:=Tryz.sizeOf223
  v53:=Tryz.zeroValue223
  t171:=Tryz.underlying270
  a171:=Tryz.isAgg270
  z171:=Tryz.sizeOf270
  v171:=Tryz.zeroValue270
  t173:=Tryz.underlying272
  a173:=Tryz.isAgg272
  z173:=Tryz.sizeOf272
  v173:=Tryz.zeroValue272
  t212:=Tryz.underlying283
  a212:=Tryz.isAgg283
  z212:=Tryz.sizeOf283
  v212:=Tryz.zeroValue283
  t213:=Tryz.underlying284
  a213:=Tryz.isAgg284
  z213:=Tryz.sizeOf284
  t232:=Tryz.underlying294
  a232:=Tryz.isAgg294
  z232:=Tryz.sizeOf294
  v232:=Tryz.zeroValue294
  t233:=Tryz.underlying295
  a233:=Tryz.isAgg295
  z233:=Tryz.sizeOf295
  v233:=Tryz.zeroValue295
  g17:=by kernel_rfl
  g18:=by kernel_rfl
  g19:=by kernel_rfl
  i0:=by kernel_rfl
  i2:=by kernel_rfl
  i3:=by kernel_rfl
  i4:=by kernel_rfl
  i5:=by kernel_rfl
  i9:=by kernel_rfl
  i20:=by kernel_rfl
  i37:=by kernel_rfl
  i46:=by kernel_rfl
  i51:=by kernel_rfl
  i53:=by kernel_rfl
  i171:=by kernel_rfl
  i173:=by kernel_rfl
  i212:=by kernel_rfl
  i232:=by kernel_rfl
  i233:=by kernel_rfl
  m17:=by kernel_rfl
  m18:=by kernel_rfl
  m19:=by kernel_rfl
theorem Aqb:∀ w,D8 w→Lib.TabIs Tryz.prog w "internal/strconv.uint64pow10" .u64 Lib.pow10Tab:=fun w h=>by
  obtain⟨_,h⟩:=h;have h:gp w:=h;unfold gp at h;obtain⟨t,z,h1⟩:=h;unfold Lib.TabIs World.var?;rw[show Tryz.prog.globalNamed "internal/strconv.uint64pow10" = some 0 by kernel_rfl,ArD,h1]
theorem AiS (K:Nat):Ck Tryz.prog 200 (Akg K):=Aam ZR rfl Aqb
include K
theorem AiT:SF 120 (Aki K) :=
  sF (Aox K) (aF (AiS K) aN) Tryz.func120
theorem AiU:SF 122 (Akk K) :=
  sF (Aoy K) aN Tryz.func122
theorem AiV:SF 201 (Xv K) :=
  sF (NW K) aN Tryz.func201 fun x=>AdY K x.1 x.2.1
theorem AiW:SF 121 (Akm K) :=
  sF (Aoz K) (aF (AiV K) aN) Tryz.func121
theorem AmD:SF 64 (AoA K) :=
  sF (ApS K) (aF (AiR K) (aF (AiT K) (aF (AiW K) (aF (AiU K) aN)))) Tryz.func64
theorem AmE:SF 52 (AoB K) :=
  sF (ApT K) (aF (QD K) (aF (AmD K) (aF (AmC K) aN))) Tryz.func52
theorem AmF:SF 17 (AoC K) :=
  sF (ApU K) (aF (Ju K) (aF (Jw K) (aF (AmE K) aN))) Tryz.func17
theorem AmG:SF 53 (AoD K) :=
  sF (ApV K) (aF (GW K) aN) Tryz.func53
theorem AmH:SF 18 (AoE K) :=
  sF (ApW K) (aF (Ju K) (aF (Jw K) (aF (QD K) (aF (UZ K) (aF (AmG K) aN))))) Tryz.func18
theorem Apa:SF 3 (f3M K) :=
  sF (f3E K) (aF (Ao5 K) (aF (Ao6 K) (aF (Ao7 K) (aF (Ao8 K) (aF (Ao9 K) (aF (Amr K) (aF (Ams K) (aF (Amt K) (aF (Amw K) (aF (Amy K) (aF (Amz K) (aF (AmB K) (aF (AmF K) (aF (AmH K) aN)))))))))))))) Tryz.func3
end Go.Proofs.YteheolldcpjkcaaGreatDoor.X
