/- Functions of the program as plain Lean functions, and that the program does what they say. Printed by gen.py. -/
import Derived.Test.YtbgdojniimdihaaR0
import Derived.Test.YtbgdojniimdihaaR1
namespace Go.Proofs.Ytbgdojniimdihaa.X
open Go
set_option maxRecDepth 100000
set_option linter.unusedVariables false
theorem f48_ok (K : Nat) : Sound Try.prog 48 (f48M K) :=
  sound_fn (envOK (E := (f48E K)) tab_ok mixed_ok AllOK.nil) Try.func48 fun x => f48_run K x.1 x.2.1
theorem f48_runs : Runs Try.prog 48 := runsB_ok (by kernel_rfl)
theorem f14_ok (K : Nat) : Sound Try.prog 14 (f14M K) :=
  sound_fn (envOK (E := (f14E K)) tab_ok mixed_ok (AllOK.cons (f48_ok K) f48_runs AllOK.nil)) Try.func14 fun x => f14_run K x.1 x.2.1
theorem f14_runs : Runs Try.prog 14 := runsB_ok (by kernel_rfl)
theorem f22_ok (K : Nat) : Sound Try.prog 22 (f22M K) :=
  sound_fn (envOK (E := (f22E K)) tab_ok mixed_ok AllOK.nil) Try.func22 fun x => f22_run K x.1
theorem f22_runs : Runs Try.prog 22 := runsB_ok (by kernel_rfl)
theorem f53_ok (K : Nat) : Sound Try.prog 53 (f53M K) :=
  sound_fn (envOK (E := (f53E K)) tab_ok mixed_ok AllOK.nil) Try.func53 fun x => f53_run K x.1
theorem f53_runs : Runs Try.prog 53 := runsB_ok (by kernel_rfl)
theorem f16_ok (K : Nat) : Sound Try.prog 16 (f16M K) :=
  sound_fn (envOK (E := (f16E K)) tab_ok mixed_ok (AllOK.cons (f22_ok K) f22_runs (AllOK.cons (f53_ok K) f53_runs AllOK.nil))) Try.func16 fun x => f16_run K x.1
theorem f16_runs : Runs Try.prog 16 := runsB_ok (by kernel_rfl)
theorem f131_ok (K : Nat) : Sound Try.prog 131 (f131M K) :=
  sound_fn (envOK (E := (f131E K)) tab_ok mixed_ok AllOK.nil) Try.func131 fun x => f131_run K x.1
theorem f131_runs : Runs Try.prog 131 := runsB_ok (by kernel_rfl)
theorem f111_ok (K : Nat) : Sound Try.prog 111 (f111M K) :=
  sound_fn (envOK (E := (f111E K)) tab_ok mixed_ok AllOK.nil) Try.func111 fun x => f111_run K x.1 x.2.1 x.2.2.1
theorem f111_runs : Runs Try.prog 111 := runsB_ok (by kernel_rfl)
theorem f132_ok (K : Nat) : Sound Try.prog 132 (f132M K) :=
  sound_fn (envOK (E := (f132E K)) tab_ok mixed_ok (AllOK.cons (f111_ok K) f111_runs AllOK.nil)) Try.func132 fun x => f132_run K x.1
theorem f132_runs : Runs Try.prog 132 := runsB_ok (by kernel_rfl)
theorem f87_ok (K : Nat) : Sound Try.prog 87 (f87M K) :=
  sound_fn (envOK (E := (f87E K)) tab_ok mixed_ok (AllOK.cons (f131_ok K) f131_runs (AllOK.cons (f132_ok K) f132_runs AllOK.nil))) Try.func87 fun x => f87_run K x.1 x.2.1
theorem f87_runs : Runs Try.prog 87 := runsB_ok (by kernel_rfl)
theorem f88_ok (K : Nat) : Sound Try.prog 88 (f88M K) :=
  sound_fn (envOK (E := (f88E K)) tab_ok mixed_ok (AllOK.cons (f111_ok K) f111_runs AllOK.nil)) Try.func88 fun x => f88_run K x.1 x.2.1 x.2.2.1 x.2.2.2.1
theorem f88_runs : Runs Try.prog 88 := runsB_ok (by kernel_rfl)
theorem f49_ok (K : Nat) : Sound Try.prog 49 (f49M K) :=
  sound_fn (envOK (E := (f49E K)) tab_ok mixed_ok (AllOK.cons (f87_ok K) f87_runs (AllOK.cons (f88_ok K) f88_runs AllOK.nil))) Try.func49 fun x => f49_run K x.1
theorem f49_runs : Runs Try.prog 49 := runsB_ok (by kernel_rfl)
theorem f72_ok (K : Nat) : Sound Try.prog 72 (f72M K) :=
  sound_fn (envOK (E := (f72E K)) tab_ok mixed_ok AllOK.nil) Try.func72 fun x => f72_run K x.1
theorem f72_runs : Runs Try.prog 72 := runsB_ok (by kernel_rfl)
theorem f136_ok (K : Nat) : Sound Try.prog 136 (f136M K) :=
  sound_fn (envOK (E := (f136E K)) tab_ok mixed_ok AllOK.nil) Try.func136 fun x => f136_run K x.1
theorem f136_runs : Runs Try.prog 136 := runsB_ok (by kernel_rfl)
theorem f137_ok (K : Nat) : Sound Try.prog 137 (f137M K) :=
  sound_fn (envOK (E := (f137E K)) tab_ok mixed_ok AllOK.nil) Try.func137 fun x => f137_run K 
theorem f137_runs : Runs Try.prog 137 := runsB_ok (by kernel_rfl)
theorem f158_ok (K : Nat) : Sound Try.prog 158 (f158M K) :=
  sound_fn (envOK (E := (f158E K)) tab_ok mixed_ok AllOK.nil) Try.func158 fun x => f158_run K x.1 x.2.1
theorem f158_runs : Runs Try.prog 158 := runsB_ok (by kernel_rfl)
theorem f157_ok (K : Nat) : Sound Try.prog 157 (f157M K) :=
  sound_fn (envOK (E := (f157E K)) tab_ok mixed_ok AllOK.nil) Try.func157 fun x => f157_run K x.1 x.2.1
theorem f157_runs : Runs Try.prog 157 := runsB_ok (by kernel_rfl)
theorem f113_ok (K : Nat) : Sound Try.prog 113 (f113M K) :=
  sound_fn (envOK (E := (f113E K)) tab_ok mixed_ok (AllOK.cons (f157_ok K) f157_runs (AllOK.cons (f158_ok K) f158_runs AllOK.nil))) Try.func113 fun x => f113_run K x.1 x.2.1
theorem f113_runs : Runs Try.prog 113 := runsB_ok (by kernel_rfl)
theorem f156_ok (K : Nat) : Sound Try.prog 156 (f156M K) :=
  sound_fn (envOK (E := (f156E K)) tab_ok mixed_ok AllOK.nil) Try.func156 fun x => f156_run K x.1 x.2.1
theorem f156_runs : Runs Try.prog 156 := runsB_ok (by kernel_rfl)
theorem f112_ok (K : Nat) : Sound Try.prog 112 (f112M K) :=
  sound_fn (envOK (E := (f112E K)) tab_ok mixed_ok (AllOK.cons (f156_ok K) f156_runs AllOK.nil)) Try.func112 fun x => f112_run K x.1 x.2.1
theorem f112_runs : Runs Try.prog 112 := runsB_ok (by kernel_rfl)
theorem f104_ok (K : Nat) : Sound Try.prog 104 (f104M K) :=
  sound_fn (envOK (E := (f104E K)) tab_ok mixed_ok (AllOK.cons (f112_ok K) f112_runs AllOK.nil)) Try.func104 fun x => f104_run K x.1 x.2.1
theorem f104_runs : Runs Try.prog 104 := runsB_ok (by kernel_rfl)
theorem f135_ok (K : Nat) : Sound Try.prog 135 (f135M K) :=
  sound_fn (envOK (E := (f135E K)) tab_ok mixed_ok (AllOK.cons (f104_ok K) f104_runs AllOK.nil)) Try.func135 fun x => f135_run K x.1 x.2.1
theorem f135_runs : Runs Try.prog 135 := runsB_ok (by kernel_rfl)
theorem f90_ok (K : Nat) : Sound Try.prog 90 (f90M K) :=
  sound_fn (envOK (E := (f90E K)) tab_ok mixed_ok (AllOK.cons (f72_ok K) f72_runs (AllOK.cons (f113_ok K) f113_runs (AllOK.cons (f135_ok K) f135_runs AllOK.nil)))) Try.func90 fun x => f90_run K x.1 x.2.1
theorem f90_runs : Runs Try.prog 90 := runsB_ok (by kernel_rfl)
theorem f175_runs : Runs Try.prog 175 := runsB_ok (by kernel_rfl)
theorem f175_okn (K : Nat) : ∀ n, Sound Try.prog 175 ⟨[(.ro, (.int .i64)), (.ro, (.int .i64))], [(.int .i64)], fun x => f175R K n x.1 x.2.1⟩
  | 0 => fun _ _ _ _ _ _ _ h => by cases h
  | n + 1 => sound_fn (envOK (E := f175E K (f175R K n)) tab_ok mixed_ok (AllOK.cons (f175_okn K n) f175_runs AllOK.nil)) Try.func175 fun x => f175_run K (f175R K n) x.1 x.2.1
theorem f175_ok (K : Nat) : Sound Try.prog 175 (f175M K) := f175_okn K K
theorem f176_ok (K : Nat) : Sound Try.prog 176 (f176M K) :=
  sound_fn (envOK (E := (f176E K)) tab_ok mixed_ok AllOK.nil) Try.func176 fun x => f176_run K x.1 x.2.1
theorem f176_runs : Runs Try.prog 176 := runsB_ok (by kernel_rfl)
theorem f138_ok (K : Nat) : Sound Try.prog 138 (f138M K) :=
  sound_fn (envOK (E := (f138E K)) tab_ok mixed_ok (AllOK.cons (f156_ok K) f156_runs (AllOK.cons (f175_ok K) f175_runs (AllOK.cons (f176_ok K) f176_runs AllOK.nil)))) Try.func138 fun x => f138_run K x.1
theorem f138_runs : Runs Try.prog 138 := runsB_ok (by kernel_rfl)
theorem f92_ok (K : Nat) : Sound Try.prog 92 (f92M K) :=
  sound_fn (envOK (E := (f92E K)) tab_ok mixed_ok (AllOK.cons (f72_ok K) f72_runs (AllOK.cons (f90_ok K) f90_runs (AllOK.cons (f136_ok K) f136_runs (AllOK.cons (f137_ok K) f137_runs (AllOK.cons (f138_ok K) f138_runs AllOK.nil)))))) Try.func92 fun x => f92_run K x.1
theorem f92_runs : Runs Try.prog 92 := runsB_ok (by kernel_rfl)
theorem f91_ok (K : Nat) : Sound Try.prog 91 (f91M K) :=
  sound_fn (envOK (E := (f91E K)) tab_ok mixed_ok (AllOK.cons (f72_ok K) f72_runs (AllOK.cons (f135_ok K) f135_runs AllOK.nil))) Try.func91 fun x => f91_run K x.1 x.2.1
theorem f91_runs : Runs Try.prog 91 := runsB_ok (by kernel_rfl)
theorem f51_ok (K : Nat) : Sound Try.prog 51 (f51M K) :=
  sound_fn (envOK (E := (f51E K)) tab_ok mixed_ok (AllOK.cons (f91_ok K) f91_runs (AllOK.cons (f92_ok K) f92_runs AllOK.nil))) Try.func51 fun x => f51_run K x.1
theorem f51_runs : Runs Try.prog 51 := runsB_ok (by kernel_rfl)
theorem f197_ok (K : Nat) : Sound Try.prog 197 (f197M K) :=
  sound_fn (envOK (E := (f197E K)) tab_ok mixed_ok AllOK.nil) Try.func197 fun x => f197_run K x.1 x.2.1
theorem f197_runs : Runs Try.prog 197 := runsB_ok (by kernel_rfl)
theorem f174_ok (K : Nat) : Sound Try.prog 174 (f174M K) :=
  sound_fn (envOK (E := (f174E K)) tab_ok mixed_ok (AllOK.cons (f157_ok K) f157_runs (AllOK.cons (f197_ok K) f197_runs AllOK.nil))) Try.func174 fun x => f174_run K x.1 x.2.1
theorem f174_runs : Runs Try.prog 174 := runsB_ok (by kernel_rfl)
theorem f133_ok (K : Nat) : Sound Try.prog 133 (f133M K) :=
  sound_fn (envOK (E := (f133E K)) tab_ok mixed_ok (AllOK.cons (f174_ok K) f174_runs AllOK.nil)) Try.func133 fun x => f133_run K x.1
theorem f133_runs : Runs Try.prog 133 := runsB_ok (by kernel_rfl)
theorem f134_ok (K : Nat) : Sound Try.prog 134 (f134M K) :=
  sound_fn (envOK (E := (f134E K)) tab_ok mixed_ok (AllOK.cons (f136_ok K) f136_runs (AllOK.cons (f138_ok K) f138_runs (AllOK.cons (f158_ok K) f158_runs AllOK.nil)))) Try.func134 fun x => f134_run K x.1 x.2.1
theorem f134_runs : Runs Try.prog 134 := runsB_ok (by kernel_rfl)
theorem f89_ok (K : Nat) : Sound Try.prog 89 (f89M K) :=
  sound_fn (envOK (E := (f89E K)) tab_ok mixed_ok (AllOK.cons (f133_ok K) f133_runs (AllOK.cons (f134_ok K) f134_runs AllOK.nil))) Try.func89 fun x => f89_run K x.1 x.2.1
theorem f89_runs : Runs Try.prog 89 := runsB_ok (by kernel_rfl)
theorem f50_ok (K : Nat) : Sound Try.prog 50 (f50M K) :=
  sound_fn (envOK (E := (f50E K)) tab_ok mixed_ok (AllOK.cons (f72_ok K) f72_runs (AllOK.cons (f89_ok K) f89_runs (AllOK.cons (f90_ok K) f90_runs AllOK.nil)))) Try.func50 fun x => f50_run K x.1
theorem f50_runs : Runs Try.prog 50 := runsB_ok (by kernel_rfl)
theorem f52_ok (K : Nat) : Sound Try.prog 52 (f52M K) :=
  sound_fn (envOK (E := (f52E K)) tab_ok mixed_ok AllOK.nil) Try.func52 fun x => f52_run K x.1
theorem f52_runs : Runs Try.prog 52 := runsB_ok (by kernel_rfl)
theorem f15_ok (K : Nat) : Sound Try.prog 15 (f15M K) :=
  sound_fn (envOK (E := (f15E K)) tab_ok mixed_ok (AllOK.cons (f49_ok K) f49_runs (AllOK.cons (f50_ok K) f50_runs (AllOK.cons (f51_ok K) f51_runs (AllOK.cons (f52_ok K) f52_runs AllOK.nil))))) Try.func15 fun x => f15_run K x.1
theorem f15_runs : Runs Try.prog 15 := runsB_ok (by kernel_rfl)
theorem f114_ok (K : Nat) : Sound Try.prog 114 (f114M K) :=
  sound_fn (envOK (E := (f114E K)) tab_ok mixed_ok AllOK.nil) Try.func114 fun x => f114_run K x.1 x.2.1 x.2.2.1
theorem f114_runs : Runs Try.prog 114 := runsB_ok (by kernel_rfl)
theorem f93_ok (K : Nat) : Sound Try.prog 93 (f93M K) :=
  sound_fn (envOK (E := (f93E K)) tab_ok mixed_ok (AllOK.cons (f114_ok K) f114_runs AllOK.nil)) Try.func93 fun x => f93_run K x.1
theorem f93_runs : Runs Try.prog 93 := runsB_ok (by kernel_rfl)
theorem f95_ok (K : Nat) : Sound Try.prog 95 (f95M K) :=
  sound_fn (envOK (E := (f95E K)) tab_ok mixed_ok AllOK.nil) Try.func95 fun x => f95_run K x.1
theorem f95_runs : Runs Try.prog 95 := runsB_ok (by kernel_rfl)
theorem f94_ok (K : Nat) : Sound Try.prog 94 (f94M K) :=
  sound_fn (envOK (E := (f94E K)) tab_ok mixed_ok (AllOK.cons (f95_ok K) f95_runs (AllOK.cons (f114_ok K) f114_runs AllOK.nil))) Try.func94 fun x => f94_run K x.1
theorem f94_runs : Runs Try.prog 94 := runsB_ok (by kernel_rfl)
theorem f140_ok (K : Nat) : Sound Try.prog 140 (f140M K) :=
  sound_fn (envOK (E := (f140E K)) tab_ok mixed_ok (AllOK.cons (f114_ok K) f114_runs AllOK.nil)) Try.func140 fun x => f140_run K x.1 x.2.1 x.2.2.1
theorem f140_runs : Runs Try.prog 140 := runsB_ok (by kernel_rfl)
theorem f177_ok (K : Nat) : Sound Try.prog 177 (f177M K) :=
  sound_fn (envOK (E := (f177E K)) tab_ok mixed_ok AllOK.nil) Try.func177 fun x => f177_run K x.1 x.2.1
theorem f177_runs : Runs Try.prog 177 := runsB_ok (by kernel_rfl)
theorem f139_ok (K : Nat) : Sound Try.prog 139 (f139M K) :=
  sound_fn (envOK (E := (f139E K)) tab_ok mixed_ok (AllOK.cons (f177_ok K) f177_runs AllOK.nil)) Try.func139 fun x => f139_run K x.1 x.2.1
theorem f139_runs : Runs Try.prog 139 := runsB_ok (by kernel_rfl)
theorem f96_ok (K : Nat) : Sound Try.prog 96 (f96M K) :=
  sound_fn (envOK (E := (f96E K)) tab_ok mixed_ok (AllOK.cons (f139_ok K) f139_runs (AllOK.cons (f140_ok K) f140_runs AllOK.nil))) Try.func96 fun x => f96_run K x.1 x.2.1 x.2.2.1
theorem f96_runs : Runs Try.prog 96 := runsB_ok (by kernel_rfl)
theorem f54_ok (K : Nat) : Sound Try.prog 54 (f54M K) :=
  sound_fn (envOK (E := (f54E K)) tab_ok mixed_ok (AllOK.cons (f93_ok K) f93_runs (AllOK.cons (f94_ok K) f94_runs (AllOK.cons (f95_ok K) f95_runs (AllOK.cons (f96_ok K) f96_runs AllOK.nil))))) Try.func54 fun x => f54_run K x.1
theorem f54_runs : Runs Try.prog 54 := runsB_ok (by kernel_rfl)
theorem f142_ok (K : Nat) : Sound Try.prog 142 (f142M K) :=
  sound_fn (envOK (E := (f142E K)) tab_ok mixed_ok AllOK.nil) Try.func142 fun x => f142_run K x.1
theorem f142_runs : Runs Try.prog 142 := runsB_ok (by kernel_rfl)
theorem f75_ok (K : Nat) : Sound Try.prog 75 (f75M K) :=
  sound_fn (envOK (E := (f75E K)) tab_ok mixed_ok AllOK.nil) Try.func75 fun x => f75_run K x.1
theorem f75_runs : Runs Try.prog 75 := runsB_ok (by kernel_rfl)
theorem f119_ok (K : Nat) : Sound Try.prog 119 (f119M K) :=
  sound_fn (envOK (E := (f119E K)) tab_ok mixed_ok AllOK.nil) Try.func119 fun x => f119_run K 
theorem f119_runs : Runs Try.prog 119 := runsB_ok (by kernel_rfl)
theorem f165_ok (K : Nat) : Sound Try.prog 165 (f165M K) :=
  sound_fn (envOK (E := (f165E K)) tab_ok mixed_ok AllOK.nil) Try.func165 fun x => f165_run K x.1 x.2.1
theorem f165_runs : Runs Try.prog 165 := runsB_ok (by kernel_rfl)
theorem f178_ok (K : Nat) : Sound Try.prog 178 (f178M K) :=
  sound_fn (envOK (E := (f178E K)) tab_ok mixed_ok AllOK.nil) Try.func178 fun x => f178_run K x.1 x.2.1
theorem f178_runs : Runs Try.prog 178 := runsB_ok (by kernel_rfl)
theorem f160_ok (K : Nat) : Sound Try.prog 160 (f160M K) :=
  sound_fn (envOK (E := (f160E K)) tab_ok mixed_ok (AllOK.cons (f165_ok K) f165_runs (AllOK.cons (f178_ok K) f178_runs AllOK.nil))) Try.func160 fun x => f160_run K x.1 x.2.1
theorem f160_runs : Runs Try.prog 160 := runsB_ok (by kernel_rfl)
theorem f180_ok (K : Nat) : Sound Try.prog 180 (f180M K) :=
  sound_fn (envOK (E := (f180E K)) tab_ok mixed_ok AllOK.nil) Try.func180 fun x => f180_run K x.1 x.2.1
theorem f180_runs : Runs Try.prog 180 := runsB_ok (by kernel_rfl)
theorem f159_ok (K : Nat) : Sound Try.prog 159 (f159M K) :=
  sound_fn (envOK (E := (f159E K)) tab_ok mixed_ok (AllOK.cons (f180_ok K) f180_runs AllOK.nil)) Try.func159 fun x => f159_run K x.1 x.2.1
theorem f159_runs : Runs Try.prog 159 := runsB_ok (by kernel_rfl)
theorem f173_ok (K : Nat) : Sound Try.prog 173 (f173M K) :=
  sound_fn (envOK (E := (f173E K)) tab_ok mixed_ok AllOK.nil) Try.func173 fun x => f173_run K x.1 x.2.1
theorem f173_runs : Runs Try.prog 173 := runsB_ok (by kernel_rfl)
theorem f141_ok (K : Nat) : Sound Try.prog 141 (f141M K) :=
  sound_fn (envOK (E := (f141E K)) tab_ok mixed_ok (AllOK.cons (f159_ok K) f159_runs (AllOK.cons (f173_ok K) f173_runs AllOK.nil))) Try.func141 fun x => f141_run K x.1 x.2.1
theorem f141_runs : Runs Try.prog 141 := runsB_ok (by kernel_rfl)
theorem f117_ok (K : Nat) : Sound Try.prog 117 (f117M K) :=
  sound_fn (envOK (E := (f117E K)) tab_ok mixed_ok (AllOK.cons (f75_ok K) f75_runs (AllOK.cons (f141_ok K) f141_runs (AllOK.cons (f160_ok K) f160_runs AllOK.nil)))) Try.func117 fun x => f117_run K x.1 x.2.1
theorem f117_runs : Runs Try.prog 117 := runsB_ok (by kernel_rfl)
theorem f179_ok (K : Nat) : Sound Try.prog 179 (f179M K) :=
  sound_fn (envOK (E := (f179E K)) tab_ok mixed_ok AllOK.nil) Try.func179 fun x => f179_run K x.1 x.2.1
theorem f179_runs : Runs Try.prog 179 := runsB_ok (by kernel_rfl)
theorem f146_ok (K : Nat) : Sound Try.prog 146 (f146M K) :=
  sound_fn (envOK (E := (f146E K)) tab_ok mixed_ok AllOK.nil) Try.func146 fun x => f146_run K x.1 x.2.1
theorem f146_runs : Runs Try.prog 146 := runsB_ok (by kernel_rfl)
theorem f143_ok (K : Nat) : Sound Try.prog 143 (f143M K) :=
  sound_fn (envOK (E := (f143E K)) tab_ok mixed_ok (AllOK.cons (f146_ok K) f146_runs (AllOK.cons (f178_ok K) f178_runs (AllOK.cons (f179_ok K) f179_runs (AllOK.cons (f180_ok K) f180_runs AllOK.nil))))) Try.func143 fun x => f143_run K x.1
theorem f143_runs : Runs Try.prog 143 := runsB_ok (by kernel_rfl)
theorem f98_ok (K : Nat) : Sound Try.prog 98 (f98M K) :=
  sound_fn (envOK (E := (f98E K)) tab_ok mixed_ok (AllOK.cons (f75_ok K) f75_runs (AllOK.cons (f117_ok K) f117_runs (AllOK.cons (f119_ok K) f119_runs (AllOK.cons (f142_ok K) f142_runs (AllOK.cons (f143_ok K) f143_runs AllOK.nil)))))) Try.func98 fun x => f98_run K x.1
theorem f98_runs : Runs Try.prog 98 := runsB_ok (by kernel_rfl)
theorem f97_ok (K : Nat) : Sound Try.prog 97 (f97M K) :=
  sound_fn (envOK (E := (f97E K)) tab_ok mixed_ok (AllOK.cons (f75_ok K) f75_runs (AllOK.cons (f141_ok K) f141_runs AllOK.nil))) Try.func97 fun x => f97_run K x.1 x.2.1
theorem f97_runs : Runs Try.prog 97 := runsB_ok (by kernel_rfl)
theorem f55_ok (K : Nat) : Sound Try.prog 55 (f55M K) :=
  sound_fn (envOK (E := (f55E K)) tab_ok mixed_ok (AllOK.cons (f97_ok K) f97_runs (AllOK.cons (f98_ok K) f98_runs AllOK.nil))) Try.func55 fun x => f55_run K x.1
theorem f55_runs : Runs Try.prog 55 := runsB_ok (by kernel_rfl)
theorem f194_ok (K : Nat) : Sound Try.prog 194 (f194M K) :=
  sound_fn (envOK (E := (f194E K)) tab_ok mixed_ok AllOK.nil) Try.func194 fun x => f194_run K x.1 x.2.1
theorem f194_runs : Runs Try.prog 194 := runsB_ok (by kernel_rfl)
theorem f162_ok (K : Nat) : Sound Try.prog 162 (f162M K) :=
  sound_fn (envOK (E := (f162E K)) tab_ok mixed_ok (AllOK.cons (f165_ok K) f165_runs (AllOK.cons (f194_ok K) f194_runs AllOK.nil))) Try.func162 fun x => f162_run K x.1
theorem f162_runs : Runs Try.prog 162 := runsB_ok (by kernel_rfl)
theorem f164_ok (K : Nat) : Sound Try.prog 164 (f164M K) :=
  sound_fn (envOK (E := (f164E K)) tab_ok mixed_ok (AllOK.cons (f159_ok K) f159_runs AllOK.nil)) Try.func164 fun x => f164_run K x.1 x.2.1
theorem f164_runs : Runs Try.prog 164 := runsB_ok (by kernel_rfl)
theorem f163_ok (K : Nat) : Sound Try.prog 163 (f163M K) :=
  sound_fn (envOK (E := (f163E K)) tab_ok mixed_ok (AllOK.cons (f164_ok K) f164_runs (AllOK.cons (f165_ok K) f165_runs AllOK.nil))) Try.func163 fun x => f163_run K x.1 x.2.1 x.2.2.1 x.2.2.2.1
theorem f163_runs : Runs Try.prog 163 := runsB_ok (by kernel_rfl)
theorem f193_ok (K : Nat) : Sound Try.prog 193 (f193M K) :=
  sound_fn (envOK (E := (f193E K)) tab_ok mixed_ok AllOK.nil) Try.func193 fun x => f193_run K x.1 x.2.1
theorem f193_runs : Runs Try.prog 193 := runsB_ok (by kernel_rfl)
theorem f161_ok (K : Nat) : Sound Try.prog 161 (f161M K) :=
  sound_fn (envOK (E := (f161E K)) tab_ok mixed_ok (AllOK.cons (f193_ok K) f193_runs AllOK.nil)) Try.func161 fun x => f161_run K x.1 x.2.1
theorem f161_runs : Runs Try.prog 161 := runsB_ok (by kernel_rfl)
theorem f116_ok (K : Nat) : Sound Try.prog 116 (f116M K) :=
  sound_fn (envOK (E := (f116E K)) tab_ok mixed_ok (AllOK.cons (f142_ok K) f142_runs (AllOK.cons (f161_ok K) f161_runs (AllOK.cons (f162_ok K) f162_runs (AllOK.cons (f163_ok K) f163_runs AllOK.nil))))) Try.func116 fun x => f116_run K x.1 x.2.1
theorem f116_runs : Runs Try.prog 116 := runsB_ok (by kernel_rfl)
theorem f69_ok (K : Nat) : Sound Try.prog 69 (f69M K) :=
  sound_fn (envOK (E := (f69E K)) tab_ok mixed_ok (AllOK.cons (f75_ok K) f75_runs (AllOK.cons (f116_ok K) f116_runs (AllOK.cons (f117_ok K) f117_runs AllOK.nil)))) Try.func69 fun x => f69_run K x.1
theorem f69_runs : Runs Try.prog 69 := runsB_ok (by kernel_rfl)
theorem f76_ok (K : Nat) : Sound Try.prog 76 (f76M K) :=
  sound_fn (envOK (E := (f76E K)) tab_ok mixed_ok AllOK.nil) Try.func76 fun x => f76_run K x.1
theorem f76_runs : Runs Try.prog 76 := runsB_ok (by kernel_rfl)
theorem f77_ok (K : Nat) : Sound Try.prog 77 (f77M K) :=
  sound_fn (envOK (E := (f77E K)) tab_ok mixed_ok (AllOK.cons (f76_ok K) f76_runs (AllOK.cons (f119_ok K) f119_runs AllOK.nil))) Try.func77 fun x => f77_run K x.1
theorem f77_runs : Runs Try.prog 77 := runsB_ok (by kernel_rfl)
theorem f144_ok (K : Nat) : Sound Try.prog 144 (f144M K) :=
  sound_fn (envOK (E := (f144E K)) tab_ok mixed_ok (AllOK.cons (f76_ok K) f76_runs (AllOK.cons (f77_ok K) f77_runs AllOK.nil))) Try.func144 fun x => f144_run K x.1
theorem f144_runs : Runs Try.prog 144 := runsB_ok (by kernel_rfl)
theorem f169_ok (K : Nat) : Sound Try.prog 169 (f169M K) :=
  sound_fn (envOK (E := (f169E K)) tab_ok mixed_ok (AllOK.cons (f114_ok K) f114_runs AllOK.nil)) Try.func169 fun x => f169_run K x.1
theorem f169_runs : Runs Try.prog 169 := runsB_ok (by kernel_rfl)
theorem f209_ok (K : Nat) : Sound Try.prog 209 (f209M K) :=
  sound_fn (envOK (E := (f209E K)) tab_ok mixed_ok (AllOK.cons (f169_ok K) f169_runs AllOK.nil)) Try.func209 fun x => f209_run K x.1
theorem f209_runs : Runs Try.prog 209 := runsB_ok (by kernel_rfl)
theorem f198_ok (K : Nat) : Sound Try.prog 198 (f198M K) :=
  sound_fn (envOK (E := (f198E K)) tab_ok mixed_ok (AllOK.cons (f76_ok K) f76_runs (AllOK.cons (f209_ok K) f209_runs AllOK.nil))) Try.func198 fun x => f198_run K x.1
theorem f198_runs : Runs Try.prog 198 := runsB_ok (by kernel_rfl)
theorem f188_ok (K : Nat) : Sound Try.prog 188 (f188M K) :=
  sound_fn (envOK (E := (f188E K)) tab_ok mixed_ok AllOK.nil) Try.func188 fun x => f188_run K x.1 x.2.1
theorem f188_runs : Runs Try.prog 188 := runsB_ok (by kernel_rfl)
theorem f154_ok (K : Nat) : Sound Try.prog 154 (f154M K) :=
  sound_fn (envOK (E := (f154E K)) tab_ok mixed_ok (AllOK.cons (f188_ok K) f188_runs AllOK.nil)) Try.func154 fun x => f154_run K x.1 x.2.1
theorem f154_runs : Runs Try.prog 154 := runsB_ok (by kernel_rfl)
theorem f125_ok (K : Nat) : Sound Try.prog 125 (f125M K) :=
  sound_fn (envOK (E := (f125E K)) tab_ok mixed_ok (AllOK.cons (f169_ok K) f169_runs AllOK.nil)) Try.func125 fun x => f125_run K x.1
theorem f125_runs : Runs Try.prog 125 := runsB_ok (by kernel_rfl)
theorem f199_ok (K : Nat) : Sound Try.prog 199 (f199M K) :=
  sound_fn (envOK (E := (f199E K)) tab_ok mixed_ok (AllOK.cons (f125_ok K) f125_runs AllOK.nil)) Try.func199 fun x => f199_run K x.1
theorem f199_runs : Runs Try.prog 199 := runsB_ok (by kernel_rfl)
theorem f181_ok (K : Nat) : Sound Try.prog 181 (f181M K) :=
  sound_fn (envOK (E := (f181E K)) tab_ok mixed_ok (AllOK.cons (f144_ok K) f144_runs (AllOK.cons (f146_ok K) f146_runs (AllOK.cons (f154_ok K) f154_runs (AllOK.cons (f179_ok K) f179_runs (AllOK.cons (f198_ok K) f198_runs (AllOK.cons (f199_ok K) f199_runs AllOK.nil))))))) Try.func181 fun x => f181_run K x.1
theorem f181_runs : Runs Try.prog 181 := runsB_ok (by kernel_rfl)
theorem f149_ok (K : Nat) : Sound Try.prog 149 (f149M K) :=
  sound_fn (envOK (E := (f149E K)) tab_ok mixed_ok (AllOK.cons (f181_ok K) f181_runs AllOK.nil)) Try.func149 fun x => f149_run K x.1
theorem f149_runs : Runs Try.prog 149 := runsB_ok (by kernel_rfl)
theorem f145_ok (K : Nat) : Sound Try.prog 145 (f145M K) :=
  sound_fn (envOK (E := (f145E K)) tab_ok mixed_ok (AllOK.cons (f149_ok K) f149_runs (AllOK.cons (f165_ok K) f165_runs (AllOK.cons (f178_ok K) f178_runs AllOK.nil)))) Try.func145 fun x => f145_run K x.1 x.2.1
theorem f145_runs : Runs Try.prog 145 := runsB_ok (by kernel_rfl)
theorem f99_ok (K : Nat) : Sound Try.prog 99 (f99M K) :=
  sound_fn (envOK (E := (f99E K)) tab_ok mixed_ok (AllOK.cons (f142_ok K) f142_runs (AllOK.cons (f144_ok K) f144_runs (AllOK.cons (f145_ok K) f145_runs (AllOK.cons (f146_ok K) f146_runs AllOK.nil))))) Try.func99 fun x => f99_run K x.1 x.2.1
theorem f99_runs : Runs Try.prog 99 := runsB_ok (by kernel_rfl)
theorem f148_ok (K : Nat) : Sound Try.prog 148 (f148M K) :=
  sound_fn (envOK (E := (f148E K)) tab_ok mixed_ok (AllOK.cons (f164_ok K) f164_runs (AllOK.cons (f178_ok K) f178_runs AllOK.nil))) Try.func148 fun x => f148_run K x.1 x.2.1
theorem f148_runs : Runs Try.prog 148 := runsB_ok (by kernel_rfl)
theorem f150_ok (K : Nat) : Sound Try.prog 150 (f150M K) :=
  sound_fn (envOK (E := (f150E K)) tab_ok mixed_ok AllOK.nil) Try.func150 fun x => f150_run K x.1
theorem f150_runs : Runs Try.prog 150 := runsB_ok (by kernel_rfl)
theorem f147_ok (K : Nat) : Sound Try.prog 147 (f147M K) :=
  sound_fn (envOK (E := (f147E K)) tab_ok mixed_ok AllOK.nil) Try.func147 fun x => f147_run K x.1 x.2.1
theorem f147_runs : Runs Try.prog 147 := runsB_ok (by kernel_rfl)
theorem f100_ok (K : Nat) : Sound Try.prog 100 (f100M K) :=
  sound_fn (envOK (E := (f100E K)) tab_ok mixed_ok (AllOK.cons (f95_ok K) f95_runs (AllOK.cons (f147_ok K) f147_runs (AllOK.cons (f148_ok K) f148_runs (AllOK.cons (f149_ok K) f149_runs (AllOK.cons (f150_ok K) f150_runs AllOK.nil)))))) Try.func100 fun x => f100_run K x.1 x.2.1
theorem f100_runs : Runs Try.prog 100 := runsB_ok (by kernel_rfl)
theorem f56_ok (K : Nat) : Sound Try.prog 56 (f56M K) :=
  sound_fn (envOK (E := (f56E K)) tab_ok mixed_ok (AllOK.cons (f69_ok K) f69_runs (AllOK.cons (f76_ok K) f76_runs (AllOK.cons (f99_ok K) f99_runs (AllOK.cons (f100_ok K) f100_runs AllOK.nil))))) Try.func56 fun x => f56_run K x.1
theorem f56_runs : Runs Try.prog 56 := runsB_ok (by kernel_rfl)
theorem f17_ok (K : Nat) : Sound Try.prog 17 (f17M K) :=
  sound_fn (envOK (E := (f17E K)) tab_ok mixed_ok (AllOK.cons (f54_ok K) f54_runs (AllOK.cons (f55_ok K) f55_runs (AllOK.cons (f56_ok K) f56_runs AllOK.nil)))) Try.func17 fun x => f17_run K x.1
theorem f17_runs : Runs Try.prog 17 := runsB_ok (by kernel_rfl)
theorem f42_ok (K : Nat) : Sound Try.prog 42 (f42M K) :=
  sound_fn (envOK (E := (f42E K)) tab_ok mixed_ok AllOK.nil) Try.func42 fun x => f42_run K x.1 x.2.1
theorem f42_runs : Runs Try.prog 42 := runsB_ok (by kernel_rfl)
theorem f57_ok (K : Nat) : Sound Try.prog 57 (f57M K) :=
  sound_fn (envOK (E := (f57E K)) tab_ok mixed_ok AllOK.nil) Try.func57 fun x => f57_run K x.1 x.2.1
theorem f57_runs : Runs Try.prog 57 := runsB_ok (by kernel_rfl)
theorem f18_ok (K : Nat) : Sound Try.prog 18 (f18M K) :=
  sound_fn (envOK (E := (f18E K)) tab_ok mixed_ok (AllOK.cons (f42_ok K) f42_runs (AllOK.cons (f57_ok K) f57_runs AllOK.nil))) Try.func18 fun x => f18_run K x.1 x.2.1
theorem f18_runs : Runs Try.prog 18 := runsB_ok (by kernel_rfl)
theorem f4_ok (K : Nat) : Sound Try.prog 4 (f4M K) :=
  sound_fn (envOK (E := (f4E K)) tab_ok mixed_ok (AllOK.cons (f14_ok K) f14_runs (AllOK.cons (f15_ok K) f15_runs (AllOK.cons (f16_ok K) f16_runs (AllOK.cons (f17_ok K) f17_runs (AllOK.cons (f18_ok K) f18_runs AllOK.nil)))))) Try.func4 fun x => f4_run K x.1
theorem f4_runs : Runs Try.prog 4 := runsB_ok (by kernel_rfl)
theorem f71_ok (K : Nat) : Sound Try.prog 71 (f71M K) :=
  sound_fn (envOK (E := (f71E K)) tab_ok mixed_ok AllOK.nil) Try.func71 fun x => f71_run K x.1 x.2.1
theorem f71_runs : Runs Try.prog 71 := runsB_ok (by kernel_rfl)
theorem f166_ok (K : Nat) : Sound Try.prog 166 (f166M K) :=
  sound_fn (envOK (E := (f166E K)) tab_ok mixed_ok AllOK.nil) Try.func166 fun x => f166_run K x.1 x.2.1
theorem f166_runs : Runs Try.prog 166 := runsB_ok (by kernel_rfl)
theorem f120_ok (K : Nat) : Sound Try.prog 120 (f120M K) :=
  sound_fn (envOK (E := (f120E K)) tab_ok mixed_ok (AllOK.cons (f111_ok K) f111_runs AllOK.nil)) Try.func120 fun x => f120_run K x.1
theorem f120_runs : Runs Try.prog 120 := runsB_ok (by kernel_rfl)
theorem f167_ok (K : Nat) : Sound Try.prog 167 (f167M K) :=
  sound_fn (envOK (E := (f167E K)) tab_ok mixed_ok (AllOK.cons (f120_ok K) f120_runs AllOK.nil)) Try.func167 fun x => f167_run K x.1
theorem f167_runs : Runs Try.prog 167 := runsB_ok (by kernel_rfl)
theorem f118_ok (K : Nat) : Sound Try.prog 118 (f118M K) :=
  sound_fn (envOK (E := (f118E K)) tab_ok mixed_ok (AllOK.cons (f137_ok K) f137_runs (AllOK.cons (f166_ok K) f166_runs (AllOK.cons (f167_ok K) f167_runs AllOK.nil)))) Try.func118 fun x => f118_run K x.1
theorem f118_runs : Runs Try.prog 118 := runsB_ok (by kernel_rfl)
theorem f73_ok (K : Nat) : Sound Try.prog 73 (f73M K) :=
  sound_fn (envOK (E := (f73E K)) tab_ok mixed_ok (AllOK.cons (f52_ok K) f52_runs (AllOK.cons (f118_ok K) f118_runs AllOK.nil))) Try.func73 fun x => f73_run K x.1
theorem f73_runs : Runs Try.prog 73 := runsB_ok (by kernel_rfl)
theorem f66_ok (K : Nat) : Sound Try.prog 66 (f66M K) :=
  sound_fn (envOK (E := (f66E K)) tab_ok mixed_ok (AllOK.cons (f112_ok K) f112_runs (AllOK.cons (f113_ok K) f113_runs AllOK.nil))) Try.func66 fun x => f66_run K x.1 x.2.1 x.2.2.1
theorem f66_runs : Runs Try.prog 66 := runsB_ok (by kernel_rfl)
theorem f74_ok (K : Nat) : Sound Try.prog 74 (f74M K) :=
  sound_fn (envOK (E := (f74E K)) tab_ok mixed_ok (AllOK.cons (f66_ok K) f66_runs AllOK.nil)) Try.func74 fun x => f74_run K x.1 x.2.1 x.2.2.1
theorem f74_runs : Runs Try.prog 74 := runsB_ok (by kernel_rfl)
theorem f34_ok (K : Nat) : Sound Try.prog 34 (f34M K) :=
  sound_fn (envOK (E := (f34E K)) tab_ok mixed_ok (AllOK.cons (f49_ok K) f49_runs (AllOK.cons (f50_ok K) f50_runs (AllOK.cons (f51_ok K) f51_runs (AllOK.cons (f71_ok K) f71_runs (AllOK.cons (f72_ok K) f72_runs (AllOK.cons (f73_ok K) f73_runs (AllOK.cons (f74_ok K) f74_runs AllOK.nil)))))))) Try.func34 fun x => f34_run K x.1 x.2.1
theorem f34_runs : Runs Try.prog 34 := runsB_ok (by kernel_rfl)
theorem f115_ok (K : Nat) : Sound Try.prog 115 (f115M K) :=
  sound_fn (envOK (E := (f115E K)) tab_ok mixed_ok (AllOK.cons (f159_ok K) f159_runs (AllOK.cons (f160_ok K) f160_runs AllOK.nil))) Try.func115 fun x => f115_run K x.1 x.2.1 x.2.2.1
theorem f115_runs : Runs Try.prog 115 := runsB_ok (by kernel_rfl)
theorem f68_ok (K : Nat) : Sound Try.prog 68 (f68M K) :=
  sound_fn (envOK (E := (f68E K)) tab_ok mixed_ok (AllOK.cons (f115_ok K) f115_runs AllOK.nil)) Try.func68 fun x => f68_run K x.1 x.2.1 x.2.2.1
theorem f68_runs : Runs Try.prog 68 := runsB_ok (by kernel_rfl)
theorem f35_ok (K : Nat) : Sound Try.prog 35 (f35M K) :=
  sound_fn (envOK (E := (f35E K)) tab_ok mixed_ok (AllOK.cons (f54_ok K) f54_runs (AllOK.cons (f55_ok K) f55_runs (AllOK.cons (f68_ok K) f68_runs (AllOK.cons (f69_ok K) f69_runs (AllOK.cons (f75_ok K) f75_runs (AllOK.cons (f76_ok K) f76_runs (AllOK.cons (f77_ok K) f77_runs AllOK.nil)))))))) Try.func35 fun x => f35_run K x.1 x.2.1
theorem f35_runs : Runs Try.prog 35 := runsB_ok (by kernel_rfl)
theorem f64_ok (K : Nat) : Sound Try.prog 64 (f64M K) :=
  sound_fn (envOK (E := (f64E K)) tab_ok mixed_ok AllOK.nil) Try.func64 fun x => f64_run K x.1 x.2.1
theorem f64_runs : Runs Try.prog 64 := runsB_ok (by kernel_rfl)
theorem f27_ok (K : Nat) : Sound Try.prog 27 (f27M K) :=
  sound_fn (envOK (E := (f27E K)) tab_ok mixed_ok (AllOK.cons (f64_ok K) f64_runs AllOK.nil)) Try.func27 fun x => f27_run K x.1 x.2.1
theorem f27_runs : Runs Try.prog 27 := runsB_ok (by kernel_rfl)
theorem f70_ok (K : Nat) : Sound Try.prog 70 (f70M K) :=
  sound_fn (envOK (E := (f70E K)) tab_ok mixed_ok AllOK.nil) Try.func70 fun x => f70_run K x.1 x.2.1
theorem f70_runs : Runs Try.prog 70 := runsB_ok (by kernel_rfl)
theorem f31_ok (K : Nat) : Sound Try.prog 31 (f31M K) :=
  sound_fn (envOK (E := (f31E K)) tab_ok mixed_ok (AllOK.cons (f70_ok K) f70_runs AllOK.nil)) Try.func31 fun x => f31_run K x.1 x.2.1
theorem f31_runs : Runs Try.prog 31 := runsB_ok (by kernel_rfl)
theorem f36_ok (K : Nat) : Sound Try.prog 36 (f36M K) :=
  sound_fn (envOK (E := (f36E K)) tab_ok mixed_ok AllOK.nil) Try.func36 fun x => f36_run K x.1 x.2.1
theorem f36_runs : Runs Try.prog 36 := runsB_ok (by kernel_rfl)
theorem f37_ok (K : Nat) : Sound Try.prog 37 (f37M K) :=
  sound_fn (envOK (E := (f37E K)) tab_ok mixed_ok AllOK.nil) Try.func37 fun x => f37_run K x.1 x.2.1
theorem f37_runs : Runs Try.prog 37 := runsB_ok (by kernel_rfl)
theorem f7_ok (K : Nat) : Sound Try.prog 7 (f7M K) :=
  sound_fn (envOK (E := (f7E K)) tab_ok mixed_ok (AllOK.cons (f14_ok K) f14_runs (AllOK.cons (f16_ok K) f16_runs (AllOK.cons (f18_ok K) f18_runs (AllOK.cons (f27_ok K) f27_runs (AllOK.cons (f31_ok K) f31_runs (AllOK.cons (f34_ok K) f34_runs (AllOK.cons (f35_ok K) f35_runs (AllOK.cons (f36_ok K) f36_runs (AllOK.cons (f37_ok K) f37_runs AllOK.nil)))))))))) Try.func7 fun x => f7_run K x.1 x.2.1
theorem f7_runs : Runs Try.prog 7 := runsB_ok (by kernel_rfl)
theorem f29_ok (K : Nat) : Sound Try.prog 29 (f29M K) :=
  sound_fn (envOK (E := (f29E K)) tab_ok mixed_ok AllOK.nil) Try.func29 fun x => f29_run K x.1
theorem f29_runs : Runs Try.prog 29 := runsB_ok (by kernel_rfl)
theorem f65_ok (K : Nat) : Sound Try.prog 65 (f65M K) :=
  sound_fn (envOK (E := (f65E K)) tab_ok mixed_ok (AllOK.cons (f111_ok K) f111_runs AllOK.nil)) Try.func65 fun x => f65_run K x.1 x.2.1
theorem f65_runs : Runs Try.prog 65 := runsB_ok (by kernel_rfl)
theorem f28_ok (K : Nat) : Sound Try.prog 28 (f28M K) :=
  sound_fn (envOK (E := (f28E K)) tab_ok mixed_ok (AllOK.cons (f49_ok K) f49_runs (AllOK.cons (f50_ok K) f50_runs (AllOK.cons (f51_ok K) f51_runs (AllOK.cons (f65_ok K) f65_runs (AllOK.cons (f66_ok K) f66_runs AllOK.nil)))))) Try.func28 fun x => f28_run K x.1 x.2.1
theorem f28_runs : Runs Try.prog 28 := runsB_ok (by kernel_rfl)
theorem f67_ok (K : Nat) : Sound Try.prog 67 (f67M K) :=
  sound_fn (envOK (E := (f67E K)) tab_ok mixed_ok (AllOK.cons (f114_ok K) f114_runs AllOK.nil)) Try.func67 fun x => f67_run K x.1 x.2.1
theorem f67_runs : Runs Try.prog 67 := runsB_ok (by kernel_rfl)
theorem f30_ok (K : Nat) : Sound Try.prog 30 (f30M K) :=
  sound_fn (envOK (E := (f30E K)) tab_ok mixed_ok (AllOK.cons (f54_ok K) f54_runs (AllOK.cons (f55_ok K) f55_runs (AllOK.cons (f67_ok K) f67_runs (AllOK.cons (f68_ok K) f68_runs (AllOK.cons (f69_ok K) f69_runs AllOK.nil)))))) Try.func30 fun x => f30_run K x.1 x.2.1
theorem f30_runs : Runs Try.prog 30 := runsB_ok (by kernel_rfl)
theorem f110_ok (K : Nat) : Sound Try.prog 110 (f110M K) :=
  sound_fn (envOK (E := (f110E K)) tab_ok mixed_ok AllOK.nil) Try.func110 fun x => f110_run K x.1 x.2.1
theorem f110_runs : Runs Try.prog 110 := runsB_ok (by kernel_rfl)
theorem f63_ok (K : Nat) : Sound Try.prog 63 (f63M K) :=
  sound_fn (envOK (E := (f63E K)) tab_ok mixed_ok (AllOK.cons (f64_ok K) f64_runs (AllOK.cons (f110_ok K) f110_runs AllOK.nil))) Try.func63 fun x => f63_run K x.1 x.2.1
theorem f63_runs : Runs Try.prog 63 := runsB_ok (by kernel_rfl)
theorem f26_ok (K : Nat) : Sound Try.prog 26 (f26M K) :=
  sound_fn (envOK (E := (f26E K)) tab_ok mixed_ok (AllOK.cons (f63_ok K) f63_runs AllOK.nil)) Try.func26 fun x => f26_run K x.1 x.2.1
theorem f26_runs : Runs Try.prog 26 := runsB_ok (by kernel_rfl)
theorem f32_ok (K : Nat) : Sound Try.prog 32 (f32M K) :=
  sound_fn (envOK (E := (f32E K)) tab_ok mixed_ok AllOK.nil) Try.func32 fun x => f32_run K x.1 x.2.1
theorem f32_runs : Runs Try.prog 32 := runsB_ok (by kernel_rfl)
theorem f33_ok (K : Nat) : Sound Try.prog 33 (f33M K) :=
  sound_fn (envOK (E := (f33E K)) tab_ok mixed_ok AllOK.nil) Try.func33 fun x => f33_run K x.1 x.2.1
theorem f33_runs : Runs Try.prog 33 := runsB_ok (by kernel_rfl)
theorem f6_ok (K : Nat) : Sound Try.prog 6 (f6M K) :=
  sound_fn (envOK (E := (f6E K)) tab_ok mixed_ok (AllOK.cons (f14_ok K) f14_runs (AllOK.cons (f16_ok K) f16_runs (AllOK.cons (f18_ok K) f18_runs (AllOK.cons (f26_ok K) f26_runs (AllOK.cons (f28_ok K) f28_runs (AllOK.cons (f29_ok K) f29_runs (AllOK.cons (f30_ok K) f30_runs (AllOK.cons (f31_ok K) f31_runs (AllOK.cons (f32_ok K) f32_runs (AllOK.cons (f33_ok K) f33_runs AllOK.nil))))))))))) Try.func6 fun x => f6_run K x.1 x.2.1
theorem f6_runs : Runs Try.prog 6 := runsB_ok (by kernel_rfl)
end Go.Proofs.Ytbgdojniimdihaa.X
