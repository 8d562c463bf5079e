/- Functions of the program as plain Lean functions, and that the program does what they say. Printed by gen.py. -/
import Derived.Test.YtmnciknpeefkfaaGreatQdR0
namespace Go.Proofs.YtmnciknpeefkfaaGreat.X
open Go
set_option maxRecDepth 100000
set_option linter.unusedVariables false
theorem f66_ok (K : Nat) : Sound Tryz.prog 66 (f66M K) :=
  sound_fn (envOK (E := (f66E K)) tab_ok mixed_ok AllOK.nil AllP.nil AllN.nil) Tryz.func66 fun x => f66_run K x.1 x.2.1
theorem f66_runs : Runs Tryz.prog 66 := runsB_ok (by kernel_rfl)
theorem f19_ok (K : Nat) : Sound Tryz.prog 19 (f19M K) :=
  sound_fn (envOK (E := (f19E K)) tab_ok mixed_ok (AllOK.cons (f66_ok K) f66_runs AllOK.nil) AllP.nil AllN.nil) Tryz.func19 fun x => f19_run K x.1 x.2.1
theorem f19_runs : Runs Tryz.prog 19 := runsB_ok (by kernel_rfl)
theorem f15_ok (K : Nat) : Sound Tryz.prog 15 (f15M K) :=
  sound_fn (envOK (E := (f15E K)) tab_ok mixed_ok AllOK.nil AllP.nil AllN.nil) Tryz.func15 fun x => f15_run K x.1
theorem f15_runs : Runs Tryz.prog 15 := runsB_ok (by kernel_rfl)
theorem f39_ok (K : Nat) : Sound Tryz.prog 39 (f39M K) :=
  sound_fn (envOK (E := (f39E K)) tab_ok mixed_ok AllOK.nil AllP.nil AllN.nil) Tryz.func39 fun x => f39_run K x.1
theorem f39_runs : Runs Tryz.prog 39 := runsB_ok (by kernel_rfl)
theorem f21_ok (K : Nat) : Sound Tryz.prog 21 (f21M K) :=
  sound_fn (envOK (E := (f21E K)) tab_ok mixed_ok (AllOK.cons (f15_ok K) f15_runs (AllOK.cons (f39_ok K) f39_runs AllOK.nil)) AllP.nil AllN.nil) Tryz.func21 fun x => f21_run K x.1
theorem f21_runs : Runs Tryz.prog 21 := runsB_ok (by kernel_rfl)
theorem f190_ok (K : Nat) : Sound Tryz.prog 190 (f190M K) :=
  sound_fn (envOK (E := (f190E K)) tab_ok mixed_ok AllOK.nil AllP.nil AllN.nil) Tryz.func190 fun x => f190_run K x.1
theorem f190_runs : Runs Tryz.prog 190 := runsB_ok (by kernel_rfl)
theorem f59_ok (K : Nat) : Sound Tryz.prog 59 (f59M K) :=
  sound_fn (envOK (E := (f59E K)) tab_ok mixed_ok AllOK.nil AllP.nil AllN.nil) Tryz.func59 fun x => f59_run K x.1 x.2.1 x.2.2.1
theorem f59_runs : Runs Tryz.prog 59 := runsB_ok (by kernel_rfl)
theorem f191_ok (K : Nat) : Sound Tryz.prog 191 (f191M K) :=
  sound_fn (envOK (E := (f191E K)) tab_ok mixed_ok (AllOK.cons (f59_ok K) f59_runs AllOK.nil) AllP.nil AllN.nil) Tryz.func191 fun x => f191_run K x.1
theorem f191_runs : Runs Tryz.prog 191 := runsB_ok (by kernel_rfl)
theorem f133_ok (K : Nat) : Sound Tryz.prog 133 (f133M K) :=
  sound_fn (envOK (E := (f133E K)) tab_ok mixed_ok (AllOK.cons (f190_ok K) f190_runs (AllOK.cons (f191_ok K) f191_runs AllOK.nil)) AllP.nil AllN.nil) Tryz.func133 fun x => f133_run K x.1 x.2.1
theorem f133_runs : Runs Tryz.prog 133 := runsB_ok (by kernel_rfl)
theorem f90_ok (K : Nat) : Sound Tryz.prog 90 (f90M K) :=
  sound_fn (envOK (E := (f90E K)) tab_ok mixed_ok (AllOK.cons (f59_ok K) f59_runs AllOK.nil) AllP.nil AllN.nil) Tryz.func90 fun x => f90_run K x.1 x.2.1 x.2.2.1 x.2.2.2.1
theorem f90_runs : Runs Tryz.prog 90 := runsB_ok (by kernel_rfl)
theorem f67_ok (K : Nat) : Sound Tryz.prog 67 (f67M K) :=
  sound_fn (envOK (E := (f67E K)) tab_ok mixed_ok (AllOK.cons (f90_ok K) f90_runs (AllOK.cons (f133_ok K) f133_runs AllOK.nil)) AllP.nil AllN.nil) Tryz.func67 fun x => f67_run K x.1
theorem f67_runs : Runs Tryz.prog 67 := runsB_ok (by kernel_rfl)
theorem f129_ok (K : Nat) : Sound Tryz.prog 129 (f129M K) :=
  sound_fn (envOK (E := (f129E K)) tab_ok mixed_ok AllOK.nil AllP.nil AllN.nil) Tryz.func129 fun x => f129_run K x.1
theorem f129_runs : Runs Tryz.prog 129 := runsB_ok (by kernel_rfl)
theorem f192_ok (K : Nat) : Sound Tryz.prog 192 (f192M K) :=
  sound_fn (envOK (E := (f192E K)) tab_ok mixed_ok AllOK.nil AllP.nil AllN.nil) Tryz.func192 fun x => f192_run K x.1
theorem f192_runs : Runs Tryz.prog 192 := runsB_ok (by kernel_rfl)
theorem f193_ok (K : Nat) : Sound Tryz.prog 193 (f193M K) :=
  sound_fn (envOK (E := (f193E K)) tab_ok mixed_ok AllOK.nil AllP.nil AllN.nil) Tryz.func193 fun x => f193_run K 
theorem f193_runs : Runs Tryz.prog 193 := runsB_ok (by kernel_rfl)
theorem f241_ok (K : Nat) : Sound Tryz.prog 241 (f241M K) :=
  sound_fn (envOK (E := (f241E K)) tab_ok mixed_ok AllOK.nil AllP.nil AllN.nil) Tryz.func241 fun x => f241_run K x.1 x.2.1
theorem f241_runs : Runs Tryz.prog 241 := runsB_ok (by kernel_rfl)
theorem f170_ok (K : Nat) : Sound Tryz.prog 170 (f170M K) :=
  sound_fn (envOK (E := (f170E K)) tab_ok mixed_ok AllOK.nil AllP.nil AllN.nil) Tryz.func170 fun x => f170_run K x.1 x.2.1
theorem f170_runs : Runs Tryz.prog 170 := runsB_ok (by kernel_rfl)
theorem f197_ok (K : Nat) : Sound Tryz.prog 197 (f197M K) :=
  sound_fn (envOK (E := (f197E K)) tab_ok mixed_ok (AllOK.cons (f170_ok K) f170_runs (AllOK.cons (f241_ok K) f241_runs AllOK.nil)) AllP.nil AllN.nil) Tryz.func197 fun x => f197_run K x.1 x.2.1
theorem f197_runs : Runs Tryz.prog 197 := runsB_ok (by kernel_rfl)
theorem f180_ok (K : Nat) : Sound Tryz.prog 180 (f180M K) :=
  sound_fn (envOK (E := (f180E K)) tab_ok mixed_ok AllOK.nil AllP.nil AllN.nil) Tryz.func180 fun x => f180_run K x.1 x.2.1
theorem f180_runs : Runs Tryz.prog 180 := runsB_ok (by kernel_rfl)
theorem f114_ok (K : Nat) : Sound Tryz.prog 114 (f114M K) :=
  sound_fn (envOK (E := (f114E K)) tab_ok mixed_ok (AllOK.cons (f180_ok K) f180_runs AllOK.nil) AllP.nil AllN.nil) Tryz.func114 fun x => f114_run K x.1 x.2.1
theorem f114_runs : Runs Tryz.prog 114 := runsB_ok (by kernel_rfl)
theorem f78_ok (K : Nat) : Sound Tryz.prog 78 (f78M K) :=
  sound_fn (envOK (E := (f78E K)) tab_ok mixed_ok (AllOK.cons (f114_ok K) f114_runs AllOK.nil) AllP.nil AllN.nil) Tryz.func78 fun x => f78_run K x.1 x.2.1
theorem f78_runs : Runs Tryz.prog 78 := runsB_ok (by kernel_rfl)
theorem f122_ok (K : Nat) : Sound Tryz.prog 122 (f122M K) :=
  sound_fn (envOK (E := (f122E K)) tab_ok mixed_ok (AllOK.cons (f78_ok K) f78_runs AllOK.nil) AllP.nil AllN.nil) Tryz.func122 fun x => f122_run K x.1 x.2.1
theorem f122_runs : Runs Tryz.prog 122 := runsB_ok (by kernel_rfl)
theorem f137_ok (K : Nat) : Sound Tryz.prog 137 (f137M K) :=
  sound_fn (envOK (E := (f137E K)) tab_ok mixed_ok (AllOK.cons (f122_ok K) f122_runs (AllOK.cons (f129_ok K) f129_runs (AllOK.cons (f197_ok K) f197_runs AllOK.nil))) AllP.nil AllN.nil) Tryz.func137 fun x => f137_run K x.1 x.2.1
theorem f137_runs : Runs Tryz.prog 137 := runsB_ok (by kernel_rfl)
theorem f242_runs : Runs Tryz.prog 242 := runsB_ok (by kernel_rfl)
theorem f242_okn (K : Nat) : ∀ n, Sound Tryz.prog 242 ⟨[(.ro, (.int .i64)), (.ro, (.int .i64))], [(.int .i64)], fun x => f242R K n x.1 x.2.1⟩
  | 0 => fun _ _ _ _ _ _ _ h => by cases h
  | n + 1 => sound_fn (envOK (E := f242E K (f242R K n)) tab_ok mixed_ok (AllOK.cons (f242_okn K n) f242_runs AllOK.nil) AllP.nil AllN.nil) Tryz.func242 fun x => f242_run K (f242R K n) x.1 x.2.1
theorem f242_ok (K : Nat) : Sound Tryz.prog 242 (f242M K) := f242_okn K K
theorem f243_ok (K : Nat) : Sound Tryz.prog 243 (f243M K) :=
  sound_fn (envOK (E := (f243E K)) tab_ok mixed_ok AllOK.nil AllP.nil AllN.nil) Tryz.func243 fun x => f243_run K x.1 x.2.1
theorem f243_runs : Runs Tryz.prog 243 := runsB_ok (by kernel_rfl)
theorem f194_ok (K : Nat) : Sound Tryz.prog 194 (f194M K) :=
  sound_fn (envOK (E := (f194E K)) tab_ok mixed_ok (AllOK.cons (f180_ok K) f180_runs (AllOK.cons (f242_ok K) f242_runs (AllOK.cons (f243_ok K) f243_runs AllOK.nil))) AllP.nil AllN.nil) Tryz.func194 fun x => f194_run K x.1
theorem f194_runs : Runs Tryz.prog 194 := runsB_ok (by kernel_rfl)
theorem f135_ok (K : Nat) : Sound Tryz.prog 135 (f135M K) :=
  sound_fn (envOK (E := (f135E K)) tab_ok mixed_ok (AllOK.cons (f129_ok K) f129_runs (AllOK.cons (f137_ok K) f137_runs (AllOK.cons (f192_ok K) f192_runs (AllOK.cons (f193_ok K) f193_runs (AllOK.cons (f194_ok K) f194_runs AllOK.nil))))) AllP.nil AllN.nil) Tryz.func135 fun x => f135_run K x.1
theorem f135_runs : Runs Tryz.prog 135 := runsB_ok (by kernel_rfl)
theorem f134_ok (K : Nat) : Sound Tryz.prog 134 (f134M K) :=
  sound_fn (envOK (E := (f134E K)) tab_ok mixed_ok (AllOK.cons (f122_ok K) f122_runs (AllOK.cons (f129_ok K) f129_runs AllOK.nil)) AllP.nil AllN.nil) Tryz.func134 fun x => f134_run K x.1 x.2.1
theorem f134_runs : Runs Tryz.prog 134 := runsB_ok (by kernel_rfl)
theorem f68_ok (K : Nat) : Sound Tryz.prog 68 (f68M K) :=
  sound_fn (envOK (E := (f68E K)) tab_ok mixed_ok (AllOK.cons (f134_ok K) f134_runs (AllOK.cons (f135_ok K) f135_runs AllOK.nil)) AllP.nil AllN.nil) Tryz.func68 fun x => f68_run K x.1
theorem f68_runs : Runs Tryz.prog 68 := runsB_ok (by kernel_rfl)
theorem f275_ok (K : Nat) : Sound Tryz.prog 275 (f275M K) :=
  sound_fn (envOK (E := (f275E K)) tab_ok mixed_ok AllOK.nil AllP.nil AllN.nil) Tryz.func275 fun x => f275_run K x.1 x.2.1
theorem f275_runs : Runs Tryz.prog 275 := runsB_ok (by kernel_rfl)
theorem f244_ok (K : Nat) : Sound Tryz.prog 244 (f244M K) :=
  sound_fn (envOK (E := (f244E K)) tab_ok mixed_ok (AllOK.cons (f170_ok K) f170_runs (AllOK.cons (f275_ok K) f275_runs AllOK.nil)) AllP.nil AllN.nil) Tryz.func244 fun x => f244_run K x.1 x.2.1
theorem f244_runs : Runs Tryz.prog 244 := runsB_ok (by kernel_rfl)
theorem f195_ok (K : Nat) : Sound Tryz.prog 195 (f195M K) :=
  sound_fn (envOK (E := (f195E K)) tab_ok mixed_ok (AllOK.cons (f244_ok K) f244_runs AllOK.nil) AllP.nil AllN.nil) Tryz.func195 fun x => f195_run K x.1
theorem f195_runs : Runs Tryz.prog 195 := runsB_ok (by kernel_rfl)
theorem f196_ok (K : Nat) : Sound Tryz.prog 196 (f196M K) :=
  sound_fn (envOK (E := (f196E K)) tab_ok mixed_ok (AllOK.cons (f192_ok K) f192_runs (AllOK.cons (f194_ok K) f194_runs (AllOK.cons (f241_ok K) f241_runs AllOK.nil))) AllP.nil AllN.nil) Tryz.func196 fun x => f196_run K x.1 x.2.1
theorem f196_runs : Runs Tryz.prog 196 := runsB_ok (by kernel_rfl)
theorem f136_ok (K : Nat) : Sound Tryz.prog 136 (f136M K) :=
  sound_fn (envOK (E := (f136E K)) tab_ok mixed_ok (AllOK.cons (f195_ok K) f195_runs (AllOK.cons (f196_ok K) f196_runs AllOK.nil)) AllP.nil AllN.nil) Tryz.func136 fun x => f136_run K x.1 x.2.1
theorem f136_runs : Runs Tryz.prog 136 := runsB_ok (by kernel_rfl)
theorem f69_ok (K : Nat) : Sound Tryz.prog 69 (f69M K) :=
  sound_fn (envOK (E := (f69E K)) tab_ok mixed_ok (AllOK.cons (f129_ok K) f129_runs (AllOK.cons (f136_ok K) f136_runs (AllOK.cons (f137_ok K) f137_runs AllOK.nil))) AllP.nil AllN.nil) Tryz.func69 fun x => f69_run K x.1
theorem f69_runs : Runs Tryz.prog 69 := runsB_ok (by kernel_rfl)
theorem f147_ok (K : Nat) : Sound Tryz.prog 147 (f147M K) :=
  sound_fn (envOK (E := (f147E K)) tab_ok mixed_ok (AllOK.cons (f114_ok K) f114_runs (AllOK.cons (f197_ok K) f197_runs AllOK.nil)) AllP.nil AllN.nil) Tryz.func147 fun x => f147_run K x.1 x.2.1 x.2.2.1
theorem f147_runs : Runs Tryz.prog 147 := runsB_ok (by kernel_rfl)
theorem f171_ok (K : Nat) : Sound Tryz.prog 171 (f171M K) :=
  sound_fn (envOK (E := (f171E K)) tab_ok mixed_ok AllOK.nil AllP.nil AllN.nil) Tryz.func171 fun x => f171_run K x.1 x.2.1
theorem f171_runs : Runs Tryz.prog 171 := runsB_ok (by kernel_rfl)
theorem f100_ok (K : Nat) : Sound Tryz.prog 100 (f100M K) :=
  sound_fn (envOK (E := (f100E K)) tab_ok mixed_ok (AllOK.cons (f171_ok K) f171_runs AllOK.nil) AllP.nil AllN.nil) Tryz.func100 fun x => f100_run K x.1 x.2.1
theorem f100_runs : Runs Tryz.prog 100 := runsB_ok (by kernel_rfl)
theorem f77_ok (K : Nat) : Sound Tryz.prog 77 (f77M K) :=
  sound_fn (envOK (E := (f77E K)) tab_ok mixed_ok (AllOK.cons (f100_ok K) f100_runs (AllOK.cons (f147_ok K) f147_runs AllOK.nil)) AllP.nil AllN.nil) Tryz.func77 fun x => f77_run K x.1 x.2.1 x.2.2.1
theorem f77_runs : Runs Tryz.prog 77 := runsB_ok (by kernel_rfl)
theorem f60_ok (K : Nat) : Sound Tryz.prog 60 (f60M K) :=
  sound_fn (envOK (E := (f60E K)) tab_ok mixed_ok (AllOK.cons (f77_ok K) f77_runs (AllOK.cons (f129_ok K) f129_runs AllOK.nil)) AllP.nil AllN.nil) Tryz.func60 fun x => f60_run K x.1 x.2.1
theorem f60_runs : Runs Tryz.prog 60 := runsB_ok (by kernel_rfl)
theorem f20_ok (K : Nat) : Sound Tryz.prog 20 (f20M K) :=
  sound_fn (envOK (E := (f20E K)) tab_ok mixed_ok (AllOK.cons (f60_ok K) f60_runs (AllOK.cons (f67_ok K) f67_runs (AllOK.cons (f68_ok K) f68_runs (AllOK.cons (f69_ok K) f69_runs AllOK.nil)))) AllP.nil AllN.nil) Tryz.func20 fun x => f20_run K x.1
theorem f20_runs : Runs Tryz.prog 20 := runsB_ok (by kernel_rfl)
theorem f63_ok (K : Nat) : Sound Tryz.prog 63 (f63M K) :=
  sound_fn (envOK (E := (f63E K)) tab_ok mixed_ok AllOK.nil AllP.nil AllN.nil) Tryz.func63 fun x => f63_run K x.1 x.2.1 x.2.2.1
theorem f63_runs : Runs Tryz.prog 63 := runsB_ok (by kernel_rfl)
theorem f138_ok (K : Nat) : Sound Tryz.prog 138 (f138M K) :=
  sound_fn (envOK (E := (f138E K)) tab_ok mixed_ok (AllOK.cons (f63_ok K) f63_runs AllOK.nil) AllP.nil AllN.nil) Tryz.func138 fun x => f138_run K x.1
theorem f138_runs : Runs Tryz.prog 138 := runsB_ok (by kernel_rfl)
theorem f140_ok (K : Nat) : Sound Tryz.prog 140 (f140M K) :=
  sound_fn (envOK (E := (f140E K)) tab_ok mixed_ok AllOK.nil AllP.nil AllN.nil) Tryz.func140 fun x => f140_run K x.1
theorem f140_runs : Runs Tryz.prog 140 := runsB_ok (by kernel_rfl)
theorem f139_ok (K : Nat) : Sound Tryz.prog 139 (f139M K) :=
  sound_fn (envOK (E := (f139E K)) tab_ok mixed_ok (AllOK.cons (f63_ok K) f63_runs (AllOK.cons (f140_ok K) f140_runs AllOK.nil)) AllP.nil AllN.nil) Tryz.func139 fun x => f139_run K x.1
theorem f139_runs : Runs Tryz.prog 139 := runsB_ok (by kernel_rfl)
theorem f157_ok (K : Nat) : Sound Tryz.prog 157 (f157M K) :=
  sound_fn (envOK (E := (f157E K)) tab_ok mixed_ok (AllOK.cons (f63_ok K) f63_runs AllOK.nil) AllP.nil AllN.nil) Tryz.func157 fun x => f157_run K x.1 x.2.1 x.2.2.1
theorem f157_runs : Runs Tryz.prog 157 := runsB_ok (by kernel_rfl)
theorem f219_ok (K : Nat) : Sound Tryz.prog 219 (f219M K) :=
  sound_fn (envOK (E := (f219E K)) tab_ok mixed_ok AllOK.nil AllP.nil AllN.nil) Tryz.func219 fun x => f219_run K x.1 x.2.1
theorem f219_runs : Runs Tryz.prog 219 := runsB_ok (by kernel_rfl)
theorem f156_ok (K : Nat) : Sound Tryz.prog 156 (f156M K) :=
  sound_fn (envOK (E := (f156E K)) tab_ok mixed_ok (AllOK.cons (f219_ok K) f219_runs AllOK.nil) AllP.nil AllN.nil) Tryz.func156 fun x => f156_run K x.1 x.2.1
theorem f156_runs : Runs Tryz.prog 156 := runsB_ok (by kernel_rfl)
theorem f93_ok (K : Nat) : Sound Tryz.prog 93 (f93M K) :=
  sound_fn (envOK (E := (f93E K)) tab_ok mixed_ok (AllOK.cons (f156_ok K) f156_runs (AllOK.cons (f157_ok K) f157_runs AllOK.nil)) AllP.nil AllN.nil) Tryz.func93 fun x => f93_run K x.1 x.2.1 x.2.2.1
theorem f93_runs : Runs Tryz.prog 93 := runsB_ok (by kernel_rfl)
theorem f70_ok (K : Nat) : Sound Tryz.prog 70 (f70M K) :=
  sound_fn (envOK (E := (f70E K)) tab_ok mixed_ok (AllOK.cons (f93_ok K) f93_runs (AllOK.cons (f138_ok K) f138_runs (AllOK.cons (f139_ok K) f139_runs (AllOK.cons (f140_ok K) f140_runs AllOK.nil)))) AllP.nil AllN.nil) Tryz.func70 fun x => f70_run K x.1
theorem f70_runs : Runs Tryz.prog 70 := runsB_ok (by kernel_rfl)
theorem f198_ok (K : Nat) : Sound Tryz.prog 198 (f198M K) :=
  sound_fn (envOK (E := (f198E K)) tab_ok mixed_ok AllOK.nil AllP.nil AllN.nil) Tryz.func198 fun x => f198_run K x.1
theorem f198_runs : Runs Tryz.prog 198 := runsB_ok (by kernel_rfl)
theorem f108_ok (K : Nat) : Sound Tryz.prog 108 (f108M K) :=
  sound_fn (envOK (E := (f108E K)) tab_ok mixed_ok AllOK.nil AllP.nil AllN.nil) Tryz.func108 fun x => f108_run K x.1
theorem f108_runs : Runs Tryz.prog 108 := runsB_ok (by kernel_rfl)
theorem f199_ok (K : Nat) : Sound Tryz.prog 199 (f199M K) :=
  sound_fn (envOK (E := (f199E K)) tab_ok mixed_ok AllOK.nil AllP.nil AllN.nil) Tryz.func199 fun x => f199_run K 
theorem f199_runs : Runs Tryz.prog 199 := runsB_ok (by kernel_rfl)
theorem f206_ok (K : Nat) : Sound Tryz.prog 206 (f206M K) :=
  sound_fn (envOK (E := (f206E K)) tab_ok mixed_ok AllOK.nil AllP.nil AllN.nil) Tryz.func206 fun x => f206_run K x.1 x.2.1
theorem f206_runs : Runs Tryz.prog 206 := runsB_ok (by kernel_rfl)
theorem f174_ok (K : Nat) : Sound Tryz.prog 174 (f174M K) :=
  sound_fn (envOK (E := (f174E K)) tab_ok mixed_ok AllOK.nil AllP.nil AllN.nil) Tryz.func174 fun x => f174_run K x.1 x.2.1
theorem f174_runs : Runs Tryz.prog 174 := runsB_ok (by kernel_rfl)
theorem f207_ok (K : Nat) : Sound Tryz.prog 207 (f207M K) :=
  sound_fn (envOK (E := (f207E K)) tab_ok mixed_ok (AllOK.cons (f174_ok K) f174_runs (AllOK.cons (f206_ok K) f206_runs AllOK.nil)) AllP.nil AllN.nil) Tryz.func207 fun x => f207_run K x.1 x.2.1
theorem f207_runs : Runs Tryz.prog 207 := runsB_ok (by kernel_rfl)
theorem f183_ok (K : Nat) : Sound Tryz.prog 183 (f183M K) :=
  sound_fn (envOK (E := (f183E K)) tab_ok mixed_ok AllOK.nil AllP.nil AllN.nil) Tryz.func183 fun x => f183_run K x.1 x.2.1
theorem f183_runs : Runs Tryz.prog 183 := runsB_ok (by kernel_rfl)
theorem f119_ok (K : Nat) : Sound Tryz.prog 119 (f119M K) :=
  sound_fn (envOK (E := (f119E K)) tab_ok mixed_ok (AllOK.cons (f183_ok K) f183_runs AllOK.nil) AllP.nil AllN.nil) Tryz.func119 fun x => f119_run K x.1 x.2.1
theorem f119_runs : Runs Tryz.prog 119 := runsB_ok (by kernel_rfl)
theorem f82_ok (K : Nat) : Sound Tryz.prog 82 (f82M K) :=
  sound_fn (envOK (E := (f82E K)) tab_ok mixed_ok AllOK.nil AllP.nil AllN.nil) Tryz.func82 fun x => f82_run K x.1 x.2.1
theorem f82_runs : Runs Tryz.prog 82 := runsB_ok (by kernel_rfl)
theorem f125_ok (K : Nat) : Sound Tryz.prog 125 (f125M K) :=
  sound_fn (envOK (E := (f125E K)) tab_ok mixed_ok (AllOK.cons (f82_ok K) f82_runs (AllOK.cons (f119_ok K) f119_runs AllOK.nil)) AllP.nil AllN.nil) Tryz.func125 fun x => f125_run K x.1 x.2.1
theorem f125_runs : Runs Tryz.prog 125 := runsB_ok (by kernel_rfl)
theorem f145_ok (K : Nat) : Sound Tryz.prog 145 (f145M K) :=
  sound_fn (envOK (E := (f145E K)) tab_ok mixed_ok (AllOK.cons (f108_ok K) f108_runs (AllOK.cons (f125_ok K) f125_runs (AllOK.cons (f207_ok K) f207_runs AllOK.nil))) AllP.nil AllN.nil) Tryz.func145 fun x => f145_run K x.1 x.2.1
theorem f145_runs : Runs Tryz.prog 145 := runsB_ok (by kernel_rfl)
theorem f245_ok (K : Nat) : Sound Tryz.prog 245 (f245M K) :=
  sound_fn (envOK (E := (f245E K)) tab_ok mixed_ok AllOK.nil AllP.nil AllN.nil) Tryz.func245 fun x => f245_run K x.1 x.2.1
theorem f245_runs : Runs Tryz.prog 245 := runsB_ok (by kernel_rfl)
theorem f246_ok (K : Nat) : Sound Tryz.prog 246 (f246M K) :=
  sound_fn (envOK (E := (f246E K)) tab_ok mixed_ok AllOK.nil AllP.nil AllN.nil) Tryz.func246 fun x => f246_run K x.1 x.2.1
theorem f246_runs : Runs Tryz.prog 246 := runsB_ok (by kernel_rfl)
theorem f200_ok (K : Nat) : Sound Tryz.prog 200 (f200M K) :=
  sound_fn (envOK (E := (f200E K)) tab_ok mixed_ok (AllOK.cons (f174_ok K) f174_runs (AllOK.cons (f183_ok K) f183_runs (AllOK.cons (f245_ok K) f245_runs (AllOK.cons (f246_ok K) f246_runs AllOK.nil)))) AllP.nil AllN.nil) Tryz.func200 fun x => f200_run K x.1
theorem f200_runs : Runs Tryz.prog 200 := runsB_ok (by kernel_rfl)
theorem f142_ok (K : Nat) : Sound Tryz.prog 142 (f142M K) :=
  sound_fn (envOK (E := (f142E K)) tab_ok mixed_ok (AllOK.cons (f108_ok K) f108_runs (AllOK.cons (f145_ok K) f145_runs (AllOK.cons (f198_ok K) f198_runs (AllOK.cons (f199_ok K) f199_runs (AllOK.cons (f200_ok K) f200_runs AllOK.nil))))) AllP.nil AllN.nil) Tryz.func142 fun x => f142_run K x.1
theorem f142_runs : Runs Tryz.prog 142 := runsB_ok (by kernel_rfl)
theorem f141_ok (K : Nat) : Sound Tryz.prog 141 (f141M K) :=
  sound_fn (envOK (E := (f141E K)) tab_ok mixed_ok (AllOK.cons (f108_ok K) f108_runs (AllOK.cons (f125_ok K) f125_runs AllOK.nil)) AllP.nil AllN.nil) Tryz.func141 fun x => f141_run K x.1 x.2.1
theorem f141_runs : Runs Tryz.prog 141 := runsB_ok (by kernel_rfl)
theorem f71_ok (K : Nat) : Sound Tryz.prog 71 (f71M K) :=
  sound_fn (envOK (E := (f71E K)) tab_ok mixed_ok (AllOK.cons (f141_ok K) f141_runs (AllOK.cons (f142_ok K) f142_runs AllOK.nil)) AllP.nil AllN.nil) Tryz.func71 fun x => f71_run K x.1
theorem f71_runs : Runs Tryz.prog 71 := runsB_ok (by kernel_rfl)
theorem f250_ok (K : Nat) : Sound Tryz.prog 250 (f250M K) :=
  sound_fn (envOK (E := (f250E K)) tab_ok mixed_ok AllOK.nil AllP.nil AllN.nil) Tryz.func250 fun x => f250_run K x.1 x.2.1
theorem f250_runs : Runs Tryz.prog 250 := runsB_ok (by kernel_rfl)
theorem f203_ok (K : Nat) : Sound Tryz.prog 203 (f203M K) :=
  sound_fn (envOK (E := (f203E K)) tab_ok mixed_ok (AllOK.cons (f206_ok K) f206_runs (AllOK.cons (f250_ok K) f250_runs AllOK.nil)) AllP.nil AllN.nil) Tryz.func203 fun x => f203_run K x.1
theorem f203_runs : Runs Tryz.prog 203 := runsB_ok (by kernel_rfl)
theorem f205_ok (K : Nat) : Sound Tryz.prog 205 (f205M K) :=
  sound_fn (envOK (E := (f205E K)) tab_ok mixed_ok (AllOK.cons (f119_ok K) f119_runs AllOK.nil) AllP.nil AllN.nil) Tryz.func205 fun x => f205_run K x.1 x.2.1
theorem f205_runs : Runs Tryz.prog 205 := runsB_ok (by kernel_rfl)
theorem f204_ok (K : Nat) : Sound Tryz.prog 204 (f204M K) :=
  sound_fn (envOK (E := (f204E K)) tab_ok mixed_ok (AllOK.cons (f205_ok K) f205_runs (AllOK.cons (f206_ok K) f206_runs AllOK.nil)) AllP.nil AllN.nil) Tryz.func204 fun x => f204_run K x.1 x.2.1 x.2.2.1 x.2.2.2.1
theorem f204_runs : Runs Tryz.prog 204 := runsB_ok (by kernel_rfl)
theorem f249_ok (K : Nat) : Sound Tryz.prog 249 (f249M K) :=
  sound_fn (envOK (E := (f249E K)) tab_ok mixed_ok AllOK.nil AllP.nil AllN.nil) Tryz.func249 fun x => f249_run K x.1 x.2.1
theorem f249_runs : Runs Tryz.prog 249 := runsB_ok (by kernel_rfl)
theorem f202_ok (K : Nat) : Sound Tryz.prog 202 (f202M K) :=
  sound_fn (envOK (E := (f202E K)) tab_ok mixed_ok (AllOK.cons (f249_ok K) f249_runs AllOK.nil) AllP.nil AllN.nil) Tryz.func202 fun x => f202_run K x.1 x.2.1
theorem f202_runs : Runs Tryz.prog 202 := runsB_ok (by kernel_rfl)
theorem f144_ok (K : Nat) : Sound Tryz.prog 144 (f144M K) :=
  sound_fn (envOK (E := (f144E K)) tab_ok mixed_ok (AllOK.cons (f198_ok K) f198_runs (AllOK.cons (f202_ok K) f202_runs (AllOK.cons (f203_ok K) f203_runs (AllOK.cons (f204_ok K) f204_runs AllOK.nil)))) AllP.nil AllN.nil) Tryz.func144 fun x => f144_run K x.1 x.2.1
theorem f144_runs : Runs Tryz.prog 144 := runsB_ok (by kernel_rfl)
theorem f73_ok (K : Nat) : Sound Tryz.prog 73 (f73M K) :=
  sound_fn (envOK (E := (f73E K)) tab_ok mixed_ok (AllOK.cons (f108_ok K) f108_runs (AllOK.cons (f144_ok K) f144_runs (AllOK.cons (f145_ok K) f145_runs AllOK.nil))) AllP.nil AllN.nil) Tryz.func73 fun x => f73_run K x.1
theorem f73_runs : Runs Tryz.prog 73 := runsB_ok (by kernel_rfl)
def f201_ren : Go.Shelf.Ren := ⟨fun | 212 => 201 | 263 => 247 | 264 => 248 | n => n, fun | 46 => 182 | 51 => 227 | 53 => 229 | 146 => 244 | 148 => 246 | n => n, fun n => n⟩
theorem f201_lays : Lays.n212 Tryz.prog f201_ren where
  mixed := by kernel_rfl
  f212 := Tryz.func201.trans (congrArg some (by kernel_rfl))
  f263 := Tryz.func247.trans (congrArg some (by kernel_rfl))
  f264 := Tryz.func248.trans (congrArg some (by kernel_rfl))
  t46 := Tryz.underlying182
  a46 := Tryz.isAgg182
  z46 := Tryz.sizeOf182
  v46 := Tryz.zeroValue182
  t51 := Tryz.underlying227
  a51 := Tryz.isAgg227
  z51 := Tryz.sizeOf227
  v51 := Tryz.zeroValue227
  t53 := Tryz.underlying229
  a53 := Tryz.isAgg229
  z53 := Tryz.sizeOf229
  v53 := Tryz.zeroValue229
  t146 := Tryz.underlying244
  a146 := Tryz.isAgg244
  z146 := Tryz.sizeOf244
  v146 := Tryz.zeroValue244
  t148 := Tryz.underlying246
  a148 := Tryz.isAgg246
  z148 := Tryz.sizeOf246
  v148 := Tryz.zeroValue246
theorem f201_ok (K : Nat) : Sound Tryz.prog 201 (f201M K) := mul_sound f201_lays rfl
theorem f201_runs : Runs Tryz.prog 201 := runsB_ok (by kernel_rfl)
theorem f143_ok (K : Nat) : Sound Tryz.prog 143 (f143M K) :=
  sound_fn (envOK (E := (f143E K)) tab_ok mixed_ok (AllOK.cons (f201_ok K) f201_runs AllOK.nil) AllP.nil AllN.nil) Tryz.func143 fun x => f143_run K x.1 x.2.1
theorem f143_runs : Runs Tryz.prog 143 := runsB_ok (by kernel_rfl)
theorem f150_ok (K : Nat) : Sound Tryz.prog 150 (f150M K) :=
  sound_fn (envOK (E := (f150E K)) tab_ok mixed_ok (AllOK.cons (f119_ok K) f119_runs (AllOK.cons (f207_ok K) f207_runs AllOK.nil)) AllP.nil AllN.nil) Tryz.func150 fun x => f150_run K x.1 x.2.1 x.2.2.1
theorem f150_runs : Runs Tryz.prog 150 := runsB_ok (by kernel_rfl)
theorem f179_ok (K : Nat) : Sound Tryz.prog 179 (f179M K) :=
  sound_fn (envOK (E := (f179E K)) tab_ok mixed_ok AllOK.nil AllP.nil AllN.nil) Tryz.func179 fun x => f179_run K x.1 x.2.1
theorem f179_runs : Runs Tryz.prog 179 := runsB_ok (by kernel_rfl)
theorem f111_ok (K : Nat) : Sound Tryz.prog 111 (f111M K) :=
  sound_fn (envOK (E := (f111E K)) tab_ok mixed_ok (AllOK.cons (f179_ok K) f179_runs AllOK.nil) AllP.nil AllN.nil) Tryz.func111 fun x => f111_run K x.1 x.2.1
theorem f111_runs : Runs Tryz.prog 111 := runsB_ok (by kernel_rfl)
def f110_ren : Go.Shelf.Ren := ⟨fun | 6 => 110 | 14 => 177 | 15 => 178 | 20 => 228 | 21 => 229 | 22 => 230 | 23 => 231 | 24 => 232 | 25 => 233 | 26 => 234 | 27 => 235 | 28 => 236 | 29 => 237 | 46 => 267 | 47 => 268 | 48 => 269 | 49 => 270 | 50 => 271 | 57 => 280 | n => n, fun | 0 => 0 | 3 => 3 | 4 => 4 | 5 => 5 | 9 => 9 | 22 => 72 | 24 => 53 | 25 => 145 | 39 => 182 | 45 => 232 | 46 => 233 | 50 => 237 | 53 => 227 | 55 => 229 | 66 => 260 | 70 => 264 | 76 => 270 | 77 => 271 | n => n, fun n => n⟩
theorem f110_lays : SlLaysF0.n6 Tryz.prog f110_ren where
  mixed := by kernel_rfl
  f6 := ⟨ "slices.SortFunc[[]loop.example/g00943/impl.Vec,loop.example/g00943/impl.Vec]", by decide, Tryz.func110.trans (congrArg some (by kernel_rfl))⟩
  f14 := ⟨ "slices.pdqsortCmpFunc[loop.example/g00943/impl.Vec]", by decide, Tryz.func177.trans (congrArg some (by kernel_rfl))⟩
  f15 := Tryz.func178.trans (congrArg some (by kernel_rfl))
  f20 := ⟨ "slices.insertionSortCmpFunc[loop.example/g00943/impl.Vec]", by decide, Tryz.func228.trans (congrArg some (by kernel_rfl))⟩
  f21 := ⟨ "slices.heapSortCmpFunc[loop.example/g00943/impl.Vec]", by decide, Tryz.func229.trans (congrArg some (by kernel_rfl))⟩
  f22 := ⟨ "slices.breakPatternsCmpFunc[loop.example/g00943/impl.Vec]", by decide, Tryz.func230.trans (congrArg some (by kernel_rfl))⟩
  f23 := ⟨ "slices.choosePivotCmpFunc[loop.example/g00943/impl.Vec]", by decide, Tryz.func231.trans (congrArg some (by kernel_rfl))⟩
  f24 := ⟨ "slices.reverseRangeCmpFunc[loop.example/g00943/impl.Vec]", by decide, Tryz.func232.trans (congrArg some (by kernel_rfl))⟩
  f25 := ⟨ "slices.partialInsertionSortCmpFunc[loop.example/g00943/impl.Vec]", by decide, Tryz.func233.trans (congrArg some (by kernel_rfl))⟩
  f26 := ⟨ "slices.partitionEqualCmpFunc[loop.example/g00943/impl.Vec]", by decide, Tryz.func234.trans (congrArg some (by kernel_rfl))⟩
  f27 := ⟨ "slices.partitionCmpFunc[loop.example/g00943/impl.Vec]", by decide, Tryz.func235.trans (congrArg some (by kernel_rfl))⟩
  f28 := Tryz.func236.trans (congrArg some (by kernel_rfl))
  f29 := Tryz.func237.trans (congrArg some (by kernel_rfl))
  f46 := ⟨ "slices.siftDownCmpFunc[loop.example/g00943/impl.Vec]", by decide, Tryz.func267.trans (congrArg some (by kernel_rfl))⟩
  f47 := Tryz.func268.trans (congrArg some (by kernel_rfl))
  f48 := Tryz.func269.trans (congrArg some (by kernel_rfl))
  f49 := ⟨ "slices.medianAdjacentCmpFunc[loop.example/g00943/impl.Vec]", by decide, Tryz.func270.trans (congrArg some (by kernel_rfl))⟩
  f50 := ⟨ "slices.medianCmpFunc[loop.example/g00943/impl.Vec]", by decide, Tryz.func271.trans (congrArg some (by kernel_rfl))⟩
  f57 := ⟨ "slices.order2CmpFunc[loop.example/g00943/impl.Vec]", by decide, Tryz.func280.trans (congrArg some (by kernel_rfl))⟩
  t0 := Tryz.underlying0
  a0 := Tryz.isAgg0
  z0 := Tryz.sizeOf0
  v0 := Tryz.zeroValue0
  t3 := Tryz.underlying3
  a3 := Tryz.isAgg3
  z3 := Tryz.sizeOf3
  v3 := Tryz.zeroValue3
  t4 := Tryz.underlying4
  a4 := Tryz.isAgg4
  z4 := Tryz.sizeOf4
  v4 := Tryz.zeroValue4
  t5 := Tryz.underlying5
  a5 := Tryz.isAgg5
  z5 := Tryz.sizeOf5
  v5 := Tryz.zeroValue5
  t9 := Tryz.underlying9
  a9 := Tryz.isAgg9
  z9 := Tryz.sizeOf9
  v9 := Tryz.zeroValue9
  t22 := Tryz.underlying72
  a22 := Tryz.isAgg72
  z22 := Tryz.sizeOf72
  v22 := Tryz.zeroValue72
  t25 := Tryz.underlying145
  a25 := Tryz.isAgg145
  z25 := Tryz.sizeOf145
  v25 := Tryz.zeroValue145
  t39 := Tryz.underlying182
  a39 := Tryz.isAgg182
  z39 := Tryz.sizeOf182
  v39 := Tryz.zeroValue182
  t45 := Tryz.underlying232
  a45 := Tryz.isAgg232
  z45 := Tryz.sizeOf232
  v45 := Tryz.zeroValue232
  t46 := Tryz.underlying233
  a46 := Tryz.isAgg233
  z46 := Tryz.sizeOf233
  v46 := Tryz.zeroValue233
  t50 := Tryz.underlying237
  a50 := Tryz.isAgg237
  z50 := Tryz.sizeOf237
  v50 := Tryz.zeroValue237
  t53 := Tryz.underlying227
  a53 := Tryz.isAgg227
  z53 := Tryz.sizeOf227
  v53 := Tryz.zeroValue227
  t55 := Tryz.underlying229
  a55 := Tryz.isAgg229
  z55 := Tryz.sizeOf229
  v55 := Tryz.zeroValue229
  t66 := Tryz.underlying260
  a66 := Tryz.isAgg260
  z66 := Tryz.sizeOf260
  v66 := Tryz.zeroValue260
  t70 := Tryz.underlying264
  a70 := Tryz.isAgg264
  z70 := Tryz.sizeOf264
  v70 := Tryz.zeroValue264
  t76 := Tryz.underlying270
  a76 := Tryz.isAgg270
  z76 := Tryz.sizeOf270
  v76 := Tryz.zeroValue270
  t77 := Tryz.underlying271
  a77 := Tryz.isAgg271
  z77 := Tryz.sizeOf271
  v77 := Tryz.zeroValue271
theorem f110_ok (K : Nat) : Sound Tryz.prog 110 (f110M K) := sort_sound (e := 53) (s := (.cons (.int .i64) (.int .i64))) f110_lays rfl rfl rfl Tryz.isAgg53 Tryz.sizeOf53
theorem f110_runs : Runs Tryz.prog 110 := runsB_ok (by kernel_rfl)
theorem f151_ok (K : Nat) : Sound Tryz.prog 151 (f151M K) :=
  sound_fn (envOK (E := (f151E K)) tab_ok mixed_ok AllOK.nil AllP.nil AllN.nil) Tryz.func151 fun x => f151_run K x.1
theorem f151_runs : Runs Tryz.prog 151 := runsB_ok (by kernel_rfl)
theorem f80_ok (K : Nat) : Sound Tryz.prog 80 (f80M K) :=
  sound_fn (envOK (E := (f80E K)) tab_ok mixed_ok (AllOK.cons (f110_ok K) f110_runs (AllOK.cons (f111_ok K) f111_runs (AllOK.cons (f150_ok K) f150_runs (AllOK.cons (f151_ok K) f151_runs AllOK.nil)))) AllP.nil AllN.nil) Tryz.func80 fun x => f80_run K x.1 x.2.1 x.2.2.1
theorem f80_runs : Runs Tryz.prog 80 := runsB_ok (by kernel_rfl)
theorem f72_ok (K : Nat) : Sound Tryz.prog 72 (f72M K) :=
  sound_fn (envOK (E := (f72E K)) tab_ok mixed_ok (AllOK.cons (f80_ok K) f80_runs (AllOK.cons (f82_ok K) f82_runs (AllOK.cons (f108_ok K) f108_runs (AllOK.cons (f140_ok K) f140_runs (AllOK.cons (f143_ok K) f143_runs AllOK.nil))))) AllP.nil AllN.nil) Tryz.func72 fun x => f72_run K x.1 x.2.1
theorem f72_runs : Runs Tryz.prog 72 := runsB_ok (by kernel_rfl)
theorem f22_ok (K : Nat) : Sound Tryz.prog 22 (f22M K) :=
  sound_fn (envOK (E := (f22E K)) tab_ok mixed_ok (AllOK.cons (f70_ok K) f70_runs (AllOK.cons (f71_ok K) f71_runs (AllOK.cons (f72_ok K) f72_runs (AllOK.cons (f73_ok K) f73_runs AllOK.nil)))) AllP.nil AllN.nil) Tryz.func22 fun x => f22_run K x.1
theorem f22_runs : Runs Tryz.prog 22 := runsB_ok (by kernel_rfl)
theorem f112_ok (K : Nat) : Sound Tryz.prog 112 (f112M K) :=
  sound_fn (envOK (E := (f112E K)) tab_ok mixed_ok AllOK.nil AllP.nil AllN.nil) Tryz.func112 fun x => f112_run K x.1 x.2.1
theorem f112_runs : Runs Tryz.prog 112 := runsB_ok (by kernel_rfl)
theorem f47_ok (K : Nat) : Sound Tryz.prog 47 (f47M K) :=
  sound_fn (envOK (E := (f47E K)) tab_ok mixed_ok (AllOK.cons (f112_ok K) f112_runs AllOK.nil) AllP.nil AllN.nil) Tryz.func47 fun x => f47_run K x.1 x.2.1
theorem f47_runs : Runs Tryz.prog 47 := runsB_ok (by kernel_rfl)
theorem f23_ok (K : Nat) : Sound Tryz.prog 23 (f23M K) :=
  sound_fn (envOK (E := (f23E K)) tab_ok mixed_ok (AllOK.cons (f47_ok K) f47_runs AllOK.nil) AllP.nil AllN.nil) Tryz.func23 fun x => f23_run K x.1 x.2.1
theorem f23_runs : Runs Tryz.prog 23 := runsB_ok (by kernel_rfl)
theorem f74_ok (K : Nat) : Sound Tryz.prog 74 (f74M K) :=
  sound_fn (envOK (E := (f74E K)) tab_ok mixed_ok AllOK.nil AllP.nil AllN.nil) Tryz.func74 fun x => f74_run K x.1 x.2.1
theorem f74_runs : Runs Tryz.prog 74 := runsB_ok (by kernel_rfl)
theorem f41_ok (K : Nat) : Sound Tryz.prog 41 (f41M K) :=
  sound_fn (envOK (E := (f41E K)) tab_ok mixed_ok AllOK.nil AllP.nil AllN.nil) Tryz.func41 fun x => f41_run K x.1 x.2.1
theorem f41_runs : Runs Tryz.prog 41 := runsB_ok (by kernel_rfl)
theorem f24_ok (K : Nat) : Sound Tryz.prog 24 (f24M K) :=
  sound_fn (envOK (E := (f24E K)) tab_ok mixed_ok (AllOK.cons (f41_ok K) f41_runs (AllOK.cons (f74_ok K) f74_runs AllOK.nil)) AllP.nil AllN.nil) Tryz.func24 fun x => f24_run K x.1 x.2.1
theorem f24_runs : Runs Tryz.prog 24 := runsB_ok (by kernel_rfl)
theorem f42_ok (K : Nat) : Sound Tryz.prog 42 (f42M K) :=
  sound_fn (envOK (E := (f42E K)) tab_ok mixed_ok AllOK.nil AllP.nil AllN.nil) Tryz.func42 fun x => f42_run K x.1 x.2.1
theorem f42_runs : Runs Tryz.prog 42 := runsB_ok (by kernel_rfl)
theorem f25_ok (K : Nat) : Sound Tryz.prog 25 (f25M K) :=
  sound_fn (envOK (E := (f25E K)) tab_ok mixed_ok (AllOK.cons (f42_ok K) f42_runs AllOK.nil) AllP.nil AllN.nil) Tryz.func25 fun x => f25_run K x.1 x.2.1
theorem f25_runs : Runs Tryz.prog 25 := runsB_ok (by kernel_rfl)
theorem f48_ok (K : Nat) : Sound Tryz.prog 48 (f48M K) :=
  sound_fn (envOK (E := (f48E K)) tab_ok mixed_ok AllOK.nil AllP.nil AllN.nil) Tryz.func48 fun x => f48_run K x.1 x.2.1
theorem f48_runs : Runs Tryz.prog 48 := runsB_ok (by kernel_rfl)
theorem f26_ok (K : Nat) : Sound Tryz.prog 26 (f26M K) :=
  sound_fn (envOK (E := (f26E K)) tab_ok mixed_ok (AllOK.cons (f48_ok K) f48_runs AllOK.nil) AllP.nil AllN.nil) Tryz.func26 fun x => f26_run K x.1 x.2.1
theorem f26_runs : Runs Tryz.prog 26 := runsB_ok (by kernel_rfl)
theorem f49_ok (K : Nat) : Sound Tryz.prog 49 (f49M K) :=
  sound_fn (envOK (E := (f49E K)) tab_ok mixed_ok AllOK.nil AllP.nil AllN.nil) Tryz.func49 fun x => f49_run K x.1 x.2.1
theorem f49_runs : Runs Tryz.prog 49 := runsB_ok (by kernel_rfl)
theorem f27_ok (K : Nat) : Sound Tryz.prog 27 (f27M K) :=
  sound_fn (envOK (E := (f27E K)) tab_ok mixed_ok (AllOK.cons (f49_ok K) f49_runs AllOK.nil) AllP.nil AllN.nil) Tryz.func27 fun x => f27_run K x.1 x.2.1
theorem f27_runs : Runs Tryz.prog 27 := runsB_ok (by kernel_rfl)
theorem f4_ok (K : Nat) : Sound Tryz.prog 4 (f4M K) :=
  sound_fn (envOK (E := (f4E K)) tab_ok mixed_ok (AllOK.cons (f19_ok K) f19_runs (AllOK.cons (f20_ok K) f20_runs (AllOK.cons (f21_ok K) f21_runs (AllOK.cons (f22_ok K) f22_runs (AllOK.cons (f23_ok K) f23_runs (AllOK.cons (f24_ok K) f24_runs (AllOK.cons (f25_ok K) f25_runs (AllOK.cons (f26_ok K) f26_runs (AllOK.cons (f27_ok K) f27_runs AllOK.nil))))))))) AllP.nil AllN.nil) Tryz.func4 fun x => f4_run K x.1
theorem f4_runs : Runs Tryz.prog 4 := runsB_ok (by kernel_rfl)
end Go.Proofs.YtmnciknpeefkfaaGreat.X
