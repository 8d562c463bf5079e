/- Functions of the program as plain Lean functions, and that the program does what they say. Printed by gen.py. -/
import Derived.Test.YthlldmfkdcmcfaaGreatR0
import Derived.Test.YthlldmfkdcmcfaaGreatR1
import Derived.Test.YthlldmfkdcmcfaaGreatR2
namespace Go.Proofs.YthlldmfkdcmcfaaGreat.X
open Go
set_option maxRecDepth 100000
set_option linter.unusedVariables false
theorem f13_ok (K : Nat) : Sound Tryz.prog 13 (f13M K) :=
  sound_fn (envOK (E := (f13E K)) tab_ok mixed_ok AllOK.nil) Tryz.func13 fun x => f13_run K x.1 x.2.1
theorem f13_runs : Runs Tryz.prog 13 := runsB_ok (by kernel_rfl)
theorem f16_ok (K : Nat) : Sound Tryz.prog 16 (f16M K) :=
  sound_fn (envOK (E := (f16E K)) tab_ok mixed_ok AllOK.nil) Tryz.func16 fun x => f16_run K x.1
theorem f16_runs : Runs Tryz.prog 16 := runsB_ok (by kernel_rfl)
theorem f112_ok (K : Nat) : Sound Tryz.prog 112 (f112M K) :=
  sound_fn (envOK (E := (f112E K)) tab_ok mixed_ok AllOK.nil) Tryz.func112 fun x => f112_run K x.1
theorem f112_runs : Runs Tryz.prog 112 := runsB_ok (by kernel_rfl)
theorem f19_ok (K : Nat) : Sound Tryz.prog 19 (f19M K) :=
  sound_fn (envOK (E := (f19E K)) tab_ok mixed_ok AllOK.nil) Tryz.func19 fun x => f19_run K x.1
theorem f19_runs : Runs Tryz.prog 19 := runsB_ok (by kernel_rfl)
theorem f70_ok (K : Nat) : Sound Tryz.prog 70 (f70M K) :=
  sound_fn (envOK (E := (f70E K)) tab_ok mixed_ok (AllOK.cons (f19_ok K) f19_runs (AllOK.cons (f112_ok K) f112_runs AllOK.nil))) Tryz.func70 fun x => f70_run K x.1
theorem f70_runs : Runs Tryz.prog 70 := runsB_ok (by kernel_rfl)
theorem f17_ok (K : Nat) : Sound Tryz.prog 17 (f17M K) :=
  sound_fn (envOK (E := (f17E K)) tab_ok mixed_ok (AllOK.cons (f70_ok K) f70_runs AllOK.nil)) Tryz.func17 fun x => f17_run K x.1
theorem f17_runs : Runs Tryz.prog 17 := runsB_ok (by kernel_rfl)
theorem f108_ok (K : Nat) : Sound Tryz.prog 108 (f108M K) :=
  sound_fn (envOK (E := (f108E K)) tab_ok mixed_ok AllOK.nil) Tryz.func108 fun x => f108_run K x.1 x.2.1 x.2.2.1
theorem f108_runs : Runs Tryz.prog 108 := runsB_ok (by kernel_rfl)
theorem f66_ok (K : Nat) : Sound Tryz.prog 66 (f66M K) :=
  sound_fn (envOK (E := (f66E K)) tab_ok mixed_ok (AllOK.cons (f108_ok K) f108_runs AllOK.nil)) Tryz.func66 fun x => f66_run K x.1 x.2.1
theorem f66_runs : Runs Tryz.prog 66 := runsB_ok (by kernel_rfl)
theorem f154_ok (K : Nat) : Sound Tryz.prog 154 (f154M K) :=
  sound_fn (envOK (E := (f154E K)) tab_ok mixed_ok AllOK.nil) Tryz.func154 fun x => f154_run K x.1
theorem f154_runs : Runs Tryz.prog 154 := runsB_ok (by kernel_rfl)
theorem f155_ok (K : Nat) : Sound Tryz.prog 155 (f155M K) :=
  sound_fn (envOK (E := (f155E K)) tab_ok mixed_ok (AllOK.cons (f108_ok K) f108_runs AllOK.nil)) Tryz.func155 fun x => f155_run K x.1
theorem f155_runs : Runs Tryz.prog 155 := runsB_ok (by kernel_rfl)
theorem f106_ok (K : Nat) : Sound Tryz.prog 106 (f106M K) :=
  sound_fn (envOK (E := (f106E K)) tab_ok mixed_ok (AllOK.cons (f154_ok K) f154_runs (AllOK.cons (f155_ok K) f155_runs AllOK.nil))) Tryz.func106 fun x => f106_run K x.1 x.2.1
theorem f106_runs : Runs Tryz.prog 106 := runsB_ok (by kernel_rfl)
theorem f156_ok (K : Nat) : Sound Tryz.prog 156 (f156M K) :=
  sound_fn (envOK (E := (f156E K)) tab_ok mixed_ok (AllOK.cons (f108_ok K) f108_runs AllOK.nil)) Tryz.func156 fun x => f156_run K x.1
theorem f156_runs : Runs Tryz.prog 156 := runsB_ok (by kernel_rfl)
theorem f252_ok (K : Nat) : Sound Tryz.prog 252 (f252M K) :=
  sound_fn (envOK (E := (f252E K)) tab_ok mixed_ok (AllOK.cons (f156_ok K) f156_runs AllOK.nil)) Tryz.func252 fun x => f252_run K x.1
theorem f252_runs : Runs Tryz.prog 252 := runsB_ok (by kernel_rfl)
theorem f99_ok (K : Nat) : Sound Tryz.prog 99 (f99M K) :=
  sound_fn (envOK (E := (f99E K)) tab_ok mixed_ok AllOK.nil) Tryz.func99 fun x => f99_run K x.1
theorem f99_runs : Runs Tryz.prog 99 := runsB_ok (by kernel_rfl)
theorem f241_ok (K : Nat) : Sound Tryz.prog 241 (f241M K) :=
  sound_fn (envOK (E := (f241E K)) tab_ok mixed_ok (AllOK.cons (f99_ok K) f99_runs (AllOK.cons (f252_ok K) f252_runs AllOK.nil))) Tryz.func241 fun x => f241_run K x.1
theorem f241_runs : Runs Tryz.prog 241 := runsB_ok (by kernel_rfl)
theorem f251_ok (K : Nat) : Sound Tryz.prog 251 (f251M K) :=
  sound_fn (envOK (E := (f251E K)) tab_ok mixed_ok AllOK.nil) Tryz.func251 fun x => f251_run K x.1 x.2.1
theorem f251_runs : Runs Tryz.prog 251 := runsB_ok (by kernel_rfl)
theorem f159_ok (K : Nat) : Sound Tryz.prog 159 (f159M K) :=
  sound_fn (envOK (E := (f159E K)) tab_ok mixed_ok AllOK.nil) Tryz.func159 fun x => f159_run K x.1 x.2.1
theorem f159_runs : Runs Tryz.prog 159 := runsB_ok (by kernel_rfl)
theorem f235_ok (K : Nat) : Sound Tryz.prog 235 (f235M K) :=
  sound_fn (envOK (E := (f235E K)) tab_ok mixed_ok (AllOK.cons (f159_ok K) f159_runs (AllOK.cons (f251_ok K) f251_runs AllOK.nil))) Tryz.func235 fun x => f235_run K x.1 x.2.1
theorem f235_runs : Runs Tryz.prog 235 := runsB_ok (by kernel_rfl)
theorem f213_ok (K : Nat) : Sound Tryz.prog 213 (f213M K) :=
  sound_fn (envOK (E := (f213E K)) tab_ok mixed_ok (AllOK.cons (f154_ok K) f154_runs (AllOK.cons (f235_ok K) f235_runs (AllOK.cons (f241_ok K) f241_runs AllOK.nil)))) Tryz.func213 fun x => f213_run K x.1 x.2.1
theorem f213_runs : Runs Tryz.prog 213 := runsB_ok (by kernel_rfl)
theorem f195_ok (K : Nat) : Sound Tryz.prog 195 (f195M K) :=
  sound_fn (envOK (E := (f195E K)) tab_ok mixed_ok AllOK.nil) Tryz.func195 fun x => f195_run K x.1
theorem f195_runs : Runs Tryz.prog 195 := runsB_ok (by kernel_rfl)
theorem f160_ok (K : Nat) : Sound Tryz.prog 160 (f160M K) :=
  sound_fn (envOK (E := (f160E K)) tab_ok mixed_ok AllOK.nil) Tryz.func160 fun x => f160_run K x.1 x.2.1
theorem f160_runs : Runs Tryz.prog 160 := runsB_ok (by kernel_rfl)
theorem f103_runs : Runs Tryz.prog 103 := runsB_ok (by kernel_rfl)
theorem f103_okn (K : Nat) : ∀ n, Sound Tryz.prog 103 ⟨[(.ro, (.int .i64)), (.ro, (.int .i64))], [(.int .i64)], fun x => f103R K n x.1 x.2.1⟩
  | 0 => fun _ _ _ _ _ _ _ h => by cases h
  | n + 1 => sound_fn (envOK (E := f103E K (f103R K n)) tab_ok mixed_ok (AllOK.cons (f103_okn K n) f103_runs AllOK.nil)) Tryz.func103 fun x => f103_run K (f103R K n) x.1 x.2.1
theorem f103_ok (K : Nat) : Sound Tryz.prog 103 (f103M K) := f103_okn K K
theorem f158_ok (K : Nat) : Sound Tryz.prog 158 (f158M K) :=
  sound_fn (envOK (E := (f158E K)) tab_ok mixed_ok AllOK.nil) Tryz.func158 fun x => f158_run K x.1 x.2.1
theorem f158_runs : Runs Tryz.prog 158 := runsB_ok (by kernel_rfl)
theorem f191_ok (K : Nat) : Sound Tryz.prog 191 (f191M K) :=
  sound_fn (envOK (E := (f191E K)) tab_ok mixed_ok AllOK.nil) Tryz.func191 fun x => f191_run K x.1 x.2.1
theorem f191_runs : Runs Tryz.prog 191 := runsB_ok (by kernel_rfl)
theorem f197_ok (K : Nat) : Sound Tryz.prog 197 (f197M K) :=
  sound_fn (envOK (E := (f197E K)) tab_ok mixed_ok (AllOK.cons (f103_ok K) f103_runs (AllOK.cons (f158_ok K) f158_runs (AllOK.cons (f191_ok K) f191_runs AllOK.nil)))) Tryz.func197 fun x => f197_run K x.1
theorem f197_runs : Runs Tryz.prog 197 := runsB_ok (by kernel_rfl)
theorem f199_ok (K : Nat) : Sound Tryz.prog 199 (f199M K) :=
  sound_fn (envOK (E := (f199E K)) tab_ok mixed_ok (AllOK.cons (f160_ok K) f160_runs (AllOK.cons (f195_ok K) f195_runs (AllOK.cons (f197_ok K) f197_runs AllOK.nil)))) Tryz.func199 fun x => f199_run K x.1 x.2.1
theorem f199_runs : Runs Tryz.prog 199 := runsB_ok (by kernel_rfl)
theorem f165_ok (K : Nat) : Sound Tryz.prog 165 (f165M K) :=
  sound_fn (envOK (E := (f165E K)) tab_ok mixed_ok (AllOK.cons (f106_ok K) f106_runs (AllOK.cons (f156_ok K) f156_runs (AllOK.cons (f199_ok K) f199_runs (AllOK.cons (f213_ok K) f213_runs AllOK.nil))))) Tryz.func165 fun x => f165_run K x.1 x.2.1 x.2.2.1
theorem f165_runs : Runs Tryz.prog 165 := runsB_ok (by kernel_rfl)
theorem f110_ok (K : Nat) : Sound Tryz.prog 110 (f110M K) :=
  sound_fn (envOK (E := (f110E K)) tab_ok mixed_ok (AllOK.cons (f158_ok K) f158_runs AllOK.nil)) Tryz.func110 fun x => f110_run K x.1 x.2.1
theorem f110_runs : Runs Tryz.prog 110 := runsB_ok (by kernel_rfl)
theorem f166_ok (K : Nat) : Sound Tryz.prog 166 (f166M K) :=
  sound_fn (envOK (E := (f166E K)) tab_ok mixed_ok (AllOK.cons (f110_ok K) f110_runs AllOK.nil)) Tryz.func166 fun x => f166_run K x.1 x.2.1
theorem f166_runs : Runs Tryz.prog 166 := runsB_ok (by kernel_rfl)
theorem f243_ok (K : Nat) : Sound Tryz.prog 243 (f243M K) :=
  sound_fn (envOK (E := (f243E K)) tab_ok mixed_ok AllOK.nil) Tryz.func243 fun x => f243_run K x.1
theorem f243_runs : Runs Tryz.prog 243 := runsB_ok (by kernel_rfl)
theorem f242_ok (K : Nat) : Sound Tryz.prog 242 (f242M K) :=
  sound_fn (envOK (E := (f242E K)) tab_ok mixed_ok AllOK.nil) Tryz.func242 fun x => f242_run K x.1 x.2.1
theorem f242_runs : Runs Tryz.prog 242 := runsB_ok (by kernel_rfl)
theorem f214_ok (K : Nat) : Sound Tryz.prog 214 (f214M K) :=
  sound_fn (envOK (E := (f214E K)) tab_ok mixed_ok (AllOK.cons (f242_ok K) f242_runs (AllOK.cons (f243_ok K) f243_runs AllOK.nil))) Tryz.func214 fun x => f214_run K x.1 x.2.1
theorem f214_runs : Runs Tryz.prog 214 := runsB_ok (by kernel_rfl)
theorem f157_ok (K : Nat) : Sound Tryz.prog 157 (f157M K) :=
  sound_fn (envOK (E := (f157E K)) tab_ok mixed_ok AllOK.nil) Tryz.func157 fun x => f157_run K x.1 x.2.1
theorem f157_runs : Runs Tryz.prog 157 := runsB_ok (by kernel_rfl)
theorem f167_ok (K : Nat) : Sound Tryz.prog 167 (f167M K) :=
  sound_fn (envOK (E := (f167E K)) tab_ok mixed_ok (AllOK.cons (f157_ok K) f157_runs (AllOK.cons (f214_ok K) f214_runs AllOK.nil))) Tryz.func167 fun x => f167_run K x.1 x.2.1
theorem f167_runs : Runs Tryz.prog 167 := runsB_ok (by kernel_rfl)
theorem f196_ok (K : Nat) : Sound Tryz.prog 196 (f196M K) :=
  sound_fn (envOK (E := (f196E K)) tab_ok mixed_ok AllOK.nil) Tryz.func196 fun x => f196_run K 
theorem f196_runs : Runs Tryz.prog 196 := runsB_ok (by kernel_rfl)
theorem f169_ok (K : Nat) : Sound Tryz.prog 169 (f169M K) :=
  sound_fn (envOK (E := (f169E K)) tab_ok mixed_ok (AllOK.cons (f196_ok K) f196_runs AllOK.nil)) Tryz.func169 fun x => f169_run K 
theorem f169_runs : Runs Tryz.prog 169 := runsB_ok (by kernel_rfl)
theorem f215_ok (K : Nat) : Sound Tryz.prog 215 (f215M K) :=
  sound_fn (envOK (E := (f215E K)) tab_ok mixed_ok (AllOK.cons (f167_ok K) f167_runs AllOK.nil)) Tryz.func215 fun x => f215_run K x.1 x.2.1
theorem f215_runs : Runs Tryz.prog 215 := runsB_ok (by kernel_rfl)
theorem f168_ok (K : Nat) : Sound Tryz.prog 168 (f168M K) :=
  sound_fn (envOK (E := (f168E K)) tab_ok mixed_ok (AllOK.cons (f215_ok K) f215_runs AllOK.nil)) Tryz.func168 fun x => f168_run K x.1 x.2.1
theorem f168_runs : Runs Tryz.prog 168 := runsB_ok (by kernel_rfl)
theorem f216_ok (K : Nat) : Sound Tryz.prog 216 (f216M K) :=
  sound_fn (envOK (E := (f216E K)) tab_ok mixed_ok AllOK.nil) Tryz.func216 fun x => f216_run K x.1 x.2.1
theorem f216_runs : Runs Tryz.prog 216 := runsB_ok (by kernel_rfl)
theorem f170_ok (K : Nat) : Sound Tryz.prog 170 (f170M K) :=
  sound_fn (envOK (E := (f170E K)) tab_ok mixed_ok (AllOK.cons (f159_ok K) f159_runs (AllOK.cons (f160_ok K) f160_runs (AllOK.cons (f216_ok K) f216_runs AllOK.nil)))) Tryz.func170 fun x => f170_run K x.1 x.2.1
theorem f170_runs : Runs Tryz.prog 170 := runsB_ok (by kernel_rfl)
theorem f119_ok (K : Nat) : Sound Tryz.prog 119 (f119M K) :=
  sound_fn (envOK (E := (f119E K)) tab_ok mixed_ok (AllOK.cons (f106_ok K) f106_runs (AllOK.cons (f165_ok K) f165_runs (AllOK.cons (f166_ok K) f166_runs (AllOK.cons (f167_ok K) f167_runs (AllOK.cons (f168_ok K) f168_runs (AllOK.cons (f169_ok K) f169_runs (AllOK.cons (f170_ok K) f170_runs AllOK.nil)))))))) Tryz.func119 fun x => f119_run K x.1 x.2.1 x.2.2.1
theorem f119_runs : Runs Tryz.prog 119 := runsB_ok (by kernel_rfl)
theorem f118_ok (K : Nat) : Sound Tryz.prog 118 (f118M K) :=
  sound_fn (envOK (E := (f118E K)) tab_ok mixed_ok (AllOK.cons (f106_ok K) f106_runs AllOK.nil)) Tryz.func118 fun x => f118_run K x.1 x.2.1 x.2.2.1
theorem f118_runs : Runs Tryz.prog 118 := runsB_ok (by kernel_rfl)
theorem f81_ok (K : Nat) : Sound Tryz.prog 81 (f81M K) :=
  sound_fn (envOK (E := (f81E K)) tab_ok mixed_ok (AllOK.cons (f118_ok K) f118_runs (AllOK.cons (f119_ok K) f119_runs AllOK.nil))) Tryz.func81 fun x => f81_run K x.1 x.2.1 x.2.2.1 x.2.2.2.1
theorem f81_runs : Runs Tryz.prog 81 := runsB_ok (by kernel_rfl)
theorem f111_ok (K : Nat) : Sound Tryz.prog 111 (f111M K) :=
  sound_fn (envOK (E := (f111E K)) tab_ok mixed_ok (AllOK.cons (f159_ok K) f159_runs (AllOK.cons (f160_ok K) f160_runs AllOK.nil))) Tryz.func111 fun x => f111_run K x.1 x.2.1
theorem f111_runs : Runs Tryz.prog 111 := runsB_ok (by kernel_rfl)
theorem f69_ok (K : Nat) : Sound Tryz.prog 69 (f69M K) :=
  sound_fn (envOK (E := (f69E K)) tab_ok mixed_ok (AllOK.cons (f110_ok K) f110_runs (AllOK.cons (f111_ok K) f111_runs AllOK.nil))) Tryz.func69 fun x => f69_run K x.1 x.2.1 x.2.2.1
theorem f69_runs : Runs Tryz.prog 69 := runsB_ok (by kernel_rfl)
theorem f120_ok (K : Nat) : Sound Tryz.prog 120 (f120M K) :=
  sound_fn (envOK (E := (f120E K)) tab_ok mixed_ok (AllOK.cons (f157_ok K) f157_runs AllOK.nil)) Tryz.func120 fun x => f120_run K x.1 x.2.1
theorem f120_runs : Runs Tryz.prog 120 := runsB_ok (by kernel_rfl)
theorem f82_ok (K : Nat) : Sound Tryz.prog 82 (f82M K) :=
  sound_fn (envOK (E := (f82E K)) tab_ok mixed_ok (AllOK.cons (f69_ok K) f69_runs (AllOK.cons (f120_ok K) f120_runs AllOK.nil))) Tryz.func82 fun x => f82_run K x.1 x.2.1 x.2.2.1
theorem f82_runs : Runs Tryz.prog 82 := runsB_ok (by kernel_rfl)
theorem f37_ok (K : Nat) : Sound Tryz.prog 37 (f37M K) :=
  sound_fn (envOK (E := (f37E K)) tab_ok mixed_ok (AllOK.cons (f66_ok K) f66_runs (AllOK.cons (f81_ok K) f81_runs (AllOK.cons (f82_ok K) f82_runs AllOK.nil)))) Tryz.func37 fun x => f37_run K x.1 x.2.1 x.2.2.1 x.2.2.2.1
theorem f37_runs : Runs Tryz.prog 37 := runsB_ok (by kernel_rfl)
theorem f116_ok (K : Nat) : Sound Tryz.prog 116 (f116M K) :=
  sound_fn (envOK (E := (f116E K)) tab_ok mixed_ok AllOK.nil) Tryz.func116 fun x => f116_run K x.1 x.2.1 x.2.2.1
theorem f116_runs : Runs Tryz.prog 116 := runsB_ok (by kernel_rfl)
theorem f135_ok (K : Nat) : Sound Tryz.prog 135 (f135M K) :=
  sound_fn (envOK (E := (f135E K)) tab_ok mixed_ok (AllOK.cons (f116_ok K) f116_runs AllOK.nil)) Tryz.func135 fun x => f135_run K x.1
theorem f135_runs : Runs Tryz.prog 135 := runsB_ok (by kernel_rfl)
theorem f100_ok (K : Nat) : Sound Tryz.prog 100 (f100M K) :=
  sound_fn (envOK (E := (f100E K)) tab_ok mixed_ok AllOK.nil) Tryz.func100 fun x => f100_run K x.1
theorem f100_runs : Runs Tryz.prog 100 := runsB_ok (by kernel_rfl)
theorem f136_ok (K : Nat) : Sound Tryz.prog 136 (f136M K) :=
  sound_fn (envOK (E := (f136E K)) tab_ok mixed_ok (AllOK.cons (f100_ok K) f100_runs (AllOK.cons (f116_ok K) f116_runs AllOK.nil))) Tryz.func136 fun x => f136_run K x.1
theorem f136_runs : Runs Tryz.prog 136 := runsB_ok (by kernel_rfl)
theorem f113_ok (K : Nat) : Sound Tryz.prog 113 (f113M K) :=
  sound_fn (envOK (E := (f113E K)) tab_ok mixed_ok (AllOK.cons (f135_ok K) f135_runs (AllOK.cons (f136_ok K) f136_runs AllOK.nil))) Tryz.func113 fun x => f113_run K x.1 x.2.1
theorem f113_runs : Runs Tryz.prog 113 := runsB_ok (by kernel_rfl)
theorem f151_ok (K : Nat) : Sound Tryz.prog 151 (f151M K) :=
  sound_fn (envOK (E := (f151E K)) tab_ok mixed_ok AllOK.nil) Tryz.func151 fun x => f151_run K x.1
theorem f151_runs : Runs Tryz.prog 151 := runsB_ok (by kernel_rfl)
theorem f204_ok (K : Nat) : Sound Tryz.prog 204 (f204M K) :=
  sound_fn (envOK (E := (f204E K)) tab_ok mixed_ok AllOK.nil) Tryz.func204 fun x => f204_run K x.1 x.2.1
theorem f204_runs : Runs Tryz.prog 204 := runsB_ok (by kernel_rfl)
theorem f237_ok (K : Nat) : Sound Tryz.prog 237 (f237M K) :=
  sound_fn (envOK (E := (f237E K)) tab_ok mixed_ok AllOK.nil) Tryz.func237 fun x => f237_run K x.1 x.2.1
theorem f237_runs : Runs Tryz.prog 237 := runsB_ok (by kernel_rfl)
theorem f201_ok (K : Nat) : Sound Tryz.prog 201 (f201M K) :=
  sound_fn (envOK (E := (f201E K)) tab_ok mixed_ok (AllOK.cons (f204_ok K) f204_runs (AllOK.cons (f237_ok K) f237_runs AllOK.nil))) Tryz.func201 fun x => f201_run K x.1
theorem f201_runs : Runs Tryz.prog 201 := runsB_ok (by kernel_rfl)
theorem f207_ok (K : Nat) : Sound Tryz.prog 207 (f207M K) :=
  sound_fn (envOK (E := (f207E K)) tab_ok mixed_ok AllOK.nil) Tryz.func207 fun x => f207_run K x.1 x.2.1
theorem f207_runs : Runs Tryz.prog 207 := runsB_ok (by kernel_rfl)
theorem f163_ok (K : Nat) : Sound Tryz.prog 163 (f163M K) :=
  sound_fn (envOK (E := (f163E K)) tab_ok mixed_ok (AllOK.cons (f207_ok K) f207_runs AllOK.nil)) Tryz.func163 fun x => f163_run K x.1 x.2.1
theorem f163_runs : Runs Tryz.prog 163 := runsB_ok (by kernel_rfl)
theorem f203_ok (K : Nat) : Sound Tryz.prog 203 (f203M K) :=
  sound_fn (envOK (E := (f203E K)) tab_ok mixed_ok (AllOK.cons (f163_ok K) f163_runs AllOK.nil)) Tryz.func203 fun x => f203_run K x.1 x.2.1
theorem f203_runs : Runs Tryz.prog 203 := runsB_ok (by kernel_rfl)
theorem f202_ok (K : Nat) : Sound Tryz.prog 202 (f202M K) :=
  sound_fn (envOK (E := (f202E K)) tab_ok mixed_ok (AllOK.cons (f203_ok K) f203_runs (AllOK.cons (f204_ok K) f204_runs AllOK.nil))) Tryz.func202 fun x => f202_run K x.1 x.2.1 x.2.2.1 x.2.2.2.1
theorem f202_runs : Runs Tryz.prog 202 := runsB_ok (by kernel_rfl)
theorem f236_ok (K : Nat) : Sound Tryz.prog 236 (f236M K) :=
  sound_fn (envOK (E := (f236E K)) tab_ok mixed_ok AllOK.nil) Tryz.func236 fun x => f236_run K x.1 x.2.1
theorem f236_runs : Runs Tryz.prog 236 := runsB_ok (by kernel_rfl)
theorem f200_ok (K : Nat) : Sound Tryz.prog 200 (f200M K) :=
  sound_fn (envOK (E := (f200E K)) tab_ok mixed_ok (AllOK.cons (f236_ok K) f236_runs AllOK.nil)) Tryz.func200 fun x => f200_run K x.1 x.2.1
theorem f200_runs : Runs Tryz.prog 200 := runsB_ok (by kernel_rfl)
theorem f149_ok (K : Nat) : Sound Tryz.prog 149 (f149M K) :=
  sound_fn (envOK (E := (f149E K)) tab_ok mixed_ok (AllOK.cons (f151_ok K) f151_runs (AllOK.cons (f200_ok K) f200_runs (AllOK.cons (f201_ok K) f201_runs (AllOK.cons (f202_ok K) f202_runs AllOK.nil))))) Tryz.func149 fun x => f149_run K x.1 x.2.1
theorem f149_runs : Runs Tryz.prog 149 := runsB_ok (by kernel_rfl)
theorem f238_ok (K : Nat) : Sound Tryz.prog 238 (f238M K) :=
  sound_fn (envOK (E := (f238E K)) tab_ok mixed_ok AllOK.nil) Tryz.func238 fun x => f238_run K x.1 x.2.1
theorem f238_runs : Runs Tryz.prog 238 := runsB_ok (by kernel_rfl)
theorem f209_ok (K : Nat) : Sound Tryz.prog 209 (f209M K) :=
  sound_fn (envOK (E := (f209E K)) tab_ok mixed_ok (AllOK.cons (f238_ok K) f238_runs AllOK.nil)) Tryz.func209 fun x => f209_run K x.1 x.2.1
theorem f209_runs : Runs Tryz.prog 209 := runsB_ok (by kernel_rfl)
theorem f174_ok (K : Nat) : Sound Tryz.prog 174 (f174M K) :=
  sound_fn (envOK (E := (f174E K)) tab_ok mixed_ok AllOK.nil) Tryz.func174 fun x => f174_run K x.1 x.2.1
theorem f174_runs : Runs Tryz.prog 174 := runsB_ok (by kernel_rfl)
theorem f239_ok (K : Nat) : Sound Tryz.prog 239 (f239M K) :=
  sound_fn (envOK (E := (f239E K)) tab_ok mixed_ok (AllOK.cons (f174_ok K) f174_runs AllOK.nil)) Tryz.func239 fun x => f239_run K x.1 x.2.1
theorem f239_runs : Runs Tryz.prog 239 := runsB_ok (by kernel_rfl)
theorem f124_ok (K : Nat) : Sound Tryz.prog 124 (f124M K) :=
  sound_fn (envOK (E := (f124E K)) tab_ok mixed_ok (AllOK.cons (f174_ok K) f174_runs AllOK.nil)) Tryz.func124 fun x => f124_run K x.1 x.2.1
theorem f124_runs : Runs Tryz.prog 124 := runsB_ok (by kernel_rfl)
theorem f210_ok (K : Nat) : Sound Tryz.prog 210 (f210M K) :=
  sound_fn (envOK (E := (f210E K)) tab_ok mixed_ok (AllOK.cons (f124_ok K) f124_runs (AllOK.cons (f239_ok K) f239_runs AllOK.nil))) Tryz.func210 fun x => f210_run K x.1 x.2.1
theorem f210_runs : Runs Tryz.prog 210 := runsB_ok (by kernel_rfl)
theorem f152_ok (K : Nat) : Sound Tryz.prog 152 (f152M K) :=
  sound_fn (envOK (E := (f152E K)) tab_ok mixed_ok AllOK.nil) Tryz.func152 fun x => f152_run K 
theorem f152_runs : Runs Tryz.prog 152 := runsB_ok (by kernel_rfl)
theorem f240_ok (K : Nat) : Sound Tryz.prog 240 (f240M K) :=
  sound_fn (envOK (E := (f240E K)) tab_ok mixed_ok AllOK.nil) Tryz.func240 fun x => f240_run K x.1 x.2.1
theorem f240_runs : Runs Tryz.prog 240 := runsB_ok (by kernel_rfl)
theorem f205_ok (K : Nat) : Sound Tryz.prog 205 (f205M K) :=
  sound_fn (envOK (E := (f205E K)) tab_ok mixed_ok AllOK.nil) Tryz.func205 fun x => f205_run K x.1 x.2.1
theorem f205_runs : Runs Tryz.prog 205 := runsB_ok (by kernel_rfl)
theorem f212_ok (K : Nat) : Sound Tryz.prog 212 (f212M K) :=
  sound_fn (envOK (E := (f212E K)) tab_ok mixed_ok (AllOK.cons (f204_ok K) f204_runs (AllOK.cons (f205_ok K) f205_runs (AllOK.cons (f240_ok K) f240_runs AllOK.nil)))) Tryz.func212 fun x => f212_run K x.1 x.2.1
theorem f212_runs : Runs Tryz.prog 212 := runsB_ok (by kernel_rfl)
theorem f211_ok (K : Nat) : Sound Tryz.prog 211 (f211M K) :=
  sound_fn (envOK (E := (f211E K)) tab_ok mixed_ok (AllOK.cons (f163_ok K) f163_runs AllOK.nil)) Tryz.func211 fun x => f211_run K x.1 x.2.1
theorem f211_runs : Runs Tryz.prog 211 := runsB_ok (by kernel_rfl)
theorem f162_ok (K : Nat) : Sound Tryz.prog 162 (f162M K) :=
  sound_fn (envOK (E := (f162E K)) tab_ok mixed_ok (AllOK.cons (f149_ok K) f149_runs (AllOK.cons (f152_ok K) f152_runs (AllOK.cons (f163_ok K) f163_runs (AllOK.cons (f209_ok K) f209_runs (AllOK.cons (f210_ok K) f210_runs (AllOK.cons (f211_ok K) f211_runs (AllOK.cons (f212_ok K) f212_runs AllOK.nil)))))))) Tryz.func162 fun x => f162_run K x.1 x.2.1 x.2.2.1
theorem f162_runs : Runs Tryz.prog 162 := runsB_ok (by kernel_rfl)
theorem f115_ok (K : Nat) : Sound Tryz.prog 115 (f115M K) :=
  sound_fn (envOK (E := (f115E K)) tab_ok mixed_ok (AllOK.cons (f113_ok K) f113_runs (AllOK.cons (f162_ok K) f162_runs AllOK.nil))) Tryz.func115 fun x => f115_run K x.1 x.2.1 x.2.2.1
theorem f115_runs : Runs Tryz.prog 115 := runsB_ok (by kernel_rfl)
theorem f72_ok (K : Nat) : Sound Tryz.prog 72 (f72M K) :=
  sound_fn (envOK (E := (f72E K)) tab_ok mixed_ok (AllOK.cons (f116_ok K) f116_runs AllOK.nil)) Tryz.func72 fun x => f72_run K x.1 x.2.1
theorem f72_runs : Runs Tryz.prog 72 := runsB_ok (by kernel_rfl)
theorem f122_ok (K : Nat) : Sound Tryz.prog 122 (f122M K) :=
  sound_fn (envOK (E := (f122E K)) tab_ok mixed_ok (AllOK.cons (f72_ok K) f72_runs AllOK.nil)) Tryz.func122 fun x => f122_run K x.1 x.2.1
theorem f122_runs : Runs Tryz.prog 122 := runsB_ok (by kernel_rfl)
theorem f171_ok (K : Nat) : Sound Tryz.prog 171 (f171M K) :=
  sound_fn (envOK (E := (f171E K)) tab_ok mixed_ok AllOK.nil) Tryz.func171 fun x => f171_run K x.1 x.2.1
theorem f171_runs : Runs Tryz.prog 171 := runsB_ok (by kernel_rfl)
theorem f121_ok (K : Nat) : Sound Tryz.prog 121 (f121M K) :=
  sound_fn (envOK (E := (f121E K)) tab_ok mixed_ok (AllOK.cons (f171_ok K) f171_runs AllOK.nil)) Tryz.func121 fun x => f121_run K x.1 x.2.1
theorem f121_runs : Runs Tryz.prog 121 := runsB_ok (by kernel_rfl)
theorem f83_ok (K : Nat) : Sound Tryz.prog 83 (f83M K) :=
  sound_fn (envOK (E := (f83E K)) tab_ok mixed_ok (AllOK.cons (f115_ok K) f115_runs (AllOK.cons (f121_ok K) f121_runs (AllOK.cons (f122_ok K) f122_runs AllOK.nil)))) Tryz.func83 fun x => f83_run K x.1 x.2.1 x.2.2.1 x.2.2.2.1
theorem f83_runs : Runs Tryz.prog 83 := runsB_ok (by kernel_rfl)
theorem f164_ok (K : Nat) : Sound Tryz.prog 164 (f164M K) :=
  sound_fn (envOK (E := (f164E K)) tab_ok mixed_ok (AllOK.cons (f204_ok K) f204_runs (AllOK.cons (f205_ok K) f205_runs AllOK.nil))) Tryz.func164 fun x => f164_run K x.1 x.2.1
theorem f164_runs : Runs Tryz.prog 164 := runsB_ok (by kernel_rfl)
theorem f117_ok (K : Nat) : Sound Tryz.prog 117 (f117M K) :=
  sound_fn (envOK (E := (f117E K)) tab_ok mixed_ok (AllOK.cons (f163_ok K) f163_runs (AllOK.cons (f164_ok K) f164_runs AllOK.nil))) Tryz.func117 fun x => f117_run K x.1 x.2.1 x.2.2.1
theorem f117_runs : Runs Tryz.prog 117 := runsB_ok (by kernel_rfl)
def f123_ren : Go.Shelf.Ren := ⟨fun | 6 => 123 | 14 => 172 | 15 => 173 | 20 => 217 | 21 => 218 | 22 => 219 | 23 => 220 | 24 => 221 | 25 => 222 | 26 => 223 | 27 => 224 | 28 => 225 | 29 => 226 | 46 => 244 | 47 => 245 | 48 => 246 | 49 => 247 | 50 => 248 | 57 => 253 | n => n, fun | 0 => 0 | 3 => 3 | 4 => 4 | 5 => 5 | 9 => 9 | 22 => 41 | 24 => 32 | 25 => 141 | 39 => 184 | 45 => 215 | 46 => 216 | 50 => 220 | 53 => 223 | 55 => 225 | 66 => 241 | 70 => 245 | 76 => 248 | 77 => 249 | n => n, fun n => n⟩
theorem f123_lays : SlLaysF0.n6 Tryz.prog f123_ren where
  mixed := by kernel_rfl
  f6 := ⟨ "slices.SortFunc[[]loop.example/g00943/impl.Vec,loop.example/g00943/impl.Vec]", by decide, Tryz.func123.trans (congrArg some (by kernel_rfl))⟩
  f14 := ⟨ "slices.pdqsortCmpFunc[loop.example/g00943/impl.Vec]", by decide, Tryz.func172.trans (congrArg some (by kernel_rfl))⟩
  f15 := Tryz.func173.trans (congrArg some (by kernel_rfl))
  f20 := ⟨ "slices.insertionSortCmpFunc[loop.example/g00943/impl.Vec]", by decide, Tryz.func217.trans (congrArg some (by kernel_rfl))⟩
  f21 := ⟨ "slices.heapSortCmpFunc[loop.example/g00943/impl.Vec]", by decide, Tryz.func218.trans (congrArg some (by kernel_rfl))⟩
  f22 := ⟨ "slices.breakPatternsCmpFunc[loop.example/g00943/impl.Vec]", by decide, Tryz.func219.trans (congrArg some (by kernel_rfl))⟩
  f23 := ⟨ "slices.choosePivotCmpFunc[loop.example/g00943/impl.Vec]", by decide, Tryz.func220.trans (congrArg some (by kernel_rfl))⟩
  f24 := ⟨ "slices.reverseRangeCmpFunc[loop.example/g00943/impl.Vec]", by decide, Tryz.func221.trans (congrArg some (by kernel_rfl))⟩
  f25 := ⟨ "slices.partialInsertionSortCmpFunc[loop.example/g00943/impl.Vec]", by decide, Tryz.func222.trans (congrArg some (by kernel_rfl))⟩
  f26 := ⟨ "slices.partitionEqualCmpFunc[loop.example/g00943/impl.Vec]", by decide, Tryz.func223.trans (congrArg some (by kernel_rfl))⟩
  f27 := ⟨ "slices.partitionCmpFunc[loop.example/g00943/impl.Vec]", by decide, Tryz.func224.trans (congrArg some (by kernel_rfl))⟩
  f28 := Tryz.func225.trans (congrArg some (by kernel_rfl))
  f29 := Tryz.func226.trans (congrArg some (by kernel_rfl))
  f46 := ⟨ "slices.siftDownCmpFunc[loop.example/g00943/impl.Vec]", by decide, Tryz.func244.trans (congrArg some (by kernel_rfl))⟩
  f47 := Tryz.func245.trans (congrArg some (by kernel_rfl))
  f48 := Tryz.func246.trans (congrArg some (by kernel_rfl))
  f49 := ⟨ "slices.medianAdjacentCmpFunc[loop.example/g00943/impl.Vec]", by decide, Tryz.func247.trans (congrArg some (by kernel_rfl))⟩
  f50 := ⟨ "slices.medianCmpFunc[loop.example/g00943/impl.Vec]", by decide, Tryz.func248.trans (congrArg some (by kernel_rfl))⟩
  f57 := ⟨ "slices.order2CmpFunc[loop.example/g00943/impl.Vec]", by decide, Tryz.func253.trans (congrArg some (by kernel_rfl))⟩
  t0 := Tryz.underlying0
  a0 := Tryz.isAgg0
  z0 := Tryz.sizeOf0
  v0 := Tryz.zeroValue0
  t3 := Tryz.underlying3
  a3 := Tryz.isAgg3
  z3 := Tryz.sizeOf3
  v3 := Tryz.zeroValue3
  t4 := Tryz.underlying4
  a4 := Tryz.isAgg4
  z4 := Tryz.sizeOf4
  v4 := Tryz.zeroValue4
  t5 := Tryz.underlying5
  a5 := Tryz.isAgg5
  z5 := Tryz.sizeOf5
  v5 := Tryz.zeroValue5
  t9 := Tryz.underlying9
  a9 := Tryz.isAgg9
  z9 := Tryz.sizeOf9
  v9 := Tryz.zeroValue9
  t22 := Tryz.underlying41
  a22 := Tryz.isAgg41
  z22 := Tryz.sizeOf41
  v22 := Tryz.zeroValue41
  t25 := Tryz.underlying141
  a25 := Tryz.isAgg141
  z25 := Tryz.sizeOf141
  v25 := Tryz.zeroValue141
  t39 := Tryz.underlying184
  a39 := Tryz.isAgg184
  z39 := Tryz.sizeOf184
  v39 := Tryz.zeroValue184
  t45 := Tryz.underlying215
  a45 := Tryz.isAgg215
  z45 := Tryz.sizeOf215
  v45 := Tryz.zeroValue215
  t46 := Tryz.underlying216
  a46 := Tryz.isAgg216
  z46 := Tryz.sizeOf216
  v46 := Tryz.zeroValue216
  t50 := Tryz.underlying220
  a50 := Tryz.isAgg220
  z50 := Tryz.sizeOf220
  v50 := Tryz.zeroValue220
  t53 := Tryz.underlying223
  a53 := Tryz.isAgg223
  z53 := Tryz.sizeOf223
  v53 := Tryz.zeroValue223
  t55 := Tryz.underlying225
  a55 := Tryz.isAgg225
  z55 := Tryz.sizeOf225
  v55 := Tryz.zeroValue225
  t66 := Tryz.underlying241
  a66 := Tryz.isAgg241
  z66 := Tryz.sizeOf241
  v66 := Tryz.zeroValue241
  t70 := Tryz.underlying245
  a70 := Tryz.isAgg245
  z70 := Tryz.sizeOf245
  v70 := Tryz.zeroValue245
  t76 := Tryz.underlying248
  a76 := Tryz.isAgg248
  z76 := Tryz.sizeOf248
  v76 := Tryz.zeroValue248
  t77 := Tryz.underlying249
  a77 := Tryz.isAgg249
  z77 := Tryz.sizeOf249
  v77 := Tryz.zeroValue249
theorem f123_ok (K : Nat) : Sound Tryz.prog 123 (f123M K) := sort_sound (e := 32) (s := (.cons (.int .i64) (.int .i64))) f123_lays rfl rfl rfl Tryz.isAgg32 Tryz.sizeOf32
theorem f123_runs : Runs Tryz.prog 123 := runsB_ok (by kernel_rfl)
theorem f125_ok (K : Nat) : Sound Tryz.prog 125 (f125M K) :=
  sound_fn (envOK (E := (f125E K)) tab_ok mixed_ok AllOK.nil) Tryz.func125 fun x => f125_run K x.1
theorem f125_runs : Runs Tryz.prog 125 := runsB_ok (by kernel_rfl)
theorem f84_ok (K : Nat) : Sound Tryz.prog 84 (f84M K) :=
  sound_fn (envOK (E := (f84E K)) tab_ok mixed_ok (AllOK.cons (f117_ok K) f117_runs (AllOK.cons (f123_ok K) f123_runs (AllOK.cons (f124_ok K) f124_runs (AllOK.cons (f125_ok K) f125_runs AllOK.nil))))) Tryz.func84 fun x => f84_run K x.1 x.2.1 x.2.2.1
theorem f84_runs : Runs Tryz.prog 84 := runsB_ok (by kernel_rfl)
theorem f38_ok (K : Nat) : Sound Tryz.prog 38 (f38M K) :=
  sound_fn (envOK (E := (f38E K)) tab_ok mixed_ok (AllOK.cons (f83_ok K) f83_runs (AllOK.cons (f84_ok K) f84_runs AllOK.nil))) Tryz.func38 fun x => f38_run K x.1 x.2.1 x.2.2.1 x.2.2.2.1
theorem f38_runs : Runs Tryz.prog 38 := runsB_ok (by kernel_rfl)
theorem f22_ok (K : Nat) : Sound Tryz.prog 22 (f22M K) :=
  sound_fn (envOK (E := (f22E K)) tab_ok mixed_ok AllOK.nil) Tryz.func22 fun x => f22_run K x.1 x.2.1
theorem f22_runs : Runs Tryz.prog 22 := runsB_ok (by kernel_rfl)
theorem f24_ok (K : Nat) : Sound Tryz.prog 24 (f24M K) :=
  sound_fn (envOK (E := (f24E K)) tab_ok mixed_ok (AllOK.cons (f22_ok K) f22_runs AllOK.nil)) Tryz.func24 fun x => f24_run K x.1 x.2.1
theorem f24_runs : Runs Tryz.prog 24 := runsB_ok (by kernel_rfl)
theorem f76_ok (K : Nat) : Sound Tryz.prog 76 (f76M K) :=
  sound_fn (envOK (E := (f76E K)) tab_ok mixed_ok AllOK.nil) Tryz.func76 fun x => f76_run K x.1 x.2.1
theorem f76_runs : Runs Tryz.prog 76 := runsB_ok (by kernel_rfl)
theorem f21_ok (K : Nat) : Sound Tryz.prog 21 (f21M K) :=
  sound_fn (envOK (E := (f21E K)) tab_ok mixed_ok (AllOK.cons (f22_ok K) f22_runs (AllOK.cons (f76_ok K) f76_runs AllOK.nil))) Tryz.func21 fun x => f21_run K x.1 x.2.1
theorem f21_runs : Runs Tryz.prog 21 := runsB_ok (by kernel_rfl)
theorem f23_ok (K : Nat) : Sound Tryz.prog 23 (f23M K) :=
  sound_fn (envOK (E := (f23E K)) tab_ok mixed_ok (AllOK.cons (f21_ok K) f21_runs AllOK.nil)) Tryz.func23 fun x => f23_run K x.1 x.2.1
theorem f23_runs : Runs Tryz.prog 23 := runsB_ok (by kernel_rfl)
theorem f28_ok (K : Nat) : Sound Tryz.prog 28 (f28M K) :=
  sound_fn (envOK (E := (f28E K)) tab_ok mixed_ok AllOK.nil) Tryz.func28 fun x => f28_run K x.1 x.2.1
theorem f28_runs : Runs Tryz.prog 28 := runsB_ok (by kernel_rfl)
theorem f29_ok (K : Nat) : Sound Tryz.prog 29 (f29M K) :=
  sound_fn (envOK (E := (f29E K)) tab_ok mixed_ok AllOK.nil) Tryz.func29 fun x => f29_run K x.1 x.2.1
theorem f29_runs : Runs Tryz.prog 29 := runsB_ok (by kernel_rfl)
theorem f39_ok (K : Nat) : Sound Tryz.prog 39 (f39M K) :=
  sound_fn (envOK (E := (f39E K)) tab_ok mixed_ok AllOK.nil) Tryz.func39 fun x => f39_run K x.1 x.2.1
theorem f39_runs : Runs Tryz.prog 39 := runsB_ok (by kernel_rfl)
theorem f6_ok (K : Nat) : Sound Tryz.prog 6 (f6M K) :=
  sound_fn (envOK (E := (f6E K)) tab_ok mixed_ok (AllOK.cons (f13_ok K) f13_runs (AllOK.cons (f16_ok K) f16_runs (AllOK.cons (f17_ok K) f17_runs (AllOK.cons (f19_ok K) f19_runs (AllOK.cons (f23_ok K) f23_runs (AllOK.cons (f24_ok K) f24_runs (AllOK.cons (f28_ok K) f28_runs (AllOK.cons (f29_ok K) f29_runs (AllOK.cons (f37_ok K) f37_runs (AllOK.cons (f38_ok K) f38_runs (AllOK.cons (f39_ok K) f39_runs AllOK.nil)))))))))))) Tryz.func6 fun x => f6_run K x.1 x.2.1 x.2.2.1 x.2.2.2.1
theorem f6_runs : Runs Tryz.prog 6 := runsB_ok (by kernel_rfl)
theorem f68_ok (K : Nat) : Sound Tryz.prog 68 (f68M K) :=
  sound_fn (envOK (E := (f68E K)) tab_ok mixed_ok (AllOK.cons (f110_ok K) f110_runs AllOK.nil)) Tryz.func68 fun x => f68_run K x.1 x.2.1
theorem f68_runs : Runs Tryz.prog 68 := runsB_ok (by kernel_rfl)
theorem f49_ok (K : Nat) : Sound Tryz.prog 49 (f49M K) :=
  sound_fn (envOK (E := (f49E K)) tab_ok mixed_ok (AllOK.cons (f66_ok K) f66_runs (AllOK.cons (f68_ok K) f68_runs (AllOK.cons (f81_ok K) f81_runs (AllOK.cons (f82_ok K) f82_runs AllOK.nil))))) Tryz.func49 fun x => f49_run K x.1 x.2.1 x.2.2.1 x.2.2.2.1
theorem f49_runs : Runs Tryz.prog 49 := runsB_ok (by kernel_rfl)
theorem f79_ok (K : Nat) : Sound Tryz.prog 79 (f79M K) :=
  sound_fn (envOK (E := (f79E K)) tab_ok mixed_ok AllOK.nil) Tryz.func79 fun x => f79_run K x.1 x.2.1
theorem f79_runs : Runs Tryz.prog 79 := runsB_ok (by kernel_rfl)
theorem f78_ok (K : Nat) : Sound Tryz.prog 78 (f78M K) :=
  sound_fn (envOK (E := (f78E K)) tab_ok mixed_ok (AllOK.cons (f79_ok K) f79_runs (AllOK.cons (f100_ok K) f100_runs AllOK.nil))) Tryz.func78 fun x => f78_run K x.1 x.2.1 x.2.2.1 x.2.2.2.1
theorem f78_runs : Runs Tryz.prog 78 := runsB_ok (by kernel_rfl)
theorem f50_ok (K : Nat) : Sound Tryz.prog 50 (f50M K) :=
  sound_fn (envOK (E := (f50E K)) tab_ok mixed_ok (AllOK.cons (f78_ok K) f78_runs (AllOK.cons (f83_ok K) f83_runs (AllOK.cons (f84_ok K) f84_runs AllOK.nil)))) Tryz.func50 fun x => f50_run K x.1 x.2.1 x.2.2.1 x.2.2.2.1
theorem f50_runs : Runs Tryz.prog 50 := runsB_ok (by kernel_rfl)
theorem f80_ok (K : Nat) : Sound Tryz.prog 80 (f80M K) :=
  sound_fn (envOK (E := (f80E K)) tab_ok mixed_ok AllOK.nil) Tryz.func80 fun x => f80_run K x.1 x.2.1
theorem f80_runs : Runs Tryz.prog 80 := runsB_ok (by kernel_rfl)
theorem f44_ok (K : Nat) : Sound Tryz.prog 44 (f44M K) :=
  sound_fn (envOK (E := (f44E K)) tab_ok mixed_ok AllOK.nil) Tryz.func44 fun x => f44_run K x.1 x.2.1
theorem f44_runs : Runs Tryz.prog 44 := runsB_ok (by kernel_rfl)
theorem f34_ok (K : Nat) : Sound Tryz.prog 34 (f34M K) :=
  sound_fn (envOK (E := (f34E K)) tab_ok mixed_ok (AllOK.cons (f44_ok K) f44_runs (AllOK.cons (f80_ok K) f80_runs AllOK.nil))) Tryz.func34 fun x => f34_run K x.1 x.2.1
theorem f34_runs : Runs Tryz.prog 34 := runsB_ok (by kernel_rfl)
theorem f45_ok (K : Nat) : Sound Tryz.prog 45 (f45M K) :=
  sound_fn (envOK (E := (f45E K)) tab_ok mixed_ok AllOK.nil) Tryz.func45 fun x => f45_run K x.1 x.2.1
theorem f45_runs : Runs Tryz.prog 45 := runsB_ok (by kernel_rfl)
theorem f35_ok (K : Nat) : Sound Tryz.prog 35 (f35M K) :=
  sound_fn (envOK (E := (f35E K)) tab_ok mixed_ok (AllOK.cons (f45_ok K) f45_runs AllOK.nil)) Tryz.func35 fun x => f35_run K x.1 x.2.1
theorem f35_runs : Runs Tryz.prog 35 := runsB_ok (by kernel_rfl)
theorem f46_ok (K : Nat) : Sound Tryz.prog 46 (f46M K) :=
  sound_fn (envOK (E := (f46E K)) tab_ok mixed_ok AllOK.nil) Tryz.func46 fun x => f46_run K x.1 x.2.1
theorem f46_runs : Runs Tryz.prog 46 := runsB_ok (by kernel_rfl)
theorem f36_ok (K : Nat) : Sound Tryz.prog 36 (f36M K) :=
  sound_fn (envOK (E := (f36E K)) tab_ok mixed_ok (AllOK.cons (f46_ok K) f46_runs AllOK.nil)) Tryz.func36 fun x => f36_run K x.1 x.2.1
theorem f36_runs : Runs Tryz.prog 36 := runsB_ok (by kernel_rfl)
theorem f10_ok (K : Nat) : Sound Tryz.prog 10 (f10M K) :=
  sound_fn (envOK (E := (f10E K)) tab_ok mixed_ok (AllOK.cons (f13_ok K) f13_runs (AllOK.cons (f16_ok K) f16_runs (AllOK.cons (f17_ok K) f17_runs (AllOK.cons (f19_ok K) f19_runs (AllOK.cons (f23_ok K) f23_runs (AllOK.cons (f28_ok K) f28_runs (AllOK.cons (f34_ok K) f34_runs (AllOK.cons (f35_ok K) f35_runs (AllOK.cons (f36_ok K) f36_runs (AllOK.cons (f49_ok K) f49_runs (AllOK.cons (f50_ok K) f50_runs AllOK.nil)))))))))))) Tryz.func10 fun x => f10_run K x.1 x.2.1 x.2.2.1 x.2.2.2.1
theorem f10_runs : Runs Tryz.prog 10 := runsB_ok (by kernel_rfl)
theorem f126_ok (K : Nat) : Sound Tryz.prog 126 (f126M K) :=
  sound_fn (envOK (E := (f126E K)) tab_ok mixed_ok AllOK.nil) Tryz.func126 fun x => f126_run K x.1
theorem f126_runs : Runs Tryz.prog 126 := runsB_ok (by kernel_rfl)
theorem f85_ok (K : Nat) : Sound Tryz.prog 85 (f85M K) :=
  sound_fn (envOK (E := (f85E K)) tab_ok mixed_ok (AllOK.cons (f82_ok K) f82_runs (AllOK.cons (f126_ok K) f126_runs AllOK.nil))) Tryz.func85 fun x => f85_run K x.1 x.2.1
theorem f85_runs : Runs Tryz.prog 85 := runsB_ok (by kernel_rfl)
theorem f40_ok (K : Nat) : Sound Tryz.prog 40 (f40M K) :=
  sound_fn (envOK (E := (f40E K)) tab_ok mixed_ok (AllOK.cons (f81_ok K) f81_runs (AllOK.cons (f85_ok K) f85_runs AllOK.nil))) Tryz.func40 fun x => f40_run K x.1 x.2.1 x.2.2.1
theorem f40_runs : Runs Tryz.prog 40 := runsB_ok (by kernel_rfl)
def f175_ren : Go.Shelf.Ren := ⟨fun | 212 => 175 | 263 => 227 | 264 => 228 | n => n, fun | 46 => 184 | 51 => 223 | 53 => 225 | 146 => 226 | 148 => 228 | n => n, fun n => n⟩
theorem f175_lays : Lays.n212 Tryz.prog f175_ren where
  mixed := by kernel_rfl
  f212 := Tryz.func175.trans (congrArg some (by kernel_rfl))
  f263 := Tryz.func227.trans (congrArg some (by kernel_rfl))
  f264 := Tryz.func228.trans (congrArg some (by kernel_rfl))
  t46 := Tryz.underlying184
  a46 := Tryz.isAgg184
  z46 := Tryz.sizeOf184
  v46 := Tryz.zeroValue184
  t51 := Tryz.underlying223
  a51 := Tryz.isAgg223
  z51 := Tryz.sizeOf223
  v51 := Tryz.zeroValue223
  t53 := Tryz.underlying225
  a53 := Tryz.isAgg225
  z53 := Tryz.sizeOf225
  v53 := Tryz.zeroValue225
  t146 := Tryz.underlying226
  a146 := Tryz.isAgg226
  z146 := Tryz.sizeOf226
  v146 := Tryz.zeroValue226
  t148 := Tryz.underlying228
  a148 := Tryz.isAgg228
  z148 := Tryz.sizeOf228
  v148 := Tryz.zeroValue228
theorem f175_ok (K : Nat) : Sound Tryz.prog 175 (f175M K) := mul_sound f175_lays rfl
theorem f175_runs : Runs Tryz.prog 175 := runsB_ok (by kernel_rfl)
theorem f127_ok (K : Nat) : Sound Tryz.prog 127 (f127M K) :=
  sound_fn (envOK (E := (f127E K)) tab_ok mixed_ok (AllOK.cons (f175_ok K) f175_runs AllOK.nil)) Tryz.func127 fun x => f127_run K x.1 x.2.1
theorem f127_runs : Runs Tryz.prog 127 := runsB_ok (by kernel_rfl)
theorem f128_ok (K : Nat) : Sound Tryz.prog 128 (f128M K) :=
  sound_fn (envOK (E := (f128E K)) tab_ok mixed_ok AllOK.nil) Tryz.func128 fun x => f128_run K x.1
theorem f128_runs : Runs Tryz.prog 128 := runsB_ok (by kernel_rfl)
theorem f87_ok (K : Nat) : Sound Tryz.prog 87 (f87M K) :=
  sound_fn (envOK (E := (f87E K)) tab_ok mixed_ok (AllOK.cons (f79_ok K) f79_runs (AllOK.cons (f84_ok K) f84_runs (AllOK.cons (f100_ok K) f100_runs (AllOK.cons (f127_ok K) f127_runs (AllOK.cons (f128_ok K) f128_runs AllOK.nil)))))) Tryz.func87 fun x => f87_run K x.1 x.2.1
theorem f87_runs : Runs Tryz.prog 87 := runsB_ok (by kernel_rfl)
theorem f48_ok (K : Nat) : Sound Tryz.prog 48 (f48M K) :=
  sound_fn (envOK (E := (f48E K)) tab_ok mixed_ok (AllOK.cons (f83_ok K) f83_runs (AllOK.cons (f87_ok K) f87_runs AllOK.nil))) Tryz.func48 fun x => f48_run K x.1 x.2.1 x.2.2.1
theorem f48_runs : Runs Tryz.prog 48 := runsB_ok (by kernel_rfl)
theorem f41_ok (K : Nat) : Sound Tryz.prog 41 (f41M K) :=
  sound_fn (envOK (E := (f41E K)) tab_ok mixed_ok (AllOK.cons (f48_ok K) f48_runs AllOK.nil)) Tryz.func41 fun x => f41_run K x.1 x.2.1 x.2.2.1
theorem f41_runs : Runs Tryz.prog 41 := runsB_ok (by kernel_rfl)
theorem f7_ok (K : Nat) : Sound Tryz.prog 7 (f7M K) :=
  sound_fn (envOK (E := (f7E K)) tab_ok mixed_ok (AllOK.cons (f13_ok K) f13_runs (AllOK.cons (f16_ok K) f16_runs (AllOK.cons (f17_ok K) f17_runs (AllOK.cons (f23_ok K) f23_runs (AllOK.cons (f40_ok K) f40_runs (AllOK.cons (f41_ok K) f41_runs AllOK.nil))))))) Tryz.func7 fun x => f7_run K x.1 x.2.1 x.2.2.1
theorem f7_runs : Runs Tryz.prog 7 := runsB_ok (by kernel_rfl)
theorem f86_ok (K : Nat) : Sound Tryz.prog 86 (f86M K) :=
  sound_fn (envOK (E := (f86E K)) tab_ok mixed_ok (AllOK.cons (f68_ok K) f68_runs (AllOK.cons (f85_ok K) f85_runs AllOK.nil))) Tryz.func86 fun x => f86_run K x.1 x.2.1
theorem f86_runs : Runs Tryz.prog 86 := runsB_ok (by kernel_rfl)
theorem f42_ok (K : Nat) : Sound Tryz.prog 42 (f42M K) :=
  sound_fn (envOK (E := (f42E K)) tab_ok mixed_ok (AllOK.cons (f81_ok K) f81_runs (AllOK.cons (f86_ok K) f86_runs AllOK.nil))) Tryz.func42 fun x => f42_run K x.1 x.2.1 x.2.2.1
theorem f42_runs : Runs Tryz.prog 42 := runsB_ok (by kernel_rfl)
theorem f43_ok (K : Nat) : Sound Tryz.prog 43 (f43M K) :=
  sound_fn (envOK (E := (f43E K)) tab_ok mixed_ok (AllOK.cons (f83_ok K) f83_runs (AllOK.cons (f87_ok K) f87_runs AllOK.nil))) Tryz.func43 fun x => f43_run K x.1 x.2.1 x.2.2.1
theorem f43_runs : Runs Tryz.prog 43 := runsB_ok (by kernel_rfl)
theorem f8_ok (K : Nat) : Sound Tryz.prog 8 (f8M K) :=
  sound_fn (envOK (E := (f8E K)) tab_ok mixed_ok (AllOK.cons (f13_ok K) f13_runs (AllOK.cons (f16_ok K) f16_runs (AllOK.cons (f17_ok K) f17_runs (AllOK.cons (f23_ok K) f23_runs (AllOK.cons (f28_ok K) f28_runs (AllOK.cons (f42_ok K) f42_runs (AllOK.cons (f43_ok K) f43_runs (AllOK.cons (f44_ok K) f44_runs (AllOK.cons (f45_ok K) f45_runs (AllOK.cons (f46_ok K) f46_runs AllOK.nil))))))))))) Tryz.func8 fun x => f8_run K x.1 x.2.1 x.2.2.1
theorem f8_runs : Runs Tryz.prog 8 := runsB_ok (by kernel_rfl)
theorem f88_ok (K : Nat) : Sound Tryz.prog 88 (f88M K) :=
  sound_fn (envOK (E := (f88E K)) tab_ok mixed_ok (AllOK.cons (f81_ok K) f81_runs (AllOK.cons (f85_ok K) f85_runs AllOK.nil))) Tryz.func88 fun x => f88_run K x.1 x.2.1 x.2.2.1
theorem f88_runs : Runs Tryz.prog 88 := runsB_ok (by kernel_rfl)
theorem f51_ok (K : Nat) : Sound Tryz.prog 51 (f51M K) :=
  sound_fn (envOK (E := (f51E K)) tab_ok mixed_ok (AllOK.cons (f88_ok K) f88_runs AllOK.nil)) Tryz.func51 fun x => f51_run K x.1 x.2.1 x.2.2.1
theorem f51_runs : Runs Tryz.prog 51 := runsB_ok (by kernel_rfl)
theorem f130_ok (K : Nat) : Sound Tryz.prog 130 (f130M K) :=
  sound_fn (envOK (E := (f130E K)) tab_ok mixed_ok AllOK.nil) Tryz.func130 fun x => f130_run K x.1 x.2.1
theorem f130_runs : Runs Tryz.prog 130 := runsB_ok (by kernel_rfl)
theorem f176_ok (K : Nat) : Sound Tryz.prog 176 (f176M K) :=
  sound_fn (envOK (E := (f176E K)) tab_ok mixed_ok AllOK.nil) Tryz.func176 fun x => f176_run K x.1 x.2.1
theorem f176_runs : Runs Tryz.prog 176 := runsB_ok (by kernel_rfl)
theorem f129_ok (K : Nat) : Sound Tryz.prog 129 (f129M K) :=
  sound_fn (envOK (E := (f129E K)) tab_ok mixed_ok (AllOK.cons (f176_ok K) f176_runs AllOK.nil)) Tryz.func129 fun x => f129_run K x.1 x.2.1
theorem f129_runs : Runs Tryz.prog 129 := runsB_ok (by kernel_rfl)
theorem f89_ok (K : Nat) : Sound Tryz.prog 89 (f89M K) :=
  sound_fn (envOK (E := (f89E K)) tab_ok mixed_ok (AllOK.cons (f87_ok K) f87_runs (AllOK.cons (f115_ok K) f115_runs (AllOK.cons (f129_ok K) f129_runs (AllOK.cons (f130_ok K) f130_runs AllOK.nil))))) Tryz.func89 fun x => f89_run K x.1 x.2.1 x.2.2.1
theorem f89_runs : Runs Tryz.prog 89 := runsB_ok (by kernel_rfl)
theorem f52_ok (K : Nat) : Sound Tryz.prog 52 (f52M K) :=
  sound_fn (envOK (E := (f52E K)) tab_ok mixed_ok (AllOK.cons (f89_ok K) f89_runs AllOK.nil)) Tryz.func52 fun x => f52_run K x.1 x.2.1 x.2.2.1
theorem f52_runs : Runs Tryz.prog 52 := runsB_ok (by kernel_rfl)
theorem f11_ok (K : Nat) : Sound Tryz.prog 11 (f11M K) :=
  sound_fn (envOK (E := (f11E K)) tab_ok mixed_ok (AllOK.cons (f13_ok K) f13_runs (AllOK.cons (f16_ok K) f16_runs (AllOK.cons (f17_ok K) f17_runs (AllOK.cons (f23_ok K) f23_runs (AllOK.cons (f24_ok K) f24_runs (AllOK.cons (f28_ok K) f28_runs (AllOK.cons (f29_ok K) f29_runs (AllOK.cons (f39_ok K) f39_runs (AllOK.cons (f51_ok K) f51_runs (AllOK.cons (f52_ok K) f52_runs AllOK.nil))))))))))) Tryz.func11 fun x => f11_run K x.1 x.2.1 x.2.2.1
theorem f11_runs : Runs Tryz.prog 11 := runsB_ok (by kernel_rfl)
theorem f14_ok (K : Nat) : Sound Tryz.prog 14 (f14M K) :=
  sound_fn (envOK (E := (f14E K)) tab_ok mixed_ok AllOK.nil) Tryz.func14 fun x => f14_run K x.1 x.2.1
theorem f14_runs : Runs Tryz.prog 14 := runsB_ok (by kernel_rfl)
theorem f18_ok (K : Nat) : Sound Tryz.prog 18 (f18M K) :=
  sound_fn (envOK (E := (f18E K)) tab_ok mixed_ok (AllOK.cons (f19_ok K) f19_runs AllOK.nil)) Tryz.func18 fun x => f18_run K x.1
theorem f18_runs : Runs Tryz.prog 18 := runsB_ok (by kernel_rfl)
theorem f107_ok (K : Nat) : Sound Tryz.prog 107 (f107M K) :=
  sound_fn (envOK (E := (f107E K)) tab_ok mixed_ok (AllOK.cons (f156_ok K) f156_runs (AllOK.cons (f157_ok K) f157_runs AllOK.nil))) Tryz.func107 fun x => f107_run K x.1
theorem f107_runs : Runs Tryz.prog 107 := runsB_ok (by kernel_rfl)
theorem f65_ok (K : Nat) : Sound Tryz.prog 65 (f65M K) :=
  sound_fn (envOK (E := (f65E K)) tab_ok mixed_ok (AllOK.cons (f81_ok K) f81_runs (AllOK.cons (f106_ok K) f106_runs (AllOK.cons (f107_ok K) f107_runs AllOK.nil)))) Tryz.func65 fun x => f65_run K x.1 x.2.1 x.2.2.1 x.2.2.2.1
theorem f65_runs : Runs Tryz.prog 65 := runsB_ok (by kernel_rfl)
theorem f77_ok (K : Nat) : Sound Tryz.prog 77 (f77M K) :=
  sound_fn (envOK (E := (f77E K)) tab_ok mixed_ok (AllOK.cons (f69_ok K) f69_runs AllOK.nil)) Tryz.func77 fun x => f77_run K x.1 x.2.1 x.2.2.1
theorem f77_runs : Runs Tryz.prog 77 := runsB_ok (by kernel_rfl)
theorem f25_ok (K : Nat) : Sound Tryz.prog 25 (f25M K) :=
  sound_fn (envOK (E := (f25E K)) tab_ok mixed_ok (AllOK.cons (f65_ok K) f65_runs (AllOK.cons (f77_ok K) f77_runs AllOK.nil))) Tryz.func25 fun x => f25_run K x.1 x.2.1 x.2.2.1 x.2.2.2.1
theorem f25_runs : Runs Tryz.prog 25 := runsB_ok (by kernel_rfl)
theorem f208_ok (K : Nat) : Sound Tryz.prog 208 (f208M K) :=
  sound_fn (envOK (E := (f208E K)) tab_ok mixed_ok (AllOK.cons (f116_ok K) f116_runs AllOK.nil)) Tryz.func208 fun x => f208_run K x.1
theorem f208_runs : Runs Tryz.prog 208 := runsB_ok (by kernel_rfl)
theorem f161_ok (K : Nat) : Sound Tryz.prog 161 (f161M K) :=
  sound_fn (envOK (E := (f161E K)) tab_ok mixed_ok (AllOK.cons (f208_ok K) f208_runs AllOK.nil)) Tryz.func161 fun x => f161_run K x.1
theorem f161_runs : Runs Tryz.prog 161 := runsB_ok (by kernel_rfl)
theorem f114_ok (K : Nat) : Sound Tryz.prog 114 (f114M K) :=
  sound_fn (envOK (E := (f114E K)) tab_ok mixed_ok (AllOK.cons (f124_ok K) f124_runs (AllOK.cons (f161_ok K) f161_runs AllOK.nil))) Tryz.func114 fun x => f114_run K x.1
theorem f114_runs : Runs Tryz.prog 114 := runsB_ok (by kernel_rfl)
theorem f71_ok (K : Nat) : Sound Tryz.prog 71 (f71M K) :=
  sound_fn (envOK (E := (f71E K)) tab_ok mixed_ok (AllOK.cons (f113_ok K) f113_runs (AllOK.cons (f114_ok K) f114_runs (AllOK.cons (f115_ok K) f115_runs AllOK.nil)))) Tryz.func71 fun x => f71_run K x.1 x.2.1 x.2.2.1 x.2.2.2.1
theorem f71_runs : Runs Tryz.prog 71 := runsB_ok (by kernel_rfl)
theorem f74_ok (K : Nat) : Sound Tryz.prog 74 (f74M K) :=
  sound_fn (envOK (E := (f74E K)) tab_ok mixed_ok (AllOK.cons (f117_ok K) f117_runs AllOK.nil)) Tryz.func74 fun x => f74_run K x.1 x.2.1 x.2.2.1
theorem f74_runs : Runs Tryz.prog 74 := runsB_ok (by kernel_rfl)
theorem f26_ok (K : Nat) : Sound Tryz.prog 26 (f26M K) :=
  sound_fn (envOK (E := (f26E K)) tab_ok mixed_ok (AllOK.cons (f71_ok K) f71_runs (AllOK.cons (f74_ok K) f74_runs AllOK.nil))) Tryz.func26 fun x => f26_run K x.1 x.2.1 x.2.2.1 x.2.2.2.1
theorem f26_runs : Runs Tryz.prog 26 := runsB_ok (by kernel_rfl)
theorem f27_ok (K : Nat) : Sound Tryz.prog 27 (f27M K) :=
  sound_fn (envOK (E := (f27E K)) tab_ok mixed_ok (AllOK.cons (f24_ok K) f24_runs AllOK.nil)) Tryz.func27 fun x => f27_run K x.1 x.2.1
theorem f27_runs : Runs Tryz.prog 27 := runsB_ok (by kernel_rfl)
theorem f30_ok (K : Nat) : Sound Tryz.prog 30 (f30M K) :=
  sound_fn (envOK (E := (f30E K)) tab_ok mixed_ok (AllOK.cons (f29_ok K) f29_runs AllOK.nil)) Tryz.func30 fun x => f30_run K x.1 x.2.1
theorem f30_runs : Runs Tryz.prog 30 := runsB_ok (by kernel_rfl)
theorem f31_ok (K : Nat) : Sound Tryz.prog 31 (f31M K) :=
  sound_fn (envOK (E := (f31E K)) tab_ok mixed_ok (AllOK.cons (f39_ok K) f39_runs AllOK.nil)) Tryz.func31 fun x => f31_run K x.1 x.2.1
theorem f31_runs : Runs Tryz.prog 31 := runsB_ok (by kernel_rfl)
theorem f4_ok (K : Nat) : Sound Tryz.prog 4 (f4M K) :=
  sound_fn (envOK (E := (f4E K)) tab_ok mixed_ok (AllOK.cons (f13_ok K) f13_runs (AllOK.cons (f14_ok K) f14_runs (AllOK.cons (f16_ok K) f16_runs (AllOK.cons (f17_ok K) f17_runs (AllOK.cons (f18_ok K) f18_runs (AllOK.cons (f23_ok K) f23_runs (AllOK.cons (f24_ok K) f24_runs (AllOK.cons (f25_ok K) f25_runs (AllOK.cons (f26_ok K) f26_runs (AllOK.cons (f27_ok K) f27_runs (AllOK.cons (f28_ok K) f28_runs (AllOK.cons (f29_ok K) f29_runs (AllOK.cons (f30_ok K) f30_runs (AllOK.cons (f31_ok K) f31_runs AllOK.nil))))))))))))))) Tryz.func4 fun x => f4_run K x.1 x.2.1 x.2.2.1 x.2.2.2.1
theorem f4_runs : Runs Tryz.prog 4 := runsB_ok (by kernel_rfl)
theorem f47_ok (K : Nat) : Sound Tryz.prog 47 (f47M K) :=
  sound_fn (envOK (E := (f47E K)) tab_ok mixed_ok (AllOK.cons (f81_ok K) f81_runs (AllOK.cons (f85_ok K) f85_runs AllOK.nil))) Tryz.func47 fun x => f47_run K x.1 x.2.1 x.2.2.1
theorem f47_runs : Runs Tryz.prog 47 := runsB_ok (by kernel_rfl)
theorem f9_ok (K : Nat) : Sound Tryz.prog 9 (f9M K) :=
  sound_fn (envOK (E := (f9E K)) tab_ok mixed_ok (AllOK.cons (f13_ok K) f13_runs (AllOK.cons (f16_ok K) f16_runs (AllOK.cons (f17_ok K) f17_runs (AllOK.cons (f23_ok K) f23_runs (AllOK.cons (f27_ok K) f27_runs (AllOK.cons (f28_ok K) f28_runs (AllOK.cons (f30_ok K) f30_runs (AllOK.cons (f31_ok K) f31_runs (AllOK.cons (f47_ok K) f47_runs (AllOK.cons (f48_ok K) f48_runs AllOK.nil))))))))))) Tryz.func9 fun x => f9_run K x.1 x.2.1 x.2.2.1
theorem f9_runs : Runs Tryz.prog 9 := runsB_ok (by kernel_rfl)
end Go.Proofs.YthlldmfkdcmcfaaGreat.X
