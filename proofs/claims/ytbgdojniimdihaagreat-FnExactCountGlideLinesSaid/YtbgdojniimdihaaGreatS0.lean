/- Functions of the program as plain Lean functions, and that the program does what they say. Printed by gen.py. -/
import Derived.Test.YtbgdojniimdihaaGreatR0
import Derived.Test.YtbgdojniimdihaaGreatR1
namespace Go.Proofs.YtbgdojniimdihaaGreat.X
open Go
set_option maxRecDepth 100000
set_option linter.unusedVariables false
theorem f52_ok (K : Nat) : Sound Tryz.prog 52 (f52M K) :=
  sound_fn (envOK (E := (f52E K)) tab_ok mixed_ok AllOK.nil) Tryz.func52 fun x => f52_run K x.1 x.2.1
theorem f52_runs : Runs Tryz.prog 52 := runsB_ok (by kernel_rfl)
theorem f27_ok (K : Nat) : Sound Tryz.prog 27 (f27M K) :=
  sound_fn (envOK (E := (f27E K)) tab_ok mixed_ok (AllOK.cons (f52_ok K) f52_runs AllOK.nil)) Tryz.func27 fun x => f27_run K x.1 x.2.1
theorem f27_runs : Runs Tryz.prog 27 := runsB_ok (by kernel_rfl)
theorem f11_ok (K : Nat) : Sound Tryz.prog 11 (f11M K) :=
  sound_fn (envOK (E := (f11E K)) tab_ok mixed_ok AllOK.nil) Tryz.func11 fun x => f11_run K x.1
theorem f11_runs : Runs Tryz.prog 11 := runsB_ok (by kernel_rfl)
theorem f56_ok (K : Nat) : Sound Tryz.prog 56 (f56M K) :=
  sound_fn (envOK (E := (f56E K)) tab_ok mixed_ok AllOK.nil) Tryz.func56 fun x => f56_run K x.1
theorem f56_runs : Runs Tryz.prog 56 := runsB_ok (by kernel_rfl)
theorem f29_ok (K : Nat) : Sound Tryz.prog 29 (f29M K) :=
  sound_fn (envOK (E := (f29E K)) tab_ok mixed_ok (AllOK.cons (f11_ok K) f11_runs (AllOK.cons (f56_ok K) f56_runs AllOK.nil))) Tryz.func29 fun x => f29_run K x.1
theorem f29_runs : Runs Tryz.prog 29 := runsB_ok (by kernel_rfl)
theorem f96_ok (K : Nat) : Sound Tryz.prog 96 (f96M K) :=
  sound_fn (envOK (E := (f96E K)) tab_ok mixed_ok AllOK.nil) Tryz.func96 fun x => f96_run K x.1
theorem f96_runs : Runs Tryz.prog 96 := runsB_ok (by kernel_rfl)
theorem f69_ok (K : Nat) : Sound Tryz.prog 69 (f69M K) :=
  sound_fn (envOK (E := (f69E K)) tab_ok mixed_ok AllOK.nil) Tryz.func69 fun x => f69_run K x.1 x.2.1 x.2.2.1
theorem f69_runs : Runs Tryz.prog 69 := runsB_ok (by kernel_rfl)
theorem f97_ok (K : Nat) : Sound Tryz.prog 97 (f97M K) :=
  sound_fn (envOK (E := (f97E K)) tab_ok mixed_ok (AllOK.cons (f69_ok K) f69_runs AllOK.nil)) Tryz.func97 fun x => f97_run K x.1
theorem f97_runs : Runs Tryz.prog 97 := runsB_ok (by kernel_rfl)
theorem f66_ok (K : Nat) : Sound Tryz.prog 66 (f66M K) :=
  sound_fn (envOK (E := (f66E K)) tab_ok mixed_ok (AllOK.cons (f96_ok K) f96_runs (AllOK.cons (f97_ok K) f97_runs AllOK.nil))) Tryz.func66 fun x => f66_run K x.1 x.2.1
theorem f66_runs : Runs Tryz.prog 66 := runsB_ok (by kernel_rfl)
theorem f80_ok (K : Nat) : Sound Tryz.prog 80 (f80M K) :=
  sound_fn (envOK (E := (f80E K)) tab_ok mixed_ok (AllOK.cons (f69_ok K) f69_runs AllOK.nil)) Tryz.func80 fun x => f80_run K x.1 x.2.1 x.2.2.1 x.2.2.2.1
theorem f80_runs : Runs Tryz.prog 80 := runsB_ok (by kernel_rfl)
theorem f53_ok (K : Nat) : Sound Tryz.prog 53 (f53M K) :=
  sound_fn (envOK (E := (f53E K)) tab_ok mixed_ok (AllOK.cons (f66_ok K) f66_runs (AllOK.cons (f80_ok K) f80_runs AllOK.nil))) Tryz.func53 fun x => f53_run K x.1
theorem f53_runs : Runs Tryz.prog 53 := runsB_ok (by kernel_rfl)
theorem f111_ok (K : Nat) : Sound Tryz.prog 111 (f111M K) :=
  sound_fn (envOK (E := (f111E K)) tab_ok mixed_ok AllOK.nil) Tryz.func111 fun x => f111_run K x.1
theorem f111_runs : Runs Tryz.prog 111 := runsB_ok (by kernel_rfl)
theorem f119_ok (K : Nat) : Sound Tryz.prog 119 (f119M K) :=
  sound_fn (envOK (E := (f119E K)) tab_ok mixed_ok AllOK.nil) Tryz.func119 fun x => f119_run K x.1
theorem f119_runs : Runs Tryz.prog 119 := runsB_ok (by kernel_rfl)
theorem f120_ok (K : Nat) : Sound Tryz.prog 120 (f120M K) :=
  sound_fn (envOK (E := (f120E K)) tab_ok mixed_ok AllOK.nil) Tryz.func120 fun x => f120_run K 
theorem f120_runs : Runs Tryz.prog 120 := runsB_ok (by kernel_rfl)
theorem f104_ok (K : Nat) : Sound Tryz.prog 104 (f104M K) :=
  sound_fn (envOK (E := (f104E K)) tab_ok mixed_ok AllOK.nil) Tryz.func104 fun x => f104_run K x.1 x.2.1
theorem f104_runs : Runs Tryz.prog 104 := runsB_ok (by kernel_rfl)
theorem f103_ok (K : Nat) : Sound Tryz.prog 103 (f103M K) :=
  sound_fn (envOK (E := (f103E K)) tab_ok mixed_ok AllOK.nil) Tryz.func103 fun x => f103_run K x.1 x.2.1
theorem f103_runs : Runs Tryz.prog 103 := runsB_ok (by kernel_rfl)
theorem f72_ok (K : Nat) : Sound Tryz.prog 72 (f72M K) :=
  sound_fn (envOK (E := (f72E K)) tab_ok mixed_ok (AllOK.cons (f103_ok K) f103_runs (AllOK.cons (f104_ok K) f104_runs AllOK.nil))) Tryz.func72 fun x => f72_run K x.1 x.2.1
theorem f72_runs : Runs Tryz.prog 72 := runsB_ok (by kernel_rfl)
theorem f102_ok (K : Nat) : Sound Tryz.prog 102 (f102M K) :=
  sound_fn (envOK (E := (f102E K)) tab_ok mixed_ok AllOK.nil) Tryz.func102 fun x => f102_run K x.1 x.2.1
theorem f102_runs : Runs Tryz.prog 102 := runsB_ok (by kernel_rfl)
theorem f71_ok (K : Nat) : Sound Tryz.prog 71 (f71M K) :=
  sound_fn (envOK (E := (f71E K)) tab_ok mixed_ok (AllOK.cons (f102_ok K) f102_runs AllOK.nil)) Tryz.func71 fun x => f71_run K x.1 x.2.1
theorem f71_runs : Runs Tryz.prog 71 := runsB_ok (by kernel_rfl)
theorem f41_ok (K : Nat) : Sound Tryz.prog 41 (f41M K) :=
  sound_fn (envOK (E := (f41E K)) tab_ok mixed_ok (AllOK.cons (f71_ok K) f71_runs AllOK.nil)) Tryz.func41 fun x => f41_run K x.1 x.2.1
theorem f41_runs : Runs Tryz.prog 41 := runsB_ok (by kernel_rfl)
theorem f118_ok (K : Nat) : Sound Tryz.prog 118 (f118M K) :=
  sound_fn (envOK (E := (f118E K)) tab_ok mixed_ok (AllOK.cons (f41_ok K) f41_runs AllOK.nil)) Tryz.func118 fun x => f118_run K x.1 x.2.1
theorem f118_runs : Runs Tryz.prog 118 := runsB_ok (by kernel_rfl)
theorem f112_ok (K : Nat) : Sound Tryz.prog 112 (f112M K) :=
  sound_fn (envOK (E := (f112E K)) tab_ok mixed_ok (AllOK.cons (f72_ok K) f72_runs (AllOK.cons (f111_ok K) f111_runs (AllOK.cons (f118_ok K) f118_runs AllOK.nil)))) Tryz.func112 fun x => f112_run K x.1 x.2.1
theorem f112_runs : Runs Tryz.prog 112 := runsB_ok (by kernel_rfl)
theorem f116_runs : Runs Tryz.prog 116 := runsB_ok (by kernel_rfl)
theorem f116_okn (K : Nat) : ∀ n, Sound Tryz.prog 116 ⟨[(.ro, (.int .i64)), (.ro, (.int .i64))], [(.int .i64)], fun x => f116R K n x.1 x.2.1⟩
  | 0 => fun _ _ _ _ _ _ _ h => by cases h
  | n + 1 => sound_fn (envOK (E := f116E K (f116R K n)) tab_ok mixed_ok (AllOK.cons (f116_okn K n) f116_runs AllOK.nil)) Tryz.func116 fun x => f116_run K (f116R K n) x.1 x.2.1
theorem f116_ok (K : Nat) : Sound Tryz.prog 116 (f116M K) := f116_okn K K
theorem f114_ok (K : Nat) : Sound Tryz.prog 114 (f114M K) :=
  sound_fn (envOK (E := (f114E K)) tab_ok mixed_ok AllOK.nil) Tryz.func114 fun x => f114_run K x.1 x.2.1
theorem f114_runs : Runs Tryz.prog 114 := runsB_ok (by kernel_rfl)
theorem f121_ok (K : Nat) : Sound Tryz.prog 121 (f121M K) :=
  sound_fn (envOK (E := (f121E K)) tab_ok mixed_ok (AllOK.cons (f102_ok K) f102_runs (AllOK.cons (f114_ok K) f114_runs (AllOK.cons (f116_ok K) f116_runs AllOK.nil)))) Tryz.func121 fun x => f121_run K x.1
theorem f121_runs : Runs Tryz.prog 121 := runsB_ok (by kernel_rfl)
theorem f86_ok (K : Nat) : Sound Tryz.prog 86 (f86M K) :=
  sound_fn (envOK (E := (f86E K)) tab_ok mixed_ok (AllOK.cons (f111_ok K) f111_runs (AllOK.cons (f112_ok K) f112_runs (AllOK.cons (f119_ok K) f119_runs (AllOK.cons (f120_ok K) f120_runs (AllOK.cons (f121_ok K) f121_runs AllOK.nil)))))) Tryz.func86 fun x => f86_run K x.1
theorem f86_runs : Runs Tryz.prog 86 := runsB_ok (by kernel_rfl)
theorem f85_ok (K : Nat) : Sound Tryz.prog 85 (f85M K) :=
  sound_fn (envOK (E := (f85E K)) tab_ok mixed_ok (AllOK.cons (f111_ok K) f111_runs (AllOK.cons (f118_ok K) f118_runs AllOK.nil))) Tryz.func85 fun x => f85_run K x.1 x.2.1
theorem f85_runs : Runs Tryz.prog 85 := runsB_ok (by kernel_rfl)
theorem f55_ok (K : Nat) : Sound Tryz.prog 55 (f55M K) :=
  sound_fn (envOK (E := (f55E K)) tab_ok mixed_ok (AllOK.cons (f85_ok K) f85_runs (AllOK.cons (f86_ok K) f86_runs AllOK.nil))) Tryz.func55 fun x => f55_run K x.1
theorem f55_runs : Runs Tryz.prog 55 := runsB_ok (by kernel_rfl)
theorem f180_ok (K : Nat) : Sound Tryz.prog 180 (f180M K) :=
  sound_fn (envOK (E := (f180E K)) tab_ok mixed_ok AllOK.nil) Tryz.func180 fun x => f180_run K x.1 x.2.1
theorem f180_runs : Runs Tryz.prog 180 := runsB_ok (by kernel_rfl)
theorem f172_ok (K : Nat) : Sound Tryz.prog 172 (f172M K) :=
  sound_fn (envOK (E := (f172E K)) tab_ok mixed_ok (AllOK.cons (f103_ok K) f103_runs (AllOK.cons (f180_ok K) f180_runs AllOK.nil))) Tryz.func172 fun x => f172_run K x.1 x.2.1
theorem f172_runs : Runs Tryz.prog 172 := runsB_ok (by kernel_rfl)
theorem f153_ok (K : Nat) : Sound Tryz.prog 153 (f153M K) :=
  sound_fn (envOK (E := (f153E K)) tab_ok mixed_ok (AllOK.cons (f172_ok K) f172_runs AllOK.nil)) Tryz.func153 fun x => f153_run K x.1
theorem f153_runs : Runs Tryz.prog 153 := runsB_ok (by kernel_rfl)
theorem f154_ok (K : Nat) : Sound Tryz.prog 154 (f154M K) :=
  sound_fn (envOK (E := (f154E K)) tab_ok mixed_ok (AllOK.cons (f104_ok K) f104_runs (AllOK.cons (f119_ok K) f119_runs (AllOK.cons (f121_ok K) f121_runs AllOK.nil)))) Tryz.func154 fun x => f154_run K x.1 x.2.1
theorem f154_runs : Runs Tryz.prog 154 := runsB_ok (by kernel_rfl)
theorem f110_ok (K : Nat) : Sound Tryz.prog 110 (f110M K) :=
  sound_fn (envOK (E := (f110E K)) tab_ok mixed_ok (AllOK.cons (f153_ok K) f153_runs (AllOK.cons (f154_ok K) f154_runs AllOK.nil))) Tryz.func110 fun x => f110_run K x.1 x.2.1
theorem f110_runs : Runs Tryz.prog 110 := runsB_ok (by kernel_rfl)
theorem f81_ok (K : Nat) : Sound Tryz.prog 81 (f81M K) :=
  sound_fn (envOK (E := (f81E K)) tab_ok mixed_ok (AllOK.cons (f110_ok K) f110_runs (AllOK.cons (f111_ok K) f111_runs (AllOK.cons (f112_ok K) f112_runs AllOK.nil)))) Tryz.func81 fun x => f81_run K x.1
theorem f81_runs : Runs Tryz.prog 81 := runsB_ok (by kernel_rfl)
theorem f82_ok (K : Nat) : Sound Tryz.prog 82 (f82M K) :=
  sound_fn (envOK (E := (f82E K)) tab_ok mixed_ok AllOK.nil) Tryz.func82 fun x => f82_run K x.1
theorem f82_runs : Runs Tryz.prog 82 := runsB_ok (by kernel_rfl)
theorem f99_ok (K : Nat) : Sound Tryz.prog 99 (f99M K) :=
  sound_fn (envOK (E := (f99E K)) tab_ok mixed_ok AllOK.nil) Tryz.func99 fun x => f99_run K x.1 x.2.1
theorem f99_runs : Runs Tryz.prog 99 := runsB_ok (by kernel_rfl)
theorem f155_ok (K : Nat) : Sound Tryz.prog 155 (f155M K) :=
  sound_fn (envOK (E := (f155E K)) tab_ok mixed_ok (AllOK.cons (f99_ok K) f99_runs (AllOK.cons (f114_ok K) f114_runs (AllOK.cons (f116_ok K) f116_runs AllOK.nil)))) Tryz.func155 fun x => f155_run K x.1
theorem f155_runs : Runs Tryz.prog 155 := runsB_ok (by kernel_rfl)
theorem f156_ok (K : Nat) : Sound Tryz.prog 156 (f156M K) :=
  sound_fn (envOK (E := (f156E K)) tab_ok mixed_ok (AllOK.cons (f71_ok K) f71_runs AllOK.nil)) Tryz.func156 fun x => f156_run K x.1 x.2.1
theorem f156_runs : Runs Tryz.prog 156 := runsB_ok (by kernel_rfl)
theorem f113_ok (K : Nat) : Sound Tryz.prog 113 (f113M K) :=
  sound_fn (envOK (E := (f113E K)) tab_ok mixed_ok (AllOK.cons (f114_ok K) f114_runs (AllOK.cons (f155_ok K) f155_runs (AllOK.cons (f156_ok K) f156_runs AllOK.nil)))) Tryz.func113 fun x => f113_run K x.1 x.2.1 x.2.2.1
theorem f113_runs : Runs Tryz.prog 113 := runsB_ok (by kernel_rfl)
theorem f117_ok (K : Nat) : Sound Tryz.prog 117 (f117M K) :=
  sound_fn (envOK (E := (f117E K)) tab_ok mixed_ok AllOK.nil) Tryz.func117 fun x => f117_run K x.1 x.2.1
theorem f117_runs : Runs Tryz.prog 117 := runsB_ok (by kernel_rfl)
theorem f84_ok (K : Nat) : Sound Tryz.prog 84 (f84M K) :=
  sound_fn (envOK (E := (f84E K)) tab_ok mixed_ok (AllOK.cons (f113_ok K) f113_runs (AllOK.cons (f117_ok K) f117_runs AllOK.nil))) Tryz.func84 fun x => f84_run K x.1 x.2.1
theorem f84_runs : Runs Tryz.prog 84 := runsB_ok (by kernel_rfl)
theorem f115_ok (K : Nat) : Sound Tryz.prog 115 (f115M K) :=
  sound_fn (envOK (E := (f115E K)) tab_ok mixed_ok (AllOK.cons (f103_ok K) f103_runs (AllOK.cons (f104_ok K) f104_runs AllOK.nil))) Tryz.func115 fun x => f115_run K x.1
theorem f115_runs : Runs Tryz.prog 115 := runsB_ok (by kernel_rfl)
theorem f83_ok (K : Nat) : Sound Tryz.prog 83 (f83M K) :=
  sound_fn (envOK (E := (f83E K)) tab_ok mixed_ok (AllOK.cons (f84_ok K) f84_runs (AllOK.cons (f102_ok K) f102_runs (AllOK.cons (f113_ok K) f113_runs (AllOK.cons (f114_ok K) f114_runs (AllOK.cons (f115_ok K) f115_runs (AllOK.cons (f116_ok K) f116_runs AllOK.nil))))))) Tryz.func83 fun x => f83_run K x.1 x.2.1
theorem f83_runs : Runs Tryz.prog 83 := runsB_ok (by kernel_rfl)
theorem f54_ok (K : Nat) : Sound Tryz.prog 54 (f54M K) :=
  sound_fn (envOK (E := (f54E K)) tab_ok mixed_ok (AllOK.cons (f81_ok K) f81_runs (AllOK.cons (f82_ok K) f82_runs (AllOK.cons (f83_ok K) f83_runs (AllOK.cons (f84_ok K) f84_runs AllOK.nil))))) Tryz.func54 fun x => f54_run K x.1
theorem f54_runs : Runs Tryz.prog 54 := runsB_ok (by kernel_rfl)
theorem f32_ok (K : Nat) : Sound Tryz.prog 32 (f32M K) :=
  sound_fn (envOK (E := (f32E K)) tab_ok mixed_ok (AllOK.cons (f53_ok K) f53_runs (AllOK.cons (f54_ok K) f54_runs (AllOK.cons (f55_ok K) f55_runs AllOK.nil)))) Tryz.func32 fun x => f32_run K x.1
theorem f32_runs : Runs Tryz.prog 32 := runsB_ok (by kernel_rfl)
theorem f77_ok (K : Nat) : Sound Tryz.prog 77 (f77M K) :=
  sound_fn (envOK (E := (f77E K)) tab_ok mixed_ok AllOK.nil) Tryz.func77 fun x => f77_run K x.1 x.2.1 x.2.2.1
theorem f77_runs : Runs Tryz.prog 77 := runsB_ok (by kernel_rfl)
theorem f87_ok (K : Nat) : Sound Tryz.prog 87 (f87M K) :=
  sound_fn (envOK (E := (f87E K)) tab_ok mixed_ok (AllOK.cons (f77_ok K) f77_runs AllOK.nil)) Tryz.func87 fun x => f87_run K x.1
theorem f87_runs : Runs Tryz.prog 87 := runsB_ok (by kernel_rfl)
theorem f78_ok (K : Nat) : Sound Tryz.prog 78 (f78M K) :=
  sound_fn (envOK (E := (f78E K)) tab_ok mixed_ok AllOK.nil) Tryz.func78 fun x => f78_run K x.1
theorem f78_runs : Runs Tryz.prog 78 := runsB_ok (by kernel_rfl)
theorem f88_ok (K : Nat) : Sound Tryz.prog 88 (f88M K) :=
  sound_fn (envOK (E := (f88E K)) tab_ok mixed_ok (AllOK.cons (f77_ok K) f77_runs (AllOK.cons (f78_ok K) f78_runs AllOK.nil))) Tryz.func88 fun x => f88_run K x.1
theorem f88_runs : Runs Tryz.prog 88 := runsB_ok (by kernel_rfl)
theorem f123_ok (K : Nat) : Sound Tryz.prog 123 (f123M K) :=
  sound_fn (envOK (E := (f123E K)) tab_ok mixed_ok (AllOK.cons (f77_ok K) f77_runs AllOK.nil)) Tryz.func123 fun x => f123_run K x.1 x.2.1 x.2.2.1
theorem f123_runs : Runs Tryz.prog 123 := runsB_ok (by kernel_rfl)
theorem f157_ok (K : Nat) : Sound Tryz.prog 157 (f157M K) :=
  sound_fn (envOK (E := (f157E K)) tab_ok mixed_ok AllOK.nil) Tryz.func157 fun x => f157_run K x.1 x.2.1
theorem f157_runs : Runs Tryz.prog 157 := runsB_ok (by kernel_rfl)
theorem f122_ok (K : Nat) : Sound Tryz.prog 122 (f122M K) :=
  sound_fn (envOK (E := (f122E K)) tab_ok mixed_ok (AllOK.cons (f157_ok K) f157_runs AllOK.nil)) Tryz.func122 fun x => f122_run K x.1 x.2.1
theorem f122_runs : Runs Tryz.prog 122 := runsB_ok (by kernel_rfl)
theorem f89_ok (K : Nat) : Sound Tryz.prog 89 (f89M K) :=
  sound_fn (envOK (E := (f89E K)) tab_ok mixed_ok (AllOK.cons (f122_ok K) f122_runs (AllOK.cons (f123_ok K) f123_runs AllOK.nil))) Tryz.func89 fun x => f89_run K x.1 x.2.1 x.2.2.1
theorem f89_runs : Runs Tryz.prog 89 := runsB_ok (by kernel_rfl)
theorem f57_ok (K : Nat) : Sound Tryz.prog 57 (f57M K) :=
  sound_fn (envOK (E := (f57E K)) tab_ok mixed_ok (AllOK.cons (f78_ok K) f78_runs (AllOK.cons (f87_ok K) f87_runs (AllOK.cons (f88_ok K) f88_runs (AllOK.cons (f89_ok K) f89_runs AllOK.nil))))) Tryz.func57 fun x => f57_run K x.1
theorem f57_runs : Runs Tryz.prog 57 := runsB_ok (by kernel_rfl)
theorem f126_ok (K : Nat) : Sound Tryz.prog 126 (f126M K) :=
  sound_fn (envOK (E := (f126E K)) tab_ok mixed_ok AllOK.nil) Tryz.func126 fun x => f126_run K x.1
theorem f126_runs : Runs Tryz.prog 126 := runsB_ok (by kernel_rfl)
theorem f124_ok (K : Nat) : Sound Tryz.prog 124 (f124M K) :=
  sound_fn (envOK (E := (f124E K)) tab_ok mixed_ok AllOK.nil) Tryz.func124 fun x => f124_run K x.1
theorem f124_runs : Runs Tryz.prog 124 := runsB_ok (by kernel_rfl)
theorem f128_ok (K : Nat) : Sound Tryz.prog 128 (f128M K) :=
  sound_fn (envOK (E := (f128E K)) tab_ok mixed_ok AllOK.nil) Tryz.func128 fun x => f128_run K 
theorem f128_runs : Runs Tryz.prog 128 := runsB_ok (by kernel_rfl)
theorem f151_ok (K : Nat) : Sound Tryz.prog 151 (f151M K) :=
  sound_fn (envOK (E := (f151E K)) tab_ok mixed_ok AllOK.nil) Tryz.func151 fun x => f151_run K x.1 x.2.1
theorem f151_runs : Runs Tryz.prog 151 := runsB_ok (by kernel_rfl)
theorem f152_ok (K : Nat) : Sound Tryz.prog 152 (f152M K) :=
  sound_fn (envOK (E := (f152E K)) tab_ok mixed_ok AllOK.nil) Tryz.func152 fun x => f152_run K x.1 x.2.1
theorem f152_runs : Runs Tryz.prog 152 := runsB_ok (by kernel_rfl)
theorem f109_ok (K : Nat) : Sound Tryz.prog 109 (f109M K) :=
  sound_fn (envOK (E := (f109E K)) tab_ok mixed_ok (AllOK.cons (f151_ok K) f151_runs (AllOK.cons (f152_ok K) f152_runs AllOK.nil))) Tryz.func109 fun x => f109_run K x.1 x.2.1
theorem f109_runs : Runs Tryz.prog 109 := runsB_ok (by kernel_rfl)
theorem f150_ok (K : Nat) : Sound Tryz.prog 150 (f150M K) :=
  sound_fn (envOK (E := (f150E K)) tab_ok mixed_ok AllOK.nil) Tryz.func150 fun x => f150_run K x.1 x.2.1
theorem f150_runs : Runs Tryz.prog 150 := runsB_ok (by kernel_rfl)
theorem f108_ok (K : Nat) : Sound Tryz.prog 108 (f108M K) :=
  sound_fn (envOK (E := (f108E K)) tab_ok mixed_ok (AllOK.cons (f150_ok K) f150_runs AllOK.nil)) Tryz.func108 fun x => f108_run K x.1 x.2.1
theorem f108_runs : Runs Tryz.prog 108 := runsB_ok (by kernel_rfl)
theorem f63_ok (K : Nat) : Sound Tryz.prog 63 (f63M K) :=
  sound_fn (envOK (E := (f63E K)) tab_ok mixed_ok AllOK.nil) Tryz.func63 fun x => f63_run K x.1 x.2.1
theorem f63_runs : Runs Tryz.prog 63 := runsB_ok (by kernel_rfl)
theorem f125_ok (K : Nat) : Sound Tryz.prog 125 (f125M K) :=
  sound_fn (envOK (E := (f125E K)) tab_ok mixed_ok (AllOK.cons (f63_ok K) f63_runs (AllOK.cons (f108_ok K) f108_runs AllOK.nil))) Tryz.func125 fun x => f125_run K x.1 x.2.1
theorem f125_runs : Runs Tryz.prog 125 := runsB_ok (by kernel_rfl)
theorem f127_ok (K : Nat) : Sound Tryz.prog 127 (f127M K) :=
  sound_fn (envOK (E := (f127E K)) tab_ok mixed_ok (AllOK.cons (f109_ok K) f109_runs (AllOK.cons (f124_ok K) f124_runs (AllOK.cons (f125_ok K) f125_runs AllOK.nil)))) Tryz.func127 fun x => f127_run K x.1 x.2.1
theorem f127_runs : Runs Tryz.prog 127 := runsB_ok (by kernel_rfl)
theorem f158_ok (K : Nat) : Sound Tryz.prog 158 (f158M K) :=
  sound_fn (envOK (E := (f158E K)) tab_ok mixed_ok AllOK.nil) Tryz.func158 fun x => f158_run K x.1 x.2.1
theorem f158_runs : Runs Tryz.prog 158 := runsB_ok (by kernel_rfl)
theorem f133_ok (K : Nat) : Sound Tryz.prog 133 (f133M K) :=
  sound_fn (envOK (E := (f133E K)) tab_ok mixed_ok AllOK.nil) Tryz.func133 fun x => f133_run K x.1 x.2.1
theorem f133_runs : Runs Tryz.prog 133 := runsB_ok (by kernel_rfl)
theorem f129_ok (K : Nat) : Sound Tryz.prog 129 (f129M K) :=
  sound_fn (envOK (E := (f129E K)) tab_ok mixed_ok (AllOK.cons (f133_ok K) f133_runs (AllOK.cons (f150_ok K) f150_runs (AllOK.cons (f152_ok K) f152_runs (AllOK.cons (f158_ok K) f158_runs AllOK.nil))))) Tryz.func129 fun x => f129_run K x.1
theorem f129_runs : Runs Tryz.prog 129 := runsB_ok (by kernel_rfl)
theorem f91_ok (K : Nat) : Sound Tryz.prog 91 (f91M K) :=
  sound_fn (envOK (E := (f91E K)) tab_ok mixed_ok (AllOK.cons (f124_ok K) f124_runs (AllOK.cons (f126_ok K) f126_runs (AllOK.cons (f127_ok K) f127_runs (AllOK.cons (f128_ok K) f128_runs (AllOK.cons (f129_ok K) f129_runs AllOK.nil)))))) Tryz.func91 fun x => f91_run K x.1
theorem f91_runs : Runs Tryz.prog 91 := runsB_ok (by kernel_rfl)
theorem f90_ok (K : Nat) : Sound Tryz.prog 90 (f90M K) :=
  sound_fn (envOK (E := (f90E K)) tab_ok mixed_ok (AllOK.cons (f124_ok K) f124_runs (AllOK.cons (f125_ok K) f125_runs AllOK.nil))) Tryz.func90 fun x => f90_run K x.1 x.2.1
theorem f90_runs : Runs Tryz.prog 90 := runsB_ok (by kernel_rfl)
theorem f58_ok (K : Nat) : Sound Tryz.prog 58 (f58M K) :=
  sound_fn (envOK (E := (f58E K)) tab_ok mixed_ok (AllOK.cons (f90_ok K) f90_runs (AllOK.cons (f91_ok K) f91_runs AllOK.nil))) Tryz.func58 fun x => f58_run K x.1
theorem f58_runs : Runs Tryz.prog 58 := runsB_ok (by kernel_rfl)
theorem f174_ok (K : Nat) : Sound Tryz.prog 174 (f174M K) :=
  sound_fn (envOK (E := (f174E K)) tab_ok mixed_ok AllOK.nil) Tryz.func174 fun x => f174_run K x.1 x.2.1
theorem f174_runs : Runs Tryz.prog 174 := runsB_ok (by kernel_rfl)
theorem f160_ok (K : Nat) : Sound Tryz.prog 160 (f160M K) :=
  sound_fn (envOK (E := (f160E K)) tab_ok mixed_ok (AllOK.cons (f151_ok K) f151_runs (AllOK.cons (f174_ok K) f174_runs AllOK.nil))) Tryz.func160 fun x => f160_run K x.1
theorem f160_runs : Runs Tryz.prog 160 := runsB_ok (by kernel_rfl)
theorem f162_ok (K : Nat) : Sound Tryz.prog 162 (f162M K) :=
  sound_fn (envOK (E := (f162E K)) tab_ok mixed_ok (AllOK.cons (f108_ok K) f108_runs AllOK.nil)) Tryz.func162 fun x => f162_run K x.1 x.2.1
theorem f162_runs : Runs Tryz.prog 162 := runsB_ok (by kernel_rfl)
theorem f161_ok (K : Nat) : Sound Tryz.prog 161 (f161M K) :=
  sound_fn (envOK (E := (f161E K)) tab_ok mixed_ok (AllOK.cons (f151_ok K) f151_runs (AllOK.cons (f162_ok K) f162_runs AllOK.nil))) Tryz.func161 fun x => f161_run K x.1 x.2.1 x.2.2.1 x.2.2.2.1
theorem f161_runs : Runs Tryz.prog 161 := runsB_ok (by kernel_rfl)
theorem f173_ok (K : Nat) : Sound Tryz.prog 173 (f173M K) :=
  sound_fn (envOK (E := (f173E K)) tab_ok mixed_ok AllOK.nil) Tryz.func173 fun x => f173_run K x.1 x.2.1
theorem f173_runs : Runs Tryz.prog 173 := runsB_ok (by kernel_rfl)
theorem f159_ok (K : Nat) : Sound Tryz.prog 159 (f159M K) :=
  sound_fn (envOK (E := (f159E K)) tab_ok mixed_ok (AllOK.cons (f173_ok K) f173_runs AllOK.nil)) Tryz.func159 fun x => f159_run K x.1 x.2.1
theorem f159_runs : Runs Tryz.prog 159 := runsB_ok (by kernel_rfl)
theorem f130_ok (K : Nat) : Sound Tryz.prog 130 (f130M K) :=
  sound_fn (envOK (E := (f130E K)) tab_ok mixed_ok (AllOK.cons (f126_ok K) f126_runs (AllOK.cons (f159_ok K) f159_runs (AllOK.cons (f160_ok K) f160_runs (AllOK.cons (f161_ok K) f161_runs AllOK.nil))))) Tryz.func130 fun x => f130_run K x.1 x.2.1
theorem f130_runs : Runs Tryz.prog 130 := runsB_ok (by kernel_rfl)
theorem f92_ok (K : Nat) : Sound Tryz.prog 92 (f92M K) :=
  sound_fn (envOK (E := (f92E K)) tab_ok mixed_ok (AllOK.cons (f124_ok K) f124_runs (AllOK.cons (f127_ok K) f127_runs (AllOK.cons (f130_ok K) f130_runs AllOK.nil)))) Tryz.func92 fun x => f92_run K x.1
theorem f92_runs : Runs Tryz.prog 92 := runsB_ok (by kernel_rfl)
theorem f93_ok (K : Nat) : Sound Tryz.prog 93 (f93M K) :=
  sound_fn (envOK (E := (f93E K)) tab_ok mixed_ok AllOK.nil) Tryz.func93 fun x => f93_run K x.1
theorem f93_runs : Runs Tryz.prog 93 := runsB_ok (by kernel_rfl)
theorem f163_ok (K : Nat) : Sound Tryz.prog 163 (f163M K) :=
  sound_fn (envOK (E := (f163E K)) tab_ok mixed_ok (AllOK.cons (f93_ok K) f93_runs (AllOK.cons (f128_ok K) f128_runs AllOK.nil))) Tryz.func163 fun x => f163_run K x.1
theorem f163_runs : Runs Tryz.prog 163 := runsB_ok (by kernel_rfl)
theorem f131_ok (K : Nat) : Sound Tryz.prog 131 (f131M K) :=
  sound_fn (envOK (E := (f131E K)) tab_ok mixed_ok (AllOK.cons (f93_ok K) f93_runs (AllOK.cons (f163_ok K) f163_runs AllOK.nil))) Tryz.func131 fun x => f131_run K x.1
theorem f131_runs : Runs Tryz.prog 131 := runsB_ok (by kernel_rfl)
theorem f144_ok (K : Nat) : Sound Tryz.prog 144 (f144M K) :=
  sound_fn (envOK (E := (f144E K)) tab_ok mixed_ok (AllOK.cons (f77_ok K) f77_runs AllOK.nil)) Tryz.func144 fun x => f144_run K x.1
theorem f144_runs : Runs Tryz.prog 144 := runsB_ok (by kernel_rfl)
theorem f181_ok (K : Nat) : Sound Tryz.prog 181 (f181M K) :=
  sound_fn (envOK (E := (f181E K)) tab_ok mixed_ok (AllOK.cons (f144_ok K) f144_runs AllOK.nil)) Tryz.func181 fun x => f181_run K x.1
theorem f181_runs : Runs Tryz.prog 181 := runsB_ok (by kernel_rfl)
theorem f175_ok (K : Nat) : Sound Tryz.prog 175 (f175M K) :=
  sound_fn (envOK (E := (f175E K)) tab_ok mixed_ok (AllOK.cons (f93_ok K) f93_runs (AllOK.cons (f181_ok K) f181_runs AllOK.nil))) Tryz.func175 fun x => f175_run K x.1
theorem f175_runs : Runs Tryz.prog 175 := runsB_ok (by kernel_rfl)
theorem f145_ok (K : Nat) : Sound Tryz.prog 145 (f145M K) :=
  sound_fn (envOK (E := (f145E K)) tab_ok mixed_ok AllOK.nil) Tryz.func145 fun x => f145_run K x.1 x.2.1
theorem f145_runs : Runs Tryz.prog 145 := runsB_ok (by kernel_rfl)
theorem f106_ok (K : Nat) : Sound Tryz.prog 106 (f106M K) :=
  sound_fn (envOK (E := (f106E K)) tab_ok mixed_ok (AllOK.cons (f145_ok K) f145_runs AllOK.nil)) Tryz.func106 fun x => f106_run K x.1 x.2.1
theorem f106_runs : Runs Tryz.prog 106 := runsB_ok (by kernel_rfl)
theorem f105_ok (K : Nat) : Sound Tryz.prog 105 (f105M K) :=
  sound_fn (envOK (E := (f105E K)) tab_ok mixed_ok (AllOK.cons (f144_ok K) f144_runs AllOK.nil)) Tryz.func105 fun x => f105_run K x.1
theorem f105_runs : Runs Tryz.prog 105 := runsB_ok (by kernel_rfl)
theorem f176_ok (K : Nat) : Sound Tryz.prog 176 (f176M K) :=
  sound_fn (envOK (E := (f176E K)) tab_ok mixed_ok (AllOK.cons (f105_ok K) f105_runs AllOK.nil)) Tryz.func176 fun x => f176_run K x.1
theorem f176_runs : Runs Tryz.prog 176 := runsB_ok (by kernel_rfl)
theorem f164_ok (K : Nat) : Sound Tryz.prog 164 (f164M K) :=
  sound_fn (envOK (E := (f164E K)) tab_ok mixed_ok (AllOK.cons (f106_ok K) f106_runs (AllOK.cons (f131_ok K) f131_runs (AllOK.cons (f133_ok K) f133_runs (AllOK.cons (f158_ok K) f158_runs (AllOK.cons (f175_ok K) f175_runs (AllOK.cons (f176_ok K) f176_runs AllOK.nil))))))) Tryz.func164 fun x => f164_run K x.1
theorem f164_runs : Runs Tryz.prog 164 := runsB_ok (by kernel_rfl)
theorem f136_ok (K : Nat) : Sound Tryz.prog 136 (f136M K) :=
  sound_fn (envOK (E := (f136E K)) tab_ok mixed_ok (AllOK.cons (f164_ok K) f164_runs AllOK.nil)) Tryz.func136 fun x => f136_run K x.1
theorem f136_runs : Runs Tryz.prog 136 := runsB_ok (by kernel_rfl)
theorem f132_ok (K : Nat) : Sound Tryz.prog 132 (f132M K) :=
  sound_fn (envOK (E := (f132E K)) tab_ok mixed_ok (AllOK.cons (f136_ok K) f136_runs (AllOK.cons (f151_ok K) f151_runs (AllOK.cons (f152_ok K) f152_runs AllOK.nil)))) Tryz.func132 fun x => f132_run K x.1 x.2.1
theorem f132_runs : Runs Tryz.prog 132 := runsB_ok (by kernel_rfl)
theorem f94_ok (K : Nat) : Sound Tryz.prog 94 (f94M K) :=
  sound_fn (envOK (E := (f94E K)) tab_ok mixed_ok (AllOK.cons (f126_ok K) f126_runs (AllOK.cons (f131_ok K) f131_runs (AllOK.cons (f132_ok K) f132_runs (AllOK.cons (f133_ok K) f133_runs AllOK.nil))))) Tryz.func94 fun x => f94_run K x.1 x.2.1
theorem f94_runs : Runs Tryz.prog 94 := runsB_ok (by kernel_rfl)
theorem f135_ok (K : Nat) : Sound Tryz.prog 135 (f135M K) :=
  sound_fn (envOK (E := (f135E K)) tab_ok mixed_ok (AllOK.cons (f152_ok K) f152_runs (AllOK.cons (f162_ok K) f162_runs AllOK.nil))) Tryz.func135 fun x => f135_run K x.1 x.2.1
theorem f135_runs : Runs Tryz.prog 135 := runsB_ok (by kernel_rfl)
theorem f137_ok (K : Nat) : Sound Tryz.prog 137 (f137M K) :=
  sound_fn (envOK (E := (f137E K)) tab_ok mixed_ok AllOK.nil) Tryz.func137 fun x => f137_run K x.1
theorem f137_runs : Runs Tryz.prog 137 := runsB_ok (by kernel_rfl)
theorem f134_ok (K : Nat) : Sound Tryz.prog 134 (f134M K) :=
  sound_fn (envOK (E := (f134E K)) tab_ok mixed_ok AllOK.nil) Tryz.func134 fun x => f134_run K x.1 x.2.1
theorem f134_runs : Runs Tryz.prog 134 := runsB_ok (by kernel_rfl)
theorem f95_ok (K : Nat) : Sound Tryz.prog 95 (f95M K) :=
  sound_fn (envOK (E := (f95E K)) tab_ok mixed_ok (AllOK.cons (f78_ok K) f78_runs (AllOK.cons (f134_ok K) f134_runs (AllOK.cons (f135_ok K) f135_runs (AllOK.cons (f136_ok K) f136_runs (AllOK.cons (f137_ok K) f137_runs AllOK.nil)))))) Tryz.func95 fun x => f95_run K x.1 x.2.1
theorem f95_runs : Runs Tryz.prog 95 := runsB_ok (by kernel_rfl)
theorem f59_ok (K : Nat) : Sound Tryz.prog 59 (f59M K) :=
  sound_fn (envOK (E := (f59E K)) tab_ok mixed_ok (AllOK.cons (f92_ok K) f92_runs (AllOK.cons (f93_ok K) f93_runs (AllOK.cons (f94_ok K) f94_runs (AllOK.cons (f95_ok K) f95_runs AllOK.nil))))) Tryz.func59 fun x => f59_run K x.1
theorem f59_runs : Runs Tryz.prog 59 := runsB_ok (by kernel_rfl)
theorem f33_ok (K : Nat) : Sound Tryz.prog 33 (f33M K) :=
  sound_fn (envOK (E := (f33E K)) tab_ok mixed_ok (AllOK.cons (f57_ok K) f57_runs (AllOK.cons (f58_ok K) f58_runs (AllOK.cons (f59_ok K) f59_runs AllOK.nil)))) Tryz.func33 fun x => f33_run K x.1
theorem f33_runs : Runs Tryz.prog 33 := runsB_ok (by kernel_rfl)
theorem f60_ok (K : Nat) : Sound Tryz.prog 60 (f60M K) :=
  sound_fn (envOK (E := (f60E K)) tab_ok mixed_ok AllOK.nil) Tryz.func60 fun x => f60_run K x.1 x.2.1
theorem f60_runs : Runs Tryz.prog 60 := runsB_ok (by kernel_rfl)
theorem f61_ok (K : Nat) : Sound Tryz.prog 61 (f61M K) :=
  sound_fn (envOK (E := (f61E K)) tab_ok mixed_ok AllOK.nil) Tryz.func61 fun x => f61_run K x.1 x.2.1
theorem f61_runs : Runs Tryz.prog 61 := runsB_ok (by kernel_rfl)
theorem f31_ok (K : Nat) : Sound Tryz.prog 31 (f31M K) :=
  sound_fn (envOK (E := (f31E K)) tab_ok mixed_ok (AllOK.cons (f60_ok K) f60_runs (AllOK.cons (f61_ok K) f61_runs AllOK.nil))) Tryz.func31 fun x => f31_run K x.1 x.2.1
theorem f31_runs : Runs Tryz.prog 31 := runsB_ok (by kernel_rfl)
theorem f6_ok (K : Nat) : Sound Tryz.prog 6 (f6M K) :=
  sound_fn (envOK (E := (f6E K)) tab_ok mixed_ok (AllOK.cons (f27_ok K) f27_runs (AllOK.cons (f29_ok K) f29_runs (AllOK.cons (f31_ok K) f31_runs (AllOK.cons (f32_ok K) f32_runs (AllOK.cons (f33_ok K) f33_runs AllOK.nil)))))) Tryz.func6 fun x => f6_run K x.1
theorem f6_runs : Runs Tryz.prog 6 := runsB_ok (by kernel_rfl)
theorem f28_ok (K : Nat) : Sound Tryz.prog 28 (f28M K) :=
  sound_fn (envOK (E := (f28E K)) tab_ok mixed_ok (AllOK.cons (f53_ok K) f53_runs (AllOK.cons (f54_ok K) f54_runs (AllOK.cons (f55_ok K) f55_runs AllOK.nil)))) Tryz.func28 fun x => f28_run K x.1
theorem f28_runs : Runs Tryz.prog 28 := runsB_ok (by kernel_rfl)
theorem f30_ok (K : Nat) : Sound Tryz.prog 30 (f30M K) :=
  sound_fn (envOK (E := (f30E K)) tab_ok mixed_ok (AllOK.cons (f57_ok K) f57_runs (AllOK.cons (f58_ok K) f58_runs (AllOK.cons (f59_ok K) f59_runs AllOK.nil)))) Tryz.func30 fun x => f30_run K x.1
theorem f30_runs : Runs Tryz.prog 30 := runsB_ok (by kernel_rfl)
theorem f5_ok (K : Nat) : Sound Tryz.prog 5 (f5M K) :=
  sound_fn (envOK (E := (f5E K)) tab_ok mixed_ok (AllOK.cons (f27_ok K) f27_runs (AllOK.cons (f28_ok K) f28_runs (AllOK.cons (f29_ok K) f29_runs (AllOK.cons (f30_ok K) f30_runs (AllOK.cons (f31_ok K) f31_runs AllOK.nil)))))) Tryz.func5 fun x => f5_run K x.1
theorem f5_runs : Runs Tryz.prog 5 := runsB_ok (by kernel_rfl)
end Go.Proofs.YtbgdojniimdihaaGreat.X
