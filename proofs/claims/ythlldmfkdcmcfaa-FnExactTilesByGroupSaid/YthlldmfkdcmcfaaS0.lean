/- Functions of the program as plain Lean functions, and that the program does what they say. Printed by gen.py. -/
import Derived.Test.YthlldmfkdcmcfaaR0
import Derived.Test.YthlldmfkdcmcfaaR1
namespace Go.Proofs.Ythlldmfkdcmcfaa.X
open Go
set_option maxRecDepth 100000
set_option linter.unusedVariables false
theorem f5_ok (K : Nat) : Sound Try.prog 5 (f5M K) :=
  sound_fn (envOK (E := (f5E K)) tab_ok mixed_ok AllOK.nil) Try.func5 fun x => f5_run K x.1 x.2.1
theorem f5_runs : Runs Try.prog 5 := runsB_ok (by kernel_rfl)
theorem f6_ok (K : Nat) : Sound Try.prog 6 (f6M K) :=
  sound_fn (envOK (E := (f6E K)) tab_ok mixed_ok AllOK.nil) Try.func6 fun x => f6_run K x.1 x.2.1
theorem f6_runs : Runs Try.prog 6 := runsB_ok (by kernel_rfl)
theorem f8_ok (K : Nat) : Sound Try.prog 8 (f8M K) :=
  sound_fn (envOK (E := (f8E K)) tab_ok mixed_ok AllOK.nil) Try.func8 fun x => f8_run K x.1
theorem f8_runs : Runs Try.prog 8 := runsB_ok (by kernel_rfl)
theorem f39_ok (K : Nat) : Sound Try.prog 39 (f39M K) :=
  sound_fn (envOK (E := (f39E K)) tab_ok mixed_ok AllOK.nil) Try.func39 fun x => f39_run K x.1
theorem f39_runs : Runs Try.prog 39 := runsB_ok (by kernel_rfl)
theorem f22_ok (K : Nat) : Sound Try.prog 22 (f22M K) :=
  sound_fn (envOK (E := (f22E K)) tab_ok mixed_ok AllOK.nil) Try.func22 fun x => f22_run K x.1
theorem f22_runs : Runs Try.prog 22 := runsB_ok (by kernel_rfl)
theorem f21_ok (K : Nat) : Sound Try.prog 21 (f21M K) :=
  sound_fn (envOK (E := (f21E K)) tab_ok mixed_ok (AllOK.cons (f22_ok K) f22_runs (AllOK.cons (f39_ok K) f39_runs AllOK.nil))) Try.func21 fun x => f21_run K x.1
theorem f21_runs : Runs Try.prog 21 := runsB_ok (by kernel_rfl)
theorem f9_ok (K : Nat) : Sound Try.prog 9 (f9M K) :=
  sound_fn (envOK (E := (f9E K)) tab_ok mixed_ok (AllOK.cons (f21_ok K) f21_runs AllOK.nil)) Try.func9 fun x => f9_run K x.1
theorem f9_runs : Runs Try.prog 9 := runsB_ok (by kernel_rfl)
theorem f10_ok (K : Nat) : Sound Try.prog 10 (f10M K) :=
  sound_fn (envOK (E := (f10E K)) tab_ok mixed_ok (AllOK.cons (f22_ok K) f22_runs AllOK.nil)) Try.func10 fun x => f10_run K x.1
theorem f10_runs : Runs Try.prog 10 := runsB_ok (by kernel_rfl)
theorem f52_ok (K : Nat) : Sound Try.prog 52 (f52M K) :=
  sound_fn (envOK (E := (f52E K)) tab_ok mixed_ok AllOK.nil) Try.func52 fun x => f52_run K x.1
theorem f52_runs : Runs Try.prog 52 := runsB_ok (by kernel_rfl)
theorem f66_ok (K : Nat) : Sound Try.prog 66 (f66M K) :=
  sound_fn (envOK (E := (f66E K)) tab_ok mixed_ok AllOK.nil) Try.func66 fun x => f66_run K x.1 x.2.1 x.2.2.1
theorem f66_runs : Runs Try.prog 66 := runsB_ok (by kernel_rfl)
theorem f53_ok (K : Nat) : Sound Try.prog 53 (f53M K) :=
  sound_fn (envOK (E := (f53E K)) tab_ok mixed_ok (AllOK.cons (f66_ok K) f66_runs AllOK.nil)) Try.func53 fun x => f53_run K x.1
theorem f53_runs : Runs Try.prog 53 := runsB_ok (by kernel_rfl)
theorem f33_ok (K : Nat) : Sound Try.prog 33 (f33M K) :=
  sound_fn (envOK (E := (f33E K)) tab_ok mixed_ok (AllOK.cons (f52_ok K) f52_runs (AllOK.cons (f53_ok K) f53_runs AllOK.nil))) Try.func33 fun x => f33_run K x.1 x.2.1
theorem f33_runs : Runs Try.prog 33 := runsB_ok (by kernel_rfl)
theorem f54_ok (K : Nat) : Sound Try.prog 54 (f54M K) :=
  sound_fn (envOK (E := (f54E K)) tab_ok mixed_ok (AllOK.cons (f66_ok K) f66_runs AllOK.nil)) Try.func54 fun x => f54_run K x.1
theorem f54_runs : Runs Try.prog 54 := runsB_ok (by kernel_rfl)
theorem f55_ok (K : Nat) : Sound Try.prog 55 (f55M K) :=
  sound_fn (envOK (E := (f55E K)) tab_ok mixed_ok AllOK.nil) Try.func55 fun x => f55_run K x.1 x.2.1
theorem f55_runs : Runs Try.prog 55 := runsB_ok (by kernel_rfl)
theorem f34_ok (K : Nat) : Sound Try.prog 34 (f34M K) :=
  sound_fn (envOK (E := (f34E K)) tab_ok mixed_ok (AllOK.cons (f54_ok K) f54_runs (AllOK.cons (f55_ok K) f55_runs AllOK.nil))) Try.func34 fun x => f34_run K x.1
theorem f34_runs : Runs Try.prog 34 := runsB_ok (by kernel_rfl)
theorem f113_ok (K : Nat) : Sound Try.prog 113 (f113M K) :=
  sound_fn (envOK (E := (f113E K)) tab_ok mixed_ok (AllOK.cons (f54_ok K) f54_runs AllOK.nil)) Try.func113 fun x => f113_run K x.1
theorem f113_runs : Runs Try.prog 113 := runsB_ok (by kernel_rfl)
theorem f114_ok (K : Nat) : Sound Try.prog 114 (f114M K) :=
  sound_fn (envOK (E := (f114E K)) tab_ok mixed_ok AllOK.nil) Try.func114 fun x => f114_run K x.1
theorem f114_runs : Runs Try.prog 114 := runsB_ok (by kernel_rfl)
theorem f105_ok (K : Nat) : Sound Try.prog 105 (f105M K) :=
  sound_fn (envOK (E := (f105E K)) tab_ok mixed_ok (AllOK.cons (f113_ok K) f113_runs (AllOK.cons (f114_ok K) f114_runs AllOK.nil))) Try.func105 fun x => f105_run K x.1
theorem f105_runs : Runs Try.prog 105 := runsB_ok (by kernel_rfl)
theorem f115_ok (K : Nat) : Sound Try.prog 115 (f115M K) :=
  sound_fn (envOK (E := (f115E K)) tab_ok mixed_ok AllOK.nil) Try.func115 fun x => f115_run K x.1 x.2.1
theorem f115_runs : Runs Try.prog 115 := runsB_ok (by kernel_rfl)
theorem f92_ok (K : Nat) : Sound Try.prog 92 (f92M K) :=
  sound_fn (envOK (E := (f92E K)) tab_ok mixed_ok AllOK.nil) Try.func92 fun x => f92_run K x.1 x.2.1
theorem f92_runs : Runs Try.prog 92 := runsB_ok (by kernel_rfl)
theorem f106_ok (K : Nat) : Sound Try.prog 106 (f106M K) :=
  sound_fn (envOK (E := (f106E K)) tab_ok mixed_ok (AllOK.cons (f92_ok K) f92_runs (AllOK.cons (f115_ok K) f115_runs AllOK.nil))) Try.func106 fun x => f106_run K x.1 x.2.1
theorem f106_runs : Runs Try.prog 106 := runsB_ok (by kernel_rfl)
theorem f86_ok (K : Nat) : Sound Try.prog 86 (f86M K) :=
  sound_fn (envOK (E := (f86E K)) tab_ok mixed_ok (AllOK.cons (f52_ok K) f52_runs (AllOK.cons (f105_ok K) f105_runs (AllOK.cons (f106_ok K) f106_runs AllOK.nil)))) Try.func86 fun x => f86_run K x.1 x.2.1
theorem f86_runs : Runs Try.prog 86 := runsB_ok (by kernel_rfl)
theorem f107_ok (K : Nat) : Sound Try.prog 107 (f107M K) :=
  sound_fn (envOK (E := (f107E K)) tab_ok mixed_ok AllOK.nil) Try.func107 fun x => f107_run K x.1
theorem f107_runs : Runs Try.prog 107 := runsB_ok (by kernel_rfl)
theorem f93_ok (K : Nat) : Sound Try.prog 93 (f93M K) :=
  sound_fn (envOK (E := (f93E K)) tab_ok mixed_ok AllOK.nil) Try.func93 fun x => f93_run K x.1 x.2.1
theorem f93_runs : Runs Try.prog 93 := runsB_ok (by kernel_rfl)
theorem f116_runs : Runs Try.prog 116 := runsB_ok (by kernel_rfl)
theorem f116_okn (K : Nat) : ∀ n, Sound Try.prog 116 ⟨[(.ro, (.int .i64)), (.ro, (.int .i64))], [(.int .i64)], fun x => f116R K n x.1 x.2.1⟩
  | 0 => fun _ _ _ _ _ _ _ h => by cases h
  | n + 1 => sound_fn (envOK (E := f116E K (f116R K n)) tab_ok mixed_ok (AllOK.cons (f116_okn K n) f116_runs AllOK.nil)) Try.func116 fun x => f116_run K (f116R K n) x.1 x.2.1
theorem f116_ok (K : Nat) : Sound Try.prog 116 (f116M K) := f116_okn K K
theorem f74_ok (K : Nat) : Sound Try.prog 74 (f74M K) :=
  sound_fn (envOK (E := (f74E K)) tab_ok mixed_ok AllOK.nil) Try.func74 fun x => f74_run K x.1 x.2.1
theorem f74_runs : Runs Try.prog 74 := runsB_ok (by kernel_rfl)
theorem f117_ok (K : Nat) : Sound Try.prog 117 (f117M K) :=
  sound_fn (envOK (E := (f117E K)) tab_ok mixed_ok AllOK.nil) Try.func117 fun x => f117_run K x.1 x.2.1
theorem f117_runs : Runs Try.prog 117 := runsB_ok (by kernel_rfl)
theorem f108_ok (K : Nat) : Sound Try.prog 108 (f108M K) :=
  sound_fn (envOK (E := (f108E K)) tab_ok mixed_ok (AllOK.cons (f74_ok K) f74_runs (AllOK.cons (f116_ok K) f116_runs (AllOK.cons (f117_ok K) f117_runs AllOK.nil)))) Try.func108 fun x => f108_run K x.1
theorem f108_runs : Runs Try.prog 108 := runsB_ok (by kernel_rfl)
theorem f87_ok (K : Nat) : Sound Try.prog 87 (f87M K) :=
  sound_fn (envOK (E := (f87E K)) tab_ok mixed_ok (AllOK.cons (f93_ok K) f93_runs (AllOK.cons (f107_ok K) f107_runs (AllOK.cons (f108_ok K) f108_runs AllOK.nil)))) Try.func87 fun x => f87_run K x.1 x.2.1
theorem f87_runs : Runs Try.prog 87 := runsB_ok (by kernel_rfl)
theorem f67_ok (K : Nat) : Sound Try.prog 67 (f67M K) :=
  sound_fn (envOK (E := (f67E K)) tab_ok mixed_ok (AllOK.cons (f33_ok K) f33_runs (AllOK.cons (f54_ok K) f54_runs (AllOK.cons (f86_ok K) f86_runs (AllOK.cons (f87_ok K) f87_runs AllOK.nil))))) Try.func67 fun x => f67_run K x.1 x.2.1 x.2.2.1
theorem f67_runs : Runs Try.prog 67 := runsB_ok (by kernel_rfl)
theorem f59_ok (K : Nat) : Sound Try.prog 59 (f59M K) :=
  sound_fn (envOK (E := (f59E K)) tab_ok mixed_ok (AllOK.cons (f74_ok K) f74_runs AllOK.nil)) Try.func59 fun x => f59_run K x.1 x.2.1
theorem f59_runs : Runs Try.prog 59 := runsB_ok (by kernel_rfl)
theorem f68_ok (K : Nat) : Sound Try.prog 68 (f68M K) :=
  sound_fn (envOK (E := (f68E K)) tab_ok mixed_ok (AllOK.cons (f59_ok K) f59_runs AllOK.nil)) Try.func68 fun x => f68_run K x.1 x.2.1
theorem f68_runs : Runs Try.prog 68 := runsB_ok (by kernel_rfl)
theorem f110_ok (K : Nat) : Sound Try.prog 110 (f110M K) :=
  sound_fn (envOK (E := (f110E K)) tab_ok mixed_ok AllOK.nil) Try.func110 fun x => f110_run K x.1
theorem f110_runs : Runs Try.prog 110 := runsB_ok (by kernel_rfl)
theorem f109_ok (K : Nat) : Sound Try.prog 109 (f109M K) :=
  sound_fn (envOK (E := (f109E K)) tab_ok mixed_ok AllOK.nil) Try.func109 fun x => f109_run K x.1 x.2.1
theorem f109_runs : Runs Try.prog 109 := runsB_ok (by kernel_rfl)
theorem f88_ok (K : Nat) : Sound Try.prog 88 (f88M K) :=
  sound_fn (envOK (E := (f88E K)) tab_ok mixed_ok (AllOK.cons (f109_ok K) f109_runs (AllOK.cons (f110_ok K) f110_runs AllOK.nil))) Try.func88 fun x => f88_run K x.1 x.2.1
theorem f88_runs : Runs Try.prog 88 := runsB_ok (by kernel_rfl)
theorem f69_ok (K : Nat) : Sound Try.prog 69 (f69M K) :=
  sound_fn (envOK (E := (f69E K)) tab_ok mixed_ok (AllOK.cons (f55_ok K) f55_runs (AllOK.cons (f88_ok K) f88_runs AllOK.nil))) Try.func69 fun x => f69_run K x.1 x.2.1
theorem f69_runs : Runs Try.prog 69 := runsB_ok (by kernel_rfl)
theorem f90_ok (K : Nat) : Sound Try.prog 90 (f90M K) :=
  sound_fn (envOK (E := (f90E K)) tab_ok mixed_ok AllOK.nil) Try.func90 fun x => f90_run K 
theorem f90_runs : Runs Try.prog 90 := runsB_ok (by kernel_rfl)
theorem f71_ok (K : Nat) : Sound Try.prog 71 (f71M K) :=
  sound_fn (envOK (E := (f71E K)) tab_ok mixed_ok (AllOK.cons (f90_ok K) f90_runs AllOK.nil)) Try.func71 fun x => f71_run K 
theorem f71_runs : Runs Try.prog 71 := runsB_ok (by kernel_rfl)
theorem f89_ok (K : Nat) : Sound Try.prog 89 (f89M K) :=
  sound_fn (envOK (E := (f89E K)) tab_ok mixed_ok (AllOK.cons (f69_ok K) f69_runs AllOK.nil)) Try.func89 fun x => f89_run K x.1 x.2.1
theorem f89_runs : Runs Try.prog 89 := runsB_ok (by kernel_rfl)
theorem f70_ok (K : Nat) : Sound Try.prog 70 (f70M K) :=
  sound_fn (envOK (E := (f70E K)) tab_ok mixed_ok (AllOK.cons (f89_ok K) f89_runs AllOK.nil)) Try.func70 fun x => f70_run K x.1 x.2.1
theorem f70_runs : Runs Try.prog 70 := runsB_ok (by kernel_rfl)
theorem f91_ok (K : Nat) : Sound Try.prog 91 (f91M K) :=
  sound_fn (envOK (E := (f91E K)) tab_ok mixed_ok AllOK.nil) Try.func91 fun x => f91_run K x.1 x.2.1
theorem f91_runs : Runs Try.prog 91 := runsB_ok (by kernel_rfl)
theorem f72_ok (K : Nat) : Sound Try.prog 72 (f72M K) :=
  sound_fn (envOK (E := (f72E K)) tab_ok mixed_ok (AllOK.cons (f91_ok K) f91_runs (AllOK.cons (f92_ok K) f92_runs (AllOK.cons (f93_ok K) f93_runs AllOK.nil)))) Try.func72 fun x => f72_run K x.1 x.2.1
theorem f72_runs : Runs Try.prog 72 := runsB_ok (by kernel_rfl)
theorem f57_ok (K : Nat) : Sound Try.prog 57 (f57M K) :=
  sound_fn (envOK (E := (f57E K)) tab_ok mixed_ok (AllOK.cons (f33_ok K) f33_runs (AllOK.cons (f67_ok K) f67_runs (AllOK.cons (f68_ok K) f68_runs (AllOK.cons (f69_ok K) f69_runs (AllOK.cons (f70_ok K) f70_runs (AllOK.cons (f71_ok K) f71_runs (AllOK.cons (f72_ok K) f72_runs AllOK.nil)))))))) Try.func57 fun x => f57_run K x.1 x.2.1 x.2.2.1
theorem f57_runs : Runs Try.prog 57 := runsB_ok (by kernel_rfl)
theorem f56_ok (K : Nat) : Sound Try.prog 56 (f56M K) :=
  sound_fn (envOK (E := (f56E K)) tab_ok mixed_ok (AllOK.cons (f33_ok K) f33_runs AllOK.nil)) Try.func56 fun x => f56_run K x.1 x.2.1 x.2.2.1
theorem f56_runs : Runs Try.prog 56 := runsB_ok (by kernel_rfl)
theorem f35_ok (K : Nat) : Sound Try.prog 35 (f35M K) :=
  sound_fn (envOK (E := (f35E K)) tab_ok mixed_ok (AllOK.cons (f56_ok K) f56_runs (AllOK.cons (f57_ok K) f57_runs AllOK.nil))) Try.func35 fun x => f35_run K x.1 x.2.1 x.2.2.1 x.2.2.2.1
theorem f35_runs : Runs Try.prog 35 := runsB_ok (by kernel_rfl)
theorem f19_ok (K : Nat) : Sound Try.prog 19 (f19M K) :=
  sound_fn (envOK (E := (f19E K)) tab_ok mixed_ok (AllOK.cons (f33_ok K) f33_runs (AllOK.cons (f34_ok K) f34_runs (AllOK.cons (f35_ok K) f35_runs AllOK.nil)))) Try.func19 fun x => f19_run K x.1 x.2.1 x.2.2.1 x.2.2.2.1
theorem f19_runs : Runs Try.prog 19 := runsB_ok (by kernel_rfl)
theorem f73_ok (K : Nat) : Sound Try.prog 73 (f73M K) :=
  sound_fn (envOK (E := (f73E K)) tab_ok mixed_ok (AllOK.cons (f92_ok K) f92_runs (AllOK.cons (f93_ok K) f93_runs AllOK.nil))) Try.func73 fun x => f73_run K x.1 x.2.1
theorem f73_runs : Runs Try.prog 73 := runsB_ok (by kernel_rfl)
theorem f58_ok (K : Nat) : Sound Try.prog 58 (f58M K) :=
  sound_fn (envOK (E := (f58E K)) tab_ok mixed_ok (AllOK.cons (f59_ok K) f59_runs (AllOK.cons (f73_ok K) f73_runs AllOK.nil))) Try.func58 fun x => f58_run K x.1 x.2.1 x.2.2.1
theorem f58_runs : Runs Try.prog 58 := runsB_ok (by kernel_rfl)
theorem f36_ok (K : Nat) : Sound Try.prog 36 (f36M K) :=
  sound_fn (envOK (E := (f36E K)) tab_ok mixed_ok (AllOK.cons (f58_ok K) f58_runs AllOK.nil)) Try.func36 fun x => f36_run K x.1 x.2.1 x.2.2.1
theorem f36_runs : Runs Try.prog 36 := runsB_ok (by kernel_rfl)
theorem f37_ok (K : Nat) : Sound Try.prog 37 (f37M K) :=
  sound_fn (envOK (E := (f37E K)) tab_ok mixed_ok (AllOK.cons (f59_ok K) f59_runs AllOK.nil)) Try.func37 fun x => f37_run K x.1 x.2.1
theorem f37_runs : Runs Try.prog 37 := runsB_ok (by kernel_rfl)
theorem f38_ok (K : Nat) : Sound Try.prog 38 (f38M K) :=
  sound_fn (envOK (E := (f38E K)) tab_ok mixed_ok AllOK.nil) Try.func38 fun x => f38_run K x.1 x.2.1
theorem f38_runs : Runs Try.prog 38 := runsB_ok (by kernel_rfl)
theorem f20_ok (K : Nat) : Sound Try.prog 20 (f20M K) :=
  sound_fn (envOK (E := (f20E K)) tab_ok mixed_ok (AllOK.cons (f36_ok K) f36_runs (AllOK.cons (f37_ok K) f37_runs (AllOK.cons (f38_ok K) f38_runs AllOK.nil)))) Try.func20 fun x => f20_run K x.1 x.2.1 x.2.2.1
theorem f20_runs : Runs Try.prog 20 := runsB_ok (by kernel_rfl)
theorem f7_ok (K : Nat) : Sound Try.prog 7 (f7M K) :=
  sound_fn (envOK (E := (f7E K)) tab_ok mixed_ok (AllOK.cons (f19_ok K) f19_runs (AllOK.cons (f20_ok K) f20_runs AllOK.nil))) Try.func7 fun x => f7_run K x.1 x.2.1 x.2.2.1 x.2.2.2.1
theorem f7_runs : Runs Try.prog 7 := runsB_ok (by kernel_rfl)
theorem f75_ok (K : Nat) : Sound Try.prog 75 (f75M K) :=
  sound_fn (envOK (E := (f75E K)) tab_ok mixed_ok AllOK.nil) Try.func75 fun x => f75_run K x.1 x.2.1 x.2.2.1
theorem f75_runs : Runs Try.prog 75 := runsB_ok (by kernel_rfl)
theorem f60_ok (K : Nat) : Sound Try.prog 60 (f60M K) :=
  sound_fn (envOK (E := (f60E K)) tab_ok mixed_ok (AllOK.cons (f75_ok K) f75_runs AllOK.nil)) Try.func60 fun x => f60_run K x.1
theorem f60_runs : Runs Try.prog 60 := runsB_ok (by kernel_rfl)
theorem f44_ok (K : Nat) : Sound Try.prog 44 (f44M K) :=
  sound_fn (envOK (E := (f44E K)) tab_ok mixed_ok AllOK.nil) Try.func44 fun x => f44_run K x.1
theorem f44_runs : Runs Try.prog 44 := runsB_ok (by kernel_rfl)
theorem f61_ok (K : Nat) : Sound Try.prog 61 (f61M K) :=
  sound_fn (envOK (E := (f61E K)) tab_ok mixed_ok (AllOK.cons (f44_ok K) f44_runs (AllOK.cons (f75_ok K) f75_runs AllOK.nil))) Try.func61 fun x => f61_run K x.1
theorem f61_runs : Runs Try.prog 61 := runsB_ok (by kernel_rfl)
theorem f40_ok (K : Nat) : Sound Try.prog 40 (f40M K) :=
  sound_fn (envOK (E := (f40E K)) tab_ok mixed_ok (AllOK.cons (f60_ok K) f60_runs (AllOK.cons (f61_ok K) f61_runs AllOK.nil))) Try.func40 fun x => f40_run K x.1 x.2.1
theorem f40_runs : Runs Try.prog 40 := runsB_ok (by kernel_rfl)
theorem f76_ok (K : Nat) : Sound Try.prog 76 (f76M K) :=
  sound_fn (envOK (E := (f76E K)) tab_ok mixed_ok (AllOK.cons (f75_ok K) f75_runs AllOK.nil)) Try.func76 fun x => f76_run K x.1
theorem f76_runs : Runs Try.prog 76 := runsB_ok (by kernel_rfl)
theorem f62_ok (K : Nat) : Sound Try.prog 62 (f62M K) :=
  sound_fn (envOK (E := (f62E K)) tab_ok mixed_ok (AllOK.cons (f76_ok K) f76_runs AllOK.nil)) Try.func62 fun x => f62_run K x.1
theorem f62_runs : Runs Try.prog 62 := runsB_ok (by kernel_rfl)
theorem f77_ok (K : Nat) : Sound Try.prog 77 (f77M K) :=
  sound_fn (envOK (E := (f77E K)) tab_ok mixed_ok AllOK.nil) Try.func77 fun x => f77_run K x.1 x.2.1
theorem f77_runs : Runs Try.prog 77 := runsB_ok (by kernel_rfl)
theorem f63_ok (K : Nat) : Sound Try.prog 63 (f63M K) :=
  sound_fn (envOK (E := (f63E K)) tab_ok mixed_ok (AllOK.cons (f77_ok K) f77_runs AllOK.nil)) Try.func63 fun x => f63_run K x.1 x.2.1
theorem f63_runs : Runs Try.prog 63 := runsB_ok (by kernel_rfl)
theorem f41_ok (K : Nat) : Sound Try.prog 41 (f41M K) :=
  sound_fn (envOK (E := (f41E K)) tab_ok mixed_ok (AllOK.cons (f62_ok K) f62_runs (AllOK.cons (f63_ok K) f63_runs AllOK.nil))) Try.func41 fun x => f41_run K x.1
theorem f41_runs : Runs Try.prog 41 := runsB_ok (by kernel_rfl)
theorem f94_ok (K : Nat) : Sound Try.prog 94 (f94M K) :=
  sound_fn (envOK (E := (f94E K)) tab_ok mixed_ok AllOK.nil) Try.func94 fun x => f94_run K x.1
theorem f94_runs : Runs Try.prog 94 := runsB_ok (by kernel_rfl)
theorem f99_ok (K : Nat) : Sound Try.prog 99 (f99M K) :=
  sound_fn (envOK (E := (f99E K)) tab_ok mixed_ok AllOK.nil) Try.func99 fun x => f99_run K x.1 x.2.1
theorem f99_runs : Runs Try.prog 99 := runsB_ok (by kernel_rfl)
theorem f112_ok (K : Nat) : Sound Try.prog 112 (f112M K) :=
  sound_fn (envOK (E := (f112E K)) tab_ok mixed_ok AllOK.nil) Try.func112 fun x => f112_run K x.1 x.2.1
theorem f112_runs : Runs Try.prog 112 := runsB_ok (by kernel_rfl)
theorem f96_ok (K : Nat) : Sound Try.prog 96 (f96M K) :=
  sound_fn (envOK (E := (f96E K)) tab_ok mixed_ok (AllOK.cons (f99_ok K) f99_runs (AllOK.cons (f112_ok K) f112_runs AllOK.nil))) Try.func96 fun x => f96_run K x.1
theorem f96_runs : Runs Try.prog 96 := runsB_ok (by kernel_rfl)
theorem f101_ok (K : Nat) : Sound Try.prog 101 (f101M K) :=
  sound_fn (envOK (E := (f101E K)) tab_ok mixed_ok AllOK.nil) Try.func101 fun x => f101_run K x.1 x.2.1
theorem f101_runs : Runs Try.prog 101 := runsB_ok (by kernel_rfl)
theorem f80_ok (K : Nat) : Sound Try.prog 80 (f80M K) :=
  sound_fn (envOK (E := (f80E K)) tab_ok mixed_ok (AllOK.cons (f101_ok K) f101_runs AllOK.nil)) Try.func80 fun x => f80_run K x.1 x.2.1
theorem f80_runs : Runs Try.prog 80 := runsB_ok (by kernel_rfl)
theorem f98_ok (K : Nat) : Sound Try.prog 98 (f98M K) :=
  sound_fn (envOK (E := (f98E K)) tab_ok mixed_ok (AllOK.cons (f80_ok K) f80_runs AllOK.nil)) Try.func98 fun x => f98_run K x.1 x.2.1
theorem f98_runs : Runs Try.prog 98 := runsB_ok (by kernel_rfl)
theorem f97_ok (K : Nat) : Sound Try.prog 97 (f97M K) :=
  sound_fn (envOK (E := (f97E K)) tab_ok mixed_ok (AllOK.cons (f98_ok K) f98_runs (AllOK.cons (f99_ok K) f99_runs AllOK.nil))) Try.func97 fun x => f97_run K x.1 x.2.1 x.2.2.1 x.2.2.2.1
theorem f97_runs : Runs Try.prog 97 := runsB_ok (by kernel_rfl)
theorem f111_ok (K : Nat) : Sound Try.prog 111 (f111M K) :=
  sound_fn (envOK (E := (f111E K)) tab_ok mixed_ok AllOK.nil) Try.func111 fun x => f111_run K x.1 x.2.1
theorem f111_runs : Runs Try.prog 111 := runsB_ok (by kernel_rfl)
theorem f95_ok (K : Nat) : Sound Try.prog 95 (f95M K) :=
  sound_fn (envOK (E := (f95E K)) tab_ok mixed_ok (AllOK.cons (f111_ok K) f111_runs AllOK.nil)) Try.func95 fun x => f95_run K x.1 x.2.1
theorem f95_runs : Runs Try.prog 95 := runsB_ok (by kernel_rfl)
theorem f78_ok (K : Nat) : Sound Try.prog 78 (f78M K) :=
  sound_fn (envOK (E := (f78E K)) tab_ok mixed_ok (AllOK.cons (f94_ok K) f94_runs (AllOK.cons (f95_ok K) f95_runs (AllOK.cons (f96_ok K) f96_runs (AllOK.cons (f97_ok K) f97_runs AllOK.nil))))) Try.func78 fun x => f78_run K x.1 x.2.1
theorem f78_runs : Runs Try.prog 78 := runsB_ok (by kernel_rfl)
theorem f100_ok (K : Nat) : Sound Try.prog 100 (f100M K) :=
  sound_fn (envOK (E := (f100E K)) tab_ok mixed_ok AllOK.nil) Try.func100 fun x => f100_run K x.1 x.2.1
theorem f100_runs : Runs Try.prog 100 := runsB_ok (by kernel_rfl)
theorem f79_ok (K : Nat) : Sound Try.prog 79 (f79M K) :=
  sound_fn (envOK (E := (f79E K)) tab_ok mixed_ok (AllOK.cons (f100_ok K) f100_runs AllOK.nil)) Try.func79 fun x => f79_run K x.1 x.2.1
theorem f79_runs : Runs Try.prog 79 := runsB_ok (by kernel_rfl)
theorem f102_ok (K : Nat) : Sound Try.prog 102 (f102M K) :=
  sound_fn (envOK (E := (f102E K)) tab_ok mixed_ok (AllOK.cons (f77_ok K) f77_runs AllOK.nil)) Try.func102 fun x => f102_run K x.1 x.2.1
theorem f102_runs : Runs Try.prog 102 := runsB_ok (by kernel_rfl)
theorem f81_ok (K : Nat) : Sound Try.prog 81 (f81M K) :=
  sound_fn (envOK (E := (f81E K)) tab_ok mixed_ok (AllOK.cons (f63_ok K) f63_runs (AllOK.cons (f102_ok K) f102_runs AllOK.nil))) Try.func81 fun x => f81_run K x.1 x.2.1
theorem f81_runs : Runs Try.prog 81 := runsB_ok (by kernel_rfl)
theorem f82_ok (K : Nat) : Sound Try.prog 82 (f82M K) :=
  sound_fn (envOK (E := (f82E K)) tab_ok mixed_ok AllOK.nil) Try.func82 fun x => f82_run K 
theorem f82_runs : Runs Try.prog 82 := runsB_ok (by kernel_rfl)
theorem f103_ok (K : Nat) : Sound Try.prog 103 (f103M K) :=
  sound_fn (envOK (E := (f103E K)) tab_ok mixed_ok AllOK.nil) Try.func103 fun x => f103_run K x.1 x.2.1
theorem f103_runs : Runs Try.prog 103 := runsB_ok (by kernel_rfl)
theorem f104_ok (K : Nat) : Sound Try.prog 104 (f104M K) :=
  sound_fn (envOK (E := (f104E K)) tab_ok mixed_ok AllOK.nil) Try.func104 fun x => f104_run K x.1 x.2.1
theorem f104_runs : Runs Try.prog 104 := runsB_ok (by kernel_rfl)
theorem f84_ok (K : Nat) : Sound Try.prog 84 (f84M K) :=
  sound_fn (envOK (E := (f84E K)) tab_ok mixed_ok (AllOK.cons (f99_ok K) f99_runs (AllOK.cons (f103_ok K) f103_runs (AllOK.cons (f104_ok K) f104_runs AllOK.nil)))) Try.func84 fun x => f84_run K x.1 x.2.1
theorem f84_runs : Runs Try.prog 84 := runsB_ok (by kernel_rfl)
theorem f83_ok (K : Nat) : Sound Try.prog 83 (f83M K) :=
  sound_fn (envOK (E := (f83E K)) tab_ok mixed_ok (AllOK.cons (f80_ok K) f80_runs AllOK.nil)) Try.func83 fun x => f83_run K x.1 x.2.1
theorem f83_runs : Runs Try.prog 83 := runsB_ok (by kernel_rfl)
theorem f64_ok (K : Nat) : Sound Try.prog 64 (f64M K) :=
  sound_fn (envOK (E := (f64E K)) tab_ok mixed_ok (AllOK.cons (f78_ok K) f78_runs (AllOK.cons (f79_ok K) f79_runs (AllOK.cons (f80_ok K) f80_runs (AllOK.cons (f81_ok K) f81_runs (AllOK.cons (f82_ok K) f82_runs (AllOK.cons (f83_ok K) f83_runs (AllOK.cons (f84_ok K) f84_runs AllOK.nil)))))))) Try.func64 fun x => f64_run K x.1 x.2.1 x.2.2.1
theorem f64_runs : Runs Try.prog 64 := runsB_ok (by kernel_rfl)
theorem f42_ok (K : Nat) : Sound Try.prog 42 (f42M K) :=
  sound_fn (envOK (E := (f42E K)) tab_ok mixed_ok (AllOK.cons (f40_ok K) f40_runs (AllOK.cons (f64_ok K) f64_runs AllOK.nil))) Try.func42 fun x => f42_run K x.1 x.2.1 x.2.2.1
theorem f42_runs : Runs Try.prog 42 := runsB_ok (by kernel_rfl)
theorem f23_ok (K : Nat) : Sound Try.prog 23 (f23M K) :=
  sound_fn (envOK (E := (f23E K)) tab_ok mixed_ok (AllOK.cons (f40_ok K) f40_runs (AllOK.cons (f41_ok K) f41_runs (AllOK.cons (f42_ok K) f42_runs AllOK.nil)))) Try.func23 fun x => f23_run K x.1 x.2.1 x.2.2.1 x.2.2.2.1
theorem f23_runs : Runs Try.prog 23 := runsB_ok (by kernel_rfl)
theorem f85_ok (K : Nat) : Sound Try.prog 85 (f85M K) :=
  sound_fn (envOK (E := (f85E K)) tab_ok mixed_ok (AllOK.cons (f99_ok K) f99_runs (AllOK.cons (f104_ok K) f104_runs AllOK.nil))) Try.func85 fun x => f85_run K x.1 x.2.1
theorem f85_runs : Runs Try.prog 85 := runsB_ok (by kernel_rfl)
theorem f65_ok (K : Nat) : Sound Try.prog 65 (f65M K) :=
  sound_fn (envOK (E := (f65E K)) tab_ok mixed_ok (AllOK.cons (f80_ok K) f80_runs (AllOK.cons (f85_ok K) f85_runs AllOK.nil))) Try.func65 fun x => f65_run K x.1 x.2.1 x.2.2.1
theorem f65_runs : Runs Try.prog 65 := runsB_ok (by kernel_rfl)
theorem f43_ok (K : Nat) : Sound Try.prog 43 (f43M K) :=
  sound_fn (envOK (E := (f43E K)) tab_ok mixed_ok (AllOK.cons (f65_ok K) f65_runs AllOK.nil)) Try.func43 fun x => f43_run K x.1 x.2.1 x.2.2.1
theorem f43_runs : Runs Try.prog 43 := runsB_ok (by kernel_rfl)
theorem f24_ok (K : Nat) : Sound Try.prog 24 (f24M K) :=
  sound_fn (envOK (E := (f24E K)) tab_ok mixed_ok (AllOK.cons (f43_ok K) f43_runs (AllOK.cons (f44_ok K) f44_runs AllOK.nil))) Try.func24 fun x => f24_run K x.1 x.2.1 x.2.2.1
theorem f24_runs : Runs Try.prog 24 := runsB_ok (by kernel_rfl)
theorem f11_ok (K : Nat) : Sound Try.prog 11 (f11M K) :=
  sound_fn (envOK (E := (f11E K)) tab_ok mixed_ok (AllOK.cons (f23_ok K) f23_runs (AllOK.cons (f24_ok K) f24_runs AllOK.nil))) Try.func11 fun x => f11_run K x.1 x.2.1 x.2.2.1 x.2.2.2.1
theorem f11_runs : Runs Try.prog 11 := runsB_ok (by kernel_rfl)
theorem f45_ok (K : Nat) : Sound Try.prog 45 (f45M K) :=
  sound_fn (envOK (E := (f45E K)) tab_ok mixed_ok AllOK.nil) Try.func45 fun x => f45_run K x.1 x.2.1
theorem f45_runs : Runs Try.prog 45 := runsB_ok (by kernel_rfl)
theorem f26_ok (K : Nat) : Sound Try.prog 26 (f26M K) :=
  sound_fn (envOK (E := (f26E K)) tab_ok mixed_ok AllOK.nil) Try.func26 fun x => f26_run K x.1 x.2.1
theorem f26_runs : Runs Try.prog 26 := runsB_ok (by kernel_rfl)
theorem f25_ok (K : Nat) : Sound Try.prog 25 (f25M K) :=
  sound_fn (envOK (E := (f25E K)) tab_ok mixed_ok (AllOK.cons (f26_ok K) f26_runs (AllOK.cons (f45_ok K) f45_runs AllOK.nil))) Try.func25 fun x => f25_run K x.1 x.2.1
theorem f25_runs : Runs Try.prog 25 := runsB_ok (by kernel_rfl)
theorem f12_ok (K : Nat) : Sound Try.prog 12 (f12M K) :=
  sound_fn (envOK (E := (f12E K)) tab_ok mixed_ok (AllOK.cons (f25_ok K) f25_runs AllOK.nil)) Try.func12 fun x => f12_run K x.1 x.2.1
theorem f12_runs : Runs Try.prog 12 := runsB_ok (by kernel_rfl)
theorem f13_ok (K : Nat) : Sound Try.prog 13 (f13M K) :=
  sound_fn (envOK (E := (f13E K)) tab_ok mixed_ok (AllOK.cons (f26_ok K) f26_runs AllOK.nil)) Try.func13 fun x => f13_run K x.1 x.2.1
theorem f13_runs : Runs Try.prog 13 := runsB_ok (by kernel_rfl)
theorem f3_ok (K : Nat) : Sound Try.prog 3 (f3M K) :=
  sound_fn (envOK (E := (f3E K)) tab_ok mixed_ok (AllOK.cons (f5_ok K) f5_runs (AllOK.cons (f6_ok K) f6_runs (AllOK.cons (f7_ok K) f7_runs (AllOK.cons (f8_ok K) f8_runs (AllOK.cons (f9_ok K) f9_runs (AllOK.cons (f10_ok K) f10_runs (AllOK.cons (f11_ok K) f11_runs (AllOK.cons (f12_ok K) f12_runs (AllOK.cons (f13_ok K) f13_runs AllOK.nil)))))))))) Try.func3 fun x => f3_run K x.1 x.2.1 x.2.2.1 x.2.2.2.1
theorem f3_runs : Runs Try.prog 3 := runsB_ok (by kernel_rfl)
end Go.Proofs.Ythlldmfkdcmcfaa.X
