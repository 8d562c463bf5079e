/- Functions of the program as plain Lean functions, and that the program does what they say. Printed by gen.py. -/
import Derived.Test.YthlldmfkdcmcfaaR0
namespace Go.Proofs.Ythlldmfkdcmcfaa.X
open Go
set_option maxRecDepth 100000
set_option linter.unusedVariables false
theorem f14_ok (K : Nat) : Sound Try.prog 14 (f14M K) :=
  sound_fn (envOK (E := (f14E K)) tab_ok mixed_ok AllOK.nil) Try.func14 fun x => f14_run K 
theorem f14_runs : Runs Try.prog 14 := runsB_ok (by kernel_rfl)
theorem f15_ok (K : Nat) : Sound Try.prog 15 (f15M K) :=
  sound_fn (envOK (E := (f15E K)) tab_ok mixed_ok AllOK.nil) Try.func15 fun x => f15_run K 
theorem f15_runs : Runs Try.prog 15 := runsB_ok (by kernel_rfl)
theorem f46_ok (K : Nat) : Sound Try.prog 46 (f46M K) :=
  sound_fn (envOK (E := (f46E K)) tab_ok mixed_ok AllOK.nil) Try.func46 fun x => f46_run K x.1 x.2.1
theorem f46_runs : Runs Try.prog 46 := runsB_ok (by kernel_rfl)
theorem f47_ok (K : Nat) : Sound Try.prog 47 (f47M K) :=
  sound_fn (envOK (E := (f47E K)) tab_ok mixed_ok AllOK.nil) Try.func47 fun x => f47_run K x.1 x.2.1
theorem f47_runs : Runs Try.prog 47 := runsB_ok (by kernel_rfl)
theorem f27_ok (K : Nat) : Sound Try.prog 27 (f27M K) :=
  sound_fn (envOK (E := (f27E K)) tab_ok mixed_ok (AllOK.cons (f46_ok K) f46_runs (AllOK.cons (f47_ok K) f47_runs AllOK.nil))) Try.func27 fun x => f27_run K x.1 x.2.1
theorem f27_runs : Runs Try.prog 27 := runsB_ok (by kernel_rfl)
theorem f48_ok (K : Nat) : Sound Try.prog 48 (f48M K) :=
  sound_fn (envOK (E := (f48E K)) tab_ok mixed_ok (AllOK.cons (f27_ok K) f27_runs AllOK.nil)) Try.func48 fun x => f48_run K x.1 x.2.1
theorem f48_runs : Runs Try.prog 48 := runsB_ok (by kernel_rfl)
theorem f28_ok (K : Nat) : Sound Try.prog 28 (f28M K) :=
  sound_fn (envOK (E := (f28E K)) tab_ok mixed_ok (AllOK.cons (f48_ok K) f48_runs AllOK.nil)) Try.func28 fun x => f28_run K x.1 x.2.1
theorem f28_runs : Runs Try.prog 28 := runsB_ok (by kernel_rfl)
theorem f16_ok (K : Nat) : Sound Try.prog 16 (f16M K) :=
  sound_fn (envOK (E := (f16E K)) tab_ok mixed_ok (AllOK.cons (f27_ok K) f27_runs (AllOK.cons (f28_ok K) f28_runs AllOK.nil))) Try.func16 fun x => f16_run K x.1 x.2.1
theorem f16_runs : Runs Try.prog 16 := runsB_ok (by kernel_rfl)
theorem f49_ok (K : Nat) : Sound Try.prog 49 (f49M K) :=
  sound_fn (envOK (E := (f49E K)) tab_ok mixed_ok AllOK.nil) Try.func49 fun x => f49_run K x.1 x.2.1
theorem f49_runs : Runs Try.prog 49 := runsB_ok (by kernel_rfl)
theorem f29_ok (K : Nat) : Sound Try.prog 29 (f29M K) :=
  sound_fn (envOK (E := (f29E K)) tab_ok mixed_ok (AllOK.cons (f49_ok K) f49_runs AllOK.nil)) Try.func29 fun x => f29_run K x.1 x.2.1
theorem f29_runs : Runs Try.prog 29 := runsB_ok (by kernel_rfl)
theorem f50_ok (K : Nat) : Sound Try.prog 50 (f50M K) :=
  sound_fn (envOK (E := (f50E K)) tab_ok mixed_ok AllOK.nil) Try.func50 fun x => f50_run K x.1
theorem f50_runs : Runs Try.prog 50 := runsB_ok (by kernel_rfl)
theorem f30_ok (K : Nat) : Sound Try.prog 30 (f30M K) :=
  sound_fn (envOK (E := (f30E K)) tab_ok mixed_ok (AllOK.cons (f49_ok K) f49_runs (AllOK.cons (f50_ok K) f50_runs AllOK.nil))) Try.func30 fun x => f30_run K x.1 x.2.1
theorem f30_runs : Runs Try.prog 30 := runsB_ok (by kernel_rfl)
theorem f17_ok (K : Nat) : Sound Try.prog 17 (f17M K) :=
  sound_fn (envOK (E := (f17E K)) tab_ok mixed_ok (AllOK.cons (f29_ok K) f29_runs (AllOK.cons (f30_ok K) f30_runs AllOK.nil))) Try.func17 fun x => f17_run K x.1 x.2.1
theorem f17_runs : Runs Try.prog 17 := runsB_ok (by kernel_rfl)
theorem f51_ok (K : Nat) : Sound Try.prog 51 (f51M K) :=
  sound_fn (envOK (E := (f51E K)) tab_ok mixed_ok AllOK.nil) Try.func51 fun x => f51_run K x.1 x.2.1
theorem f51_runs : Runs Try.prog 51 := runsB_ok (by kernel_rfl)
theorem f31_ok (K : Nat) : Sound Try.prog 31 (f31M K) :=
  sound_fn (envOK (E := (f31E K)) tab_ok mixed_ok (AllOK.cons (f51_ok K) f51_runs AllOK.nil)) Try.func31 fun x => f31_run K x.1 x.2.1
theorem f31_runs : Runs Try.prog 31 := runsB_ok (by kernel_rfl)
theorem f32_ok (K : Nat) : Sound Try.prog 32 (f32M K) :=
  sound_fn (envOK (E := (f32E K)) tab_ok mixed_ok (AllOK.cons (f50_ok K) f50_runs (AllOK.cons (f51_ok K) f51_runs AllOK.nil))) Try.func32 fun x => f32_run K x.1 x.2.1
theorem f32_runs : Runs Try.prog 32 := runsB_ok (by kernel_rfl)
theorem f18_ok (K : Nat) : Sound Try.prog 18 (f18M K) :=
  sound_fn (envOK (E := (f18E K)) tab_ok mixed_ok (AllOK.cons (f31_ok K) f31_runs (AllOK.cons (f32_ok K) f32_runs AllOK.nil))) Try.func18 fun x => f18_run K x.1 x.2.1
theorem f18_runs : Runs Try.prog 18 := runsB_ok (by kernel_rfl)
theorem f4_ok (K : Nat) : Sound Try.prog 4 (f4M K) :=
  sound_fn (envOK (E := (f4E K)) tab_ok mixed_ok (AllOK.cons (f14_ok K) f14_runs (AllOK.cons (f15_ok K) f15_runs (AllOK.cons (f16_ok K) f16_runs (AllOK.cons (f17_ok K) f17_runs (AllOK.cons (f18_ok K) f18_runs AllOK.nil)))))) Try.func4 fun x => f4_run K 
theorem f4_runs : Runs Try.prog 4 := runsB_ok (by kernel_rfl)
end Go.Proofs.Ythlldmfkdcmcfaa.X
