/- Functions of the program as plain Lean functions, and that the program does what they say. Printed by gen.py. -/
import Derived.Test.YtniidcalfhhciaaGreatQdR0
import Derived.Test.YtniidcalfhhciaaGreatQdR1
namespace Go.Proofs.YtniidcalfhhciaaGreat.X
open Go
set_option maxRecDepth 100000
set_option linter.unusedVariables false
theorem f14_ok (K : Nat) : Sound Tryz.prog 14 (f14M K) :=
  sound_fn (envOK (E := (f14E K)) tab_ok mixed_ok AllOK.nil AllP.nil AllN.nil) Tryz.func14 fun x => f14_run K x.1
theorem f14_runs : Runs Tryz.prog 14 := runsB_ok (by kernel_rfl)
theorem f124_ok (K : Nat) : SoundN Tryz.prog 124 (f124M K) :=
  sound_fnN (envOK (E := (f124E K)) tab_ok mixed_ok AllOK.nil AllP.nil AllN.nil) Tryz.func124 fun x => f124_run K x.1
theorem f124_runs : Runs Tryz.prog 124 := runsB_ok (by kernel_rfl)
theorem f140_ok (K : Nat) : SoundP Tryz.prog 140 (f140M K) :=
  sound_fnP (envOK (E := (f140E K)) tab_ok mixed_ok AllOK.nil AllP.nil AllN.nil) Tryz.func140 fun x => f140_run K x.1 x.2.1
theorem f140_runs : Runs Tryz.prog 140 := runsB_ok (by kernel_rfl)
theorem f142_ok (K : Nat) : SoundP Tryz.prog 142 (f142M K) :=
  sound_fnP (envOK (E := (f142E K)) tab_ok mixed_ok AllOK.nil (AllP.cons (f140_ok K) f140_runs AllP.nil) AllN.nil) Tryz.func142 fun x => f142_run K x.1 x.2.1
theorem f142_runs : Runs Tryz.prog 142 := runsB_ok (by kernel_rfl)
theorem f304_ok (K : Nat) : SoundP Tryz.prog 304 (f304M K) :=
  sound_fnP (envOK (E := (f304E K)) tab_ok mixed_ok AllOK.nil (AllP.cons (f140_ok K) f140_runs (AllP.cons (f142_ok K) f142_runs AllP.nil)) AllN.nil) Tryz.func304 fun x => f304_run K x.1
theorem f304_runs : Runs Tryz.prog 304 := runsB_ok (by kernel_rfl)
theorem f305_ok (K : Nat) : SoundP Tryz.prog 305 (f305M K) :=
  sound_fnP (envOK (E := (f305E K)) tab_ok mixed_ok AllOK.nil (AllP.cons (f140_ok K) f140_runs (AllP.cons (f142_ok K) f142_runs AllP.nil)) AllN.nil) Tryz.func305 fun x => f305_run K x.1
theorem f305_runs : Runs Tryz.prog 305 := runsB_ok (by kernel_rfl)
theorem f213_ok (K : Nat) : SoundP Tryz.prog 213 (f213M K) :=
  sound_fnP (envOK (E := (f213E K)) tab_ok mixed_ok AllOK.nil (AllP.cons (f140_ok K) f140_runs (AllP.cons (f304_ok K) f304_runs (AllP.cons (f305_ok K) f305_runs AllP.nil))) AllN.nil) Tryz.func213 fun x => f213_run K x.1
theorem f213_runs : Runs Tryz.prog 213 := runsB_ok (by kernel_rfl)
theorem f306_ok (K : Nat) : Sound Tryz.prog 306 (f306M K) :=
  sound_fn (envOK (E := (f306E K)) tab_ok mixed_ok AllOK.nil AllP.nil AllN.nil) Tryz.func306 fun x => f306_run K x.1
theorem f306_runs : Runs Tryz.prog 306 := runsB_ok (by kernel_rfl)
theorem f195_ok (K : Nat) : Sound Tryz.prog 195 (f195M K) :=
  sound_fn (envOK (E := (f195E K)) tab_ok mixed_ok AllOK.nil AllP.nil AllN.nil) Tryz.func195 fun x => f195_run K x.1 x.2.1 x.2.2.1
theorem f195_runs : Runs Tryz.prog 195 := runsB_ok (by kernel_rfl)
theorem f307_ok (K : Nat) : Sound Tryz.prog 307 (f307M K) :=
  sound_fn (envOK (E := (f307E K)) tab_ok mixed_ok (AllOK.cons (f195_ok K) f195_runs AllOK.nil) AllP.nil AllN.nil) Tryz.func307 fun x => f307_run K x.1
theorem f307_runs : Runs Tryz.prog 307 := runsB_ok (by kernel_rfl)
theorem f215_ok (K : Nat) : Sound Tryz.prog 215 (f215M K) :=
  sound_fn (envOK (E := (f215E K)) tab_ok mixed_ok (AllOK.cons (f306_ok K) f306_runs (AllOK.cons (f307_ok K) f307_runs AllOK.nil)) AllP.nil AllN.nil) Tryz.func215 fun x => f215_run K x.1 x.2.1
theorem f215_runs : Runs Tryz.prog 215 := runsB_ok (by kernel_rfl)
theorem f218_ok (K : Nat) : Sound Tryz.prog 218 (f218M K) :=
  sound_fn (envOK (E := (f218E K)) tab_ok mixed_ok AllOK.nil AllP.nil AllN.nil) Tryz.func218 fun x => f218_run K 
theorem f218_runs : Runs Tryz.prog 218 := runsB_ok (by kernel_rfl)
theorem f141_ok (K : Nat) : Sound Tryz.prog 141 (f141M K) :=
  sound_fn (envOK (E := (f141E K)) tab_ok mixed_ok (AllOK.cons (f218_ok K) f218_runs AllOK.nil) AllP.nil AllN.nil) Tryz.func141 fun x => f141_run K 
theorem f141_runs : Runs Tryz.prog 141 := runsB_ok (by kernel_rfl)
theorem f385_ok (K : Nat) : Sound Tryz.prog 385 (f385M K) :=
  sound_fn (envOK (E := (f385E K)) tab_ok mixed_ok AllOK.nil AllP.nil AllN.nil) Tryz.func385 fun x => f385_run K x.1 x.2.1
theorem f385_runs : Runs Tryz.prog 385 := runsB_ok (by kernel_rfl)
theorem f277_ok (K : Nat) : Sound Tryz.prog 277 (f277M K) :=
  sound_fn (envOK (E := (f277E K)) tab_ok mixed_ok AllOK.nil AllP.nil AllN.nil) Tryz.func277 fun x => f277_run K x.1 x.2.1
theorem f277_runs : Runs Tryz.prog 277 := runsB_ok (by kernel_rfl)
theorem f359_ok (K : Nat) : Sound Tryz.prog 359 (f359M K) :=
  sound_fn (envOK (E := (f359E K)) tab_ok mixed_ok (AllOK.cons (f277_ok K) f277_runs (AllOK.cons (f385_ok K) f385_runs AllOK.nil)) AllP.nil AllN.nil) Tryz.func359 fun x => f359_run K x.1 x.2.1
theorem f359_runs : Runs Tryz.prog 359 := runsB_ok (by kernel_rfl)
theorem f336_ok (K : Nat) : Sound Tryz.prog 336 (f336M K) :=
  sound_fn (envOK (E := (f336E K)) tab_ok mixed_ok (AllOK.cons (f359_ok K) f359_runs AllOK.nil) AllP.nil AllN.nil) Tryz.func336 fun x => f336_run K x.1
theorem f336_runs : Runs Tryz.prog 336 := runsB_ok (by kernel_rfl)
theorem f295_ok (K : Nat) : Sound Tryz.prog 295 (f295M K) :=
  sound_fn (envOK (E := (f295E K)) tab_ok mixed_ok AllOK.nil AllP.nil AllN.nil) Tryz.func295 fun x => f295_run K x.1
theorem f295_runs : Runs Tryz.prog 295 := runsB_ok (by kernel_rfl)
theorem f278_ok (K : Nat) : Sound Tryz.prog 278 (f278M K) :=
  sound_fn (envOK (E := (f278E K)) tab_ok mixed_ok AllOK.nil AllP.nil AllN.nil) Tryz.func278 fun x => f278_run K x.1 x.2.1
theorem f278_runs : Runs Tryz.prog 278 := runsB_ok (by kernel_rfl)
theorem f136_runs : Runs Tryz.prog 136 := runsB_ok (by kernel_rfl)
theorem f136_okn (K : Nat) : ∀ n, Sound Tryz.prog 136 ⟨[(.ro, (.int .i64)), (.ro, (.int .i64))], [(.int .i64)], fun x => f136R K n x.1 x.2.1⟩
  | 0 => fun _ _ _ _ _ _ _ h => by cases h
  | n + 1 => sound_fn (envOK (E := f136E K (f136R K n)) tab_ok mixed_ok (AllOK.cons (f136_okn K n) f136_runs AllOK.nil) AllP.nil AllN.nil) Tryz.func136 fun x => f136_run K (f136R K n) x.1 x.2.1
theorem f136_ok (K : Nat) : Sound Tryz.prog 136 (f136M K) := f136_okn K K
theorem f324_ok (K : Nat) : Sound Tryz.prog 324 (f324M K) :=
  sound_fn (envOK (E := (f324E K)) tab_ok mixed_ok AllOK.nil AllP.nil AllN.nil) Tryz.func324 fun x => f324_run K x.1 x.2.1
theorem f324_runs : Runs Tryz.prog 324 := runsB_ok (by kernel_rfl)
theorem f333_ok (K : Nat) : Sound Tryz.prog 333 (f333M K) :=
  sound_fn (envOK (E := (f333E K)) tab_ok mixed_ok AllOK.nil AllP.nil AllN.nil) Tryz.func333 fun x => f333_run K x.1 x.2.1
theorem f333_runs : Runs Tryz.prog 333 := runsB_ok (by kernel_rfl)
theorem f296_ok (K : Nat) : Sound Tryz.prog 296 (f296M K) :=
  sound_fn (envOK (E := (f296E K)) tab_ok mixed_ok (AllOK.cons (f136_ok K) f136_runs (AllOK.cons (f324_ok K) f324_runs (AllOK.cons (f333_ok K) f333_runs AllOK.nil))) AllP.nil AllN.nil) Tryz.func296 fun x => f296_run K x.1
theorem f296_runs : Runs Tryz.prog 296 := runsB_ok (by kernel_rfl)
theorem f303_ok (K : Nat) : Sound Tryz.prog 303 (f303M K) :=
  sound_fn (envOK (E := (f303E K)) tab_ok mixed_ok (AllOK.cons (f278_ok K) f278_runs (AllOK.cons (f295_ok K) f295_runs (AllOK.cons (f296_ok K) f296_runs AllOK.nil))) AllP.nil AllN.nil) Tryz.func303 fun x => f303_run K x.1 x.2.1
theorem f303_runs : Runs Tryz.prog 303 := runsB_ok (by kernel_rfl)
theorem f264_ok (K : Nat) : Sound Tryz.prog 264 (f264M K) :=
  sound_fn (envOK (E := (f264E K)) tab_ok mixed_ok (AllOK.cons (f303_ok K) f303_runs (AllOK.cons (f336_ok K) f336_runs AllOK.nil)) AllP.nil AllN.nil) Tryz.func264 fun x => f264_run K x.1 x.2.1
theorem f264_runs : Runs Tryz.prog 264 := runsB_ok (by kernel_rfl)
theorem f291_ok (K : Nat) : SoundP Tryz.prog 291 (f291M K) :=
  sound_fnP (envOK (E := (f291E K)) tab_ok mixed_ok (AllOK.cons (f215_ok K) f215_runs (AllOK.cons (f218_ok K) f218_runs (AllOK.cons (f264_ok K) f264_runs AllOK.nil))) (AllP.cons (f140_ok K) f140_runs AllP.nil) AllN.nil) Tryz.func291 fun x => f291_run K x.1 x.2.1 x.2.2.1
theorem f291_runs : Runs Tryz.prog 291 := runsB_ok (by kernel_rfl)
theorem f250_ok (K : Nat) : Sound Tryz.prog 250 (f250M K) :=
  sound_fn (envOK (E := (f250E K)) tab_ok mixed_ok (AllOK.cons (f324_ok K) f324_runs AllOK.nil) AllP.nil AllN.nil) Tryz.func250 fun x => f250_run K x.1 x.2.1
theorem f250_runs : Runs Tryz.prog 250 := runsB_ok (by kernel_rfl)
theorem f273_ok (K : Nat) : Sound Tryz.prog 273 (f273M K) :=
  sound_fn (envOK (E := (f273E K)) tab_ok mixed_ok (AllOK.cons (f250_ok K) f250_runs AllOK.nil) AllP.nil AllN.nil) Tryz.func273 fun x => f273_run K x.1 x.2.1
theorem f273_runs : Runs Tryz.prog 273 := runsB_ok (by kernel_rfl)
theorem f344_ok (K : Nat) : Sound Tryz.prog 344 (f344M K) :=
  sound_fn (envOK (E := (f344E K)) tab_ok mixed_ok AllOK.nil AllP.nil AllN.nil) Tryz.func344 fun x => f344_run K x.1 x.2.1
theorem f344_runs : Runs Tryz.prog 344 := runsB_ok (by kernel_rfl)
theorem f276_ok (K : Nat) : Sound Tryz.prog 276 (f276M K) :=
  sound_fn (envOK (E := (f276E K)) tab_ok mixed_ok (AllOK.cons (f277_ok K) f277_runs (AllOK.cons (f278_ok K) f278_runs (AllOK.cons (f344_ok K) f344_runs AllOK.nil))) AllP.nil AllN.nil) Tryz.func276 fun x => f276_run K x.1 x.2.1
theorem f276_runs : Runs Tryz.prog 276 := runsB_ok (by kernel_rfl)
theorem f380_ok (K : Nat) : Sound Tryz.prog 380 (f380M K) :=
  sound_fn (envOK (E := (f380E K)) tab_ok mixed_ok AllOK.nil AllP.nil AllN.nil) Tryz.func380 fun x => f380_run K x.1
theorem f380_runs : Runs Tryz.prog 380 := runsB_ok (by kernel_rfl)
theorem f153_ok (K : Nat) : Sound Tryz.prog 153 (f153M K) :=
  sound_fn (envOK (E := (f153E K)) tab_ok mixed_ok AllOK.nil AllP.nil AllN.nil) Tryz.func153 fun x => f153_run K x.1 x.2.1
theorem f153_runs : Runs Tryz.prog 153 := runsB_ok (by kernel_rfl)
theorem f342_ok (K : Nat) : Sound Tryz.prog 342 (f342M K) :=
  sound_fn (envOK (E := (f342E K)) tab_ok mixed_ok (AllOK.cons (f153_ok K) f153_runs (AllOK.cons (f380_ok K) f380_runs AllOK.nil)) AllP.nil AllN.nil) Tryz.func342 fun x => f342_run K x.1 x.2.1
theorem f342_runs : Runs Tryz.prog 342 := runsB_ok (by kernel_rfl)
theorem f320_ok (K : Nat) : Sound Tryz.prog 320 (f320M K) :=
  sound_fn (envOK (E := (f320E K)) tab_ok mixed_ok AllOK.nil AllP.nil AllN.nil) Tryz.func320 fun x => f320_run K x.1 x.2.1
theorem f320_runs : Runs Tryz.prog 320 := runsB_ok (by kernel_rfl)
theorem f274_ok (K : Nat) : Sound Tryz.prog 274 (f274M K) :=
  sound_fn (envOK (E := (f274E K)) tab_ok mixed_ok (AllOK.cons (f320_ok K) f320_runs (AllOK.cons (f342_ok K) f342_runs AllOK.nil)) AllP.nil AllN.nil) Tryz.func274 fun x => f274_run K x.1 x.2.1
theorem f274_runs : Runs Tryz.prog 274 := runsB_ok (by kernel_rfl)
theorem f343_ok (K : Nat) : Sound Tryz.prog 343 (f343M K) :=
  sound_fn (envOK (E := (f343E K)) tab_ok mixed_ok (AllOK.cons (f274_ok K) f274_runs AllOK.nil) AllP.nil AllN.nil) Tryz.func343 fun x => f343_run K x.1 x.2.1
theorem f343_runs : Runs Tryz.prog 343 := runsB_ok (by kernel_rfl)
theorem f275_ok (K : Nat) : Sound Tryz.prog 275 (f275M K) :=
  sound_fn (envOK (E := (f275E K)) tab_ok mixed_ok (AllOK.cons (f343_ok K) f343_runs AllOK.nil) AllP.nil AllN.nil) Tryz.func275 fun x => f275_run K x.1 x.2.1
theorem f275_runs : Runs Tryz.prog 275 := runsB_ok (by kernel_rfl)
theorem f352_ok (K : Nat) : Sound Tryz.prog 352 (f352M K) :=
  sound_fn (envOK (E := (f352E K)) tab_ok mixed_ok (AllOK.cons (f343_ok K) f343_runs AllOK.nil) AllP.nil AllN.nil) Tryz.func352 fun x => f352_run K x.1 x.2.1
theorem f352_runs : Runs Tryz.prog 352 := runsB_ok (by kernel_rfl)
theorem f292_ok (K : Nat) : Sound Tryz.prog 292 (f292M K) :=
  sound_fn (envOK (E := (f292E K)) tab_ok mixed_ok (AllOK.cons (f141_ok K) f141_runs (AllOK.cons (f273_ok K) f273_runs (AllOK.cons (f275_ok K) f275_runs (AllOK.cons (f276_ok K) f276_runs (AllOK.cons (f352_ok K) f352_runs AllOK.nil))))) AllP.nil AllN.nil) Tryz.func292 fun x => f292_run K x.1 x.2.1
theorem f292_runs : Runs Tryz.prog 292 := runsB_ok (by kernel_rfl)
theorem f149_ok (K : Nat) : Sound Tryz.prog 149 (f149M K) :=
  sound_fn (envOK (E := (f149E K)) tab_ok mixed_ok AllOK.nil AllP.nil AllN.nil) Tryz.func149 fun x => f149_run K x.1
theorem f149_runs : Runs Tryz.prog 149 := runsB_ok (by kernel_rfl)
theorem f151_ok (K : Nat) : Sound Tryz.prog 151 (f151M K) :=
  sound_fn (envOK (E := (f151E K)) tab_ok mixed_ok (AllOK.cons (f277_ok K) f277_runs (AllOK.cons (f278_ok K) f278_runs AllOK.nil)) AllP.nil AllN.nil) Tryz.func151 fun x => f151_run K x.1 x.2.1
theorem f151_runs : Runs Tryz.prog 151 := runsB_ok (by kernel_rfl)
theorem f171_ok (K : Nat) : Sound Tryz.prog 171 (f171M K) :=
  sound_fn (envOK (E := (f171E K)) tab_ok mixed_ok (AllOK.cons (f151_ok K) f151_runs (AllOK.cons (f250_ok K) f250_runs AllOK.nil)) AllP.nil AllN.nil) Tryz.func171 fun x => f171_run K x.1 x.2.1 x.2.2.1
theorem f171_runs : Runs Tryz.prog 171 := runsB_ok (by kernel_rfl)
theorem f236_ok (K : Nat) : Sound Tryz.prog 236 (f236M K) :=
  sound_fn (envOK (E := (f236E K)) tab_ok mixed_ok (AllOK.cons (f320_ok K) f320_runs AllOK.nil) AllP.nil AllN.nil) Tryz.func236 fun x => f236_run K x.1 x.2.1
theorem f236_runs : Runs Tryz.prog 236 := runsB_ok (by kernel_rfl)
theorem f193_ok (K : Nat) : Sound Tryz.prog 193 (f193M K) :=
  sound_fn (envOK (E := (f193E K)) tab_ok mixed_ok (AllOK.cons (f171_ok K) f171_runs (AllOK.cons (f236_ok K) f236_runs AllOK.nil)) AllP.nil AllN.nil) Tryz.func193 fun x => f193_run K x.1 x.2.1 x.2.2.1
theorem f193_runs : Runs Tryz.prog 193 := runsB_ok (by kernel_rfl)
theorem f182_ok (K : Nat) : Sound Tryz.prog 182 (f182M K) :=
  sound_fn (envOK (E := (f182E K)) tab_ok mixed_ok (AllOK.cons (f149_ok K) f149_runs (AllOK.cons (f193_ok K) f193_runs AllOK.nil)) AllP.nil AllN.nil) Tryz.func182 fun x => f182_run K x.1 x.2.1
theorem f182_runs : Runs Tryz.prog 182 := runsB_ok (by kernel_rfl)
theorem f150_ok (K : Nat) : Sound Tryz.prog 150 (f150M K) :=
  sound_fn (envOK (E := (f150E K)) tab_ok mixed_ok (AllOK.cons (f250_ok K) f250_runs AllOK.nil) AllP.nil AllN.nil) Tryz.func150 fun x => f150_run K x.1 x.2.1
theorem f150_runs : Runs Tryz.prog 150 := runsB_ok (by kernel_rfl)
theorem f183_ok (K : Nat) : Sound Tryz.prog 183 (f183M K) :=
  sound_fn (envOK (E := (f183E K)) tab_ok mixed_ok (AllOK.cons (f150_ok K) f150_runs (AllOK.cons (f182_ok K) f182_runs AllOK.nil)) AllP.nil AllN.nil) Tryz.func183 fun x => f183_run K x.1 x.2.1
theorem f183_runs : Runs Tryz.prog 183 := runsB_ok (by kernel_rfl)
theorem f255_ok (K : Nat) : SoundP Tryz.prog 255 (f255M K) :=
  sound_fnP (envOK (E := (f255E K)) tab_ok mixed_ok (AllOK.cons (f141_ok K) f141_runs (AllOK.cons (f183_ok K) f183_runs (AllOK.cons (f215_ok K) f215_runs (AllOK.cons (f273_ok K) f273_runs (AllOK.cons (f292_ok K) f292_runs AllOK.nil))))) (AllP.cons (f140_ok K) f140_runs (AllP.cons (f291_ok K) f291_runs AllP.nil)) AllN.nil) Tryz.func255 fun x => f255_run K x.1 x.2.1 x.2.2.1
theorem f255_runs : Runs Tryz.prog 255 := runsB_ok (by kernel_rfl)
theorem f123_ok (K : Nat) : SoundP Tryz.prog 123 (f123M K) :=
  sound_fnP (envOK (E := (f123E K)) tab_ok mixed_ok AllOK.nil (AllP.cons (f140_ok K) f140_runs (AllP.cons (f142_ok K) f142_runs (AllP.cons (f213_ok K) f213_runs (AllP.cons (f255_ok K) f255_runs AllP.nil)))) AllN.nil) Tryz.func123 fun x => f123_run K x.1
theorem f123_runs : Runs Tryz.prog 123 := runsB_ok (by kernel_rfl)
theorem f15_ok (K : Nat) : Sound Tryz.prog 15 (f15M K) :=
  sound_fn (envOK (E := (f15E K)) tab_ok mixed_ok AllOK.nil (AllP.cons (f123_ok K) f123_runs AllP.nil) (AllN.cons (f124_ok K) f124_runs AllN.nil)) Tryz.func15 fun x => f15_run K x.1
theorem f15_runs : Runs Tryz.prog 15 := runsB_ok (by kernel_rfl)
theorem f194_ok (K : Nat) : Sound Tryz.prog 194 (f194M K) :=
  sound_fn (envOK (E := (f194E K)) tab_ok mixed_ok AllOK.nil AllP.nil AllN.nil) Tryz.func194 fun x => f194_run K x.1 x.2.1 x.2.2.1
theorem f194_runs : Runs Tryz.prog 194 := runsB_ok (by kernel_rfl)
theorem f256_ok (K : Nat) : Sound Tryz.prog 256 (f256M K) :=
  sound_fn (envOK (E := (f256E K)) tab_ok mixed_ok (AllOK.cons (f194_ok K) f194_runs AllOK.nil) AllP.nil AllN.nil) Tryz.func256 fun x => f256_run K x.1
theorem f256_runs : Runs Tryz.prog 256 := runsB_ok (by kernel_rfl)
theorem f133_ok (K : Nat) : Sound Tryz.prog 133 (f133M K) :=
  sound_fn (envOK (E := (f133E K)) tab_ok mixed_ok AllOK.nil AllP.nil AllN.nil) Tryz.func133 fun x => f133_run K x.1
theorem f133_runs : Runs Tryz.prog 133 := runsB_ok (by kernel_rfl)
theorem f184_ok (K : Nat) : Sound Tryz.prog 184 (f184M K) :=
  sound_fn (envOK (E := (f184E K)) tab_ok mixed_ok (AllOK.cons (f133_ok K) f133_runs (AllOK.cons (f194_ok K) f194_runs AllOK.nil)) AllP.nil AllN.nil) Tryz.func184 fun x => f184_run K x.1
theorem f184_runs : Runs Tryz.prog 184 := runsB_ok (by kernel_rfl)
theorem f300_ok (K : Nat) : Sound Tryz.prog 300 (f300M K) :=
  sound_fn (envOK (E := (f300E K)) tab_ok mixed_ok (AllOK.cons (f194_ok K) f194_runs AllOK.nil) AllP.nil AllN.nil) Tryz.func300 fun x => f300_run K x.1 x.2.1 x.2.2.1
theorem f300_runs : Runs Tryz.prog 300 := runsB_ok (by kernel_rfl)
theorem f354_ok (K : Nat) : Sound Tryz.prog 354 (f354M K) :=
  sound_fn (envOK (E := (f354E K)) tab_ok mixed_ok AllOK.nil AllP.nil AllN.nil) Tryz.func354 fun x => f354_run K x.1 x.2.1
theorem f354_runs : Runs Tryz.prog 354 := runsB_ok (by kernel_rfl)
theorem f299_ok (K : Nat) : Sound Tryz.prog 299 (f299M K) :=
  sound_fn (envOK (E := (f299E K)) tab_ok mixed_ok (AllOK.cons (f354_ok K) f354_runs AllOK.nil) AllP.nil AllN.nil) Tryz.func299 fun x => f299_run K x.1 x.2.1
theorem f299_runs : Runs Tryz.prog 299 := runsB_ok (by kernel_rfl)
theorem f199_ok (K : Nat) : Sound Tryz.prog 199 (f199M K) :=
  sound_fn (envOK (E := (f199E K)) tab_ok mixed_ok (AllOK.cons (f299_ok K) f299_runs (AllOK.cons (f300_ok K) f300_runs AllOK.nil)) AllP.nil AllN.nil) Tryz.func199 fun x => f199_run K x.1 x.2.1 x.2.2.1
theorem f199_runs : Runs Tryz.prog 199 := runsB_ok (by kernel_rfl)
theorem f125_ok (K : Nat) : Sound Tryz.prog 125 (f125M K) :=
  sound_fn (envOK (E := (f125E K)) tab_ok mixed_ok (AllOK.cons (f133_ok K) f133_runs (AllOK.cons (f184_ok K) f184_runs (AllOK.cons (f199_ok K) f199_runs (AllOK.cons (f256_ok K) f256_runs AllOK.nil)))) AllP.nil AllN.nil) Tryz.func125 fun x => f125_run K x.1
theorem f125_runs : Runs Tryz.prog 125 := runsB_ok (by kernel_rfl)
theorem f268_ok (K : Nat) : Sound Tryz.prog 268 (f268M K) :=
  sound_fn (envOK (E := (f268E K)) tab_ok mixed_ok AllOK.nil AllP.nil AllN.nil) Tryz.func268 fun x => f268_run K x.1
theorem f268_runs : Runs Tryz.prog 268 := runsB_ok (by kernel_rfl)
theorem f185_ok (K : Nat) : Sound Tryz.prog 185 (f185M K) :=
  sound_fn (envOK (E := (f185E K)) tab_ok mixed_ok AllOK.nil AllP.nil AllN.nil) Tryz.func185 fun x => f185_run K x.1
theorem f185_runs : Runs Tryz.prog 185 := runsB_ok (by kernel_rfl)
theorem f217_ok (K : Nat) : Sound Tryz.prog 217 (f217M K) :=
  sound_fn (envOK (E := (f217E K)) tab_ok mixed_ok AllOK.nil AllP.nil AllN.nil) Tryz.func217 fun x => f217_run K 
theorem f217_runs : Runs Tryz.prog 217 := runsB_ok (by kernel_rfl)
theorem f282_ok (K : Nat) : Sound Tryz.prog 282 (f282M K) :=
  sound_fn (envOK (E := (f282E K)) tab_ok mixed_ok AllOK.nil AllP.nil AllN.nil) Tryz.func282 fun x => f282_run K x.1 x.2.1
theorem f282_runs : Runs Tryz.prog 282 := runsB_ok (by kernel_rfl)
theorem f289_ok (K : Nat) : Sound Tryz.prog 289 (f289M K) :=
  sound_fn (envOK (E := (f289E K)) tab_ok mixed_ok AllOK.nil AllP.nil AllN.nil) Tryz.func289 fun x => f289_run K x.1 x.2.1
theorem f289_runs : Runs Tryz.prog 289 := runsB_ok (by kernel_rfl)
theorem f174_ok (K : Nat) : Sound Tryz.prog 174 (f174M K) :=
  sound_fn (envOK (E := (f174E K)) tab_ok mixed_ok (AllOK.cons (f282_ok K) f282_runs (AllOK.cons (f289_ok K) f289_runs AllOK.nil)) AllP.nil AllN.nil) Tryz.func174 fun x => f174_run K x.1 x.2.1
theorem f174_runs : Runs Tryz.prog 174 := runsB_ok (by kernel_rfl)
theorem f290_ok (K : Nat) : Sound Tryz.prog 290 (f290M K) :=
  sound_fn (envOK (E := (f290E K)) tab_ok mixed_ok AllOK.nil AllP.nil AllN.nil) Tryz.func290 fun x => f290_run K x.1 x.2.1
theorem f290_runs : Runs Tryz.prog 290 := runsB_ok (by kernel_rfl)
theorem f176_ok (K : Nat) : Sound Tryz.prog 176 (f176M K) :=
  sound_fn (envOK (E := (f176E K)) tab_ok mixed_ok (AllOK.cons (f290_ok K) f290_runs AllOK.nil) AllP.nil AllN.nil) Tryz.func176 fun x => f176_run K x.1 x.2.1
theorem f176_runs : Runs Tryz.prog 176 := runsB_ok (by kernel_rfl)
theorem f163_ok (K : Nat) : Sound Tryz.prog 163 (f163M K) :=
  sound_fn (envOK (E := (f163E K)) tab_ok mixed_ok AllOK.nil AllP.nil AllN.nil) Tryz.func163 fun x => f163_run K x.1 x.2.1
theorem f163_runs : Runs Tryz.prog 163 := runsB_ok (by kernel_rfl)
theorem f177_ok (K : Nat) : Sound Tryz.prog 177 (f177M K) :=
  sound_fn (envOK (E := (f177E K)) tab_ok mixed_ok (AllOK.cons (f163_ok K) f163_runs (AllOK.cons (f176_ok K) f176_runs AllOK.nil)) AllP.nil AllN.nil) Tryz.func177 fun x => f177_run K x.1 x.2.1
theorem f177_runs : Runs Tryz.prog 177 := runsB_ok (by kernel_rfl)
theorem f267_ok (K : Nat) : Sound Tryz.prog 267 (f267M K) :=
  sound_fn (envOK (E := (f267E K)) tab_ok mixed_ok (AllOK.cons (f174_ok K) f174_runs (AllOK.cons (f177_ok K) f177_runs (AllOK.cons (f185_ok K) f185_runs AllOK.nil))) AllP.nil AllN.nil) Tryz.func267 fun x => f267_run K x.1 x.2.1
theorem f267_runs : Runs Tryz.prog 267 := runsB_ok (by kernel_rfl)
theorem f340_ok (K : Nat) : Sound Tryz.prog 340 (f340M K) :=
  sound_fn (envOK (E := (f340E K)) tab_ok mixed_ok AllOK.nil AllP.nil AllN.nil) Tryz.func340 fun x => f340_run K x.1 x.2.1
theorem f340_runs : Runs Tryz.prog 340 := runsB_ok (by kernel_rfl)
theorem f135_ok (K : Nat) : Sound Tryz.prog 135 (f135M K) :=
  sound_fn (envOK (E := (f135E K)) tab_ok mixed_ok AllOK.nil AllP.nil AllN.nil) Tryz.func135 fun x => f135_run K x.1 x.2.1
theorem f135_runs : Runs Tryz.prog 135 := runsB_ok (by kernel_rfl)
theorem f269_ok (K : Nat) : Sound Tryz.prog 269 (f269M K) :=
  sound_fn (envOK (E := (f269E K)) tab_ok mixed_ok (AllOK.cons (f135_ok K) f135_runs (AllOK.cons (f289_ok K) f289_runs (AllOK.cons (f290_ok K) f290_runs (AllOK.cons (f340_ok K) f340_runs AllOK.nil)))) AllP.nil AllN.nil) Tryz.func269 fun x => f269_run K x.1
theorem f269_runs : Runs Tryz.prog 269 := runsB_ok (by kernel_rfl)
theorem f137_ok (K : Nat) : Sound Tryz.prog 137 (f137M K) :=
  sound_fn (envOK (E := (f137E K)) tab_ok mixed_ok (AllOK.cons (f185_ok K) f185_runs (AllOK.cons (f217_ok K) f217_runs (AllOK.cons (f267_ok K) f267_runs (AllOK.cons (f268_ok K) f268_runs (AllOK.cons (f269_ok K) f269_runs AllOK.nil))))) AllP.nil AllN.nil) Tryz.func137 fun x => f137_run K x.1
theorem f137_runs : Runs Tryz.prog 137 := runsB_ok (by kernel_rfl)
theorem f257_ok (K : Nat) : Sound Tryz.prog 257 (f257M K) :=
  sound_fn (envOK (E := (f257E K)) tab_ok mixed_ok (AllOK.cons (f177_ok K) f177_runs (AllOK.cons (f185_ok K) f185_runs AllOK.nil)) AllP.nil AllN.nil) Tryz.func257 fun x => f257_run K x.1 x.2.1
theorem f257_runs : Runs Tryz.prog 257 := runsB_ok (by kernel_rfl)
theorem f126_ok (K : Nat) : Sound Tryz.prog 126 (f126M K) :=
  sound_fn (envOK (E := (f126E K)) tab_ok mixed_ok (AllOK.cons (f137_ok K) f137_runs (AllOK.cons (f257_ok K) f257_runs AllOK.nil)) AllP.nil AllN.nil) Tryz.func126 fun x => f126_run K x.1
theorem f126_runs : Runs Tryz.prog 126 := runsB_ok (by kernel_rfl)
theorem f346_ok (K : Nat) : Sound Tryz.prog 346 (f346M K) :=
  sound_fn (envOK (E := (f346E K)) tab_ok mixed_ok AllOK.nil AllP.nil AllN.nil) Tryz.func346 fun x => f346_run K x.1 x.2.1
theorem f346_runs : Runs Tryz.prog 346 := runsB_ok (by kernel_rfl)
theorem f280_ok (K : Nat) : Sound Tryz.prog 280 (f280M K) :=
  sound_fn (envOK (E := (f280E K)) tab_ok mixed_ok (AllOK.cons (f282_ok K) f282_runs (AllOK.cons (f346_ok K) f346_runs AllOK.nil)) AllP.nil AllN.nil) Tryz.func280 fun x => f280_run K x.1
theorem f280_runs : Runs Tryz.prog 280 := runsB_ok (by kernel_rfl)
theorem f339_ok (K : Nat) : Sound Tryz.prog 339 (f339M K) :=
  sound_fn (envOK (E := (f339E K)) tab_ok mixed_ok (AllOK.cons (f176_ok K) f176_runs AllOK.nil) AllP.nil AllN.nil) Tryz.func339 fun x => f339_run K x.1 x.2.1
theorem f339_runs : Runs Tryz.prog 339 := runsB_ok (by kernel_rfl)
theorem f338_ok (K : Nat) : Sound Tryz.prog 338 (f338M K) :=
  sound_fn (envOK (E := (f338E K)) tab_ok mixed_ok (AllOK.cons (f282_ok K) f282_runs (AllOK.cons (f339_ok K) f339_runs AllOK.nil)) AllP.nil AllN.nil) Tryz.func338 fun x => f338_run K x.1 x.2.1 x.2.2.1 x.2.2.2.1
theorem f338_runs : Runs Tryz.prog 338 := runsB_ok (by kernel_rfl)
theorem f378_ok (K : Nat) : Sound Tryz.prog 378 (f378M K) :=
  sound_fn (envOK (E := (f378E K)) tab_ok mixed_ok AllOK.nil AllP.nil AllN.nil) Tryz.func378 fun x => f378_run K x.1 x.2.1
theorem f378_runs : Runs Tryz.prog 378 := runsB_ok (by kernel_rfl)
theorem f337_ok (K : Nat) : Sound Tryz.prog 337 (f337M K) :=
  sound_fn (envOK (E := (f337E K)) tab_ok mixed_ok (AllOK.cons (f378_ok K) f378_runs AllOK.nil) AllP.nil AllN.nil) Tryz.func337 fun x => f337_run K x.1 x.2.1
theorem f337_runs : Runs Tryz.prog 337 := runsB_ok (by kernel_rfl)
theorem f266_ok (K : Nat) : Sound Tryz.prog 266 (f266M K) :=
  sound_fn (envOK (E := (f266E K)) tab_ok mixed_ok (AllOK.cons (f268_ok K) f268_runs (AllOK.cons (f280_ok K) f280_runs (AllOK.cons (f337_ok K) f337_runs (AllOK.cons (f338_ok K) f338_runs AllOK.nil)))) AllP.nil AllN.nil) Tryz.func266 fun x => f266_run K x.1 x.2.1
theorem f266_runs : Runs Tryz.prog 266 := runsB_ok (by kernel_rfl)
theorem f134_ok (K : Nat) : Sound Tryz.prog 134 (f134M K) :=
  sound_fn (envOK (E := (f134E K)) tab_ok mixed_ok (AllOK.cons (f185_ok K) f185_runs (AllOK.cons (f266_ok K) f266_runs (AllOK.cons (f267_ok K) f267_runs AllOK.nil))) AllP.nil AllN.nil) Tryz.func134 fun x => f134_run K x.1
theorem f134_runs : Runs Tryz.prog 134 := runsB_ok (by kernel_rfl)
theorem f258_ok (K : Nat) : Sound Tryz.prog 258 (f258M K) :=
  sound_fn (envOK (E := (f258E K)) tab_ok mixed_ok AllOK.nil AllP.nil AllN.nil) Tryz.func258 fun x => f258_run K x.1
theorem f258_runs : Runs Tryz.prog 258 := runsB_ok (by kernel_rfl)
theorem f374_ok (K : Nat) : Sound Tryz.prog 374 (f374M K) :=
  sound_fn (envOK (E := (f374E K)) tab_ok mixed_ok (AllOK.cons (f217_ok K) f217_runs (AllOK.cons (f258_ok K) f258_runs AllOK.nil)) AllP.nil AllN.nil) Tryz.func374 fun x => f374_run K x.1
theorem f374_runs : Runs Tryz.prog 374 := runsB_ok (by kernel_rfl)
theorem f326_ok (K : Nat) : Sound Tryz.prog 326 (f326M K) :=
  sound_fn (envOK (E := (f326E K)) tab_ok mixed_ok (AllOK.cons (f258_ok K) f258_runs (AllOK.cons (f374_ok K) f374_runs AllOK.nil)) AllP.nil AllN.nil) Tryz.func326 fun x => f326_run K x.1
theorem f326_runs : Runs Tryz.prog 326 := runsB_ok (by kernel_rfl)
theorem f281_ok (K : Nat) : Sound Tryz.prog 281 (f281M K) :=
  sound_fn (envOK (E := (f281E K)) tab_ok mixed_ok (AllOK.cons (f194_ok K) f194_runs AllOK.nil) AllP.nil AllN.nil) Tryz.func281 fun x => f281_run K x.1
theorem f281_runs : Runs Tryz.prog 281 := runsB_ok (by kernel_rfl)
theorem f350_ok (K : Nat) : Sound Tryz.prog 350 (f350M K) :=
  sound_fn (envOK (E := (f350E K)) tab_ok mixed_ok (AllOK.cons (f281_ok K) f281_runs AllOK.nil) AllP.nil AllN.nil) Tryz.func350 fun x => f350_run K x.1
theorem f350_runs : Runs Tryz.prog 350 := runsB_ok (by kernel_rfl)
theorem f287_ok (K : Nat) : Sound Tryz.prog 287 (f287M K) :=
  sound_fn (envOK (E := (f287E K)) tab_ok mixed_ok (AllOK.cons (f258_ok K) f258_runs (AllOK.cons (f350_ok K) f350_runs AllOK.nil)) AllP.nil AllN.nil) Tryz.func287 fun x => f287_run K x.1
theorem f287_runs : Runs Tryz.prog 287 := runsB_ok (by kernel_rfl)
theorem f318_ok (K : Nat) : Sound Tryz.prog 318 (f318M K) :=
  sound_fn (envOK (E := (f318E K)) tab_ok mixed_ok AllOK.nil AllP.nil AllN.nil) Tryz.func318 fun x => f318_run K x.1 x.2.1
theorem f318_runs : Runs Tryz.prog 318 := runsB_ok (by kernel_rfl)
theorem f233_ok (K : Nat) : Sound Tryz.prog 233 (f233M K) :=
  sound_fn (envOK (E := (f233E K)) tab_ok mixed_ok (AllOK.cons (f318_ok K) f318_runs AllOK.nil) AllP.nil AllN.nil) Tryz.func233 fun x => f233_run K x.1 x.2.1
theorem f233_runs : Runs Tryz.prog 233 := runsB_ok (by kernel_rfl)
theorem f156_ok (K : Nat) : Sound Tryz.prog 156 (f156M K) :=
  sound_fn (envOK (E := (f156E K)) tab_ok mixed_ok (AllOK.cons (f281_ok K) f281_runs AllOK.nil) AllP.nil AllN.nil) Tryz.func156 fun x => f156_run K x.1
theorem f156_runs : Runs Tryz.prog 156 := runsB_ok (by kernel_rfl)
theorem f173_ok (K : Nat) : Sound Tryz.prog 173 (f173M K) :=
  sound_fn (envOK (E := (f173E K)) tab_ok mixed_ok (AllOK.cons (f156_ok K) f156_runs AllOK.nil) AllP.nil AllN.nil) Tryz.func173 fun x => f173_run K x.1
theorem f173_runs : Runs Tryz.prog 173 := runsB_ok (by kernel_rfl)
theorem f375_ok (K : Nat) : Sound Tryz.prog 375 (f375M K) :=
  sound_fn (envOK (E := (f375E K)) tab_ok mixed_ok (AllOK.cons (f135_ok K) f135_runs (AllOK.cons (f173_ok K) f173_runs (AllOK.cons (f233_ok K) f233_runs (AllOK.cons (f287_ok K) f287_runs (AllOK.cons (f326_ok K) f326_runs (AllOK.cons (f340_ok K) f340_runs AllOK.nil)))))) AllP.nil AllN.nil) Tryz.func375 fun x => f375_run K x.1
theorem f375_runs : Runs Tryz.prog 375 := runsB_ok (by kernel_rfl)
theorem f330_ok (K : Nat) : Sound Tryz.prog 330 (f330M K) :=
  sound_fn (envOK (E := (f330E K)) tab_ok mixed_ok (AllOK.cons (f375_ok K) f375_runs AllOK.nil) AllP.nil AllN.nil) Tryz.func330 fun x => f330_run K x.1
theorem f330_runs : Runs Tryz.prog 330 := runsB_ok (by kernel_rfl)
theorem f327_ok (K : Nat) : Sound Tryz.prog 327 (f327M K) :=
  sound_fn (envOK (E := (f327E K)) tab_ok mixed_ok (AllOK.cons (f282_ok K) f282_runs (AllOK.cons (f289_ok K) f289_runs (AllOK.cons (f330_ok K) f330_runs AllOK.nil))) AllP.nil AllN.nil) Tryz.func327 fun x => f327_run K x.1 x.2.1
theorem f327_runs : Runs Tryz.prog 327 := runsB_ok (by kernel_rfl)
theorem f259_ok (K : Nat) : Sound Tryz.prog 259 (f259M K) :=
  sound_fn (envOK (E := (f259E K)) tab_ok mixed_ok (AllOK.cons (f135_ok K) f135_runs (AllOK.cons (f268_ok K) f268_runs (AllOK.cons (f326_ok K) f326_runs (AllOK.cons (f327_ok K) f327_runs AllOK.nil)))) AllP.nil AllN.nil) Tryz.func259 fun x => f259_run K x.1 x.2.1
theorem f259_runs : Runs Tryz.prog 259 := runsB_ok (by kernel_rfl)
theorem f329_ok (K : Nat) : Sound Tryz.prog 329 (f329M K) :=
  sound_fn (envOK (E := (f329E K)) tab_ok mixed_ok (AllOK.cons (f289_ok K) f289_runs (AllOK.cons (f339_ok K) f339_runs AllOK.nil)) AllP.nil AllN.nil) Tryz.func329 fun x => f329_run K x.1 x.2.1
theorem f329_runs : Runs Tryz.prog 329 := runsB_ok (by kernel_rfl)
theorem f331_ok (K : Nat) : Sound Tryz.prog 331 (f331M K) :=
  sound_fn (envOK (E := (f331E K)) tab_ok mixed_ok AllOK.nil AllP.nil AllN.nil) Tryz.func331 fun x => f331_run K x.1
theorem f331_runs : Runs Tryz.prog 331 := runsB_ok (by kernel_rfl)
theorem f328_ok (K : Nat) : Sound Tryz.prog 328 (f328M K) :=
  sound_fn (envOK (E := (f328E K)) tab_ok mixed_ok AllOK.nil AllP.nil AllN.nil) Tryz.func328 fun x => f328_run K x.1 x.2.1
theorem f328_runs : Runs Tryz.prog 328 := runsB_ok (by kernel_rfl)
theorem f260_ok (K : Nat) : Sound Tryz.prog 260 (f260M K) :=
  sound_fn (envOK (E := (f260E K)) tab_ok mixed_ok (AllOK.cons (f133_ok K) f133_runs (AllOK.cons (f328_ok K) f328_runs (AllOK.cons (f329_ok K) f329_runs (AllOK.cons (f330_ok K) f330_runs (AllOK.cons (f331_ok K) f331_runs AllOK.nil))))) AllP.nil AllN.nil) Tryz.func260 fun x => f260_run K x.1 x.2.1
theorem f260_runs : Runs Tryz.prog 260 := runsB_ok (by kernel_rfl)
theorem f127_ok (K : Nat) : Sound Tryz.prog 127 (f127M K) :=
  sound_fn (envOK (E := (f127E K)) tab_ok mixed_ok (AllOK.cons (f134_ok K) f134_runs (AllOK.cons (f258_ok K) f258_runs (AllOK.cons (f259_ok K) f259_runs (AllOK.cons (f260_ok K) f260_runs AllOK.nil)))) AllP.nil AllN.nil) Tryz.func127 fun x => f127_run K x.1
theorem f127_runs : Runs Tryz.prog 127 := runsB_ok (by kernel_rfl)
theorem f16_ok (K : Nat) : Sound Tryz.prog 16 (f16M K) :=
  sound_fn (envOK (E := (f16E K)) tab_ok mixed_ok (AllOK.cons (f125_ok K) f125_runs (AllOK.cons (f126_ok K) f126_runs (AllOK.cons (f127_ok K) f127_runs AllOK.nil))) AllP.nil AllN.nil) Tryz.func16 fun x => f16_run K x.1
theorem f16_runs : Runs Tryz.prog 16 := runsB_ok (by kernel_rfl)
theorem f200_ok (K : Nat) : Sound Tryz.prog 200 (f200M K) :=
  sound_fn (envOK (E := (f200E K)) tab_ok mixed_ok (AllOK.cons (f195_ok K) f195_runs AllOK.nil) AllP.nil AllN.nil) Tryz.func200 fun x => f200_run K x.1 x.2.1 x.2.2.1 x.2.2.2.1
theorem f200_runs : Runs Tryz.prog 200 := runsB_ok (by kernel_rfl)
theorem f128_ok (K : Nat) : Sound Tryz.prog 128 (f128M K) :=
  sound_fn (envOK (E := (f128E K)) tab_ok mixed_ok (AllOK.cons (f200_ok K) f200_runs (AllOK.cons (f215_ok K) f215_runs AllOK.nil)) AllP.nil AllN.nil) Tryz.func128 fun x => f128_run K x.1
theorem f128_runs : Runs Tryz.prog 128 := runsB_ok (by kernel_rfl)
theorem f205_ok (K : Nat) : Sound Tryz.prog 205 (f205M K) :=
  sound_fn (envOK (E := (f205E K)) tab_ok mixed_ok (AllOK.cons (f150_ok K) f150_runs AllOK.nil) AllP.nil AllN.nil) Tryz.func205 fun x => f205_run K x.1 x.2.1
theorem f205_runs : Runs Tryz.prog 205 := runsB_ok (by kernel_rfl)
theorem f265_ok (K : Nat) : Sound Tryz.prog 265 (f265M K) :=
  sound_fn (envOK (E := (f265E K)) tab_ok mixed_ok (AllOK.cons (f149_ok K) f149_runs (AllOK.cons (f151_ok K) f151_runs (AllOK.cons (f205_ok K) f205_runs AllOK.nil))) AllP.nil AllN.nil) Tryz.func265 fun x => f265_run K x.1 x.2.1
theorem f265_runs : Runs Tryz.prog 265 := runsB_ok (by kernel_rfl)
theorem f189_ok (K : Nat) : Sound Tryz.prog 189 (f189M K) :=
  sound_fn (envOK (E := (f189E K)) tab_ok mixed_ok (AllOK.cons (f149_ok K) f149_runs (AllOK.cons (f218_ok K) f218_runs (AllOK.cons (f265_ok K) f265_runs (AllOK.cons (f295_ok K) f295_runs (AllOK.cons (f296_ok K) f296_runs AllOK.nil))))) AllP.nil AllN.nil) Tryz.func189 fun x => f189_run K x.1
theorem f189_runs : Runs Tryz.prog 189 := runsB_ok (by kernel_rfl)
theorem f263_ok (K : Nat) : Sound Tryz.prog 263 (f263M K) :=
  sound_fn (envOK (E := (f263E K)) tab_ok mixed_ok (AllOK.cons (f149_ok K) f149_runs (AllOK.cons (f205_ok K) f205_runs AllOK.nil)) AllP.nil AllN.nil) Tryz.func263 fun x => f263_run K x.1 x.2.1
theorem f263_runs : Runs Tryz.prog 263 := runsB_ok (by kernel_rfl)
theorem f130_ok (K : Nat) : Sound Tryz.prog 130 (f130M K) :=
  sound_fn (envOK (E := (f130E K)) tab_ok mixed_ok (AllOK.cons (f189_ok K) f189_runs (AllOK.cons (f263_ok K) f263_runs AllOK.nil)) AllP.nil AllN.nil) Tryz.func130 fun x => f130_run K x.1
theorem f130_runs : Runs Tryz.prog 130 := runsB_ok (by kernel_rfl)
theorem f131_ok (K : Nat) : Sound Tryz.prog 131 (f131M K) :=
  sound_fn (envOK (E := (f131E K)) tab_ok mixed_ok (AllOK.cons (f149_ok K) f149_runs (AllOK.cons (f264_ok K) f264_runs (AllOK.cons (f265_ok K) f265_runs AllOK.nil))) AllP.nil AllN.nil) Tryz.func131 fun x => f131_run K x.1
theorem f131_runs : Runs Tryz.prog 131 := runsB_ok (by kernel_rfl)
theorem f132_ok (K : Nat) : Sound Tryz.prog 132 (f132M K) :=
  sound_fn (envOK (E := (f132E K)) tab_ok mixed_ok AllOK.nil AllP.nil AllN.nil) Tryz.func132 fun x => f132_run K x.1
theorem f132_runs : Runs Tryz.prog 132 := runsB_ok (by kernel_rfl)
theorem f376_ok (K : Nat) : Sound Tryz.prog 376 (f376M K) :=
  sound_fn (envOK (E := (f376E K)) tab_ok mixed_ok (AllOK.cons (f136_ok K) f136_runs (AllOK.cons (f320_ok K) f320_runs (AllOK.cons (f333_ok K) f333_runs AllOK.nil))) AllP.nil AllN.nil) Tryz.func376 fun x => f376_run K x.1
theorem f376_runs : Runs Tryz.prog 376 := runsB_ok (by kernel_rfl)
theorem f377_ok (K : Nat) : Sound Tryz.prog 377 (f377M K) :=
  sound_fn (envOK (E := (f377E K)) tab_ok mixed_ok (AllOK.cons (f250_ok K) f250_runs AllOK.nil) AllP.nil AllN.nil) Tryz.func377 fun x => f377_run K x.1 x.2.1
theorem f377_runs : Runs Tryz.prog 377 := runsB_ok (by kernel_rfl)
theorem f332_ok (K : Nat) : Sound Tryz.prog 332 (f332M K) :=
  sound_fn (envOK (E := (f332E K)) tab_ok mixed_ok (AllOK.cons (f333_ok K) f333_runs (AllOK.cons (f376_ok K) f376_runs (AllOK.cons (f377_ok K) f377_runs AllOK.nil))) AllP.nil AllN.nil) Tryz.func332 fun x => f332_run K x.1 x.2.1 x.2.2.1
theorem f332_runs : Runs Tryz.prog 332 := runsB_ok (by kernel_rfl)
theorem f335_ok (K : Nat) : Sound Tryz.prog 335 (f335M K) :=
  sound_fn (envOK (E := (f335E K)) tab_ok mixed_ok AllOK.nil AllP.nil AllN.nil) Tryz.func335 fun x => f335_run K x.1 x.2.1
theorem f335_runs : Runs Tryz.prog 335 := runsB_ok (by kernel_rfl)
theorem f262_ok (K : Nat) : Sound Tryz.prog 262 (f262M K) :=
  sound_fn (envOK (E := (f262E K)) tab_ok mixed_ok (AllOK.cons (f332_ok K) f332_runs (AllOK.cons (f335_ok K) f335_runs AllOK.nil)) AllP.nil AllN.nil) Tryz.func262 fun x => f262_run K x.1 x.2.1
theorem f262_runs : Runs Tryz.prog 262 := runsB_ok (by kernel_rfl)
theorem f334_ok (K : Nat) : Sound Tryz.prog 334 (f334M K) :=
  sound_fn (envOK (E := (f334E K)) tab_ok mixed_ok (AllOK.cons (f277_ok K) f277_runs (AllOK.cons (f278_ok K) f278_runs AllOK.nil)) AllP.nil AllN.nil) Tryz.func334 fun x => f334_run K x.1
theorem f334_runs : Runs Tryz.prog 334 := runsB_ok (by kernel_rfl)
theorem f261_ok (K : Nat) : Sound Tryz.prog 261 (f261M K) :=
  sound_fn (envOK (E := (f261E K)) tab_ok mixed_ok (AllOK.cons (f136_ok K) f136_runs (AllOK.cons (f262_ok K) f262_runs (AllOK.cons (f324_ok K) f324_runs (AllOK.cons (f332_ok K) f332_runs (AllOK.cons (f333_ok K) f333_runs (AllOK.cons (f334_ok K) f334_runs AllOK.nil)))))) AllP.nil AllN.nil) Tryz.func261 fun x => f261_run K x.1 x.2.1
theorem f261_runs : Runs Tryz.prog 261 := runsB_ok (by kernel_rfl)
theorem f129_ok (K : Nat) : Sound Tryz.prog 129 (f129M K) :=
  sound_fn (envOK (E := (f129E K)) tab_ok mixed_ok (AllOK.cons (f131_ok K) f131_runs (AllOK.cons (f132_ok K) f132_runs (AllOK.cons (f261_ok K) f261_runs (AllOK.cons (f262_ok K) f262_runs AllOK.nil)))) AllP.nil AllN.nil) Tryz.func129 fun x => f129_run K x.1
theorem f129_runs : Runs Tryz.prog 129 := runsB_ok (by kernel_rfl)
theorem f17_ok (K : Nat) : Sound Tryz.prog 17 (f17M K) :=
  sound_fn (envOK (E := (f17E K)) tab_ok mixed_ok (AllOK.cons (f128_ok K) f128_runs (AllOK.cons (f129_ok K) f129_runs (AllOK.cons (f130_ok K) f130_runs AllOK.nil))) AllP.nil AllN.nil) Tryz.func17 fun x => f17_run K x.1
theorem f17_runs : Runs Tryz.prog 17 := runsB_ok (by kernel_rfl)
theorem f18_ok (K : Nat) : Sound Tryz.prog 18 (f18M K) :=
  sound_fn (envOK (E := (f18E K)) tab_ok mixed_ok (AllOK.cons (f125_ok K) f125_runs (AllOK.cons (f126_ok K) f126_runs (AllOK.cons (f127_ok K) f127_runs AllOK.nil))) AllP.nil AllN.nil) Tryz.func18 fun x => f18_run K x.1
theorem f18_runs : Runs Tryz.prog 18 := runsB_ok (by kernel_rfl)
theorem f19_ok (K : Nat) : Sound Tryz.prog 19 (f19M K) :=
  sound_fn (envOK (E := (f19E K)) tab_ok mixed_ok (AllOK.cons (f128_ok K) f128_runs (AllOK.cons (f129_ok K) f129_runs (AllOK.cons (f130_ok K) f130_runs AllOK.nil))) AllP.nil AllN.nil) Tryz.func19 fun x => f19_run K x.1
theorem f19_runs : Runs Tryz.prog 19 := runsB_ok (by kernel_rfl)
theorem f20_ok (K : Nat) : Sound Tryz.prog 20 (f20M K) :=
  sound_fn (envOK (E := (f20E K)) tab_ok mixed_ok (AllOK.cons (f125_ok K) f125_runs (AllOK.cons (f126_ok K) f126_runs (AllOK.cons (f127_ok K) f127_runs AllOK.nil))) AllP.nil AllN.nil) Tryz.func20 fun x => f20_run K x.1
theorem f20_runs : Runs Tryz.prog 20 := runsB_ok (by kernel_rfl)
theorem f21_ok (K : Nat) : Sound Tryz.prog 21 (f21M K) :=
  sound_fn (envOK (E := (f21E K)) tab_ok mixed_ok (AllOK.cons (f128_ok K) f128_runs (AllOK.cons (f130_ok K) f130_runs (AllOK.cons (f131_ok K) f131_runs (AllOK.cons (f132_ok K) f132_runs AllOK.nil)))) AllP.nil AllN.nil) Tryz.func21 fun x => f21_run K x.1
theorem f21_runs : Runs Tryz.prog 21 := runsB_ok (by kernel_rfl)
theorem f22_ok (K : Nat) : Sound Tryz.prog 22 (f22M K) :=
  sound_fn (envOK (E := (f22E K)) tab_ok mixed_ok (AllOK.cons (f125_ok K) f125_runs (AllOK.cons (f126_ok K) f126_runs (AllOK.cons (f133_ok K) f133_runs (AllOK.cons (f134_ok K) f134_runs (AllOK.cons (f135_ok K) f135_runs AllOK.nil))))) AllP.nil AllN.nil) Tryz.func22 fun x => f22_run K x.1
theorem f22_runs : Runs Tryz.prog 22 := runsB_ok (by kernel_rfl)
theorem f23_ok (K : Nat) : Sound Tryz.prog 23 (f23M K) :=
  sound_fn (envOK (E := (f23E K)) tab_ok mixed_ok (AllOK.cons (f128_ok K) f128_runs (AllOK.cons (f130_ok K) f130_runs (AllOK.cons (f131_ok K) f131_runs (AllOK.cons (f136_ok K) f136_runs AllOK.nil)))) AllP.nil AllN.nil) Tryz.func23 fun x => f23_run K x.1
theorem f23_runs : Runs Tryz.prog 23 := runsB_ok (by kernel_rfl)
theorem f24_ok (K : Nat) : Sound Tryz.prog 24 (f24M K) :=
  sound_fn (envOK (E := (f24E K)) tab_ok mixed_ok (AllOK.cons (f125_ok K) f125_runs (AllOK.cons (f137_ok K) f137_runs AllOK.nil)) AllP.nil AllN.nil) Tryz.func24 fun x => f24_run K x.1
theorem f24_runs : Runs Tryz.prog 24 := runsB_ok (by kernel_rfl)
theorem f138_ok (K : Nat) : Sound Tryz.prog 138 (f138M K) :=
  sound_fn (envOK (E := (f138E K)) tab_ok mixed_ok (AllOK.cons (f125_ok K) f125_runs (AllOK.cons (f126_ok K) f126_runs (AllOK.cons (f134_ok K) f134_runs AllOK.nil))) AllP.nil AllN.nil) Tryz.func138 fun x => f138_run K x.1
theorem f138_runs : Runs Tryz.prog 138 := runsB_ok (by kernel_rfl)
theorem f25_ok (K : Nat) : Sound Tryz.prog 25 (f25M K) :=
  sound_fn (envOK (E := (f25E K)) tab_ok mixed_ok (AllOK.cons (f138_ok K) f138_runs AllOK.nil) AllP.nil AllN.nil) Tryz.func25 fun x => f25_run K x.1
theorem f25_runs : Runs Tryz.prog 25 := runsB_ok (by kernel_rfl)
theorem f3_ok (K : Nat) : Sound Tryz.prog 3 (f3M K) :=
  sound_fn (envOK (E := (f3E K)) tab_ok mixed_ok (AllOK.cons (f14_ok K) f14_runs (AllOK.cons (f15_ok K) f15_runs (AllOK.cons (f16_ok K) f16_runs (AllOK.cons (f17_ok K) f17_runs (AllOK.cons (f18_ok K) f18_runs (AllOK.cons (f19_ok K) f19_runs (AllOK.cons (f20_ok K) f20_runs (AllOK.cons (f21_ok K) f21_runs (AllOK.cons (f22_ok K) f22_runs (AllOK.cons (f23_ok K) f23_runs (AllOK.cons (f24_ok K) f24_runs (AllOK.cons (f25_ok K) f25_runs AllOK.nil)))))))))))) AllP.nil AllN.nil) Tryz.func3 fun x => f3_run K x.1
theorem f3_runs : Runs Tryz.prog 3 := runsB_ok (by kernel_rfl)
end Go.Proofs.YtniidcalfhhciaaGreat.X
