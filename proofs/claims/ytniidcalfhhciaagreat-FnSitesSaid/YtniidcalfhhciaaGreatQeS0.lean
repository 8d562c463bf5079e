/- Functions of the program as plain Lean functions, and that the program does what they say. Printed by gen.py. -/
import Derived.Test.YtniidcalfhhciaaGreatQeR0
import Derived.Test.YtniidcalfhhciaaGreatQeR1
namespace Go.Proofs.YtniidcalfhhciaaGreat.X
open Go
set_option maxRecDepth 100000
set_option linter.unusedVariables false
theorem f14_ok (K : Nat) : Sound Tryz.prog 14 (f14M K) :=
  sound_fn (envOK (E := (f14E K)) tab_ok mixed_ok AllOK.nil AllP.nil AllN.nil) Tryz.func14 fun x => f14_run K x.1
theorem f14_runs : Runs Tryz.prog 14 := runsB_ok (by kernel_rfl)
theorem f124_ok (K : Nat) : SoundN Tryz.prog 124 (f124M K) :=
  sound_fnN (envOK (E := (f124E K)) tab_ok mixed_ok AllOK.nil AllP.nil AllN.nil) Tryz.func124 fun x => f124_run K x.1
theorem f124_runs : Runs Tryz.prog 124 := runsB_ok (by kernel_rfl)
theorem f140_ok (K : Nat) : SoundP Tryz.prog 140 (f140M K) :=
  sound_fnP (envOK (E := (f140E K)) tab_ok mixed_ok AllOK.nil AllP.nil AllN.nil) Tryz.func140 fun x => f140_run K x.1 x.2.1
theorem f140_runs : Runs Tryz.prog 140 := runsB_ok (by kernel_rfl)
theorem f142_ok (K : Nat) : SoundP Tryz.prog 142 (f142M K) :=
  sound_fnP (envOK (E := (f142E K)) tab_ok mixed_ok AllOK.nil (AllP.cons (f140_ok K) f140_runs AllP.nil) AllN.nil) Tryz.func142 fun x => f142_run K x.1 x.2.1
theorem f142_runs : Runs Tryz.prog 142 := runsB_ok (by kernel_rfl)
theorem f304_ok (K : Nat) : SoundP Tryz.prog 304 (f304M K) :=
  sound_fnP (envOK (E := (f304E K)) tab_ok mixed_ok AllOK.nil (AllP.cons (f140_ok K) f140_runs (AllP.cons (f142_ok K) f142_runs AllP.nil)) AllN.nil) Tryz.func304 fun x => f304_run K x.1
theorem f304_runs : Runs Tryz.prog 304 := runsB_ok (by kernel_rfl)
theorem f305_ok (K : Nat) : SoundP Tryz.prog 305 (f305M K) :=
  sound_fnP (envOK (E := (f305E K)) tab_ok mixed_ok AllOK.nil (AllP.cons (f140_ok K) f140_runs (AllP.cons (f142_ok K) f142_runs AllP.nil)) AllN.nil) Tryz.func305 fun x => f305_run K x.1
theorem f305_runs : Runs Tryz.prog 305 := runsB_ok (by kernel_rfl)
theorem f213_ok (K : Nat) : SoundP Tryz.prog 213 (f213M K) :=
  sound_fnP (envOK (E := (f213E K)) tab_ok mixed_ok AllOK.nil (AllP.cons (f140_ok K) f140_runs (AllP.cons (f304_ok K) f304_runs (AllP.cons (f305_ok K) f305_runs AllP.nil))) AllN.nil) Tryz.func213 fun x => f213_run K x.1
theorem f213_runs : Runs Tryz.prog 213 := runsB_ok (by kernel_rfl)
theorem f306_ok (K : Nat) : Sound Tryz.prog 306 (f306M K) :=
  sound_fn (envOK (E := (f306E K)) tab_ok mixed_ok AllOK.nil AllP.nil AllN.nil) Tryz.func306 fun x => f306_run K x.1
theorem f306_runs : Runs Tryz.prog 306 := runsB_ok (by kernel_rfl)
theorem f195_ok (K : Nat) : Sound Tryz.prog 195 (f195M K) :=
  sound_fn (envOK (E := (f195E K)) tab_ok mixed_ok AllOK.nil AllP.nil AllN.nil) Tryz.func195 fun x => f195_run K x.1 x.2.1 x.2.2.1
theorem f195_runs : Runs Tryz.prog 195 := runsB_ok (by kernel_rfl)
theorem f307_ok (K : Nat) : Sound Tryz.prog 307 (f307M K) :=
  sound_fn (envOK (E := (f307E K)) tab_ok mixed_ok (AllOK.cons (f195_ok K) f195_runs AllOK.nil) AllP.nil AllN.nil) Tryz.func307 fun x => f307_run K x.1
theorem f307_runs : Runs Tryz.prog 307 := runsB_ok (by kernel_rfl)
theorem f215_ok (K : Nat) : Sound Tryz.prog 215 (f215M K) :=
  sound_fn (envOK (E := (f215E K)) tab_ok mixed_ok (AllOK.cons (f306_ok K) f306_runs (AllOK.cons (f307_ok K) f307_runs AllOK.nil)) AllP.nil AllN.nil) Tryz.func215 fun x => f215_run K x.1 x.2.1
theorem f215_runs : Runs Tryz.prog 215 := runsB_ok (by kernel_rfl)
theorem f218_ok (K : Nat) : Sound Tryz.prog 218 (f218M K) :=
  sound_fn (envOK (E := (f218E K)) tab_ok mixed_ok AllOK.nil AllP.nil AllN.nil) Tryz.func218 fun x => f218_run K 
theorem f218_runs : Runs Tryz.prog 218 := runsB_ok (by kernel_rfl)
theorem f141_ok (K : Nat) : Sound Tryz.prog 141 (f141M K) :=
  sound_fn (envOK (E := (f141E K)) tab_ok mixed_ok (AllOK.cons (f218_ok K) f218_runs AllOK.nil) AllP.nil AllN.nil) Tryz.func141 fun x => f141_run K 
theorem f141_runs : Runs Tryz.prog 141 := runsB_ok (by kernel_rfl)
theorem f385_ok (K : Nat) : Sound Tryz.prog 385 (f385M K) :=
  sound_fn (envOK (E := (f385E K)) tab_ok mixed_ok AllOK.nil AllP.nil AllN.nil) Tryz.func385 fun x => f385_run K x.1 x.2.1
theorem f385_runs : Runs Tryz.prog 385 := runsB_ok (by kernel_rfl)
theorem f277_ok (K : Nat) : Sound Tryz.prog 277 (f277M K) :=
  sound_fn (envOK (E := (f277E K)) tab_ok mixed_ok AllOK.nil AllP.nil AllN.nil) Tryz.func277 fun x => f277_run K x.1 x.2.1
theorem f277_runs : Runs Tryz.prog 277 := runsB_ok (by kernel_rfl)
theorem f359_ok (K : Nat) : Sound Tryz.prog 359 (f359M K) :=
  sound_fn (envOK (E := (f359E K)) tab_ok mixed_ok (AllOK.cons (f277_ok K) f277_runs (AllOK.cons (f385_ok K) f385_runs AllOK.nil)) AllP.nil AllN.nil) Tryz.func359 fun x => f359_run K x.1 x.2.1
theorem f359_runs : Runs Tryz.prog 359 := runsB_ok (by kernel_rfl)
theorem f336_ok (K : Nat) : Sound Tryz.prog 336 (f336M K) :=
  sound_fn (envOK (E := (f336E K)) tab_ok mixed_ok (AllOK.cons (f359_ok K) f359_runs AllOK.nil) AllP.nil AllN.nil) Tryz.func336 fun x => f336_run K x.1
theorem f336_runs : Runs Tryz.prog 336 := runsB_ok (by kernel_rfl)
theorem f295_ok (K : Nat) : Sound Tryz.prog 295 (f295M K) :=
  sound_fn (envOK (E := (f295E K)) tab_ok mixed_ok AllOK.nil AllP.nil AllN.nil) Tryz.func295 fun x => f295_run K x.1
theorem f295_runs : Runs Tryz.prog 295 := runsB_ok (by kernel_rfl)
theorem f278_ok (K : Nat) : Sound Tryz.prog 278 (f278M K) :=
  sound_fn (envOK (E := (f278E K)) tab_ok mixed_ok AllOK.nil AllP.nil AllN.nil) Tryz.func278 fun x => f278_run K x.1 x.2.1
theorem f278_runs : Runs Tryz.prog 278 := runsB_ok (by kernel_rfl)
theorem f136_runs : Runs Tryz.prog 136 := runsB_ok (by kernel_rfl)
theorem f136_okn (K : Nat) : ∀ n, Sound Tryz.prog 136 ⟨[(.ro, (.int .i64)), (.ro, (.int .i64))], [(.int .i64)], fun x => f136R K n x.1 x.2.1⟩
  | 0 => fun _ _ _ _ _ _ _ h => by cases h
  | n + 1 => sound_fn (envOK (E := f136E K (f136R K n)) tab_ok mixed_ok (AllOK.cons (f136_okn K n) f136_runs AllOK.nil) AllP.nil AllN.nil) Tryz.func136 fun x => f136_run K (f136R K n) x.1 x.2.1
theorem f136_ok (K : Nat) : Sound Tryz.prog 136 (f136M K) := f136_okn K K
theorem f324_ok (K : Nat) : Sound Tryz.prog 324 (f324M K) :=
  sound_fn (envOK (E := (f324E K)) tab_ok mixed_ok AllOK.nil AllP.nil AllN.nil) Tryz.func324 fun x => f324_run K x.1 x.2.1
theorem f324_runs : Runs Tryz.prog 324 := runsB_ok (by kernel_rfl)
theorem f333_ok (K : Nat) : Sound Tryz.prog 333 (f333M K) :=
  sound_fn (envOK (E := (f333E K)) tab_ok mixed_ok AllOK.nil AllP.nil AllN.nil) Tryz.func333 fun x => f333_run K x.1 x.2.1
theorem f333_runs : Runs Tryz.prog 333 := runsB_ok (by kernel_rfl)
theorem f296_ok (K : Nat) : Sound Tryz.prog 296 (f296M K) :=
  sound_fn (envOK (E := (f296E K)) tab_ok mixed_ok (AllOK.cons (f136_ok K) f136_runs (AllOK.cons (f324_ok K) f324_runs (AllOK.cons (f333_ok K) f333_runs AllOK.nil))) AllP.nil AllN.nil) Tryz.func296 fun x => f296_run K x.1
theorem f296_runs : Runs Tryz.prog 296 := runsB_ok (by kernel_rfl)
theorem f303_ok (K : Nat) : Sound Tryz.prog 303 (f303M K) :=
  sound_fn (envOK (E := (f303E K)) tab_ok mixed_ok (AllOK.cons (f278_ok K) f278_runs (AllOK.cons (f295_ok K) f295_runs (AllOK.cons (f296_ok K) f296_runs AllOK.nil))) AllP.nil AllN.nil) Tryz.func303 fun x => f303_run K x.1 x.2.1
theorem f303_runs : Runs Tryz.prog 303 := runsB_ok (by kernel_rfl)
theorem f264_ok (K : Nat) : Sound Tryz.prog 264 (f264M K) :=
  sound_fn (envOK (E := (f264E K)) tab_ok mixed_ok (AllOK.cons (f303_ok K) f303_runs (AllOK.cons (f336_ok K) f336_runs AllOK.nil)) AllP.nil AllN.nil) Tryz.func264 fun x => f264_run K x.1 x.2.1
theorem f264_runs : Runs Tryz.prog 264 := runsB_ok (by kernel_rfl)
theorem f291_ok (K : Nat) : SoundP Tryz.prog 291 (f291M K) :=
  sound_fnP (envOK (E := (f291E K)) tab_ok mixed_ok (AllOK.cons (f215_ok K) f215_runs (AllOK.cons (f218_ok K) f218_runs (AllOK.cons (f264_ok K) f264_runs AllOK.nil))) (AllP.cons (f140_ok K) f140_runs AllP.nil) AllN.nil) Tryz.func291 fun x => f291_run K x.1 x.2.1 x.2.2.1
theorem f291_runs : Runs Tryz.prog 291 := runsB_ok (by kernel_rfl)
theorem f250_ok (K : Nat) : Sound Tryz.prog 250 (f250M K) :=
  sound_fn (envOK (E := (f250E K)) tab_ok mixed_ok (AllOK.cons (f324_ok K) f324_runs AllOK.nil) AllP.nil AllN.nil) Tryz.func250 fun x => f250_run K x.1 x.2.1
theorem f250_runs : Runs Tryz.prog 250 := runsB_ok (by kernel_rfl)
theorem f273_ok (K : Nat) : Sound Tryz.prog 273 (f273M K) :=
  sound_fn (envOK (E := (f273E K)) tab_ok mixed_ok (AllOK.cons (f250_ok K) f250_runs AllOK.nil) AllP.nil AllN.nil) Tryz.func273 fun x => f273_run K x.1 x.2.1
theorem f273_runs : Runs Tryz.prog 273 := runsB_ok (by kernel_rfl)
theorem f344_ok (K : Nat) : Sound Tryz.prog 344 (f344M K) :=
  sound_fn (envOK (E := (f344E K)) tab_ok mixed_ok AllOK.nil AllP.nil AllN.nil) Tryz.func344 fun x => f344_run K x.1 x.2.1
theorem f344_runs : Runs Tryz.prog 344 := runsB_ok (by kernel_rfl)
theorem f276_ok (K : Nat) : Sound Tryz.prog 276 (f276M K) :=
  sound_fn (envOK (E := (f276E K)) tab_ok mixed_ok (AllOK.cons (f277_ok K) f277_runs (AllOK.cons (f278_ok K) f278_runs (AllOK.cons (f344_ok K) f344_runs AllOK.nil))) AllP.nil AllN.nil) Tryz.func276 fun x => f276_run K x.1 x.2.1
theorem f276_runs : Runs Tryz.prog 276 := runsB_ok (by kernel_rfl)
theorem f380_ok (K : Nat) : Sound Tryz.prog 380 (f380M K) :=
  sound_fn (envOK (E := (f380E K)) tab_ok mixed_ok AllOK.nil AllP.nil AllN.nil) Tryz.func380 fun x => f380_run K x.1
theorem f380_runs : Runs Tryz.prog 380 := runsB_ok (by kernel_rfl)
theorem f153_ok (K : Nat) : Sound Tryz.prog 153 (f153M K) :=
  sound_fn (envOK (E := (f153E K)) tab_ok mixed_ok AllOK.nil AllP.nil AllN.nil) Tryz.func153 fun x => f153_run K x.1 x.2.1
theorem f153_runs : Runs Tryz.prog 153 := runsB_ok (by kernel_rfl)
theorem f342_ok (K : Nat) : Sound Tryz.prog 342 (f342M K) :=
  sound_fn (envOK (E := (f342E K)) tab_ok mixed_ok (AllOK.cons (f153_ok K) f153_runs (AllOK.cons (f380_ok K) f380_runs AllOK.nil)) AllP.nil AllN.nil) Tryz.func342 fun x => f342_run K x.1 x.2.1
theorem f342_runs : Runs Tryz.prog 342 := runsB_ok (by kernel_rfl)
theorem f320_ok (K : Nat) : Sound Tryz.prog 320 (f320M K) :=
  sound_fn (envOK (E := (f320E K)) tab_ok mixed_ok AllOK.nil AllP.nil AllN.nil) Tryz.func320 fun x => f320_run K x.1 x.2.1
theorem f320_runs : Runs Tryz.prog 320 := runsB_ok (by kernel_rfl)
theorem f274_ok (K : Nat) : Sound Tryz.prog 274 (f274M K) :=
  sound_fn (envOK (E := (f274E K)) tab_ok mixed_ok (AllOK.cons (f320_ok K) f320_runs (AllOK.cons (f342_ok K) f342_runs AllOK.nil)) AllP.nil AllN.nil) Tryz.func274 fun x => f274_run K x.1 x.2.1
theorem f274_runs : Runs Tryz.prog 274 := runsB_ok (by kernel_rfl)
theorem f343_ok (K : Nat) : Sound Tryz.prog 343 (f343M K) :=
  sound_fn (envOK (E := (f343E K)) tab_ok mixed_ok (AllOK.cons (f274_ok K) f274_runs AllOK.nil) AllP.nil AllN.nil) Tryz.func343 fun x => f343_run K x.1 x.2.1
theorem f343_runs : Runs Tryz.prog 343 := runsB_ok (by kernel_rfl)
theorem f275_ok (K : Nat) : Sound Tryz.prog 275 (f275M K) :=
  sound_fn (envOK (E := (f275E K)) tab_ok mixed_ok (AllOK.cons (f343_ok K) f343_runs AllOK.nil) AllP.nil AllN.nil) Tryz.func275 fun x => f275_run K x.1 x.2.1
theorem f275_runs : Runs Tryz.prog 275 := runsB_ok (by kernel_rfl)
theorem f352_ok (K : Nat) : Sound Tryz.prog 352 (f352M K) :=
  sound_fn (envOK (E := (f352E K)) tab_ok mixed_ok (AllOK.cons (f343_ok K) f343_runs AllOK.nil) AllP.nil AllN.nil) Tryz.func352 fun x => f352_run K x.1 x.2.1
theorem f352_runs : Runs Tryz.prog 352 := runsB_ok (by kernel_rfl)
theorem f292_ok (K : Nat) : Sound Tryz.prog 292 (f292M K) :=
  sound_fn (envOK (E := (f292E K)) tab_ok mixed_ok (AllOK.cons (f141_ok K) f141_runs (AllOK.cons (f273_ok K) f273_runs (AllOK.cons (f275_ok K) f275_runs (AllOK.cons (f276_ok K) f276_runs (AllOK.cons (f352_ok K) f352_runs AllOK.nil))))) AllP.nil AllN.nil) Tryz.func292 fun x => f292_run K x.1 x.2.1
theorem f292_runs : Runs Tryz.prog 292 := runsB_ok (by kernel_rfl)
theorem f149_ok (K : Nat) : Sound Tryz.prog 149 (f149M K) :=
  sound_fn (envOK (E := (f149E K)) tab_ok mixed_ok AllOK.nil AllP.nil AllN.nil) Tryz.func149 fun x => f149_run K x.1
theorem f149_runs : Runs Tryz.prog 149 := runsB_ok (by kernel_rfl)
theorem f151_ok (K : Nat) : Sound Tryz.prog 151 (f151M K) :=
  sound_fn (envOK (E := (f151E K)) tab_ok mixed_ok (AllOK.cons (f277_ok K) f277_runs (AllOK.cons (f278_ok K) f278_runs AllOK.nil)) AllP.nil AllN.nil) Tryz.func151 fun x => f151_run K x.1 x.2.1
theorem f151_runs : Runs Tryz.prog 151 := runsB_ok (by kernel_rfl)
theorem f171_ok (K : Nat) : Sound Tryz.prog 171 (f171M K) :=
  sound_fn (envOK (E := (f171E K)) tab_ok mixed_ok (AllOK.cons (f151_ok K) f151_runs (AllOK.cons (f250_ok K) f250_runs AllOK.nil)) AllP.nil AllN.nil) Tryz.func171 fun x => f171_run K x.1 x.2.1 x.2.2.1
theorem f171_runs : Runs Tryz.prog 171 := runsB_ok (by kernel_rfl)
theorem f236_ok (K : Nat) : Sound Tryz.prog 236 (f236M K) :=
  sound_fn (envOK (E := (f236E K)) tab_ok mixed_ok (AllOK.cons (f320_ok K) f320_runs AllOK.nil) AllP.nil AllN.nil) Tryz.func236 fun x => f236_run K x.1 x.2.1
theorem f236_runs : Runs Tryz.prog 236 := runsB_ok (by kernel_rfl)
theorem f193_ok (K : Nat) : Sound Tryz.prog 193 (f193M K) :=
  sound_fn (envOK (E := (f193E K)) tab_ok mixed_ok (AllOK.cons (f171_ok K) f171_runs (AllOK.cons (f236_ok K) f236_runs AllOK.nil)) AllP.nil AllN.nil) Tryz.func193 fun x => f193_run K x.1 x.2.1 x.2.2.1
theorem f193_runs : Runs Tryz.prog 193 := runsB_ok (by kernel_rfl)
theorem f182_ok (K : Nat) : Sound Tryz.prog 182 (f182M K) :=
  sound_fn (envOK (E := (f182E K)) tab_ok mixed_ok (AllOK.cons (f149_ok K) f149_runs (AllOK.cons (f193_ok K) f193_runs AllOK.nil)) AllP.nil AllN.nil) Tryz.func182 fun x => f182_run K x.1 x.2.1
theorem f182_runs : Runs Tryz.prog 182 := runsB_ok (by kernel_rfl)
theorem f150_ok (K : Nat) : Sound Tryz.prog 150 (f150M K) :=
  sound_fn (envOK (E := (f150E K)) tab_ok mixed_ok (AllOK.cons (f250_ok K) f250_runs AllOK.nil) AllP.nil AllN.nil) Tryz.func150 fun x => f150_run K x.1 x.2.1
theorem f150_runs : Runs Tryz.prog 150 := runsB_ok (by kernel_rfl)
theorem f183_ok (K : Nat) : Sound Tryz.prog 183 (f183M K) :=
  sound_fn (envOK (E := (f183E K)) tab_ok mixed_ok (AllOK.cons (f150_ok K) f150_runs (AllOK.cons (f182_ok K) f182_runs AllOK.nil)) AllP.nil AllN.nil) Tryz.func183 fun x => f183_run K x.1 x.2.1
theorem f183_runs : Runs Tryz.prog 183 := runsB_ok (by kernel_rfl)
theorem f255_ok (K : Nat) : SoundP Tryz.prog 255 (f255M K) :=
  sound_fnP (envOK (E := (f255E K)) tab_ok mixed_ok (AllOK.cons (f141_ok K) f141_runs (AllOK.cons (f183_ok K) f183_runs (AllOK.cons (f215_ok K) f215_runs (AllOK.cons (f273_ok K) f273_runs (AllOK.cons (f292_ok K) f292_runs AllOK.nil))))) (AllP.cons (f140_ok K) f140_runs (AllP.cons (f291_ok K) f291_runs AllP.nil)) AllN.nil) Tryz.func255 fun x => f255_run K x.1 x.2.1 x.2.2.1
theorem f255_runs : Runs Tryz.prog 255 := runsB_ok (by kernel_rfl)
theorem f123_ok (K : Nat) : SoundP Tryz.prog 123 (f123M K) :=
  sound_fnP (envOK (E := (f123E K)) tab_ok mixed_ok AllOK.nil (AllP.cons (f140_ok K) f140_runs (AllP.cons (f142_ok K) f142_runs (AllP.cons (f213_ok K) f213_runs (AllP.cons (f255_ok K) f255_runs AllP.nil)))) AllN.nil) Tryz.func123 fun x => f123_run K x.1
theorem f123_runs : Runs Tryz.prog 123 := runsB_ok (by kernel_rfl)
theorem f59_ok (K : Nat) : Sound Tryz.prog 59 (f59M K) :=
  sound_fn (envOK (E := (f59E K)) tab_ok mixed_ok AllOK.nil (AllP.cons (f123_ok K) f123_runs AllP.nil) (AllN.cons (f124_ok K) f124_runs AllN.nil)) Tryz.func59 fun x => f59_run K x.1
theorem f59_runs : Runs Tryz.prog 59 := runsB_ok (by kernel_rfl)
theorem f194_ok (K : Nat) : Sound Tryz.prog 194 (f194M K) :=
  sound_fn (envOK (E := (f194E K)) tab_ok mixed_ok AllOK.nil AllP.nil AllN.nil) Tryz.func194 fun x => f194_run K x.1 x.2.1 x.2.2.1
theorem f194_runs : Runs Tryz.prog 194 := runsB_ok (by kernel_rfl)
theorem f256_ok (K : Nat) : Sound Tryz.prog 256 (f256M K) :=
  sound_fn (envOK (E := (f256E K)) tab_ok mixed_ok (AllOK.cons (f194_ok K) f194_runs AllOK.nil) AllP.nil AllN.nil) Tryz.func256 fun x => f256_run K x.1
theorem f256_runs : Runs Tryz.prog 256 := runsB_ok (by kernel_rfl)
theorem f133_ok (K : Nat) : Sound Tryz.prog 133 (f133M K) :=
  sound_fn (envOK (E := (f133E K)) tab_ok mixed_ok AllOK.nil AllP.nil AllN.nil) Tryz.func133 fun x => f133_run K x.1
theorem f133_runs : Runs Tryz.prog 133 := runsB_ok (by kernel_rfl)
theorem f184_ok (K : Nat) : Sound Tryz.prog 184 (f184M K) :=
  sound_fn (envOK (E := (f184E K)) tab_ok mixed_ok (AllOK.cons (f133_ok K) f133_runs (AllOK.cons (f194_ok K) f194_runs AllOK.nil)) AllP.nil AllN.nil) Tryz.func184 fun x => f184_run K x.1
theorem f184_runs : Runs Tryz.prog 184 := runsB_ok (by kernel_rfl)
theorem f300_ok (K : Nat) : Sound Tryz.prog 300 (f300M K) :=
  sound_fn (envOK (E := (f300E K)) tab_ok mixed_ok (AllOK.cons (f194_ok K) f194_runs AllOK.nil) AllP.nil AllN.nil) Tryz.func300 fun x => f300_run K x.1 x.2.1 x.2.2.1
theorem f300_runs : Runs Tryz.prog 300 := runsB_ok (by kernel_rfl)
theorem f354_ok (K : Nat) : Sound Tryz.prog 354 (f354M K) :=
  sound_fn (envOK (E := (f354E K)) tab_ok mixed_ok AllOK.nil AllP.nil AllN.nil) Tryz.func354 fun x => f354_run K x.1 x.2.1
theorem f354_runs : Runs Tryz.prog 354 := runsB_ok (by kernel_rfl)
theorem f299_ok (K : Nat) : Sound Tryz.prog 299 (f299M K) :=
  sound_fn (envOK (E := (f299E K)) tab_ok mixed_ok (AllOK.cons (f354_ok K) f354_runs AllOK.nil) AllP.nil AllN.nil) Tryz.func299 fun x => f299_run K x.1 x.2.1
theorem f299_runs : Runs Tryz.prog 299 := runsB_ok (by kernel_rfl)
theorem f199_ok (K : Nat) : Sound Tryz.prog 199 (f199M K) :=
  sound_fn (envOK (E := (f199E K)) tab_ok mixed_ok (AllOK.cons (f299_ok K) f299_runs (AllOK.cons (f300_ok K) f300_runs AllOK.nil)) AllP.nil AllN.nil) Tryz.func199 fun x => f199_run K x.1 x.2.1 x.2.2.1
theorem f199_runs : Runs Tryz.prog 199 := runsB_ok (by kernel_rfl)
theorem f125_ok (K : Nat) : Sound Tryz.prog 125 (f125M K) :=
  sound_fn (envOK (E := (f125E K)) tab_ok mixed_ok (AllOK.cons (f133_ok K) f133_runs (AllOK.cons (f184_ok K) f184_runs (AllOK.cons (f199_ok K) f199_runs (AllOK.cons (f256_ok K) f256_runs AllOK.nil)))) AllP.nil AllN.nil) Tryz.func125 fun x => f125_run K x.1
theorem f125_runs : Runs Tryz.prog 125 := runsB_ok (by kernel_rfl)
theorem f268_ok (K : Nat) : Sound Tryz.prog 268 (f268M K) :=
  sound_fn (envOK (E := (f268E K)) tab_ok mixed_ok AllOK.nil AllP.nil AllN.nil) Tryz.func268 fun x => f268_run K x.1
theorem f268_runs : Runs Tryz.prog 268 := runsB_ok (by kernel_rfl)
theorem f185_ok (K : Nat) : Sound Tryz.prog 185 (f185M K) :=
  sound_fn (envOK (E := (f185E K)) tab_ok mixed_ok AllOK.nil AllP.nil AllN.nil) Tryz.func185 fun x => f185_run K x.1
theorem f185_runs : Runs Tryz.prog 185 := runsB_ok (by kernel_rfl)
theorem f217_ok (K : Nat) : Sound Tryz.prog 217 (f217M K) :=
  sound_fn (envOK (E := (f217E K)) tab_ok mixed_ok AllOK.nil AllP.nil AllN.nil) Tryz.func217 fun x => f217_run K 
theorem f217_runs : Runs Tryz.prog 217 := runsB_ok (by kernel_rfl)
theorem f282_ok (K : Nat) : Sound Tryz.prog 282 (f282M K) :=
  sound_fn (envOK (E := (f282E K)) tab_ok mixed_ok AllOK.nil AllP.nil AllN.nil) Tryz.func282 fun x => f282_run K x.1 x.2.1
theorem f282_runs : Runs Tryz.prog 282 := runsB_ok (by kernel_rfl)
theorem f289_ok (K : Nat) : Sound Tryz.prog 289 (f289M K) :=
  sound_fn (envOK (E := (f289E K)) tab_ok mixed_ok AllOK.nil AllP.nil AllN.nil) Tryz.func289 fun x => f289_run K x.1 x.2.1
theorem f289_runs : Runs Tryz.prog 289 := runsB_ok (by kernel_rfl)
theorem f174_ok (K : Nat) : Sound Tryz.prog 174 (f174M K) :=
  sound_fn (envOK (E := (f174E K)) tab_ok mixed_ok (AllOK.cons (f282_ok K) f282_runs (AllOK.cons (f289_ok K) f289_runs AllOK.nil)) AllP.nil AllN.nil) Tryz.func174 fun x => f174_run K x.1 x.2.1
theorem f174_runs : Runs Tryz.prog 174 := runsB_ok (by kernel_rfl)
theorem f290_ok (K : Nat) : Sound Tryz.prog 290 (f290M K) :=
  sound_fn (envOK (E := (f290E K)) tab_ok mixed_ok AllOK.nil AllP.nil AllN.nil) Tryz.func290 fun x => f290_run K x.1 x.2.1
theorem f290_runs : Runs Tryz.prog 290 := runsB_ok (by kernel_rfl)
theorem f176_ok (K : Nat) : Sound Tryz.prog 176 (f176M K) :=
  sound_fn (envOK (E := (f176E K)) tab_ok mixed_ok (AllOK.cons (f290_ok K) f290_runs AllOK.nil) AllP.nil AllN.nil) Tryz.func176 fun x => f176_run K x.1 x.2.1
theorem f176_runs : Runs Tryz.prog 176 := runsB_ok (by kernel_rfl)
theorem f163_ok (K : Nat) : Sound Tryz.prog 163 (f163M K) :=
  sound_fn (envOK (E := (f163E K)) tab_ok mixed_ok AllOK.nil AllP.nil AllN.nil) Tryz.func163 fun x => f163_run K x.1 x.2.1
theorem f163_runs : Runs Tryz.prog 163 := runsB_ok (by kernel_rfl)
theorem f177_ok (K : Nat) : Sound Tryz.prog 177 (f177M K) :=
  sound_fn (envOK (E := (f177E K)) tab_ok mixed_ok (AllOK.cons (f163_ok K) f163_runs (AllOK.cons (f176_ok K) f176_runs AllOK.nil)) AllP.nil AllN.nil) Tryz.func177 fun x => f177_run K x.1 x.2.1
theorem f177_runs : Runs Tryz.prog 177 := runsB_ok (by kernel_rfl)
theorem f267_ok (K : Nat) : Sound Tryz.prog 267 (f267M K) :=
  sound_fn (envOK (E := (f267E K)) tab_ok mixed_ok (AllOK.cons (f174_ok K) f174_runs (AllOK.cons (f177_ok K) f177_runs (AllOK.cons (f185_ok K) f185_runs AllOK.nil))) AllP.nil AllN.nil) Tryz.func267 fun x => f267_run K x.1 x.2.1
theorem f267_runs : Runs Tryz.prog 267 := runsB_ok (by kernel_rfl)
theorem f340_ok (K : Nat) : Sound Tryz.prog 340 (f340M K) :=
  sound_fn (envOK (E := (f340E K)) tab_ok mixed_ok AllOK.nil AllP.nil AllN.nil) Tryz.func340 fun x => f340_run K x.1 x.2.1
theorem f340_runs : Runs Tryz.prog 340 := runsB_ok (by kernel_rfl)
theorem f135_ok (K : Nat) : Sound Tryz.prog 135 (f135M K) :=
  sound_fn (envOK (E := (f135E K)) tab_ok mixed_ok AllOK.nil AllP.nil AllN.nil) Tryz.func135 fun x => f135_run K x.1 x.2.1
theorem f135_runs : Runs Tryz.prog 135 := runsB_ok (by kernel_rfl)
theorem f269_ok (K : Nat) : Sound Tryz.prog 269 (f269M K) :=
  sound_fn (envOK (E := (f269E K)) tab_ok mixed_ok (AllOK.cons (f135_ok K) f135_runs (AllOK.cons (f289_ok K) f289_runs (AllOK.cons (f290_ok K) f290_runs (AllOK.cons (f340_ok K) f340_runs AllOK.nil)))) AllP.nil AllN.nil) Tryz.func269 fun x => f269_run K x.1
theorem f269_runs : Runs Tryz.prog 269 := runsB_ok (by kernel_rfl)
theorem f137_ok (K : Nat) : Sound Tryz.prog 137 (f137M K) :=
  sound_fn (envOK (E := (f137E K)) tab_ok mixed_ok (AllOK.cons (f185_ok K) f185_runs (AllOK.cons (f217_ok K) f217_runs (AllOK.cons (f267_ok K) f267_runs (AllOK.cons (f268_ok K) f268_runs (AllOK.cons (f269_ok K) f269_runs AllOK.nil))))) AllP.nil AllN.nil) Tryz.func137 fun x => f137_run K x.1
theorem f137_runs : Runs Tryz.prog 137 := runsB_ok (by kernel_rfl)
theorem f257_ok (K : Nat) : Sound Tryz.prog 257 (f257M K) :=
  sound_fn (envOK (E := (f257E K)) tab_ok mixed_ok (AllOK.cons (f177_ok K) f177_runs (AllOK.cons (f185_ok K) f185_runs AllOK.nil)) AllP.nil AllN.nil) Tryz.func257 fun x => f257_run K x.1 x.2.1
theorem f257_runs : Runs Tryz.prog 257 := runsB_ok (by kernel_rfl)
theorem f126_ok (K : Nat) : Sound Tryz.prog 126 (f126M K) :=
  sound_fn (envOK (E := (f126E K)) tab_ok mixed_ok (AllOK.cons (f137_ok K) f137_runs (AllOK.cons (f257_ok K) f257_runs AllOK.nil)) AllP.nil AllN.nil) Tryz.func126 fun x => f126_run K x.1
theorem f126_runs : Runs Tryz.prog 126 := runsB_ok (by kernel_rfl)
theorem f346_ok (K : Nat) : Sound Tryz.prog 346 (f346M K) :=
  sound_fn (envOK (E := (f346E K)) tab_ok mixed_ok AllOK.nil AllP.nil AllN.nil) Tryz.func346 fun x => f346_run K x.1 x.2.1
theorem f346_runs : Runs Tryz.prog 346 := runsB_ok (by kernel_rfl)
theorem f280_ok (K : Nat) : Sound Tryz.prog 280 (f280M K) :=
  sound_fn (envOK (E := (f280E K)) tab_ok mixed_ok (AllOK.cons (f282_ok K) f282_runs (AllOK.cons (f346_ok K) f346_runs AllOK.nil)) AllP.nil AllN.nil) Tryz.func280 fun x => f280_run K x.1
theorem f280_runs : Runs Tryz.prog 280 := runsB_ok (by kernel_rfl)
theorem f339_ok (K : Nat) : Sound Tryz.prog 339 (f339M K) :=
  sound_fn (envOK (E := (f339E K)) tab_ok mixed_ok (AllOK.cons (f176_ok K) f176_runs AllOK.nil) AllP.nil AllN.nil) Tryz.func339 fun x => f339_run K x.1 x.2.1
theorem f339_runs : Runs Tryz.prog 339 := runsB_ok (by kernel_rfl)
theorem f338_ok (K : Nat) : Sound Tryz.prog 338 (f338M K) :=
  sound_fn (envOK (E := (f338E K)) tab_ok mixed_ok (AllOK.cons (f282_ok K) f282_runs (AllOK.cons (f339_ok K) f339_runs AllOK.nil)) AllP.nil AllN.nil) Tryz.func338 fun x => f338_run K x.1 x.2.1 x.2.2.1 x.2.2.2.1
theorem f338_runs : Runs Tryz.prog 338 := runsB_ok (by kernel_rfl)
theorem f378_ok (K : Nat) : Sound Tryz.prog 378 (f378M K) :=
  sound_fn (envOK (E := (f378E K)) tab_ok mixed_ok AllOK.nil AllP.nil AllN.nil) Tryz.func378 fun x => f378_run K x.1 x.2.1
theorem f378_runs : Runs Tryz.prog 378 := runsB_ok (by kernel_rfl)
theorem f337_ok (K : Nat) : Sound Tryz.prog 337 (f337M K) :=
  sound_fn (envOK (E := (f337E K)) tab_ok mixed_ok (AllOK.cons (f378_ok K) f378_runs AllOK.nil) AllP.nil AllN.nil) Tryz.func337 fun x => f337_run K x.1 x.2.1
theorem f337_runs : Runs Tryz.prog 337 := runsB_ok (by kernel_rfl)
theorem f266_ok (K : Nat) : Sound Tryz.prog 266 (f266M K) :=
  sound_fn (envOK (E := (f266E K)) tab_ok mixed_ok (AllOK.cons (f268_ok K) f268_runs (AllOK.cons (f280_ok K) f280_runs (AllOK.cons (f337_ok K) f337_runs (AllOK.cons (f338_ok K) f338_runs AllOK.nil)))) AllP.nil AllN.nil) Tryz.func266 fun x => f266_run K x.1 x.2.1
theorem f266_runs : Runs Tryz.prog 266 := runsB_ok (by kernel_rfl)
theorem f134_ok (K : Nat) : Sound Tryz.prog 134 (f134M K) :=
  sound_fn (envOK (E := (f134E K)) tab_ok mixed_ok (AllOK.cons (f185_ok K) f185_runs (AllOK.cons (f266_ok K) f266_runs (AllOK.cons (f267_ok K) f267_runs AllOK.nil))) AllP.nil AllN.nil) Tryz.func134 fun x => f134_run K x.1
theorem f134_runs : Runs Tryz.prog 134 := runsB_ok (by kernel_rfl)
def f353_ren : Go.Shelf.Ren := ⟨fun | 212 => 353 | 263 => 381 | 264 => 382 | n => n, fun | 46 => 164 | 51 => 322 | 53 => 48 | 146 => 328 | 148 => 330 | n => n, fun n => n⟩
theorem f353_lays : Lays.n212 Tryz.prog f353_ren where
  mixed := by kernel_rfl
  f212 := Tryz.func353.trans (congrArg some (by kernel_rfl))
  f263 := Tryz.func381.trans (congrArg some (by kernel_rfl))
  f264 := Tryz.func382.trans (congrArg some (by kernel_rfl))
  t46 := Tryz.underlying164
  a46 := Tryz.isAgg164
  z46 := Tryz.sizeOf164
  v46 := Tryz.zeroValue164
  t51 := Tryz.underlying322
  a51 := Tryz.isAgg322
  z51 := Tryz.sizeOf322
  v51 := Tryz.zeroValue322
  t53 := Tryz.underlying48
  a53 := Tryz.isAgg48
  z53 := Tryz.sizeOf48
  v53 := Tryz.zeroValue48
  t146 := Tryz.underlying328
  a146 := Tryz.isAgg328
  z146 := Tryz.sizeOf328
  v146 := Tryz.zeroValue328
  t148 := Tryz.underlying330
  a148 := Tryz.isAgg330
  z148 := Tryz.sizeOf330
  v148 := Tryz.zeroValue330
theorem f353_ok (K : Nat) : Sound Tryz.prog 353 (f353M K) := mul_sound f353_lays rfl
theorem f353_runs : Runs Tryz.prog 353 := runsB_ok (by kernel_rfl)
theorem f294_ok (K : Nat) : Sound Tryz.prog 294 (f294M K) :=
  sound_fn (envOK (E := (f294E K)) tab_ok mixed_ok (AllOK.cons (f353_ok K) f353_runs AllOK.nil) AllP.nil AllN.nil) Tryz.func294 fun x => f294_run K x.1 x.2.1
theorem f294_runs : Runs Tryz.prog 294 := runsB_ok (by kernel_rfl)
theorem f188_ok (K : Nat) : Sound Tryz.prog 188 (f188M K) :=
  sound_fn (envOK (E := (f188E K)) tab_ok mixed_ok (AllOK.cons (f174_ok K) f174_runs (AllOK.cons (f176_ok K) f176_runs AllOK.nil)) AllP.nil AllN.nil) Tryz.func188 fun x => f188_run K x.1 x.2.1 x.2.2.1
theorem f188_runs : Runs Tryz.prog 188 := runsB_ok (by kernel_rfl)
theorem f318_ok (K : Nat) : Sound Tryz.prog 318 (f318M K) :=
  sound_fn (envOK (E := (f318E K)) tab_ok mixed_ok AllOK.nil AllP.nil AllN.nil) Tryz.func318 fun x => f318_run K x.1 x.2.1
theorem f318_runs : Runs Tryz.prog 318 := runsB_ok (by kernel_rfl)
theorem f233_ok (K : Nat) : Sound Tryz.prog 233 (f233M K) :=
  sound_fn (envOK (E := (f233E K)) tab_ok mixed_ok (AllOK.cons (f318_ok K) f318_runs AllOK.nil) AllP.nil AllN.nil) Tryz.func233 fun x => f233_run K x.1 x.2.1
theorem f233_runs : Runs Tryz.prog 233 := runsB_ok (by kernel_rfl)
def f232_ren : Go.Shelf.Ren := ⟨fun | 6 => 232 | 14 => 316 | 15 => 317 | 20 => 364 | 21 => 365 | 22 => 366 | 23 => 367 | 24 => 368 | 25 => 369 | 26 => 370 | 27 => 371 | 28 => 372 | 29 => 373 | 46 => 394 | 47 => 395 | 48 => 396 | 49 => 397 | 50 => 398 | 57 => 402 | n => n, fun | 0 => 0 | 3 => 3 | 4 => 4 | 5 => 5 | 9 => 9 | 22 => 58 | 24 => 55 | 25 => 218 | 39 => 164 | 45 => 314 | 46 => 315 | 50 => 319 | 53 => 322 | 55 => 48 | 66 => 337 | 70 => 341 | 76 => 345 | 77 => 346 | n => n, fun n => n⟩
theorem f232_lays : SlLaysF0.n6 Tryz.prog f232_ren where
  mixed := by kernel_rfl
  f6 := ⟨ "slices.SortFunc[[]loop.example/g00943/impl.Vec,loop.example/g00943/impl.Vec]", by decide, Tryz.func232.trans (congrArg some (by kernel_rfl))⟩
  f14 := ⟨ "slices.pdqsortCmpFunc[loop.example/g00943/impl.Vec]", by decide, Tryz.func316.trans (congrArg some (by kernel_rfl))⟩
  f15 := Tryz.func317.trans (congrArg some (by kernel_rfl))
  f20 := ⟨ "slices.insertionSortCmpFunc[loop.example/g00943/impl.Vec]", by decide, Tryz.func364.trans (congrArg some (by kernel_rfl))⟩
  f21 := ⟨ "slices.heapSortCmpFunc[loop.example/g00943/impl.Vec]", by decide, Tryz.func365.trans (congrArg some (by kernel_rfl))⟩
  f22 := ⟨ "slices.breakPatternsCmpFunc[loop.example/g00943/impl.Vec]", by decide, Tryz.func366.trans (congrArg some (by kernel_rfl))⟩
  f23 := ⟨ "slices.choosePivotCmpFunc[loop.example/g00943/impl.Vec]", by decide, Tryz.func367.trans (congrArg some (by kernel_rfl))⟩
  f24 := ⟨ "slices.reverseRangeCmpFunc[loop.example/g00943/impl.Vec]", by decide, Tryz.func368.trans (congrArg some (by kernel_rfl))⟩
  f25 := ⟨ "slices.partialInsertionSortCmpFunc[loop.example/g00943/impl.Vec]", by decide, Tryz.func369.trans (congrArg some (by kernel_rfl))⟩
  f26 := ⟨ "slices.partitionEqualCmpFunc[loop.example/g00943/impl.Vec]", by decide, Tryz.func370.trans (congrArg some (by kernel_rfl))⟩
  f27 := ⟨ "slices.partitionCmpFunc[loop.example/g00943/impl.Vec]", by decide, Tryz.func371.trans (congrArg some (by kernel_rfl))⟩
  f28 := Tryz.func372.trans (congrArg some (by kernel_rfl))
  f29 := Tryz.func373.trans (congrArg some (by kernel_rfl))
  f46 := ⟨ "slices.siftDownCmpFunc[loop.example/g00943/impl.Vec]", by decide, Tryz.func394.trans (congrArg some (by kernel_rfl))⟩
  f47 := Tryz.func395.trans (congrArg some (by kernel_rfl))
  f48 := Tryz.func396.trans (congrArg some (by kernel_rfl))
  f49 := ⟨ "slices.medianAdjacentCmpFunc[loop.example/g00943/impl.Vec]", by decide, Tryz.func397.trans (congrArg some (by kernel_rfl))⟩
  f50 := ⟨ "slices.medianCmpFunc[loop.example/g00943/impl.Vec]", by decide, Tryz.func398.trans (congrArg some (by kernel_rfl))⟩
  f57 := ⟨ "slices.order2CmpFunc[loop.example/g00943/impl.Vec]", by decide, Tryz.func402.trans (congrArg some (by kernel_rfl))⟩
  t0 := Tryz.underlying0
  a0 := Tryz.isAgg0
  z0 := Tryz.sizeOf0
  v0 := Tryz.zeroValue0
  t3 := Tryz.underlying3
  a3 := Tryz.isAgg3
  z3 := Tryz.sizeOf3
  v3 := Tryz.zeroValue3
  t4 := Tryz.underlying4
  a4 := Tryz.isAgg4
  z4 := Tryz.sizeOf4
  v4 := Tryz.zeroValue4
  t5 := Tryz.underlying5
  a5 := Tryz.isAgg5
  z5 := Tryz.sizeOf5
  v5 := Tryz.zeroValue5
  t9 := Tryz.underlying9
  a9 := Tryz.isAgg9
  z9 := Tryz.sizeOf9
  v9 := Tryz.zeroValue9
  t22 := Tryz.underlying58
  a22 := Tryz.isAgg58
  z22 := Tryz.sizeOf58
  v22 := Tryz.zeroValue58
  t25 := Tryz.underlying218
  a25 := Tryz.isAgg218
  z25 := Tryz.sizeOf218
  v25 := Tryz.zeroValue218
  t39 := Tryz.underlying164
  a39 := Tryz.isAgg164
  z39 := Tryz.sizeOf164
  v39 := Tryz.zeroValue164
  t45 := Tryz.underlying314
  a45 := Tryz.isAgg314
  z45 := Tryz.sizeOf314
  v45 := Tryz.zeroValue314
  t46 := Tryz.underlying315
  a46 := Tryz.isAgg315
  z46 := Tryz.sizeOf315
  v46 := Tryz.zeroValue315
  t50 := Tryz.underlying319
  a50 := Tryz.isAgg319
  z50 := Tryz.sizeOf319
  v50 := Tryz.zeroValue319
  t53 := Tryz.underlying322
  a53 := Tryz.isAgg322
  z53 := Tryz.sizeOf322
  v53 := Tryz.zeroValue322
  t55 := Tryz.underlying48
  a55 := Tryz.isAgg48
  z55 := Tryz.sizeOf48
  v55 := Tryz.zeroValue48
  t66 := Tryz.underlying337
  a66 := Tryz.isAgg337
  z66 := Tryz.sizeOf337
  v66 := Tryz.zeroValue337
  t70 := Tryz.underlying341
  a70 := Tryz.isAgg341
  z70 := Tryz.sizeOf341
  v70 := Tryz.zeroValue341
  t76 := Tryz.underlying345
  a76 := Tryz.isAgg345
  z76 := Tryz.sizeOf345
  v76 := Tryz.zeroValue345
  t77 := Tryz.underlying346
  a77 := Tryz.isAgg346
  z77 := Tryz.sizeOf346
  v77 := Tryz.zeroValue346
theorem f232_ok (K : Nat) : Sound Tryz.prog 232 (f232M K) := sort_sound (e := 55) (s := (.cons (.int .i64) (.int .i64))) f232_lays rfl rfl rfl Tryz.isAgg55 Tryz.sizeOf55
theorem f232_runs : Runs Tryz.prog 232 := runsB_ok (by kernel_rfl)
theorem f297_ok (K : Nat) : Sound Tryz.prog 297 (f297M K) :=
  sound_fn (envOK (E := (f297E K)) tab_ok mixed_ok AllOK.nil AllP.nil AllN.nil) Tryz.func297 fun x => f297_run K x.1
theorem f297_runs : Runs Tryz.prog 297 := runsB_ok (by kernel_rfl)
theorem f192_ok (K : Nat) : Sound Tryz.prog 192 (f192M K) :=
  sound_fn (envOK (E := (f192E K)) tab_ok mixed_ok (AllOK.cons (f188_ok K) f188_runs (AllOK.cons (f232_ok K) f232_runs (AllOK.cons (f233_ok K) f233_runs (AllOK.cons (f297_ok K) f297_runs AllOK.nil)))) AllP.nil AllN.nil) Tryz.func192 fun x => f192_run K x.1 x.2.1 x.2.2.1
theorem f192_runs : Runs Tryz.prog 192 := runsB_ok (by kernel_rfl)
theorem f180_ok (K : Nat) : Sound Tryz.prog 180 (f180M K) :=
  sound_fn (envOK (E := (f180E K)) tab_ok mixed_ok (AllOK.cons (f133_ok K) f133_runs (AllOK.cons (f163_ok K) f163_runs (AllOK.cons (f185_ok K) f185_runs (AllOK.cons (f192_ok K) f192_runs (AllOK.cons (f294_ok K) f294_runs AllOK.nil))))) AllP.nil AllN.nil) Tryz.func180 fun x => f180_run K x.1 x.2.1
theorem f180_runs : Runs Tryz.prog 180 := runsB_ok (by kernel_rfl)
theorem f60_ok (K : Nat) : Sound Tryz.prog 60 (f60M K) :=
  sound_fn (envOK (E := (f60E K)) tab_ok mixed_ok (AllOK.cons (f125_ok K) f125_runs (AllOK.cons (f126_ok K) f126_runs (AllOK.cons (f134_ok K) f134_runs (AllOK.cons (f180_ok K) f180_runs AllOK.nil)))) AllP.nil AllN.nil) Tryz.func60 fun x => f60_run K x.1
theorem f60_runs : Runs Tryz.prog 60 := runsB_ok (by kernel_rfl)
theorem f200_ok (K : Nat) : Sound Tryz.prog 200 (f200M K) :=
  sound_fn (envOK (E := (f200E K)) tab_ok mixed_ok (AllOK.cons (f195_ok K) f195_runs AllOK.nil) AllP.nil AllN.nil) Tryz.func200 fun x => f200_run K x.1 x.2.1 x.2.2.1 x.2.2.2.1
theorem f200_runs : Runs Tryz.prog 200 := runsB_ok (by kernel_rfl)
theorem f128_ok (K : Nat) : Sound Tryz.prog 128 (f128M K) :=
  sound_fn (envOK (E := (f128E K)) tab_ok mixed_ok (AllOK.cons (f200_ok K) f200_runs (AllOK.cons (f215_ok K) f215_runs AllOK.nil)) AllP.nil AllN.nil) Tryz.func128 fun x => f128_run K x.1
theorem f128_runs : Runs Tryz.prog 128 := runsB_ok (by kernel_rfl)
theorem f205_ok (K : Nat) : Sound Tryz.prog 205 (f205M K) :=
  sound_fn (envOK (E := (f205E K)) tab_ok mixed_ok (AllOK.cons (f150_ok K) f150_runs AllOK.nil) AllP.nil AllN.nil) Tryz.func205 fun x => f205_run K x.1 x.2.1
theorem f205_runs : Runs Tryz.prog 205 := runsB_ok (by kernel_rfl)
theorem f265_ok (K : Nat) : Sound Tryz.prog 265 (f265M K) :=
  sound_fn (envOK (E := (f265E K)) tab_ok mixed_ok (AllOK.cons (f149_ok K) f149_runs (AllOK.cons (f151_ok K) f151_runs (AllOK.cons (f205_ok K) f205_runs AllOK.nil))) AllP.nil AllN.nil) Tryz.func265 fun x => f265_run K x.1 x.2.1
theorem f265_runs : Runs Tryz.prog 265 := runsB_ok (by kernel_rfl)
theorem f189_ok (K : Nat) : Sound Tryz.prog 189 (f189M K) :=
  sound_fn (envOK (E := (f189E K)) tab_ok mixed_ok (AllOK.cons (f149_ok K) f149_runs (AllOK.cons (f218_ok K) f218_runs (AllOK.cons (f265_ok K) f265_runs (AllOK.cons (f295_ok K) f295_runs (AllOK.cons (f296_ok K) f296_runs AllOK.nil))))) AllP.nil AllN.nil) Tryz.func189 fun x => f189_run K x.1
theorem f189_runs : Runs Tryz.prog 189 := runsB_ok (by kernel_rfl)
theorem f263_ok (K : Nat) : Sound Tryz.prog 263 (f263M K) :=
  sound_fn (envOK (E := (f263E K)) tab_ok mixed_ok (AllOK.cons (f149_ok K) f149_runs (AllOK.cons (f205_ok K) f205_runs AllOK.nil)) AllP.nil AllN.nil) Tryz.func263 fun x => f263_run K x.1 x.2.1
theorem f263_runs : Runs Tryz.prog 263 := runsB_ok (by kernel_rfl)
theorem f130_ok (K : Nat) : Sound Tryz.prog 130 (f130M K) :=
  sound_fn (envOK (E := (f130E K)) tab_ok mixed_ok (AllOK.cons (f189_ok K) f189_runs (AllOK.cons (f263_ok K) f263_runs AllOK.nil)) AllP.nil AllN.nil) Tryz.func130 fun x => f130_run K x.1
theorem f130_runs : Runs Tryz.prog 130 := runsB_ok (by kernel_rfl)
theorem f131_ok (K : Nat) : Sound Tryz.prog 131 (f131M K) :=
  sound_fn (envOK (E := (f131E K)) tab_ok mixed_ok (AllOK.cons (f149_ok K) f149_runs (AllOK.cons (f264_ok K) f264_runs (AllOK.cons (f265_ok K) f265_runs AllOK.nil))) AllP.nil AllN.nil) Tryz.func131 fun x => f131_run K x.1
theorem f131_runs : Runs Tryz.prog 131 := runsB_ok (by kernel_rfl)
theorem f61_ok (K : Nat) : Sound Tryz.prog 61 (f61M K) :=
  sound_fn (envOK (E := (f61E K)) tab_ok mixed_ok (AllOK.cons (f128_ok K) f128_runs (AllOK.cons (f130_ok K) f130_runs (AllOK.cons (f131_ok K) f131_runs (AllOK.cons (f182_ok K) f182_runs AllOK.nil)))) AllP.nil AllN.nil) Tryz.func61 fun x => f61_run K x.1
theorem f61_runs : Runs Tryz.prog 61 := runsB_ok (by kernel_rfl)
theorem f138_ok (K : Nat) : Sound Tryz.prog 138 (f138M K) :=
  sound_fn (envOK (E := (f138E K)) tab_ok mixed_ok (AllOK.cons (f125_ok K) f125_runs (AllOK.cons (f126_ok K) f126_runs (AllOK.cons (f134_ok K) f134_runs AllOK.nil))) AllP.nil AllN.nil) Tryz.func138 fun x => f138_run K x.1
theorem f138_runs : Runs Tryz.prog 138 := runsB_ok (by kernel_rfl)
theorem f25_ok (K : Nat) : Sound Tryz.prog 25 (f25M K) :=
  sound_fn (envOK (E := (f25E K)) tab_ok mixed_ok (AllOK.cons (f138_ok K) f138_runs AllOK.nil) AllP.nil AllN.nil) Tryz.func25 fun x => f25_run K x.1
theorem f25_runs : Runs Tryz.prog 25 := runsB_ok (by kernel_rfl)
theorem f62_ok (K : Nat) : Sound Tryz.prog 62 (f62M K) :=
  sound_fn (envOK (E := (f62E K)) tab_ok mixed_ok (AllOK.cons (f128_ok K) f128_runs (AllOK.cons (f130_ok K) f130_runs (AllOK.cons (f131_ok K) f131_runs AllOK.nil))) AllP.nil AllN.nil) Tryz.func62 fun x => f62_run K x.1
theorem f62_runs : Runs Tryz.prog 62 := runsB_ok (by kernel_rfl)
theorem f167_ok (K : Nat) : SoundP Tryz.prog 167 (f167M K) :=
  sound_fnP (envOK (E := (f167E K)) tab_ok mixed_ok AllOK.nil (AllP.cons (f140_ok K) f140_runs (AllP.cons (f142_ok K) f142_runs AllP.nil)) AllN.nil) Tryz.func167 fun x => f167_run K x.1 x.2.1
theorem f167_runs : Runs Tryz.prog 167 := runsB_ok (by kernel_rfl)
theorem f63_ok (K : Nat) : Sound Tryz.prog 63 (f63M K) :=
  sound_fn (envOK (E := (f63E K)) tab_ok mixed_ok (AllOK.cons (f128_ok K) f128_runs (AllOK.cons (f189_ok K) f189_runs AllOK.nil)) (AllP.cons (f123_ok K) f123_runs (AllP.cons (f167_ok K) f167_runs AllP.nil)) (AllN.cons (f124_ok K) f124_runs AllN.nil)) Tryz.func63 fun x => f63_run K x.1
theorem f63_runs : Runs Tryz.prog 63 := runsB_ok (by kernel_rfl)
theorem f168_ok (K : Nat) : Sound Tryz.prog 168 (f168M K) :=
  sound_fn (envOK (E := (f168E K)) tab_ok mixed_ok (AllOK.cons (f194_ok K) f194_runs AllOK.nil) AllP.nil AllN.nil) Tryz.func168 fun x => f168_run K x.1 x.2.1
theorem f168_runs : Runs Tryz.prog 168 := runsB_ok (by kernel_rfl)
theorem f190_ok (K : Nat) : Sound Tryz.prog 190 (f190M K) :=
  sound_fn (envOK (E := (f190E K)) tab_ok mixed_ok (AllOK.cons (f188_ok K) f188_runs AllOK.nil) AllP.nil AllN.nil) Tryz.func190 fun x => f190_run K x.1 x.2.1 x.2.2.1
theorem f190_runs : Runs Tryz.prog 190 := runsB_ok (by kernel_rfl)
theorem f64_ok (K : Nat) : Sound Tryz.prog 64 (f64M K) :=
  sound_fn (envOK (E := (f64E K)) tab_ok mixed_ok (AllOK.cons (f125_ok K) f125_runs (AllOK.cons (f126_ok K) f126_runs (AllOK.cons (f134_ok K) f134_runs (AllOK.cons (f168_ok K) f168_runs (AllOK.cons (f190_ok K) f190_runs AllOK.nil))))) AllP.nil AllN.nil) Tryz.func64 fun x => f64_run K x.1 x.2.1
theorem f64_runs : Runs Tryz.prog 64 := runsB_ok (by kernel_rfl)
theorem f170_ok (K : Nat) : Sound Tryz.prog 170 (f170M K) :=
  sound_fn (envOK (E := (f170E K)) tab_ok mixed_ok (AllOK.cons (f195_ok K) f195_runs AllOK.nil) AllP.nil AllN.nil) Tryz.func170 fun x => f170_run K x.1 x.2.1
theorem f170_runs : Runs Tryz.prog 170 := runsB_ok (by kernel_rfl)
theorem f65_ok (K : Nat) : Sound Tryz.prog 65 (f65M K) :=
  sound_fn (envOK (E := (f65E K)) tab_ok mixed_ok (AllOK.cons (f128_ok K) f128_runs (AllOK.cons (f130_ok K) f130_runs (AllOK.cons (f131_ok K) f131_runs (AllOK.cons (f170_ok K) f170_runs (AllOK.cons (f171_ok K) f171_runs AllOK.nil))))) AllP.nil AllN.nil) Tryz.func65 fun x => f65_run K x.1 x.2.1
theorem f65_runs : Runs Tryz.prog 65 := runsB_ok (by kernel_rfl)
theorem f92_ok (K : Nat) : Sound Tryz.prog 92 (f92M K) :=
  sound_fn (envOK (E := (f92E K)) tab_ok mixed_ok AllOK.nil AllP.nil AllN.nil) Tryz.func92 fun x => f92_run K x.1 x.2.1
theorem f92_runs : Runs Tryz.prog 92 := runsB_ok (by kernel_rfl)
theorem f44_ok (K : Nat) : Sound Tryz.prog 44 (f44M K) :=
  sound_fn (envOK (E := (f44E K)) tab_ok mixed_ok (AllOK.cons (f92_ok K) f92_runs AllOK.nil) AllP.nil AllN.nil) Tryz.func44 fun x => f44_run K x.1 x.2.1
theorem f44_runs : Runs Tryz.prog 44 := runsB_ok (by kernel_rfl)
theorem f66_ok (K : Nat) : Sound Tryz.prog 66 (f66M K) :=
  sound_fn (envOK (E := (f66E K)) tab_ok mixed_ok AllOK.nil AllP.nil AllN.nil) Tryz.func66 fun x => f66_run K x.1 x.2.1
theorem f66_runs : Runs Tryz.prog 66 := runsB_ok (by kernel_rfl)
theorem f24_ok (K : Nat) : Sound Tryz.prog 24 (f24M K) :=
  sound_fn (envOK (E := (f24E K)) tab_ok mixed_ok (AllOK.cons (f125_ok K) f125_runs (AllOK.cons (f137_ok K) f137_runs AllOK.nil)) AllP.nil AllN.nil) Tryz.func24 fun x => f24_run K x.1
theorem f24_runs : Runs Tryz.prog 24 := runsB_ok (by kernel_rfl)
theorem f7_ok (K : Nat) : Sound Tryz.prog 7 (f7M K) :=
  sound_fn (envOK (E := (f7E K)) tab_ok mixed_ok (AllOK.cons (f14_ok K) f14_runs (AllOK.cons (f24_ok K) f24_runs (AllOK.cons (f25_ok K) f25_runs (AllOK.cons (f44_ok K) f44_runs (AllOK.cons (f59_ok K) f59_runs (AllOK.cons (f60_ok K) f60_runs (AllOK.cons (f61_ok K) f61_runs (AllOK.cons (f62_ok K) f62_runs (AllOK.cons (f63_ok K) f63_runs (AllOK.cons (f64_ok K) f64_runs (AllOK.cons (f65_ok K) f65_runs (AllOK.cons (f66_ok K) f66_runs AllOK.nil)))))))))))) AllP.nil AllN.nil) Tryz.func7 fun x => f7_run K x.1
theorem f7_runs : Runs Tryz.prog 7 := runsB_ok (by kernel_rfl)
end Go.Proofs.YtniidcalfhhciaaGreat.X
