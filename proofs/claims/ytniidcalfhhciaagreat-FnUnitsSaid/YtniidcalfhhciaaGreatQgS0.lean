/- Functions of the program as plain Lean functions, and that the program does what they say. Printed by gen.py. -/
import Derived.Test.YtniidcalfhhciaaGreatQgR0
import Derived.Test.YtniidcalfhhciaaGreatQgR1
namespace Go.Proofs.YtniidcalfhhciaaGreat.X
open Go
set_option maxRecDepth 100000
set_option linter.unusedVariables false
theorem f14_ok (K : Nat) : Sound Tryz.prog 14 (f14M K) :=
  sound_fn (envOK (E := (f14E K)) tab_ok mixed_ok AllOK.nil AllP.nil AllN.nil) Tryz.func14 fun x => f14_run K x.1
theorem f14_runs : Runs Tryz.prog 14 := runsB_ok (by kernel_rfl)
theorem f124_ok (K : Nat) : SoundN Tryz.prog 124 (f124M K) :=
  sound_fnN (envOK (E := (f124E K)) tab_ok mixed_ok AllOK.nil AllP.nil AllN.nil) Tryz.func124 fun x => f124_run K x.1
theorem f124_runs : Runs Tryz.prog 124 := runsB_ok (by kernel_rfl)
theorem f140_ok (K : Nat) : SoundP Tryz.prog 140 (f140M K) :=
  sound_fnP (envOK (E := (f140E K)) tab_ok mixed_ok AllOK.nil AllP.nil AllN.nil) Tryz.func140 fun x => f140_run K x.1 x.2.1
theorem f140_runs : Runs Tryz.prog 140 := runsB_ok (by kernel_rfl)
theorem f363_ok (K : Nat) : Sound Tryz.prog 363 (f363M K) :=
  sound_fn (envOK (E := (f363E K)) tab_ok mixed_ok AllOK.nil AllP.nil AllN.nil) Tryz.func363 fun x => f363_run K x.1 x.2.1
theorem f363_runs : Runs Tryz.prog 363 := runsB_ok (by kernel_rfl)
theorem f195_ok (K : Nat) : Sound Tryz.prog 195 (f195M K) :=
  sound_fn (envOK (E := (f195E K)) tab_ok mixed_ok AllOK.nil AllP.nil AllN.nil) Tryz.func195 fun x => f195_run K x.1 x.2.1 x.2.2.1
theorem f195_runs : Runs Tryz.prog 195 := runsB_ok (by kernel_rfl)
theorem f218_ok (K : Nat) : Sound Tryz.prog 218 (f218M K) :=
  sound_fn (envOK (E := (f218E K)) tab_ok mixed_ok AllOK.nil AllP.nil AllN.nil) Tryz.func218 fun x => f218_run K 
theorem f218_runs : Runs Tryz.prog 218 := runsB_ok (by kernel_rfl)
theorem f141_ok (K : Nat) : Sound Tryz.prog 141 (f141M K) :=
  sound_fn (envOK (E := (f141E K)) tab_ok mixed_ok (AllOK.cons (f218_ok K) f218_runs AllOK.nil) AllP.nil AllN.nil) Tryz.func141 fun x => f141_run K 
theorem f141_runs : Runs Tryz.prog 141 := runsB_ok (by kernel_rfl)
theorem f344_ok (K : Nat) : Sound Tryz.prog 344 (f344M K) :=
  sound_fn (envOK (E := (f344E K)) tab_ok mixed_ok AllOK.nil AllP.nil AllN.nil) Tryz.func344 fun x => f344_run K x.1 x.2.1
theorem f344_runs : Runs Tryz.prog 344 := runsB_ok (by kernel_rfl)
theorem f278_ok (K : Nat) : Sound Tryz.prog 278 (f278M K) :=
  sound_fn (envOK (E := (f278E K)) tab_ok mixed_ok AllOK.nil AllP.nil AllN.nil) Tryz.func278 fun x => f278_run K x.1 x.2.1
theorem f278_runs : Runs Tryz.prog 278 := runsB_ok (by kernel_rfl)
theorem f277_ok (K : Nat) : Sound Tryz.prog 277 (f277M K) :=
  sound_fn (envOK (E := (f277E K)) tab_ok mixed_ok AllOK.nil AllP.nil AllN.nil) Tryz.func277 fun x => f277_run K x.1 x.2.1
theorem f277_runs : Runs Tryz.prog 277 := runsB_ok (by kernel_rfl)
theorem f276_ok (K : Nat) : Sound Tryz.prog 276 (f276M K) :=
  sound_fn (envOK (E := (f276E K)) tab_ok mixed_ok (AllOK.cons (f277_ok K) f277_runs (AllOK.cons (f278_ok K) f278_runs (AllOK.cons (f344_ok K) f344_runs AllOK.nil))) AllP.nil AllN.nil) Tryz.func276 fun x => f276_run K x.1 x.2.1
theorem f276_runs : Runs Tryz.prog 276 := runsB_ok (by kernel_rfl)
theorem f324_ok (K : Nat) : Sound Tryz.prog 324 (f324M K) :=
  sound_fn (envOK (E := (f324E K)) tab_ok mixed_ok AllOK.nil AllP.nil AllN.nil) Tryz.func324 fun x => f324_run K x.1 x.2.1
theorem f324_runs : Runs Tryz.prog 324 := runsB_ok (by kernel_rfl)
theorem f250_ok (K : Nat) : Sound Tryz.prog 250 (f250M K) :=
  sound_fn (envOK (E := (f250E K)) tab_ok mixed_ok (AllOK.cons (f324_ok K) f324_runs AllOK.nil) AllP.nil AllN.nil) Tryz.func250 fun x => f250_run K x.1 x.2.1
theorem f250_runs : Runs Tryz.prog 250 := runsB_ok (by kernel_rfl)
theorem f273_ok (K : Nat) : Sound Tryz.prog 273 (f273M K) :=
  sound_fn (envOK (E := (f273E K)) tab_ok mixed_ok (AllOK.cons (f250_ok K) f250_runs AllOK.nil) AllP.nil AllN.nil) Tryz.func273 fun x => f273_run K x.1 x.2.1
theorem f273_runs : Runs Tryz.prog 273 := runsB_ok (by kernel_rfl)
theorem f380_ok (K : Nat) : Sound Tryz.prog 380 (f380M K) :=
  sound_fn (envOK (E := (f380E K)) tab_ok mixed_ok AllOK.nil AllP.nil AllN.nil) Tryz.func380 fun x => f380_run K x.1
theorem f380_runs : Runs Tryz.prog 380 := runsB_ok (by kernel_rfl)
theorem f153_ok (K : Nat) : Sound Tryz.prog 153 (f153M K) :=
  sound_fn (envOK (E := (f153E K)) tab_ok mixed_ok AllOK.nil AllP.nil AllN.nil) Tryz.func153 fun x => f153_run K x.1 x.2.1
theorem f153_runs : Runs Tryz.prog 153 := runsB_ok (by kernel_rfl)
theorem f342_ok (K : Nat) : Sound Tryz.prog 342 (f342M K) :=
  sound_fn (envOK (E := (f342E K)) tab_ok mixed_ok (AllOK.cons (f153_ok K) f153_runs (AllOK.cons (f380_ok K) f380_runs AllOK.nil)) AllP.nil AllN.nil) Tryz.func342 fun x => f342_run K x.1 x.2.1
theorem f342_runs : Runs Tryz.prog 342 := runsB_ok (by kernel_rfl)
theorem f320_ok (K : Nat) : Sound Tryz.prog 320 (f320M K) :=
  sound_fn (envOK (E := (f320E K)) tab_ok mixed_ok AllOK.nil AllP.nil AllN.nil) Tryz.func320 fun x => f320_run K x.1 x.2.1
theorem f320_runs : Runs Tryz.prog 320 := runsB_ok (by kernel_rfl)
theorem f274_ok (K : Nat) : Sound Tryz.prog 274 (f274M K) :=
  sound_fn (envOK (E := (f274E K)) tab_ok mixed_ok (AllOK.cons (f320_ok K) f320_runs (AllOK.cons (f342_ok K) f342_runs AllOK.nil)) AllP.nil AllN.nil) Tryz.func274 fun x => f274_run K x.1 x.2.1
theorem f274_runs : Runs Tryz.prog 274 := runsB_ok (by kernel_rfl)
theorem f343_ok (K : Nat) : Sound Tryz.prog 343 (f343M K) :=
  sound_fn (envOK (E := (f343E K)) tab_ok mixed_ok (AllOK.cons (f274_ok K) f274_runs AllOK.nil) AllP.nil AllN.nil) Tryz.func343 fun x => f343_run K x.1 x.2.1
theorem f343_runs : Runs Tryz.prog 343 := runsB_ok (by kernel_rfl)
theorem f275_ok (K : Nat) : Sound Tryz.prog 275 (f275M K) :=
  sound_fn (envOK (E := (f275E K)) tab_ok mixed_ok (AllOK.cons (f343_ok K) f343_runs AllOK.nil) AllP.nil AllN.nil) Tryz.func275 fun x => f275_run K x.1 x.2.1
theorem f275_runs : Runs Tryz.prog 275 := runsB_ok (by kernel_rfl)
theorem f352_ok (K : Nat) : Sound Tryz.prog 352 (f352M K) :=
  sound_fn (envOK (E := (f352E K)) tab_ok mixed_ok (AllOK.cons (f343_ok K) f343_runs AllOK.nil) AllP.nil AllN.nil) Tryz.func352 fun x => f352_run K x.1 x.2.1
theorem f352_runs : Runs Tryz.prog 352 := runsB_ok (by kernel_rfl)
theorem f292_ok (K : Nat) : Sound Tryz.prog 292 (f292M K) :=
  sound_fn (envOK (E := (f292E K)) tab_ok mixed_ok (AllOK.cons (f141_ok K) f141_runs (AllOK.cons (f273_ok K) f273_runs (AllOK.cons (f275_ok K) f275_runs (AllOK.cons (f276_ok K) f276_runs (AllOK.cons (f352_ok K) f352_runs AllOK.nil))))) AllP.nil AllN.nil) Tryz.func292 fun x => f292_run K x.1 x.2.1
theorem f292_runs : Runs Tryz.prog 292 := runsB_ok (by kernel_rfl)
theorem f312_ok (K : Nat) : Sound Tryz.prog 312 (f312M K) :=
  sound_fn (envOK (E := (f312E K)) tab_ok mixed_ok (AllOK.cons (f195_ok K) f195_runs (AllOK.cons (f292_ok K) f292_runs (AllOK.cons (f363_ok K) f363_runs AllOK.nil))) AllP.nil AllN.nil) Tryz.func312 fun x => f312_run K x.1 x.2.1
theorem f312_runs : Runs Tryz.prog 312 := runsB_ok (by kernel_rfl)
theorem f142_ok (K : Nat) : SoundP Tryz.prog 142 (f142M K) :=
  sound_fnP (envOK (E := (f142E K)) tab_ok mixed_ok AllOK.nil (AllP.cons (f140_ok K) f140_runs AllP.nil) AllN.nil) Tryz.func142 fun x => f142_run K x.1 x.2.1
theorem f142_runs : Runs Tryz.prog 142 := runsB_ok (by kernel_rfl)
theorem f304_ok (K : Nat) : SoundP Tryz.prog 304 (f304M K) :=
  sound_fnP (envOK (E := (f304E K)) tab_ok mixed_ok AllOK.nil (AllP.cons (f140_ok K) f140_runs (AllP.cons (f142_ok K) f142_runs AllP.nil)) AllN.nil) Tryz.func304 fun x => f304_run K x.1
theorem f304_runs : Runs Tryz.prog 304 := runsB_ok (by kernel_rfl)
theorem f305_ok (K : Nat) : SoundP Tryz.prog 305 (f305M K) :=
  sound_fnP (envOK (E := (f305E K)) tab_ok mixed_ok AllOK.nil (AllP.cons (f140_ok K) f140_runs (AllP.cons (f142_ok K) f142_runs AllP.nil)) AllN.nil) Tryz.func305 fun x => f305_run K x.1
theorem f305_runs : Runs Tryz.prog 305 := runsB_ok (by kernel_rfl)
theorem f213_ok (K : Nat) : SoundP Tryz.prog 213 (f213M K) :=
  sound_fnP (envOK (E := (f213E K)) tab_ok mixed_ok AllOK.nil (AllP.cons (f140_ok K) f140_runs (AllP.cons (f304_ok K) f304_runs (AllP.cons (f305_ok K) f305_runs AllP.nil))) AllN.nil) Tryz.func213 fun x => f213_run K x.1
theorem f213_runs : Runs Tryz.prog 213 := runsB_ok (by kernel_rfl)
theorem f306_ok (K : Nat) : Sound Tryz.prog 306 (f306M K) :=
  sound_fn (envOK (E := (f306E K)) tab_ok mixed_ok AllOK.nil AllP.nil AllN.nil) Tryz.func306 fun x => f306_run K x.1
theorem f306_runs : Runs Tryz.prog 306 := runsB_ok (by kernel_rfl)
theorem f307_ok (K : Nat) : Sound Tryz.prog 307 (f307M K) :=
  sound_fn (envOK (E := (f307E K)) tab_ok mixed_ok (AllOK.cons (f195_ok K) f195_runs AllOK.nil) AllP.nil AllN.nil) Tryz.func307 fun x => f307_run K x.1
theorem f307_runs : Runs Tryz.prog 307 := runsB_ok (by kernel_rfl)
theorem f215_ok (K : Nat) : Sound Tryz.prog 215 (f215M K) :=
  sound_fn (envOK (E := (f215E K)) tab_ok mixed_ok (AllOK.cons (f306_ok K) f306_runs (AllOK.cons (f307_ok K) f307_runs AllOK.nil)) AllP.nil AllN.nil) Tryz.func215 fun x => f215_run K x.1 x.2.1
theorem f215_runs : Runs Tryz.prog 215 := runsB_ok (by kernel_rfl)
theorem f385_ok (K : Nat) : Sound Tryz.prog 385 (f385M K) :=
  sound_fn (envOK (E := (f385E K)) tab_ok mixed_ok AllOK.nil AllP.nil AllN.nil) Tryz.func385 fun x => f385_run K x.1 x.2.1
theorem f385_runs : Runs Tryz.prog 385 := runsB_ok (by kernel_rfl)
theorem f359_ok (K : Nat) : Sound Tryz.prog 359 (f359M K) :=
  sound_fn (envOK (E := (f359E K)) tab_ok mixed_ok (AllOK.cons (f277_ok K) f277_runs (AllOK.cons (f385_ok K) f385_runs AllOK.nil)) AllP.nil AllN.nil) Tryz.func359 fun x => f359_run K x.1 x.2.1
theorem f359_runs : Runs Tryz.prog 359 := runsB_ok (by kernel_rfl)
theorem f336_ok (K : Nat) : Sound Tryz.prog 336 (f336M K) :=
  sound_fn (envOK (E := (f336E K)) tab_ok mixed_ok (AllOK.cons (f359_ok K) f359_runs AllOK.nil) AllP.nil AllN.nil) Tryz.func336 fun x => f336_run K x.1
theorem f336_runs : Runs Tryz.prog 336 := runsB_ok (by kernel_rfl)
theorem f295_ok (K : Nat) : Sound Tryz.prog 295 (f295M K) :=
  sound_fn (envOK (E := (f295E K)) tab_ok mixed_ok AllOK.nil AllP.nil AllN.nil) Tryz.func295 fun x => f295_run K x.1
theorem f295_runs : Runs Tryz.prog 295 := runsB_ok (by kernel_rfl)
theorem f136_runs : Runs Tryz.prog 136 := runsB_ok (by kernel_rfl)
theorem f136_okn (K : Nat) : ∀ n, Sound Tryz.prog 136 ⟨[(.ro, (.int .i64)), (.ro, (.int .i64))], [(.int .i64)], fun x => f136R K n x.1 x.2.1⟩
  | 0 => fun _ _ _ _ _ _ _ h => by cases h
  | n + 1 => sound_fn (envOK (E := f136E K (f136R K n)) tab_ok mixed_ok (AllOK.cons (f136_okn K n) f136_runs AllOK.nil) AllP.nil AllN.nil) Tryz.func136 fun x => f136_run K (f136R K n) x.1 x.2.1
theorem f136_ok (K : Nat) : Sound Tryz.prog 136 (f136M K) := f136_okn K K
theorem f333_ok (K : Nat) : Sound Tryz.prog 333 (f333M K) :=
  sound_fn (envOK (E := (f333E K)) tab_ok mixed_ok AllOK.nil AllP.nil AllN.nil) Tryz.func333 fun x => f333_run K x.1 x.2.1
theorem f333_runs : Runs Tryz.prog 333 := runsB_ok (by kernel_rfl)
theorem f296_ok (K : Nat) : Sound Tryz.prog 296 (f296M K) :=
  sound_fn (envOK (E := (f296E K)) tab_ok mixed_ok (AllOK.cons (f136_ok K) f136_runs (AllOK.cons (f324_ok K) f324_runs (AllOK.cons (f333_ok K) f333_runs AllOK.nil))) AllP.nil AllN.nil) Tryz.func296 fun x => f296_run K x.1
theorem f296_runs : Runs Tryz.prog 296 := runsB_ok (by kernel_rfl)
theorem f303_ok (K : Nat) : Sound Tryz.prog 303 (f303M K) :=
  sound_fn (envOK (E := (f303E K)) tab_ok mixed_ok (AllOK.cons (f278_ok K) f278_runs (AllOK.cons (f295_ok K) f295_runs (AllOK.cons (f296_ok K) f296_runs AllOK.nil))) AllP.nil AllN.nil) Tryz.func303 fun x => f303_run K x.1 x.2.1
theorem f303_runs : Runs Tryz.prog 303 := runsB_ok (by kernel_rfl)
theorem f264_ok (K : Nat) : Sound Tryz.prog 264 (f264M K) :=
  sound_fn (envOK (E := (f264E K)) tab_ok mixed_ok (AllOK.cons (f303_ok K) f303_runs (AllOK.cons (f336_ok K) f336_runs AllOK.nil)) AllP.nil AllN.nil) Tryz.func264 fun x => f264_run K x.1 x.2.1
theorem f264_runs : Runs Tryz.prog 264 := runsB_ok (by kernel_rfl)
theorem f291_ok (K : Nat) : SoundP Tryz.prog 291 (f291M K) :=
  sound_fnP (envOK (E := (f291E K)) tab_ok mixed_ok (AllOK.cons (f215_ok K) f215_runs (AllOK.cons (f218_ok K) f218_runs (AllOK.cons (f264_ok K) f264_runs AllOK.nil))) (AllP.cons (f140_ok K) f140_runs AllP.nil) AllN.nil) Tryz.func291 fun x => f291_run K x.1 x.2.1 x.2.2.1
theorem f291_runs : Runs Tryz.prog 291 := runsB_ok (by kernel_rfl)
theorem f178_ok (K : Nat) : SoundP Tryz.prog 178 (f178M K) :=
  sound_fnP (envOK (E := (f178E K)) tab_ok mixed_ok (AllOK.cons (f215_ok K) f215_runs (AllOK.cons (f273_ok K) f273_runs (AllOK.cons (f292_ok K) f292_runs AllOK.nil))) (AllP.cons (f140_ok K) f140_runs (AllP.cons (f213_ok K) f213_runs (AllP.cons (f291_ok K) f291_runs AllP.nil))) AllN.nil) Tryz.func178 fun x => f178_run K x.1
theorem f178_runs : Runs Tryz.prog 178 := runsB_ok (by kernel_rfl)
theorem f223_ok (K : Nat) : SoundP Tryz.prog 223 (f223M K) :=
  sound_fnP (envOK (E := (f223E K)) tab_ok mixed_ok (AllOK.cons (f292_ok K) f292_runs (AllOK.cons (f312_ok K) f312_runs AllOK.nil)) (AllP.cons (f140_ok K) f140_runs (AllP.cons (f178_ok K) f178_runs AllP.nil)) AllN.nil) Tryz.func223 fun x => f223_run K x.1
theorem f223_runs : Runs Tryz.prog 223 := runsB_ok (by kernel_rfl)
theorem f105_ok (K : Nat) : Sound Tryz.prog 105 (f105M K) :=
  sound_fn (envOK (E := (f105E K)) tab_ok mixed_ok AllOK.nil (AllP.cons (f223_ok K) f223_runs AllP.nil) (AllN.cons (f124_ok K) f124_runs AllN.nil)) Tryz.func105 fun x => f105_run K x.1
theorem f105_runs : Runs Tryz.prog 105 := runsB_ok (by kernel_rfl)
theorem f194_ok (K : Nat) : Sound Tryz.prog 194 (f194M K) :=
  sound_fn (envOK (E := (f194E K)) tab_ok mixed_ok AllOK.nil AllP.nil AllN.nil) Tryz.func194 fun x => f194_run K x.1 x.2.1 x.2.2.1
theorem f194_runs : Runs Tryz.prog 194 := runsB_ok (by kernel_rfl)
theorem f256_ok (K : Nat) : Sound Tryz.prog 256 (f256M K) :=
  sound_fn (envOK (E := (f256E K)) tab_ok mixed_ok (AllOK.cons (f194_ok K) f194_runs AllOK.nil) AllP.nil AllN.nil) Tryz.func256 fun x => f256_run K x.1
theorem f256_runs : Runs Tryz.prog 256 := runsB_ok (by kernel_rfl)
theorem f133_ok (K : Nat) : Sound Tryz.prog 133 (f133M K) :=
  sound_fn (envOK (E := (f133E K)) tab_ok mixed_ok AllOK.nil AllP.nil AllN.nil) Tryz.func133 fun x => f133_run K x.1
theorem f133_runs : Runs Tryz.prog 133 := runsB_ok (by kernel_rfl)
theorem f184_ok (K : Nat) : Sound Tryz.prog 184 (f184M K) :=
  sound_fn (envOK (E := (f184E K)) tab_ok mixed_ok (AllOK.cons (f133_ok K) f133_runs (AllOK.cons (f194_ok K) f194_runs AllOK.nil)) AllP.nil AllN.nil) Tryz.func184 fun x => f184_run K x.1
theorem f184_runs : Runs Tryz.prog 184 := runsB_ok (by kernel_rfl)
theorem f186_ok (K : Nat) : Sound Tryz.prog 186 (f186M K) :=
  sound_fn (envOK (E := (f186E K)) tab_ok mixed_ok (AllOK.cons (f184_ok K) f184_runs (AllOK.cons (f256_ok K) f256_runs AllOK.nil)) AllP.nil AllN.nil) Tryz.func186 fun x => f186_run K x.1 x.2.1
theorem f186_runs : Runs Tryz.prog 186 := runsB_ok (by kernel_rfl)
theorem f268_ok (K : Nat) : Sound Tryz.prog 268 (f268M K) :=
  sound_fn (envOK (E := (f268E K)) tab_ok mixed_ok AllOK.nil AllP.nil AllN.nil) Tryz.func268 fun x => f268_run K x.1
theorem f268_runs : Runs Tryz.prog 268 := runsB_ok (by kernel_rfl)
theorem f282_ok (K : Nat) : Sound Tryz.prog 282 (f282M K) :=
  sound_fn (envOK (E := (f282E K)) tab_ok mixed_ok AllOK.nil AllP.nil AllN.nil) Tryz.func282 fun x => f282_run K x.1 x.2.1
theorem f282_runs : Runs Tryz.prog 282 := runsB_ok (by kernel_rfl)
theorem f346_ok (K : Nat) : Sound Tryz.prog 346 (f346M K) :=
  sound_fn (envOK (E := (f346E K)) tab_ok mixed_ok AllOK.nil AllP.nil AllN.nil) Tryz.func346 fun x => f346_run K x.1 x.2.1
theorem f346_runs : Runs Tryz.prog 346 := runsB_ok (by kernel_rfl)
theorem f280_ok (K : Nat) : Sound Tryz.prog 280 (f280M K) :=
  sound_fn (envOK (E := (f280E K)) tab_ok mixed_ok (AllOK.cons (f282_ok K) f282_runs (AllOK.cons (f346_ok K) f346_runs AllOK.nil)) AllP.nil AllN.nil) Tryz.func280 fun x => f280_run K x.1
theorem f280_runs : Runs Tryz.prog 280 := runsB_ok (by kernel_rfl)
theorem f290_ok (K : Nat) : Sound Tryz.prog 290 (f290M K) :=
  sound_fn (envOK (E := (f290E K)) tab_ok mixed_ok AllOK.nil AllP.nil AllN.nil) Tryz.func290 fun x => f290_run K x.1 x.2.1
theorem f290_runs : Runs Tryz.prog 290 := runsB_ok (by kernel_rfl)
theorem f176_ok (K : Nat) : Sound Tryz.prog 176 (f176M K) :=
  sound_fn (envOK (E := (f176E K)) tab_ok mixed_ok (AllOK.cons (f290_ok K) f290_runs AllOK.nil) AllP.nil AllN.nil) Tryz.func176 fun x => f176_run K x.1 x.2.1
theorem f176_runs : Runs Tryz.prog 176 := runsB_ok (by kernel_rfl)
theorem f339_ok (K : Nat) : Sound Tryz.prog 339 (f339M K) :=
  sound_fn (envOK (E := (f339E K)) tab_ok mixed_ok (AllOK.cons (f176_ok K) f176_runs AllOK.nil) AllP.nil AllN.nil) Tryz.func339 fun x => f339_run K x.1 x.2.1
theorem f339_runs : Runs Tryz.prog 339 := runsB_ok (by kernel_rfl)
theorem f338_ok (K : Nat) : Sound Tryz.prog 338 (f338M K) :=
  sound_fn (envOK (E := (f338E K)) tab_ok mixed_ok (AllOK.cons (f282_ok K) f282_runs (AllOK.cons (f339_ok K) f339_runs AllOK.nil)) AllP.nil AllN.nil) Tryz.func338 fun x => f338_run K x.1 x.2.1 x.2.2.1 x.2.2.2.1
theorem f338_runs : Runs Tryz.prog 338 := runsB_ok (by kernel_rfl)
theorem f378_ok (K : Nat) : Sound Tryz.prog 378 (f378M K) :=
  sound_fn (envOK (E := (f378E K)) tab_ok mixed_ok AllOK.nil AllP.nil AllN.nil) Tryz.func378 fun x => f378_run K x.1 x.2.1
theorem f378_runs : Runs Tryz.prog 378 := runsB_ok (by kernel_rfl)
theorem f337_ok (K : Nat) : Sound Tryz.prog 337 (f337M K) :=
  sound_fn (envOK (E := (f337E K)) tab_ok mixed_ok (AllOK.cons (f378_ok K) f378_runs AllOK.nil) AllP.nil AllN.nil) Tryz.func337 fun x => f337_run K x.1 x.2.1
theorem f337_runs : Runs Tryz.prog 337 := runsB_ok (by kernel_rfl)
theorem f266_ok (K : Nat) : Sound Tryz.prog 266 (f266M K) :=
  sound_fn (envOK (E := (f266E K)) tab_ok mixed_ok (AllOK.cons (f268_ok K) f268_runs (AllOK.cons (f280_ok K) f280_runs (AllOK.cons (f337_ok K) f337_runs (AllOK.cons (f338_ok K) f338_runs AllOK.nil)))) AllP.nil AllN.nil) Tryz.func266 fun x => f266_run K x.1 x.2.1
theorem f266_runs : Runs Tryz.prog 266 := runsB_ok (by kernel_rfl)
theorem f345_ok (K : Nat) : Sound Tryz.prog 345 (f345M K) :=
  sound_fn (envOK (E := (f345E K)) tab_ok mixed_ok AllOK.nil AllP.nil AllN.nil) Tryz.func345 fun x => f345_run K x.1 x.2.1
theorem f345_runs : Runs Tryz.prog 345 := runsB_ok (by kernel_rfl)
theorem f279_ok (K : Nat) : Sound Tryz.prog 279 (f279M K) :=
  sound_fn (envOK (E := (f279E K)) tab_ok mixed_ok (AllOK.cons (f345_ok K) f345_runs AllOK.nil) AllP.nil AllN.nil) Tryz.func279 fun x => f279_run K x.1 x.2.1
theorem f279_runs : Runs Tryz.prog 279 := runsB_ok (by kernel_rfl)
theorem f318_ok (K : Nat) : Sound Tryz.prog 318 (f318M K) :=
  sound_fn (envOK (E := (f318E K)) tab_ok mixed_ok AllOK.nil AllP.nil AllN.nil) Tryz.func318 fun x => f318_run K x.1 x.2.1
theorem f318_runs : Runs Tryz.prog 318 := runsB_ok (by kernel_rfl)
theorem f362_ok (K : Nat) : Sound Tryz.prog 362 (f362M K) :=
  sound_fn (envOK (E := (f362E K)) tab_ok mixed_ok (AllOK.cons (f318_ok K) f318_runs AllOK.nil) AllP.nil AllN.nil) Tryz.func362 fun x => f362_run K x.1 x.2.1
theorem f362_runs : Runs Tryz.prog 362 := runsB_ok (by kernel_rfl)
theorem f233_ok (K : Nat) : Sound Tryz.prog 233 (f233M K) :=
  sound_fn (envOK (E := (f233E K)) tab_ok mixed_ok (AllOK.cons (f318_ok K) f318_runs AllOK.nil) AllP.nil AllN.nil) Tryz.func233 fun x => f233_run K x.1 x.2.1
theorem f233_runs : Runs Tryz.prog 233 := runsB_ok (by kernel_rfl)
theorem f311_ok (K : Nat) : Sound Tryz.prog 311 (f311M K) :=
  sound_fn (envOK (E := (f311E K)) tab_ok mixed_ok (AllOK.cons (f233_ok K) f233_runs (AllOK.cons (f362_ok K) f362_runs AllOK.nil)) AllP.nil AllN.nil) Tryz.func311 fun x => f311_run K x.1 x.2.1
theorem f311_runs : Runs Tryz.prog 311 := runsB_ok (by kernel_rfl)
theorem f217_ok (K : Nat) : Sound Tryz.prog 217 (f217M K) :=
  sound_fn (envOK (E := (f217E K)) tab_ok mixed_ok AllOK.nil AllP.nil AllN.nil) Tryz.func217 fun x => f217_run K 
theorem f217_runs : Runs Tryz.prog 217 := runsB_ok (by kernel_rfl)
theorem f360_ok (K : Nat) : Sound Tryz.prog 360 (f360M K) :=
  sound_fn (envOK (E := (f360E K)) tab_ok mixed_ok AllOK.nil AllP.nil AllN.nil) Tryz.func360 fun x => f360_run K x.1 x.2.1
theorem f360_runs : Runs Tryz.prog 360 := runsB_ok (by kernel_rfl)
theorem f289_ok (K : Nat) : Sound Tryz.prog 289 (f289M K) :=
  sound_fn (envOK (E := (f289E K)) tab_ok mixed_ok AllOK.nil AllP.nil AllN.nil) Tryz.func289 fun x => f289_run K x.1 x.2.1
theorem f289_runs : Runs Tryz.prog 289 := runsB_ok (by kernel_rfl)
theorem f309_ok (K : Nat) : Sound Tryz.prog 309 (f309M K) :=
  sound_fn (envOK (E := (f309E K)) tab_ok mixed_ok (AllOK.cons (f282_ok K) f282_runs (AllOK.cons (f289_ok K) f289_runs (AllOK.cons (f360_ok K) f360_runs AllOK.nil))) AllP.nil AllN.nil) Tryz.func309 fun x => f309_run K x.1 x.2.1
theorem f309_runs : Runs Tryz.prog 309 := runsB_ok (by kernel_rfl)
theorem f308_ok (K : Nat) : Sound Tryz.prog 308 (f308M K) :=
  sound_fn (envOK (E := (f308E K)) tab_ok mixed_ok (AllOK.cons (f176_ok K) f176_runs AllOK.nil) AllP.nil AllN.nil) Tryz.func308 fun x => f308_run K x.1 x.2.1
theorem f308_runs : Runs Tryz.prog 308 := runsB_ok (by kernel_rfl)
theorem f298_ok (K : Nat) : Sound Tryz.prog 298 (f298M K) :=
  sound_fn (envOK (E := (f298E K)) tab_ok mixed_ok (AllOK.cons (f176_ok K) f176_runs (AllOK.cons (f217_ok K) f217_runs (AllOK.cons (f266_ok K) f266_runs (AllOK.cons (f279_ok K) f279_runs (AllOK.cons (f308_ok K) f308_runs (AllOK.cons (f309_ok K) f309_runs (AllOK.cons (f311_ok K) f311_runs AllOK.nil))))))) AllP.nil AllN.nil) Tryz.func298 fun x => f298_run K x.1 x.2.1 x.2.2.1
theorem f298_runs : Runs Tryz.prog 298 := runsB_ok (by kernel_rfl)
theorem f198_ok (K : Nat) : Sound Tryz.prog 198 (f198M K) :=
  sound_fn (envOK (E := (f198E K)) tab_ok mixed_ok (AllOK.cons (f186_ok K) f186_runs (AllOK.cons (f298_ok K) f298_runs AllOK.nil)) AllP.nil AllN.nil) Tryz.func198 fun x => f198_run K x.1 x.2.1 x.2.2.1
theorem f198_runs : Runs Tryz.prog 198 := runsB_ok (by kernel_rfl)
def f353_ren : Go.Shelf.Ren := ⟨fun | 212 => 353 | 263 => 381 | 264 => 382 | n => n, fun | 46 => 164 | 51 => 322 | 53 => 48 | 146 => 328 | 148 => 330 | n => n, fun n => n⟩
theorem f353_lays : Lays.n212 Tryz.prog f353_ren where
  mixed := by kernel_rfl
  f212 := Tryz.func353.trans (congrArg some (by kernel_rfl))
  f263 := Tryz.func381.trans (congrArg some (by kernel_rfl))
  f264 := Tryz.func382.trans (congrArg some (by kernel_rfl))
  t46 := Tryz.underlying164
  a46 := Tryz.isAgg164
  z46 := Tryz.sizeOf164
  v46 := Tryz.zeroValue164
  t51 := Tryz.underlying322
  a51 := Tryz.isAgg322
  z51 := Tryz.sizeOf322
  v51 := Tryz.zeroValue322
  t53 := Tryz.underlying48
  a53 := Tryz.isAgg48
  z53 := Tryz.sizeOf48
  v53 := Tryz.zeroValue48
  t146 := Tryz.underlying328
  a146 := Tryz.isAgg328
  z146 := Tryz.sizeOf328
  v146 := Tryz.zeroValue328
  t148 := Tryz.underlying330
  a148 := Tryz.isAgg330
  z148 := Tryz.sizeOf330
  v148 := Tryz.zeroValue330
theorem f353_ok (K : Nat) : Sound Tryz.prog 353 (f353M K) := mul_sound f353_lays rfl
theorem f353_runs : Runs Tryz.prog 353 := runsB_ok (by kernel_rfl)
theorem f294_ok (K : Nat) : Sound Tryz.prog 294 (f294M K) :=
  sound_fn (envOK (E := (f294E K)) tab_ok mixed_ok (AllOK.cons (f353_ok K) f353_runs AllOK.nil) AllP.nil AllN.nil) Tryz.func294 fun x => f294_run K x.1 x.2.1
theorem f294_runs : Runs Tryz.prog 294 := runsB_ok (by kernel_rfl)
theorem f185_ok (K : Nat) : Sound Tryz.prog 185 (f185M K) :=
  sound_fn (envOK (E := (f185E K)) tab_ok mixed_ok AllOK.nil AllP.nil AllN.nil) Tryz.func185 fun x => f185_run K x.1
theorem f185_runs : Runs Tryz.prog 185 := runsB_ok (by kernel_rfl)
theorem f163_ok (K : Nat) : Sound Tryz.prog 163 (f163M K) :=
  sound_fn (envOK (E := (f163E K)) tab_ok mixed_ok AllOK.nil AllP.nil AllN.nil) Tryz.func163 fun x => f163_run K x.1 x.2.1
theorem f163_runs : Runs Tryz.prog 163 := runsB_ok (by kernel_rfl)
theorem f174_ok (K : Nat) : Sound Tryz.prog 174 (f174M K) :=
  sound_fn (envOK (E := (f174E K)) tab_ok mixed_ok (AllOK.cons (f282_ok K) f282_runs (AllOK.cons (f289_ok K) f289_runs AllOK.nil)) AllP.nil AllN.nil) Tryz.func174 fun x => f174_run K x.1 x.2.1
theorem f174_runs : Runs Tryz.prog 174 := runsB_ok (by kernel_rfl)
theorem f188_ok (K : Nat) : Sound Tryz.prog 188 (f188M K) :=
  sound_fn (envOK (E := (f188E K)) tab_ok mixed_ok (AllOK.cons (f174_ok K) f174_runs (AllOK.cons (f176_ok K) f176_runs AllOK.nil)) AllP.nil AllN.nil) Tryz.func188 fun x => f188_run K x.1 x.2.1 x.2.2.1
theorem f188_runs : Runs Tryz.prog 188 := runsB_ok (by kernel_rfl)
def f232_ren : Go.Shelf.Ren := ⟨fun | 6 => 232 | 14 => 316 | 15 => 317 | 20 => 364 | 21 => 365 | 22 => 366 | 23 => 367 | 24 => 368 | 25 => 369 | 26 => 370 | 27 => 371 | 28 => 372 | 29 => 373 | 46 => 394 | 47 => 395 | 48 => 396 | 49 => 397 | 50 => 398 | 57 => 402 | n => n, fun | 0 => 0 | 3 => 3 | 4 => 4 | 5 => 5 | 9 => 9 | 22 => 58 | 24 => 55 | 25 => 218 | 39 => 164 | 45 => 314 | 46 => 315 | 50 => 319 | 53 => 322 | 55 => 48 | 66 => 337 | 70 => 341 | 76 => 345 | 77 => 346 | n => n, fun n => n⟩
theorem f232_lays : SlLaysF0.n6 Tryz.prog f232_ren where
  mixed := by kernel_rfl
  f6 := ⟨ "slices.SortFunc[[]loop.example/g00943/impl.Vec,loop.example/g00943/impl.Vec]", by decide, Tryz.func232.trans (congrArg some (by kernel_rfl))⟩
  f14 := ⟨ "slices.pdqsortCmpFunc[loop.example/g00943/impl.Vec]", by decide, Tryz.func316.trans (congrArg some (by kernel_rfl))⟩
  f15 := Tryz.func317.trans (congrArg some (by kernel_rfl))
  f20 := ⟨ "slices.insertionSortCmpFunc[loop.example/g00943/impl.Vec]", by decide, Tryz.func364.trans (congrArg some (by kernel_rfl))⟩
  f21 := ⟨ "slices.heapSortCmpFunc[loop.example/g00943/impl.Vec]", by decide, Tryz.func365.trans (congrArg some (by kernel_rfl))⟩
  f22 := ⟨ "slices.breakPatternsCmpFunc[loop.example/g00943/impl.Vec]", by decide, Tryz.func366.trans (congrArg some (by kernel_rfl))⟩
  f23 := ⟨ "slices.choosePivotCmpFunc[loop.example/g00943/impl.Vec]", by decide, Tryz.func367.trans (congrArg some (by kernel_rfl))⟩
  f24 := ⟨ "slices.reverseRangeCmpFunc[loop.example/g00943/impl.Vec]", by decide, Tryz.func368.trans (congrArg some (by kernel_rfl))⟩
  f25 := ⟨ "slices.partialInsertionSortCmpFunc[loop.example/g00943/impl.Vec]", by decide, Tryz.func369.trans (congrArg some (by kernel_rfl))⟩
  f26 := ⟨ "slices.partitionEqualCmpFunc[loop.example/g00943/impl.Vec]", by decide, Tryz.func370.trans (congrArg some (by kernel_rfl))⟩
  f27 := ⟨ "slices.partitionCmpFunc[loop.example/g00943/impl.Vec]", by decide, Tryz.func371.trans (congrArg some (by kernel_rfl))⟩
  f28 := Tryz.func372.trans (congrArg some (by kernel_rfl))
  f29 := Tryz.func373.trans (congrArg some (by kernel_rfl))
  f46 := ⟨ "slices.siftDownCmpFunc[loop.example/g00943/impl.Vec]", by decide, Tryz.func394.trans (congrArg some (by kernel_rfl))⟩
  f47 := Tryz.func395.trans (congrArg some (by kernel_rfl))
  f48 := Tryz.func396.trans (congrArg some (by kernel_rfl))
  f49 := ⟨ "slices.medianAdjacentCmpFunc[loop.example/g00943/impl.Vec]", by decide, Tryz.func397.trans (congrArg some (by kernel_rfl))⟩
  f50 := ⟨ "slices.medianCmpFunc[loop.example/g00943/impl.Vec]", by decide, Tryz.func398.trans (congrArg some (by kernel_rfl))⟩
  f57 := ⟨ "slices.order2CmpFunc[loop.example/g00943/impl.Vec]", by decide, Tryz.func402.trans (congrArg some (by kernel_rfl))⟩
  t0 := Tryz.underlying0
  a0 := Tryz.isAgg0
  z0 := Tryz.sizeOf0
  v0 := Tryz.zeroValue0
  t3 := Tryz.underlying3
  a3 := Tryz.isAgg3
  z3 := Tryz.sizeOf3
  v3 := Tryz.zeroValue3
  t4 := Tryz.underlying4
  a4 := Tryz.isAgg4
  z4 := Tryz.sizeOf4
  v4 := Tryz.zeroValue4
  t5 := Tryz.underlying5
  a5 := Tryz.isAgg5
  z5 := Tryz.sizeOf5
  v5 := Tryz.zeroValue5
  t9 := Tryz.underlying9
  a9 := Tryz.isAgg9
  z9 := Tryz.sizeOf9
  v9 := Tryz.zeroValue9
  t22 := Tryz.underlying58
  a22 := Tryz.isAgg58
  z22 := Tryz.sizeOf58
  v22 := Tryz.zeroValue58
  t25 := Tryz.underlying218
  a25 := Tryz.isAgg218
  z25 := Tryz.sizeOf218
  v25 := Tryz.zeroValue218
  t39 := Tryz.underlying164
  a39 := Tryz.isAgg164
  z39 := Tryz.sizeOf164
  v39 := Tryz.zeroValue164
  t45 := Tryz.underlying314
  a45 := Tryz.isAgg314
  z45 := Tryz.sizeOf314
  v45 := Tryz.zeroValue314
  t46 := Tryz.underlying315
  a46 := Tryz.isAgg315
  z46 := Tryz.sizeOf315
  v46 := Tryz.zeroValue315
  t50 := Tryz.underlying319
  a50 := Tryz.isAgg319
  z50 := Tryz.sizeOf319
  v50 := Tryz.zeroValue319
  t53 := Tryz.underlying322
  a53 := Tryz.isAgg322
  z53 := Tryz.sizeOf322
  v53 := Tryz.zeroValue322
  t55 := Tryz.underlying48
  a55 := Tryz.isAgg48
  z55 := Tryz.sizeOf48
  v55 := Tryz.zeroValue48
  t66 := Tryz.underlying337
  a66 := Tryz.isAgg337
  z66 := Tryz.sizeOf337
  v66 := Tryz.zeroValue337
  t70 := Tryz.underlying341
  a70 := Tryz.isAgg341
  z70 := Tryz.sizeOf341
  v70 := Tryz.zeroValue341
  t76 := Tryz.underlying345
  a76 := Tryz.isAgg345
  z76 := Tryz.sizeOf345
  v76 := Tryz.zeroValue345
  t77 := Tryz.underlying346
  a77 := Tryz.isAgg346
  z77 := Tryz.sizeOf346
  v77 := Tryz.zeroValue346
theorem f232_ok (K : Nat) : Sound Tryz.prog 232 (f232M K) := sort_sound (e := 55) (s := (.cons (.int .i64) (.int .i64))) f232_lays rfl rfl rfl Tryz.isAgg55 Tryz.sizeOf55
theorem f232_runs : Runs Tryz.prog 232 := runsB_ok (by kernel_rfl)
theorem f297_ok (K : Nat) : Sound Tryz.prog 297 (f297M K) :=
  sound_fn (envOK (E := (f297E K)) tab_ok mixed_ok AllOK.nil AllP.nil AllN.nil) Tryz.func297 fun x => f297_run K x.1
theorem f297_runs : Runs Tryz.prog 297 := runsB_ok (by kernel_rfl)
theorem f192_ok (K : Nat) : Sound Tryz.prog 192 (f192M K) :=
  sound_fn (envOK (E := (f192E K)) tab_ok mixed_ok (AllOK.cons (f188_ok K) f188_runs (AllOK.cons (f232_ok K) f232_runs (AllOK.cons (f233_ok K) f233_runs (AllOK.cons (f297_ok K) f297_runs AllOK.nil)))) AllP.nil AllN.nil) Tryz.func192 fun x => f192_run K x.1 x.2.1 x.2.2.1
theorem f192_runs : Runs Tryz.prog 192 := runsB_ok (by kernel_rfl)
theorem f180_ok (K : Nat) : Sound Tryz.prog 180 (f180M K) :=
  sound_fn (envOK (E := (f180E K)) tab_ok mixed_ok (AllOK.cons (f133_ok K) f133_runs (AllOK.cons (f163_ok K) f163_runs (AllOK.cons (f185_ok K) f185_runs (AllOK.cons (f192_ok K) f192_runs (AllOK.cons (f294_ok K) f294_runs AllOK.nil))))) AllP.nil AllN.nil) Tryz.func180 fun x => f180_run K x.1 x.2.1
theorem f180_runs : Runs Tryz.prog 180 := runsB_ok (by kernel_rfl)
theorem f314_ok (K : Nat) : Sound Tryz.prog 314 (f314M K) :=
  sound_fn (envOK (E := (f314E K)) tab_ok mixed_ok AllOK.nil AllP.nil AllN.nil) Tryz.func314 fun x => f314_run K x.1 x.2.1
theorem f314_runs : Runs Tryz.prog 314 := runsB_ok (by kernel_rfl)
theorem f322_ok (K : Nat) : Sound Tryz.prog 322 (f322M K) :=
  sound_fn (envOK (E := (f322E K)) tab_ok mixed_ok AllOK.nil AllP.nil AllN.nil) Tryz.func322 fun x => f322_run K x.1 x.2.1
theorem f322_runs : Runs Tryz.prog 322 := runsB_ok (by kernel_rfl)
theorem f313_ok (K : Nat) : Sound Tryz.prog 313 (f313M K) :=
  sound_fn (envOK (E := (f313E K)) tab_ok mixed_ok (AllOK.cons (f322_ok K) f322_runs AllOK.nil) AllP.nil AllN.nil) Tryz.func313 fun x => f313_run K x.1 x.2.1
theorem f313_runs : Runs Tryz.prog 313 := runsB_ok (by kernel_rfl)
theorem f224_ok (K : Nat) : Sound Tryz.prog 224 (f224M K) :=
  sound_fn (envOK (E := (f224E K)) tab_ok mixed_ok (AllOK.cons (f180_ok K) f180_runs (AllOK.cons (f198_ok K) f198_runs (AllOK.cons (f313_ok K) f313_runs (AllOK.cons (f314_ok K) f314_runs AllOK.nil)))) AllP.nil AllN.nil) Tryz.func224 fun x => f224_run K x.1 x.2.1 x.2.2.1
theorem f224_runs : Runs Tryz.prog 224 := runsB_ok (by kernel_rfl)
theorem f227_ok (K : Nat) : Sound Tryz.prog 227 (f227M K) :=
  sound_fn (envOK (E := (f227E K)) tab_ok mixed_ok (AllOK.cons (f289_ok K) f289_runs AllOK.nil) AllP.nil AllN.nil) Tryz.func227 fun x => f227_run K x.1
theorem f227_runs : Runs Tryz.prog 227 := runsB_ok (by kernel_rfl)
theorem f169_ok (K : Nat) : Sound Tryz.prog 169 (f169M K) :=
  sound_fn (envOK (E := (f169E K)) tab_ok mixed_ok AllOK.nil AllP.nil AllN.nil) Tryz.func169 fun x => f169_run K x.1 x.2.1
theorem f169_runs : Runs Tryz.prog 169 := runsB_ok (by kernel_rfl)
theorem f229_ok (K : Nat) : Sound Tryz.prog 229 (f229M K) :=
  sound_fn (envOK (E := (f229E K)) tab_ok mixed_ok (AllOK.cons (f169_ok K) f169_runs AllOK.nil) AllP.nil AllN.nil) Tryz.func229 fun x => f229_run K x.1 x.2.1
theorem f229_runs : Runs Tryz.prog 229 := runsB_ok (by kernel_rfl)
theorem f228_ok (K : Nat) : Sound Tryz.prog 228 (f228M K) :=
  sound_fn (envOK (E := (f228E K)) tab_ok mixed_ok (AllOK.cons (f229_ok K) f229_runs AllOK.nil) AllP.nil AllN.nil) Tryz.func228 fun x => f228_run K x.1 x.2.1
theorem f228_runs : Runs Tryz.prog 228 := runsB_ok (by kernel_rfl)
theorem f231_ok (K : Nat) : Sound Tryz.prog 231 (f231M K) :=
  sound_fn (envOK (E := (f231E K)) tab_ok mixed_ok AllOK.nil AllP.nil AllN.nil) Tryz.func231 fun x => f231_run K x.1 x.2.1
theorem f231_runs : Runs Tryz.prog 231 := runsB_ok (by kernel_rfl)
theorem f226_ok (K : Nat) : Sound Tryz.prog 226 (f226M K) :=
  sound_fn (envOK (E := (f226E K)) tab_ok mixed_ok (AllOK.cons (f231_ok K) f231_runs AllOK.nil) AllP.nil AllN.nil) Tryz.func226 fun x => f226_run K x.1 x.2.1
theorem f226_runs : Runs Tryz.prog 226 := runsB_ok (by kernel_rfl)
theorem f315_ok (K : Nat) : Sound Tryz.prog 315 (f315M K) :=
  sound_fn (envOK (E := (f315E K)) tab_ok mixed_ok AllOK.nil AllP.nil AllN.nil) Tryz.func315 fun x => f315_run K x.1 x.2.1
theorem f315_runs : Runs Tryz.prog 315 := runsB_ok (by kernel_rfl)
theorem f230_ok (K : Nat) : Sound Tryz.prog 230 (f230M K) :=
  sound_fn (envOK (E := (f230E K)) tab_ok mixed_ok (AllOK.cons (f315_ok K) f315_runs AllOK.nil) AllP.nil AllN.nil) Tryz.func230 fun x => f230_run K x.1 x.2.1
theorem f230_runs : Runs Tryz.prog 230 := runsB_ok (by kernel_rfl)
theorem f225_ok (K : Nat) : Sound Tryz.prog 225 (f225M K) :=
  sound_fn (envOK (E := (f225E K)) tab_ok mixed_ok (AllOK.cons (f163_ok K) f163_runs (AllOK.cons (f226_ok K) f226_runs (AllOK.cons (f227_ok K) f227_runs (AllOK.cons (f228_ok K) f228_runs (AllOK.cons (f230_ok K) f230_runs AllOK.nil))))) AllP.nil AllN.nil) Tryz.func225 fun x => f225_run K x.1 x.2.1 x.2.2.1 x.2.2.2.1 x.2.2.2.2.1
theorem f225_runs : Runs Tryz.prog 225 := runsB_ok (by kernel_rfl)
theorem f106_ok (K : Nat) : Sound Tryz.prog 106 (f106M K) :=
  sound_fn (envOK (E := (f106E K)) tab_ok mixed_ok (AllOK.cons (f180_ok K) f180_runs (AllOK.cons (f185_ok K) f185_runs (AllOK.cons (f224_ok K) f224_runs (AllOK.cons (f225_ok K) f225_runs (AllOK.cons (f231_ok K) f231_runs (AllOK.cons (f232_ok K) f232_runs (AllOK.cons (f233_ok K) f233_runs AllOK.nil))))))) AllP.nil AllN.nil) Tryz.func106 fun x => f106_run K x.1 x.2.1 x.2.2.1
theorem f106_runs : Runs Tryz.prog 106 := runsB_ok (by kernel_rfl)
theorem f254_ok (K : Nat) : Sound Tryz.prog 254 (f254M K) :=
  sound_fn (envOK (E := (f254E K)) tab_ok mixed_ok (AllOK.cons (f195_ok K) f195_runs AllOK.nil) AllP.nil AllN.nil) Tryz.func254 fun x => f254_run K x.1
theorem f254_runs : Runs Tryz.prog 254 := runsB_ok (by kernel_rfl)
theorem f384_ok (K : Nat) : Sound Tryz.prog 384 (f384M K) :=
  sound_fn (envOK (E := (f384E K)) tab_ok mixed_ok (AllOK.cons (f254_ok K) f254_runs AllOK.nil) AllP.nil AllN.nil) Tryz.func384 fun x => f384_run K x.1
theorem f384_runs : Runs Tryz.prog 384 := runsB_ok (by kernel_rfl)
theorem f132_ok (K : Nat) : Sound Tryz.prog 132 (f132M K) :=
  sound_fn (envOK (E := (f132E K)) tab_ok mixed_ok AllOK.nil AllP.nil AllN.nil) Tryz.func132 fun x => f132_run K x.1
theorem f132_runs : Runs Tryz.prog 132 := runsB_ok (by kernel_rfl)
theorem f358_ok (K : Nat) : Sound Tryz.prog 358 (f358M K) :=
  sound_fn (envOK (E := (f358E K)) tab_ok mixed_ok (AllOK.cons (f132_ok K) f132_runs (AllOK.cons (f384_ok K) f384_runs AllOK.nil)) AllP.nil AllN.nil) Tryz.func358 fun x => f358_run K x.1
theorem f358_runs : Runs Tryz.prog 358 := runsB_ok (by kernel_rfl)
theorem f302_ok (K : Nat) : Sound Tryz.prog 302 (f302M K) :=
  sound_fn (envOK (E := (f302E K)) tab_ok mixed_ok (AllOK.cons (f306_ok K) f306_runs (AllOK.cons (f358_ok K) f358_runs (AllOK.cons (f359_ok K) f359_runs AllOK.nil))) AllP.nil AllN.nil) Tryz.func302 fun x => f302_run K x.1 x.2.1
theorem f302_runs : Runs Tryz.prog 302 := runsB_ok (by kernel_rfl)
theorem f210_ok (K : Nat) : Sound Tryz.prog 210 (f210M K) :=
  sound_fn (envOK (E := (f210E K)) tab_ok mixed_ok (AllOK.cons (f215_ok K) f215_runs (AllOK.cons (f254_ok K) f254_runs (AllOK.cons (f302_ok K) f302_runs (AllOK.cons (f303_ok K) f303_runs AllOK.nil)))) AllP.nil AllN.nil) Tryz.func210 fun x => f210_run K x.1 x.2.1 x.2.2.1
theorem f210_runs : Runs Tryz.prog 210 := runsB_ok (by kernel_rfl)
theorem f148_ok (K : Nat) : Sound Tryz.prog 148 (f148M K) :=
  sound_fn (envOK (E := (f148E K)) tab_ok mixed_ok (AllOK.cons (f141_ok K) f141_runs (AllOK.cons (f210_ok K) f210_runs (AllOK.cons (f215_ok K) f215_runs (AllOK.cons (f273_ok K) f273_runs (AllOK.cons (f274_ok K) f274_runs (AllOK.cons (f275_ok K) f275_runs (AllOK.cons (f276_ok K) f276_runs AllOK.nil))))))) AllP.nil AllN.nil) Tryz.func148 fun x => f148_run K x.1 x.2.1 x.2.2.1
theorem f148_runs : Runs Tryz.prog 148 := runsB_ok (by kernel_rfl)
theorem f209_ok (K : Nat) : Sound Tryz.prog 209 (f209M K) :=
  sound_fn (envOK (E := (f209E K)) tab_ok mixed_ok (AllOK.cons (f215_ok K) f215_runs AllOK.nil) AllP.nil AllN.nil) Tryz.func209 fun x => f209_run K x.1 x.2.1 x.2.2.1
theorem f209_runs : Runs Tryz.prog 209 := runsB_ok (by kernel_rfl)
theorem f181_ok (K : Nat) : Sound Tryz.prog 181 (f181M K) :=
  sound_fn (envOK (E := (f181E K)) tab_ok mixed_ok (AllOK.cons (f148_ok K) f148_runs (AllOK.cons (f209_ok K) f209_runs AllOK.nil)) AllP.nil AllN.nil) Tryz.func181 fun x => f181_run K x.1 x.2.1 x.2.2.1 x.2.2.2.1
theorem f181_runs : Runs Tryz.prog 181 := runsB_ok (by kernel_rfl)
theorem f149_ok (K : Nat) : Sound Tryz.prog 149 (f149M K) :=
  sound_fn (envOK (E := (f149E K)) tab_ok mixed_ok AllOK.nil AllP.nil AllN.nil) Tryz.func149 fun x => f149_run K x.1
theorem f149_runs : Runs Tryz.prog 149 := runsB_ok (by kernel_rfl)
theorem f151_ok (K : Nat) : Sound Tryz.prog 151 (f151M K) :=
  sound_fn (envOK (E := (f151E K)) tab_ok mixed_ok (AllOK.cons (f277_ok K) f277_runs (AllOK.cons (f278_ok K) f278_runs AllOK.nil)) AllP.nil AllN.nil) Tryz.func151 fun x => f151_run K x.1 x.2.1
theorem f151_runs : Runs Tryz.prog 151 := runsB_ok (by kernel_rfl)
theorem f171_ok (K : Nat) : Sound Tryz.prog 171 (f171M K) :=
  sound_fn (envOK (E := (f171E K)) tab_ok mixed_ok (AllOK.cons (f151_ok K) f151_runs (AllOK.cons (f250_ok K) f250_runs AllOK.nil)) AllP.nil AllN.nil) Tryz.func171 fun x => f171_run K x.1 x.2.1 x.2.2.1
theorem f171_runs : Runs Tryz.prog 171 := runsB_ok (by kernel_rfl)
theorem f236_ok (K : Nat) : Sound Tryz.prog 236 (f236M K) :=
  sound_fn (envOK (E := (f236E K)) tab_ok mixed_ok (AllOK.cons (f320_ok K) f320_runs AllOK.nil) AllP.nil AllN.nil) Tryz.func236 fun x => f236_run K x.1 x.2.1
theorem f236_runs : Runs Tryz.prog 236 := runsB_ok (by kernel_rfl)
theorem f193_ok (K : Nat) : Sound Tryz.prog 193 (f193M K) :=
  sound_fn (envOK (E := (f193E K)) tab_ok mixed_ok (AllOK.cons (f171_ok K) f171_runs (AllOK.cons (f236_ok K) f236_runs AllOK.nil)) AllP.nil AllN.nil) Tryz.func193 fun x => f193_run K x.1 x.2.1 x.2.2.1
theorem f193_runs : Runs Tryz.prog 193 := runsB_ok (by kernel_rfl)
theorem f182_ok (K : Nat) : Sound Tryz.prog 182 (f182M K) :=
  sound_fn (envOK (E := (f182E K)) tab_ok mixed_ok (AllOK.cons (f149_ok K) f149_runs (AllOK.cons (f193_ok K) f193_runs AllOK.nil)) AllP.nil AllN.nil) Tryz.func182 fun x => f182_run K x.1 x.2.1
theorem f182_runs : Runs Tryz.prog 182 := runsB_ok (by kernel_rfl)
theorem f234_ok (K : Nat) : Sound Tryz.prog 234 (f234M K) :=
  sound_fn (envOK (E := (f234E K)) tab_ok mixed_ok (AllOK.cons (f181_ok K) f181_runs (AllOK.cons (f182_ok K) f182_runs AllOK.nil)) AllP.nil AllN.nil) Tryz.func234 fun x => f234_run K x.1 x.2.1 x.2.2.1
theorem f234_runs : Runs Tryz.prog 234 := runsB_ok (by kernel_rfl)
theorem f150_ok (K : Nat) : Sound Tryz.prog 150 (f150M K) :=
  sound_fn (envOK (E := (f150E K)) tab_ok mixed_ok (AllOK.cons (f250_ok K) f250_runs AllOK.nil) AllP.nil AllN.nil) Tryz.func150 fun x => f150_run K x.1 x.2.1
theorem f150_runs : Runs Tryz.prog 150 := runsB_ok (by kernel_rfl)
theorem f183_ok (K : Nat) : Sound Tryz.prog 183 (f183M K) :=
  sound_fn (envOK (E := (f183E K)) tab_ok mixed_ok (AllOK.cons (f150_ok K) f150_runs (AllOK.cons (f182_ok K) f182_runs AllOK.nil)) AllP.nil AllN.nil) Tryz.func183 fun x => f183_run K x.1 x.2.1
theorem f183_runs : Runs Tryz.prog 183 := runsB_ok (by kernel_rfl)
theorem f319_ok (K : Nat) : Sound Tryz.prog 319 (f319M K) :=
  sound_fn (envOK (E := (f319E K)) tab_ok mixed_ok AllOK.nil AllP.nil AllN.nil) Tryz.func319 fun x => f319_run K 
theorem f319_runs : Runs Tryz.prog 319 := runsB_ok (by kernel_rfl)
theorem f235_ok (K : Nat) : Sound Tryz.prog 235 (f235M K) :=
  sound_fn (envOK (E := (f235E K)) tab_ok mixed_ok (AllOK.cons (f149_ok K) f149_runs (AllOK.cons (f150_ok K) f150_runs (AllOK.cons (f277_ok K) f277_runs (AllOK.cons (f319_ok K) f319_runs AllOK.nil)))) AllP.nil AllN.nil) Tryz.func235 fun x => f235_run K x.1 x.2.1 x.2.2.1
theorem f235_runs : Runs Tryz.prog 235 := runsB_ok (by kernel_rfl)
theorem f107_ok (K : Nat) : Sound Tryz.prog 107 (f107M K) :=
  sound_fn (envOK (E := (f107E K)) tab_ok mixed_ok (AllOK.cons (f183_ok K) f183_runs (AllOK.cons (f234_ok K) f234_runs (AllOK.cons (f235_ok K) f235_runs (AllOK.cons (f236_ok K) f236_runs AllOK.nil)))) AllP.nil AllN.nil) Tryz.func107 fun x => f107_run K x.1 x.2.1 x.2.2.1
theorem f107_runs : Runs Tryz.prog 107 := runsB_ok (by kernel_rfl)
theorem f108_ok (K : Nat) : Sound Tryz.prog 108 (f108M K) :=
  sound_fn (envOK (E := (f108E K)) tab_ok mixed_ok (AllOK.cons (f224_ok K) f224_runs AllOK.nil) AllP.nil AllN.nil) Tryz.func108 fun x => f108_run K x.1 x.2.1 x.2.2.1
theorem f108_runs : Runs Tryz.prog 108 := runsB_ok (by kernel_rfl)
theorem f109_ok (K : Nat) : Sound Tryz.prog 109 (f109M K) :=
  sound_fn (envOK (E := (f109E K)) tab_ok mixed_ok (AllOK.cons (f234_ok K) f234_runs AllOK.nil) AllP.nil AllN.nil) Tryz.func109 fun x => f109_run K x.1 x.2.1 x.2.2.1
theorem f109_runs : Runs Tryz.prog 109 := runsB_ok (by kernel_rfl)
theorem f92_ok (K : Nat) : Sound Tryz.prog 92 (f92M K) :=
  sound_fn (envOK (E := (f92E K)) tab_ok mixed_ok AllOK.nil AllP.nil AllN.nil) Tryz.func92 fun x => f92_run K x.1 x.2.1
theorem f92_runs : Runs Tryz.prog 92 := runsB_ok (by kernel_rfl)
theorem f281_ok (K : Nat) : Sound Tryz.prog 281 (f281M K) :=
  sound_fn (envOK (E := (f281E K)) tab_ok mixed_ok (AllOK.cons (f194_ok K) f194_runs AllOK.nil) AllP.nil AllN.nil) Tryz.func281 fun x => f281_run K x.1
theorem f281_runs : Runs Tryz.prog 281 := runsB_ok (by kernel_rfl)
theorem f156_ok (K : Nat) : Sound Tryz.prog 156 (f156M K) :=
  sound_fn (envOK (E := (f156E K)) tab_ok mixed_ok (AllOK.cons (f281_ok K) f281_runs AllOK.nil) AllP.nil AllN.nil) Tryz.func156 fun x => f156_run K x.1
theorem f156_runs : Runs Tryz.prog 156 := runsB_ok (by kernel_rfl)
theorem f237_ok (K : Nat) : Sound Tryz.prog 237 (f237M K) :=
  sound_fn (envOK (E := (f237E K)) tab_ok mixed_ok (AllOK.cons (f156_ok K) f156_runs (AllOK.cons (f233_ok K) f233_runs AllOK.nil)) AllP.nil AllN.nil) Tryz.func237 fun x => f237_run K x.1
theorem f237_runs : Runs Tryz.prog 237 := runsB_ok (by kernel_rfl)
theorem f159_ok (K : Nat) : Sound Tryz.prog 159 (f159M K) :=
  sound_fn (envOK (E := (f159E K)) tab_ok mixed_ok (AllOK.cons (f186_ok K) f186_runs (AllOK.cons (f198_ok K) f198_runs (AllOK.cons (f237_ok K) f237_runs AllOK.nil))) AllP.nil AllN.nil) Tryz.func159 fun x => f159_run K x.1 x.2.1 x.2.2.1 x.2.2.2.1
theorem f159_runs : Runs Tryz.prog 159 := runsB_ok (by kernel_rfl)
theorem f162_ok (K : Nat) : Sound Tryz.prog 162 (f162M K) :=
  sound_fn (envOK (E := (f162E K)) tab_ok mixed_ok (AllOK.cons (f188_ok K) f188_runs AllOK.nil) AllP.nil AllN.nil) Tryz.func162 fun x => f162_run K x.1 x.2.1 x.2.2.1
theorem f162_runs : Runs Tryz.prog 162 := runsB_ok (by kernel_rfl)
theorem f160_ok (K : Nat) : Sound Tryz.prog 160 (f160M K) :=
  sound_fn (envOK (E := (f160E K)) tab_ok mixed_ok (AllOK.cons (f133_ok K) f133_runs (AllOK.cons (f162_ok K) f162_runs AllOK.nil)) AllP.nil AllN.nil) Tryz.func160 fun x => f160_run K x.1 x.2.1 x.2.2.1
theorem f160_runs : Runs Tryz.prog 160 := runsB_ok (by kernel_rfl)
theorem f39_ok (K : Nat) : Sound Tryz.prog 39 (f39M K) :=
  sound_fn (envOK (E := (f39E K)) tab_ok mixed_ok (AllOK.cons (f159_ok K) f159_runs (AllOK.cons (f160_ok K) f160_runs AllOK.nil)) AllP.nil AllN.nil) Tryz.func39 fun x => f39_run K x.1 x.2.1 x.2.2.1 x.2.2.2.1
theorem f39_runs : Runs Tryz.prog 39 := runsB_ok (by kernel_rfl)
theorem f168_ok (K : Nat) : Sound Tryz.prog 168 (f168M K) :=
  sound_fn (envOK (E := (f168E K)) tab_ok mixed_ok (AllOK.cons (f194_ok K) f194_runs AllOK.nil) AllP.nil AllN.nil) Tryz.func168 fun x => f168_run K x.1 x.2.1
theorem f168_runs : Runs Tryz.prog 168 := runsB_ok (by kernel_rfl)
theorem f293_ok (K : Nat) : Sound Tryz.prog 293 (f293M K) :=
  sound_fn (envOK (E := (f293E K)) tab_ok mixed_ok (AllOK.cons (f168_ok K) f168_runs AllOK.nil) AllP.nil AllN.nil) Tryz.func293 fun x => f293_run K x.1 x.2.1
theorem f293_runs : Runs Tryz.prog 293 := runsB_ok (by kernel_rfl)
theorem f179_ok (K : Nat) : Sound Tryz.prog 179 (f179M K) :=
  sound_fn (envOK (E := (f179E K)) tab_ok mixed_ok (AllOK.cons (f198_ok K) f198_runs (AllOK.cons (f226_ok K) f226_runs (AllOK.cons (f293_ok K) f293_runs AllOK.nil))) AllP.nil AllN.nil) Tryz.func179 fun x => f179_run K x.1 x.2.1 x.2.2.1 x.2.2.2.1
theorem f179_runs : Runs Tryz.prog 179 := runsB_ok (by kernel_rfl)
theorem f50_ok (K : Nat) : Sound Tryz.prog 50 (f50M K) :=
  sound_fn (envOK (E := (f50E K)) tab_ok mixed_ok (AllOK.cons (f179_ok K) f179_runs (AllOK.cons (f180_ok K) f180_runs AllOK.nil)) AllP.nil AllN.nil) Tryz.func50 fun x => f50_run K x.1 x.2.1 x.2.2.1
theorem f50_runs : Runs Tryz.prog 50 := runsB_ok (by kernel_rfl)
theorem f54_ok (K : Nat) : Sound Tryz.prog 54 (f54M K) :=
  sound_fn (envOK (E := (f54E K)) tab_ok mixed_ok (AllOK.cons (f50_ok K) f50_runs AllOK.nil) AllP.nil AllN.nil) Tryz.func54 fun x => f54_run K x.1 x.2.1 x.2.2.1
theorem f54_runs : Runs Tryz.prog 54 := runsB_ok (by kernel_rfl)
theorem f238_ok (K : Nat) : Sound Tryz.prog 238 (f238M K) :=
  sound_fn (envOK (E := (f238E K)) tab_ok mixed_ok (AllOK.cons (f227_ok K) f227_runs (AllOK.cons (f229_ok K) f229_runs AllOK.nil)) AllP.nil AllN.nil) Tryz.func238 fun x => f238_run K x.1
theorem f238_runs : Runs Tryz.prog 238 := runsB_ok (by kernel_rfl)
theorem f110_ok (K : Nat) : Sound Tryz.prog 110 (f110M K) :=
  sound_fn (envOK (E := (f110E K)) tab_ok mixed_ok (AllOK.cons (f237_ok K) f237_runs (AllOK.cons (f238_ok K) f238_runs AllOK.nil)) AllP.nil AllN.nil) Tryz.func110 fun x => f110_run K x.1
theorem f110_runs : Runs Tryz.prog 110 := runsB_ok (by kernel_rfl)
theorem f12_ok (K : Nat) : Sound Tryz.prog 12 (f12M K) :=
  sound_fn (envOK (E := (f12E K)) tab_ok mixed_ok (AllOK.cons (f14_ok K) f14_runs (AllOK.cons (f39_ok K) f39_runs (AllOK.cons (f54_ok K) f54_runs (AllOK.cons (f92_ok K) f92_runs (AllOK.cons (f105_ok K) f105_runs (AllOK.cons (f106_ok K) f106_runs (AllOK.cons (f107_ok K) f107_runs (AllOK.cons (f108_ok K) f108_runs (AllOK.cons (f109_ok K) f109_runs (AllOK.cons (f110_ok K) f110_runs AllOK.nil)))))))))) AllP.nil AllN.nil) Tryz.func12 fun x => f12_run K x.1
theorem f12_runs : Runs Tryz.prog 12 := runsB_ok (by kernel_rfl)
end Go.Proofs.YtniidcalfhhciaaGreat.X
